import Derived.Test.YtkfhnicojokafaaGreatSb4
/- No machine: what is handed back where something does not fit. -/
namespace Go.Proofs.YtkfhnicojokafaaGreat.Co
open Go.RowKit Go.Proofs.YtkfhnicojokafaaGreatW.PrintWords Go.Proofs.YtkfhnicojokafaaGreatW.PrintWords.Kd Go.Proofs.YtkfhnicojokafaaGreatW.PrintLast Go.Proofs.YtkfhnicojokafaaGreatW.PrintMore Go.Proofs.YtkfhnicojokafaaGreat.PMd Go.Proofs.YtkfhnicojokafaaGreat.Ln
set_option linter.unusedVariables false
set_option linter.unusedSimpArgs false
/-- No machine, and why. -/
def NoM (w w' : World) (k : Int) (e : Ending) : Prop := e = .returned (.tuple #[.pointer none, .int .i64 k]) ∧ Below w.heap.size w w'
set_option maxHeartbeats 16000000 in
set_option maxRecDepth 100000 in
theorem stmHeap0_ (c : Cf) (A : Option Addr) (cA : Nat) (heap : List Int) (w : World) (n : Int) (hB : InB c.f0 c.f1 c.f2 c.f3 c.f4 c.f5 c.f6 c.f7 c.f8 c.f9 c.f10 c.f11) (hwd : shape_Words.f c.f0 c.f1 c.f2 c.f3 c.f4 c.f5 c.f6 c.f7 c.f8 c.f9 c.f10 c.f11 = some n) (hne : (heap.length : Int) ≠ n) (T : Option Addr) (tn tc : Nat) :
    Calls Tryz.prog 8 #[.agg #[.int .i64 c.f0, .int .i64 c.f1, .int .i64 c.f2, .int .i64 c.f3, .int .i64 c.f4, .int .i64 c.f5, .int .i64 c.f6, .int .i64 c.f7, .int .i64 c.f8, .int .i64 c.f9, .int .i64 c.f10, .int .i64 c.f11], .slice A heap.length cA, .slice T tn tc] w fun e w' => NoM w w' 1 e := by
  have hu := Tryz.underlying23
  have HN := Aside0.mk (fun W => coreNew_bad2 c A cA heap W n (chk_yes hB) hwd hne)
  have HBA := Aside0.mk (below_alloc (Below.refl w.heap.size w) (.cells #[.int .i64 c.f0, .int .i64 c.f1, .int .i64 c.f2, .int .i64 c.f3, .int .i64 c.f4, .int .i64 c.f5, .int .i64 c.f6, .int .i64 c.f7, .int .i64 c.f8, .int .i64 c.f9, .int .i64 c.f10, .int .i64 c.f11] 23))
  clear hB hwd hne
  go_enter Tryz.func8, Tryz.ntmps8
  go_wp2_with fail
  refine (HN.out _).mono ?_
  rintro e w1 ⟨rfl, hb⟩
  have HB1 := Aside0.mk (below_then HBA.out HBA.out.size hb)
  clear hb
  go_wp2
  go_ret2
  exact ⟨rfl, HB1.out⟩
theorem stmHeap_ (c : Cf) (A : Option Addr) (cA hl : Nat) (w : World) (n : Int) (hB : InB c.f0 c.f1 c.f2 c.f3 c.f4 c.f5 c.f6 c.f7 c.f8 c.f9 c.f10 c.f11) (hwd : shape_Words.f c.f0 c.f1 c.f2 c.f3 c.f4 c.f5 c.f6 c.f7 c.f8 c.f9 c.f10 c.f11 = some n) (hne : (hl : Int) ≠ n) (T : Option Addr) (tn tc : Nat) :
    Calls Tryz.prog 8 #[.agg #[.int .i64 c.f0, .int .i64 c.f1, .int .i64 c.f2, .int .i64 c.f3, .int .i64 c.f4, .int .i64 c.f5, .int .i64 c.f6, .int .i64 c.f7, .int .i64 c.f8, .int .i64 c.f9, .int .i64 c.f10, .int .i64 c.f11], .slice A hl cA, .slice T tn tc] w fun e w' => NoM w w' 1 e := by
  obtain ⟨l, rfl⟩ : ∃ l : List Int, l.length = hl := ⟨List.replicate hl 0, by simp⟩
  exact stmHeap0_ c A cA l w n hB hwd hne T tn tc
set_option maxHeartbeats 16000000 in
set_option maxRecDepth 100000 in
theorem stmMany_ (c : Cf) (A : Option Addr) (cA : Nat) (heap : List Int) (w : World) (sz nd : Nat) (hr : Kd.C (Kd.int .i64) w A heap.length heap) (hc : heap.length ≤ cA) (hB : InB c.f0 c.f1 c.f2 c.f3 c.f4 c.f5 c.f6 c.f7 c.f8 c.f9 c.f10 c.f11)
    (hwd : shape_Words.f c.f0 c.f1 c.f2 c.f3 c.f4 c.f5 c.f6 c.f7 c.f8 c.f9 c.f10 c.f11 = some (heap.length : Int)) (hcl : shape_Cells.f c.f0 c.f1 c.f2 c.f3 c.f4 c.f5 c.f6 c.f7 c.f8 c.f9 c.f10 c.f11 = some (sz : Int)) (hnd : shape_Nodes.f c.f0 c.f1 c.f2 c.f3 c.f4 c.f5 c.f6 c.f7 c.f8 c.f9 c.f10 c.f11 = some (nd : Int)) (h0 : 0 < heap.length) (h1 : heap.length ≤ sz) (h2 : sz ≤ 65536) (n1 : 1 ≤ nd) (n2 : nd ≤ 10000) (T : Option Addr) (tn tc : Nat) (ht : c.f4 < (tn : Int)) :
    Calls Tryz.prog 8 #[.agg #[.int .i64 c.f0, .int .i64 c.f1, .int .i64 c.f2, .int .i64 c.f3, .int .i64 c.f4, .int .i64 c.f5, .int .i64 c.f6, .int .i64 c.f7, .int .i64 c.f8, .int .i64 c.f9, .int .i64 c.f10, .int .i64 c.f11], .slice A heap.length cA, .slice T tn tc] w fun e w' => NoM w w' 1 e := by
  have hu := Tryz.underlying23
  have hu2 := Tryz.underlying48
  have hu3 := Tryz.underlying45
  have hCK := chk_yes hB
  obtain ⟨-, -, -, -, b4, -, -, b7, b8, -, b10, -⟩ := hB
  have ba := below_alloc (Below.refl w.heap.size w) (.cells #[.int .i64 c.f0, .int .i64 c.f1, .int .i64 c.f2, .int .i64 c.f3, .int .i64 c.f4, .int .i64 c.f5, .int .i64 c.f6, .int .i64 c.f7, .int .i64 c.f8, .int .i64 c.f9, .int .i64 c.f10, .int .i64 c.f11] 23)
  have HN := Aside0.mk (coreNew_ tabMoves c A cA heap (w.alloc (.cells #[.int .i64 c.f0, .int .i64 c.f1, .int .i64 c.f2, .int .i64 c.f3, .int .i64 c.f4, .int .i64 c.f5, .int .i64 c.f6, .int .i64 c.f7, .int .i64 c.f8, .int .i64 c.f9, .int .i64 c.f10, .int .i64 c.f11] 23)) sz nd (Kd.C_below hr ba) hc hCK hwd hcl hnd h0 h1 h2 (tabNews nd c.f7 n1 n2 b7.1 b7.2) b10.1 b10.2 (by omega) (by omega))
  have HBA := Aside0.mk ba
  have BK := Aside0.mk (blk_new w (.cells #[.int .i64 c.f0, .int .i64 c.f1, .int .i64 c.f2, .int .i64 c.f3, .int .i64 c.f4, .int .i64 c.f5, .int .i64 c.f6, .int .i64 c.f7, .int .i64 c.f8, .int .i64 c.f9, .int .i64 c.f10, .int .i64 c.f11] 23))
  have HB4 := Aside0.mk b4
  clear hr hc hwd hcl hnd h0 h1 h2 n1 n2 b4 b7 b8 b10 hCK ba
  go_enter Tryz.func8, Tryz.ntmps8
  go_wp2_with fail
  refine HN.out.mono ?_
  rintro e w1 ⟨b, P, F, FT, rfl, hC, hT, hF, hFT, hb⟩
  have HB1 := Aside0.mk (below_then HBA.out HBA.out.size hb)
  have hk1 := (hb.block w.heap.size (by simp)).trans BK.out
  have HK1 := Aside0.mk hk1
  have x4 : w1.cell? ⟨w.heap.size, 4, none⟩ = some (.int .i64 c.f4) := (blk_cell hk1 4).trans rfl
  clear hC hT hF hFT hb hk1 HN
  go_wp2
  go_ret2
  exact ⟨rfl, HB1.out⟩
set_option maxHeartbeats 8000000 in
set_option maxRecDepth 100000 in
theorem containsT1_ (k xc tc x xo : Nat) (X : Option Addr) (w : World) (hx : w.cell? ⟨x, xo, none⟩ = some (.slice X k xc)) : Calls Tryz.prog 17 #[.slice (some ⟨x, xo, none⟩) 1 tc, .func (.func 18) #[] #[]] w fun e w' => e = .returned (.bool (decide (20 < k))) ∧ w' = w := by
  by_cases hk : 20 < k
  · have hd : decide (20 < k) = true := decide_eq_true hk
    have hd2 : decide ((20 : Int) < (k : Int)) = true := decide_eq_true (by omega)
    clear hk
    rw [hd]
    go_enter Tryz.func17, Tryz.ntmps17
    go_wp2_with fail
    go_enter Tryz.func33, Tryz.ntmps33
    go_wp2_with fail
    go_loop [8] (fun v => v = .int .i64 0) (fun _ => 0)
    case atStart => rfl
    case round =>
      obtain rfl := hrel
      go_wp2
      go_ret
      exact ⟨rfl, rfl⟩
  · have hd : decide (20 < k) = false := decide_eq_false hk
    have hd2 : decide ((20 : Int) < (k : Int)) = false := decide_eq_false (by omega)
    clear hk
    rw [hd]
    go_enter Tryz.func17, Tryz.ntmps17
    go_wp2_with fail
    go_enter Tryz.func33, Tryz.ntmps33
    go_wp2_with fail
    go_loopg [8] 1 (fun gg v wr => wr = w ∧ ((v = .int .i64 0 ∧ 1 ≤ gg) ∨ v = .int .i64 1))
    case atStart => exact ⟨rfl, .inl ⟨rfl, Nat.le_refl _⟩⟩
    case round =>
      obtain ⟨rfl, ⟨rfl, hg⟩ | rfl⟩ := hrel
      · go_wp2
        go_roundg 0
        case measure => omega
        case rel => exact ⟨rfl, .inr rfl⟩
      · go_wp2
        go_ret
        exact ⟨rfl, rfl⟩
set_option maxHeartbeats 16000000 in
set_option maxRecDepth 100000 in
theorem stmProgs_ (c : Cf) (A : Option Addr) (cA : Nat) (heap : List Int) (w : World) (sz nd : Nat) (hr : Kd.C (Kd.int .i64) w A heap.length heap) (hc : heap.length ≤ cA) (hB : InB c.f0 c.f1 c.f2 c.f3 c.f4 c.f5 c.f6 c.f7 c.f8 c.f9 c.f10 c.f11)
    (hwd : shape_Words.f c.f0 c.f1 c.f2 c.f3 c.f4 c.f5 c.f6 c.f7 c.f8 c.f9 c.f10 c.f11 = some (heap.length : Int)) (hcl : shape_Cells.f c.f0 c.f1 c.f2 c.f3 c.f4 c.f5 c.f6 c.f7 c.f8 c.f9 c.f10 c.f11 = some (sz : Int)) (hnd : shape_Nodes.f c.f0 c.f1 c.f2 c.f3 c.f4 c.f5 c.f6 c.f7 c.f8 c.f9 c.f10 c.f11 = some (nd : Int)) (h0 : 0 < heap.length) (h1 : heap.length ≤ sz) (h2 : sz ≤ 65536) (n1 : 1 ≤ nd) (n2 : nd ≤ 10000) (x xo k xc tc : Nat) (X : Option Addr) (hx : w.cell? ⟨x, xo, none⟩ = some (.slice X k xc)) (hk : 20 < k) :
    Calls Tryz.prog 8 #[.agg #[.int .i64 c.f0, .int .i64 c.f1, .int .i64 c.f2, .int .i64 c.f3, .int .i64 c.f4, .int .i64 c.f5, .int .i64 c.f6, .int .i64 c.f7, .int .i64 c.f8, .int .i64 c.f9, .int .i64 c.f10, .int .i64 c.f11], .slice A heap.length cA, .slice (some ⟨x, xo, none⟩) 1 tc] w fun e w' => NoM w w' 1 e := by
  have HX := Aside0.mk hx
  have HD := Aside0.mk (decide_eq_true hk)
  clear hx hk
  have hu := Tryz.underlying23
  have hu2 := Tryz.underlying48
  have hu3 := Tryz.underlying45
  have hCK := chk_yes hB
  obtain ⟨-, -, -, -, b4, -, -, b7, b8, -, b10, -⟩ := hB
  have ba := below_alloc (Below.refl w.heap.size w) (.cells #[.int .i64 c.f0, .int .i64 c.f1, .int .i64 c.f2, .int .i64 c.f3, .int .i64 c.f4, .int .i64 c.f5, .int .i64 c.f6, .int .i64 c.f7, .int .i64 c.f8, .int .i64 c.f9, .int .i64 c.f10, .int .i64 c.f11] 23)
  have HN := Aside0.mk (coreNew_ tabMoves c A cA heap (w.alloc (.cells #[.int .i64 c.f0, .int .i64 c.f1, .int .i64 c.f2, .int .i64 c.f3, .int .i64 c.f4, .int .i64 c.f5, .int .i64 c.f6, .int .i64 c.f7, .int .i64 c.f8, .int .i64 c.f9, .int .i64 c.f10, .int .i64 c.f11] 23)) sz nd (Kd.C_below hr ba) hc hCK hwd hcl hnd h0 h1 h2 (tabNews nd c.f7 n1 n2 b7.1 b7.2) b10.1 b10.2 (by omega) (by omega))
  have HBA := Aside0.mk ba
  have BK := Aside0.mk (blk_new w (.cells #[.int .i64 c.f0, .int .i64 c.f1, .int .i64 c.f2, .int .i64 c.f3, .int .i64 c.f4, .int .i64 c.f5, .int .i64 c.f6, .int .i64 c.f7, .int .i64 c.f8, .int .i64 c.f9, .int .i64 c.f10, .int .i64 c.f11] 23))
  have HB4 := Aside0.mk b4
  clear hr hc hwd hcl hnd h0 h1 h2 n1 n2 b4 b7 b8 b10 hCK ba
  go_enter Tryz.func8, Tryz.ntmps8
  go_wp2_with fail
  refine HN.out.mono ?_
  rintro e w1 ⟨b, P, F, FT, rfl, hC, hT, hF, hFT, hb⟩
  have HB1 := Aside0.mk (below_then HBA.out HBA.out.size hb)
  have hk1 := (hb.block w.heap.size (by simp)).trans BK.out
  have HK1 := Aside0.mk hk1
  have x4 : w1.cell? ⟨w.heap.size, 4, none⟩ = some (.int .i64 c.f4) := (blk_cell hk1 4).trans rfl
  clear hC hT hF hFT hb hk1 HN
  have hx1 := (HB1.out.cell (World.block_lt_of_cell? w _ HX.out)).trans HX.out
  have HCT := Aside0.mk (containsT1_ k xc tc x xo X w1 hx1)
  rw [HD.out] at HCT
  have t0 : decide (c.f4 < 1) = false := decide_eq_false (by have := HB4.out; omega)
  clear hx1
  go_wp2_with fail
  refine HCT.out.mono ?_
  rintro e w2 ⟨rfl, rfl⟩
  go_wp2
  go_ret2
  exact ⟨rfl, HB1.out⟩
set_option maxHeartbeats 16000000 in
set_option maxRecDepth 100000 in
theorem stmForm_ (c : Cf) (A : Option Addr) (cA : Nat) (heap : List Int) (w : World) (sz nd : Nat) (hr : Kd.C (Kd.int .i64) w A heap.length heap) (hc : heap.length ≤ cA) (hB : InB c.f0 c.f1 c.f2 c.f3 c.f4 c.f5 c.f6 c.f7 c.f8 c.f9 c.f10 c.f11)
    (hwd : shape_Words.f c.f0 c.f1 c.f2 c.f3 c.f4 c.f5 c.f6 c.f7 c.f8 c.f9 c.f10 c.f11 = some (heap.length : Int)) (hcl : shape_Cells.f c.f0 c.f1 c.f2 c.f3 c.f4 c.f5 c.f6 c.f7 c.f8 c.f9 c.f10 c.f11 = some (sz : Int)) (hnd : shape_Nodes.f c.f0 c.f1 c.f2 c.f3 c.f4 c.f5 c.f6 c.f7 c.f8 c.f9 c.f10 c.f11 = some (nd : Int)) (h0 : 0 < heap.length) (h1 : heap.length ≤ sz) (h2 : sz ≤ 65536) (n1 : 1 ≤ nd) (n2 : nd ≤ 10000) (x xo y z tc : Nat) (hx : w.cell? ⟨x, xo, none⟩ = some (.slice (some ⟨y, 0, none⟩) 1 1)) (hy : w.cell? ⟨y, 0, none⟩ = some (.slice (some ⟨z, 0, none⟩) 1 1))
    (hz : Kd.C k30 w (some ⟨z, 0, none⟩) 1 [⟨5, 0, 0, 0, []⟩]) (hck : prog_Check.f 9 c.f0 c.f1 c.f2 c.f3 c.f4 c.f5 c.f6 c.f7 c.f8 c.f9 c.f10 c.f11 [⟨5, 0, 0, 0, []⟩] = some 2) :
    Calls Tryz.prog 8 #[.agg #[.int .i64 c.f0, .int .i64 c.f1, .int .i64 c.f2, .int .i64 c.f3, .int .i64 c.f4, .int .i64 c.f5, .int .i64 c.f6, .int .i64 c.f7, .int .i64 c.f8, .int .i64 c.f9, .int .i64 c.f10, .int .i64 c.f11], .slice A heap.length cA, .slice (some ⟨x, xo, none⟩) 1 tc] w fun e w' => NoM w w' 2 e := by
  have HX := Aside0.mk (And.intro hx (And.intro hy hz))
  have HKC := Aside0.mk hck
  clear hx hy hz hck
  have hu := Tryz.underlying23
  have hu2 := Tryz.underlying48
  have hu3 := Tryz.underlying45
  have hCK := chk_yes hB
  obtain ⟨-, -, -, -, b4, -, -, b7, b8, -, b10, -⟩ := hB
  have ba := below_alloc (Below.refl w.heap.size w) (.cells #[.int .i64 c.f0, .int .i64 c.f1, .int .i64 c.f2, .int .i64 c.f3, .int .i64 c.f4, .int .i64 c.f5, .int .i64 c.f6, .int .i64 c.f7, .int .i64 c.f8, .int .i64 c.f9, .int .i64 c.f10, .int .i64 c.f11] 23)
  have HN := Aside0.mk (coreNew_ tabMoves c A cA heap (w.alloc (.cells #[.int .i64 c.f0, .int .i64 c.f1, .int .i64 c.f2, .int .i64 c.f3, .int .i64 c.f4, .int .i64 c.f5, .int .i64 c.f6, .int .i64 c.f7, .int .i64 c.f8, .int .i64 c.f9, .int .i64 c.f10, .int .i64 c.f11] 23)) sz nd (Kd.C_below hr ba) hc hCK hwd hcl hnd h0 h1 h2 (tabNews nd c.f7 n1 n2 b7.1 b7.2) b10.1 b10.2 (by omega) (by omega))
  have HBA := Aside0.mk ba
  have BK := Aside0.mk (blk_new w (.cells #[.int .i64 c.f0, .int .i64 c.f1, .int .i64 c.f2, .int .i64 c.f3, .int .i64 c.f4, .int .i64 c.f5, .int .i64 c.f6, .int .i64 c.f7, .int .i64 c.f8, .int .i64 c.f9, .int .i64 c.f10, .int .i64 c.f11] 23))
  have HB4 := Aside0.mk b4
  clear hr hc hwd hcl hnd h0 h1 h2 n1 n2 b4 b7 b8 b10 hCK ba
  go_enter Tryz.func8, Tryz.ntmps8
  go_wp2_with fail
  refine HN.out.mono ?_
  rintro e w1 ⟨b, P, F, FT, rfl, hC, hT, hF, hFT, hb⟩
  have HB1 := Aside0.mk (below_then HBA.out HBA.out.size hb)
  have hk1 := (hb.block w.heap.size (by simp)).trans BK.out
  have HK1 := Aside0.mk hk1
  have x4 : w1.cell? ⟨w.heap.size, 4, none⟩ = some (.int .i64 c.f4) := (blk_cell hk1 4).trans rfl
  clear hC hT hF hFT hb hk1 HN
  have hx1 := (HB1.out.cell (World.block_lt_of_cell? w _ HX.out.1)).trans HX.out.1
  have HCT := Aside0.mk (containsT1_ 1 1 tc x xo (some ⟨y, 0, none⟩) w1 hx1)
  have t0 : decide (c.f4 < 1) = false := decide_eq_false (by have := HB4.out; omega)
  have t3 : (0 : Int) < c.f4 := by have := HB4.out; omega
  have HX1 := Aside0.mk hx1
  clear hx1
  go_wp2_with fail
  refine HCT.out.mono ?_
  rintro e w2 ⟨rfl, rfl⟩
  clear t0 x4
  have bm := below_alloc (Below.refl w2.heap.size w2) (.cells #[.pointer (some ⟨b, 0, none⟩), .slice none 0 0] 48)
  have HBM := Aside0.mk (below_then HB1.out HB1.out.size bm)
  have HKM := Aside0.mk ((bm.block _ (Array.getElem?_eq_some_iff.1 HK1.out).1).trans HK1.out)
  have x4 : (w2.alloc (.cells #[.pointer (some ⟨b, 0, none⟩), .slice none 0 0] 48)).cell? ⟨w.heap.size, 4, none⟩ = some (.int .i64 c.f4) := (blk_cell HKM.out 4).trans rfl
  clear bm
  have hx2 := (HBM.out.cell (World.block_lt_of_cell? w _ HX.out.1)).trans HX.out.1
  have hy2 := (HBM.out.cell (World.block_lt_of_cell? w _ HX.out.2.1)).trans HX.out.2.1
  have HCHK := Aside0.mk (prog_Check.calls 9 c.f0 c.f1 c.f2 c.f3 c.f4 c.f5 c.f6 c.f7 c.f8 c.f9 c.f10 c.f11 (some ⟨z, 0, none⟩) 1 [⟨5, 0, 0, 0, []⟩] 2 _ (Kd.C_below HX.out.2.2 HBM.out) (Nat.le_refl _) HKC.out)
  go_wp2_with fail
  go_loop [41] (fun v => v = .int .i64 0) (fun _ => 0)
  case atStart => rfl
  case round =>
    obtain rfl := hrel
    go_wp2_with fail
    go_loop [54] (fun v => v = .int .i64 0) (fun _ => 0)
    case atStart => rfl
    case round =>
      obtain rfl := hrel
      obtain ⟨y0, y1, y2, y3, y4, y5, y6, y7, y8, y9, y10, y11⟩ : (w2.alloc (.cells #[.pointer (some ⟨b, 0, none⟩), .slice none 0 0] 48)).cell? ⟨w.heap.size, 0, none⟩ = some (.int .i64 c.f0) ∧ (w2.alloc (.cells #[.pointer (some ⟨b, 0, none⟩), .slice none 0 0] 48)).cell? ⟨w.heap.size, 1, none⟩ = some (.int .i64 c.f1) ∧ (w2.alloc (.cells #[.pointer (some ⟨b, 0, none⟩), .slice none 0 0] 48)).cell? ⟨w.heap.size, 2, none⟩ = some (.int .i64 c.f2) ∧ (w2.alloc (.cells #[.pointer (some ⟨b, 0, none⟩), .slice none 0 0] 48)).cell? ⟨w.heap.size, 3, none⟩ = some (.int .i64 c.f3) ∧ (w2.alloc (.cells #[.pointer (some ⟨b, 0, none⟩), .slice none 0 0] 48)).cell? ⟨w.heap.size, 4, none⟩ = some (.int .i64 c.f4) ∧ (w2.alloc (.cells #[.pointer (some ⟨b, 0, none⟩), .slice none 0 0] 48)).cell? ⟨w.heap.size, 5, none⟩ = some (.int .i64 c.f5) ∧ (w2.alloc (.cells #[.pointer (some ⟨b, 0, none⟩), .slice none 0 0] 48)).cell? ⟨w.heap.size, 6, none⟩ = some (.int .i64 c.f6) ∧ (w2.alloc (.cells #[.pointer (some ⟨b, 0, none⟩), .slice none 0 0] 48)).cell? ⟨w.heap.size, 7, none⟩ = some (.int .i64 c.f7) ∧ (w2.alloc (.cells #[.pointer (some ⟨b, 0, none⟩), .slice none 0 0] 48)).cell? ⟨w.heap.size, 8, none⟩ = some (.int .i64 c.f8) ∧ (w2.alloc (.cells #[.pointer (some ⟨b, 0, none⟩), .slice none 0 0] 48)).cell? ⟨w.heap.size, 9, none⟩ = some (.int .i64 c.f9) ∧ (w2.alloc (.cells #[.pointer (some ⟨b, 0, none⟩), .slice none 0 0] 48)).cell? ⟨w.heap.size, 10, none⟩ = some (.int .i64 c.f10) ∧ (w2.alloc (.cells #[.pointer (some ⟨b, 0, none⟩), .slice none 0 0] 48)).cell? ⟨w.heap.size, 11, none⟩ = some (.int .i64 c.f11) := ⟨(blk_cell HKM.out 0).trans rfl, (blk_cell HKM.out 1).trans rfl, (blk_cell HKM.out 2).trans rfl, (blk_cell HKM.out 3).trans rfl, (blk_cell HKM.out 4).trans rfl, (blk_cell HKM.out 5).trans rfl, (blk_cell HKM.out 6).trans rfl, (blk_cell HKM.out 7).trans rfl, (blk_cell HKM.out 8).trans rfl, (blk_cell HKM.out 9).trans rfl, (blk_cell HKM.out 10).trans rfl, (blk_cell HKM.out 11).trans rfl⟩
      go_wp2_with fail
      refine HCHK.out.mono ?_
      rintro e w3 ⟨rfl, hb⟩
      have HB3 := Aside0.mk (below_then HBM.out HBM.out.size hb)
      clear hb
      go_wp2
      go_ret2
      exact ⟨rfl, HB3.out⟩
end Go.Proofs.YtkfhnicojokafaaGreat.Co
