/- A core is made. -/
import Derived.Test.YtkfhnicojokafaaGreatCc5
import Derived.Deep.RegionHeld3
namespace Go.Proofs.YtkfhnicojokafaaGreat.Co
open Go.RowKit Go.Proofs.YtkfhnicojokafaaGreatW.PrintWords Go.Proofs.YtkfhnicojokafaaGreatW.PrintLast Go.Proofs.YtkfhnicojokafaaGreatW.PrintMore Go.Proofs.YtkfhnicojokafaaGreat.PMd Go.Proofs.YtkfhnicojokafaaGreat.Ln
set_option linter.unusedVariables false
set_option linter.unusedSimpArgs false
theorem made_rep (v : Value) (n : Nat) : (madeCells #[v] n) = (List.replicate n v).toArray := by
  apply Array.ext
  · simp [madeCells]
  · intro i h1 h2
    simp [madeCells, Nat.mod_one]
theorem alloc4 (W : World) (a b c d : Obj) : ((((W.alloc a).alloc b).alloc c).alloc d).heap[W.heap.size]? = some a ∧ ((((W.alloc a).alloc b).alloc c).alloc d).heap[W.heap.size + 1]? = some b ∧ ((((W.alloc a).alloc b).alloc c).alloc d).heap[W.heap.size + 1 + 1]? = some c ∧
    ((((W.alloc a).alloc b).alloc c).alloc d).heap[W.heap.size + 1 + 1 + 1]? = some d ∧ Below W.heap.size W ((((W.alloc a).alloc b).alloc c).alloc d) := by
  have e1 : (W.alloc a).heap.size = W.heap.size + 1 := by simp
  have e2 : ((W.alloc a).alloc b).heap.size = W.heap.size + 1 + 1 := by simp
  have e3 : (((W.alloc a).alloc b).alloc c).heap.size = W.heap.size + 1 + 1 + 1 := by simp
  refine ⟨?_, ?_, ?_, ?_, below_alloc (below_alloc (below_alloc (below_alloc (Below.refl _ _) _) _) _) _⟩
  · rw [Below.heap_alloc _ _ _ (by omega), Below.heap_alloc _ _ _ (by omega), Below.heap_alloc _ _ _ (by omega)]
    exact heap_alloc_new W a
  · rw [Below.heap_alloc _ _ _ (by omega), Below.heap_alloc _ _ _ (by omega), ← e1]
    exact heap_alloc_new _ b
  · rw [Below.heap_alloc _ _ _ (by omega), ← e2]
    exact heap_alloc_new _ c
  · rw [← e3]
    exact heap_alloc_new _ d
/-- A row of noughts that fills its block. -/
theorem row_full {w : World} {k e : Nat} {xs : List Value} (h : w.heap[k]? = some (.cells xs.toArray e (0, 0))) (hl : xs.length ≤ maxLen) : Row w e 1 (some ⟨k, 0, none⟩) xs.length xs.length xs :=
  ⟨by simp, Nat.le_refl _, hl, .inr ⟨k, 0, _, rfl, h, by simp, by simp⟩⟩
/-- What a table's New is asked for. -/
def NewsT (TP : World → Nat → (Nat → Prop) → Prop) (nodes locks : Int) : Prop := ∀ W : World, Calls Tryz.prog 28 #[.int .i64 nodes, .int .i64 locks] W fun e W' =>
  ∃ tb FT, e = .returned (.tuple #[.pointer (some ⟨tb, 0, none⟩), .int .i64 0]) ∧ TP W' tb FT ∧ (∀ k, FT k → W.heap.size ≤ k ∧ k < W'.heap.size) ∧ Below W.heap.size W W'
def MovesT (TP : World → Nat → (Nat → Prop) → Prop) : Prop := ∀ W W' tb FT, TP W tb FT → (∀ k, FT k → k < W.heap.size → W'.heap[k]? = W.heap[k]?) → TP W' tb FT
/-- What a core that is made is. -/
def Made (TP : World → Nat → (Nat → Prop) → Prop) (w : World) (c : Cf) (heap : List Int) (sz n : Nat) (e : Ending) (w' : World) : Prop :=
  ∃ b P F FT, e = .returned (.tuple #[.pointer (some ⟨b, 0, none⟩), .int .i64 0]) ∧ IsCore w' b P F ⟨c, heap ++ List.replicate (sz - heap.length) 0, 0, List.replicate n 0, List.replicate n false, List.replicate n 0, 0⟩ ∧
    TP w' P.tb FT ∧ (∀ k, F k → w.heap.size ≤ k ∧ ¬ FT k) ∧ (∀ k, FT k → w.heap.size ≤ k) ∧ Below w.heap.size w w'
theorem made_end {TP : World → Nat → (Nat → Prop) → Prop} {w W W' : World} {c : Cf} {heap : List Int} {sz n cb tb db nb sb p kT kA kD kC wT0 wT1 : Nat} {FT FC : Nat → Prop} (hTP : MovesT TP) (hn : n ≤ 64)
    (hW : W.heap.size ≤ kC) (hT : W'.heap[kT]? = some (.cells (madeCells #[.int .i64 0] n) 3)) (hA : W'.heap[kA]? = some (.cells (madeCells #[.bool false] n) 4)) (hD : W'.heap[kD]? = some (.cells (madeCells #[.int .i64 0] n) 26))
    (hC : W'.heap[kC]? = some (.cells #[.pointer (some ⟨p, 0, none⟩), .slice (some ⟨kT, 0, none⟩) n n, .slice (some ⟨kA, 0, none⟩) n n, .slice (some ⟨kD, 0, none⟩) n n, .int .i64 0] 62))
    (hkT : W.heap.size ≤ kT) (hkA : W.heap.size ≤ kA) (hkD : W.heap.size ≤ kD) (hb : Below W.heap.size W W')
    (hp : W.heap[p]? = some (.cells (partsC c ⟨p, cb, tb, db, nb, sb⟩) 77)) (hcells : IsCells W cb FC (heap ++ List.replicate (sz - heap.length) 0) 0)
    (hFC : ∀ k, FC k → w.heap.size ≤ k ∧ k < wT0) (hFT : ∀ k, FT k → wT0 ≤ k ∧ k < wT1) (hpT : wT1 ≤ p) (h01 : wT0 ≤ wT1) (h1W : wT1 ≤ W.heap.size) (hw0 : w.heap.size ≤ wT0) (hTab : TP W tb FT) (hB : Below w.heap.size w W) :
    Made TP w c heap sz n (.returned (.tuple #[.pointer (some ⟨kC, 0, none⟩), .int .i64 0])) W' := by
  have hpl := (Array.getElem?_eq_some_iff.1 hp).1
  rw [made_rep] at hT hA hD
  refine ⟨kC, ⟨p, cb, tb, db, nb, sb⟩, fun k => FC k ∨ k = p ∨ W.heap.size ≤ k, FT, rfl, ⟨some ⟨kT, 0, none⟩, n, some ⟨kA, 0, none⟩, n, some ⟨kD, 0, none⟩, n, FC, ?_, (hb.block p hpl).trans hp, .inr (.inr hW), .inr (.inl rfl), ?_, ?_, ?_, ?_, ?_, ?_, hcells.below hb, fun k hk => .inl hk, fun k hk => ?_⟩, ?_, ?_, ?_, below_then hB hB.size hb⟩
  · simpa using hC
  · have := row_full (w := W') (k := kT) (e := 3) (xs := vi (List.replicate n 0)) (by rw [vi_rep]; exact hT) (by rw [vi_len]; unfold maxLen; simp; omega)
    simpa [vi_len] using this
  · rintro k ⟨a, h1, h2⟩; cases h1; exact .inr (.inr (h2 ▸ hkT))
  · have := row_full (w := W') (k := kA) (e := 4) (xs := vb (List.replicate n false)) (by simpa [vb] using hA) (by unfold maxLen vb; simp; omega)
    simpa [vb] using this
  · rintro k ⟨a, h1, h2⟩; cases h1; exact .inr (.inr (h2 ▸ hkA))
  · have := row_full (w := W') (k := kD) (e := 26) (xs := vi (List.replicate n 0)) (by rw [vi_rep]; exact hD) (by rw [vi_len]; unfold maxLen; simp; omega)
    simpa [vi_len] using this
  · rintro k ⟨a, h1, h2⟩; cases h1; exact .inr (.inr (h2 ▸ hkD))
  · have h3 := hFC k hk
    refine ⟨by omega, by show k ≠ p; omega, ?_, ?_, ?_⟩
    · rintro ⟨a, e1, e2⟩; cases e1; have e2 : kT = k := e2; omega
    · rintro ⟨a, e1, e2⟩; cases e1; have e2 : kA = k := e2; omega
    · rintro ⟨a, e1, e2⟩; cases e1; have e2 : kD = k := e2; omega
  · exact hTP W W' tb FT hTab (fun k _ hk => hb.block k hk)
  · intro k hk
    have hFT2 := hFT k
    rcases hk with hk | hk | hk
    · have := hFC k hk
      exact ⟨this.1, fun h => by have := hFT2 h; omega⟩
    · exact ⟨by omega, fun h => by have := hFT2 h; omega⟩
    · exact ⟨by have := hB.size; omega, fun h => by have := hFT2 h; omega⟩
  · intro k hk
    have := hFT k hk
    omega
set_option maxHeartbeats 16000000 in
set_option maxRecDepth 100000 in
theorem coreNew_ {TP : World → Nat → (Nat → Prop) → Prop} (hTP : MovesT TP) (c : Cf) (A : Option Addr) (cA : Nat) (heap : List Int) (w : World) (sz : Nat) (nd : Int) (hr : Kd.C (Kd.int .i64) w A heap.length heap) (hc : heap.length ≤ cA)
    (hck : shape_Check.f c.f0 c.f1 c.f2 c.f3 c.f4 c.f5 c.f6 c.f7 c.f8 c.f9 c.f10 c.f11 = some 0) (hwd : shape_Words.f c.f0 c.f1 c.f2 c.f3 c.f4 c.f5 c.f6 c.f7 c.f8 c.f9 c.f10 c.f11 = some (heap.length : Int)) (hcl : shape_Cells.f c.f0 c.f1 c.f2 c.f3 c.f4 c.f5 c.f6 c.f7 c.f8 c.f9 c.f10 c.f11 = some (sz : Int)) (hnd : shape_Nodes.f c.f0 c.f1 c.f2 c.f3 c.f4 c.f5 c.f6 c.f7 c.f8 c.f9 c.f10 c.f11 = some nd)
    (h0 : 0 < heap.length) (h1 : heap.length ≤ sz) (h2 : sz ≤ 65536) (hT : NewsT TP nd c.f7) (ht1 : 1 ≤ c.f10) (ht2 : c.f10 ≤ 10000) (hf0 : 0 ≤ c.f4) (hf1 : c.f4 ≤ 64) :
    Calls Tryz.prog 16 #[.agg #[.int .i64 c.f0, .int .i64 c.f1, .int .i64 c.f2, .int .i64 c.f3, .int .i64 c.f4, .int .i64 c.f5, .int .i64 c.f6, .int .i64 c.f7, .int .i64 c.f8, .int .i64 c.f9, .int .i64 c.f10, .int .i64 c.f11], .slice A heap.length cA] w (Made TP w c heap sz c.f4.toNat) := by
  have hu := Tryz.underlying23
  have hu2 := Tryz.underlying77
  have hu3 := Tryz.underlying62
  have HK := Aside0.mk (fun W => shape_Check.calls c.f0 c.f1 c.f2 c.f3 c.f4 c.f5 c.f6 c.f7 c.f8 c.f9 c.f10 c.f11 0 W hck)
  have HW := Aside0.mk (fun W => shape_Words.calls c.f0 c.f1 c.f2 c.f3 c.f4 c.f5 c.f6 c.f7 c.f8 c.f9 c.f10 c.f11 (heap.length : Int) W hwd)
  have HC := Aside0.mk (fun W => shape_Cells.calls c.f0 c.f1 c.f2 c.f3 c.f4 c.f5 c.f6 c.f7 c.f8 c.f9 c.f10 c.f11 (sz : Int) W hcl)
  have HN := Aside0.mk (fun W => shape_Nodes.calls c.f0 c.f1 c.f2 c.f3 c.f4 c.f5 c.f6 c.f7 c.f8 c.f9 c.f10 c.f11 nd W hnd)
  have HO := Aside0.mk (fun W (hb : Below w.heap.size w W) => cellOf_ sz A cA heap W (Kd.C_below hr hb) hc h2 h0 h1)
  have HT := Aside0.mk (fun W => hT W)
  have HB0 := Aside0.mk (fun W => birthNew_ c.f10 W ht1 ht2)
  have HN2 := Aside0.mk (show c.f4.toNat ≤ 64 by omega)
  have HTP := Aside0.mk hTP
  have hm1 := print_make_int (P := Tryz.prog) 24 3 (.int .i64 0) 8 Tryz.underlying24 info3 rfl (by omega) c.f4 (by omega) (by omega)
  have hm2 := print_make_int (P := Tryz.prog) 59 4 (.bool false) 1 Tryz.underlying59 (show (Tryz.prog.info? 4).map (fun i => (i.zero, i.size, i.bytes)) = some (some (.bool false), 1, 1) by kernel_rfl) rfl (by omega) c.f4 (by omega) (by omega)
  have hm3 := print_make_int (P := Tryz.prog) 60 26 (.int .i64 0) 8 Tryz.underlying60 (show (Tryz.prog.info? 26).map (fun i => (i.zero, i.size, i.bytes)) = some (some (.int .i64 0), 1, 8) by kernel_rfl) rfl (by omega) c.f4 (by omega) (by omega)
  have HM := Aside0.mk (And.intro hm1 (And.intro hm2 hm3))
  clear hr hc hck hwd hcl hnd h0 h1 h2 hT ht1 ht2 hf0 hf1 hTP hm1 hm2 hm3
  go_enter Tryz.func16, Tryz.ntmps16
  go_wp2_with fail
  have BK := Aside0.mk (blk_new w (.cells #[.int .i64 c.f0, .int .i64 c.f1, .int .i64 c.f2, .int .i64 c.f3, .int .i64 c.f4, .int .i64 c.f5, .int .i64 c.f6, .int .i64 c.f7, .int .i64 c.f8, .int .i64 c.f9, .int .i64 c.f10, .int .i64 c.f11] 23))
  have HA0 := Aside0.mk (below_alloc (Below.refl w.heap.size w) (.cells #[.int .i64 c.f0, .int .i64 c.f1, .int .i64 c.f2, .int .i64 c.f3, .int .i64 c.f4, .int .i64 c.f5, .int .i64 c.f6, .int .i64 c.f7, .int .i64 c.f8, .int .i64 c.f9, .int .i64 c.f10, .int .i64 c.f11] 23))
  obtain ⟨g, hg⟩ : ∃ g, g = w.heap.size := ⟨_, rfl⟩
  have HG := Aside0.mk hg
  rw [← hg] at BK
  obtain ⟨w0, hw0⟩ : ∃ W, W = w.alloc (.cells #[.int .i64 c.f0, .int .i64 c.f1, .int .i64 c.f2, .int .i64 c.f3, .int .i64 c.f4, .int .i64 c.f5, .int .i64 c.f6, .int .i64 c.f7, .int .i64 c.f8, .int .i64 c.f9, .int .i64 c.f10, .int .i64 c.f11] 23) := ⟨_, rfl⟩
  have HW0 := Aside0.mk hw0
  rw [← hw0] at BK HA0
  have HX := Aside0.mk (fun W (hb : Below w0.heap.size w0 W) => (show W.cell? ⟨g, 0, none⟩ = some (.int .i64 c.f0) ∧ W.cell? ⟨g, 1, none⟩ = some (.int .i64 c.f1) ∧ W.cell? ⟨g, 2, none⟩ = some (.int .i64 c.f2) ∧ W.cell? ⟨g, 3, none⟩ = some (.int .i64 c.f3) ∧ W.cell? ⟨g, 4, none⟩ = some (.int .i64 c.f4) ∧ W.cell? ⟨g, 5, none⟩ = some (.int .i64 c.f5) ∧ W.cell? ⟨g, 6, none⟩ = some (.int .i64 c.f6) ∧ W.cell? ⟨g, 7, none⟩ = some (.int .i64 c.f7) ∧ W.cell? ⟨g, 8, none⟩ = some (.int .i64 c.f8) ∧ W.cell? ⟨g, 9, none⟩ = some (.int .i64 c.f9) ∧ W.cell? ⟨g, 10, none⟩ = some (.int .i64 c.f10) ∧ W.cell? ⟨g, 11, none⟩ = some (.int .i64 c.f11) from by
    have h := (hb.block g (Array.getElem?_eq_some_iff.1 BK.out).1).trans BK.out
    exact ⟨(blk_cell h 0).trans rfl, (blk_cell h 1).trans rfl, (blk_cell h 2).trans rfl, (blk_cell h 3).trans rfl, (blk_cell h 4).trans rfl, (blk_cell h 5).trans rfl, (blk_cell h 6).trans rfl, (blk_cell h 7).trans rfl, (blk_cell h 8).trans rfl, (blk_cell h 9).trans rfl, (blk_cell h 10).trans rfl, (blk_cell h 11).trans rfl⟩))
  rw [← HW0.out]
  clear hg hw0
  (try rw [← HG.out])
  refine (HK.out _).mono ?_
  rintro e w1 ⟨rfl, hb⟩
  have E1 := Aside0.mk hb
  clear hb
  (try rw [← HG.out])
  obtain ⟨x0, x1, x2, x3, x4, x5, x6, x7, x8, x9, x10, x11⟩ := HX.out _ E1.out
  go_wp2_with fail
  refine (HW.out _).mono ?_
  rintro e w2 ⟨rfl, hb⟩
  have E2 := Aside0.mk (below_then E1.out E1.out.size hb)
  clear hb E1 x0 x1 x2 x3 x4 x5 x6 x7 x8 x9 x10 x11
  obtain ⟨x0, x1, x2, x3, x4, x5, x6, x7, x8, x9, x10, x11⟩ := HX.out _ E2.out
  go_wp2_with fail
  refine (HC.out _).mono ?_
  rintro e w3 ⟨rfl, hb⟩
  have E3 := Aside0.mk (below_then E2.out E2.out.size hb)
  have HB3 := Aside0.mk (below_then HA0.out HA0.out.size E3.out)
  clear hb E2 x0 x1 x2 x3 x4 x5 x6 x7 x8 x9 x10 x11
  go_wp2_with fail
  refine (HO.out _ HB3.out).mono ?_
  rintro e w4 ⟨cb, hcb, rfl, hI4, hb⟩
  have E4 := Aside0.mk (below_then E3.out E3.out.size hb)
  have HI4 := Aside0.mk (hI4.mono (F' := fun k => w.heap.size ≤ k ∧ k < w4.heap.size) (fun k hk h => ⟨Nat.le_trans HB3.out.size h, hk⟩))
  have HBd4 := Aside0.mk (below_drew (Below.refl w4.heap.size w4))
  clear hb hI4 hcb
  obtain ⟨x0, x1, x2, x3, x4, x5, x6, x7, x8, x9, x10, x11⟩ := HX.out _ E4.out
  go_wp2_with fail
  refine wp_region_held_drew (S := (fun W => W.cell? ⟨g, 0, none⟩ = some (.int .i64 c.f0) ∧ W.cell? ⟨g, 1, none⟩ = some (.int .i64 c.f1) ∧ W.cell? ⟨g, 2, none⟩ = some (.int .i64 c.f2) ∧ W.cell? ⟨g, 3, none⟩ = some (.int .i64 c.f3) ∧ W.cell? ⟨g, 4, none⟩ = some (.int .i64 c.f4) ∧ W.cell? ⟨g, 5, none⟩ = some (.int .i64 c.f5) ∧ W.cell? ⟨g, 6, none⟩ = some (.int .i64 c.f6) ∧ W.cell? ⟨g, 7, none⟩ = some (.int .i64 c.f7) ∧ W.cell? ⟨g, 8, none⟩ = some (.int .i64 c.f8) ∧ W.cell? ⟨g, 9, none⟩ = some (.int .i64 c.f9) ∧ W.cell? ⟨g, 10, none⟩ = some (.int .i64 c.f10) ∧ W.cell? ⟨g, 11, none⟩ = some (.int .i64 c.f11))) (by kernel_rfl) ?_ (fun hH => ?_)
  · exact HX.out _ (below_then E4.out E4.out.size HBd4.out)
  refine wpAnyH_take (i := 0) (oi := { dst := some 32, op := Op.load 23 (Operand.tmp 2), type := 23, pos := "core.go:72", after := #[], guard := none }) (v := ?vp1) rfl (by kernel_rfl) (by kernel_rfl) (by kernel_rfl) (fun _ _ _ h => h) (Or.inl ⟨by rfl, ?yp1⟩) (by assumption) ?rp1
  case yp1 => (intro w hSw; (try dsimp only at hSw); go_simp; (try with_reducible rfl))
  (try simp only [Act.put, List.setIfInBounds_toArray, List.set_cons_zero, List.set_cons_succ])
  refine wpAnyH_take (i := 2) (oi := { dst := some 34, op := Op.fieldAddr 23 (Operand.tmp 2) 7, type := 0, pos := "core.go:72", after := #[], guard := none }) (v := ?vp2) rfl (by kernel_rfl) (by kernel_rfl) (by kernel_rfl) (fun _ _ _ h => h) (Or.inl ⟨by rfl, ?yp2⟩) (by assumption) ?rp2
  case yp2 => (intro w hSw; (try dsimp only at hSw); go_simp; (try with_reducible rfl))
  (try simp only [Act.put, List.setIfInBounds_toArray, List.set_cons_zero, List.set_cons_succ])
  refine wpAnyH_take (i := 3) (oi := { dst := some 35, op := Op.load 3 (Operand.tmp 34), type := 3, pos := "core.go:72", after := #[{ on := 2, ground := Ground.data }], guard := none }) (v := ?vp3) rfl (by kernel_rfl) (by kernel_rfl) (by kernel_rfl) (fun _ _ _ h => h) (Or.inl ⟨by rfl, ?yp3⟩) (by assumption) ?rp3
  case yp3 => (intro w hSw; (try dsimp only at hSw); go_simp; (try with_reducible rfl))
  (try simp only [Act.put, List.setIfInBounds_toArray, List.set_cons_zero, List.set_cons_succ])
  refine wpAnyH_ready (rs := [1]) (by kernel_rfl) (by simp) ?_
  refine AllReadyH.cons (o := { dst := some 33, op := Op.call { callee := Callee.value (Operand.func 29), args := #[Operand.tmp 32], argTypes := #[23] }, type := 3, pos := "core.go:72", after := #[{ on := 0, ground := Ground.data }], guard := none }) rfl (fun K hK => ?_) AllReadyH.nil
  go_simp
  (go_at_call 29; (with_reducible refine (HN.out _).mono ?_); rintro e w5 ⟨rfl, hb5⟩; have G5 := Aside0.mk (below_then HBd4.out HBd4.out.size hb5); clear hb5)
  go_wp2_with fail
  refine hK.out _ _ ?_ (fun hHp3 => ?_)
  · (try dsimp only)
    exact HX.out _ (below_then E4.out E4.out.size G5.out)
  clear hK K hH
  (try simp only [Act.put, List.setIfInBounds_toArray, List.set_cons_zero, List.set_cons_succ])
  refine wpAnyH_ready (rs := [4]) (by kernel_rfl) (by simp) ?_
  refine AllReadyH.cons (o := { dst := some 36, op := Op.call { callee := Callee.value (Operand.func 28), args := #[Operand.tmp 33, Operand.tmp 35], argTypes := #[3, 3] }, type := 67, pos := "core.go:72", after := #[{ on := 1, ground := Ground.data }, { on := 3, ground := Ground.data }, { on := 1, ground := Ground.chain }], guard := none }) rfl (fun K hK => ?_) AllReadyH.nil
  go_simp
  (go_at_call 28; (with_reducible refine (HT.out _).mono ?_); rintro e w6 ⟨tb, FT, rfl, hT6, hF6, hb6⟩; have HT6 := Aside0.mk hT6; have HF6 := Aside0.mk hF6; have HS6 := Aside0.mk hb6.size; have G6 := Aside0.mk (below_then G5.out G5.out.size hb6); clear hT6 hF6 hb6)
  go_wp2_with fail
  refine hK.out _ _ ?_ (fun hHp4 => ?_)
  · (try dsimp only)
    exact HX.out _ (below_then E4.out E4.out.size G6.out)
  clear hK K hHp3
  (try simp only [Act.put, List.setIfInBounds_toArray, List.set_cons_zero, List.set_cons_succ])
  refine wpAnyH_take (i := 5) (oi := { dst := some 31, op := Op.move (Operand.tmp 36), type := 67, pos := "core.go:72", after := #[{ on := 4, ground := Ground.data }], guard := none }) (v := ?vp6) rfl (by kernel_rfl) (by kernel_rfl) (by kernel_rfl) (fun _ _ _ h => h) (Or.inl ⟨by rfl, ?yp6⟩) (by assumption) ?rp6
  case yp6 => (intro w hSw; (try dsimp only at hSw); go_simp; (try with_reducible rfl))
  (try simp only [Act.put, List.setIfInBounds_toArray, List.set_cons_zero, List.set_cons_succ])
  refine wpAnyH_take (i := 6) (oi := { dst := some 37, op := Op.extract (Operand.tmp 31) 0, type := 66, pos := "core.go:72", after := #[{ on := 5, ground := Ground.data }], guard := none }) (v := ?vp7) rfl (by kernel_rfl) (by kernel_rfl) (by kernel_rfl) (fun _ _ _ h => h) (Or.inl ⟨by rfl, ?yp7⟩) (by assumption) ?rp7
  case yp7 => (intro w hSw; (try dsimp only at hSw); go_simp; (try with_reducible rfl))
  (try simp only [Act.put, List.setIfInBounds_toArray, List.set_cons_zero, List.set_cons_succ])
  refine wpAnyH_take (i := 7) (oi := { dst := some 38, op := Op.extract (Operand.tmp 31) 1, type := 26, pos := "core.go:72", after := #[{ on := 5, ground := Ground.data }, { on := 8, ground := Ground.gcOnly Departure.lateStores }], guard := none }) (v := ?vp8) rfl (by kernel_rfl) (by kernel_rfl) (by kernel_rfl) (fun _ _ _ h => h) (Or.inl ⟨by rfl, ?yp8⟩) (by assumption) ?rp8
  case yp8 => (intro w hSw; (try dsimp only at hSw); go_simp; (try with_reducible rfl))
  (try simp only [Act.put, List.setIfInBounds_toArray, List.set_cons_zero, List.set_cons_succ])
  refine wpAnyH_take (i := 8) (oi := { dst := some 8, op := Op.assign (Operand.tmp 37), type := 66, pos := "core.go:72", after := #[{ on := 6, ground := Ground.data }, { on := 4, ground := Ground.chain }, { on := 0, ground := Ground.phase }, { on := 1, ground := Ground.phase }, { on := 2, ground := Ground.phase }, { on := 3, ground := Ground.phase }, { on := 4, ground := Ground.phase }, { on := 5, ground := Ground.phase }, { on := 6, ground := Ground.phase }, { on := 7, ground := Ground.textOnly Departure.lateStores }], guard := none }) (v := ?vp9) rfl (by kernel_rfl) (by kernel_rfl) (by kernel_rfl) (fun _ _ _ h => h) (Or.inl ⟨by rfl, ?yp9⟩) (by assumption) ?rp9
  case yp9 => (intro w hSw; (try dsimp only at hSw); go_simp; (try with_reducible rfl))
  (try simp only [Act.put, List.setIfInBounds_toArray, List.set_cons_zero, List.set_cons_succ])
  refine wpAnyH_take (i := 9) (oi := { dst := some 7, op := Op.assign (Operand.tmp 38), type := 26, pos := "core.go:72", after := #[{ on := 7, ground := Ground.data }, { on := 8, ground := Ground.chain }, { on := 0, ground := Ground.phase }, { on := 1, ground := Ground.phase }, { on := 2, ground := Ground.phase }, { on := 3, ground := Ground.phase }, { on := 4, ground := Ground.phase }, { on := 5, ground := Ground.phase }, { on := 6, ground := Ground.phase }, { on := 7, ground := Ground.phase }, { on := 8, ground := Ground.phase }], guard := none }) (v := ?vp10) rfl (by kernel_rfl) (by kernel_rfl) (by kernel_rfl) (fun _ _ _ h => h) (Or.inl ⟨by rfl, ?yp10⟩) (by assumption) ?rp10
  case yp10 => (intro w hSw; (try dsimp only at hSw); go_simp; (try with_reducible rfl))
  (try simp only [Act.put, List.setIfInBounds_toArray, List.set_cons_zero, List.set_cons_succ])
  refine wpAnyH_done (by kernel_rfl) ?_ _
  have E6 := Aside0.mk (below_then E4.out E4.out.size G6.out)
  clear x0 x1 x2 x3 x4 x5 x6 x7 x8 x9 x10 x11
  obtain ⟨x0, x1, x2, x3, x4, x5, x6, x7, x8, x9, x10, x11⟩ := HX.out _ E6.out
  go_wp2_with fail
  refine (HB0.out _).mono ?_
  rintro e w7 ⟨rfl, rfl⟩
  have E7 := Aside0.mk (below_alloc E6.out (.cells #[.int .i64 0, .int .i64 c.f10] 112))
  clear x0 x1 x2 x3 x4 x5 x6 x7 x8 x9 x10 x11
  obtain ⟨x0, x1, x2, x3, x4, x5, x6, x7, x8, x9, x10, x11⟩ := HX.out _ E7.out
  have G7 := Aside0.mk (below_alloc (Below.refl w6.heap.size w6) (.cells #[.int .i64 0, .int .i64 c.f10] 112))
  obtain ⟨w7, hw7⟩ : ∃ W, W = w6.alloc (.cells #[.int .i64 0, .int .i64 c.f10] 112) := ⟨_, rfl⟩
  have HW7 := Aside0.mk hw7
  rw [← hw7] at E7 G7 x0 x1 x2 x3 x4 x5 x6 x7 x8 x9 x10 x11
  obtain ⟨db, hdb⟩ : ∃ db, db = w6.heap.size := ⟨_, rfl⟩
  have HDB := Aside0.mk hdb
  rw [← hw7, ← hdb]
  clear hw7 hdb
  have HBd7 := Aside0.mk (below_drew (Below.refl w7.heap.size w7))
  go_wp2_with fail
  refine wp_region_held_drew (S := (fun W => W.cell? ⟨g, 0, none⟩ = some (.int .i64 c.f0) ∧ W.cell? ⟨g, 1, none⟩ = some (.int .i64 c.f1) ∧ W.cell? ⟨g, 2, none⟩ = some (.int .i64 c.f2) ∧ W.cell? ⟨g, 3, none⟩ = some (.int .i64 c.f3) ∧ W.cell? ⟨g, 4, none⟩ = some (.int .i64 c.f4) ∧ W.cell? ⟨g, 5, none⟩ = some (.int .i64 c.f5) ∧ W.cell? ⟨g, 6, none⟩ = some (.int .i64 c.f6) ∧ W.cell? ⟨g, 7, none⟩ = some (.int .i64 c.f7) ∧ W.cell? ⟨g, 8, none⟩ = some (.int .i64 c.f8) ∧ W.cell? ⟨g, 9, none⟩ = some (.int .i64 c.f9) ∧ W.cell? ⟨g, 10, none⟩ = some (.int .i64 c.f10) ∧ W.cell? ⟨g, 11, none⟩ = some (.int .i64 c.f11))) (by kernel_rfl) ?_ (fun hH => ?_)
  · exact HX.out _ (below_then E7.out E7.out.size HBd7.out)
  refine wpAnyH_take (i := 0) (oi := { dst := some 51, op := Op.load 23 (Operand.tmp 2), type := 23, pos := "core.go:80", after := #[], guard := none }) (v := ?vq1) rfl (by kernel_rfl) (by kernel_rfl) (by kernel_rfl) (fun _ _ _ h => h) (Or.inl ⟨by rfl, ?yq1⟩) (by assumption) ?rq1
  case yq1 => (intro w hSw; (try dsimp only at hSw); go_simp; (try with_reducible rfl))
  (try simp only [Act.put, List.setIfInBounds_toArray, List.set_cons_zero, List.set_cons_succ])
  refine wpAnyH_take (i := 1) (oi := { dst := some 52, op := Op.move (Operand.tmp 6), type := 63, pos := "core.go:80", after := #[], guard := none }) (v := ?vq2) rfl (by kernel_rfl) (by kernel_rfl) (by kernel_rfl) (fun _ _ _ h => h) (Or.inl ⟨by rfl, ?yq2⟩) (by assumption) ?rq2
  case yq2 => (intro w hSw; (try dsimp only at hSw); go_simp; (try with_reducible rfl))
  (try simp only [Act.put, List.setIfInBounds_toArray, List.set_cons_zero, List.set_cons_succ])
  refine wpAnyH_take (i := 2) (oi := { dst := some 53, op := Op.move (Operand.tmp 8), type := 66, pos := "core.go:80", after := #[], guard := none }) (v := ?vq3) rfl (by kernel_rfl) (by kernel_rfl) (by kernel_rfl) (fun _ _ _ h => h) (Or.inl ⟨by rfl, ?yq3⟩) (by assumption) ?rq3
  case yq3 => (intro w hSw; (try dsimp only at hSw); go_simp; (try with_reducible rfl))
  (try simp only [Act.put, List.setIfInBounds_toArray, List.set_cons_zero, List.set_cons_succ])
  refine wpAnyH_take (i := 3) (oi := { dst := some 54, op := Op.move (Operand.tmp 9), type := 69, pos := "core.go:80", after := #[], guard := none }) (v := ?vq4) rfl (by kernel_rfl) (by kernel_rfl) (by kernel_rfl) (fun _ _ _ h => h) (Or.inl ⟨by rfl, ?yq4⟩) (by assumption) ?rq4
  case yq4 => (intro w hSw; (try dsimp only at hSw); go_simp; (try with_reducible rfl))
  (try simp only [Act.put, List.setIfInBounds_toArray, List.set_cons_zero, List.set_cons_succ])
  refine wpAnyH_ready (rs := [4]) (by kernel_rfl) (by simp) ?_
  refine AllReadyH.cons (o := { dst := some 55, op := Op.call { callee := Callee.value (Operand.func 31), args := #[], argTypes := #[] }, type := 72, pos := "core.go:80", after := #[], guard := none }) rfl (fun K hK => ?_) AllReadyH.nil
  go_simp
  (go_at_call 31; (with_reducible refine (napNew_ _).mono ?_); rintro e w8 ⟨rfl, rfl⟩)
  go_wp2_with fail
  refine hK.out _ _ ?_ (fun hHq4 => ?_)
  · (try dsimp only)
    exact HX.out _ (below_then E7.out E7.out.size (below_alloc (below_alloc HBd7.out _) _))
  clear hK K hH
  (try simp only [Act.put, List.setIfInBounds_toArray, List.set_cons_zero, List.set_cons_succ])
  refine wpAnyH_ready (rs := [5]) (by kernel_rfl) (by simp) ?_
  refine AllReadyH.cons (o := { dst := some 56, op := Op.call { callee := Callee.value (Operand.func 32), args := #[], argTypes := #[] }, type := 74, pos := "core.go:80", after := #[{ on := 4, ground := Ground.chain }], guard := none }) rfl (fun K hK => ?_) AllReadyH.nil
  go_simp
  (go_at_call 32; (with_reducible refine (storyNew_ _).mono ?_); rintro e w9 ⟨rfl, rfl⟩)
  go_wp2_with fail
  refine hK.out _ _ ?_ (fun hHq5 => ?_)
  · (try dsimp only)
    exact HX.out _ (below_then E7.out E7.out.size (below_alloc (below_alloc (below_alloc HBd7.out _) _) _))
  clear hK K hHq4
  (try simp only [Act.put, List.setIfInBounds_toArray, List.set_cons_zero, List.set_cons_succ])
  refine wpAnyH_take (i := 6) (oi := { dst := some 57, op := Op.build 77 #[(0, Operand.tmp 51), (1, Operand.tmp 52), (2, Operand.tmp 53), (3, Operand.tmp 54), (4, Operand.tmp 55), (5, Operand.tmp 56)], type := 77, pos := "core.go:80", after := #[{ on := 0, ground := Ground.data }, { on := 1, ground := Ground.data }, { on := 2, ground := Ground.data }, { on := 3, ground := Ground.data }, { on := 4, ground := Ground.data }, { on := 5, ground := Ground.data }], guard := none }) (v := ?vq7) rfl (by kernel_rfl) (by kernel_rfl) (by kernel_rfl) (fun _ _ _ h => h) (Or.inl ⟨by rfl, ?yq7⟩) (by assumption) ?rq7
  case yq7 => (intro w hSw; (try dsimp only at hSw); go_simp; (try with_reducible rfl))
  (try simp only [Act.put, List.setIfInBounds_toArray, List.set_cons_zero, List.set_cons_succ])
  refine wpAnyH_ready (rs := [7]) (by kernel_rfl) (by simp) ?_
  refine AllReadyH.cons (o := { dst := some 58, op := Op.box 77 (Operand.tmp 57), type := 58, pos := "core.go:80", after := #[{ on := 6, ground := Ground.data }], guard := none }) rfl (fun K hK => ?_) AllReadyH.nil
  go_simp
  refine hK.out _ _ ?_ (fun hHq7 => ?_)
  · (try dsimp only)
    exact HX.out _ (below_then E7.out E7.out.size (below_alloc (below_alloc (below_alloc (below_alloc HBd7.out _) _) _) _))
  clear hK K hHq5
  (try simp only [Act.put, List.setIfInBounds_toArray, List.set_cons_zero, List.set_cons_succ])
  refine wpAnyH_take (i := 8) (oi := { dst := some 10, op := Op.assign (Operand.tmp 58), type := 58, pos := "core.go:80", after := #[{ on := 7, ground := Ground.data }, { on := 5, ground := Ground.chain }, { on := 0, ground := Ground.phase }, { on := 1, ground := Ground.phase }, { on := 2, ground := Ground.phase }, { on := 3, ground := Ground.phase }, { on := 4, ground := Ground.phase }, { on := 5, ground := Ground.phase }, { on := 6, ground := Ground.phase }, { on := 7, ground := Ground.phase }], guard := none }) (v := ?vq9) rfl (by kernel_rfl) (by kernel_rfl) (by kernel_rfl) (fun _ _ _ h => h) (Or.inl ⟨by rfl, ?yq9⟩) (by assumption) ?rq9
  case yq9 => (intro w hSw; (try dsimp only at hSw); go_simp; (try with_reducible rfl))
  (try simp only [Act.put, List.setIfInBounds_toArray, List.set_cons_zero, List.set_cons_succ])
  refine wpAnyH_done (by kernel_rfl) ?_ _
  have E9 := Aside0.mk (below_then E7.out E7.out.size (below_drew (below_alloc (below_alloc (below_alloc (below_alloc (Below.refl w7.heap.size w7) (.map #[] 0)) (.cells #[.map (some w7.heap.size)] 115)) (.cells #[.slice none 0 0] 118)) (.cells (partsC c ⟨w7.heap.size + 1 + 1 + 1, cb, tb, db, w7.heap.size + 1, w7.heap.size + 1 + 1⟩) 77))))
  have HA4 := Aside0.mk (alloc4 w7 (.map #[] 0) (.cells #[.map (some w7.heap.size)] 115) (.cells #[.slice none 0 0] 118) (.cells (partsC c ⟨w7.heap.size + 1 + 1 + 1, cb, tb, db, w7.heap.size + 1, w7.heap.size + 1 + 1⟩) 77))
  obtain ⟨w10, hw10⟩ : ∃ W, W = ((((w7.alloc (.map #[] 0)).alloc (.cells #[.map (some w7.heap.size)] 115)).alloc (.cells #[.slice none 0 0] 118)).alloc (.cells (partsC c ⟨w7.heap.size + 1 + 1 + 1, cb, tb, db, w7.heap.size + 1, w7.heap.size + 1 + 1⟩) 77)).drew := ⟨_, rfl⟩
  have HW10 := Aside0.mk hw10
  rw [← hw10] at E9
  have HSZ := Aside0.mk (show w10.heap.size = w7.heap.size + 1 + 1 + 1 + 1 by rw [hw10]; simp)
  rw [show ((((w7.alloc (.map #[] 0)).alloc (.cells #[.map (some w7.heap.size)] 115)).alloc (.cells #[.slice none 0 0] 118)).alloc (.cells #[.int .i64 c.f0, .int .i64 c.f1, .int .i64 c.f2, .int .i64 c.f3, .int .i64 c.f4, .int .i64 c.f5, .int .i64 c.f6, .int .i64 c.f7, .int .i64 c.f8, .int .i64 c.f9, .int .i64 c.f10, .int .i64 c.f11, .pointer (some ⟨cb, 0, none⟩), .pointer (some ⟨tb, 0, none⟩), .pointer (some ⟨db, 0, none⟩), .pointer (some ⟨w7.heap.size + 1, 0, none⟩), .pointer (some ⟨w7.heap.size + 1 + 1, 0, none⟩)] 77)).drew = w10 from hw10.symm]
  clear hw10 x0 x1 x2 x3 x4 x5 x6 x7 x8 x9 x10 x11
  have HPP := Aside0.mk (show w10.heap[w7.heap.size + 1 + 1 + 1]? = some (.cells (partsC c ⟨w7.heap.size + 1 + 1 + 1, cb, tb, db, w7.heap.size + 1, w7.heap.size + 1 + 1⟩) 77 (0, 0)) from by rw [HW10.out]; exact HA4.out.2.2.2.1)
  obtain ⟨p, hp⟩ : ∃ p, p = w7.heap.size + 1 + 1 + 1 := ⟨_, rfl⟩
  have HPQ := Aside0.mk hp
  rw [← hp] at HPP ⊢
  clear hp
  have J7 := Aside0.mk (show Below w7.heap.size w7 w10 from by
    rw [HW10.out]; exact below_drew (below_alloc (below_alloc (below_alloc (below_alloc (Below.refl _ _) _) _) _) _))
  have J6 := Aside0.mk (below_then G7.out G7.out.size J7.out)
  have J4 := Aside0.mk (below_then G6.out G6.out.size J6.out)
  have J0 := Aside0.mk (below_then HA0.out HA0.out.size E9.out)
  have HCL := Aside0.mk (HI4.out.below J4.out)
  have HTB := Aside0.mk (HTP.out w6 w10 tb FT HT6.out (fun k _ hl => J6.out.block k hl))
  have HNUM := Aside0.mk (show w.heap.size ≤ w5.heap.size ∧ w4.heap.size ≤ w5.heap.size ∧ w5.heap.size ≤ w6.heap.size ∧ w6.heap.size ≤ p ∧ w6.heap.size ≤ w10.heap.size from by
    have h1 := HA0.out.size
    have h2 := E4.out.size
    have h3 := G5.out.size
    have h4 := HS6.out
    have h5 := G7.out.size
    have h6 := J7.out.size
    have h7 := HPQ.out
    have h8 : w4.drew.heap.size = w4.heap.size := rfl
    refine ⟨by omega, by omega, by omega, by omega, by omega⟩)
  have HBd10 := Aside0.mk (below_drew (Below.refl w10.heap.size w10))
  obtain ⟨x0, x1, x2, x3, x4, x5, x6, x7, x8, x9, x10, x11⟩ := HX.out _ E9.out
  obtain ⟨hm1, hm2, hm3⟩ := HM.out
  go_wp2_with fail
  refine wp_region_held_drew (S := (fun W => W.cell? ⟨g, 0, none⟩ = some (.int .i64 c.f0) ∧ W.cell? ⟨g, 1, none⟩ = some (.int .i64 c.f1) ∧ W.cell? ⟨g, 2, none⟩ = some (.int .i64 c.f2) ∧ W.cell? ⟨g, 3, none⟩ = some (.int .i64 c.f3) ∧ W.cell? ⟨g, 4, none⟩ = some (.int .i64 c.f4) ∧ W.cell? ⟨g, 5, none⟩ = some (.int .i64 c.f5) ∧ W.cell? ⟨g, 6, none⟩ = some (.int .i64 c.f6) ∧ W.cell? ⟨g, 7, none⟩ = some (.int .i64 c.f7) ∧ W.cell? ⟨g, 8, none⟩ = some (.int .i64 c.f8) ∧ W.cell? ⟨g, 9, none⟩ = some (.int .i64 c.f9) ∧ W.cell? ⟨g, 10, none⟩ = some (.int .i64 c.f10) ∧ W.cell? ⟨g, 11, none⟩ = some (.int .i64 c.f11))) (by kernel_rfl) ?_ (fun hH => ?_)
  · exact HX.out _ (below_then E9.out E9.out.size HBd10.out)
  refine wpAnyH_take (i := 0) (oi := { dst := some 59, op := Op.move (Operand.tmp 10), type := 58, pos := "core.go:81", after := #[], guard := none }) (v := ?vr1) rfl (by kernel_rfl) (by kernel_rfl) (by kernel_rfl) (fun _ _ _ h => h) (Or.inl ⟨by rfl, ?yr1⟩) (by assumption) ?rr1
  case yr1 => (intro w hSw; (try dsimp only at hSw); go_simp; (try with_reducible rfl))
  (try simp only [Act.put, List.setIfInBounds_toArray, List.set_cons_zero, List.set_cons_succ])
  refine wpAnyH_take (i := 1) (oi := { dst := some 60, op := Op.fieldAddr 23 (Operand.tmp 2) 4, type := 0, pos := "core.go:81", after := #[], guard := none }) (v := ?vr2) rfl (by kernel_rfl) (by kernel_rfl) (by kernel_rfl) (fun _ _ _ h => h) (Or.inl ⟨by rfl, ?yr2⟩) (by assumption) ?rr2
  case yr2 => (intro w hSw; (try dsimp only at hSw); go_simp; (try with_reducible rfl))
  (try simp only [Act.put, List.setIfInBounds_toArray, List.set_cons_zero, List.set_cons_succ])
  refine wpAnyH_take (i := 2) (oi := { dst := some 61, op := Op.load 3 (Operand.tmp 60), type := 3, pos := "core.go:81", after := #[{ on := 1, ground := Ground.data }], guard := none }) (v := ?vr3) rfl (by kernel_rfl) (by kernel_rfl) (by kernel_rfl) (fun _ _ _ h => h) (Or.inl ⟨by rfl, ?yr3⟩) (by assumption) ?rr3
  case yr3 => (intro w hSw; (try dsimp only at hSw); go_simp; (try with_reducible rfl))
  (try simp only [Act.put, List.setIfInBounds_toArray, List.set_cons_zero, List.set_cons_succ])
  refine wpAnyH_take (i := 4) (oi := { dst := some 63, op := Op.fieldAddr 23 (Operand.tmp 2) 4, type := 0, pos := "core.go:81", after := #[], guard := none }) (v := ?vr4) rfl (by kernel_rfl) (by kernel_rfl) (by kernel_rfl) (fun _ _ _ h => h) (Or.inl ⟨by rfl, ?yr4⟩) (by assumption) ?rr4
  case yr4 => (intro w hSw; (try dsimp only at hSw); go_simp; (try with_reducible rfl))
  (try simp only [Act.put, List.setIfInBounds_toArray, List.set_cons_zero, List.set_cons_succ])
  refine wpAnyH_take (i := 5) (oi := { dst := some 64, op := Op.load 3 (Operand.tmp 63), type := 3, pos := "core.go:81", after := #[{ on := 4, ground := Ground.data }], guard := none }) (v := ?vr5) rfl (by kernel_rfl) (by kernel_rfl) (by kernel_rfl) (fun _ _ _ h => h) (Or.inl ⟨by rfl, ?yr5⟩) (by assumption) ?rr5
  case yr5 => (intro w hSw; (try dsimp only at hSw); go_simp; (try with_reducible rfl))
  (try simp only [Act.put, List.setIfInBounds_toArray, List.set_cons_zero, List.set_cons_succ])
  refine wpAnyH_take (i := 7) (oi := { dst := some 66, op := Op.fieldAddr 23 (Operand.tmp 2) 4, type := 0, pos := "core.go:81", after := #[], guard := none }) (v := ?vr6) rfl (by kernel_rfl) (by kernel_rfl) (by kernel_rfl) (fun _ _ _ h => h) (Or.inl ⟨by rfl, ?yr6⟩) (by assumption) ?rr6
  case yr6 => (intro w hSw; (try dsimp only at hSw); go_simp; (try with_reducible rfl))
  (try simp only [Act.put, List.setIfInBounds_toArray, List.set_cons_zero, List.set_cons_succ])
  refine wpAnyH_take (i := 8) (oi := { dst := some 67, op := Op.load 3 (Operand.tmp 66), type := 3, pos := "core.go:81", after := #[{ on := 7, ground := Ground.data }], guard := none }) (v := ?vr7) rfl (by kernel_rfl) (by kernel_rfl) (by kernel_rfl) (fun _ _ _ h => h) (Or.inl ⟨by rfl, ?yr7⟩) (by assumption) ?rr7
  case yr7 => (intro w hSw; (try dsimp only at hSw); go_simp; (try with_reducible rfl))
  (try simp only [Act.put, List.setIfInBounds_toArray, List.set_cons_zero, List.set_cons_succ])
  refine wpAnyH_ready (rs := [3, 6, 9]) (by kernel_rfl) (by simp) ?_
  refine AllReadyH.cons (o := { dst := some 62, op := Op.makeSlice 24 (Operand.tmp 61) (Operand.tmp 61), type := 24, pos := "core.go:81", after := #[{ on := 2, ground := Ground.data }, { on := 2, ground := Ground.data }], guard := none }) rfl (fun K hK => ?_) ?_
  · go_simp
    refine hK.out _ _ ?_ (fun hHr7 => ?_)
    · (try dsimp only)
      exact HX.out _ (below_then E9.out E9.out.size (below_alloc HBd10.out _))
    clear hK K hH
    (try simp only [Act.put, List.setIfInBounds_toArray, List.set_cons_zero, List.set_cons_succ])
    refine wpAnyH_ready (rs := [6, 9]) (by kernel_rfl) (by simp) ?_
    refine AllReadyH.cons (o := { dst := some 65, op := Op.makeSlice 59 (Operand.tmp 64) (Operand.tmp 64), type := 59, pos := "core.go:81", after := #[{ on := 5, ground := Ground.data }, { on := 5, ground := Ground.data }], guard := none }) rfl (fun K hK => ?_) ?_
    · go_simp
      refine hK.out _ _ ?_ (fun hHr8 => ?_)
      · (try dsimp only)
        exact HX.out _ (below_then E9.out E9.out.size (below_alloc (below_alloc HBd10.out _) _))
      clear hK K hHr7
      (try simp only [Act.put, List.setIfInBounds_toArray, List.set_cons_zero, List.set_cons_succ])
      refine wpAnyH_ready (rs := [9]) (by kernel_rfl) (by simp) ?_
      refine AllReadyH.cons (o := { dst := some 68, op := Op.makeSlice 60 (Operand.tmp 67) (Operand.tmp 67), type := 60, pos := "core.go:81", after := #[{ on := 8, ground := Ground.data }, { on := 8, ground := Ground.data }], guard := none }) rfl (fun K hK => ?_) AllReadyH.nil
      go_simp
      refine hK.out _ _ ?_ (fun hHr9 => ?_)
      · (try dsimp only)
        exact HX.out _ (below_then E9.out E9.out.size (below_alloc (below_alloc (below_alloc HBd10.out _) _) _))
      clear hK K hHr8
      (try simp only [Act.put, List.setIfInBounds_toArray, List.set_cons_zero, List.set_cons_succ])
      refine wpAnyH_take (i := 10) (oi := { dst := some 69, op := Op.build 62 #[(0, Operand.tmp 59), (1, Operand.tmp 62), (2, Operand.tmp 65), (3, Operand.tmp 68)], type := 62, pos := "core.go:81", after := #[{ on := 0, ground := Ground.data }, { on := 3, ground := Ground.data }, { on := 6, ground := Ground.data }, { on := 9, ground := Ground.data }], guard := none }) (v := ?vr11) rfl (by kernel_rfl) (by kernel_rfl) (by kernel_rfl) (fun _ _ _ h => h) (Or.inl ⟨by rfl, ?yr11⟩) (by assumption) ?rr11
      case yr11 => (intro w hSw; (try dsimp only at hSw); go_simp; (try with_reducible rfl))
      (try simp only [Act.put, List.setIfInBounds_toArray, List.set_cons_zero, List.set_cons_succ])
      refine wpAnyH_ready (rs := [11]) (by kernel_rfl) (by simp) ?_
      refine AllReadyH.cons (o := { dst := some 70, op := Op.box 62 (Operand.tmp 69), type := 42, pos := "core.go:81", after := #[{ on := 10, ground := Ground.data }], guard := none }) rfl (fun K hK => ?_) AllReadyH.nil
      go_simp
      refine hK.out _ _ ?_ (fun hHr11 => ?_)
      · (try dsimp only)
        exact HX.out _ (below_then E9.out E9.out.size (below_alloc (below_alloc (below_alloc (below_alloc HBd10.out _) _) _) _))
      clear hK K hHr9
      (try simp only [Act.put, List.setIfInBounds_toArray, List.set_cons_zero, List.set_cons_succ])
      refine wpAnyH_take (i := 12) (oi := { dst := some 4, op := Op.assign (Operand.tmp 70), type := 42, pos := "core.go:81", after := #[{ on := 11, ground := Ground.data }, { on := 0, ground := Ground.phase }, { on := 1, ground := Ground.phase }, { on := 2, ground := Ground.phase }, { on := 3, ground := Ground.phase }, { on := 4, ground := Ground.phase }, { on := 5, ground := Ground.phase }, { on := 6, ground := Ground.phase }, { on := 7, ground := Ground.phase }, { on := 8, ground := Ground.phase }, { on := 9, ground := Ground.phase }, { on := 10, ground := Ground.phase }, { on := 11, ground := Ground.phase }], guard := none }) (v := ?vr13) rfl (by kernel_rfl) (by kernel_rfl) (by kernel_rfl) (fun _ _ _ h => h) (Or.inl ⟨by rfl, ?yr13⟩) (by assumption) ?rr13
      case yr13 => (intro w hSw; (try dsimp only at hSw); go_simp; (try with_reducible rfl))
      (try simp only [Act.put, List.setIfInBounds_toArray, List.set_cons_zero, List.set_cons_succ])
      refine wpAnyH_take (i := 13) (oi := { dst := some 5, op := Op.assign (Operand.const (Value.int IntKind.i64 0)), type := 26, pos := "core.go:81", after := #[{ on := 12, ground := Ground.chain }, { on := 0, ground := Ground.phase }, { on := 1, ground := Ground.phase }, { on := 2, ground := Ground.phase }, { on := 3, ground := Ground.phase }, { on := 4, ground := Ground.phase }, { on := 5, ground := Ground.phase }, { on := 6, ground := Ground.phase }, { on := 7, ground := Ground.phase }, { on := 8, ground := Ground.phase }, { on := 9, ground := Ground.phase }, { on := 10, ground := Ground.phase }, { on := 11, ground := Ground.phase }, { on := 12, ground := Ground.phase }], guard := none }) (v := ?vr14) rfl (by kernel_rfl) (by kernel_rfl) (by kernel_rfl) (fun _ _ _ h => h) (Or.inl ⟨by rfl, ?yr14⟩) (by assumption) ?rr14
      case yr14 => (intro w hSw; (try dsimp only at hSw); go_simp; (try with_reducible rfl))
      (try simp only [Act.put, List.setIfInBounds_toArray, List.set_cons_zero, List.set_cons_succ])
      refine wpAnyH_done (by kernel_rfl) ?_ _
      go_wp2
      go_ret2
      have q := alloc4 w10 (.cells (madeCells #[.int .i64 0] c.f4.toNat) 3) (.cells (madeCells #[.bool false] c.f4.toNat) 4) (.cells (madeCells #[.int .i64 0] c.f4.toNat) 26) (.cells #[.pointer (some ⟨p, 0, none⟩), .slice (some ⟨w10.heap.size, 0, none⟩) c.f4.toNat c.f4.toNat, .slice (some ⟨w10.heap.size + 1, 0, none⟩) c.f4.toNat c.f4.toNat, .slice (some ⟨w10.heap.size + 1 + 1, 0, none⟩) c.f4.toNat c.f4.toNat, .int .i64 0] 62)
      have nn := HNUM.out
      exact made_end (W := w10) (cb := cb) (tb := tb) (db := db) (nb := w7.heap.size + 1) (sb := w7.heap.size + 1 + 1) (p := p) (kT := w10.heap.size) (kA := w10.heap.size + 1) (kD := w10.heap.size + 1 + 1) (wT0 := w5.heap.size) (wT1 := w6.heap.size) (FC := fun k => w.heap.size ≤ k ∧ k < w4.heap.size) HTP.out HN2.out (by omega) q.1 q.2.1 q.2.2.1 q.2.2.2.1 (by omega) (by omega) (by omega) (below_drew q.2.2.2.2) HPP.out HCL.out (fun k hk => ⟨hk.1, by omega⟩) HF6.out nn.2.2.2.1 nn.2.2.1 nn.2.2.2.2 nn.1 HTB.out J0.out
    refine AllReadyH.cons (o := { dst := some 68, op := Op.makeSlice 60 (Operand.tmp 67) (Operand.tmp 67), type := 60, pos := "core.go:81", after := #[{ on := 8, ground := Ground.data }, { on := 8, ground := Ground.data }], guard := none }) rfl (fun K hK => ?_) ?_
    · go_simp
      refine hK.out _ _ ?_ (fun hHr14 => ?_)
      · (try dsimp only)
        exact HX.out _ (below_then E9.out E9.out.size (below_alloc (below_alloc HBd10.out _) _))
      clear hK K hHr7
      (try simp only [Act.put, List.setIfInBounds_toArray, List.set_cons_zero, List.set_cons_succ])
      refine wpAnyH_ready (rs := [6]) (by kernel_rfl) (by simp) ?_
      refine AllReadyH.cons (o := { dst := some 65, op := Op.makeSlice 59 (Operand.tmp 64) (Operand.tmp 64), type := 59, pos := "core.go:81", after := #[{ on := 5, ground := Ground.data }, { on := 5, ground := Ground.data }], guard := none }) rfl (fun K hK => ?_) AllReadyH.nil
      go_simp
      refine hK.out _ _ ?_ (fun hHr15 => ?_)
      · (try dsimp only)
        exact HX.out _ (below_then E9.out E9.out.size (below_alloc (below_alloc (below_alloc HBd10.out _) _) _))
      clear hK K hHr14
      (try simp only [Act.put, List.setIfInBounds_toArray, List.set_cons_zero, List.set_cons_succ])
      refine wpAnyH_take (i := 10) (oi := { dst := some 69, op := Op.build 62 #[(0, Operand.tmp 59), (1, Operand.tmp 62), (2, Operand.tmp 65), (3, Operand.tmp 68)], type := 62, pos := "core.go:81", after := #[{ on := 0, ground := Ground.data }, { on := 3, ground := Ground.data }, { on := 6, ground := Ground.data }, { on := 9, ground := Ground.data }], guard := none }) (v := ?vr17) rfl (by kernel_rfl) (by kernel_rfl) (by kernel_rfl) (fun _ _ _ h => h) (Or.inl ⟨by rfl, ?yr17⟩) (by assumption) ?rr17
      case yr17 => (intro w hSw; (try dsimp only at hSw); go_simp; (try with_reducible rfl))
      (try simp only [Act.put, List.setIfInBounds_toArray, List.set_cons_zero, List.set_cons_succ])
      refine wpAnyH_ready (rs := [11]) (by kernel_rfl) (by simp) ?_
      refine AllReadyH.cons (o := { dst := some 70, op := Op.box 62 (Operand.tmp 69), type := 42, pos := "core.go:81", after := #[{ on := 10, ground := Ground.data }], guard := none }) rfl (fun K hK => ?_) AllReadyH.nil
      go_simp
      refine hK.out _ _ ?_ (fun hHr17 => ?_)
      · (try dsimp only)
        exact HX.out _ (below_then E9.out E9.out.size (below_alloc (below_alloc (below_alloc (below_alloc HBd10.out _) _) _) _))
      clear hK K hHr15
      (try simp only [Act.put, List.setIfInBounds_toArray, List.set_cons_zero, List.set_cons_succ])
      refine wpAnyH_take (i := 12) (oi := { dst := some 4, op := Op.assign (Operand.tmp 70), type := 42, pos := "core.go:81", after := #[{ on := 11, ground := Ground.data }, { on := 0, ground := Ground.phase }, { on := 1, ground := Ground.phase }, { on := 2, ground := Ground.phase }, { on := 3, ground := Ground.phase }, { on := 4, ground := Ground.phase }, { on := 5, ground := Ground.phase }, { on := 6, ground := Ground.phase }, { on := 7, ground := Ground.phase }, { on := 8, ground := Ground.phase }, { on := 9, ground := Ground.phase }, { on := 10, ground := Ground.phase }, { on := 11, ground := Ground.phase }], guard := none }) (v := ?vr19) rfl (by kernel_rfl) (by kernel_rfl) (by kernel_rfl) (fun _ _ _ h => h) (Or.inl ⟨by rfl, ?yr19⟩) (by assumption) ?rr19
      case yr19 => (intro w hSw; (try dsimp only at hSw); go_simp; (try with_reducible rfl))
      (try simp only [Act.put, List.setIfInBounds_toArray, List.set_cons_zero, List.set_cons_succ])
      refine wpAnyH_take (i := 13) (oi := { dst := some 5, op := Op.assign (Operand.const (Value.int IntKind.i64 0)), type := 26, pos := "core.go:81", after := #[{ on := 12, ground := Ground.chain }, { on := 0, ground := Ground.phase }, { on := 1, ground := Ground.phase }, { on := 2, ground := Ground.phase }, { on := 3, ground := Ground.phase }, { on := 4, ground := Ground.phase }, { on := 5, ground := Ground.phase }, { on := 6, ground := Ground.phase }, { on := 7, ground := Ground.phase }, { on := 8, ground := Ground.phase }, { on := 9, ground := Ground.phase }, { on := 10, ground := Ground.phase }, { on := 11, ground := Ground.phase }, { on := 12, ground := Ground.phase }], guard := none }) (v := ?vr20) rfl (by kernel_rfl) (by kernel_rfl) (by kernel_rfl) (fun _ _ _ h => h) (Or.inl ⟨by rfl, ?yr20⟩) (by assumption) ?rr20
      case yr20 => (intro w hSw; (try dsimp only at hSw); go_simp; (try with_reducible rfl))
      (try simp only [Act.put, List.setIfInBounds_toArray, List.set_cons_zero, List.set_cons_succ])
      refine wpAnyH_done (by kernel_rfl) ?_ _
      go_wp2
      go_ret2
      have q := alloc4 w10 (.cells (madeCells #[.int .i64 0] c.f4.toNat) 3) (.cells (madeCells #[.int .i64 0] c.f4.toNat) 26) (.cells (madeCells #[.bool false] c.f4.toNat) 4) (.cells #[.pointer (some ⟨p, 0, none⟩), .slice (some ⟨w10.heap.size, 0, none⟩) c.f4.toNat c.f4.toNat, .slice (some ⟨w10.heap.size + 1 + 1, 0, none⟩) c.f4.toNat c.f4.toNat, .slice (some ⟨w10.heap.size + 1, 0, none⟩) c.f4.toNat c.f4.toNat, .int .i64 0] 62)
      have nn := HNUM.out
      exact made_end (W := w10) (cb := cb) (tb := tb) (db := db) (nb := w7.heap.size + 1) (sb := w7.heap.size + 1 + 1) (p := p) (kT := w10.heap.size) (kA := w10.heap.size + 1 + 1) (kD := w10.heap.size + 1) (wT0 := w5.heap.size) (wT1 := w6.heap.size) (FC := fun k => w.heap.size ≤ k ∧ k < w4.heap.size) HTP.out HN2.out (by omega) q.1 q.2.2.1 q.2.1 q.2.2.2.1 (by omega) (by omega) (by omega) (below_drew q.2.2.2.2) HPP.out HCL.out (fun k hk => ⟨hk.1, by omega⟩) HF6.out nn.2.2.2.1 nn.2.2.1 nn.2.2.2.2 nn.1 HTB.out J0.out
    exact AllReadyH.nil
  refine AllReadyH.cons (o := { dst := some 65, op := Op.makeSlice 59 (Operand.tmp 64) (Operand.tmp 64), type := 59, pos := "core.go:81", after := #[{ on := 5, ground := Ground.data }, { on := 5, ground := Ground.data }], guard := none }) rfl (fun K hK => ?_) ?_
  · go_simp
    refine hK.out _ _ ?_ (fun hHr20 => ?_)
    · (try dsimp only)
      exact HX.out _ (below_then E9.out E9.out.size (below_alloc HBd10.out _))
    clear hK K hH
    (try simp only [Act.put, List.setIfInBounds_toArray, List.set_cons_zero, List.set_cons_succ])
    refine wpAnyH_ready (rs := [3, 9]) (by kernel_rfl) (by simp) ?_
    refine AllReadyH.cons (o := { dst := some 62, op := Op.makeSlice 24 (Operand.tmp 61) (Operand.tmp 61), type := 24, pos := "core.go:81", after := #[{ on := 2, ground := Ground.data }, { on := 2, ground := Ground.data }], guard := none }) rfl (fun K hK => ?_) ?_
    · go_simp
      refine hK.out _ _ ?_ (fun hHr21 => ?_)
      · (try dsimp only)
        exact HX.out _ (below_then E9.out E9.out.size (below_alloc (below_alloc HBd10.out _) _))
      clear hK K hHr20
      (try simp only [Act.put, List.setIfInBounds_toArray, List.set_cons_zero, List.set_cons_succ])
      refine wpAnyH_ready (rs := [9]) (by kernel_rfl) (by simp) ?_
      refine AllReadyH.cons (o := { dst := some 68, op := Op.makeSlice 60 (Operand.tmp 67) (Operand.tmp 67), type := 60, pos := "core.go:81", after := #[{ on := 8, ground := Ground.data }, { on := 8, ground := Ground.data }], guard := none }) rfl (fun K hK => ?_) AllReadyH.nil
      go_simp
      refine hK.out _ _ ?_ (fun hHr22 => ?_)
      · (try dsimp only)
        exact HX.out _ (below_then E9.out E9.out.size (below_alloc (below_alloc (below_alloc HBd10.out _) _) _))
      clear hK K hHr21
      (try simp only [Act.put, List.setIfInBounds_toArray, List.set_cons_zero, List.set_cons_succ])
      refine wpAnyH_take (i := 10) (oi := { dst := some 69, op := Op.build 62 #[(0, Operand.tmp 59), (1, Operand.tmp 62), (2, Operand.tmp 65), (3, Operand.tmp 68)], type := 62, pos := "core.go:81", after := #[{ on := 0, ground := Ground.data }, { on := 3, ground := Ground.data }, { on := 6, ground := Ground.data }, { on := 9, ground := Ground.data }], guard := none }) (v := ?vr24) rfl (by kernel_rfl) (by kernel_rfl) (by kernel_rfl) (fun _ _ _ h => h) (Or.inl ⟨by rfl, ?yr24⟩) (by assumption) ?rr24
      case yr24 => (intro w hSw; (try dsimp only at hSw); go_simp; (try with_reducible rfl))
      (try simp only [Act.put, List.setIfInBounds_toArray, List.set_cons_zero, List.set_cons_succ])
      refine wpAnyH_ready (rs := [11]) (by kernel_rfl) (by simp) ?_
      refine AllReadyH.cons (o := { dst := some 70, op := Op.box 62 (Operand.tmp 69), type := 42, pos := "core.go:81", after := #[{ on := 10, ground := Ground.data }], guard := none }) rfl (fun K hK => ?_) AllReadyH.nil
      go_simp
      refine hK.out _ _ ?_ (fun hHr24 => ?_)
      · (try dsimp only)
        exact HX.out _ (below_then E9.out E9.out.size (below_alloc (below_alloc (below_alloc (below_alloc HBd10.out _) _) _) _))
      clear hK K hHr22
      (try simp only [Act.put, List.setIfInBounds_toArray, List.set_cons_zero, List.set_cons_succ])
      refine wpAnyH_take (i := 12) (oi := { dst := some 4, op := Op.assign (Operand.tmp 70), type := 42, pos := "core.go:81", after := #[{ on := 11, ground := Ground.data }, { on := 0, ground := Ground.phase }, { on := 1, ground := Ground.phase }, { on := 2, ground := Ground.phase }, { on := 3, ground := Ground.phase }, { on := 4, ground := Ground.phase }, { on := 5, ground := Ground.phase }, { on := 6, ground := Ground.phase }, { on := 7, ground := Ground.phase }, { on := 8, ground := Ground.phase }, { on := 9, ground := Ground.phase }, { on := 10, ground := Ground.phase }, { on := 11, ground := Ground.phase }], guard := none }) (v := ?vr26) rfl (by kernel_rfl) (by kernel_rfl) (by kernel_rfl) (fun _ _ _ h => h) (Or.inl ⟨by rfl, ?yr26⟩) (by assumption) ?rr26
      case yr26 => (intro w hSw; (try dsimp only at hSw); go_simp; (try with_reducible rfl))
      (try simp only [Act.put, List.setIfInBounds_toArray, List.set_cons_zero, List.set_cons_succ])
      refine wpAnyH_take (i := 13) (oi := { dst := some 5, op := Op.assign (Operand.const (Value.int IntKind.i64 0)), type := 26, pos := "core.go:81", after := #[{ on := 12, ground := Ground.chain }, { on := 0, ground := Ground.phase }, { on := 1, ground := Ground.phase }, { on := 2, ground := Ground.phase }, { on := 3, ground := Ground.phase }, { on := 4, ground := Ground.phase }, { on := 5, ground := Ground.phase }, { on := 6, ground := Ground.phase }, { on := 7, ground := Ground.phase }, { on := 8, ground := Ground.phase }, { on := 9, ground := Ground.phase }, { on := 10, ground := Ground.phase }, { on := 11, ground := Ground.phase }, { on := 12, ground := Ground.phase }], guard := none }) (v := ?vr27) rfl (by kernel_rfl) (by kernel_rfl) (by kernel_rfl) (fun _ _ _ h => h) (Or.inl ⟨by rfl, ?yr27⟩) (by assumption) ?rr27
      case yr27 => (intro w hSw; (try dsimp only at hSw); go_simp; (try with_reducible rfl))
      (try simp only [Act.put, List.setIfInBounds_toArray, List.set_cons_zero, List.set_cons_succ])
      refine wpAnyH_done (by kernel_rfl) ?_ _
      go_wp2
      go_ret2
      have q := alloc4 w10 (.cells (madeCells #[.bool false] c.f4.toNat) 4) (.cells (madeCells #[.int .i64 0] c.f4.toNat) 3) (.cells (madeCells #[.int .i64 0] c.f4.toNat) 26) (.cells #[.pointer (some ⟨p, 0, none⟩), .slice (some ⟨w10.heap.size + 1, 0, none⟩) c.f4.toNat c.f4.toNat, .slice (some ⟨w10.heap.size, 0, none⟩) c.f4.toNat c.f4.toNat, .slice (some ⟨w10.heap.size + 1 + 1, 0, none⟩) c.f4.toNat c.f4.toNat, .int .i64 0] 62)
      have nn := HNUM.out
      exact made_end (W := w10) (cb := cb) (tb := tb) (db := db) (nb := w7.heap.size + 1) (sb := w7.heap.size + 1 + 1) (p := p) (kT := w10.heap.size + 1) (kA := w10.heap.size) (kD := w10.heap.size + 1 + 1) (wT0 := w5.heap.size) (wT1 := w6.heap.size) (FC := fun k => w.heap.size ≤ k ∧ k < w4.heap.size) HTP.out HN2.out (by omega) q.2.1 q.1 q.2.2.1 q.2.2.2.1 (by omega) (by omega) (by omega) (below_drew q.2.2.2.2) HPP.out HCL.out (fun k hk => ⟨hk.1, by omega⟩) HF6.out nn.2.2.2.1 nn.2.2.1 nn.2.2.2.2 nn.1 HTB.out J0.out
    refine AllReadyH.cons (o := { dst := some 68, op := Op.makeSlice 60 (Operand.tmp 67) (Operand.tmp 67), type := 60, pos := "core.go:81", after := #[{ on := 8, ground := Ground.data }, { on := 8, ground := Ground.data }], guard := none }) rfl (fun K hK => ?_) ?_
    · go_simp
      refine hK.out _ _ ?_ (fun hHr27 => ?_)
      · (try dsimp only)
        exact HX.out _ (below_then E9.out E9.out.size (below_alloc (below_alloc HBd10.out _) _))
      clear hK K hHr20
      (try simp only [Act.put, List.setIfInBounds_toArray, List.set_cons_zero, List.set_cons_succ])
      refine wpAnyH_ready (rs := [3]) (by kernel_rfl) (by simp) ?_
      refine AllReadyH.cons (o := { dst := some 62, op := Op.makeSlice 24 (Operand.tmp 61) (Operand.tmp 61), type := 24, pos := "core.go:81", after := #[{ on := 2, ground := Ground.data }, { on := 2, ground := Ground.data }], guard := none }) rfl (fun K hK => ?_) AllReadyH.nil
      go_simp
      refine hK.out _ _ ?_ (fun hHr28 => ?_)
      · (try dsimp only)
        exact HX.out _ (below_then E9.out E9.out.size (below_alloc (below_alloc (below_alloc HBd10.out _) _) _))
      clear hK K hHr27
      (try simp only [Act.put, List.setIfInBounds_toArray, List.set_cons_zero, List.set_cons_succ])
      refine wpAnyH_take (i := 10) (oi := { dst := some 69, op := Op.build 62 #[(0, Operand.tmp 59), (1, Operand.tmp 62), (2, Operand.tmp 65), (3, Operand.tmp 68)], type := 62, pos := "core.go:81", after := #[{ on := 0, ground := Ground.data }, { on := 3, ground := Ground.data }, { on := 6, ground := Ground.data }, { on := 9, ground := Ground.data }], guard := none }) (v := ?vr30) rfl (by kernel_rfl) (by kernel_rfl) (by kernel_rfl) (fun _ _ _ h => h) (Or.inl ⟨by rfl, ?yr30⟩) (by assumption) ?rr30
      case yr30 => (intro w hSw; (try dsimp only at hSw); go_simp; (try with_reducible rfl))
      (try simp only [Act.put, List.setIfInBounds_toArray, List.set_cons_zero, List.set_cons_succ])
      refine wpAnyH_ready (rs := [11]) (by kernel_rfl) (by simp) ?_
      refine AllReadyH.cons (o := { dst := some 70, op := Op.box 62 (Operand.tmp 69), type := 42, pos := "core.go:81", after := #[{ on := 10, ground := Ground.data }], guard := none }) rfl (fun K hK => ?_) AllReadyH.nil
      go_simp
      refine hK.out _ _ ?_ (fun hHr30 => ?_)
      · (try dsimp only)
        exact HX.out _ (below_then E9.out E9.out.size (below_alloc (below_alloc (below_alloc (below_alloc HBd10.out _) _) _) _))
      clear hK K hHr28
      (try simp only [Act.put, List.setIfInBounds_toArray, List.set_cons_zero, List.set_cons_succ])
      refine wpAnyH_take (i := 12) (oi := { dst := some 4, op := Op.assign (Operand.tmp 70), type := 42, pos := "core.go:81", after := #[{ on := 11, ground := Ground.data }, { on := 0, ground := Ground.phase }, { on := 1, ground := Ground.phase }, { on := 2, ground := Ground.phase }, { on := 3, ground := Ground.phase }, { on := 4, ground := Ground.phase }, { on := 5, ground := Ground.phase }, { on := 6, ground := Ground.phase }, { on := 7, ground := Ground.phase }, { on := 8, ground := Ground.phase }, { on := 9, ground := Ground.phase }, { on := 10, ground := Ground.phase }, { on := 11, ground := Ground.phase }], guard := none }) (v := ?vr32) rfl (by kernel_rfl) (by kernel_rfl) (by kernel_rfl) (fun _ _ _ h => h) (Or.inl ⟨by rfl, ?yr32⟩) (by assumption) ?rr32
      case yr32 => (intro w hSw; (try dsimp only at hSw); go_simp; (try with_reducible rfl))
      (try simp only [Act.put, List.setIfInBounds_toArray, List.set_cons_zero, List.set_cons_succ])
      refine wpAnyH_take (i := 13) (oi := { dst := some 5, op := Op.assign (Operand.const (Value.int IntKind.i64 0)), type := 26, pos := "core.go:81", after := #[{ on := 12, ground := Ground.chain }, { on := 0, ground := Ground.phase }, { on := 1, ground := Ground.phase }, { on := 2, ground := Ground.phase }, { on := 3, ground := Ground.phase }, { on := 4, ground := Ground.phase }, { on := 5, ground := Ground.phase }, { on := 6, ground := Ground.phase }, { on := 7, ground := Ground.phase }, { on := 8, ground := Ground.phase }, { on := 9, ground := Ground.phase }, { on := 10, ground := Ground.phase }, { on := 11, ground := Ground.phase }, { on := 12, ground := Ground.phase }], guard := none }) (v := ?vr33) rfl (by kernel_rfl) (by kernel_rfl) (by kernel_rfl) (fun _ _ _ h => h) (Or.inl ⟨by rfl, ?yr33⟩) (by assumption) ?rr33
      case yr33 => (intro w hSw; (try dsimp only at hSw); go_simp; (try with_reducible rfl))
      (try simp only [Act.put, List.setIfInBounds_toArray, List.set_cons_zero, List.set_cons_succ])
      refine wpAnyH_done (by kernel_rfl) ?_ _
      go_wp2
      go_ret2
      have q := alloc4 w10 (.cells (madeCells #[.bool false] c.f4.toNat) 4) (.cells (madeCells #[.int .i64 0] c.f4.toNat) 26) (.cells (madeCells #[.int .i64 0] c.f4.toNat) 3) (.cells #[.pointer (some ⟨p, 0, none⟩), .slice (some ⟨w10.heap.size + 1 + 1, 0, none⟩) c.f4.toNat c.f4.toNat, .slice (some ⟨w10.heap.size, 0, none⟩) c.f4.toNat c.f4.toNat, .slice (some ⟨w10.heap.size + 1, 0, none⟩) c.f4.toNat c.f4.toNat, .int .i64 0] 62)
      have nn := HNUM.out
      exact made_end (W := w10) (cb := cb) (tb := tb) (db := db) (nb := w7.heap.size + 1) (sb := w7.heap.size + 1 + 1) (p := p) (kT := w10.heap.size + 1 + 1) (kA := w10.heap.size) (kD := w10.heap.size + 1) (wT0 := w5.heap.size) (wT1 := w6.heap.size) (FC := fun k => w.heap.size ≤ k ∧ k < w4.heap.size) HTP.out HN2.out (by omega) q.2.2.1 q.1 q.2.1 q.2.2.2.1 (by omega) (by omega) (by omega) (below_drew q.2.2.2.2) HPP.out HCL.out (fun k hk => ⟨hk.1, by omega⟩) HF6.out nn.2.2.2.1 nn.2.2.1 nn.2.2.2.2 nn.1 HTB.out J0.out
    exact AllReadyH.nil
  refine AllReadyH.cons (o := { dst := some 68, op := Op.makeSlice 60 (Operand.tmp 67) (Operand.tmp 67), type := 60, pos := "core.go:81", after := #[{ on := 8, ground := Ground.data }, { on := 8, ground := Ground.data }], guard := none }) rfl (fun K hK => ?_) ?_
  · go_simp
    refine hK.out _ _ ?_ (fun hHr33 => ?_)
    · (try dsimp only)
      exact HX.out _ (below_then E9.out E9.out.size (below_alloc HBd10.out _))
    clear hK K hH
    (try simp only [Act.put, List.setIfInBounds_toArray, List.set_cons_zero, List.set_cons_succ])
    refine wpAnyH_ready (rs := [3, 6]) (by kernel_rfl) (by simp) ?_
    refine AllReadyH.cons (o := { dst := some 62, op := Op.makeSlice 24 (Operand.tmp 61) (Operand.tmp 61), type := 24, pos := "core.go:81", after := #[{ on := 2, ground := Ground.data }, { on := 2, ground := Ground.data }], guard := none }) rfl (fun K hK => ?_) ?_
    · go_simp
      refine hK.out _ _ ?_ (fun hHr34 => ?_)
      · (try dsimp only)
        exact HX.out _ (below_then E9.out E9.out.size (below_alloc (below_alloc HBd10.out _) _))
      clear hK K hHr33
      (try simp only [Act.put, List.setIfInBounds_toArray, List.set_cons_zero, List.set_cons_succ])
      refine wpAnyH_ready (rs := [6]) (by kernel_rfl) (by simp) ?_
      refine AllReadyH.cons (o := { dst := some 65, op := Op.makeSlice 59 (Operand.tmp 64) (Operand.tmp 64), type := 59, pos := "core.go:81", after := #[{ on := 5, ground := Ground.data }, { on := 5, ground := Ground.data }], guard := none }) rfl (fun K hK => ?_) AllReadyH.nil
      go_simp
      refine hK.out _ _ ?_ (fun hHr35 => ?_)
      · (try dsimp only)
        exact HX.out _ (below_then E9.out E9.out.size (below_alloc (below_alloc (below_alloc HBd10.out _) _) _))
      clear hK K hHr34
      (try simp only [Act.put, List.setIfInBounds_toArray, List.set_cons_zero, List.set_cons_succ])
      refine wpAnyH_take (i := 10) (oi := { dst := some 69, op := Op.build 62 #[(0, Operand.tmp 59), (1, Operand.tmp 62), (2, Operand.tmp 65), (3, Operand.tmp 68)], type := 62, pos := "core.go:81", after := #[{ on := 0, ground := Ground.data }, { on := 3, ground := Ground.data }, { on := 6, ground := Ground.data }, { on := 9, ground := Ground.data }], guard := none }) (v := ?vr37) rfl (by kernel_rfl) (by kernel_rfl) (by kernel_rfl) (fun _ _ _ h => h) (Or.inl ⟨by rfl, ?yr37⟩) (by assumption) ?rr37
      case yr37 => (intro w hSw; (try dsimp only at hSw); go_simp; (try with_reducible rfl))
      (try simp only [Act.put, List.setIfInBounds_toArray, List.set_cons_zero, List.set_cons_succ])
      refine wpAnyH_ready (rs := [11]) (by kernel_rfl) (by simp) ?_
      refine AllReadyH.cons (o := { dst := some 70, op := Op.box 62 (Operand.tmp 69), type := 42, pos := "core.go:81", after := #[{ on := 10, ground := Ground.data }], guard := none }) rfl (fun K hK => ?_) AllReadyH.nil
      go_simp
      refine hK.out _ _ ?_ (fun hHr37 => ?_)
      · (try dsimp only)
        exact HX.out _ (below_then E9.out E9.out.size (below_alloc (below_alloc (below_alloc (below_alloc HBd10.out _) _) _) _))
      clear hK K hHr35
      (try simp only [Act.put, List.setIfInBounds_toArray, List.set_cons_zero, List.set_cons_succ])
      refine wpAnyH_take (i := 12) (oi := { dst := some 4, op := Op.assign (Operand.tmp 70), type := 42, pos := "core.go:81", after := #[{ on := 11, ground := Ground.data }, { on := 0, ground := Ground.phase }, { on := 1, ground := Ground.phase }, { on := 2, ground := Ground.phase }, { on := 3, ground := Ground.phase }, { on := 4, ground := Ground.phase }, { on := 5, ground := Ground.phase }, { on := 6, ground := Ground.phase }, { on := 7, ground := Ground.phase }, { on := 8, ground := Ground.phase }, { on := 9, ground := Ground.phase }, { on := 10, ground := Ground.phase }, { on := 11, ground := Ground.phase }], guard := none }) (v := ?vr39) rfl (by kernel_rfl) (by kernel_rfl) (by kernel_rfl) (fun _ _ _ h => h) (Or.inl ⟨by rfl, ?yr39⟩) (by assumption) ?rr39
      case yr39 => (intro w hSw; (try dsimp only at hSw); go_simp; (try with_reducible rfl))
      (try simp only [Act.put, List.setIfInBounds_toArray, List.set_cons_zero, List.set_cons_succ])
      refine wpAnyH_take (i := 13) (oi := { dst := some 5, op := Op.assign (Operand.const (Value.int IntKind.i64 0)), type := 26, pos := "core.go:81", after := #[{ on := 12, ground := Ground.chain }, { on := 0, ground := Ground.phase }, { on := 1, ground := Ground.phase }, { on := 2, ground := Ground.phase }, { on := 3, ground := Ground.phase }, { on := 4, ground := Ground.phase }, { on := 5, ground := Ground.phase }, { on := 6, ground := Ground.phase }, { on := 7, ground := Ground.phase }, { on := 8, ground := Ground.phase }, { on := 9, ground := Ground.phase }, { on := 10, ground := Ground.phase }, { on := 11, ground := Ground.phase }, { on := 12, ground := Ground.phase }], guard := none }) (v := ?vr40) rfl (by kernel_rfl) (by kernel_rfl) (by kernel_rfl) (fun _ _ _ h => h) (Or.inl ⟨by rfl, ?yr40⟩) (by assumption) ?rr40
      case yr40 => (intro w hSw; (try dsimp only at hSw); go_simp; (try with_reducible rfl))
      (try simp only [Act.put, List.setIfInBounds_toArray, List.set_cons_zero, List.set_cons_succ])
      refine wpAnyH_done (by kernel_rfl) ?_ _
      go_wp2
      go_ret2
      have q := alloc4 w10 (.cells (madeCells #[.int .i64 0] c.f4.toNat) 26) (.cells (madeCells #[.int .i64 0] c.f4.toNat) 3) (.cells (madeCells #[.bool false] c.f4.toNat) 4) (.cells #[.pointer (some ⟨p, 0, none⟩), .slice (some ⟨w10.heap.size + 1, 0, none⟩) c.f4.toNat c.f4.toNat, .slice (some ⟨w10.heap.size + 1 + 1, 0, none⟩) c.f4.toNat c.f4.toNat, .slice (some ⟨w10.heap.size, 0, none⟩) c.f4.toNat c.f4.toNat, .int .i64 0] 62)
      have nn := HNUM.out
      exact made_end (W := w10) (cb := cb) (tb := tb) (db := db) (nb := w7.heap.size + 1) (sb := w7.heap.size + 1 + 1) (p := p) (kT := w10.heap.size + 1) (kA := w10.heap.size + 1 + 1) (kD := w10.heap.size) (wT0 := w5.heap.size) (wT1 := w6.heap.size) (FC := fun k => w.heap.size ≤ k ∧ k < w4.heap.size) HTP.out HN2.out (by omega) q.2.1 q.2.2.1 q.1 q.2.2.2.1 (by omega) (by omega) (by omega) (below_drew q.2.2.2.2) HPP.out HCL.out (fun k hk => ⟨hk.1, by omega⟩) HF6.out nn.2.2.2.1 nn.2.2.1 nn.2.2.2.2 nn.1 HTB.out J0.out
    refine AllReadyH.cons (o := { dst := some 65, op := Op.makeSlice 59 (Operand.tmp 64) (Operand.tmp 64), type := 59, pos := "core.go:81", after := #[{ on := 5, ground := Ground.data }, { on := 5, ground := Ground.data }], guard := none }) rfl (fun K hK => ?_) ?_
    · go_simp
      refine hK.out _ _ ?_ (fun hHr40 => ?_)
      · (try dsimp only)
        exact HX.out _ (below_then E9.out E9.out.size (below_alloc (below_alloc HBd10.out _) _))
      clear hK K hHr33
      (try simp only [Act.put, List.setIfInBounds_toArray, List.set_cons_zero, List.set_cons_succ])
      refine wpAnyH_ready (rs := [3]) (by kernel_rfl) (by simp) ?_
      refine AllReadyH.cons (o := { dst := some 62, op := Op.makeSlice 24 (Operand.tmp 61) (Operand.tmp 61), type := 24, pos := "core.go:81", after := #[{ on := 2, ground := Ground.data }, { on := 2, ground := Ground.data }], guard := none }) rfl (fun K hK => ?_) AllReadyH.nil
      go_simp
      refine hK.out _ _ ?_ (fun hHr41 => ?_)
      · (try dsimp only)
        exact HX.out _ (below_then E9.out E9.out.size (below_alloc (below_alloc (below_alloc HBd10.out _) _) _))
      clear hK K hHr40
      (try simp only [Act.put, List.setIfInBounds_toArray, List.set_cons_zero, List.set_cons_succ])
      refine wpAnyH_take (i := 10) (oi := { dst := some 69, op := Op.build 62 #[(0, Operand.tmp 59), (1, Operand.tmp 62), (2, Operand.tmp 65), (3, Operand.tmp 68)], type := 62, pos := "core.go:81", after := #[{ on := 0, ground := Ground.data }, { on := 3, ground := Ground.data }, { on := 6, ground := Ground.data }, { on := 9, ground := Ground.data }], guard := none }) (v := ?vr43) rfl (by kernel_rfl) (by kernel_rfl) (by kernel_rfl) (fun _ _ _ h => h) (Or.inl ⟨by rfl, ?yr43⟩) (by assumption) ?rr43
      case yr43 => (intro w hSw; (try dsimp only at hSw); go_simp; (try with_reducible rfl))
      (try simp only [Act.put, List.setIfInBounds_toArray, List.set_cons_zero, List.set_cons_succ])
      refine wpAnyH_ready (rs := [11]) (by kernel_rfl) (by simp) ?_
      refine AllReadyH.cons (o := { dst := some 70, op := Op.box 62 (Operand.tmp 69), type := 42, pos := "core.go:81", after := #[{ on := 10, ground := Ground.data }], guard := none }) rfl (fun K hK => ?_) AllReadyH.nil
      go_simp
      refine hK.out _ _ ?_ (fun hHr43 => ?_)
      · (try dsimp only)
        exact HX.out _ (below_then E9.out E9.out.size (below_alloc (below_alloc (below_alloc (below_alloc HBd10.out _) _) _) _))
      clear hK K hHr41
      (try simp only [Act.put, List.setIfInBounds_toArray, List.set_cons_zero, List.set_cons_succ])
      refine wpAnyH_take (i := 12) (oi := { dst := some 4, op := Op.assign (Operand.tmp 70), type := 42, pos := "core.go:81", after := #[{ on := 11, ground := Ground.data }, { on := 0, ground := Ground.phase }, { on := 1, ground := Ground.phase }, { on := 2, ground := Ground.phase }, { on := 3, ground := Ground.phase }, { on := 4, ground := Ground.phase }, { on := 5, ground := Ground.phase }, { on := 6, ground := Ground.phase }, { on := 7, ground := Ground.phase }, { on := 8, ground := Ground.phase }, { on := 9, ground := Ground.phase }, { on := 10, ground := Ground.phase }, { on := 11, ground := Ground.phase }], guard := none }) (v := ?vr45) rfl (by kernel_rfl) (by kernel_rfl) (by kernel_rfl) (fun _ _ _ h => h) (Or.inl ⟨by rfl, ?yr45⟩) (by assumption) ?rr45
      case yr45 => (intro w hSw; (try dsimp only at hSw); go_simp; (try with_reducible rfl))
      (try simp only [Act.put, List.setIfInBounds_toArray, List.set_cons_zero, List.set_cons_succ])
      refine wpAnyH_take (i := 13) (oi := { dst := some 5, op := Op.assign (Operand.const (Value.int IntKind.i64 0)), type := 26, pos := "core.go:81", after := #[{ on := 12, ground := Ground.chain }, { on := 0, ground := Ground.phase }, { on := 1, ground := Ground.phase }, { on := 2, ground := Ground.phase }, { on := 3, ground := Ground.phase }, { on := 4, ground := Ground.phase }, { on := 5, ground := Ground.phase }, { on := 6, ground := Ground.phase }, { on := 7, ground := Ground.phase }, { on := 8, ground := Ground.phase }, { on := 9, ground := Ground.phase }, { on := 10, ground := Ground.phase }, { on := 11, ground := Ground.phase }, { on := 12, ground := Ground.phase }], guard := none }) (v := ?vr46) rfl (by kernel_rfl) (by kernel_rfl) (by kernel_rfl) (fun _ _ _ h => h) (Or.inl ⟨by rfl, ?yr46⟩) (by assumption) ?rr46
      case yr46 => (intro w hSw; (try dsimp only at hSw); go_simp; (try with_reducible rfl))
      (try simp only [Act.put, List.setIfInBounds_toArray, List.set_cons_zero, List.set_cons_succ])
      refine wpAnyH_done (by kernel_rfl) ?_ _
      go_wp2
      go_ret2
      have q := alloc4 w10 (.cells (madeCells #[.int .i64 0] c.f4.toNat) 26) (.cells (madeCells #[.bool false] c.f4.toNat) 4) (.cells (madeCells #[.int .i64 0] c.f4.toNat) 3) (.cells #[.pointer (some ⟨p, 0, none⟩), .slice (some ⟨w10.heap.size + 1 + 1, 0, none⟩) c.f4.toNat c.f4.toNat, .slice (some ⟨w10.heap.size + 1, 0, none⟩) c.f4.toNat c.f4.toNat, .slice (some ⟨w10.heap.size, 0, none⟩) c.f4.toNat c.f4.toNat, .int .i64 0] 62)
      have nn := HNUM.out
      exact made_end (W := w10) (cb := cb) (tb := tb) (db := db) (nb := w7.heap.size + 1) (sb := w7.heap.size + 1 + 1) (p := p) (kT := w10.heap.size + 1 + 1) (kA := w10.heap.size + 1) (kD := w10.heap.size) (wT0 := w5.heap.size) (wT1 := w6.heap.size) (FC := fun k => w.heap.size ≤ k ∧ k < w4.heap.size) HTP.out HN2.out (by omega) q.2.2.1 q.2.1 q.1 q.2.2.2.1 (by omega) (by omega) (by omega) (below_drew q.2.2.2.2) HPP.out HCL.out (fun k hk => ⟨hk.1, by omega⟩) HF6.out nn.2.2.2.1 nn.2.2.1 nn.2.2.2.2 nn.1 HTB.out J0.out
    exact AllReadyH.nil
  exact AllReadyH.nil
end Go.Proofs.YtkfhnicojokafaaGreat.Co
