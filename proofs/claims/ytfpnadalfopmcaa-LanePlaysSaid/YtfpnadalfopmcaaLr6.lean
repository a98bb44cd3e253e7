import Derived.Test.YtfpnadalfopmcaaLr5
import Derived.Test.YtfpnadalfopmcaaLr4
import Derived.Test.YtfpnadalfopmcaaLr2
import Derived.Test.YtfpnadalfopmcaaUp
/- put: the document's, the miss. -/
namespace Go.Proofs.Ytfpnadalfopmcaa.Ln
open Go.RowKit Go.Proofs.YtfpnadalfopmcaaW.PrintWords Go.Proofs.YtfpnadalfopmcaaW.PrintWords.Kd Go.Proofs.YtfpnadalfopmcaaW.PrintLast Go.Proofs.YtfpnadalfopmcaaW.PrintMore Go.Proofs.Ytfpnadalfopmcaa.PMd Go.Proofs.Ytfpnadalfopmcaa
set_option linter.unusedVariables false
set_option linter.unusedSimpArgs false
/-- A row that a literal has made. -/
theorem lit_be {B : Nat} {w0 w : World} (_hb : Below B w0 w) (e sz n : Nat) (cs : Array Value) (h : cs.size = n * sz) (hn : n ≤ maxLen) : Row (w.alloc (.cells cs e)) e sz (some ⟨w.heap.size, 0, none⟩) n n cs.toList := by
  refine ⟨by simpa using h, Nat.le_refl _, hn, .inr ⟨w.heap.size, 0, _, rfl, heap_alloc_new w _, by simp [h], ?_⟩⟩
  have h2 : cs.toList.length = n * sz := by simpa using h
  rw [← h2]
  exact List.take_length
theorem blk_le {a n : Nat} {o : Nat} (h : n ≤ a) : ∀ k, blk (some ⟨a, o, none⟩) k → n ≤ k := by
  rintro k ⟨x, h1, rfl⟩
  cases h1
  exact h
theorem blk_ne {a o a' o' : Nat} (h : a ≠ a') : ∀ k, blk (some ⟨a, o, none⟩) k → ¬ blk (some ⟨a', o', none⟩) k := by
  rintro k ⟨x, h1, rfl⟩ ⟨y, h2, h3⟩
  cases h1
  cases h2
  exact h h3.symm
theorem flat_take' (l : List E) (k : Nat) : (flat l).take (k * 2) = flat (l.take k) := by
  induction l generalizing k with
  | nil => simp [flat]
  | cons y l ih =>
    have e : ∀ (y : E) (l : List E), flat (y :: l) = .int .i64 y.f0 :: .int .i64 y.f1 :: flat l := fun _ _ => rfl
    cases k with
    | zero => simp [flat]
    | succ k => rw [e, List.take_succ_cons, e, show (k + 1) * 2 = (k * 2) + 1 + 1 by omega, List.take_succ_cons, List.take_succ_cons, ih]
theorem flat_drop' (l : List E) (k : Nat) : (flat l).drop (k * 2) = flat (l.drop k) := by
  induction l generalizing k with
  | nil => simp [flat]
  | cons y l ih =>
    have e : ∀ (y : E) (l : List E), flat (y :: l) = .int .i64 y.f0 :: .int .i64 y.f1 :: flat l := fun _ _ => rfl
    cases k with
    | zero => simp
    | succ k => rw [e, List.drop_succ_cons, show (k + 1) * 2 = (k * 2) + 1 + 1 by omega, List.drop_succ_cons, List.drop_succ_cons, ih]
/-- Whatever row of one's own is stored as the holders. -/
theorem IsLR.setH {w W : World} {b : Nat} {F : Nat → Prop} {hs qs : List E} (h : IsLR w b F hs qs) (hb : Below w.heap.size w W) {A : Option Addr} {n c : Nat} {l : List E} {xs : List Value} (hR : Row W 50 2 A n c xs) (hk : ∀ k, blk A k → w.heap.size ≤ k) (hx : xs = flat l) (hn : n = l.length) :
    IsLR (W.setCell ⟨b, 0, none⟩ (.slice A n c)) b (fun j => F j ∨ w.heap.size ≤ j) l qs ∧ Grew F w (W.setCell ⟨b, 0, none⟩ (.slice A n c)) := by
  subst hx; subst hn
  obtain ⟨hA, hc, qA, qc, h1, h2, h3, h4, h5, h6, h7⟩ := h
  have hbl := (Array.getElem?_eq_some_iff.1 h1).1
  have hW : W.heap[b]? = _ := (hb.block b hbl).trans h1
  refine ⟨⟨A, c, qA, qc, ?_, .inl h2, hR.set (fun h => by have := hk _ h; have h9 : w.heap.size ≤ b := this; omega) _, fun k h => .inr (hk k h), (h5.below hb).set (fun h => (h5.ne h1 (by decide)) h) _, fun k h => .inl (h6 k h), fun k h8 h9 => by have := hk k h8; have := h5.lt h9; omega⟩, (Grew.of_below hb).setCell (.inl h2) _⟩
  exact heap_setCell_same W b 0 _ _ _ hW
/-- .. as who waits. -/
theorem IsLR.setQ {w W : World} {b : Nat} {F : Nat → Prop} {hs qs : List E} (h : IsLR w b F hs qs) (hb : Below w.heap.size w W) {A : Option Addr} {n c : Nat} {l : List E} {xs : List Value} (hR : Row W 50 2 A n c xs) (hk : ∀ k, blk A k → w.heap.size ≤ k) (hx : xs = flat l) (hn : n = l.length) :
    IsLR (W.setCell ⟨b, 1, none⟩ (.slice A n c)) b (fun j => F j ∨ w.heap.size ≤ j) hs l ∧ Grew F w (W.setCell ⟨b, 1, none⟩ (.slice A n c)) := by
  subst hx; subst hn
  obtain ⟨hA, hc, qA, qc, h1, h2, h3, h4, h5, h6, h7⟩ := h
  have hbl := (Array.getElem?_eq_some_iff.1 h1).1
  have hW : W.heap[b]? = _ := (hb.block b hbl).trans h1
  refine ⟨⟨hA, hc, A, c, ?_, .inl h2, (h3.below hb).set (fun h => (h3.ne h1 (by decide)) h) _, fun k h => .inl (h4 k h), hR.set (fun h => by have := hk _ h; have h9 : w.heap.size ≤ b := this; omega) _, fun k h => .inr (hk k h), fun k h8 h9 => by have := hk k h9; have := h3.lt h8; omega⟩, (Grew.of_below hb).setCell (.inl h2) _⟩
  exact heap_setCell_same W b 1 _ _ _ hW
set_option maxHeartbeats 8000000 in
set_option maxRecDepth 100000 in
theorem putMiss_R (w : World) (b : Nat) (F : Nat → Prop) (hs qs : List E) (who m : Int) (k : Nat) (hI : IsLR w b F hs qs) (hst : stopAt hs who k) (hk : ¬ (k < hs.length ∧ (hs.getD k zE).f0 = who)) (hbig : hs.length < 1000000000000) :
    Calls Try.prog 32 #[.pointer (some ⟨b, 0, none⟩), .int .i64 who, .int .i64 m] w fun e w' => PutPost b F hs qs who m w e w' := by
  have hu := Try.underlying29
  have hu2 := Try.underlying50
  have HI := Aside0.mk hI
  have HST := Aside0.mk hst
  have HK := Aside0.mk hk
  have HB := Aside0.mk hbig
  have HKL := Aside0.mk hst.1
  have HL := Aside0.mk (show (hs.take k ++ ⟨who, m⟩ :: hs.drop k) = if k < hs.length ∧ (hs.getD k zE).f0 = who then hs.set k ⟨(hs.getD k zE).f0, m⟩ else hs.take k ++ ⟨who, m⟩ :: hs.drop k by rw [if_neg hk])
  have HFL := Aside0.mk (show [] ++ (flat hs).take (k * 2) ++ [Value.int .i64 who, .int .i64 m] ++ (flat hs).drop (k * 2) = flat (hs.take k ++ ⟨who, m⟩ :: hs.drop k) by rw [flat_take', flat_drop']; simp [flat, encE])
  have HNL := Aside0.mk (show 0 + k + 1 + (hs.length - k) = (hs.take k ++ ⟨who, m⟩ :: hs.drop k).length by have := hst.1; simp; omega)
  obtain ⟨hA, hc, qA, qc, h1, h2, h3, h4, h5, h6, h7⟩ := hI
  have HBW := Aside0.mk (Array.getElem?_eq_some_iff.1 h1).1
  have HX := Aside0.mk (fun (W : World) (hb : Below w.heap.size w W) => (show W.cell? ⟨b, 0, none⟩ = some (.slice hA hs.length hc) ∧ W.frozen? ⟨b, 0, none⟩ = false from
    have hW := (hb.block b HBW.out).trans h1
    ⟨(blk_cell hW 0).trans rfl, blk_frozen hW 0⟩))
  have c0 : w.cell? ⟨b, 0, none⟩ = some (.slice hA hs.length hc) := (blk_cell h1 0).trans rfl
  have HW := Aside0.mk h3
  have HR := Aside0.mk h3.reads
  have HBd := Aside0.mk (below_drew (Below.refl w.heap.size w))
  have hm := h3.reads.2.1
  have hcl := h3.2.1
  have hkl := hst.1
  have HF := Aside0.mk (h3.upto k hkl)
  have HO1 := Aside0.mk (show ∀ u ∈ (flat hs).take (k * 2), u.oneCell' = true from fun u hu => flat_one hs u (List.mem_of_mem_take hu))
  have HO2 := Aside0.mk (show ∀ u ∈ (flat hs).drop (k * 2), u.oneCell' = true from fun u hu => flat_one hs u (List.mem_of_mem_drop hu))
  have HBK0 := Aside0.mk (h3.from_ k hkl)
  clear h1 h2 h3 h4 h5 h6 h7 hst hk hbig
  go_enter Try.func32, Try.ntmps32
  go_wp2_with fail
  go_loop [6] (fun u => ∃ i : Nat, i ≤ k ∧ u = .int .i64 i) (fun u => k - (intOf u).toNat)
  case atStart => exact ⟨0, by omega, rfl⟩
  case round =>
    obtain ⟨i, hi, rfl⟩ := hrel
    have p3 : (i : Int) ≤ hs.length := by omega
    have p4 : (i : Int) ≤ hc := by omega
    by_cases hil : i < hs.length
    · obtain ⟨g, off, cur, rfl, hg, -, -⟩ := HW.out.at_ (by omega)
      obtain ⟨ad, e4, q0, q1⟩ := at_T50 HR.out (i : Int) (by omega) (by omega)
      injection e4 with e4
      subst e4
      have p1 : 0 ≤ (i : Int) := by omega
      have p2 : (i : Int) < hs.length := by omega
      have hrd : rd_T50 hs (i : Int) = hs.getD i zE := by simp [rd_T50, zE]
      rw [hrd] at q0 q1
      simp only [Int.toNat_natCast, Addr.add_lit] at q0 q1
      by_cases hlt : i < k
      · have t1 := HST.out.2.1 i hlt
        generalize (hs.getD i zE).f0 = x at q0 t1
        clear hrd q1 hg p3 p4
        go_wp2
        go_round
        case rel => exact ⟨i + 1, by omega, by go_num⟩
        case measure => simp [intOf]; omega
      · obtain rfl : i = k := by omega
        have t1 : ¬ ((hs.getD i zE).f0 < who) := HST.out.2.2 hil
        have t2 : ((hs.getD i zE).f0 == who) = false := beq_eq_false_iff_ne.2 (fun e => HK.out ⟨hil, e⟩)
        have n1 : ¬ hc = i := by omega
        have hBK := HBK0.out
        rw [if_neg n1] at hBK
        simp only [Option.map_some, Addr.add_lit] at hBK
        have HBK := Aside0.mk hBK
        generalize (hs.getD i zE).f0 = x at q0 t1 t2
        clear hrd q1 hg hBK HBK0
        go_wp2_with fail
        clear q0 t1 t2 p1 p2 hlt hi hil
        refine Up.Till.region [23] (fun W => W.cell? ⟨b, 0, none⟩ = some (.slice (some ⟨g, off, none⟩) hs.length hc) ∧ W.frozen? ⟨b, 0, none⟩ = false) (by kernel_rfl) ?_ (fun hH => ?_)
        · exact HX.out _ HBd.out
        refine Up.Till.takeY 0 (oi := { dst := some 55, op := Op.move (Operand.tmp 0), type := 26, pos := "ref.go:56", after := #[], guard := none }) (v := ?vq1) rfl (by rfl) (by kernel_rfl) (by kernel_rfl) (by kernel_rfl) (fun _ _ _ h => h) (Or.inl ⟨by rfl, ?yq1⟩) (fun _ => by assumption) ?rq1
        case yq1 => (intro w hSw; clear hSw; go_simp; (try with_reducible rfl))
        (try simp only [Act.put, List.setIfInBounds_toArray, List.set_cons_zero, List.set_cons_succ])
        refine Up.Till.takeY 2 (oi := { dst := some 57, op := Op.move (Operand.tmp 0), type := 26, pos := "ref.go:56", after := #[], guard := none }) (v := ?vq2) rfl (by rfl) (by kernel_rfl) (by kernel_rfl) (by kernel_rfl) (fun _ _ _ h => h) (Or.inl ⟨by rfl, ?yq2⟩) (fun _ => by assumption) ?rq2
        case yq2 => (intro w hSw; clear hSw; go_simp; (try with_reducible rfl))
        (try simp only [Act.put, List.setIfInBounds_toArray, List.set_cons_zero, List.set_cons_succ])
        refine Up.Till.takeY 3 (oi := { dst := some 58, op := Op.nilCheck (Operand.tmp 57), type := 0, pos := "ref.go:56", after := #[{ on := 2, ground := Ground.data }], guard := none }) (v := ?vq3) rfl (by rfl) (by kernel_rfl) (by kernel_rfl) (by kernel_rfl) (fun _ _ _ h => h) (Or.inl ⟨by rfl, ?yq3⟩) (fun _ => by assumption) ?rq3
        case yq3 => (intro w hSw; clear hSw; go_simp; (try with_reducible rfl))
        (try simp only [Act.put, List.setIfInBounds_toArray, List.set_cons_zero, List.set_cons_succ])
        refine Up.Till.takeY 4 (oi := { dst := some 59, op := Op.fieldAddr 29 (Operand.tmp 58) 0, type := 0, pos := "ref.go:56", after := #[{ on := 3, ground := Ground.data }], guard := none }) (v := ?vq4) rfl (by rfl) (by kernel_rfl) (by kernel_rfl) (by kernel_rfl) (fun _ _ _ h => h) (Or.inl ⟨by rfl, ?yq4⟩) (fun _ => by assumption) ?rq4
        case yq4 => (intro w hSw; clear hSw; go_simp; (try with_reducible rfl))
        (try simp only [Act.put, List.setIfInBounds_toArray, List.set_cons_zero, List.set_cons_succ])
        refine Up.Till.take 5 5 (oi := { dst := some 60, op := Op.load 27 (Operand.tmp 59), type := 27, pos := "ref.go:56", after := #[{ on := 4, ground := Ground.data }], guard := none }) (v := ?vq5) rfl (by rfl) (by kernel_rfl) (by kernel_rfl) (by kernel_rfl) (fun _ _ _ h => h) (by kernel_rfl) (by kernel_rfl) (by kernel_rfl) (Or.inl ⟨by rfl, ?yq5⟩) (by assumption) ?rq5
        case yq5 => (intro w hSw; (try dsimp only at hSw); go_simp; (try with_reducible rfl))
        (try simp only [Act.put, List.setIfInBounds_toArray, List.set_cons_zero, List.set_cons_succ])
        refine Up.Till.takeY 6 (oi := { dst := some 61, op := Op.move (Operand.tmp 6), type := 3, pos := "ref.go:56", after := #[], guard := none }) (v := ?vq6) rfl (by rfl) (by kernel_rfl) (by kernel_rfl) (by kernel_rfl) (fun _ _ _ h => h) (Or.inl ⟨by rfl, ?yq6⟩) (fun _ => by assumption) ?rq6
        case yq6 => (intro w hSw; clear hSw; go_simp; (try with_reducible rfl))
        (try simp only [Act.put, List.setIfInBounds_toArray, List.set_cons_zero, List.set_cons_succ])
        refine Up.Till.takeY 7 (oi := { dst := some 62, op := Op.slice 27 (Operand.tmp 60) none (some (Operand.tmp 61)) none, type := 27, pos := "ref.go:56", after := #[{ on := 5, ground := Ground.data }, { on := 6, ground := Ground.data }], guard := none }) (v := ?vq7) rfl (by rfl) (by kernel_rfl) (by kernel_rfl) (by kernel_rfl) (fun _ _ _ h => h) (Or.inl ⟨by rfl, ?yq7⟩) (fun _ => by assumption) ?rq7
        case yq7 => (intro w hSw; clear hSw; go_simp; (try with_reducible rfl))
        (try simp only [Act.put, List.setIfInBounds_toArray, List.set_cons_zero, List.set_cons_succ])
        refine Up.Till.takeY 9 (oi := { dst := some 64, op := Op.move (Operand.tmp 1), type := 3, pos := "ref.go:56", after := #[], guard := none }) (v := ?vq8) rfl (by rfl) (by kernel_rfl) (by kernel_rfl) (by kernel_rfl) (fun _ _ _ h => h) (Or.inl ⟨by rfl, ?yq8⟩) (fun _ => by assumption) ?rq8
        case yq8 => (intro w hSw; clear hSw; go_simp; (try with_reducible rfl))
        (try simp only [Act.put, List.setIfInBounds_toArray, List.set_cons_zero, List.set_cons_succ])
        refine Up.Till.takeY 10 (oi := { dst := some 65, op := Op.move (Operand.tmp 2), type := 3, pos := "ref.go:56", after := #[], guard := none }) (v := ?vq9) rfl (by rfl) (by kernel_rfl) (by kernel_rfl) (by kernel_rfl) (fun _ _ _ h => h) (Or.inl ⟨by rfl, ?yq9⟩) (fun _ => by assumption) ?rq9
        case yq9 => (intro w hSw; clear hSw; go_simp; (try with_reducible rfl))
        (try simp only [Act.put, List.setIfInBounds_toArray, List.set_cons_zero, List.set_cons_succ])
        refine Up.Till.takeY 11 (oi := { dst := some 66, op := Op.build 50 #[(0, Operand.tmp 64), (1, Operand.tmp 65)], type := 50, pos := "ref.go:56", after := #[{ on := 9, ground := Ground.data }, { on := 10, ground := Ground.data }], guard := none }) (v := ?vq10) rfl (by rfl) (by kernel_rfl) (by kernel_rfl) (by kernel_rfl) (fun _ _ _ h => h) (Or.inl ⟨by rfl, ?yq10⟩) (fun _ => by assumption) ?rq10
        case yq10 => (intro w hSw; clear hSw; go_simp; (try with_reducible rfl))
        (try simp only [Act.put, List.setIfInBounds_toArray, List.set_cons_zero, List.set_cons_succ])
        refine Up.Till.takeY 14 (oi := { dst := some 69, op := Op.move (Operand.tmp 0), type := 26, pos := "ref.go:56", after := #[], guard := none }) (v := ?vq11) rfl (by rfl) (by kernel_rfl) (by kernel_rfl) (by kernel_rfl) (fun _ _ _ h => h) (Or.inl ⟨by rfl, ?yq11⟩) (fun _ => by assumption) ?rq11
        case yq11 => (intro w hSw; clear hSw; go_simp; (try with_reducible rfl))
        (try simp only [Act.put, List.setIfInBounds_toArray, List.set_cons_zero, List.set_cons_succ])
        refine Up.Till.takeY 15 (oi := { dst := some 70, op := Op.nilCheck (Operand.tmp 69), type := 0, pos := "ref.go:56", after := #[{ on := 14, ground := Ground.data }], guard := none }) (v := ?vq12) rfl (by rfl) (by kernel_rfl) (by kernel_rfl) (by kernel_rfl) (fun _ _ _ h => h) (Or.inl ⟨by rfl, ?yq12⟩) (fun _ => by assumption) ?rq12
        case yq12 => (intro w hSw; clear hSw; go_simp; (try with_reducible rfl))
        (try simp only [Act.put, List.setIfInBounds_toArray, List.set_cons_zero, List.set_cons_succ])
        refine Up.Till.takeY 16 (oi := { dst := some 71, op := Op.fieldAddr 29 (Operand.tmp 70) 0, type := 0, pos := "ref.go:56", after := #[{ on := 15, ground := Ground.data }], guard := none }) (v := ?vq13) rfl (by rfl) (by kernel_rfl) (by kernel_rfl) (by kernel_rfl) (fun _ _ _ h => h) (Or.inl ⟨by rfl, ?yq13⟩) (fun _ => by assumption) ?rq13
        case yq13 => (intro w hSw; clear hSw; go_simp; (try with_reducible rfl))
        (try simp only [Act.put, List.setIfInBounds_toArray, List.set_cons_zero, List.set_cons_succ])
        refine Up.Till.take 17 17 (oi := { dst := some 72, op := Op.load 27 (Operand.tmp 71), type := 27, pos := "ref.go:56", after := #[{ on := 16, ground := Ground.data }], guard := none }) (v := ?vq14) rfl (by rfl) (by kernel_rfl) (by kernel_rfl) (by kernel_rfl) (fun _ _ _ h => h) (by kernel_rfl) (by kernel_rfl) (by kernel_rfl) (Or.inl ⟨by rfl, ?yq14⟩) (by assumption) ?rq14
        case yq14 => (intro w hSw; (try dsimp only at hSw); go_simp; (try with_reducible rfl))
        (try simp only [Act.put, List.setIfInBounds_toArray, List.set_cons_zero, List.set_cons_succ])
        refine Up.Till.takeY 18 (oi := { dst := some 73, op := Op.move (Operand.tmp 6), type := 3, pos := "ref.go:56", after := #[], guard := none }) (v := ?vq15) rfl (by rfl) (by kernel_rfl) (by kernel_rfl) (by kernel_rfl) (fun _ _ _ h => h) (Or.inl ⟨by rfl, ?yq15⟩) (fun _ => by assumption) ?rq15
        case yq15 => (intro w hSw; clear hSw; go_simp; (try with_reducible rfl))
        (try simp only [Act.put, List.setIfInBounds_toArray, List.set_cons_zero, List.set_cons_succ])
        refine Up.Till.takeY 19 (oi := { dst := some 74, op := Op.slice 27 (Operand.tmp 72) (some (Operand.tmp 73)) none none, type := 27, pos := "ref.go:56", after := #[{ on := 17, ground := Ground.data }, { on := 18, ground := Ground.data }], guard := none }) (v := ?vq16) rfl (by rfl) (by kernel_rfl) (by kernel_rfl) (by kernel_rfl) (fun _ _ _ h => h) (Or.inl ⟨by rfl, ?yq16⟩) (fun _ => by assumption) ?rq16
        case yq16 => (intro w hSw; clear hSw; go_simp; (try with_reducible rfl))
        (try simp only [Act.put, List.setIfInBounds_toArray, List.set_cons_zero, List.set_cons_succ])
        refine Up.Till.ready (rs := [1, 12]) (by kernel_rfl) (by simp) ?_
        refine Up.TillAll.cons (o := { dst := some 56, op := Op.buildSlice 27 0 #[], type := 27, pos := "ref.go:56", after := #[], guard := none }) rfl (fun K hK => ?_) ?_
        · go_simp
          have B_1 := Aside0.mk (below_alloc HBd.out (.cells #[] 50))
          have E_1 := Aside0.mk (lit_be HBd.out 50 2 0 #[] rfl (by decide))
          have LE := Aside0.mk (HBd.out.size)
          refine hK.out _ _ (fun _ => ?_) (fun hHq16 => ?_)
          · (try dsimp only)
            exact HX.out _ B_1.out
          replace hHq16 := hHq16 (by rfl)
          clear hK K hH
          (try simp only [Act.put, List.setIfInBounds_toArray, List.set_cons_zero, List.set_cons_succ])
          refine Up.Till.ready (rs := [8, 12]) (by kernel_rfl) (by simp) ?_
          refine Up.TillAll.cons (o := { dst := some 63, op := Op.call { callee := Callee.builtin Builtin.append, args := #[Operand.tmp 56, Operand.tmp 62], argTypes := #[27, 27] }, type := 27, pos := "ref.go:56", after := #[{ on := 1, ground := Ground.data }, { on := 7, ground := Ground.data }], guard := none }) rfl (fun K hK => ?_) ?_
          · refine step_append_rows (by rfl) (.tmp 56) (.tmp 62) 27 (by rfl) 50 (.agg #[.int .i64 0, .int .i64 0]) 2 16 Try.underlying27 infoE0 rfl _ 0 0 [] (by simp [Act.eval, Act.put]) E_1.out (some ⟨g, off, none⟩) i hc _ (by simp [Act.eval, Act.put]) (HF.out.below B_1.out) HO1.out (by have := HB.out; have := HKL.out; unfold maxLen; omega) (by have := HB.out; have := HKL.out; omega) ?_
            intro A_1_8 c_1_8 w_1_8 hR6 hG6 hk6
            have B_1_8 := Aside0.mk (hG6.to_below B_1.out B_1.out.size (blk_le (by have := LE.out; first | omega | (simp; done) | (simp; omega) | (simp at this ⊢; omega))))
            have R_1_8 := Aside0.mk hR6
            have K_1_8 := Aside0.mk (show ∀ k, blk A_1_8 k → w.heap.size ≤ k from fun k h => (hk6 k h).elim (blk_le (by have := LE.out; first | omega | (simp; done) | (simp; omega) | (simp at this ⊢; omega)) k) (fun h2 => Nat.le_trans B_1.out.size h2))
            clear hR6 hG6 hk6
            refine hK.out _ _ (fun _ => ?_) (fun hHq17 => ?_)
            · (try dsimp only)
              exact HX.out _ B_1_8.out
            replace hHq17 := hHq17 (by rfl)
            clear hK K hHq16
            (try simp only [Act.put, List.setIfInBounds_toArray, List.set_cons_zero, List.set_cons_succ])
            refine Up.Till.ready (rs := [12]) (by kernel_rfl) (by simp) ?_
            refine Up.TillAll.cons (o := { dst := some 67, op := Op.buildSlice 27 1 #[(0, Operand.tmp 66)], type := 27, pos := "ref.go:56", after := #[{ on := 11, ground := Ground.data }], guard := none }) rfl (fun K hK => ?_) Up.TillAll.nil
            go_simp
            have B_1_8_12 := Aside0.mk (below_alloc B_1_8.out (.cells #[.int .i64 who, .int .i64 m] 50))
            have N_1_8_12 := Aside0.mk (lit_be B_1_8.out 50 2 1 #[.int .i64 who, .int .i64 m] rfl (by decide))
            have R_1_8_12 := Aside0.mk (R_1_8.out.alloc (.cells #[.int .i64 who, .int .i64 m] 50))
            have K_1_8_12 := K_1_8
            refine hK.out _ _ (fun _ => ?_) (fun hHq18 => ?_)
            · (try dsimp only)
              exact HX.out _ B_1_8_12.out
            replace hHq18 := hHq18 (by rfl)
            clear hK K hHq17
            (try simp only [Act.put, List.setIfInBounds_toArray, List.set_cons_zero, List.set_cons_succ])
            refine Up.Till.ready (rs := [13]) (by kernel_rfl) (by simp) ?_
            refine Up.TillAll.cons (o := { dst := some 68, op := Op.call { callee := Callee.builtin Builtin.append, args := #[Operand.tmp 63, Operand.tmp 67], argTypes := #[27, 27] }, type := 27, pos := "ref.go:56", after := #[{ on := 8, ground := Ground.data }, { on := 12, ground := Ground.data }, { on := 8, ground := Ground.chain }], guard := none }) rfl (fun K hK => ?_) Up.TillAll.nil
            refine step_append_rows (by rfl) (.tmp 63) (.tmp 67) 27 (by rfl) 50 (.agg #[.int .i64 0, .int .i64 0]) 2 16 Try.underlying27 infoE0 rfl _ _ _ _ (by simp [Act.eval, Act.put]) R_1_8_12.out _ 1 1 _ (by simp [Act.eval, Act.put]) N_1_8_12.out (by simp [Value.oneCell']) (by have := HB.out; have := HKL.out; unfold maxLen; omega) (by have := HB.out; have := HKL.out; omega) ?_
            intro A_1_8_12_13 c_1_8_12_13 w_1_8_12_13 hR6 hG6 hk6
            have B_1_8_12_13 := Aside0.mk (hG6.to_below B_1_8_12.out B_1_8_12.out.size K_1_8_12.out)
            have R_1_8_12_13 := Aside0.mk hR6
            have K_1_8_12_13 := Aside0.mk (show ∀ k, blk A_1_8_12_13 k → w.heap.size ≤ k from fun k h => (hk6 k h).elim (K_1_8_12.out k) (fun h2 => Nat.le_trans B_1_8_12.out.size h2))
            clear hR6 hG6 hk6
            refine hK.out _ _ (fun _ => ?_) (fun hHq19 => ?_)
            · (try dsimp only)
              exact HX.out _ B_1_8_12_13.out
            replace hHq19 := hHq19 (by rfl)
            clear hK K hHq18
            (try simp only [Act.put, List.setIfInBounds_toArray, List.set_cons_zero, List.set_cons_succ])
            refine Up.Till.ready (rs := [20]) (by kernel_rfl) (by simp) ?_
            refine Up.TillAll.cons (o := { dst := some 75, op := Op.call { callee := Callee.builtin Builtin.append, args := #[Operand.tmp 68, Operand.tmp 74], argTypes := #[27, 27] }, type := 27, pos := "ref.go:56", after := #[{ on := 13, ground := Ground.data }, { on := 19, ground := Ground.data }, { on := 13, ground := Ground.chain }], guard := none }) rfl (fun K hK => ?_) Up.TillAll.nil
            refine step_append_rows (by rfl) (.tmp 68) (.tmp 74) 27 (by rfl) 50 (.agg #[.int .i64 0, .int .i64 0]) 2 16 Try.underlying27 infoE0 rfl _ _ _ _ (by simp [Act.eval, Act.put]) R_1_8_12_13.out (some ⟨g, off + i * 2, none⟩) (hs.length - i) (hc - i) _ (by simp [Act.eval, Act.put]) (HBK.out.below B_1_8_12_13.out) HO2.out (by have := HB.out; have := HKL.out; unfold maxLen; omega) (by have := HB.out; have := HKL.out; omega) ?_
            intro A_1_8_12_13_20 c_1_8_12_13_20 w_1_8_12_13_20 hR6 hG6 hk6
            have B_1_8_12_13_20 := Aside0.mk (hG6.to_below B_1_8_12_13.out B_1_8_12_13.out.size K_1_8_12_13.out)
            have R_1_8_12_13_20 := Aside0.mk hR6
            have K_1_8_12_13_20 := Aside0.mk (show ∀ k, blk A_1_8_12_13_20 k → w.heap.size ≤ k from fun k h => (hk6 k h).elim (K_1_8_12_13.out k) (fun h2 => Nat.le_trans B_1_8_12_13.out.size h2))
            clear hR6 hG6 hk6
            refine hK.out _ _ (fun _ => ?_) (fun hHq20 => ?_)
            · (try dsimp only)
              exact HX.out _ B_1_8_12_13_20.out
            replace hHq20 := hHq20 (by rfl)
            clear hK K hHq19
            (try simp only [Act.put, List.setIfInBounds_toArray, List.set_cons_zero, List.set_cons_succ])
            refine Up.Till.takeY 21 (oi := { dst := some 76, op := Op.nilCheck (Operand.tmp 55), type := 0, pos := "ref.go:56", after := #[{ on := 0, ground := Ground.data }, { on := 0, ground := Ground.phase }, { on := 1, ground := Ground.phase }, { on := 2, ground := Ground.phase }, { on := 3, ground := Ground.phase }, { on := 4, ground := Ground.phase }, { on := 5, ground := Ground.phase }, { on := 6, ground := Ground.phase }, { on := 7, ground := Ground.phase }, { on := 8, ground := Ground.phase }, { on := 9, ground := Ground.phase }, { on := 10, ground := Ground.phase }, { on := 11, ground := Ground.phase }, { on := 12, ground := Ground.phase }, { on := 13, ground := Ground.phase }, { on := 14, ground := Ground.phase }, { on := 15, ground := Ground.phase }, { on := 16, ground := Ground.phase }, { on := 17, ground := Ground.phase }, { on := 18, ground := Ground.phase }, { on := 19, ground := Ground.phase }, { on := 20, ground := Ground.phase }], guard := none }) (v := ?vq22) rfl (by rfl) (by kernel_rfl) (by kernel_rfl) (by kernel_rfl) (fun _ _ _ h => h) (Or.inl ⟨by rfl, ?yq22⟩) (fun _ => by assumption) ?rq22
            case yq22 => (intro w hSw; clear hSw; go_simp; (try with_reducible rfl))
            (try simp only [Act.put, List.setIfInBounds_toArray, List.set_cons_zero, List.set_cons_succ])
            refine Up.Till.takeY 22 (oi := { dst := some 77, op := Op.fieldAddr 29 (Operand.tmp 76) 0, type := 0, pos := "ref.go:56", after := #[{ on := 21, ground := Ground.data }, { on := 0, ground := Ground.phase }, { on := 1, ground := Ground.phase }, { on := 2, ground := Ground.phase }, { on := 3, ground := Ground.phase }, { on := 4, ground := Ground.phase }, { on := 5, ground := Ground.phase }, { on := 6, ground := Ground.phase }, { on := 7, ground := Ground.phase }, { on := 8, ground := Ground.phase }, { on := 9, ground := Ground.phase }, { on := 10, ground := Ground.phase }, { on := 11, ground := Ground.phase }, { on := 12, ground := Ground.phase }, { on := 13, ground := Ground.phase }, { on := 14, ground := Ground.phase }, { on := 15, ground := Ground.phase }, { on := 16, ground := Ground.phase }, { on := 17, ground := Ground.phase }, { on := 18, ground := Ground.phase }, { on := 19, ground := Ground.phase }, { on := 20, ground := Ground.phase }], guard := none }) (v := ?vq23) rfl (by rfl) (by kernel_rfl) (by kernel_rfl) (by kernel_rfl) (fun _ _ _ h => h) (Or.inl ⟨by rfl, ?yq23⟩) (fun _ => by assumption) ?rq23
            case yq23 => (intro w hSw; clear hSw; go_simp; (try with_reducible rfl))
            (try simp only [Act.put, List.setIfInBounds_toArray, List.set_cons_zero, List.set_cons_succ])
            refine Up.Till.ready (rs := [23]) (by kernel_rfl) (by simp) ?_
            refine Up.TillAll.cons (o := { dst := none, op := Op.store 27 (Operand.tmp 77) (Operand.tmp 75), type := 0, pos := "ref.go:56", after := #[{ on := 22, ground := Ground.data }, { on := 20, ground := Ground.data }, { on := 20, ground := Ground.chain }, { on := 0, ground := Ground.phase }, { on := 1, ground := Ground.phase }, { on := 2, ground := Ground.phase }, { on := 3, ground := Ground.phase }, { on := 4, ground := Ground.phase }, { on := 5, ground := Ground.phase }, { on := 6, ground := Ground.phase }, { on := 7, ground := Ground.phase }, { on := 8, ground := Ground.phase }, { on := 9, ground := Ground.phase }, { on := 10, ground := Ground.phase }, { on := 11, ground := Ground.phase }, { on := 12, ground := Ground.phase }, { on := 13, ground := Ground.phase }, { on := 14, ground := Ground.phase }, { on := 15, ground := Ground.phase }, { on := 16, ground := Ground.phase }, { on := 17, ground := Ground.phase }, { on := 18, ground := Ground.phase }, { on := 19, ground := Ground.phase }, { on := 20, ground := Ground.phase }], guard := none }) rfl (fun K hK => ?_) Up.TillAll.nil
            obtain ⟨z0, z1⟩ := HX.out _ B_1_8_12_13_20.out
            go_simp
            refine hK.out _ _ (fun h => absurd h (by decide)) (fun _ => ?_)
            clear hK K hHq20
            (try simp only [Act.put, List.setIfInBounds_toArray, List.set_cons_zero, List.set_cons_succ])
            refine Up.Till.done (by kernel_rfl) ?_ _
            go_end0
            have hE := HI.out.setH B_1_8_12_13_20.out R_1_8_12_13_20.out K_1_8_12_13_20.out HFL.out HNL.out
            rw [HL.out] at hE
            simp only [Nat.zero_add, Nat.sub_self, Nat.add_zero] at hE
            exact ⟨i, HST.out, rfl, hE.1, hE.2⟩
          refine Up.TillAll.cons (o := { dst := some 67, op := Op.buildSlice 27 1 #[(0, Operand.tmp 66)], type := 27, pos := "ref.go:56", after := #[{ on := 11, ground := Ground.data }], guard := none }) rfl (fun K hK => ?_) ?_
          · go_simp
            have B_1_12 := Aside0.mk (below_alloc B_1.out (.cells #[.int .i64 who, .int .i64 m] 50))
            have N_1_12 := Aside0.mk (lit_be B_1.out 50 2 1 #[.int .i64 who, .int .i64 m] rfl (by decide))
            have E_1_12 := Aside0.mk (E_1.out.alloc (.cells #[.int .i64 who, .int .i64 m] 50))
            refine hK.out _ _ (fun _ => ?_) (fun hHq24 => ?_)
            · (try dsimp only)
              exact HX.out _ B_1_12.out
            replace hHq24 := hHq24 (by rfl)
            clear hK K hHq16
            (try simp only [Act.put, List.setIfInBounds_toArray, List.set_cons_zero, List.set_cons_succ])
            refine Up.Till.ready (rs := [8]) (by kernel_rfl) (by simp) ?_
            refine Up.TillAll.cons (o := { dst := some 63, op := Op.call { callee := Callee.builtin Builtin.append, args := #[Operand.tmp 56, Operand.tmp 62], argTypes := #[27, 27] }, type := 27, pos := "ref.go:56", after := #[{ on := 1, ground := Ground.data }, { on := 7, ground := Ground.data }], guard := none }) rfl (fun K hK => ?_) Up.TillAll.nil
            refine step_append_rows (by rfl) (.tmp 56) (.tmp 62) 27 (by rfl) 50 (.agg #[.int .i64 0, .int .i64 0]) 2 16 Try.underlying27 infoE0 rfl _ 0 0 [] (by simp [Act.eval, Act.put]) E_1_12.out (some ⟨g, off, none⟩) i hc _ (by simp [Act.eval, Act.put]) (HF.out.below B_1_12.out) HO1.out (by have := HB.out; have := HKL.out; unfold maxLen; omega) (by have := HB.out; have := HKL.out; omega) ?_
            intro A_1_12_8 c_1_12_8 w_1_12_8 hR6 hG6 hk6
            have B_1_12_8 := Aside0.mk (hG6.to_below B_1_12.out B_1_12.out.size (blk_le (by have := LE.out; first | omega | (simp; done) | (simp; omega) | (simp at this ⊢; omega))))
            have R_1_12_8 := Aside0.mk hR6
            have K_1_12_8 := Aside0.mk (show ∀ k, blk A_1_12_8 k → w.heap.size ≤ k from fun k h => (hk6 k h).elim (blk_le (by have := LE.out; first | omega | (simp; done) | (simp; omega) | (simp at this ⊢; omega)) k) (fun h2 => Nat.le_trans B_1_12.out.size h2))
            have N_1_12_8 := Aside0.mk (N_1_12.out.grew hG6 (blk_ne (by first | omega | (simp; done) | (simp; omega))))
            clear hR6 hG6 hk6
            refine hK.out _ _ (fun _ => ?_) (fun hHq25 => ?_)
            · (try dsimp only)
              exact HX.out _ B_1_12_8.out
            replace hHq25 := hHq25 (by rfl)
            clear hK K hHq24
            (try simp only [Act.put, List.setIfInBounds_toArray, List.set_cons_zero, List.set_cons_succ])
            refine Up.Till.ready (rs := [13]) (by kernel_rfl) (by simp) ?_
            refine Up.TillAll.cons (o := { dst := some 68, op := Op.call { callee := Callee.builtin Builtin.append, args := #[Operand.tmp 63, Operand.tmp 67], argTypes := #[27, 27] }, type := 27, pos := "ref.go:56", after := #[{ on := 8, ground := Ground.data }, { on := 12, ground := Ground.data }, { on := 8, ground := Ground.chain }], guard := none }) rfl (fun K hK => ?_) Up.TillAll.nil
            refine step_append_rows (by rfl) (.tmp 63) (.tmp 67) 27 (by rfl) 50 (.agg #[.int .i64 0, .int .i64 0]) 2 16 Try.underlying27 infoE0 rfl _ _ _ _ (by simp [Act.eval, Act.put]) R_1_12_8.out _ 1 1 _ (by simp [Act.eval, Act.put]) N_1_12_8.out (by simp [Value.oneCell']) (by have := HB.out; have := HKL.out; unfold maxLen; omega) (by have := HB.out; have := HKL.out; omega) ?_
            intro A_1_12_8_13 c_1_12_8_13 w_1_12_8_13 hR6 hG6 hk6
            have B_1_12_8_13 := Aside0.mk (hG6.to_below B_1_12_8.out B_1_12_8.out.size K_1_12_8.out)
            have R_1_12_8_13 := Aside0.mk hR6
            have K_1_12_8_13 := Aside0.mk (show ∀ k, blk A_1_12_8_13 k → w.heap.size ≤ k from fun k h => (hk6 k h).elim (K_1_12_8.out k) (fun h2 => Nat.le_trans B_1_12_8.out.size h2))
            clear hR6 hG6 hk6
            refine hK.out _ _ (fun _ => ?_) (fun hHq26 => ?_)
            · (try dsimp only)
              exact HX.out _ B_1_12_8_13.out
            replace hHq26 := hHq26 (by rfl)
            clear hK K hHq25
            (try simp only [Act.put, List.setIfInBounds_toArray, List.set_cons_zero, List.set_cons_succ])
            refine Up.Till.ready (rs := [20]) (by kernel_rfl) (by simp) ?_
            refine Up.TillAll.cons (o := { dst := some 75, op := Op.call { callee := Callee.builtin Builtin.append, args := #[Operand.tmp 68, Operand.tmp 74], argTypes := #[27, 27] }, type := 27, pos := "ref.go:56", after := #[{ on := 13, ground := Ground.data }, { on := 19, ground := Ground.data }, { on := 13, ground := Ground.chain }], guard := none }) rfl (fun K hK => ?_) Up.TillAll.nil
            refine step_append_rows (by rfl) (.tmp 68) (.tmp 74) 27 (by rfl) 50 (.agg #[.int .i64 0, .int .i64 0]) 2 16 Try.underlying27 infoE0 rfl _ _ _ _ (by simp [Act.eval, Act.put]) R_1_12_8_13.out (some ⟨g, off + i * 2, none⟩) (hs.length - i) (hc - i) _ (by simp [Act.eval, Act.put]) (HBK.out.below B_1_12_8_13.out) HO2.out (by have := HB.out; have := HKL.out; unfold maxLen; omega) (by have := HB.out; have := HKL.out; omega) ?_
            intro A_1_12_8_13_20 c_1_12_8_13_20 w_1_12_8_13_20 hR6 hG6 hk6
            have B_1_12_8_13_20 := Aside0.mk (hG6.to_below B_1_12_8_13.out B_1_12_8_13.out.size K_1_12_8_13.out)
            have R_1_12_8_13_20 := Aside0.mk hR6
            have K_1_12_8_13_20 := Aside0.mk (show ∀ k, blk A_1_12_8_13_20 k → w.heap.size ≤ k from fun k h => (hk6 k h).elim (K_1_12_8_13.out k) (fun h2 => Nat.le_trans B_1_12_8_13.out.size h2))
            clear hR6 hG6 hk6
            refine hK.out _ _ (fun _ => ?_) (fun hHq27 => ?_)
            · (try dsimp only)
              exact HX.out _ B_1_12_8_13_20.out
            replace hHq27 := hHq27 (by rfl)
            clear hK K hHq26
            (try simp only [Act.put, List.setIfInBounds_toArray, List.set_cons_zero, List.set_cons_succ])
            refine Up.Till.takeY 21 (oi := { dst := some 76, op := Op.nilCheck (Operand.tmp 55), type := 0, pos := "ref.go:56", after := #[{ on := 0, ground := Ground.data }, { on := 0, ground := Ground.phase }, { on := 1, ground := Ground.phase }, { on := 2, ground := Ground.phase }, { on := 3, ground := Ground.phase }, { on := 4, ground := Ground.phase }, { on := 5, ground := Ground.phase }, { on := 6, ground := Ground.phase }, { on := 7, ground := Ground.phase }, { on := 8, ground := Ground.phase }, { on := 9, ground := Ground.phase }, { on := 10, ground := Ground.phase }, { on := 11, ground := Ground.phase }, { on := 12, ground := Ground.phase }, { on := 13, ground := Ground.phase }, { on := 14, ground := Ground.phase }, { on := 15, ground := Ground.phase }, { on := 16, ground := Ground.phase }, { on := 17, ground := Ground.phase }, { on := 18, ground := Ground.phase }, { on := 19, ground := Ground.phase }, { on := 20, ground := Ground.phase }], guard := none }) (v := ?vq29) rfl (by rfl) (by kernel_rfl) (by kernel_rfl) (by kernel_rfl) (fun _ _ _ h => h) (Or.inl ⟨by rfl, ?yq29⟩) (fun _ => by assumption) ?rq29
            case yq29 => (intro w hSw; clear hSw; go_simp; (try with_reducible rfl))
            (try simp only [Act.put, List.setIfInBounds_toArray, List.set_cons_zero, List.set_cons_succ])
            refine Up.Till.takeY 22 (oi := { dst := some 77, op := Op.fieldAddr 29 (Operand.tmp 76) 0, type := 0, pos := "ref.go:56", after := #[{ on := 21, ground := Ground.data }, { on := 0, ground := Ground.phase }, { on := 1, ground := Ground.phase }, { on := 2, ground := Ground.phase }, { on := 3, ground := Ground.phase }, { on := 4, ground := Ground.phase }, { on := 5, ground := Ground.phase }, { on := 6, ground := Ground.phase }, { on := 7, ground := Ground.phase }, { on := 8, ground := Ground.phase }, { on := 9, ground := Ground.phase }, { on := 10, ground := Ground.phase }, { on := 11, ground := Ground.phase }, { on := 12, ground := Ground.phase }, { on := 13, ground := Ground.phase }, { on := 14, ground := Ground.phase }, { on := 15, ground := Ground.phase }, { on := 16, ground := Ground.phase }, { on := 17, ground := Ground.phase }, { on := 18, ground := Ground.phase }, { on := 19, ground := Ground.phase }, { on := 20, ground := Ground.phase }], guard := none }) (v := ?vq30) rfl (by rfl) (by kernel_rfl) (by kernel_rfl) (by kernel_rfl) (fun _ _ _ h => h) (Or.inl ⟨by rfl, ?yq30⟩) (fun _ => by assumption) ?rq30
            case yq30 => (intro w hSw; clear hSw; go_simp; (try with_reducible rfl))
            (try simp only [Act.put, List.setIfInBounds_toArray, List.set_cons_zero, List.set_cons_succ])
            refine Up.Till.ready (rs := [23]) (by kernel_rfl) (by simp) ?_
            refine Up.TillAll.cons (o := { dst := none, op := Op.store 27 (Operand.tmp 77) (Operand.tmp 75), type := 0, pos := "ref.go:56", after := #[{ on := 22, ground := Ground.data }, { on := 20, ground := Ground.data }, { on := 20, ground := Ground.chain }, { on := 0, ground := Ground.phase }, { on := 1, ground := Ground.phase }, { on := 2, ground := Ground.phase }, { on := 3, ground := Ground.phase }, { on := 4, ground := Ground.phase }, { on := 5, ground := Ground.phase }, { on := 6, ground := Ground.phase }, { on := 7, ground := Ground.phase }, { on := 8, ground := Ground.phase }, { on := 9, ground := Ground.phase }, { on := 10, ground := Ground.phase }, { on := 11, ground := Ground.phase }, { on := 12, ground := Ground.phase }, { on := 13, ground := Ground.phase }, { on := 14, ground := Ground.phase }, { on := 15, ground := Ground.phase }, { on := 16, ground := Ground.phase }, { on := 17, ground := Ground.phase }, { on := 18, ground := Ground.phase }, { on := 19, ground := Ground.phase }, { on := 20, ground := Ground.phase }], guard := none }) rfl (fun K hK => ?_) Up.TillAll.nil
            obtain ⟨z0, z1⟩ := HX.out _ B_1_12_8_13_20.out
            go_simp
            refine hK.out _ _ (fun h => absurd h (by decide)) (fun _ => ?_)
            clear hK K hHq27
            (try simp only [Act.put, List.setIfInBounds_toArray, List.set_cons_zero, List.set_cons_succ])
            refine Up.Till.done (by kernel_rfl) ?_ _
            go_end0
            have hE := HI.out.setH B_1_12_8_13_20.out R_1_12_8_13_20.out K_1_12_8_13_20.out HFL.out HNL.out
            rw [HL.out] at hE
            simp only [Nat.zero_add, Nat.sub_self, Nat.add_zero] at hE
            exact ⟨i, HST.out, rfl, hE.1, hE.2⟩
          exact Up.TillAll.nil
        refine Up.TillAll.cons (o := { dst := some 67, op := Op.buildSlice 27 1 #[(0, Operand.tmp 66)], type := 27, pos := "ref.go:56", after := #[{ on := 11, ground := Ground.data }], guard := none }) rfl (fun K hK => ?_) ?_
        · go_simp
          have B_12 := Aside0.mk (below_alloc HBd.out (.cells #[.int .i64 who, .int .i64 m] 50))
          have N_12 := Aside0.mk (lit_be HBd.out 50 2 1 #[.int .i64 who, .int .i64 m] rfl (by decide))
          refine hK.out _ _ (fun _ => ?_) (fun hHq31 => ?_)
          · (try dsimp only)
            exact HX.out _ B_12.out
          replace hHq31 := hHq31 (by rfl)
          clear hK K hH
          (try simp only [Act.put, List.setIfInBounds_toArray, List.set_cons_zero, List.set_cons_succ])
          refine Up.Till.ready (rs := [1]) (by kernel_rfl) (by simp) ?_
          refine Up.TillAll.cons (o := { dst := some 56, op := Op.buildSlice 27 0 #[], type := 27, pos := "ref.go:56", after := #[], guard := none }) rfl (fun K hK => ?_) Up.TillAll.nil
          go_simp
          have B_12_1 := Aside0.mk (below_alloc B_12.out (.cells #[] 50))
          have E_12_1 := Aside0.mk (lit_be B_12.out 50 2 0 #[] rfl (by decide))
          have LE := Aside0.mk (B_12.out.size)
          have N_12_1 := Aside0.mk (N_12.out.alloc (.cells #[] 50))
          refine hK.out _ _ (fun _ => ?_) (fun hHq32 => ?_)
          · (try dsimp only)
            exact HX.out _ B_12_1.out
          replace hHq32 := hHq32 (by rfl)
          clear hK K hHq31
          (try simp only [Act.put, List.setIfInBounds_toArray, List.set_cons_zero, List.set_cons_succ])
          refine Up.Till.ready (rs := [8]) (by kernel_rfl) (by simp) ?_
          refine Up.TillAll.cons (o := { dst := some 63, op := Op.call { callee := Callee.builtin Builtin.append, args := #[Operand.tmp 56, Operand.tmp 62], argTypes := #[27, 27] }, type := 27, pos := "ref.go:56", after := #[{ on := 1, ground := Ground.data }, { on := 7, ground := Ground.data }], guard := none }) rfl (fun K hK => ?_) Up.TillAll.nil
          refine step_append_rows (by rfl) (.tmp 56) (.tmp 62) 27 (by rfl) 50 (.agg #[.int .i64 0, .int .i64 0]) 2 16 Try.underlying27 infoE0 rfl _ 0 0 [] (by simp [Act.eval, Act.put]) E_12_1.out (some ⟨g, off, none⟩) i hc _ (by simp [Act.eval, Act.put]) (HF.out.below B_12_1.out) HO1.out (by have := HB.out; have := HKL.out; unfold maxLen; omega) (by have := HB.out; have := HKL.out; omega) ?_
          intro A_12_1_8 c_12_1_8 w_12_1_8 hR6 hG6 hk6
          have B_12_1_8 := Aside0.mk (hG6.to_below B_12_1.out B_12_1.out.size (blk_le (by have := LE.out; first | omega | (simp; done) | (simp; omega) | (simp at this ⊢; omega))))
          have R_12_1_8 := Aside0.mk hR6
          have K_12_1_8 := Aside0.mk (show ∀ k, blk A_12_1_8 k → w.heap.size ≤ k from fun k h => (hk6 k h).elim (blk_le (by have := LE.out; first | omega | (simp; done) | (simp; omega) | (simp at this ⊢; omega)) k) (fun h2 => Nat.le_trans B_12_1.out.size h2))
          have N_12_1_8 := Aside0.mk (N_12_1.out.grew hG6 (blk_ne (by first | omega | (simp; done) | (simp; omega))))
          clear hR6 hG6 hk6
          refine hK.out _ _ (fun _ => ?_) (fun hHq33 => ?_)
          · (try dsimp only)
            exact HX.out _ B_12_1_8.out
          replace hHq33 := hHq33 (by rfl)
          clear hK K hHq32
          (try simp only [Act.put, List.setIfInBounds_toArray, List.set_cons_zero, List.set_cons_succ])
          refine Up.Till.ready (rs := [13]) (by kernel_rfl) (by simp) ?_
          refine Up.TillAll.cons (o := { dst := some 68, op := Op.call { callee := Callee.builtin Builtin.append, args := #[Operand.tmp 63, Operand.tmp 67], argTypes := #[27, 27] }, type := 27, pos := "ref.go:56", after := #[{ on := 8, ground := Ground.data }, { on := 12, ground := Ground.data }, { on := 8, ground := Ground.chain }], guard := none }) rfl (fun K hK => ?_) Up.TillAll.nil
          refine step_append_rows (by rfl) (.tmp 63) (.tmp 67) 27 (by rfl) 50 (.agg #[.int .i64 0, .int .i64 0]) 2 16 Try.underlying27 infoE0 rfl _ _ _ _ (by simp [Act.eval, Act.put]) R_12_1_8.out _ 1 1 _ (by simp [Act.eval, Act.put]) N_12_1_8.out (by simp [Value.oneCell']) (by have := HB.out; have := HKL.out; unfold maxLen; omega) (by have := HB.out; have := HKL.out; omega) ?_
          intro A_12_1_8_13 c_12_1_8_13 w_12_1_8_13 hR6 hG6 hk6
          have B_12_1_8_13 := Aside0.mk (hG6.to_below B_12_1_8.out B_12_1_8.out.size K_12_1_8.out)
          have R_12_1_8_13 := Aside0.mk hR6
          have K_12_1_8_13 := Aside0.mk (show ∀ k, blk A_12_1_8_13 k → w.heap.size ≤ k from fun k h => (hk6 k h).elim (K_12_1_8.out k) (fun h2 => Nat.le_trans B_12_1_8.out.size h2))
          clear hR6 hG6 hk6
          refine hK.out _ _ (fun _ => ?_) (fun hHq34 => ?_)
          · (try dsimp only)
            exact HX.out _ B_12_1_8_13.out
          replace hHq34 := hHq34 (by rfl)
          clear hK K hHq33
          (try simp only [Act.put, List.setIfInBounds_toArray, List.set_cons_zero, List.set_cons_succ])
          refine Up.Till.ready (rs := [20]) (by kernel_rfl) (by simp) ?_
          refine Up.TillAll.cons (o := { dst := some 75, op := Op.call { callee := Callee.builtin Builtin.append, args := #[Operand.tmp 68, Operand.tmp 74], argTypes := #[27, 27] }, type := 27, pos := "ref.go:56", after := #[{ on := 13, ground := Ground.data }, { on := 19, ground := Ground.data }, { on := 13, ground := Ground.chain }], guard := none }) rfl (fun K hK => ?_) Up.TillAll.nil
          refine step_append_rows (by rfl) (.tmp 68) (.tmp 74) 27 (by rfl) 50 (.agg #[.int .i64 0, .int .i64 0]) 2 16 Try.underlying27 infoE0 rfl _ _ _ _ (by simp [Act.eval, Act.put]) R_12_1_8_13.out (some ⟨g, off + i * 2, none⟩) (hs.length - i) (hc - i) _ (by simp [Act.eval, Act.put]) (HBK.out.below B_12_1_8_13.out) HO2.out (by have := HB.out; have := HKL.out; unfold maxLen; omega) (by have := HB.out; have := HKL.out; omega) ?_
          intro A_12_1_8_13_20 c_12_1_8_13_20 w_12_1_8_13_20 hR6 hG6 hk6
          have B_12_1_8_13_20 := Aside0.mk (hG6.to_below B_12_1_8_13.out B_12_1_8_13.out.size K_12_1_8_13.out)
          have R_12_1_8_13_20 := Aside0.mk hR6
          have K_12_1_8_13_20 := Aside0.mk (show ∀ k, blk A_12_1_8_13_20 k → w.heap.size ≤ k from fun k h => (hk6 k h).elim (K_12_1_8_13.out k) (fun h2 => Nat.le_trans B_12_1_8_13.out.size h2))
          clear hR6 hG6 hk6
          refine hK.out _ _ (fun _ => ?_) (fun hHq35 => ?_)
          · (try dsimp only)
            exact HX.out _ B_12_1_8_13_20.out
          replace hHq35 := hHq35 (by rfl)
          clear hK K hHq34
          (try simp only [Act.put, List.setIfInBounds_toArray, List.set_cons_zero, List.set_cons_succ])
          refine Up.Till.takeY 21 (oi := { dst := some 76, op := Op.nilCheck (Operand.tmp 55), type := 0, pos := "ref.go:56", after := #[{ on := 0, ground := Ground.data }, { on := 0, ground := Ground.phase }, { on := 1, ground := Ground.phase }, { on := 2, ground := Ground.phase }, { on := 3, ground := Ground.phase }, { on := 4, ground := Ground.phase }, { on := 5, ground := Ground.phase }, { on := 6, ground := Ground.phase }, { on := 7, ground := Ground.phase }, { on := 8, ground := Ground.phase }, { on := 9, ground := Ground.phase }, { on := 10, ground := Ground.phase }, { on := 11, ground := Ground.phase }, { on := 12, ground := Ground.phase }, { on := 13, ground := Ground.phase }, { on := 14, ground := Ground.phase }, { on := 15, ground := Ground.phase }, { on := 16, ground := Ground.phase }, { on := 17, ground := Ground.phase }, { on := 18, ground := Ground.phase }, { on := 19, ground := Ground.phase }, { on := 20, ground := Ground.phase }], guard := none }) (v := ?vq37) rfl (by rfl) (by kernel_rfl) (by kernel_rfl) (by kernel_rfl) (fun _ _ _ h => h) (Or.inl ⟨by rfl, ?yq37⟩) (fun _ => by assumption) ?rq37
          case yq37 => (intro w hSw; clear hSw; go_simp; (try with_reducible rfl))
          (try simp only [Act.put, List.setIfInBounds_toArray, List.set_cons_zero, List.set_cons_succ])
          refine Up.Till.takeY 22 (oi := { dst := some 77, op := Op.fieldAddr 29 (Operand.tmp 76) 0, type := 0, pos := "ref.go:56", after := #[{ on := 21, ground := Ground.data }, { on := 0, ground := Ground.phase }, { on := 1, ground := Ground.phase }, { on := 2, ground := Ground.phase }, { on := 3, ground := Ground.phase }, { on := 4, ground := Ground.phase }, { on := 5, ground := Ground.phase }, { on := 6, ground := Ground.phase }, { on := 7, ground := Ground.phase }, { on := 8, ground := Ground.phase }, { on := 9, ground := Ground.phase }, { on := 10, ground := Ground.phase }, { on := 11, ground := Ground.phase }, { on := 12, ground := Ground.phase }, { on := 13, ground := Ground.phase }, { on := 14, ground := Ground.phase }, { on := 15, ground := Ground.phase }, { on := 16, ground := Ground.phase }, { on := 17, ground := Ground.phase }, { on := 18, ground := Ground.phase }, { on := 19, ground := Ground.phase }, { on := 20, ground := Ground.phase }], guard := none }) (v := ?vq38) rfl (by rfl) (by kernel_rfl) (by kernel_rfl) (by kernel_rfl) (fun _ _ _ h => h) (Or.inl ⟨by rfl, ?yq38⟩) (fun _ => by assumption) ?rq38
          case yq38 => (intro w hSw; clear hSw; go_simp; (try with_reducible rfl))
          (try simp only [Act.put, List.setIfInBounds_toArray, List.set_cons_zero, List.set_cons_succ])
          refine Up.Till.ready (rs := [23]) (by kernel_rfl) (by simp) ?_
          refine Up.TillAll.cons (o := { dst := none, op := Op.store 27 (Operand.tmp 77) (Operand.tmp 75), type := 0, pos := "ref.go:56", after := #[{ on := 22, ground := Ground.data }, { on := 20, ground := Ground.data }, { on := 20, ground := Ground.chain }, { on := 0, ground := Ground.phase }, { on := 1, ground := Ground.phase }, { on := 2, ground := Ground.phase }, { on := 3, ground := Ground.phase }, { on := 4, ground := Ground.phase }, { on := 5, ground := Ground.phase }, { on := 6, ground := Ground.phase }, { on := 7, ground := Ground.phase }, { on := 8, ground := Ground.phase }, { on := 9, ground := Ground.phase }, { on := 10, ground := Ground.phase }, { on := 11, ground := Ground.phase }, { on := 12, ground := Ground.phase }, { on := 13, ground := Ground.phase }, { on := 14, ground := Ground.phase }, { on := 15, ground := Ground.phase }, { on := 16, ground := Ground.phase }, { on := 17, ground := Ground.phase }, { on := 18, ground := Ground.phase }, { on := 19, ground := Ground.phase }, { on := 20, ground := Ground.phase }], guard := none }) rfl (fun K hK => ?_) Up.TillAll.nil
          obtain ⟨z0, z1⟩ := HX.out _ B_12_1_8_13_20.out
          go_simp
          refine hK.out _ _ (fun h => absurd h (by decide)) (fun _ => ?_)
          clear hK K hHq35
          (try simp only [Act.put, List.setIfInBounds_toArray, List.set_cons_zero, List.set_cons_succ])
          refine Up.Till.done (by kernel_rfl) ?_ _
          go_end0
          have hE := HI.out.setH B_12_1_8_13_20.out R_12_1_8_13_20.out K_12_1_8_13_20.out HFL.out HNL.out
          rw [HL.out] at hE
          simp only [Nat.zero_add, Nat.sub_self, Nat.add_zero] at hE
          exact ⟨i, HST.out, rfl, hE.1, hE.2⟩
        exact Up.TillAll.nil
    · obtain rfl : i = k := by omega
      obtain rfl : i = hs.length := by omega
      have t1 : ¬ ((hs.length : Int) < (hs.length : Int)) := by omega
      have HBK := Aside0.mk HBK0.out
      clear HBK0
      go_wp2_with fail
      refine Up.Till.region [23] (fun W => W.cell? ⟨b, 0, none⟩ = some (.slice hA hs.length hc) ∧ W.frozen? ⟨b, 0, none⟩ = false) (by kernel_rfl) ?_ (fun hH => ?_)
      · exact HX.out _ HBd.out
      refine Up.Till.takeY 0 (oi := { dst := some 55, op := Op.move (Operand.tmp 0), type := 26, pos := "ref.go:56", after := #[], guard := none }) (v := ?vr1) rfl (by rfl) (by kernel_rfl) (by kernel_rfl) (by kernel_rfl) (fun _ _ _ h => h) (Or.inl ⟨by rfl, ?yr1⟩) (fun _ => by assumption) ?rr1
      case yr1 => (intro w hSw; clear hSw; go_simp; (try with_reducible rfl))
      (try simp only [Act.put, List.setIfInBounds_toArray, List.set_cons_zero, List.set_cons_succ])
      refine Up.Till.takeY 2 (oi := { dst := some 57, op := Op.move (Operand.tmp 0), type := 26, pos := "ref.go:56", after := #[], guard := none }) (v := ?vr2) rfl (by rfl) (by kernel_rfl) (by kernel_rfl) (by kernel_rfl) (fun _ _ _ h => h) (Or.inl ⟨by rfl, ?yr2⟩) (fun _ => by assumption) ?rr2
      case yr2 => (intro w hSw; clear hSw; go_simp; (try with_reducible rfl))
      (try simp only [Act.put, List.setIfInBounds_toArray, List.set_cons_zero, List.set_cons_succ])
      refine Up.Till.takeY 3 (oi := { dst := some 58, op := Op.nilCheck (Operand.tmp 57), type := 0, pos := "ref.go:56", after := #[{ on := 2, ground := Ground.data }], guard := none }) (v := ?vr3) rfl (by rfl) (by kernel_rfl) (by kernel_rfl) (by kernel_rfl) (fun _ _ _ h => h) (Or.inl ⟨by rfl, ?yr3⟩) (fun _ => by assumption) ?rr3
      case yr3 => (intro w hSw; clear hSw; go_simp; (try with_reducible rfl))
      (try simp only [Act.put, List.setIfInBounds_toArray, List.set_cons_zero, List.set_cons_succ])
      refine Up.Till.takeY 4 (oi := { dst := some 59, op := Op.fieldAddr 29 (Operand.tmp 58) 0, type := 0, pos := "ref.go:56", after := #[{ on := 3, ground := Ground.data }], guard := none }) (v := ?vr4) rfl (by rfl) (by kernel_rfl) (by kernel_rfl) (by kernel_rfl) (fun _ _ _ h => h) (Or.inl ⟨by rfl, ?yr4⟩) (fun _ => by assumption) ?rr4
      case yr4 => (intro w hSw; clear hSw; go_simp; (try with_reducible rfl))
      (try simp only [Act.put, List.setIfInBounds_toArray, List.set_cons_zero, List.set_cons_succ])
      refine Up.Till.take 5 5 (oi := { dst := some 60, op := Op.load 27 (Operand.tmp 59), type := 27, pos := "ref.go:56", after := #[{ on := 4, ground := Ground.data }], guard := none }) (v := ?vr5) rfl (by rfl) (by kernel_rfl) (by kernel_rfl) (by kernel_rfl) (fun _ _ _ h => h) (by kernel_rfl) (by kernel_rfl) (by kernel_rfl) (Or.inl ⟨by rfl, ?yr5⟩) (by assumption) ?rr5
      case yr5 => (intro w hSw; (try dsimp only at hSw); go_simp; (try with_reducible rfl))
      (try simp only [Act.put, List.setIfInBounds_toArray, List.set_cons_zero, List.set_cons_succ])
      refine Up.Till.takeY 6 (oi := { dst := some 61, op := Op.move (Operand.tmp 6), type := 3, pos := "ref.go:56", after := #[], guard := none }) (v := ?vr6) rfl (by rfl) (by kernel_rfl) (by kernel_rfl) (by kernel_rfl) (fun _ _ _ h => h) (Or.inl ⟨by rfl, ?yr6⟩) (fun _ => by assumption) ?rr6
      case yr6 => (intro w hSw; clear hSw; go_simp; (try with_reducible rfl))
      (try simp only [Act.put, List.setIfInBounds_toArray, List.set_cons_zero, List.set_cons_succ])
      refine Up.Till.takeY 7 (oi := { dst := some 62, op := Op.slice 27 (Operand.tmp 60) none (some (Operand.tmp 61)) none, type := 27, pos := "ref.go:56", after := #[{ on := 5, ground := Ground.data }, { on := 6, ground := Ground.data }], guard := none }) (v := ?vr7) rfl (by rfl) (by kernel_rfl) (by kernel_rfl) (by kernel_rfl) (fun _ _ _ h => h) (Or.inl ⟨by rfl, ?yr7⟩) (fun _ => by assumption) ?rr7
      case yr7 => (intro w hSw; clear hSw; go_simp; (try with_reducible rfl))
      (try simp only [Act.put, List.setIfInBounds_toArray, List.set_cons_zero, List.set_cons_succ])
      refine Up.Till.takeY 9 (oi := { dst := some 64, op := Op.move (Operand.tmp 1), type := 3, pos := "ref.go:56", after := #[], guard := none }) (v := ?vr8) rfl (by rfl) (by kernel_rfl) (by kernel_rfl) (by kernel_rfl) (fun _ _ _ h => h) (Or.inl ⟨by rfl, ?yr8⟩) (fun _ => by assumption) ?rr8
      case yr8 => (intro w hSw; clear hSw; go_simp; (try with_reducible rfl))
      (try simp only [Act.put, List.setIfInBounds_toArray, List.set_cons_zero, List.set_cons_succ])
      refine Up.Till.takeY 10 (oi := { dst := some 65, op := Op.move (Operand.tmp 2), type := 3, pos := "ref.go:56", after := #[], guard := none }) (v := ?vr9) rfl (by rfl) (by kernel_rfl) (by kernel_rfl) (by kernel_rfl) (fun _ _ _ h => h) (Or.inl ⟨by rfl, ?yr9⟩) (fun _ => by assumption) ?rr9
      case yr9 => (intro w hSw; clear hSw; go_simp; (try with_reducible rfl))
      (try simp only [Act.put, List.setIfInBounds_toArray, List.set_cons_zero, List.set_cons_succ])
      refine Up.Till.takeY 11 (oi := { dst := some 66, op := Op.build 50 #[(0, Operand.tmp 64), (1, Operand.tmp 65)], type := 50, pos := "ref.go:56", after := #[{ on := 9, ground := Ground.data }, { on := 10, ground := Ground.data }], guard := none }) (v := ?vr10) rfl (by rfl) (by kernel_rfl) (by kernel_rfl) (by kernel_rfl) (fun _ _ _ h => h) (Or.inl ⟨by rfl, ?yr10⟩) (fun _ => by assumption) ?rr10
      case yr10 => (intro w hSw; clear hSw; go_simp; (try with_reducible rfl))
      (try simp only [Act.put, List.setIfInBounds_toArray, List.set_cons_zero, List.set_cons_succ])
      refine Up.Till.takeY 14 (oi := { dst := some 69, op := Op.move (Operand.tmp 0), type := 26, pos := "ref.go:56", after := #[], guard := none }) (v := ?vr11) rfl (by rfl) (by kernel_rfl) (by kernel_rfl) (by kernel_rfl) (fun _ _ _ h => h) (Or.inl ⟨by rfl, ?yr11⟩) (fun _ => by assumption) ?rr11
      case yr11 => (intro w hSw; clear hSw; go_simp; (try with_reducible rfl))
      (try simp only [Act.put, List.setIfInBounds_toArray, List.set_cons_zero, List.set_cons_succ])
      refine Up.Till.takeY 15 (oi := { dst := some 70, op := Op.nilCheck (Operand.tmp 69), type := 0, pos := "ref.go:56", after := #[{ on := 14, ground := Ground.data }], guard := none }) (v := ?vr12) rfl (by rfl) (by kernel_rfl) (by kernel_rfl) (by kernel_rfl) (fun _ _ _ h => h) (Or.inl ⟨by rfl, ?yr12⟩) (fun _ => by assumption) ?rr12
      case yr12 => (intro w hSw; clear hSw; go_simp; (try with_reducible rfl))
      (try simp only [Act.put, List.setIfInBounds_toArray, List.set_cons_zero, List.set_cons_succ])
      refine Up.Till.takeY 16 (oi := { dst := some 71, op := Op.fieldAddr 29 (Operand.tmp 70) 0, type := 0, pos := "ref.go:56", after := #[{ on := 15, ground := Ground.data }], guard := none }) (v := ?vr13) rfl (by rfl) (by kernel_rfl) (by kernel_rfl) (by kernel_rfl) (fun _ _ _ h => h) (Or.inl ⟨by rfl, ?yr13⟩) (fun _ => by assumption) ?rr13
      case yr13 => (intro w hSw; clear hSw; go_simp; (try with_reducible rfl))
      (try simp only [Act.put, List.setIfInBounds_toArray, List.set_cons_zero, List.set_cons_succ])
      refine Up.Till.take 17 17 (oi := { dst := some 72, op := Op.load 27 (Operand.tmp 71), type := 27, pos := "ref.go:56", after := #[{ on := 16, ground := Ground.data }], guard := none }) (v := ?vr14) rfl (by rfl) (by kernel_rfl) (by kernel_rfl) (by kernel_rfl) (fun _ _ _ h => h) (by kernel_rfl) (by kernel_rfl) (by kernel_rfl) (Or.inl ⟨by rfl, ?yr14⟩) (by assumption) ?rr14
      case yr14 => (intro w hSw; (try dsimp only at hSw); go_simp; (try with_reducible rfl))
      (try simp only [Act.put, List.setIfInBounds_toArray, List.set_cons_zero, List.set_cons_succ])
      refine Up.Till.takeY 18 (oi := { dst := some 73, op := Op.move (Operand.tmp 6), type := 3, pos := "ref.go:56", after := #[], guard := none }) (v := ?vr15) rfl (by rfl) (by kernel_rfl) (by kernel_rfl) (by kernel_rfl) (fun _ _ _ h => h) (Or.inl ⟨by rfl, ?yr15⟩) (fun _ => by assumption) ?rr15
      case yr15 => (intro w hSw; clear hSw; go_simp; (try with_reducible rfl))
      (try simp only [Act.put, List.setIfInBounds_toArray, List.set_cons_zero, List.set_cons_succ])
      refine Up.Till.takeY 19 (oi := { dst := some 74, op := Op.slice 27 (Operand.tmp 72) (some (Operand.tmp 73)) none none, type := 27, pos := "ref.go:56", after := #[{ on := 17, ground := Ground.data }, { on := 18, ground := Ground.data }], guard := none }) (v := ?vr16) rfl (by rfl) (by kernel_rfl) (by kernel_rfl) (by kernel_rfl) (fun _ _ _ h => h) (Or.inl ⟨by rfl, ?yr16⟩) (fun _ => by assumption) ?rr16
      case yr16 => (intro w hSw; clear hSw; go_simp; (try with_reducible rfl))
      (try simp only [Act.put, List.setIfInBounds_toArray, List.set_cons_zero, List.set_cons_succ])
      refine Up.Till.ready (rs := [1, 12]) (by kernel_rfl) (by simp) ?_
      refine Up.TillAll.cons (o := { dst := some 56, op := Op.buildSlice 27 0 #[], type := 27, pos := "ref.go:56", after := #[], guard := none }) rfl (fun K hK => ?_) ?_
      · go_simp
        have B_1 := Aside0.mk (below_alloc HBd.out (.cells #[] 50))
        have E_1 := Aside0.mk (lit_be HBd.out 50 2 0 #[] rfl (by decide))
        have LE := Aside0.mk (HBd.out.size)
        refine hK.out _ _ (fun _ => ?_) (fun hHr16 => ?_)
        · (try dsimp only)
          exact HX.out _ B_1.out
        replace hHr16 := hHr16 (by rfl)
        clear hK K hH
        (try simp only [Act.put, List.setIfInBounds_toArray, List.set_cons_zero, List.set_cons_succ])
        refine Up.Till.ready (rs := [8, 12]) (by kernel_rfl) (by simp) ?_
        refine Up.TillAll.cons (o := { dst := some 63, op := Op.call { callee := Callee.builtin Builtin.append, args := #[Operand.tmp 56, Operand.tmp 62], argTypes := #[27, 27] }, type := 27, pos := "ref.go:56", after := #[{ on := 1, ground := Ground.data }, { on := 7, ground := Ground.data }], guard := none }) rfl (fun K hK => ?_) ?_
        · refine step_append_rows (by rfl) (.tmp 56) (.tmp 62) 27 (by rfl) 50 (.agg #[.int .i64 0, .int .i64 0]) 2 16 Try.underlying27 infoE0 rfl _ 0 0 [] (by simp [Act.eval, Act.put]) E_1.out hA hs.length hc _ (by simp [Act.eval, Act.put]) (HF.out.below B_1.out) HO1.out (by have := HB.out; have := HKL.out; unfold maxLen; omega) (by have := HB.out; have := HKL.out; omega) ?_
          intro A_1_8 c_1_8 w_1_8 hR6 hG6 hk6
          have B_1_8 := Aside0.mk (hG6.to_below B_1.out B_1.out.size (blk_le (by have := LE.out; first | omega | (simp; done) | (simp; omega) | (simp at this ⊢; omega))))
          have R_1_8 := Aside0.mk hR6
          have K_1_8 := Aside0.mk (show ∀ k, blk A_1_8 k → w.heap.size ≤ k from fun k h => (hk6 k h).elim (blk_le (by have := LE.out; first | omega | (simp; done) | (simp; omega) | (simp at this ⊢; omega)) k) (fun h2 => Nat.le_trans B_1.out.size h2))
          clear hR6 hG6 hk6
          refine hK.out _ _ (fun _ => ?_) (fun hHr17 => ?_)
          · (try dsimp only)
            exact HX.out _ B_1_8.out
          replace hHr17 := hHr17 (by rfl)
          clear hK K hHr16
          (try simp only [Act.put, List.setIfInBounds_toArray, List.set_cons_zero, List.set_cons_succ])
          refine Up.Till.ready (rs := [12]) (by kernel_rfl) (by simp) ?_
          refine Up.TillAll.cons (o := { dst := some 67, op := Op.buildSlice 27 1 #[(0, Operand.tmp 66)], type := 27, pos := "ref.go:56", after := #[{ on := 11, ground := Ground.data }], guard := none }) rfl (fun K hK => ?_) Up.TillAll.nil
          go_simp
          have B_1_8_12 := Aside0.mk (below_alloc B_1_8.out (.cells #[.int .i64 who, .int .i64 m] 50))
          have N_1_8_12 := Aside0.mk (lit_be B_1_8.out 50 2 1 #[.int .i64 who, .int .i64 m] rfl (by decide))
          have R_1_8_12 := Aside0.mk (R_1_8.out.alloc (.cells #[.int .i64 who, .int .i64 m] 50))
          have K_1_8_12 := K_1_8
          refine hK.out _ _ (fun _ => ?_) (fun hHr18 => ?_)
          · (try dsimp only)
            exact HX.out _ B_1_8_12.out
          replace hHr18 := hHr18 (by rfl)
          clear hK K hHr17
          (try simp only [Act.put, List.setIfInBounds_toArray, List.set_cons_zero, List.set_cons_succ])
          refine Up.Till.ready (rs := [13]) (by kernel_rfl) (by simp) ?_
          refine Up.TillAll.cons (o := { dst := some 68, op := Op.call { callee := Callee.builtin Builtin.append, args := #[Operand.tmp 63, Operand.tmp 67], argTypes := #[27, 27] }, type := 27, pos := "ref.go:56", after := #[{ on := 8, ground := Ground.data }, { on := 12, ground := Ground.data }, { on := 8, ground := Ground.chain }], guard := none }) rfl (fun K hK => ?_) Up.TillAll.nil
          refine step_append_rows (by rfl) (.tmp 63) (.tmp 67) 27 (by rfl) 50 (.agg #[.int .i64 0, .int .i64 0]) 2 16 Try.underlying27 infoE0 rfl _ _ _ _ (by simp [Act.eval, Act.put]) R_1_8_12.out _ 1 1 _ (by simp [Act.eval, Act.put]) N_1_8_12.out (by simp [Value.oneCell']) (by have := HB.out; have := HKL.out; unfold maxLen; omega) (by have := HB.out; have := HKL.out; omega) ?_
          intro A_1_8_12_13 c_1_8_12_13 w_1_8_12_13 hR6 hG6 hk6
          have B_1_8_12_13 := Aside0.mk (hG6.to_below B_1_8_12.out B_1_8_12.out.size K_1_8_12.out)
          have R_1_8_12_13 := Aside0.mk hR6
          have K_1_8_12_13 := Aside0.mk (show ∀ k, blk A_1_8_12_13 k → w.heap.size ≤ k from fun k h => (hk6 k h).elim (K_1_8_12.out k) (fun h2 => Nat.le_trans B_1_8_12.out.size h2))
          clear hR6 hG6 hk6
          refine hK.out _ _ (fun _ => ?_) (fun hHr19 => ?_)
          · (try dsimp only)
            exact HX.out _ B_1_8_12_13.out
          replace hHr19 := hHr19 (by rfl)
          clear hK K hHr18
          (try simp only [Act.put, List.setIfInBounds_toArray, List.set_cons_zero, List.set_cons_succ])
          refine Up.Till.ready (rs := [20]) (by kernel_rfl) (by simp) ?_
          refine Up.TillAll.cons (o := { dst := some 75, op := Op.call { callee := Callee.builtin Builtin.append, args := #[Operand.tmp 68, Operand.tmp 74], argTypes := #[27, 27] }, type := 27, pos := "ref.go:56", after := #[{ on := 13, ground := Ground.data }, { on := 19, ground := Ground.data }, { on := 13, ground := Ground.chain }], guard := none }) rfl (fun K hK => ?_) Up.TillAll.nil
          refine step_append_rows (by rfl) (.tmp 68) (.tmp 74) 27 (by rfl) 50 (.agg #[.int .i64 0, .int .i64 0]) 2 16 Try.underlying27 infoE0 rfl _ _ _ _ (by simp [Act.eval, Act.put]) R_1_8_12_13.out (if hc = hs.length then hA else hA.map (·.add (hs.length * 2))) (hs.length - hs.length) (hc - hs.length) _ (by simp [Act.eval, Act.put]) (HBK.out.below B_1_8_12_13.out) HO2.out (by have := HB.out; have := HKL.out; unfold maxLen; omega) (by have := HB.out; have := HKL.out; omega) ?_
          intro A_1_8_12_13_20 c_1_8_12_13_20 w_1_8_12_13_20 hR6 hG6 hk6
          have B_1_8_12_13_20 := Aside0.mk (hG6.to_below B_1_8_12_13.out B_1_8_12_13.out.size K_1_8_12_13.out)
          have R_1_8_12_13_20 := Aside0.mk hR6
          have K_1_8_12_13_20 := Aside0.mk (show ∀ k, blk A_1_8_12_13_20 k → w.heap.size ≤ k from fun k h => (hk6 k h).elim (K_1_8_12_13.out k) (fun h2 => Nat.le_trans B_1_8_12_13.out.size h2))
          clear hR6 hG6 hk6
          refine hK.out _ _ (fun _ => ?_) (fun hHr20 => ?_)
          · (try dsimp only)
            exact HX.out _ B_1_8_12_13_20.out
          replace hHr20 := hHr20 (by rfl)
          clear hK K hHr19
          (try simp only [Act.put, List.setIfInBounds_toArray, List.set_cons_zero, List.set_cons_succ])
          refine Up.Till.takeY 21 (oi := { dst := some 76, op := Op.nilCheck (Operand.tmp 55), type := 0, pos := "ref.go:56", after := #[{ on := 0, ground := Ground.data }, { on := 0, ground := Ground.phase }, { on := 1, ground := Ground.phase }, { on := 2, ground := Ground.phase }, { on := 3, ground := Ground.phase }, { on := 4, ground := Ground.phase }, { on := 5, ground := Ground.phase }, { on := 6, ground := Ground.phase }, { on := 7, ground := Ground.phase }, { on := 8, ground := Ground.phase }, { on := 9, ground := Ground.phase }, { on := 10, ground := Ground.phase }, { on := 11, ground := Ground.phase }, { on := 12, ground := Ground.phase }, { on := 13, ground := Ground.phase }, { on := 14, ground := Ground.phase }, { on := 15, ground := Ground.phase }, { on := 16, ground := Ground.phase }, { on := 17, ground := Ground.phase }, { on := 18, ground := Ground.phase }, { on := 19, ground := Ground.phase }, { on := 20, ground := Ground.phase }], guard := none }) (v := ?vr22) rfl (by rfl) (by kernel_rfl) (by kernel_rfl) (by kernel_rfl) (fun _ _ _ h => h) (Or.inl ⟨by rfl, ?yr22⟩) (fun _ => by assumption) ?rr22
          case yr22 => (intro w hSw; clear hSw; go_simp; (try with_reducible rfl))
          (try simp only [Act.put, List.setIfInBounds_toArray, List.set_cons_zero, List.set_cons_succ])
          refine Up.Till.takeY 22 (oi := { dst := some 77, op := Op.fieldAddr 29 (Operand.tmp 76) 0, type := 0, pos := "ref.go:56", after := #[{ on := 21, ground := Ground.data }, { on := 0, ground := Ground.phase }, { on := 1, ground := Ground.phase }, { on := 2, ground := Ground.phase }, { on := 3, ground := Ground.phase }, { on := 4, ground := Ground.phase }, { on := 5, ground := Ground.phase }, { on := 6, ground := Ground.phase }, { on := 7, ground := Ground.phase }, { on := 8, ground := Ground.phase }, { on := 9, ground := Ground.phase }, { on := 10, ground := Ground.phase }, { on := 11, ground := Ground.phase }, { on := 12, ground := Ground.phase }, { on := 13, ground := Ground.phase }, { on := 14, ground := Ground.phase }, { on := 15, ground := Ground.phase }, { on := 16, ground := Ground.phase }, { on := 17, ground := Ground.phase }, { on := 18, ground := Ground.phase }, { on := 19, ground := Ground.phase }, { on := 20, ground := Ground.phase }], guard := none }) (v := ?vr23) rfl (by rfl) (by kernel_rfl) (by kernel_rfl) (by kernel_rfl) (fun _ _ _ h => h) (Or.inl ⟨by rfl, ?yr23⟩) (fun _ => by assumption) ?rr23
          case yr23 => (intro w hSw; clear hSw; go_simp; (try with_reducible rfl))
          (try simp only [Act.put, List.setIfInBounds_toArray, List.set_cons_zero, List.set_cons_succ])
          refine Up.Till.ready (rs := [23]) (by kernel_rfl) (by simp) ?_
          refine Up.TillAll.cons (o := { dst := none, op := Op.store 27 (Operand.tmp 77) (Operand.tmp 75), type := 0, pos := "ref.go:56", after := #[{ on := 22, ground := Ground.data }, { on := 20, ground := Ground.data }, { on := 20, ground := Ground.chain }, { on := 0, ground := Ground.phase }, { on := 1, ground := Ground.phase }, { on := 2, ground := Ground.phase }, { on := 3, ground := Ground.phase }, { on := 4, ground := Ground.phase }, { on := 5, ground := Ground.phase }, { on := 6, ground := Ground.phase }, { on := 7, ground := Ground.phase }, { on := 8, ground := Ground.phase }, { on := 9, ground := Ground.phase }, { on := 10, ground := Ground.phase }, { on := 11, ground := Ground.phase }, { on := 12, ground := Ground.phase }, { on := 13, ground := Ground.phase }, { on := 14, ground := Ground.phase }, { on := 15, ground := Ground.phase }, { on := 16, ground := Ground.phase }, { on := 17, ground := Ground.phase }, { on := 18, ground := Ground.phase }, { on := 19, ground := Ground.phase }, { on := 20, ground := Ground.phase }], guard := none }) rfl (fun K hK => ?_) Up.TillAll.nil
          obtain ⟨z0, z1⟩ := HX.out _ B_1_8_12_13_20.out
          go_simp
          refine hK.out _ _ (fun h => absurd h (by decide)) (fun _ => ?_)
          clear hK K hHr20
          (try simp only [Act.put, List.setIfInBounds_toArray, List.set_cons_zero, List.set_cons_succ])
          refine Up.Till.done (by kernel_rfl) ?_ _
          go_end0
          have hE := HI.out.setH B_1_8_12_13_20.out R_1_8_12_13_20.out K_1_8_12_13_20.out HFL.out HNL.out
          rw [HL.out] at hE
          simp only [Nat.zero_add, Nat.sub_self, Nat.add_zero] at hE
          exact ⟨hs.length, HST.out, rfl, hE.1, hE.2⟩
        refine Up.TillAll.cons (o := { dst := some 67, op := Op.buildSlice 27 1 #[(0, Operand.tmp 66)], type := 27, pos := "ref.go:56", after := #[{ on := 11, ground := Ground.data }], guard := none }) rfl (fun K hK => ?_) ?_
        · go_simp
          have B_1_12 := Aside0.mk (below_alloc B_1.out (.cells #[.int .i64 who, .int .i64 m] 50))
          have N_1_12 := Aside0.mk (lit_be B_1.out 50 2 1 #[.int .i64 who, .int .i64 m] rfl (by decide))
          have E_1_12 := Aside0.mk (E_1.out.alloc (.cells #[.int .i64 who, .int .i64 m] 50))
          refine hK.out _ _ (fun _ => ?_) (fun hHr24 => ?_)
          · (try dsimp only)
            exact HX.out _ B_1_12.out
          replace hHr24 := hHr24 (by rfl)
          clear hK K hHr16
          (try simp only [Act.put, List.setIfInBounds_toArray, List.set_cons_zero, List.set_cons_succ])
          refine Up.Till.ready (rs := [8]) (by kernel_rfl) (by simp) ?_
          refine Up.TillAll.cons (o := { dst := some 63, op := Op.call { callee := Callee.builtin Builtin.append, args := #[Operand.tmp 56, Operand.tmp 62], argTypes := #[27, 27] }, type := 27, pos := "ref.go:56", after := #[{ on := 1, ground := Ground.data }, { on := 7, ground := Ground.data }], guard := none }) rfl (fun K hK => ?_) Up.TillAll.nil
          refine step_append_rows (by rfl) (.tmp 56) (.tmp 62) 27 (by rfl) 50 (.agg #[.int .i64 0, .int .i64 0]) 2 16 Try.underlying27 infoE0 rfl _ 0 0 [] (by simp [Act.eval, Act.put]) E_1_12.out hA hs.length hc _ (by simp [Act.eval, Act.put]) (HF.out.below B_1_12.out) HO1.out (by have := HB.out; have := HKL.out; unfold maxLen; omega) (by have := HB.out; have := HKL.out; omega) ?_
          intro A_1_12_8 c_1_12_8 w_1_12_8 hR6 hG6 hk6
          have B_1_12_8 := Aside0.mk (hG6.to_below B_1_12.out B_1_12.out.size (blk_le (by have := LE.out; first | omega | (simp; done) | (simp; omega) | (simp at this ⊢; omega))))
          have R_1_12_8 := Aside0.mk hR6
          have K_1_12_8 := Aside0.mk (show ∀ k, blk A_1_12_8 k → w.heap.size ≤ k from fun k h => (hk6 k h).elim (blk_le (by have := LE.out; first | omega | (simp; done) | (simp; omega) | (simp at this ⊢; omega)) k) (fun h2 => Nat.le_trans B_1_12.out.size h2))
          have N_1_12_8 := Aside0.mk (N_1_12.out.grew hG6 (blk_ne (by first | omega | (simp; done) | (simp; omega))))
          clear hR6 hG6 hk6
          refine hK.out _ _ (fun _ => ?_) (fun hHr25 => ?_)
          · (try dsimp only)
            exact HX.out _ B_1_12_8.out
          replace hHr25 := hHr25 (by rfl)
          clear hK K hHr24
          (try simp only [Act.put, List.setIfInBounds_toArray, List.set_cons_zero, List.set_cons_succ])
          refine Up.Till.ready (rs := [13]) (by kernel_rfl) (by simp) ?_
          refine Up.TillAll.cons (o := { dst := some 68, op := Op.call { callee := Callee.builtin Builtin.append, args := #[Operand.tmp 63, Operand.tmp 67], argTypes := #[27, 27] }, type := 27, pos := "ref.go:56", after := #[{ on := 8, ground := Ground.data }, { on := 12, ground := Ground.data }, { on := 8, ground := Ground.chain }], guard := none }) rfl (fun K hK => ?_) Up.TillAll.nil
          refine step_append_rows (by rfl) (.tmp 63) (.tmp 67) 27 (by rfl) 50 (.agg #[.int .i64 0, .int .i64 0]) 2 16 Try.underlying27 infoE0 rfl _ _ _ _ (by simp [Act.eval, Act.put]) R_1_12_8.out _ 1 1 _ (by simp [Act.eval, Act.put]) N_1_12_8.out (by simp [Value.oneCell']) (by have := HB.out; have := HKL.out; unfold maxLen; omega) (by have := HB.out; have := HKL.out; omega) ?_
          intro A_1_12_8_13 c_1_12_8_13 w_1_12_8_13 hR6 hG6 hk6
          have B_1_12_8_13 := Aside0.mk (hG6.to_below B_1_12_8.out B_1_12_8.out.size K_1_12_8.out)
          have R_1_12_8_13 := Aside0.mk hR6
          have K_1_12_8_13 := Aside0.mk (show ∀ k, blk A_1_12_8_13 k → w.heap.size ≤ k from fun k h => (hk6 k h).elim (K_1_12_8.out k) (fun h2 => Nat.le_trans B_1_12_8.out.size h2))
          clear hR6 hG6 hk6
          refine hK.out _ _ (fun _ => ?_) (fun hHr26 => ?_)
          · (try dsimp only)
            exact HX.out _ B_1_12_8_13.out
          replace hHr26 := hHr26 (by rfl)
          clear hK K hHr25
          (try simp only [Act.put, List.setIfInBounds_toArray, List.set_cons_zero, List.set_cons_succ])
          refine Up.Till.ready (rs := [20]) (by kernel_rfl) (by simp) ?_
          refine Up.TillAll.cons (o := { dst := some 75, op := Op.call { callee := Callee.builtin Builtin.append, args := #[Operand.tmp 68, Operand.tmp 74], argTypes := #[27, 27] }, type := 27, pos := "ref.go:56", after := #[{ on := 13, ground := Ground.data }, { on := 19, ground := Ground.data }, { on := 13, ground := Ground.chain }], guard := none }) rfl (fun K hK => ?_) Up.TillAll.nil
          refine step_append_rows (by rfl) (.tmp 68) (.tmp 74) 27 (by rfl) 50 (.agg #[.int .i64 0, .int .i64 0]) 2 16 Try.underlying27 infoE0 rfl _ _ _ _ (by simp [Act.eval, Act.put]) R_1_12_8_13.out (if hc = hs.length then hA else hA.map (·.add (hs.length * 2))) (hs.length - hs.length) (hc - hs.length) _ (by simp [Act.eval, Act.put]) (HBK.out.below B_1_12_8_13.out) HO2.out (by have := HB.out; have := HKL.out; unfold maxLen; omega) (by have := HB.out; have := HKL.out; omega) ?_
          intro A_1_12_8_13_20 c_1_12_8_13_20 w_1_12_8_13_20 hR6 hG6 hk6
          have B_1_12_8_13_20 := Aside0.mk (hG6.to_below B_1_12_8_13.out B_1_12_8_13.out.size K_1_12_8_13.out)
          have R_1_12_8_13_20 := Aside0.mk hR6
          have K_1_12_8_13_20 := Aside0.mk (show ∀ k, blk A_1_12_8_13_20 k → w.heap.size ≤ k from fun k h => (hk6 k h).elim (K_1_12_8_13.out k) (fun h2 => Nat.le_trans B_1_12_8_13.out.size h2))
          clear hR6 hG6 hk6
          refine hK.out _ _ (fun _ => ?_) (fun hHr27 => ?_)
          · (try dsimp only)
            exact HX.out _ B_1_12_8_13_20.out
          replace hHr27 := hHr27 (by rfl)
          clear hK K hHr26
          (try simp only [Act.put, List.setIfInBounds_toArray, List.set_cons_zero, List.set_cons_succ])
          refine Up.Till.takeY 21 (oi := { dst := some 76, op := Op.nilCheck (Operand.tmp 55), type := 0, pos := "ref.go:56", after := #[{ on := 0, ground := Ground.data }, { on := 0, ground := Ground.phase }, { on := 1, ground := Ground.phase }, { on := 2, ground := Ground.phase }, { on := 3, ground := Ground.phase }, { on := 4, ground := Ground.phase }, { on := 5, ground := Ground.phase }, { on := 6, ground := Ground.phase }, { on := 7, ground := Ground.phase }, { on := 8, ground := Ground.phase }, { on := 9, ground := Ground.phase }, { on := 10, ground := Ground.phase }, { on := 11, ground := Ground.phase }, { on := 12, ground := Ground.phase }, { on := 13, ground := Ground.phase }, { on := 14, ground := Ground.phase }, { on := 15, ground := Ground.phase }, { on := 16, ground := Ground.phase }, { on := 17, ground := Ground.phase }, { on := 18, ground := Ground.phase }, { on := 19, ground := Ground.phase }, { on := 20, ground := Ground.phase }], guard := none }) (v := ?vr29) rfl (by rfl) (by kernel_rfl) (by kernel_rfl) (by kernel_rfl) (fun _ _ _ h => h) (Or.inl ⟨by rfl, ?yr29⟩) (fun _ => by assumption) ?rr29
          case yr29 => (intro w hSw; clear hSw; go_simp; (try with_reducible rfl))
          (try simp only [Act.put, List.setIfInBounds_toArray, List.set_cons_zero, List.set_cons_succ])
          refine Up.Till.takeY 22 (oi := { dst := some 77, op := Op.fieldAddr 29 (Operand.tmp 76) 0, type := 0, pos := "ref.go:56", after := #[{ on := 21, ground := Ground.data }, { on := 0, ground := Ground.phase }, { on := 1, ground := Ground.phase }, { on := 2, ground := Ground.phase }, { on := 3, ground := Ground.phase }, { on := 4, ground := Ground.phase }, { on := 5, ground := Ground.phase }, { on := 6, ground := Ground.phase }, { on := 7, ground := Ground.phase }, { on := 8, ground := Ground.phase }, { on := 9, ground := Ground.phase }, { on := 10, ground := Ground.phase }, { on := 11, ground := Ground.phase }, { on := 12, ground := Ground.phase }, { on := 13, ground := Ground.phase }, { on := 14, ground := Ground.phase }, { on := 15, ground := Ground.phase }, { on := 16, ground := Ground.phase }, { on := 17, ground := Ground.phase }, { on := 18, ground := Ground.phase }, { on := 19, ground := Ground.phase }, { on := 20, ground := Ground.phase }], guard := none }) (v := ?vr30) rfl (by rfl) (by kernel_rfl) (by kernel_rfl) (by kernel_rfl) (fun _ _ _ h => h) (Or.inl ⟨by rfl, ?yr30⟩) (fun _ => by assumption) ?rr30
          case yr30 => (intro w hSw; clear hSw; go_simp; (try with_reducible rfl))
          (try simp only [Act.put, List.setIfInBounds_toArray, List.set_cons_zero, List.set_cons_succ])
          refine Up.Till.ready (rs := [23]) (by kernel_rfl) (by simp) ?_
          refine Up.TillAll.cons (o := { dst := none, op := Op.store 27 (Operand.tmp 77) (Operand.tmp 75), type := 0, pos := "ref.go:56", after := #[{ on := 22, ground := Ground.data }, { on := 20, ground := Ground.data }, { on := 20, ground := Ground.chain }, { on := 0, ground := Ground.phase }, { on := 1, ground := Ground.phase }, { on := 2, ground := Ground.phase }, { on := 3, ground := Ground.phase }, { on := 4, ground := Ground.phase }, { on := 5, ground := Ground.phase }, { on := 6, ground := Ground.phase }, { on := 7, ground := Ground.phase }, { on := 8, ground := Ground.phase }, { on := 9, ground := Ground.phase }, { on := 10, ground := Ground.phase }, { on := 11, ground := Ground.phase }, { on := 12, ground := Ground.phase }, { on := 13, ground := Ground.phase }, { on := 14, ground := Ground.phase }, { on := 15, ground := Ground.phase }, { on := 16, ground := Ground.phase }, { on := 17, ground := Ground.phase }, { on := 18, ground := Ground.phase }, { on := 19, ground := Ground.phase }, { on := 20, ground := Ground.phase }], guard := none }) rfl (fun K hK => ?_) Up.TillAll.nil
          obtain ⟨z0, z1⟩ := HX.out _ B_1_12_8_13_20.out
          go_simp
          refine hK.out _ _ (fun h => absurd h (by decide)) (fun _ => ?_)
          clear hK K hHr27
          (try simp only [Act.put, List.setIfInBounds_toArray, List.set_cons_zero, List.set_cons_succ])
          refine Up.Till.done (by kernel_rfl) ?_ _
          go_end0
          have hE := HI.out.setH B_1_12_8_13_20.out R_1_12_8_13_20.out K_1_12_8_13_20.out HFL.out HNL.out
          rw [HL.out] at hE
          simp only [Nat.zero_add, Nat.sub_self, Nat.add_zero] at hE
          exact ⟨hs.length, HST.out, rfl, hE.1, hE.2⟩
        exact Up.TillAll.nil
      refine Up.TillAll.cons (o := { dst := some 67, op := Op.buildSlice 27 1 #[(0, Operand.tmp 66)], type := 27, pos := "ref.go:56", after := #[{ on := 11, ground := Ground.data }], guard := none }) rfl (fun K hK => ?_) ?_
      · go_simp
        have B_12 := Aside0.mk (below_alloc HBd.out (.cells #[.int .i64 who, .int .i64 m] 50))
        have N_12 := Aside0.mk (lit_be HBd.out 50 2 1 #[.int .i64 who, .int .i64 m] rfl (by decide))
        refine hK.out _ _ (fun _ => ?_) (fun hHr31 => ?_)
        · (try dsimp only)
          exact HX.out _ B_12.out
        replace hHr31 := hHr31 (by rfl)
        clear hK K hH
        (try simp only [Act.put, List.setIfInBounds_toArray, List.set_cons_zero, List.set_cons_succ])
        refine Up.Till.ready (rs := [1]) (by kernel_rfl) (by simp) ?_
        refine Up.TillAll.cons (o := { dst := some 56, op := Op.buildSlice 27 0 #[], type := 27, pos := "ref.go:56", after := #[], guard := none }) rfl (fun K hK => ?_) Up.TillAll.nil
        go_simp
        have B_12_1 := Aside0.mk (below_alloc B_12.out (.cells #[] 50))
        have E_12_1 := Aside0.mk (lit_be B_12.out 50 2 0 #[] rfl (by decide))
        have LE := Aside0.mk (B_12.out.size)
        have N_12_1 := Aside0.mk (N_12.out.alloc (.cells #[] 50))
        refine hK.out _ _ (fun _ => ?_) (fun hHr32 => ?_)
        · (try dsimp only)
          exact HX.out _ B_12_1.out
        replace hHr32 := hHr32 (by rfl)
        clear hK K hHr31
        (try simp only [Act.put, List.setIfInBounds_toArray, List.set_cons_zero, List.set_cons_succ])
        refine Up.Till.ready (rs := [8]) (by kernel_rfl) (by simp) ?_
        refine Up.TillAll.cons (o := { dst := some 63, op := Op.call { callee := Callee.builtin Builtin.append, args := #[Operand.tmp 56, Operand.tmp 62], argTypes := #[27, 27] }, type := 27, pos := "ref.go:56", after := #[{ on := 1, ground := Ground.data }, { on := 7, ground := Ground.data }], guard := none }) rfl (fun K hK => ?_) Up.TillAll.nil
        refine step_append_rows (by rfl) (.tmp 56) (.tmp 62) 27 (by rfl) 50 (.agg #[.int .i64 0, .int .i64 0]) 2 16 Try.underlying27 infoE0 rfl _ 0 0 [] (by simp [Act.eval, Act.put]) E_12_1.out hA hs.length hc _ (by simp [Act.eval, Act.put]) (HF.out.below B_12_1.out) HO1.out (by have := HB.out; have := HKL.out; unfold maxLen; omega) (by have := HB.out; have := HKL.out; omega) ?_
        intro A_12_1_8 c_12_1_8 w_12_1_8 hR6 hG6 hk6
        have B_12_1_8 := Aside0.mk (hG6.to_below B_12_1.out B_12_1.out.size (blk_le (by have := LE.out; first | omega | (simp; done) | (simp; omega) | (simp at this ⊢; omega))))
        have R_12_1_8 := Aside0.mk hR6
        have K_12_1_8 := Aside0.mk (show ∀ k, blk A_12_1_8 k → w.heap.size ≤ k from fun k h => (hk6 k h).elim (blk_le (by have := LE.out; first | omega | (simp; done) | (simp; omega) | (simp at this ⊢; omega)) k) (fun h2 => Nat.le_trans B_12_1.out.size h2))
        have N_12_1_8 := Aside0.mk (N_12_1.out.grew hG6 (blk_ne (by first | omega | (simp; done) | (simp; omega))))
        clear hR6 hG6 hk6
        refine hK.out _ _ (fun _ => ?_) (fun hHr33 => ?_)
        · (try dsimp only)
          exact HX.out _ B_12_1_8.out
        replace hHr33 := hHr33 (by rfl)
        clear hK K hHr32
        (try simp only [Act.put, List.setIfInBounds_toArray, List.set_cons_zero, List.set_cons_succ])
        refine Up.Till.ready (rs := [13]) (by kernel_rfl) (by simp) ?_
        refine Up.TillAll.cons (o := { dst := some 68, op := Op.call { callee := Callee.builtin Builtin.append, args := #[Operand.tmp 63, Operand.tmp 67], argTypes := #[27, 27] }, type := 27, pos := "ref.go:56", after := #[{ on := 8, ground := Ground.data }, { on := 12, ground := Ground.data }, { on := 8, ground := Ground.chain }], guard := none }) rfl (fun K hK => ?_) Up.TillAll.nil
        refine step_append_rows (by rfl) (.tmp 63) (.tmp 67) 27 (by rfl) 50 (.agg #[.int .i64 0, .int .i64 0]) 2 16 Try.underlying27 infoE0 rfl _ _ _ _ (by simp [Act.eval, Act.put]) R_12_1_8.out _ 1 1 _ (by simp [Act.eval, Act.put]) N_12_1_8.out (by simp [Value.oneCell']) (by have := HB.out; have := HKL.out; unfold maxLen; omega) (by have := HB.out; have := HKL.out; omega) ?_
        intro A_12_1_8_13 c_12_1_8_13 w_12_1_8_13 hR6 hG6 hk6
        have B_12_1_8_13 := Aside0.mk (hG6.to_below B_12_1_8.out B_12_1_8.out.size K_12_1_8.out)
        have R_12_1_8_13 := Aside0.mk hR6
        have K_12_1_8_13 := Aside0.mk (show ∀ k, blk A_12_1_8_13 k → w.heap.size ≤ k from fun k h => (hk6 k h).elim (K_12_1_8.out k) (fun h2 => Nat.le_trans B_12_1_8.out.size h2))
        clear hR6 hG6 hk6
        refine hK.out _ _ (fun _ => ?_) (fun hHr34 => ?_)
        · (try dsimp only)
          exact HX.out _ B_12_1_8_13.out
        replace hHr34 := hHr34 (by rfl)
        clear hK K hHr33
        (try simp only [Act.put, List.setIfInBounds_toArray, List.set_cons_zero, List.set_cons_succ])
        refine Up.Till.ready (rs := [20]) (by kernel_rfl) (by simp) ?_
        refine Up.TillAll.cons (o := { dst := some 75, op := Op.call { callee := Callee.builtin Builtin.append, args := #[Operand.tmp 68, Operand.tmp 74], argTypes := #[27, 27] }, type := 27, pos := "ref.go:56", after := #[{ on := 13, ground := Ground.data }, { on := 19, ground := Ground.data }, { on := 13, ground := Ground.chain }], guard := none }) rfl (fun K hK => ?_) Up.TillAll.nil
        refine step_append_rows (by rfl) (.tmp 68) (.tmp 74) 27 (by rfl) 50 (.agg #[.int .i64 0, .int .i64 0]) 2 16 Try.underlying27 infoE0 rfl _ _ _ _ (by simp [Act.eval, Act.put]) R_12_1_8_13.out (if hc = hs.length then hA else hA.map (·.add (hs.length * 2))) (hs.length - hs.length) (hc - hs.length) _ (by simp [Act.eval, Act.put]) (HBK.out.below B_12_1_8_13.out) HO2.out (by have := HB.out; have := HKL.out; unfold maxLen; omega) (by have := HB.out; have := HKL.out; omega) ?_
        intro A_12_1_8_13_20 c_12_1_8_13_20 w_12_1_8_13_20 hR6 hG6 hk6
        have B_12_1_8_13_20 := Aside0.mk (hG6.to_below B_12_1_8_13.out B_12_1_8_13.out.size K_12_1_8_13.out)
        have R_12_1_8_13_20 := Aside0.mk hR6
        have K_12_1_8_13_20 := Aside0.mk (show ∀ k, blk A_12_1_8_13_20 k → w.heap.size ≤ k from fun k h => (hk6 k h).elim (K_12_1_8_13.out k) (fun h2 => Nat.le_trans B_12_1_8_13.out.size h2))
        clear hR6 hG6 hk6
        refine hK.out _ _ (fun _ => ?_) (fun hHr35 => ?_)
        · (try dsimp only)
          exact HX.out _ B_12_1_8_13_20.out
        replace hHr35 := hHr35 (by rfl)
        clear hK K hHr34
        (try simp only [Act.put, List.setIfInBounds_toArray, List.set_cons_zero, List.set_cons_succ])
        refine Up.Till.takeY 21 (oi := { dst := some 76, op := Op.nilCheck (Operand.tmp 55), type := 0, pos := "ref.go:56", after := #[{ on := 0, ground := Ground.data }, { on := 0, ground := Ground.phase }, { on := 1, ground := Ground.phase }, { on := 2, ground := Ground.phase }, { on := 3, ground := Ground.phase }, { on := 4, ground := Ground.phase }, { on := 5, ground := Ground.phase }, { on := 6, ground := Ground.phase }, { on := 7, ground := Ground.phase }, { on := 8, ground := Ground.phase }, { on := 9, ground := Ground.phase }, { on := 10, ground := Ground.phase }, { on := 11, ground := Ground.phase }, { on := 12, ground := Ground.phase }, { on := 13, ground := Ground.phase }, { on := 14, ground := Ground.phase }, { on := 15, ground := Ground.phase }, { on := 16, ground := Ground.phase }, { on := 17, ground := Ground.phase }, { on := 18, ground := Ground.phase }, { on := 19, ground := Ground.phase }, { on := 20, ground := Ground.phase }], guard := none }) (v := ?vr37) rfl (by rfl) (by kernel_rfl) (by kernel_rfl) (by kernel_rfl) (fun _ _ _ h => h) (Or.inl ⟨by rfl, ?yr37⟩) (fun _ => by assumption) ?rr37
        case yr37 => (intro w hSw; clear hSw; go_simp; (try with_reducible rfl))
        (try simp only [Act.put, List.setIfInBounds_toArray, List.set_cons_zero, List.set_cons_succ])
        refine Up.Till.takeY 22 (oi := { dst := some 77, op := Op.fieldAddr 29 (Operand.tmp 76) 0, type := 0, pos := "ref.go:56", after := #[{ on := 21, ground := Ground.data }, { on := 0, ground := Ground.phase }, { on := 1, ground := Ground.phase }, { on := 2, ground := Ground.phase }, { on := 3, ground := Ground.phase }, { on := 4, ground := Ground.phase }, { on := 5, ground := Ground.phase }, { on := 6, ground := Ground.phase }, { on := 7, ground := Ground.phase }, { on := 8, ground := Ground.phase }, { on := 9, ground := Ground.phase }, { on := 10, ground := Ground.phase }, { on := 11, ground := Ground.phase }, { on := 12, ground := Ground.phase }, { on := 13, ground := Ground.phase }, { on := 14, ground := Ground.phase }, { on := 15, ground := Ground.phase }, { on := 16, ground := Ground.phase }, { on := 17, ground := Ground.phase }, { on := 18, ground := Ground.phase }, { on := 19, ground := Ground.phase }, { on := 20, ground := Ground.phase }], guard := none }) (v := ?vr38) rfl (by rfl) (by kernel_rfl) (by kernel_rfl) (by kernel_rfl) (fun _ _ _ h => h) (Or.inl ⟨by rfl, ?yr38⟩) (fun _ => by assumption) ?rr38
        case yr38 => (intro w hSw; clear hSw; go_simp; (try with_reducible rfl))
        (try simp only [Act.put, List.setIfInBounds_toArray, List.set_cons_zero, List.set_cons_succ])
        refine Up.Till.ready (rs := [23]) (by kernel_rfl) (by simp) ?_
        refine Up.TillAll.cons (o := { dst := none, op := Op.store 27 (Operand.tmp 77) (Operand.tmp 75), type := 0, pos := "ref.go:56", after := #[{ on := 22, ground := Ground.data }, { on := 20, ground := Ground.data }, { on := 20, ground := Ground.chain }, { on := 0, ground := Ground.phase }, { on := 1, ground := Ground.phase }, { on := 2, ground := Ground.phase }, { on := 3, ground := Ground.phase }, { on := 4, ground := Ground.phase }, { on := 5, ground := Ground.phase }, { on := 6, ground := Ground.phase }, { on := 7, ground := Ground.phase }, { on := 8, ground := Ground.phase }, { on := 9, ground := Ground.phase }, { on := 10, ground := Ground.phase }, { on := 11, ground := Ground.phase }, { on := 12, ground := Ground.phase }, { on := 13, ground := Ground.phase }, { on := 14, ground := Ground.phase }, { on := 15, ground := Ground.phase }, { on := 16, ground := Ground.phase }, { on := 17, ground := Ground.phase }, { on := 18, ground := Ground.phase }, { on := 19, ground := Ground.phase }, { on := 20, ground := Ground.phase }], guard := none }) rfl (fun K hK => ?_) Up.TillAll.nil
        obtain ⟨z0, z1⟩ := HX.out _ B_12_1_8_13_20.out
        go_simp
        refine hK.out _ _ (fun h => absurd h (by decide)) (fun _ => ?_)
        clear hK K hHr35
        (try simp only [Act.put, List.setIfInBounds_toArray, List.set_cons_zero, List.set_cons_succ])
        refine Up.Till.done (by kernel_rfl) ?_ _
        go_end0
        have hE := HI.out.setH B_12_1_8_13_20.out R_12_1_8_13_20.out K_12_1_8_13_20.out HFL.out HNL.out
        rw [HL.out] at hE
        simp only [Nat.zero_add, Nat.sub_self, Nat.add_zero] at hE
        exact ⟨hs.length, HST.out, rfl, hE.1, hE.2⟩
      exact Up.TillAll.nil
end Go.Proofs.Ytfpnadalfopmcaa.Ln
