/- slices.DeleteFunc over entries. -/
import Derived.Test.YtagdgkimjgomlaaLn7
import Derived.Test.YtagdgkimjgomlaaRow3
namespace Go.Proofs.Ytagdgkimjgomlaa.Ln
open Go.RowKit Go.Proofs.YtagdgkimjgomlaaW.PrintWords Go.Proofs.YtagdgkimjgomlaaW.PrintLast Go.Proofs.YtagdgkimjgomlaaW.PrintMore Go.Proofs.Ytagdgkimjgomlaa.PMd
set_option linter.unusedVariables false
set_option linter.unusedSimpArgs false
/-- What is asked of a closure while the row that it is asked about is written. -/
def PredG (g : Nat) (lb : Array Value) (p : E → Bool) (A : Option Addr) (w : World) : Prop :=
  ∀ (W : World) (x : E), Grew (blk A) w W → Calls Try.prog g (#[.agg #[.int .i64 x.f0, .int .i64 x.f1]] ++ lb) W fun e w' => e = .returned (.bool (p x)) ∧ Below W.heap.size W w'
theorem PredG.pred {g : Nat} {lb : Array Value} {p : E → Bool} {A : Option Addr} {w : World} (h : PredG g lb p A w) : Pred g lb p w := fun W x hb => h W x (Grew.of_below hb)
/-- Where a deletion stands: the first k are what is kept of the first j, what is behind j is as it was. -/
structure Del (p : E → Bool) (l L : List E) (k j : Nat) : Prop where
  len : L.length = l.length
  le : k < j
  front : L.take k = (l.take j).filter (fun x => !p x)
  back : L.drop j = l.drop j
theorem Del.start {p : E → Bool} {l : List E} {i : Nat} (hi : i < l.length) (hp : p (l.getD i z67) = true) (ha : ∀ q, q < i → p (l.getD q z67) = false) : Del p l l i (i + 1) := by
  refine ⟨rfl, by omega, ?_, rfl⟩
  have e1 : l.take (i + 1) = l.take i ++ [l.getD i z67] := by rw [List.take_add_one, get_getD hi]; rfl
  rw [e1, List.filter_append, List.filter_eq_self.2, List.filter_cons_of_neg (by show ¬ (!p _) = true; rw [hp]; decide)]
  · simp
  · intro x hx
    obtain ⟨q, hq, rfl⟩ := List.mem_iff_getElem.1 hx
    rw [List.length_take] at hq
    have := ha q (by omega)
    rw [List.getElem_take]
    simpa [List.getD_eq_getElem?_getD, List.getElem?_eq_getElem (show q < l.length by omega)] using this
theorem Del.at_ {p : E → Bool} {l L : List E} {k j : Nat} (h : Del p l L k j) (hj : j < l.length) : L.getD j z67 = l.getD j z67 := by
  have h1 := congrArg (fun q => q[0]?) h.back
  simp only [List.getElem?_drop, Nat.add_zero] at h1
  rw [List.getD_eq_getElem?_getD, List.getD_eq_getElem?_getD, h1]
theorem Del.keep {p : E → Bool} {l L : List E} {k j : Nat} (h : Del p l L k j) (hj : j < l.length) (hp : p (l.getD j z67) = false) : Del p l (L.set k (l.getD j z67)) (k + 1) (j + 1) := by
  have hl := h.len
  have hk := h.le
  refine ⟨by rw [List.length_set]; exact h.len, by omega, ?_, ?_⟩
  · have e1 : l.take (j + 1) = l.take j ++ [l.getD j z67] := by rw [List.take_add_one, get_getD hj]; rfl
    rw [e1, List.filter_append, ← h.front, List.filter_cons_of_pos (by show (!p _) = true; rw [hp]; rfl), List.filter_nil]
    have e2 : (L.set k (l.getD j z67)).take (k + 1) = (L.set k (l.getD j z67)).take k ++ [l.getD j z67] := by
      rw [List.take_add_one, List.getElem?_set_self (by omega)]; rfl
    rw [e2, List.take_set_of_le (by omega)]
  · rw [List.drop_set_of_lt (by omega)]
    have h1 := congrArg (List.drop 1) h.back
    simpa [List.drop_drop] using h1
theorem Del.skip {p : E → Bool} {l L : List E} {k j : Nat} (h : Del p l L k j) (hj : j < l.length) (hp : p (l.getD j z67) = true) : Del p l L k (j + 1) := by
  refine ⟨h.len, by have := h.le; omega, ?_, ?_⟩
  · have e1 : l.take (j + 1) = l.take j ++ [l.getD j z67] := by rw [List.take_add_one, get_getD hj]; rfl
    rw [e1, List.filter_append, ← h.front, List.filter_cons_of_neg (by show ¬ (!p _) = true; rw [hp]; decide), List.filter_nil, List.append_nil]
  · have h1 := congrArg (List.drop 1) h.back
    simpa [List.drop_drop] using h1
theorem ix_hit' {p : E → Bool} {l : List E} {i : Nat} (h : ix p l = (i : Int)) : i < l.length ∧ p (l.getD i z67) = true ∧ ∀ q, q < i → p (l.getD q z67) = false := by
  unfold ix at h
  cases hf : l.findIdx? p with
  | none => rw [hf] at h; simp at h
  | some k =>
    rw [hf] at h
    obtain rfl : k = i := by have h2 : (k : Int) = i := h; omega
    rw [List.findIdx?_eq_some_iff_getElem] at hf
    obtain ⟨hi, hp, ha⟩ := hf
    refine ⟨hi, by simpa [List.getD_eq_getElem?_getD, List.getElem?_eq_getElem hi] using hp, fun q hq => ?_⟩
    have := ha q hq
    simpa [List.getD_eq_getElem?_getD, List.getElem?_eq_getElem (show q < l.length by omega)] using this
theorem flat_set2 (l : List E) (j : Nat) (x : E) : ((flat l).set (j * 2) (.int .i64 x.f0)).set (j * 2 + 1) (.int .i64 x.f1) = flat (l.set j x) := by
  induction l generalizing j with
  | nil => simp [flat]
  | cons y l ih =>
    have e : ∀ (y : E) (l : List E), flat (y :: l) = .int .i64 y.f0 :: .int .i64 y.f1 :: flat l := fun _ _ => rfl
    cases j with
    | zero => rw [e, List.set_cons_zero]; rfl
    | succ j =>
      rw [e, show (j + 1) * 2 = j * 2 + 1 + 1 by omega, List.set_cons_succ, List.set_cons_succ, List.set_cons_succ, List.set_cons_succ, ih, List.set_cons_succ, e]
theorem zeros_one : ∀ n, ∀ v ∈ (Builtin.zeroCells (Value.agg #[.int .i64 0, .int .i64 0]).cells n).toList, v.oneCell' = true := by
  intro n v hv
  simp only [Builtin.zeroCells, Array.toList_map, List.mem_map] at hv
  obtain ⟨i, _, rfl⟩ := hv
  have e : (Value.agg #[.int .i64 0, .int .i64 0]).cells = #[.int .i64 0, .int .i64 0] := rfl
  rw [e]
  rcases Nat.mod_two_eq_zero_or_one i with h | h
  · show (#[Value.int .i64 0, .int .i64 0][i % 2]!).oneCell' = true
    rw [h]; rfl
  · show (#[Value.int .i64 0, .int .i64 0][i % 2]!).oneCell' = true
    rw [h]; rfl
def DelPost (A : Option Addr) (c : Nat) (p : E → Bool) (l : List E) (w : World) (e : Ending) (w' : World) : Prop :=
  e = .returned (.slice A (l.filter fun x => !p x).length c) ∧ Row w' 67 2 A (l.filter fun x => !p x).length c (flat (l.filter fun x => !p x)) ∧ Grew (blk A) w w'
set_option maxHeartbeats 8000000 in
set_option maxRecDepth 100000 in
theorem DeleteFunc_ (g : Nat) (lb : Array Value) (p : E → Bool) (eg : ∀ args w, (callFunc g args).run Try.prog w = .ok (.enter g args) w) (A : Option Addr) (c : Nat) (l : List E) (w : World)
    (hR : Row w 67 2 A l.length c (flat l)) (hp : PredG g lb p A w) (hl : l.length ≤ 1000000) :
    Calls Try.prog 82 #[.slice A l.length c, .func (.func g) #[] lb] w (DelPost A c p l w) := by
  have hu67 := Try.underlying67
  have HI := Aside0.mk (indexFunc g lb p eg A c l w hR.reads hR.2.1 hp.pred)
  have HR := Aside0.mk hR
  have HP := Aside0.mk hp
  have HL := Aside0.mk hl
  by_cases hx : ix p l < 0
  · have hx1 : ix p l = -1 := by
      unfold ix at hx ⊢
      cases h : l.findIdx? p with
      | none => rfl
      | some i => rw [h] at hx; simp at hx; omega
    have HF := Aside0.mk (show (l.filter fun x => !p x) = l from List.filter_eq_self.2 (fun x hx2 => by rw [ix_none hx x hx2]; rfl))
    rw [hx1] at HI
    clear hR hp hl hx hx1
    go_enter Try.func82, Try.ntmps82
    go_wp2_with fail
    refine HI.out.mono ?_
    rintro e w3 ⟨rfl, hb⟩
    have HB := Aside0.mk hb
    clear hb
    go_wp2_with fail
    go_ret
    unfold DelPost
    rw [HF.out]
    exact ⟨rfl, HR.out.below HB.out, Grew.of_below HB.out⟩
  · obtain ⟨i, hi⟩ : ∃ i : Nat, ix p l = (i : Int) := ⟨_, (Int.toNat_of_nonneg (by omega)).symm⟩
    obtain ⟨hil, hpi, hai⟩ := ix_hit' hi
    rw [hi] at HI
    obtain ⟨ga, off, cur, rfl, hg, hsz, hcell⟩ := hR.at_ (by omega)
    have D0 := Aside0.mk (Del.start hil hpi hai)
    have HIL := Aside0.mk hil
    have n1 : ((i : Int) == -1) = false := beq_eq_false_iff_ne.2 (by omega)
    have WI := Aside0.mk (show wrap64 ((i : Int) + 1) = ((i + 1 : Nat) : Int) from by unfold wrap64; omega)
    clear hR hp hl hx hi hil hpi hai hg hsz hcell
    go_enter Try.func82, Try.ntmps82
    go_wp2_with fail
    refine HI.out.mono ?_
    rintro e w3 ⟨rfl, hb⟩
    have HB := Aside0.mk hb
    clear hb
    go_wp2_with fail
    go_loopg [5, 6] l.length (fun gg v5 v6 wr => ∃ (k j : Nat) (L : List E), j ≤ l.length ∧ l.length - j ≤ gg ∧ v5 = .int .i64 k ∧ v6 = .int .i64 j ∧ Aside0 (Del p l L k j) ∧ Aside0 (Row wr 67 2 (some ⟨ga, off, none⟩) l.length c (flat L)) ∧ Aside0 (Grew (blk (some ⟨ga, off, none⟩)) w wr))
    case atStart => exact ⟨i, i + 1, l, HIL.out, by omega, rfl, congrArg (Value.int .i64) WI.out, D0, ⟨HR.out.below HB.out⟩, ⟨Grew.of_below HB.out⟩⟩
    case round =>
      obtain ⟨k, j, L, hj, hgg, rfl, rfl, HD, HRr, HGr⟩ := hrel
      clear n1 WI HI D0 HR HB HIL
      have hl63 : l.length ≤ 1000000 := HL.out
      by_cases hlt : j < l.length
      · have p1 : 0 ≤ (j : Int) := by omega
        have p2 : (j : Int) < l.length := by omega
        have hLl : j < L.length := by rw [HD.out.len]; exact hlt
        obtain ⟨g', off', cur', hA, hg', hsz', hcell'⟩ := HRr.out.at_ (by omega)
        cases hA
        obtain ⟨f0, f1⟩ := flat_get (get_getD hLl)
        have q0 := (hcell' _ _ f0).1
        have q1 := (hcell' _ _ f1).1
        rw [← Nat.add_assoc] at q1
        rw [HD.out.at_ hlt] at q0 q1
        have HX := Aside0.mk (HP.out)
        generalize hy : l.getD j z67 = y at q0 q1
        have HY := Aside0.mk hy
        clear hy f0 f1 hLl
        cases hq : p y with
        | true =>
          have HQ := Aside0.mk hq
          clear hq
          have hcall := HP.out _ y (HGr.out.alloc (.cells #[.int .i64 y.f0, .int .i64 y.f1] 67))
          rw [HQ.out] at hcall
          have HX := Aside0.mk hcall
          have HD2 := Aside0.mk (HD.out.skip hlt (by rw [HY.out]; exact HQ.out))
          have HRA := Aside0.mk (HRr.out.alloc (.cells #[.int .i64 y.f0, .int .i64 y.f1] 67))
          have HGA := Aside0.mk (HGr.out.alloc (.cells #[.int .i64 y.f0, .int .i64 y.f1] 67))
          clear hcall
          go_wp2_with fail
          refine HX.out.mono ?_
          rintro e w4 ⟨rfl, hb⟩
          have HR4 := Aside0.mk (HRA.out.below hb)
          have HG4 := Aside0.mk (HGA.out.below hb)
          clear hb
          go_wp2
          go_roundg (l.length - (j + 1))
          case measure => omega
          case rel => exact ⟨k, j + 1, L, by omega, by omega, rfl, by go_num, HD2, HR4, HG4⟩
        | false =>
          have HQ := Aside0.mk hq
          clear hq
          have hcall := HP.out _ y (HGr.out.alloc (.cells #[.int .i64 y.f0, .int .i64 y.f1] 67))
          rw [HQ.out] at hcall
          have HX := Aside0.mk hcall
          have HD2 := Aside0.mk (HD.out.keep hlt (by rw [HY.out]; exact HQ.out))
          rw [HY.out] at HD2
          have hkj := HD.out.le
          have hLl : k < L.length := by rw [HD.out.len]; omega
          obtain ⟨f0, f1⟩ := flat_get (get_getD hLl)
          have s0 := hcell' _ _ f0
          have s1 := hcell' _ _ f1
          rw [← Nat.add_assoc] at s1
          have S0 := Aside0.mk s0
          have S1 := Aside0.mk s1
          have k1 : 0 ≤ (k : Int) := by omega
          have k2 : (k : Int) < l.length := by omega
          have HKJ := Aside0.mk hkj
          have bb := blk_new wr (.cells #[.int .i64 y.f0, .int .i64 y.f1] 67)
          have BB := Aside0.mk bb
          have HRA := Aside0.mk (HRr.out.alloc (.cells #[.int .i64 y.f0, .int .i64 y.f1] 67))
          have HGA := Aside0.mk (HGr.out.alloc (.cells #[.int .i64 y.f0, .int .i64 y.f1] 67))
          have HZ := Aside0.mk (show k * 2 + 1 < (flat L).length from by have h9 := hLl; rw [flat_len]; omega)
          clear hcall f0 f1 s0 s1 bb hcell' hLl hkj
          go_wp2_with fail
          refine HX.out.mono ?_
          rintro e w4 ⟨rfl, hb⟩
          have HR4 := Aside0.mk (HRA.out.below hb)
          have HG4 := Aside0.mk (HGA.out.below hb)
          have b0 : w4.cell? ⟨wr.heap.size, 0, none⟩ = some (.int .i64 y.f0) := cell_be ((blk_cell BB.out 0).trans rfl) hb
          have b1 : w4.cell? ⟨wr.heap.size, 1, none⟩ = some (.int .i64 y.f1) := cell_be ((blk_cell BB.out 1).trans rfl) hb
          obtain ⟨g', off', cur2, hA, hg2, hsz2, hcell2⟩ := HR4.out.at_ (by omega)
          cases hA
          obtain ⟨f0, f1⟩ := flat_get (l := L) (j := k) (get_getD (by have := HZ.out; rw [flat_len] at this; omega))
          have c0 := hcell2 _ _ f0
          have c1 := hcell2 _ _ f1
          rw [← Nat.add_assoc] at c1
          obtain ⟨c0, d0⟩ := c0
          obtain ⟨c1, d1⟩ := c1
          have d1' : (w4.setCell ⟨ga, off + k * 2, none⟩ (.int .i64 y.f0)).frozen? ⟨ga, off + k * 2 + 1, none⟩ = false := by
            have hg3 := heap_setCell_same w4 ga (off + k * 2) cur2 67 (.int .i64 y.f0) hg2
            exact frozen_of_row _ ga _ _ _ hg3
          clear hb f0 f1 hcell2 hsz2 hg2
          go_wp2_with fail
          have h1 := HR4.out.put (k * 2) (by have := HZ.out; omega) (.int .i64 y.f0)
          have h2 := h1.put (k * 2 + 1) (by rw [List.length_set]; exact HZ.out) (.int .i64 y.f1)
          rw [flat_set2, ← Nat.add_assoc] at h2
          have HR5 := Aside0.mk h2
          have HG5 := Aside0.mk ((HG4.out.setCell (p := ⟨ga, off + k * 2, none⟩) (.inl ⟨_, rfl, rfl⟩) (.int .i64 y.f0)).setCell (p := ⟨ga, off + k * 2 + 1, none⟩) (.inl ⟨_, rfl, rfl⟩) (.int .i64 y.f1))
          clear h1 h2 c0 c1 d0 d1 d1'
          go_roundg (l.length - (j + 1))
          case measure => omega
          case rel => exact ⟨k + 1, j + 1, L.set k y, by omega, by omega, by have := HKJ.out; go_num, by go_num, HD2, HR5, HG5⟩
      · have ej : j = l.length := by omega
        subst ej
        have hk := HD.out.le
        have k1 : 0 ≤ (k : Int) := by omega
        have k2 : (k : Int) ≤ l.length := by omega
        have hcl := HRr.out.2.1
        have k3 : ¬ c = k := by omega
        have k4 : (k : Int) ≤ c := by omega
        have HM := Aside0.mk (show 0 < l.length - k from by omega)
        have HM2 := Aside0.mk (show k * 2 + (l.length - k) * 2 ≤ l.length * 2 from by omega)
        have HK2 := Aside0.mk hk
        have hLE := HD.out.len
        have HFR := Aside0.mk (show L.take k = l.filter (fun x => !p x) from by have h := HD.out.front; rwa [List.take_length] at h)
        have HLE := Aside0.mk hLE
        clear hk hcl hLE
        go_wp2_with (with_reducible refine gate_clear ?_; refine wpList_clear_row rfl _ 64 rfl 67 _ 2 16 Try.underlying64 info67 rfl zeros_one ga off l.length c (flat L) HRr.out (k * 2) (l.length - k) (c - k) HM.out HM2.out (by simp [Act.eval, Act.put]) ?_)
        intro w5 hR5 hG5
        have HR5 := Aside0.mk hR5
        have HG5 := Aside0.mk (HGr.out.trans hG5 (fun q hq => .inl ⟨_, rfl, hq.symm⟩))
        clear hR5 hG5
        go_wp2
        go_ret
        have hkl : (l.filter fun x => !p x).length = k := by rw [← HFR.out, List.length_take, HLE.out]; have := HK2.out; omega
        have hU := HR5.out.upto k (by have := HK2.out; omega)
        have e1 : (Go.splice (flat L) (k * 2) (Builtin.zeroCells (Value.agg #[.int .i64 0, .int .i64 0]).cells (l.length - k)).toList).take (k * 2) = flat (l.filter fun x => !p x) := by
          unfold Go.splice
          rw [List.take_append_of_le_length (by rw [List.length_take, flat_len, HLE.out]; have := HK2.out; omega), List.take_take, Nat.min_self, ← flat_take, HFR.out]
        unfold DelPost
        rw [hkl, ← e1]
        exact ⟨rfl, hU, HG5.out⟩
end Go.Proofs.Ytagdgkimjgomlaa.Ln
