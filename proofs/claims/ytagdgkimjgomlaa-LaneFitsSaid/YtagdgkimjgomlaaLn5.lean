/- slices.Insert of one entry. -/
import Derived.Test.YtagdgkimjgomlaaLn4
import Derived.Test.YtagdgkimjgomlaaRow2
import Derived.Shelf.RegionOpenPlain
import Derived.Laws.Externs
namespace Go.Proofs.Ytagdgkimjgomlaa.Ln
open Go.RowKit Go.Proofs.YtagdgkimjgomlaaW.PrintWords Go.Proofs.YtagdgkimjgomlaaW.PrintLast Go.Proofs.YtagdgkimjgomlaaW.PrintMore Go.Proofs.Ytagdgkimjgomlaa.PMd
set_option linter.unusedVariables false
set_option linter.unusedSimpArgs false
theorem flat_take (l : List E) (i : Nat) : flat (l.take i) = (flat l).take (i * 2) := by
  induction l generalizing i with
  | nil => simp [flat]
  | cons x l ih =>
    cases i with
    | zero => simp [flat]
    | succ i =>
      have e : flat (x :: l) = .int .i64 x.f0 :: .int .i64 x.f1 :: flat l := rfl
      rw [List.take_succ_cons, e, show (i + 1) * 2 = i * 2 + 1 + 1 by omega, List.take_succ_cons, List.take_succ_cons, ← ih]
      rfl
theorem flat_drop (l : List E) (i : Nat) : flat (l.drop i) = (flat l).drop (i * 2) := by
  induction l generalizing i with
  | nil => simp [flat]
  | cons x l ih =>
    cases i with
    | zero => simp
    | succ i =>
      have e : flat (x :: l) = .int .i64 x.f0 :: .int .i64 x.f1 :: flat l := rfl
      rw [List.drop_succ_cons, e, show (i + 1) * 2 = i * 2 + 1 + 1 by omega, List.drop_succ_cons, List.drop_succ_cons, ← ih]
def insAt (l : List E) (i : Nat) (x : E) : List E := l.take i ++ x :: l.drop i
def InsPost (A : Option Addr) (l : List E) (i : Nat) (x : E) (w : World) (e : Ending) (w' : World) : Prop :=
  ∃ A' c', e = .returned (.slice A' (l.length + 1) c') ∧ Row w' 67 2 A' (l.length + 1) c' (flat (insAt l i x)) ∧ Grew (blk A) w w' ∧ (∀ k, blk A' k → blk A k ∨ w.heap.size ≤ k)
theorem encE_one (x : E) : ∀ u ∈ encE x, u.oneCell' = true := by
  intro u hu
  simp [encE] at hu
  rcases hu with rfl | rfl <;> rfl
theorem encE_at {w : World} {g2 : Nat} {x : E} (hv : w.heap[g2]? = some (.cells #[.int .i64 x.f0, .int .i64 x.f1] 67 (0, 0))) : ∀ j u, (encE x)[j]? = some u → w.cell? ((⟨g2, 0, none⟩ : Addr).add j) = some u := by
  intro j u hu
  rw [Addr.add_lit, Nat.zero_add]
  exact (blk_cell hv j).trans (by simpa [encE] using hu)
set_option maxHeartbeats 8000000 in
set_option maxRecDepth 100000 in
theorem Insert_end (A : Option Addr) (c : Nat) (l : List E) (x : E) (g2 : Nat) (w : World) (hR : Row w 67 2 A l.length c (flat l)) (hv : w.heap[g2]? = some (.cells #[.int .i64 x.f0, .int .i64 x.f1] 67 (0, 0)))
    (hl : l.length ≤ 1000000) :
    Calls Try.prog 77 #[.slice A l.length c, .int .i64 l.length, .slice (some ⟨g2, 0, none⟩) 1 1] w (InsPost A l l.length x w) := by
  have hu := Try.underlying67
  have HR := Aside0.mk hR
  have HV := Aside0.mk (encE_at hv)
  have HL4 := Aside0.mk (show l.length + 1 ≤ maxLen from by unfold maxLen; omega)
  have HL5 := Aside0.mk (show (l.length + 1) * 16 ≤ 140737488355328 from by omega)
  have hc1 : l.length ≤ c := hR.2.1
  clear hR hv hl
  go_enter Try.func77, Try.ntmps77
  go_wp2_with (at_builtin; refine wpList_append_info rfl _ _ 64 rfl 67 _ 2 16 Try.underlying64 info67 rfl A l.length c (flat l) rfl HR.out ⟨g2, 0, none⟩ 1 1 (encE x) rfl rfl HV.out (encE_one x) HL4.out HL5.out ?_)
  all_goals
    intro A' c' w1 hR1 hG1 hB1
    have HR1 := Aside0.mk hR1
    have HG1 := Aside0.mk hG1
    have HB1 := Aside0.mk hB1
    clear hR1 hG1 hB1
    go_wp2
    go_ret
    refine ⟨A', c', rfl, ?_, HG1.out, HB1.out⟩
    have e : flat (insAt l l.length x) = flat l ++ encE x := by simp [insAt, flat]
    rw [e]
    exact HR1.out
/-- Room is there: the tail moves, the entry is put. -/
theorem ins_cells {ys : List Value} {l : List E} {i : Nat} {x : E} (hi : i ≤ l.length) (hy : ys.length = (l.length + 1) * 2) (h : ys.take (l.length * 2) = flat l) :
    Go.splice (Go.splice ys ((i + 1) * 2) (flat (l.drop i))) (i * 2) (encE x) = flat (insAt l i x) := by
  have e0 : (flat (l.drop i)).length = (l.length - i) * 2 := by rw [flat_len, List.length_drop]
  have e1 : ys.take (i * 2) = flat (l.take i) := by rw [flat_take, ← h, List.take_take]; congr 1; omega
  have e2 : (encE x).length = 2 := rfl
  unfold Go.splice insAt
  rw [flat_append, e0, show (i + 1) * 2 + (l.length - i) * 2 = (l.length + 1) * 2 by omega, List.drop_of_length_le (by omega : ys.length ≤ (l.length + 1) * 2), List.append_nil]
  have e3 : (ys.take ((i + 1) * 2) ++ flat (l.drop i)).take (i * 2) = flat (l.take i) := by
    rw [List.take_append_of_le_length (by rw [List.length_take]; omega), List.take_take, ← e1]; congr 1; omega
  have e4 : (ys.take ((i + 1) * 2) ++ flat (l.drop i)).drop (i * 2 + (encE x).length) = flat (l.drop i) := by
    rw [e2, show i * 2 + 2 = (ys.take ((i + 1) * 2)).length by rw [List.length_take]; omega, List.drop_left]
  rw [e3, e4]
  rfl
set_option maxHeartbeats 8000000 in
set_option maxRecDepth 100000 in
theorem Insert_room (A : Option Addr) (c : Nat) (l : List E) (i : Nat) (x : E) (g2 : Nat) (w : World) (hi : i < l.length) (hroom : l.length + 1 ≤ c) (hR : Row w 67 2 A l.length c (flat l)) (hv : w.heap[g2]? = some (.cells #[.int .i64 x.f0, .int .i64 x.f1] 67 (0, 0)))
    (hne : ¬ blk A g2) (hl : l.length ≤ 1000000) :
    Calls Try.prog 77 #[.slice A l.length c, .int .i64 i, .slice (some ⟨g2, 0, none⟩) 1 1] w (InsPost A l i x w) := by
  have hu := Try.underlying67
  obtain ⟨g, off, cur, rfl, hg, hsz, hcell⟩ := hR.at_ (by omega)
  have hne2 : g2 ≠ g := fun e => hne ⟨_, rfl, e.symm⟩
  have p1 : ¬ c = i := by omega
  have p2 : ¬ c = i + 1 := by omega
  have p3 : decide ((l.length : Int) + 1 > c) = false := decide_eq_false (by omega)
  have p4 : ((i : Int) == l.length) = false := beq_eq_false_iff_ne.2 (by omega)
  have p5 : (i : Int) ≤ l.length := by omega
  have p6 : ((i : Int) + 1) ≤ l.length := by omega
  have w1 : wrap64 ((l.length : Int) + 1) = l.length + 1 := by unfold wrap64; omega
  have w2 : wrap64 ((i : Int) + 1) = i + 1 := by unfold wrap64; omega
  have hw1 : IntKind.i64.wrap ((i : Int) + 1) = i + 1 := by rw [IntKind.wrap_i64]; omega
  have hb1 : 0 ≤ (i : Int) + 1 := by omega
  have hb3 : (i : Int) + 1 ≤ l.length + 1 := by omega
  have hb5 : (i : Int) ≤ l.length + 1 := by omega
  have htn : ((i : Int) + 1).toNat = i + 1 := by omega
  have mixed : Try.prog.follows Departure.mixedOrders = true := by kernel_rfl
  obtain ⟨ys, hy, hy2⟩ := hR.grows (l.length + 1) hroom
  have e0 : (flat (l.drop i)).length = (l.length - i) * 2 := by rw [flat_len, List.length_drop]
  have HY := Aside0.mk (show Row w.drew 67 2 (some ⟨g, off, none⟩) (l.length + 1) c ys from hy)
  have HY2 := Aside0.mk ((hy2 (l.length * 2) (Nat.le_refl _) (by omega)).trans (List.take_of_length_le (by rw [flat_len]; omega)))
  have HS1 := Aside0.mk (show ∀ j v, (flat (l.drop i))[j]? = some v → w.drew.cell? ((⟨g, off + i * 2, none⟩ : Addr).add j) = some v from fun j v hj => by
    rw [flat_drop, List.getElem?_drop] at hj
    rw [Addr.add_lit, Nat.add_assoc]
    exact (hcell _ _ hj).1)
  have HP1 := Aside0.mk (show (i + 1) * 2 + (flat (l.drop i)).length ≤ ys.length from by rw [e0, hy.1]; omega)
  have HN1 := Aside0.mk (show (flat (l.drop i)).length = Nat.min (l.length + 1 - i) (l.length + 1 - (i + 1)) * 2 from by rw [e0]; congr 1; show _ = min _ _; omega)
  have HN2 := Aside0.mk (show (encE x).length = Nat.min 1 (l.length + 1 - i) * 2 from by show 2 = min _ _ * 2; omega)
  have HP2 := Aside0.mk (show i * 2 + (encE x).length ≤ (Go.splice ys ((i + 1) * 2) (flat (l.drop i))).length from by
    rw [Go.length_splice _ _ _ HP1.out, hy.1, show (encE x).length = 2 from rfl]; omega)
  have HV := Aside0.mk hv
  have HN := Aside0.mk hne2
  have HI := Aside0.mk hi
  have HE0 := Aside0.mk e0
  have HYL := Aside0.mk hy.1
  have hsz67 : (Try.prog.info? 67).map (·.size) = some 2 := by have := info67; cases hq : Try.prog.info? 67 <;> simp_all
  have hov : ∀ lb cb, (callFunc 103 #[.slice (some ⟨g2, 0, none⟩) 1 1, .slice (some ⟨g, off + (i + 1) * 2, none⟩) lb cb]).run Try.prog w = .ok (.value (.bool false)) w := fun lb cb => by
    rw [run_callFunc_extern Try.func103 (by kernel_rfl) (by kernel_rfl) (by kernel_rfl) (e := Extern.SlicesOverlaps.overlaps #[64, 64] #[4]) (by kernel_rfl),
      Lib.run_overlaps_apart w 64 4 67 Try.underlying64 2 Try.sizeOf67 ⟨g2, 0, none⟩ ⟨g, off + (i + 1) * 2, none⟩ 1 1 lb cb hne2 67 67 2 cur.size (by simp [World.shape?, hv]) (by simp [World.shape?, hg]) (by omega) (frozen_of_row w g2 _ _ _ hv) (frozen_of_row w g2 _ _ _ hv)]
    rfl
  clear hR hv hl hg hcell hsz hne hy hy2 e0
  go_enter Try.func77, Try.ntmps77
  go_wp2_with (simp only [hov])
  go_region_law_o (refine step_copy_row rfl _ _ 64 64 rfl 67 2 Try.underlying64 hsz67 g off (l.length + 1) c ys HY.out ((i + 1) * 2) (l.length + 1 - (i + 1)) (c - (i + 1)) ⟨g, off + i * 2, none⟩ (l.length + 1 - i) (c - i) (by simp [Act.eval, Act.put]) (by simp [Act.eval, Act.put]) (flat (l.drop i)) HN1.out HS1.out HP1.out (flat_one _) ?_; intro w4 hR4 hG4)
  have HR4 := Aside0.mk hR4
  have HG4 := Aside0.mk (show Grew (fun k => k = g) w w4 from ⟨hG4.os, hG4.tape, hG4.output, hG4.size, hG4.block⟩)
  have HV4 := Aside0.mk (encE_at ((hG4.block g2 (Array.getElem?_eq_some_iff.1 HV.out).1 HN.out).trans HV.out))
  clear hR4 hG4
  go_wp2_with (with_reducible refine gate_copy ?_; refine wpList_copy_row rfl _ _ 64 64 rfl 67 2 Try.underlying64 hsz67 g off (l.length + 1) c _ HR4.out (i * 2) (l.length + 1 - i) (c - i) ⟨g2, 0, none⟩ 1 1 (by simp [Act.eval, Act.put]) (by simp [Act.eval, Act.put]) (encE x) HN2.out HV4.out HP2.out (encE_one x) ?_)
  intro w5 hR5 hG5
  have HR5 := Aside0.mk hR5
  have HG5 := Aside0.mk (HG4.out.trans hG5 (fun _ h => .inl h))
  clear hR5 hG5
  go_wp2
  go_ret
  refine ⟨_, c, rfl, ?_, HG5.out.mono (fun k _ hk => ⟨_, rfl, hk.symm⟩), fun k hk => .inl hk⟩
  rw [← ins_cells (Nat.le_of_lt HI.out) HYL.out HY2.out]
  exact HR5.out
/-- What an append of so many zero values leaves, where it grows. -/
theorem zeros_len (m : Nat) : (Builtin.zeroCells (Value.agg #[.int .i64 0, .int .i64 0]).cells m).size = m * 2 := by rw [size_zeroCells]; rfl
theorem grow_zeros (w : World) (A : Option Addr) (c : Nat) (l : List E) (i m : Nat) (hR : Row w 67 2 A l.length c (flat l)) (hi : i ≤ l.length) (hm : 0 < m) (hg : c < i + m) (h1 : i + m ≤ 1000001) (hc : c ≤ 1000000) :
    ∃ cap' w', (Builtin.append_ #[64, 3] 64 #[.slice A i c, .int .i64 (m : Nat)]).run Try.prog w = .ok (.slice (some ⟨w.heap.size, 0, none⟩) (i + m) cap') w' ∧ i + m ≤ cap' ∧
      Row w' 67 2 (some ⟨w.heap.size, 0, none⟩) (i + m) cap' (flat (l.take i) ++ (Builtin.zeroCells (Value.agg #[.int .i64 0, .int .i64 0]).cells m).toList) ∧ Below w.heap.size w w' := by
  have hinfo := info67
  cases hq : Try.prog.info? 67 with
  | none => rw [hq] at hinfo; cases hinfo
  | some ti =>
    rw [hq] at hinfo
    obtain ⟨hz, hs1, hb1⟩ : ti.zero = some (.agg #[.int .i64 0, .int .i64 0]) ∧ ti.size = 2 ∧ ti.bytes = 16 := by simpa using hinfo
    have hU := hR.upto i hi
    rw [← flat_take] at hU
    have hl2 : (flat (l.take i)).length = i * 2 := hU.1
    have hold : (Builtin.firstCells ti.size i (.slice A i c)).run Try.prog w.drew = .ok (flat (l.take i)).toArray w.drew := by
      cases A with
      | none =>
        obtain rfl : i = 0 := by
          rcases hR.2.2.2 with ⟨_, h⟩ | ⟨g, off, cur, h, _⟩
          · have := hR.2.1; omega
          · cases h
        simp [Builtin.firstCells, flat]
      | some a => exact run_firstCells_some (P := Try.prog) w.drew ti.size i a i c _ (by rw [hs1]; exact hl2) (fun j v hj => hU.cells rfl j v hj)
    have hr := Lib.run_append_grow_zeros (P := Try.prog) w 64 3 64 67 ti _ .i64 .i64 Try.underlying64 Try.underlying3 hq hz A i c (flat (l.take i)) hold m hm (by omega) hg (by omega) (by rw [hb1]; omega)
      (growslice_fits (by omega) (by rw [hb1]; omega))
    have hge := grownCap_ge w (i + m) c 67
    have hcm : grownCap w (i + m) c 67 ≤ maxLen := grownCap_le_maxLen w (i + m) c 67 (by unfold maxLen; omega)
    refine ⟨_, _, hr, hge, ⟨?_, hge, hcm, .inr ⟨w.heap.size, 0, _, rfl, heap_alloc_new w.drew _, ?_, ?_⟩⟩, below_alloc (below_drew1 (Below.refl w.heap.size w)) _⟩
    · rw [List.length_append, hl2, Array.length_toList, zeros_len]; omega
    · simp only [Array.size_append, List.size_toArray, hl2, zeros_len, Nat.zero_add]; omega
    · simp only [Array.toList_append, List.drop_zero]
      rw [List.take_append_of_le_length (by rw [List.length_append, hl2, Array.length_toList, zeros_len]; omega), List.take_of_length_le (by rw [List.length_append, hl2, Array.length_toList, zeros_len]; omega)]
theorem grow_cells {zs : List Value} {l : List E} {i : Nat} {x : E} (hi : i ≤ l.length) (hz : zs.length = (l.length + 1 - i) * 2) :
    Go.splice (Go.splice (flat (l.take i) ++ zs) (i * 2) (encE x)) ((i + 1) * 2) (flat (l.drop i)) = flat (insAt l i x) := by
  have e0 : (flat (l.drop i)).length = (l.length - i) * 2 := by rw [flat_len, List.length_drop]
  have e1 : (flat (l.take i)).length = i * 2 := by rw [flat_len, List.length_take]; omega
  have e2 : (encE x).length = 2 := rfl
  have e3 : Go.splice (flat (l.take i) ++ zs) (i * 2) (encE x) = flat (l.take i) ++ (encE x ++ zs.drop 2) := by
    unfold Go.splice
    rw [← e1, List.take_left, List.drop_append, e2]
    congr 2
    rw [List.drop_of_length_le (by omega), List.nil_append, Nat.add_sub_cancel_left]
  rw [e3]
  unfold Go.splice insAt
  rw [flat_append, e0, show (i + 1) * 2 + (l.length - i) * 2 = (l.length + 1) * 2 by omega]
  have e4 : (flat (l.take i) ++ (encE x ++ zs.drop 2)).take ((i + 1) * 2) = flat (l.take i) ++ encE x := by
    rw [← List.append_assoc, show (i + 1) * 2 = (flat (l.take i) ++ encE x).length by rw [List.length_append, e1, e2]; omega, List.take_left]
  have e5 : (flat (l.take i) ++ (encE x ++ zs.drop 2)).drop ((l.length + 1) * 2) = [] := by
    apply List.drop_of_length_le
    rw [List.length_append, List.length_append, e1, e2, List.length_drop, hz]
    omega
  rw [e4, e5, List.append_nil, List.append_assoc]
  rfl
set_option maxHeartbeats 8000000 in
set_option maxRecDepth 100000 in
theorem Insert_grow (A : Option Addr) (c : Nat) (l : List E) (i : Nat) (x : E) (g2 : Nat) (w : World) (hi : i < l.length) (hroom : c < l.length + 1) (hR : Row w 67 2 A l.length c (flat l)) (hv : w.heap[g2]? = some (.cells #[.int .i64 x.f0, .int .i64 x.f1] 67 (0, 0)))
    (hl : l.length ≤ 1000000) :
    Calls Try.prog 77 #[.slice A l.length c, .int .i64 i, .slice (some ⟨g2, 0, none⟩) 1 1] w (InsPost A l i x w) := by
  have hu := Try.underlying67
  have hcl : c = l.length := by have := hR.2.1; omega
  subst hcl
  obtain ⟨g, off, cur, rfl, hg, hsz, hcell⟩ := hR.at_ (by omega)
  obtain ⟨cap', w1, hrun, hcap, hR1, hB1⟩ := grow_zeros w _ _ l i (l.length + 1 - i) hR (by omega) (by omega) (by omega) (by omega) hl
  rw [show i + (l.length + 1 - i) = l.length + 1 by omega] at hrun hcap hR1
  have hzl : (Builtin.zeroCells (Value.agg #[.int .i64 0, .int .i64 0]).cells (l.length + 1 - i)).toList.length = (l.length + 1 - i) * 2 := by rw [Array.length_toList, zeros_len]
  generalize (Builtin.zeroCells (Value.agg #[.int .i64 0, .int .i64 0]).cells (l.length + 1 - i)).toList = zs at hR1 hzl
  have HZL := Aside0.mk hzl
  clear hzl
  have p1 : ¬ l.length = i := by omega
  have p2 : ¬ cap' = i := by omega
  have p2b : ¬ cap' = i + 1 := by omega
  have p3 : decide ((l.length : Int) + 1 > l.length) = true := decide_eq_true (by omega)
  have p4 : ((i : Int) == l.length) = false := beq_eq_false_iff_ne.2 (by omega)
  have p5 : (i : Int) ≤ l.length := by omega
  have wl : wrap64 ((l.length : Int) + 1) = l.length + 1 := by unfold wrap64; omega
  have w3 : wrap64 ((l.length : Int) + 1 - i) = ((l.length + 1 - i : Nat) : Int) := by unfold wrap64; omega
  have hw1 : IntKind.i64.wrap ((i : Int) + 1) = i + 1 := by rw [IntKind.wrap_i64]; omega
  have hb1 : 0 ≤ (i : Int) + 1 := by omega
  have hb3 : (i : Int) + 1 ≤ l.length + 1 := by omega
  have hb5 : (i : Int) ≤ l.length + 1 := by omega
  have htn : ((i : Int) + 1).toNat = i + 1 := by omega
  have mixed : Try.prog.follows Departure.mixedOrders = true := by kernel_rfl
  have hsz67 : (Try.prog.info? 67).map (·.size) = some 2 := by have := info67; cases hq : Try.prog.info? 67 <;> simp_all
  have HRUN := Aside0.mk hrun
  have HR1 := Aside0.mk hR1
  have HB1 := Aside0.mk hB1
  have HR := Aside0.mk hR
  have HI := Aside0.mk hi
  have HG2 := Aside0.mk (show g2 < w.heap.size from (Array.getElem?_eq_some_iff.1 hv).1)
  have HV1 := Aside0.mk (encE_at ((hB1.block g2 HG2.out).trans hv))
  have HN2 := Aside0.mk (show (encE x).length = Nat.min 1 (l.length + 1 - i) * 2 from by show 2 = min _ _ * 2; omega)
  have hl1 := hR1.1
  have HP2 := Aside0.mk (show i * 2 + (encE x).length ≤ (flat (l.take i) ++ zs).length from by rw [hl1, show (encE x).length = 2 from rfl]; omega)
  have e0 : (flat (l.drop i)).length = (l.length - i) * 2 := by rw [flat_len, List.length_drop]
  have HN1 := Aside0.mk (show (flat (l.drop i)).length = Nat.min (l.length - i) (l.length + 1 - (i + 1)) * 2 from by rw [e0]; congr 1; show _ = min _ _; omega)
  have HP1 := Aside0.mk (show (i + 1) * 2 + (flat (l.drop i)).length ≤ (Go.splice (flat (l.take i) ++ zs) (i * 2) (encE x)).length from by
    rw [Go.length_splice _ _ _ HP2.out, hl1, e0]; omega)
  have HC := Aside0.mk hcell
  have HGL := Aside0.mk (show g < w.heap.size from (Array.getElem?_eq_some_iff.1 hg).1)
  clear hR hv hl hg hcell hsz hrun hR1 hB1 hl1 e0
  go_enter Try.func77, Try.ntmps77
  go_wp2_with (first | (at_builtin; refine Lib.wpList_append_run _ rfl _ _ _ _ rfl _ _ rfl (by simp [Act.eval, Act.put, *]) _ _ HRUN.out ?_) | (with_reducible refine gate_copy ?_; refine wpList_copy_row rfl _ _ 64 64 rfl 67 2 Try.underlying64 hsz67 w.heap.size 0 (l.length + 1) cap' _ HR1.out (i * 2) (l.length + 1 - i) (cap' - i) ⟨g2, 0, none⟩ 1 1 (by simp [Act.eval, Act.put]) (by simp [Act.eval, Act.put]) (encE x) HN2.out HV1.out HP2.out (encE_one x) ?_))
  intro w4 hR4 hG4
  have HR4 := Aside0.mk (show Row w4.drew 67 2 (some ⟨w.heap.size, 0, none⟩) (l.length + 1) cap' _ from hR4)
  have HG4 := Aside0.mk hG4
  have HS1 := Aside0.mk (show ∀ j v, (flat (l.drop i))[j]? = some v → w4.drew.cell? ((⟨g, off + i * 2, none⟩ : Addr).add j) = some v from fun j v hj => by
    rw [flat_drop, List.getElem?_drop] at hj
    rw [Addr.add_lit, Nat.add_assoc]
    exact hG4.cell (cell_be (HC.out _ _ hj).1 HB1.out) (fun e => by have := HGL.out; have e2 : g = w.heap.size := e; omega))
  clear hR4 hG4
  go_wp2_with fail
  go_region_law_o (refine step_copy_row rfl _ _ 64 64 rfl 67 2 Try.underlying64 hsz67 w.heap.size 0 (l.length + 1) cap' _ HR4.out ((i + 1) * 2) (l.length + 1 - (i + 1)) (cap' - (i + 1)) ⟨g, off + i * 2, none⟩ (l.length - i) (l.length - i) (by simp [Act.eval, Act.put]) (by simp [Act.eval, Act.put]) (flat (l.drop i)) HN1.out HS1.out HP1.out (flat_one _) ?_; intro w5 hR5 hG5)
  have HR5 := Aside0.mk hR5
  have HG5 := Aside0.mk (show Grew (fun k => k = w.heap.size) w4 w5 from ⟨hG5.os, hG5.tape, hG5.output, hG5.size, hG5.block⟩)
  clear hR5 hG5
  go_wp2
  go_ret
  refine ⟨_, cap', rfl, ?_, ?_, fun k ⟨a, h, e⟩ => by cases h; exact .inr (Nat.le_of_eq e)⟩
  · rw [← grow_cells (Nat.le_of_lt HI.out) HZL.out]
    exact HR5.out
  · exact ((Grew.of_below HB1.out).trans HG4.out (fun k h => .inr (by show w.heap.size ≤ k; have h2 : k = w.heap.size := h; omega))).trans HG5.out (fun k h => .inr (by show w.heap.size ≤ k; have h2 : k = w.heap.size := h; omega))
set_option maxHeartbeats 8000000 in
theorem Insert_ (A : Option Addr) (c : Nat) (l : List E) (i : Nat) (x : E) (g2 : Nat) (w : World) (hi : i ≤ l.length) (hR : Row w 67 2 A l.length c (flat l)) (hv : w.heap[g2]? = some (.cells #[.int .i64 x.f0, .int .i64 x.f1] 67 (0, 0)))
    (hne : ¬ blk A g2) (hl : l.length ≤ 1000000) :
    Calls Try.prog 77 #[.slice A l.length c, .int .i64 i, .slice (some ⟨g2, 0, none⟩) 1 1] w (InsPost A l i x w) := by
  rcases Nat.lt_or_ge i l.length with h | h
  · rcases Nat.lt_or_ge c (l.length + 1) with h2 | h2
    · exact Insert_grow A c l i x g2 w h h2 hR hv hl
    · exact Insert_room A c l i x g2 w h h2 hR hv hne hl
  · obtain rfl : i = l.length := by omega
    exact Insert_end A c l x g2 w hR hv hl
end Go.Proofs.Ytagdgkimjgomlaa.Ln
