import Derived.Test.YtdpcodnooonmlaaQuiet
import Derived.Test.YtdpcodnooonmlaaPMtx
import Derived.Outline
namespace Go.Proofs.Ytdpcodnooonmlaa.PMt
open Go.RowKit Go.Proofs.YtdpcodnooonmlaaW.PrintWords Go.Proofs.YtdpcodnooonmlaaW.PrintLast Go.Proofs.YtdpcodnooonmlaaW.PrintMore
attribute [local go_sem] max2_int min2_int max_two min_two max_three min_three max_four min_four   -- for this text's walks alone
set_option linter.unusedVariables false
set_option linter.unusedSimpArgs false
def ltklaw4_ModeTable.tk (a : Int) : Bool := decide (0 ≤ a ∧ a ≤ 5)
theorem ltklaw4_ModeTable.known (a : Int) : mode_Known.f a = some (ltklaw4_ModeTable.tk a) := by
  unfold mode_Known.f ltklaw4_ModeTable.tk
  by_cases h : a ≥ 0
  · rw [if_pos h]
    congr 1
    by_cases h5 : a ≤ 5
    · rw [decide_eq_true h5, decide_eq_true ⟨h, h5⟩]
    · rw [decide_eq_false h5, decide_eq_false (fun x => h5 x.2)]
  · rw [if_neg h, decide_eq_false (fun x => h x.1)]
theorem ltklaw4_ModeTable.out_fits {a b : Int} (h : ¬ ((0 ≤ a ∧ a ≤ 5) ∧ (0 ≤ b ∧ b ≤ 5))) : mode_Fits.f a b = some false := by
  unfold mode_Fits.f
  rw [ltklaw4_ModeTable.known, ltklaw4_ModeTable.known]
  unfold ltklaw4_ModeTable.tk
  by_cases ha : 0 ≤ a ∧ a ≤ 5
  · by_cases hb : 0 ≤ b ∧ b ≤ 5
    · exact absurd ⟨ha, hb⟩ h
    · rw [decide_eq_true ha, decide_eq_false hb]; rfl
  · rw [decide_eq_false ha]; rfl
theorem ltklaw4_ModeTable.out_covers {a b : Int} (h : ¬ ((0 ≤ a ∧ a ≤ 5) ∧ (0 ≤ b ∧ b ≤ 5))) : mode_Covers.f 60 a b = some false := by
  unfold mode_Covers.f
  rw [ltklaw4_ModeTable.known, ltklaw4_ModeTable.known]
  unfold ltklaw4_ModeTable.tk
  by_cases ha : 0 ≤ a ∧ a ≤ 5
  · by_cases hb : 0 ≤ b ∧ b ≤ 5
    · exact absurd ⟨ha, hb⟩ h
    · rw [decide_eq_true ha, decide_eq_false hb]; rfl
  · rw [decide_eq_false ha]; rfl
theorem ltklaw4_ModeTable.first_yes : ltklaw4_first.f 60 = some true := by decide +kernel
set_option maxHeartbeats 8000000 in
set_option maxRecDepth 100000 in
theorem ltklaw4_ModeTable.out (a0 a1 : Int) (w : World) (h : ¬ ((0 ≤ a0 ∧ a0 ≤ 5) ∧ (0 ≤ a1 ∧ a1 ≤ 5))) :
    Calls Try.prog 10 #[.int .i64 a0, .int .i64 a1] w fun e w' => e = .returned (.bool true) ∧ Below w.heap.size w w' := by
  have HF := Aside0.mk (ltklaw4_ModeTable.out_fits h)
  have HC := Aside0.mk (ltklaw4_ModeTable.out_covers h)
  obtain ⟨ka, hka⟩ : ∃ ka, mode_Known.f a0 = some ka := ⟨_, ltklaw4_ModeTable.known a0⟩
  obtain ⟨kb, hkb⟩ : ∃ kb, mode_Known.f a1 = some kb := ⟨_, ltklaw4_ModeTable.known a1⟩
  have hk : ka = false ∨ (ka = true ∧ kb = false) := by
    rw [ltklaw4_ModeTable.known] at hka hkb
    have e1 := Option.some.inj hka
    have e2 := Option.some.inj hkb
    unfold ltklaw4_ModeTable.tk at e1 e2
    by_cases ha : 0 ≤ a0 ∧ a0 ≤ 5
    · by_cases hb : 0 ≤ a1 ∧ a1 ≤ 5
      · exact absurd ⟨ha, hb⟩ h
      · rw [decide_eq_true ha] at e1; rw [decide_eq_false hb] at e2; exact .inr ⟨e1.symm, e2.symm⟩
    · rw [decide_eq_false ha] at e1; exact .inl e1.symm
  have HKA := Aside0.mk hka
  have HKB := Aside0.mk hkb
  clear hka hkb h
  rcases hk with rfl | ⟨rfl, rfl⟩
  · go_enter Try.func10, Try.ntmps10
    go_wp2_with fail
    refine (ltklaw4_first.calls 60 true _ ltklaw4_ModeTable.first_yes).mono ?_
    rintro e w1 ⟨rfl, hb1⟩
    have HB1 := Aside0.mk hb1
    clear hb1
    go_wp2_with fail
    refine (mode_Known.calls a0 _ _ HKA.out).mono ?_
    rintro e w2 ⟨rfl, hd2⟩
    have HB2 := Aside0.mk (below_then HB1.out HB1.out.size hd2.below)
    clear hd2 HB1
    go_wp2_with fail
    refine (ltklaw4_first.calls 60 true _ ltklaw4_ModeTable.first_yes).mono ?_
    rintro e w3 ⟨rfl, hb3⟩
    have HB3 := Aside0.mk (below_then HB2.out HB2.out.size hb3)
    clear hb3 HB2
    go_wp2_with fail
    refine (mode_Fits.calls a0 a1 _ _ HF.out).mono ?_
    rintro e w4 ⟨rfl, hd4⟩
    have HB4 := Aside0.mk (below_then HB3.out HB3.out.size hd4.below)
    clear hd4 HB3
    go_wp2_with fail
    refine (mode_Covers.calls 60 a0 a1 _ _ HC.out).mono ?_
    rintro e w5 ⟨rfl, hb5⟩
    have HB5 := Aside0.mk (below_then HB4.out HB4.out.size hb5)
    clear hb5 HB4
    go_wp2
    go_ret
    exact ⟨rfl, HB5.out⟩
  · go_enter Try.func10, Try.ntmps10
    go_wp2_with fail
    refine (ltklaw4_first.calls 60 true _ ltklaw4_ModeTable.first_yes).mono ?_
    rintro e w1 ⟨rfl, hb1⟩
    have HB1 := Aside0.mk hb1
    clear hb1
    go_wp2_with fail
    refine (mode_Known.calls a0 _ _ HKA.out).mono ?_
    rintro e w2 ⟨rfl, hd2⟩
    have HB2 := Aside0.mk (below_then HB1.out HB1.out.size hd2.below)
    clear hd2 HB1
    go_wp2_with fail
    refine (mode_Known.calls a1 _ _ HKB.out).mono ?_
    rintro e w2' ⟨rfl, hd2⟩
    replace HB2 := Aside0.mk (below_then HB2.out HB2.out.size hd2.below)
    clear hd2
    go_wp2_with fail
    refine (ltklaw4_first.calls 60 true _ ltklaw4_ModeTable.first_yes).mono ?_
    rintro e w3 ⟨rfl, hb3⟩
    have HB3 := Aside0.mk (below_then HB2.out HB2.out.size hb3)
    clear hb3 HB2
    go_wp2_with fail
    refine (mode_Fits.calls a0 a1 _ _ HF.out).mono ?_
    rintro e w4 ⟨rfl, hd4⟩
    have HB4 := Aside0.mk (below_then HB3.out HB3.out.size hd4.below)
    clear hd4 HB3
    go_wp2_with fail
    refine (mode_Covers.calls 60 a0 a1 _ _ HC.out).mono ?_
    rintro e w5 ⟨rfl, hb5⟩
    have HB5 := Aside0.mk (below_then HB4.out HB4.out.size hb5)
    clear hb5 HB4
    go_wp2
    go_ret
    exact ⟨rfl, HB5.out⟩
def ltklaw4_ModeTable.rB (m : Nat) : Bool := m == 3 || m == 4 || m == 5
def ltklaw4_ModeTable.wB (m : Nat) : Bool := m == 5
def ltklaw4_ModeTable.sB (m : Nat) : Bool := m == 2 || m == 4 || m == 5
def ltklaw4_ModeTable.arr (f : Nat → Bool) (k : Nat) : Array Value := #[.bool (decide (0 < k) && f 0), .bool (decide (1 < k) && f 1), .bool (decide (2 < k) && f 2), .bool (decide (3 < k) && f 3), .bool (decide (4 < k) && f 4), .bool (decide (5 < k) && f 5)]
theorem ltklaw4_ModeTable.fits_fin : ∀ a b : Fin 6, mode_Fits.f (a.val : Int) (b.val : Int) = some ((decide (a.val = 0) || decide (b.val = 0)) || !(ltklaw4_ModeTable.wB a.val || ltklaw4_ModeTable.wB b.val || (ltklaw4_ModeTable.rB a.val && ltklaw4_ModeTable.sB b.val) || (ltklaw4_ModeTable.rB b.val && ltklaw4_ModeTable.sB a.val))) := by decide +kernel
theorem ltklaw4_ModeTable.reads_fin : ∀ a : Fin 6, mode_Reads.f (a.val : Int) = some (ltklaw4_ModeTable.rB a.val) := by decide +kernel
theorem ltklaw4_ModeTable.writes_fin : ∀ a : Fin 6, mode_Writes.f (a.val : Int) = some (ltklaw4_ModeTable.wB a.val) := by decide +kernel
theorem ltklaw4_ModeTable.fits_tab (a b : Nat) (ha : a ≤ 5) (hb : b ≤ 5) : mode_Fits.f (a : Int) (b : Int) = some ((decide (a = 0) || decide (b = 0)) || !(ltklaw4_ModeTable.wB a || ltklaw4_ModeTable.wB b || (ltklaw4_ModeTable.rB a && ltklaw4_ModeTable.sB b) || (ltklaw4_ModeTable.rB b && ltklaw4_ModeTable.sB a))) := ltklaw4_ModeTable.fits_fin ⟨a, by omega⟩ ⟨b, by omega⟩
theorem ltklaw4_ModeTable.reads_tab (a : Nat) (ha : a ≤ 5) : mode_Reads.f (a : Int) = some (ltklaw4_ModeTable.rB a) := ltklaw4_ModeTable.reads_fin ⟨a, by omega⟩
theorem ltklaw4_ModeTable.writes_tab (a : Nat) (ha : a ≤ 5) : mode_Writes.f (a : Int) = some (ltklaw4_ModeTable.wB a) := ltklaw4_ModeTable.writes_fin ⟨a, by omega⟩
set_option maxHeartbeats 8000000 in
set_option maxRecDepth 100000 in
theorem ltklaw4_ModeTable.in_ (a b : Nat) (w : World) (ha : a ≤ 5) (hb : b ≤ 5) :
    Calls Try.prog 10 #[.int .i64 (a : Int), .int .i64 (b : Int)] w fun e w' => e = .returned (.bool true) ∧ Below w.heap.size w w' := by
  have HKA := Aside0.mk (show mode_Known.f (a : Int) = some true by rw [ltklaw4_ModeTable.known]; unfold ltklaw4_ModeTable.tk; rw [decide_eq_true (by omega)])
  have HKB := Aside0.mk (show mode_Known.f (b : Int) = some true by rw [ltklaw4_ModeTable.known]; unfold ltklaw4_ModeTable.tk; rw [decide_eq_true (by omega)])
  go_enter Try.func10, Try.ntmps10
  go_wp2_with fail
  refine (ltklaw4_first.calls 60 true _ ltklaw4_ModeTable.first_yes).mono ?_
  rintro e w1 ⟨rfl, hb1⟩
  have HB1 := Aside0.mk hb1
  clear hb1
  go_wp2_with fail
  refine (mode_Known.calls (a : Int) _ _ HKA.out).mono ?_
  rintro e w2 ⟨rfl, hd2⟩
  have HB2 := Aside0.mk (below_then HB1.out HB1.out.size hd2.below)
  clear hd2 HB1
  go_wp2_with fail
  refine (mode_Known.calls (b : Int) _ _ HKB.out).mono ?_
  rintro e w2' ⟨rfl, hd2⟩
  replace HB2 := Aside0.mk (below_then HB2.out HB2.out.size hd2.below)
  clear hd2
  go_wp2_with fail
  obtain ⟨g, hg⟩ : ∃ g, g = w2'.heap.size := ⟨_, rfl⟩
  have HW := Aside0.mk (show w.heap.size ≤ g by rw [hg]; exact HB2.out.size)
  obtain ⟨wz, hwz⟩ : ∃ wz, wz = (((w2'.alloc (Obj.cells #[Value.bool false, Value.bool false, Value.bool false, Value.bool false, Value.bool false, Value.bool false] 46)).alloc (Obj.cells #[Value.bool false, Value.bool false, Value.bool false, Value.bool false, Value.bool false, Value.bool false] 46)).alloc (Obj.cells #[Value.bool false, Value.bool false, Value.bool false, Value.bool false, Value.bool false, Value.bool false] 46)) := ⟨_, rfl⟩
  have H5 := Aside0.mk (show wz.heap[g]? = some (.cells #[Value.bool false, Value.bool false, Value.bool false, Value.bool false, Value.bool false, Value.bool false] 46 (0, 0)) by rw [hwz, hg]; exact blk_alloc (blk_alloc (by simpa using heap_alloc_new w2' _) _) _)
  have H6 := Aside0.mk (show wz.heap[g + 1]? = some (.cells #[Value.bool false, Value.bool false, Value.bool false, Value.bool false, Value.bool false, Value.bool false] 46 (0, 0)) by
    rw [hwz, hg]
    refine blk_alloc ?_ _
    have := heap_alloc_new (w2'.alloc (Obj.cells #[Value.bool false, Value.bool false, Value.bool false, Value.bool false, Value.bool false, Value.bool false] 46)) (Obj.cells #[Value.bool false, Value.bool false, Value.bool false, Value.bool false, Value.bool false, Value.bool false] 46)
    simpa using this)
  have H7 := Aside0.mk (show wz.heap[g + 1 + 1]? = some (.cells #[Value.bool false, Value.bool false, Value.bool false, Value.bool false, Value.bool false, Value.bool false] 46 (0, 0)) by
    rw [hwz, hg]
    have := heap_alloc_new ((w2'.alloc (Obj.cells #[Value.bool false, Value.bool false, Value.bool false, Value.bool false, Value.bool false, Value.bool false] 46)).alloc (Obj.cells #[Value.bool false, Value.bool false, Value.bool false, Value.bool false, Value.bool false, Value.bool false] 46)) (Obj.cells #[Value.bool false, Value.bool false, Value.bool false, Value.bool false, Value.bool false, Value.bool false] 46)
    simpa using this)
  have HB := Aside0.mk (show Below w.heap.size w wz by rw [hwz]; exact below_alloc (below_alloc (below_alloc HB2.out _) _) _)
  rw [← hwz, ← hg]
  clear hwz hg HB2
  go_loopw [8] (fun v wr => ∃ k : Nat, k ≤ 6 ∧ v = .int .i64 k ∧ Aside0 (wr.heap[g]? = some (.cells (ltklaw4_ModeTable.arr ltklaw4_ModeTable.rB k) 46 (0, 0))) ∧ Aside0 (wr.heap[g + 1]? = some (.cells (ltklaw4_ModeTable.arr ltklaw4_ModeTable.wB k) 46 (0, 0))) ∧ Aside0 (wr.heap[g + 1 + 1]? = some (.cells (ltklaw4_ModeTable.arr ltklaw4_ModeTable.sB k) 46 (0, 0))) ∧ Aside0 (Below w.heap.size w wr)) (fun v _ => 6 - (intOf v).toNat)
  case atStart => exact ⟨0, by omega, rfl, H5, H6, H7, HB⟩
  case round =>
    obtain ⟨k, hk, rfl, G5, G6, G7, GB⟩ := hrel
    clear H5 H6 H7 HB
    have hk' : k = 0 ∨ k = 1 ∨ k = 2 ∨ k = 3 ∨ k = 4 ∨ k = 5 ∨ k = 6 := by omega
    clear hk
    rcases hk' with rfl | rfl | rfl | rfl | rfl | rfl | rfl
    · have c0 : (wr).cell? ⟨g, 0, none⟩ = some (.bool false) := (blk_cell G5.out 0).trans rfl
      have f0 : (wr).frozen? ⟨g, 0, none⟩ = false := blk_frozen G5.out 0
      have H00 := Aside0.mk (blk_put G5.out 0 (.bool false) (cs' := Go.Proofs.Ytdpcodnooonmlaa.PMt.ltklaw4_ModeTable.arr Go.Proofs.Ytdpcodnooonmlaa.PMt.ltklaw4_ModeTable.rB 1) rfl)
      have H01 := Aside0.mk (blk_far G6.out (p := ⟨g, 0, none⟩) (by show g + 1 ≠ g; omega) (.bool false))
      have H02 := Aside0.mk (blk_far G7.out (p := ⟨g, 0, none⟩) (by show g + 1 + 1 ≠ g; omega) (.bool false))
      have c1 : ((wr).setCell ⟨g, 0, none⟩ (.bool false)).cell? ⟨g + 1, 0, none⟩ = some (.bool false) := (blk_cell H01.out 0).trans rfl
      have f1 : ((wr).setCell ⟨g, 0, none⟩ (.bool false)).frozen? ⟨g + 1, 0, none⟩ = false := blk_frozen H01.out 0
      have H10 := Aside0.mk (blk_far H00.out (p := ⟨g + 1, 0, none⟩) (by show g ≠ g + 1; omega) (.bool false))
      have H11 := Aside0.mk (blk_put H01.out 0 (.bool false) (cs' := Go.Proofs.Ytdpcodnooonmlaa.PMt.ltklaw4_ModeTable.arr Go.Proofs.Ytdpcodnooonmlaa.PMt.ltklaw4_ModeTable.wB 1) rfl)
      have H12 := Aside0.mk (blk_far H02.out (p := ⟨g + 1, 0, none⟩) (by show g + 1 + 1 ≠ g + 1; omega) (.bool false))
      have c2 : (((wr).setCell ⟨g, 0, none⟩ (.bool false)).setCell ⟨g + 1, 0, none⟩ (.bool false)).cell? ⟨g + 1 + 1, 0, none⟩ = some (.bool false) := (blk_cell H12.out 0).trans rfl
      have f2 : (((wr).setCell ⟨g, 0, none⟩ (.bool false)).setCell ⟨g + 1, 0, none⟩ (.bool false)).frozen? ⟨g + 1 + 1, 0, none⟩ = false := blk_frozen H12.out 0
      have H20 := Aside0.mk (blk_far H10.out (p := ⟨g + 1 + 1, 0, none⟩) (by show g ≠ g + 1 + 1; omega) (.bool false))
      have H21 := Aside0.mk (blk_far H11.out (p := ⟨g + 1 + 1, 0, none⟩) (by show g + 1 ≠ g + 1 + 1; omega) (.bool false))
      have H22 := Aside0.mk (blk_put H12.out 0 (.bool false) (cs' := Go.Proofs.Ytdpcodnooonmlaa.PMt.ltklaw4_ModeTable.arr Go.Proofs.Ytdpcodnooonmlaa.PMt.ltklaw4_ModeTable.sB 1) rfl)
      have HBn := Aside0.mk (below_set (g := g + 1 + 1) (j := 0) (v := .bool false) (below_set (g := g + 1) (j := 0) (v := .bool false) (below_set (g := g) (j := 0) (v := .bool false) GB.out HW.out) (Nat.le_trans HW.out (Nat.le_add_right _ _))) (Nat.le_trans HW.out (Nat.le_trans (Nat.le_add_right _ _) (Nat.le_add_right _ _))))
      go_wp2
      go_round
      all_goals first | omega | exact ⟨1, by omega, rfl, H20, H21, H22, HBn⟩ | (show _ < _; simp [intOf]; omega) | (simp [intOf]; done)
    · have c0 : (wr).cell? ⟨g, 1, none⟩ = some (.bool false) := (blk_cell G5.out 1).trans rfl
      have f0 : (wr).frozen? ⟨g, 1, none⟩ = false := blk_frozen G5.out 1
      have H00 := Aside0.mk (blk_put G5.out 1 (.bool false) (cs' := Go.Proofs.Ytdpcodnooonmlaa.PMt.ltklaw4_ModeTable.arr Go.Proofs.Ytdpcodnooonmlaa.PMt.ltklaw4_ModeTable.rB 2) rfl)
      have H01 := Aside0.mk (blk_far G6.out (p := ⟨g, 1, none⟩) (by show g + 1 ≠ g; omega) (.bool false))
      have H02 := Aside0.mk (blk_far G7.out (p := ⟨g, 1, none⟩) (by show g + 1 + 1 ≠ g; omega) (.bool false))
      have c1 : ((wr).setCell ⟨g, 1, none⟩ (.bool false)).cell? ⟨g + 1, 1, none⟩ = some (.bool false) := (blk_cell H01.out 1).trans rfl
      have f1 : ((wr).setCell ⟨g, 1, none⟩ (.bool false)).frozen? ⟨g + 1, 1, none⟩ = false := blk_frozen H01.out 1
      have H10 := Aside0.mk (blk_far H00.out (p := ⟨g + 1, 1, none⟩) (by show g ≠ g + 1; omega) (.bool false))
      have H11 := Aside0.mk (blk_put H01.out 1 (.bool false) (cs' := Go.Proofs.Ytdpcodnooonmlaa.PMt.ltklaw4_ModeTable.arr Go.Proofs.Ytdpcodnooonmlaa.PMt.ltklaw4_ModeTable.wB 2) rfl)
      have H12 := Aside0.mk (blk_far H02.out (p := ⟨g + 1, 1, none⟩) (by show g + 1 + 1 ≠ g + 1; omega) (.bool false))
      have c2 : (((wr).setCell ⟨g, 1, none⟩ (.bool false)).setCell ⟨g + 1, 1, none⟩ (.bool false)).cell? ⟨g + 1 + 1, 1, none⟩ = some (.bool false) := (blk_cell H12.out 1).trans rfl
      have f2 : (((wr).setCell ⟨g, 1, none⟩ (.bool false)).setCell ⟨g + 1, 1, none⟩ (.bool false)).frozen? ⟨g + 1 + 1, 1, none⟩ = false := blk_frozen H12.out 1
      have H20 := Aside0.mk (blk_far H10.out (p := ⟨g + 1 + 1, 1, none⟩) (by show g ≠ g + 1 + 1; omega) (.bool false))
      have H21 := Aside0.mk (blk_far H11.out (p := ⟨g + 1 + 1, 1, none⟩) (by show g + 1 ≠ g + 1 + 1; omega) (.bool false))
      have H22 := Aside0.mk (blk_put H12.out 1 (.bool false) (cs' := Go.Proofs.Ytdpcodnooonmlaa.PMt.ltklaw4_ModeTable.arr Go.Proofs.Ytdpcodnooonmlaa.PMt.ltklaw4_ModeTable.sB 2) rfl)
      have HBn := Aside0.mk (below_set (g := g + 1 + 1) (j := 1) (v := .bool false) (below_set (g := g + 1) (j := 1) (v := .bool false) (below_set (g := g) (j := 1) (v := .bool false) GB.out HW.out) (Nat.le_trans HW.out (Nat.le_add_right _ _))) (Nat.le_trans HW.out (Nat.le_trans (Nat.le_add_right _ _) (Nat.le_add_right _ _))))
      go_wp2
      go_round
      all_goals first | omega | exact ⟨2, by omega, rfl, H20, H21, H22, HBn⟩ | (show _ < _; simp [intOf]; omega) | (simp [intOf]; done)
    · have c0 : (wr).cell? ⟨g, 2, none⟩ = some (.bool false) := (blk_cell G5.out 2).trans rfl
      have f0 : (wr).frozen? ⟨g, 2, none⟩ = false := blk_frozen G5.out 2
      have H00 := Aside0.mk (blk_put G5.out 2 (.bool false) (cs' := Go.Proofs.Ytdpcodnooonmlaa.PMt.ltklaw4_ModeTable.arr Go.Proofs.Ytdpcodnooonmlaa.PMt.ltklaw4_ModeTable.rB 3) rfl)
      have H01 := Aside0.mk (blk_far G6.out (p := ⟨g, 2, none⟩) (by show g + 1 ≠ g; omega) (.bool false))
      have H02 := Aside0.mk (blk_far G7.out (p := ⟨g, 2, none⟩) (by show g + 1 + 1 ≠ g; omega) (.bool false))
      have c1 : ((wr).setCell ⟨g, 2, none⟩ (.bool false)).cell? ⟨g + 1, 2, none⟩ = some (.bool false) := (blk_cell H01.out 2).trans rfl
      have f1 : ((wr).setCell ⟨g, 2, none⟩ (.bool false)).frozen? ⟨g + 1, 2, none⟩ = false := blk_frozen H01.out 2
      have H10 := Aside0.mk (blk_far H00.out (p := ⟨g + 1, 2, none⟩) (by show g ≠ g + 1; omega) (.bool false))
      have H11 := Aside0.mk (blk_put H01.out 2 (.bool false) (cs' := Go.Proofs.Ytdpcodnooonmlaa.PMt.ltklaw4_ModeTable.arr Go.Proofs.Ytdpcodnooonmlaa.PMt.ltklaw4_ModeTable.wB 3) rfl)
      have H12 := Aside0.mk (blk_far H02.out (p := ⟨g + 1, 2, none⟩) (by show g + 1 + 1 ≠ g + 1; omega) (.bool false))
      have c2 : (((wr).setCell ⟨g, 2, none⟩ (.bool false)).setCell ⟨g + 1, 2, none⟩ (.bool false)).cell? ⟨g + 1 + 1, 2, none⟩ = some (.bool false) := (blk_cell H12.out 2).trans rfl
      have f2 : (((wr).setCell ⟨g, 2, none⟩ (.bool false)).setCell ⟨g + 1, 2, none⟩ (.bool false)).frozen? ⟨g + 1 + 1, 2, none⟩ = false := blk_frozen H12.out 2
      have H20 := Aside0.mk (blk_far H10.out (p := ⟨g + 1 + 1, 2, none⟩) (by show g ≠ g + 1 + 1; omega) (.bool true))
      have H21 := Aside0.mk (blk_far H11.out (p := ⟨g + 1 + 1, 2, none⟩) (by show g + 1 ≠ g + 1 + 1; omega) (.bool true))
      have H22 := Aside0.mk (blk_put H12.out 2 (.bool true) (cs' := Go.Proofs.Ytdpcodnooonmlaa.PMt.ltklaw4_ModeTable.arr Go.Proofs.Ytdpcodnooonmlaa.PMt.ltklaw4_ModeTable.sB 3) rfl)
      have HBn := Aside0.mk (below_set (g := g + 1 + 1) (j := 2) (v := .bool true) (below_set (g := g + 1) (j := 2) (v := .bool false) (below_set (g := g) (j := 2) (v := .bool false) GB.out HW.out) (Nat.le_trans HW.out (Nat.le_add_right _ _))) (Nat.le_trans HW.out (Nat.le_trans (Nat.le_add_right _ _) (Nat.le_add_right _ _))))
      go_wp2
      go_round
      all_goals first | omega | exact ⟨3, by omega, rfl, H20, H21, H22, HBn⟩ | (show _ < _; simp [intOf]; omega) | (simp [intOf]; done)
    · have c0 : (wr).cell? ⟨g, 3, none⟩ = some (.bool false) := (blk_cell G5.out 3).trans rfl
      have f0 : (wr).frozen? ⟨g, 3, none⟩ = false := blk_frozen G5.out 3
      have H00 := Aside0.mk (blk_put G5.out 3 (.bool true) (cs' := Go.Proofs.Ytdpcodnooonmlaa.PMt.ltklaw4_ModeTable.arr Go.Proofs.Ytdpcodnooonmlaa.PMt.ltklaw4_ModeTable.rB 4) rfl)
      have H01 := Aside0.mk (blk_far G6.out (p := ⟨g, 3, none⟩) (by show g + 1 ≠ g; omega) (.bool true))
      have H02 := Aside0.mk (blk_far G7.out (p := ⟨g, 3, none⟩) (by show g + 1 + 1 ≠ g; omega) (.bool true))
      have c1 : ((wr).setCell ⟨g, 3, none⟩ (.bool true)).cell? ⟨g + 1, 3, none⟩ = some (.bool false) := (blk_cell H01.out 3).trans rfl
      have f1 : ((wr).setCell ⟨g, 3, none⟩ (.bool true)).frozen? ⟨g + 1, 3, none⟩ = false := blk_frozen H01.out 3
      have H10 := Aside0.mk (blk_far H00.out (p := ⟨g + 1, 3, none⟩) (by show g ≠ g + 1; omega) (.bool false))
      have H11 := Aside0.mk (blk_put H01.out 3 (.bool false) (cs' := Go.Proofs.Ytdpcodnooonmlaa.PMt.ltklaw4_ModeTable.arr Go.Proofs.Ytdpcodnooonmlaa.PMt.ltklaw4_ModeTable.wB 4) rfl)
      have H12 := Aside0.mk (blk_far H02.out (p := ⟨g + 1, 3, none⟩) (by show g + 1 + 1 ≠ g + 1; omega) (.bool false))
      have c2 : (((wr).setCell ⟨g, 3, none⟩ (.bool true)).setCell ⟨g + 1, 3, none⟩ (.bool false)).cell? ⟨g + 1 + 1, 3, none⟩ = some (.bool false) := (blk_cell H12.out 3).trans rfl
      have f2 : (((wr).setCell ⟨g, 3, none⟩ (.bool true)).setCell ⟨g + 1, 3, none⟩ (.bool false)).frozen? ⟨g + 1 + 1, 3, none⟩ = false := blk_frozen H12.out 3
      have H20 := Aside0.mk (blk_far H10.out (p := ⟨g + 1 + 1, 3, none⟩) (by show g ≠ g + 1 + 1; omega) (.bool false))
      have H21 := Aside0.mk (blk_far H11.out (p := ⟨g + 1 + 1, 3, none⟩) (by show g + 1 ≠ g + 1 + 1; omega) (.bool false))
      have H22 := Aside0.mk (blk_put H12.out 3 (.bool false) (cs' := Go.Proofs.Ytdpcodnooonmlaa.PMt.ltklaw4_ModeTable.arr Go.Proofs.Ytdpcodnooonmlaa.PMt.ltklaw4_ModeTable.sB 4) rfl)
      have HBn := Aside0.mk (below_set (g := g + 1 + 1) (j := 3) (v := .bool false) (below_set (g := g + 1) (j := 3) (v := .bool false) (below_set (g := g) (j := 3) (v := .bool true) GB.out HW.out) (Nat.le_trans HW.out (Nat.le_add_right _ _))) (Nat.le_trans HW.out (Nat.le_trans (Nat.le_add_right _ _) (Nat.le_add_right _ _))))
      go_wp2
      go_round
      all_goals first | omega | exact ⟨4, by omega, rfl, H20, H21, H22, HBn⟩ | (show _ < _; simp [intOf]; omega) | (simp [intOf]; done)
    · have c0 : (wr).cell? ⟨g, 4, none⟩ = some (.bool false) := (blk_cell G5.out 4).trans rfl
      have f0 : (wr).frozen? ⟨g, 4, none⟩ = false := blk_frozen G5.out 4
      have H00 := Aside0.mk (blk_put G5.out 4 (.bool true) (cs' := Go.Proofs.Ytdpcodnooonmlaa.PMt.ltklaw4_ModeTable.arr Go.Proofs.Ytdpcodnooonmlaa.PMt.ltklaw4_ModeTable.rB 5) rfl)
      have H01 := Aside0.mk (blk_far G6.out (p := ⟨g, 4, none⟩) (by show g + 1 ≠ g; omega) (.bool true))
      have H02 := Aside0.mk (blk_far G7.out (p := ⟨g, 4, none⟩) (by show g + 1 + 1 ≠ g; omega) (.bool true))
      have c1 : ((wr).setCell ⟨g, 4, none⟩ (.bool true)).cell? ⟨g + 1, 4, none⟩ = some (.bool false) := (blk_cell H01.out 4).trans rfl
      have f1 : ((wr).setCell ⟨g, 4, none⟩ (.bool true)).frozen? ⟨g + 1, 4, none⟩ = false := blk_frozen H01.out 4
      have H10 := Aside0.mk (blk_far H00.out (p := ⟨g + 1, 4, none⟩) (by show g ≠ g + 1; omega) (.bool false))
      have H11 := Aside0.mk (blk_put H01.out 4 (.bool false) (cs' := Go.Proofs.Ytdpcodnooonmlaa.PMt.ltklaw4_ModeTable.arr Go.Proofs.Ytdpcodnooonmlaa.PMt.ltklaw4_ModeTable.wB 5) rfl)
      have H12 := Aside0.mk (blk_far H02.out (p := ⟨g + 1, 4, none⟩) (by show g + 1 + 1 ≠ g + 1; omega) (.bool false))
      have c2 : (((wr).setCell ⟨g, 4, none⟩ (.bool true)).setCell ⟨g + 1, 4, none⟩ (.bool false)).cell? ⟨g + 1 + 1, 4, none⟩ = some (.bool false) := (blk_cell H12.out 4).trans rfl
      have f2 : (((wr).setCell ⟨g, 4, none⟩ (.bool true)).setCell ⟨g + 1, 4, none⟩ (.bool false)).frozen? ⟨g + 1 + 1, 4, none⟩ = false := blk_frozen H12.out 4
      have H20 := Aside0.mk (blk_far H10.out (p := ⟨g + 1 + 1, 4, none⟩) (by show g ≠ g + 1 + 1; omega) (.bool true))
      have H21 := Aside0.mk (blk_far H11.out (p := ⟨g + 1 + 1, 4, none⟩) (by show g + 1 ≠ g + 1 + 1; omega) (.bool true))
      have H22 := Aside0.mk (blk_put H12.out 4 (.bool true) (cs' := Go.Proofs.Ytdpcodnooonmlaa.PMt.ltklaw4_ModeTable.arr Go.Proofs.Ytdpcodnooonmlaa.PMt.ltklaw4_ModeTable.sB 5) rfl)
      have HBn := Aside0.mk (below_set (g := g + 1 + 1) (j := 4) (v := .bool true) (below_set (g := g + 1) (j := 4) (v := .bool false) (below_set (g := g) (j := 4) (v := .bool true) GB.out HW.out) (Nat.le_trans HW.out (Nat.le_add_right _ _))) (Nat.le_trans HW.out (Nat.le_trans (Nat.le_add_right _ _) (Nat.le_add_right _ _))))
      go_wp2
      go_round
      all_goals first | omega | exact ⟨5, by omega, rfl, H20, H21, H22, HBn⟩ | (show _ < _; simp [intOf]; omega) | (simp [intOf]; done)
    · have c0 : (wr).cell? ⟨g, 5, none⟩ = some (.bool false) := (blk_cell G5.out 5).trans rfl
      have f0 : (wr).frozen? ⟨g, 5, none⟩ = false := blk_frozen G5.out 5
      have H00 := Aside0.mk (blk_put G5.out 5 (.bool true) (cs' := Go.Proofs.Ytdpcodnooonmlaa.PMt.ltklaw4_ModeTable.arr Go.Proofs.Ytdpcodnooonmlaa.PMt.ltklaw4_ModeTable.rB 6) rfl)
      have H01 := Aside0.mk (blk_far G6.out (p := ⟨g, 5, none⟩) (by show g + 1 ≠ g; omega) (.bool true))
      have H02 := Aside0.mk (blk_far G7.out (p := ⟨g, 5, none⟩) (by show g + 1 + 1 ≠ g; omega) (.bool true))
      have c1 : ((wr).setCell ⟨g, 5, none⟩ (.bool true)).cell? ⟨g + 1, 5, none⟩ = some (.bool false) := (blk_cell H01.out 5).trans rfl
      have f1 : ((wr).setCell ⟨g, 5, none⟩ (.bool true)).frozen? ⟨g + 1, 5, none⟩ = false := blk_frozen H01.out 5
      have H10 := Aside0.mk (blk_far H00.out (p := ⟨g + 1, 5, none⟩) (by show g ≠ g + 1; omega) (.bool true))
      have H11 := Aside0.mk (blk_put H01.out 5 (.bool true) (cs' := Go.Proofs.Ytdpcodnooonmlaa.PMt.ltklaw4_ModeTable.arr Go.Proofs.Ytdpcodnooonmlaa.PMt.ltklaw4_ModeTable.wB 6) rfl)
      have H12 := Aside0.mk (blk_far H02.out (p := ⟨g + 1, 5, none⟩) (by show g + 1 + 1 ≠ g + 1; omega) (.bool true))
      have c2 : (((wr).setCell ⟨g, 5, none⟩ (.bool true)).setCell ⟨g + 1, 5, none⟩ (.bool true)).cell? ⟨g + 1 + 1, 5, none⟩ = some (.bool false) := (blk_cell H12.out 5).trans rfl
      have f2 : (((wr).setCell ⟨g, 5, none⟩ (.bool true)).setCell ⟨g + 1, 5, none⟩ (.bool true)).frozen? ⟨g + 1 + 1, 5, none⟩ = false := blk_frozen H12.out 5
      have H20 := Aside0.mk (blk_far H10.out (p := ⟨g + 1 + 1, 5, none⟩) (by show g ≠ g + 1 + 1; omega) (.bool true))
      have H21 := Aside0.mk (blk_far H11.out (p := ⟨g + 1 + 1, 5, none⟩) (by show g + 1 ≠ g + 1 + 1; omega) (.bool true))
      have H22 := Aside0.mk (blk_put H12.out 5 (.bool true) (cs' := Go.Proofs.Ytdpcodnooonmlaa.PMt.ltklaw4_ModeTable.arr Go.Proofs.Ytdpcodnooonmlaa.PMt.ltklaw4_ModeTable.sB 6) rfl)
      have HBn := Aside0.mk (below_set (g := g + 1 + 1) (j := 5) (v := .bool true) (below_set (g := g + 1) (j := 5) (v := .bool true) (below_set (g := g) (j := 5) (v := .bool true) GB.out HW.out) (Nat.le_trans HW.out (Nat.le_add_right _ _))) (Nat.le_trans HW.out (Nat.le_trans (Nat.le_add_right _ _) (Nat.le_add_right _ _))))
      go_wp2
      go_round
      all_goals first | omega | exact ⟨6, by omega, rfl, H20, H21, H22, HBn⟩ | (show _ < _; simp [intOf]; omega) | (simp [intOf]; done)
    · have look : ∀ (f : Nat → Bool) (x : Nat), x ≤ 5 → (ltklaw4_ModeTable.arr f 6)[x]? = some (.bool (f x)) := by
        intro f x hx
        have hx' : x = 0 ∨ x = 1 ∨ x = 2 ∨ x = 3 ∨ x = 4 ∨ x = 5 := by omega
        rcases hx' with rfl | rfl | rfl | rfl | rfl | rfl <;> simp [ltklaw4_ModeTable.arr]
      obtain ⟨ra, hra⟩ : ∃ ra, ra = ltklaw4_ModeTable.rB a := ⟨_, rfl⟩
      obtain ⟨rb, hrb⟩ : ∃ rb, rb = ltklaw4_ModeTable.rB b := ⟨_, rfl⟩
      obtain ⟨wa, hwa⟩ : ∃ wa, wa = ltklaw4_ModeTable.wB a := ⟨_, rfl⟩
      obtain ⟨wb, hwb⟩ : ∃ wb, wb = ltklaw4_ModeTable.wB b := ⟨_, rfl⟩
      obtain ⟨sa, hsa⟩ : ∃ sa, sa = ltklaw4_ModeTable.sB a := ⟨_, rfl⟩
      obtain ⟨sb, hsb⟩ : ∃ sb, sb = ltklaw4_ModeTable.sB b := ⟨_, rfl⟩
      have c1 : wr.cell? ⟨g, a, none⟩ = some (.bool ra) := by rw [hra]; exact (blk_cell G5.out a).trans (look _ _ ha)
      have c2 : wr.cell? ⟨g, b, none⟩ = some (.bool rb) := by rw [hrb]; exact (blk_cell G5.out b).trans (look _ _ hb)
      have c3 : wr.cell? ⟨g + 1, a, none⟩ = some (.bool wa) := by rw [hwa]; exact (blk_cell G6.out a).trans (look _ _ ha)
      have c4 : wr.cell? ⟨g + 1, b, none⟩ = some (.bool wb) := by rw [hwb]; exact (blk_cell G6.out b).trans (look _ _ hb)
      have c5 : wr.cell? ⟨g + 1 + 1, a, none⟩ = some (.bool sa) := by rw [hsa]; exact (blk_cell G7.out a).trans (look _ _ ha)
      have c6 : wr.cell? ⟨g + 1 + 1, b, none⟩ = some (.bool sb) := by rw [hsb]; exact (blk_cell G7.out b).trans (look _ _ hb)
      have E := Aside0.mk (And.intro hra (And.intro hrb (And.intro hwa (And.intro hwb (And.intro hsa hsb)))))
      clear hra hrb hwa hwb hsa hsb look
      clear HKA HKB
      go_upto_region 12 with (fail)
      go_cut [9] (fun v9 wc => ∃ bn : Bool, v9 = .bool bn ∧ Aside0 (bn = (decide (a = 0) || decide (b = 0))) ∧ Hid (wr = wc))
      case first =>
        by_cases h0 : a = 0
        · have e0 : ((a : Int) == 0) = true := beq_iff_eq.mpr (by omega)
          have e1 := Aside0.mk (show true = (decide (a = 0) || decide (b = 0)) by rw [decide_eq_true h0]; rfl)
          clear h0
          go_wp2
          go_meet
          case rel => exact ⟨true, rfl, e1, rfl⟩
        · have e0 : ((a : Int) == 0) = false := beq_eq_false_iff_ne.mpr (by omega)
          have e1 := Aside0.mk (show decide (b = 0) = (decide (a = 0) || decide (b = 0)) by rw [decide_eq_false h0]; rfl)
          clear h0
          go_wp2
          go_meet
          case rel => exact ⟨decide (b = 0), (by congr 1; by_cases hb0 : b = 0 <;> simp [hb0]), e1, rfl⟩
      case rest =>
        obtain ⟨bn, rfl, hbn, rfl⟩ := hcut
        go_upto_region 13 with (fail)
        go_cut [10] (fun v10 wc => ∃ bc : Bool, v10 = .bool bc ∧ Aside0 (bc = (wa || wb || (ra && sb) || (rb && sa))) ∧ Hid (wr = wc))
        case first =>
          by_cases q1 : wa = true
          · subst q1
            go_wp2
            go_meet
            case rel => exact ⟨true, rfl, ⟨by simp⟩, rfl⟩
          · have q1' : wa = false := by simpa using q1
            subst q1'
            clear q1
            by_cases q2 : wb = true
            · subst q2
              go_wp2
              go_meet
              case rel => exact ⟨true, rfl, ⟨by simp⟩, rfl⟩
            · have q2' : wb = false := by simpa using q2
              subst q2'
              clear q2
              by_cases q3 : ra = true
              · subst q3
                by_cases q4 : sb = true
                · subst q4
                  go_wp2
                  go_meet
                  case rel => exact ⟨true, rfl, ⟨by simp⟩, rfl⟩
                · have q4' : sb = false := by simpa using q4
                  subst q4'
                  clear q4
                  by_cases q5 : rb = true
                  · subst q5
                    go_wp2
                    go_meet
                    case rel => exact ⟨sa, rfl, ⟨by simp⟩, rfl⟩
                  · have q5' : rb = false := by simpa using q5
                    subst q5'
                    clear q5
                    go_wp2
                    go_meet
                    case rel => exact ⟨false, rfl, ⟨by simp⟩, rfl⟩
              · have q3' : ra = false := by simpa using q3
                subst q3'
                clear q3
                by_cases q5 : rb = true
                · subst q5
                  go_wp2
                  go_meet
                  case rel => exact ⟨sa, rfl, ⟨by simp⟩, rfl⟩
                · have q5' : rb = false := by simpa using q5
                  subst q5'
                  clear q5
                  go_wp2
                  go_meet
                  case rel => exact ⟨false, rfl, ⟨by simp⟩, rfl⟩
        case rest =>
          obtain ⟨bc, rfl, hbc, rfl⟩ := hcut
          have hE := E.out
          have HF := Aside0.mk (show mode_Fits.f (a : Int) (b : Int) = some (bn || !bc) by
            rw [hbn.out, hbc.out, hE.1, hE.2.1, hE.2.2.1, hE.2.2.2.1, hE.2.2.2.2.1, hE.2.2.2.2.2]
            exact ltklaw4_ModeTable.fits_tab a b ha hb)
          have HR := Aside0.mk (show mode_Reads.f (a : Int) = some ra by rw [hE.1]; exact ltklaw4_ModeTable.reads_tab a ha)
          have HX := Aside0.mk (show mode_Writes.f (a : Int) = some wa by rw [hE.2.2.1]; exact ltklaw4_ModeTable.writes_tab a ha)
          clear hE E hbn hbc c2 c4 c5 c6 G5 G6 G7
          have c1g := fun d os => Ln.cell_gr c1 d os
          have c3g := fun d os => Ln.cell_gr c3 d os
          have e1 : (ra == ra) = true := beq_self_eq_true ra
          have e2 : (wa == wa) = true := beq_self_eq_true wa
          have mixed : Try.prog.follows Departure.mixedOrders = true := by kernel_rfl
          have K1 := Aside0.mk (fun w => ltklaw4_first.calls 60 true w ltklaw4_ModeTable.first_yes)
          have K2 := Aside0.mk (fun w => (mode_Fits.calls a b _ w HF.out).mono (fun _ _ h => And.intro h.1 h.2.below))
          have K3 := Aside0.mk (fun w => (mode_Reads.calls a _ w HR.out).mono (fun _ _ h => And.intro h.1 h.2.below))
          have K4 := Aside0.mk (fun w => (mode_Writes.calls a _ w HX.out).mono (fun _ _ h => And.intro h.1 h.2.below))
          clear HF HR HX
          cases bn with
          | true =>
            rw [Bool.true_or] at K2
            go_wp2_with fail
            refine Ln.wp_region_gr mixed (by kernel_rfl) ?_
            repeat (go_big_quiet_step (first | exact Ln.Calls.gr_of (K1.out _) | exact Ln.Calls.gr_of (K2.out _) | exact Ln.Calls.gr_of (K3.out _) | exact Ln.Calls.gr_of (K4.out _)))
            refine wpQuiet_nil ?_
            intro _ hw'
            obtain ⟨⟨d, os⟩, rfl⟩ := hw'
            go_wp2
            go_ret
            exact ⟨rfl, below_then GB.out GB.out.size (Ln.below_gr _ d os)⟩
          | false =>
            rw [Bool.false_or] at K2
            cases bc
            all_goals
              go_wp2_with fail
              refine Ln.wp_region_gr mixed (by kernel_rfl) ?_
              repeat (go_big_quiet_step (first | exact Ln.Calls.gr_of (K1.out _) | exact Ln.Calls.gr_of (K2.out _) | exact Ln.Calls.gr_of (K3.out _) | exact Ln.Calls.gr_of (K4.out _)))
              refine wpQuiet_nil ?_
              intro _ hw'
              obtain ⟨⟨d, os⟩, rfl⟩ := hw'
              go_wp2
              go_ret
              exact ⟨rfl, below_then GB.out GB.out.size (Ln.below_gr _ d os)⟩
theorem ltklaw4_ModeTable.walk (a0 a1 : Int) (w : World) : Calls Try.prog 10 #[.int .i64 a0, .int .i64 a1] w fun e w' => e = .returned (.bool true) ∧ Below w.heap.size w w' := by
  by_cases h : (0 ≤ a0 ∧ a0 ≤ 5) ∧ (0 ≤ a1 ∧ a1 ≤ 5)
  · obtain ⟨n, rfl⟩ : ∃ n : Nat, a0 = (n : Int) := ⟨a0.toNat, (Int.toNat_of_nonneg h.1.1).symm⟩
    obtain ⟨m, rfl⟩ : ∃ n : Nat, a1 = (n : Int) := ⟨a1.toNat, (Int.toNat_of_nonneg h.2.1).symm⟩
    exact ltklaw4_ModeTable.in_ n m w (by omega) (by omega)
  · exact ltklaw4_ModeTable.out a0 a1 w h
end Go.Proofs.Ytdpcodnooonmlaa.PMt
