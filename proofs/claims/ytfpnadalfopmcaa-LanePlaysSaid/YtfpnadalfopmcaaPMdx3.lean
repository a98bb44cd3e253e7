-- Written by a program of this session (myprint.py) over the kit's print; some functions' contracts are given by hand.
import Derived.Test.YtfpnadalfopmcaaPMdx0
import Derived.Test.YtfpnadalfopmcaaPMdx1
import Derived.Test.YtfpnadalfopmcaaPMdx2
namespace Go.Proofs.Ytfpnadalfopmcaa.PMd
open Go.RowKit Go.Proofs.YtfpnadalfopmcaaW.PrintWords Go.Proofs.YtfpnadalfopmcaaW.PrintLast Go.Proofs.YtfpnadalfopmcaaW.PrintMore
attribute [local go_sem] max2_int min2_int max_two min_two max_three min_three max_four min_four   -- for this text's walks alone
set_option linter.unusedVariables false
set_option linter.unusedSimpArgs false

attribute [local go_sem high] eqA50
/-! ### ltkref1_Sup: function 29 -/
def ltkref1_Sup.l0 : Nat → List Int → Int → Int → Option (Int)
  | 0, _, _, _ => none
  | k + 1, x0, x3, x4 => if x4 < (x0.length : Int) then (if 0 ≤ x4 then ((ltkref1_Mode.f (rd x0 x4)).bind fun t127 => (if t127 = true then (if x3 = 2 then (if (rd x0 x4) = 3 then (ltkref1_Sup.l0 k x0 4 (wrap64 (x4 + 1))) else (if x3 = 3 then (if (rd x0 x4) = 2 then (ltkref1_Sup.l0 k x0 4 (wrap64 (x4 + 1))) else (ltkref1_Sup.l0 k x0 (mx x3 (rd x0 x4)) (wrap64 (x4 + 1)))) else (ltkref1_Sup.l0 k x0 (mx x3 (rd x0 x4)) (wrap64 (x4 + 1))))) else (if x3 = 3 then (if (rd x0 x4) = 2 then (ltkref1_Sup.l0 k x0 4 (wrap64 (x4 + 1))) else (ltkref1_Sup.l0 k x0 (mx x3 (rd x0 x4)) (wrap64 (x4 + 1)))) else (ltkref1_Sup.l0 k x0 (mx x3 (rd x0 x4)) (wrap64 (x4 + 1))))) else (ltkref1_Sup.l0 k x0 5 (wrap64 (x4 + 1))))) else (none)) else (some x3)
def ltkref1_Sup.f (k : Nat) (l0 : List Int) : Option (Int) := ltkref1_Sup.l0 k l0 0 0
theorem ltkref1_Sup.mono_l : ∀ k, (∀ y0 y1 y2, LeO (ltkref1_Sup.l0 k y0 y1 y2) (ltkref1_Sup.l0 (k + 1) y0 y1 y2))
  | 0 => fun _ _ _ r h => by simp [ltkref1_Sup.l0] at h
  | k + 1 => by
    have ih0 := ltkref1_Sup.mono_l k
    · intro y0 y1 y2
      unfold ltkref1_Sup.l0
      repeat' first
      | (with_reducible exact ih0 _ _ _)
      | (with_reducible exact LeO.refl _)
      | (with_reducible exact LeO.none _)
      | (with_reducible refine LeO.ite ?_ ?_)
      | (with_reducible refine LeO.bind ?_ (fun _ => ?_))
      | exact ih0 _ _ _
      | exact LeO.none _
      | refine LeO.ite ?_ ?_
      | refine LeO.bind ?_ (fun _ => ?_)
theorem ltkref1_Sup.mono : ∀ a0 k, LeO (ltkref1_Sup.f k a0) (ltkref1_Sup.f (k + 1) a0) := by
  intro a0 k
  have ih0 := ltkref1_Sup.mono_l k
  unfold ltkref1_Sup.f
  repeat' first
      | (with_reducible exact ih0 _ _ _)
      | (with_reducible exact LeO.refl _)
      | (with_reducible exact LeO.none _)
      | (with_reducible refine LeO.ite ?_ ?_)
      | (with_reducible refine LeO.bind ?_ (fun _ => ?_))
      | exact ih0 _ _ _
      | exact LeO.none _
      | refine LeO.ite ?_ ?_
      | refine LeO.bind ?_ (fun _ => ?_)
set_option maxHeartbeats 8000000 in
set_option maxRecDepth 100000 in
theorem ltkref1_Sup.calls (k : Nat) (A0 : Option Addr) (c0 : Nat) (l0 : List Int) (r : Int) (w : World) (hr0 : Kd.C (Kd.int .i64) w A0 l0.length l0) (hc0 : l0.length ≤ c0) (h : ltkref1_Sup.f k l0 = some r) :
    Calls Try.prog 29 #[.slice A0 l0.length c0] w fun e w' => e = .returned (.int .i64 r) ∧ Below w.heap.size w w' := by
  have HR0 := Aside0.mk hr0
  have HC0 := Aside0.mk hc0
  clear hr0 hc0
  have HB := Aside0.mk (Below.refl w.heap.size w)
  have H : (ltkref1_Sup.l0 k l0 0 0) = some r := h
  clear h
  have H' := Aside0.mk H
  clear H
  go_enter Try.func29, Try.ntmps29
  go_wp2
  go_loopg [3, 4] k (fun kq v3 v4 w' => ∃ (x3_1 : Int) (x4_1 : Int), v3 = .int .i64 x3_1 ∧ v4 = .int .i64 x4_1 ∧ Aside0 (ltkref1_Sup.l0 kq l0 x3_1 x4_1 = some r) ∧ Aside0 (kq ≤ k) ∧ Aside0 (Below w.heap.size w w'))
  case atStart => exact ⟨(0), (0), (by first | rfl | (simp; done) | (simp [*]; done)), (by first | rfl | (simp; done) | (simp [*]; done)), H', ⟨Nat.le_refl _⟩, ⟨by repeat (first | (with_reducible first | exact HB.out | apply below_alloc | apply pw_below_drewN | apply below_drew1) | exact HB.out)⟩⟩
  case round =>
    clear H'
    obtain ⟨x3_1, x4_1, rfl, rfl, HA, HK1, HB⟩ := hrel
    cases gk with
    | zero => exact absurd HA.out (by simp [ltkref1_Sup.l0])
    | succ k1 =>
      have H := HA.out
      clear HA
      simp only [ltkref1_Sup.l0] at H
      by_cases c2 : x4_1 < (l0.length : Int)
      · rw [if_pos c2] at H
        have c2b0 : decide (x4_1 < (l0.length : Int)) = true := decide_eq_true c2
        clear c2
        by_cases c3 : 0 ≤ x4_1
        · rw [if_pos c3] at H
          have c3b0 : decide (0 ≤ x4_1) = true := decide_eq_true c3
          clear c3
          replace H := Option.bind_eq_some_iff.mp H
          obtain ⟨t127, A40, H⟩ := H
          replace H : (if t127 = true then (if x3_1 = 2 then (if (rd l0 x4_1) = 3 then (ltkref1_Sup.l0 k1 l0 4 (wrap64 (x4_1 + 1))) else (if x3_1 = 3 then (if (rd l0 x4_1) = 2 then (ltkref1_Sup.l0 k1 l0 4 (wrap64 (x4_1 + 1))) else (ltkref1_Sup.l0 k1 l0 (mx x3_1 (rd l0 x4_1)) (wrap64 (x4_1 + 1)))) else (ltkref1_Sup.l0 k1 l0 (mx x3_1 (rd l0 x4_1)) (wrap64 (x4_1 + 1))))) else (if x3_1 = 3 then (if (rd l0 x4_1) = 2 then (ltkref1_Sup.l0 k1 l0 4 (wrap64 (x4_1 + 1))) else (ltkref1_Sup.l0 k1 l0 (mx x3_1 (rd l0 x4_1)) (wrap64 (x4_1 + 1)))) else (ltkref1_Sup.l0 k1 l0 (mx x3_1 (rd l0 x4_1)) (wrap64 (x4_1 + 1))))) else (ltkref1_Sup.l0 k1 l0 5 (wrap64 (x4_1 + 1)))) = some r := H
          have A4 := Aside0.mk A40
          clear A40
          by_cases c5 : t127 = true
          · subst c5
            have H1 : (if x3_1 = 2 then (if (rd l0 x4_1) = 3 then (ltkref1_Sup.l0 k1 l0 4 (wrap64 (x4_1 + 1))) else (if x3_1 = 3 then (if (rd l0 x4_1) = 2 then (ltkref1_Sup.l0 k1 l0 4 (wrap64 (x4_1 + 1))) else (ltkref1_Sup.l0 k1 l0 (mx x3_1 (rd l0 x4_1)) (wrap64 (x4_1 + 1)))) else (ltkref1_Sup.l0 k1 l0 (mx x3_1 (rd l0 x4_1)) (wrap64 (x4_1 + 1))))) else (if x3_1 = 3 then (if (rd l0 x4_1) = 2 then (ltkref1_Sup.l0 k1 l0 4 (wrap64 (x4_1 + 1))) else (ltkref1_Sup.l0 k1 l0 (mx x3_1 (rd l0 x4_1)) (wrap64 (x4_1 + 1)))) else (ltkref1_Sup.l0 k1 l0 (mx x3_1 (rd l0 x4_1)) (wrap64 (x4_1 + 1))))) = some r := by rw [if_pos rfl] at H; exact H
            clear H
            have H := H1
            clear H1
            by_cases c6 : x3_1 = 2
            · rw [if_pos c6] at H
              have c6b0 : (x3_1 == 2) = true := beq_iff_eq.mpr c6
              have c6b1 : (x3_1 != 2) = false := bne_eq_false_iff_eq.mpr c6
              clear c6
              by_cases c7 : (rd l0 x4_1) = 3
              · rw [if_pos c7] at H
                have c7b0 : ((rd l0 x4_1) == 3) = true := beq_iff_eq.mpr c7
                have c7b1 : ((rd l0 x4_1) != 3) = false := bne_eq_false_iff_eq.mpr c7
                clear c7
                have H' := Aside0.mk H
                clear H
                have p126 : 0 ≤ (x4_1 : Int) := of_decide_eq_true (by first | (with_reducible assumption) | assumption)
                have q126 : x4_1 < (l0.length : Int) := of_decide_eq_true (by first | (with_reducible assumption) | assumption)
                obtain ⟨ad126, e126, hx126_0⟩ := Kd.at_int HR0.out x4_1 p126 q126
                cases e126
                replace hx126_0 := (HB.out.cell (World.block_lt_of_cell? w _ hx126_0)).trans hx126_0
                replace p126 := eq_true p126
                replace q126 := eq_true q126
                go_wp2_with (first | ((with_reducible refine gate_callee (f := 28) rfl ?_); refine goesL_ (some 21) rfl rfl Try.func28 (by kernel_rfl) rfl #[.int .i64 (rd l0 x4_1)] rfl (by (try simp only [List.map_toArray, List.map_cons, List.map_nil]); first | done | rfl | (simp only [List.length_drop, List.length_take]; rfl)) ?_; (with_reducible refine (ltkref1_Mode.calls (rd l0 x4_1) true _ A4.out).mono ?_); rintro e w' ⟨rfl, ⟨nd, rfl⟩⟩; refine ⟨_, rfl, ?_⟩))
                go_roundg k1
                case measure => have := HK1.out; omega
                case rel => exact ⟨(4), (wrap64 (x4_1 + 1)), (by first | rfl | (simp; done) | (simp [*]; done)), (by first | rfl | (simp; done) | (simp [*]; done)), H', ⟨by have := HK1.out; omega⟩, ⟨by repeat (first | (with_reducible first | exact HB.out | apply below_alloc | apply pw_below_drewN | apply below_drew1) | exact HB.out)⟩⟩
              · rw [if_neg c7] at H
                have c7b0 : ((rd l0 x4_1) == 3) = false := beq_eq_false_iff_ne.mpr c7
                have c7b1 : ((rd l0 x4_1) != 3) = true := bne_iff_ne.mpr c7
                by_cases c8 : x3_1 = 3
                · rw [if_pos c8] at H
                  have c8b0 : (x3_1 == 3) = true := beq_iff_eq.mpr c8
                  have c8b1 : (x3_1 != 3) = false := bne_eq_false_iff_eq.mpr c8
                  clear c8
                  by_cases c9 : (rd l0 x4_1) = 2
                  · rw [if_pos c9] at H
                    have c9b0 : ((rd l0 x4_1) == 2) = true := beq_iff_eq.mpr c9
                    have c9b1 : ((rd l0 x4_1) != 2) = false := bne_eq_false_iff_eq.mpr c9
                    clear c9
                    have H' := Aside0.mk H
                    clear H
                    have p126 : 0 ≤ (x4_1 : Int) := of_decide_eq_true (by first | (with_reducible assumption) | assumption)
                    have q126 : x4_1 < (l0.length : Int) := of_decide_eq_true (by first | (with_reducible assumption) | assumption)
                    obtain ⟨ad126, e126, hx126_0⟩ := Kd.at_int HR0.out x4_1 p126 q126
                    cases e126
                    replace hx126_0 := (HB.out.cell (World.block_lt_of_cell? w _ hx126_0)).trans hx126_0
                    replace p126 := eq_true p126
                    replace q126 := eq_true q126
                    go_wp2_with (first | ((with_reducible refine gate_callee (f := 28) rfl ?_); refine goesL_ (some 21) rfl rfl Try.func28 (by kernel_rfl) rfl #[.int .i64 (rd l0 x4_1)] rfl (by (try simp only [List.map_toArray, List.map_cons, List.map_nil]); first | done | rfl | (simp only [List.length_drop, List.length_take]; rfl)) ?_; (with_reducible refine (ltkref1_Mode.calls (rd l0 x4_1) true _ A4.out).mono ?_); rintro e w' ⟨rfl, ⟨nd, rfl⟩⟩; refine ⟨_, rfl, ?_⟩))
                    go_roundg k1
                    case measure => have := HK1.out; omega
                    case rel => exact ⟨(4), (wrap64 (x4_1 + 1)), (by first | rfl | (simp; done) | (simp [*]; done)), (by first | rfl | (simp; done) | (simp [*]; done)), H', ⟨by have := HK1.out; omega⟩, ⟨by repeat (first | (with_reducible first | exact HB.out | apply below_alloc | apply pw_below_drewN | apply below_drew1) | exact HB.out)⟩⟩
                  · rw [if_neg c9] at H
                    have c9b0 : ((rd l0 x4_1) == 2) = false := beq_eq_false_iff_ne.mpr c9
                    have c9b1 : ((rd l0 x4_1) != 2) = true := bne_iff_ne.mpr c9
                    obtain ⟨ji10, hji10⟩ : ∃ j_ : Int, (mx x3_1 (rd l0 x4_1)) = j_ := ⟨_, rfl⟩
                    replace H : (ltkref1_Sup.l0 k1 l0 ji10 (wrap64 (x4_1 + 1))) = some r := by first | (rw [hji10] at H; exact H) | (simp only [hji10] at H ⊢; exact H)
                    (try rw [hji10] at A4)
                    have hji10_ : (if x3_1 < (rd l0 x4_1) then (rd l0 x4_1) else x3_1) = ji10 := hji10
                    have H' := Aside0.mk H
                    clear H
                    have p126 : 0 ≤ (x4_1 : Int) := of_decide_eq_true (by first | (with_reducible assumption) | assumption)
                    have q126 : x4_1 < (l0.length : Int) := of_decide_eq_true (by first | (with_reducible assumption) | assumption)
                    obtain ⟨ad126, e126, hx126_0⟩ := Kd.at_int HR0.out x4_1 p126 q126
                    cases e126
                    replace hx126_0 := (HB.out.cell (World.block_lt_of_cell? w _ hx126_0)).trans hx126_0
                    replace p126 := eq_true p126
                    replace q126 := eq_true q126
                    go_wp2_with (first | ((with_reducible refine gate_callee (f := 28) rfl ?_); refine goesL_ (some 21) rfl rfl Try.func28 (by kernel_rfl) rfl #[.int .i64 (rd l0 x4_1)] rfl (by (try simp only [List.map_toArray, List.map_cons, List.map_nil]); first | done | rfl | (simp only [List.length_drop, List.length_take]; rfl)) ?_; (with_reducible refine (ltkref1_Mode.calls (rd l0 x4_1) true _ A4.out).mono ?_); rintro e w' ⟨rfl, ⟨nd, rfl⟩⟩; refine ⟨_, rfl, ?_⟩))
                    go_roundg k1
                    case measure => have := HK1.out; omega
                    case rel => exact ⟨(ji10), (wrap64 (x4_1 + 1)), (by first | rfl | (simp; done) | (simp only [← hji10] <;> (first | rfl | (simp; done))) | (simp [*]; done)), (by first | rfl | (simp; done) | (simp [*]; done)), H', ⟨by have := HK1.out; omega⟩, ⟨by repeat (first | (with_reducible first | exact HB.out | apply below_alloc | apply pw_below_drewN | apply below_drew1) | exact HB.out)⟩⟩
                · rw [if_neg c8] at H
                  have c8b0 : (x3_1 == 3) = false := beq_eq_false_iff_ne.mpr c8
                  have c8b1 : (x3_1 != 3) = true := bne_iff_ne.mpr c8
                  obtain ⟨ji11, hji11⟩ : ∃ j_ : Int, (mx x3_1 (rd l0 x4_1)) = j_ := ⟨_, rfl⟩
                  replace H : (ltkref1_Sup.l0 k1 l0 ji11 (wrap64 (x4_1 + 1))) = some r := by first | (rw [hji11] at H; exact H) | (simp only [hji11] at H ⊢; exact H)
                  (try rw [hji11] at A4)
                  have hji11_ : (if x3_1 < (rd l0 x4_1) then (rd l0 x4_1) else x3_1) = ji11 := hji11
                  have H' := Aside0.mk H
                  clear H
                  have p126 : 0 ≤ (x4_1 : Int) := of_decide_eq_true (by first | (with_reducible assumption) | assumption)
                  have q126 : x4_1 < (l0.length : Int) := of_decide_eq_true (by first | (with_reducible assumption) | assumption)
                  obtain ⟨ad126, e126, hx126_0⟩ := Kd.at_int HR0.out x4_1 p126 q126
                  cases e126
                  replace hx126_0 := (HB.out.cell (World.block_lt_of_cell? w _ hx126_0)).trans hx126_0
                  replace p126 := eq_true p126
                  replace q126 := eq_true q126
                  go_wp2_with (first | ((with_reducible refine gate_callee (f := 28) rfl ?_); refine goesL_ (some 21) rfl rfl Try.func28 (by kernel_rfl) rfl #[.int .i64 (rd l0 x4_1)] rfl (by (try simp only [List.map_toArray, List.map_cons, List.map_nil]); first | done | rfl | (simp only [List.length_drop, List.length_take]; rfl)) ?_; (with_reducible refine (ltkref1_Mode.calls (rd l0 x4_1) true _ A4.out).mono ?_); rintro e w' ⟨rfl, ⟨nd, rfl⟩⟩; refine ⟨_, rfl, ?_⟩))
                  go_roundg k1
                  case measure => have := HK1.out; omega
                  case rel => exact ⟨(ji11), (wrap64 (x4_1 + 1)), (by first | rfl | (simp; done) | (simp only [← hji11] <;> (first | rfl | (simp; done))) | (simp [*]; done)), (by first | rfl | (simp; done) | (simp [*]; done)), H', ⟨by have := HK1.out; omega⟩, ⟨by repeat (first | (with_reducible first | exact HB.out | apply below_alloc | apply pw_below_drewN | apply below_drew1) | exact HB.out)⟩⟩
            · rw [if_neg c6] at H
              have c6b0 : (x3_1 == 2) = false := beq_eq_false_iff_ne.mpr c6
              have c6b1 : (x3_1 != 2) = true := bne_iff_ne.mpr c6
              by_cases c12 : x3_1 = 3
              · rw [if_pos c12] at H
                have c12b0 : (x3_1 == 3) = true := beq_iff_eq.mpr c12
                have c12b1 : (x3_1 != 3) = false := bne_eq_false_iff_eq.mpr c12
                clear c12
                by_cases c13 : (rd l0 x4_1) = 2
                · rw [if_pos c13] at H
                  have c13b0 : ((rd l0 x4_1) == 2) = true := beq_iff_eq.mpr c13
                  have c13b1 : ((rd l0 x4_1) != 2) = false := bne_eq_false_iff_eq.mpr c13
                  clear c13
                  have H' := Aside0.mk H
                  clear H
                  have p126 : 0 ≤ (x4_1 : Int) := of_decide_eq_true (by first | (with_reducible assumption) | assumption)
                  have q126 : x4_1 < (l0.length : Int) := of_decide_eq_true (by first | (with_reducible assumption) | assumption)
                  obtain ⟨ad126, e126, hx126_0⟩ := Kd.at_int HR0.out x4_1 p126 q126
                  cases e126
                  replace hx126_0 := (HB.out.cell (World.block_lt_of_cell? w _ hx126_0)).trans hx126_0
                  replace p126 := eq_true p126
                  replace q126 := eq_true q126
                  go_wp2_with (first | ((with_reducible refine gate_callee (f := 28) rfl ?_); refine goesL_ (some 21) rfl rfl Try.func28 (by kernel_rfl) rfl #[.int .i64 (rd l0 x4_1)] rfl (by (try simp only [List.map_toArray, List.map_cons, List.map_nil]); first | done | rfl | (simp only [List.length_drop, List.length_take]; rfl)) ?_; (with_reducible refine (ltkref1_Mode.calls (rd l0 x4_1) true _ A4.out).mono ?_); rintro e w' ⟨rfl, ⟨nd, rfl⟩⟩; refine ⟨_, rfl, ?_⟩))
                  go_roundg k1
                  case measure => have := HK1.out; omega
                  case rel => exact ⟨(4), (wrap64 (x4_1 + 1)), (by first | rfl | (simp; done) | (simp [*]; done)), (by first | rfl | (simp; done) | (simp [*]; done)), H', ⟨by have := HK1.out; omega⟩, ⟨by repeat (first | (with_reducible first | exact HB.out | apply below_alloc | apply pw_below_drewN | apply below_drew1) | exact HB.out)⟩⟩
                · rw [if_neg c13] at H
                  have c13b0 : ((rd l0 x4_1) == 2) = false := beq_eq_false_iff_ne.mpr c13
                  have c13b1 : ((rd l0 x4_1) != 2) = true := bne_iff_ne.mpr c13
                  obtain ⟨ji14, hji14⟩ : ∃ j_ : Int, (mx x3_1 (rd l0 x4_1)) = j_ := ⟨_, rfl⟩
                  replace H : (ltkref1_Sup.l0 k1 l0 ji14 (wrap64 (x4_1 + 1))) = some r := by first | (rw [hji14] at H; exact H) | (simp only [hji14] at H ⊢; exact H)
                  (try rw [hji14] at A4)
                  have hji14_ : (if x3_1 < (rd l0 x4_1) then (rd l0 x4_1) else x3_1) = ji14 := hji14
                  have H' := Aside0.mk H
                  clear H
                  have p126 : 0 ≤ (x4_1 : Int) := of_decide_eq_true (by first | (with_reducible assumption) | assumption)
                  have q126 : x4_1 < (l0.length : Int) := of_decide_eq_true (by first | (with_reducible assumption) | assumption)
                  obtain ⟨ad126, e126, hx126_0⟩ := Kd.at_int HR0.out x4_1 p126 q126
                  cases e126
                  replace hx126_0 := (HB.out.cell (World.block_lt_of_cell? w _ hx126_0)).trans hx126_0
                  replace p126 := eq_true p126
                  replace q126 := eq_true q126
                  go_wp2_with (first | ((with_reducible refine gate_callee (f := 28) rfl ?_); refine goesL_ (some 21) rfl rfl Try.func28 (by kernel_rfl) rfl #[.int .i64 (rd l0 x4_1)] rfl (by (try simp only [List.map_toArray, List.map_cons, List.map_nil]); first | done | rfl | (simp only [List.length_drop, List.length_take]; rfl)) ?_; (with_reducible refine (ltkref1_Mode.calls (rd l0 x4_1) true _ A4.out).mono ?_); rintro e w' ⟨rfl, ⟨nd, rfl⟩⟩; refine ⟨_, rfl, ?_⟩))
                  go_roundg k1
                  case measure => have := HK1.out; omega
                  case rel => exact ⟨(ji14), (wrap64 (x4_1 + 1)), (by first | rfl | (simp; done) | (simp only [← hji14] <;> (first | rfl | (simp; done))) | (simp [*]; done)), (by first | rfl | (simp; done) | (simp [*]; done)), H', ⟨by have := HK1.out; omega⟩, ⟨by repeat (first | (with_reducible first | exact HB.out | apply below_alloc | apply pw_below_drewN | apply below_drew1) | exact HB.out)⟩⟩
              · rw [if_neg c12] at H
                have c12b0 : (x3_1 == 3) = false := beq_eq_false_iff_ne.mpr c12
                have c12b1 : (x3_1 != 3) = true := bne_iff_ne.mpr c12
                obtain ⟨ji15, hji15⟩ : ∃ j_ : Int, (mx x3_1 (rd l0 x4_1)) = j_ := ⟨_, rfl⟩
                replace H : (ltkref1_Sup.l0 k1 l0 ji15 (wrap64 (x4_1 + 1))) = some r := by first | (rw [hji15] at H; exact H) | (simp only [hji15] at H ⊢; exact H)
                (try rw [hji15] at A4)
                have hji15_ : (if x3_1 < (rd l0 x4_1) then (rd l0 x4_1) else x3_1) = ji15 := hji15
                have H' := Aside0.mk H
                clear H
                have p126 : 0 ≤ (x4_1 : Int) := of_decide_eq_true (by first | (with_reducible assumption) | assumption)
                have q126 : x4_1 < (l0.length : Int) := of_decide_eq_true (by first | (with_reducible assumption) | assumption)
                obtain ⟨ad126, e126, hx126_0⟩ := Kd.at_int HR0.out x4_1 p126 q126
                cases e126
                replace hx126_0 := (HB.out.cell (World.block_lt_of_cell? w _ hx126_0)).trans hx126_0
                replace p126 := eq_true p126
                replace q126 := eq_true q126
                go_wp2_with (first | ((with_reducible refine gate_callee (f := 28) rfl ?_); refine goesL_ (some 21) rfl rfl Try.func28 (by kernel_rfl) rfl #[.int .i64 (rd l0 x4_1)] rfl (by (try simp only [List.map_toArray, List.map_cons, List.map_nil]); first | done | rfl | (simp only [List.length_drop, List.length_take]; rfl)) ?_; (with_reducible refine (ltkref1_Mode.calls (rd l0 x4_1) true _ A4.out).mono ?_); rintro e w' ⟨rfl, ⟨nd, rfl⟩⟩; refine ⟨_, rfl, ?_⟩))
                go_roundg k1
                case measure => have := HK1.out; omega
                case rel => exact ⟨(ji15), (wrap64 (x4_1 + 1)), (by first | rfl | (simp; done) | (simp only [← hji15] <;> (first | rfl | (simp; done))) | (simp [*]; done)), (by first | rfl | (simp; done) | (simp [*]; done)), H', ⟨by have := HK1.out; omega⟩, ⟨by repeat (first | (with_reducible first | exact HB.out | apply below_alloc | apply pw_below_drewN | apply below_drew1) | exact HB.out)⟩⟩
          · replace c5 := Bool.eq_false_iff.mpr c5
            subst c5
            have H1 : (ltkref1_Sup.l0 k1 l0 5 (wrap64 (x4_1 + 1))) = some r := by rw [if_neg (show ¬ (false = true) by decide)] at H; exact H
            clear H
            have H := H1
            clear H1
            have H' := Aside0.mk H
            clear H
            have p126 : 0 ≤ (x4_1 : Int) := of_decide_eq_true (by first | (with_reducible assumption) | assumption)
            have q126 : x4_1 < (l0.length : Int) := of_decide_eq_true (by first | (with_reducible assumption) | assumption)
            obtain ⟨ad126, e126, hx126_0⟩ := Kd.at_int HR0.out x4_1 p126 q126
            cases e126
            replace hx126_0 := (HB.out.cell (World.block_lt_of_cell? w _ hx126_0)).trans hx126_0
            replace p126 := eq_true p126
            replace q126 := eq_true q126
            go_wp2_with (first | ((with_reducible refine gate_callee (f := 28) rfl ?_); refine goesL_ (some 21) rfl rfl Try.func28 (by kernel_rfl) rfl #[.int .i64 (rd l0 x4_1)] rfl (by (try simp only [List.map_toArray, List.map_cons, List.map_nil]); first | done | rfl | (simp only [List.length_drop, List.length_take]; rfl)) ?_; (with_reducible refine (ltkref1_Mode.calls (rd l0 x4_1) false _ A4.out).mono ?_); rintro e w' ⟨rfl, ⟨nd, rfl⟩⟩; refine ⟨_, rfl, ?_⟩))
            go_roundg k1
            case measure => have := HK1.out; omega
            case rel => exact ⟨(5), (wrap64 (x4_1 + 1)), (by first | rfl | (simp; done) | (simp [*]; done)), (by first | rfl | (simp; done) | (simp [*]; done)), H', ⟨by have := HK1.out; omega⟩, ⟨by repeat (first | (with_reducible first | exact HB.out | apply below_alloc | apply pw_below_drewN | apply below_drew1) | exact HB.out)⟩⟩
        · rw [if_neg c3] at H
          exact absurd H (by simp)
      · rw [if_neg c2] at H
        have c2b0 : decide (x4_1 < (l0.length : Int)) = false := decide_eq_false c2
        clear c2
        obtain rfl := Option.some.inj H
        go_wp2
        go_ret
        exact ⟨by first | rfl | (simp [errW_none, errW_some] <;> rfl) | (simp [*, errW_none, errW_some] <;> rfl), by repeat (first | (with_reducible first | exact HB.out | apply below_alloc | apply pw_below_drewN | apply below_drew1) | exact HB.out)⟩

-- NOT PRINTED: function 30 (ltkref8_Lane_conversions)

/-! ### ltkref1_Fits: function 40 (by hand) -/
def ltkref1_Fits.g (a b : Int) : Bool := (a == 0 || b == 0) || (a == 1 && b != 5) || (b == 1 && a != 5) || (a == 2 && b == 2) || (a == 3 && b == 3)
def ltkref1_Fits.f (a0 a1 : Int) : Option Bool := some (decide (0 ≤ a0 ∧ a0 ≤ 5) && decide (0 ≤ a1 ∧ a1 ≤ 5) && ltkref1_Fits.g a0 a1)

set_option maxHeartbeats 8000000 in
set_option maxRecDepth 100000 in
theorem ltkref1_Fits.row0 (a1 : Int) (w : World) (h0 : 0 ≤ a1) (h5 : a1 ≤ 5) :
    Calls Try.prog 40 #[.int .i64 0, .int .i64 a1] w fun e w' => e = .returned (.bool (ltkref1_Fits.g 0 a1)) ∧ Below w.heap.size w w' := by
  have hu80 := Try.underlying66
  obtain ⟨c, hc⟩ : ∃ c : Int, c = (if a1 = 0 then 49 else if a1 = 1 then 49 else if a1 = 2 then 49 else if a1 = 3 then 49 else if a1 = 4 then 49 else 49) := ⟨_, rfl⟩
  have hix : ∀ W : World, (Instr.index 9 (.string ({ data := #[49, 49, 49, 49, 49, 49] } : ByteArray)) (.int .i64 a1)).run Try.prog W = .ok (.int .u8 c) W := by
    have hb' : a1 = 0 ∨ a1 = 1 ∨ a1 = 2 ∨ a1 = 3 ∨ a1 = 4 ∨ a1 = 5 := by omega
    rw [hc]
    clear hc h0 h5
    rcases hb' with rfl | rfl | rfl | rfl | rfl | rfl <;> (intro W; rfl)
  have HG := Aside0.mk (show (c == 49) = ltkref1_Fits.g 0 a1 by
    have hb' : a1 = 0 ∨ a1 = 1 ∨ a1 = 2 ∨ a1 = 3 ∨ a1 = 4 ∨ a1 = 5 := by omega
    rw [hc]
    clear hc h0 h5 hix
    rcases hb' with rfl | rfl | rfl | rfl | rfl | rfl <;> decide)
  clear hc
  go_enter Try.func40, Try.ntmps40
  go_wp2
  go_ret
  rw [HG.out]
  exact ⟨rfl, by repeat (first | exact Below.refl _ _ | apply below_alloc)⟩

set_option maxHeartbeats 8000000 in
set_option maxRecDepth 100000 in
theorem ltkref1_Fits.row1 (a1 : Int) (w : World) (h0 : 0 ≤ a1) (h5 : a1 ≤ 5) :
    Calls Try.prog 40 #[.int .i64 1, .int .i64 a1] w fun e w' => e = .returned (.bool (ltkref1_Fits.g 1 a1)) ∧ Below w.heap.size w w' := by
  have hu80 := Try.underlying66
  obtain ⟨c, hc⟩ : ∃ c : Int, c = (if a1 = 0 then 49 else if a1 = 1 then 49 else if a1 = 2 then 49 else if a1 = 3 then 49 else if a1 = 4 then 49 else 48) := ⟨_, rfl⟩
  have hix : ∀ W : World, (Instr.index 9 (.string ({ data := #[49, 49, 49, 49, 49, 48] } : ByteArray)) (.int .i64 a1)).run Try.prog W = .ok (.int .u8 c) W := by
    have hb' : a1 = 0 ∨ a1 = 1 ∨ a1 = 2 ∨ a1 = 3 ∨ a1 = 4 ∨ a1 = 5 := by omega
    rw [hc]
    clear hc h0 h5
    rcases hb' with rfl | rfl | rfl | rfl | rfl | rfl <;> (intro W; rfl)
  have HG := Aside0.mk (show (c == 49) = ltkref1_Fits.g 1 a1 by
    have hb' : a1 = 0 ∨ a1 = 1 ∨ a1 = 2 ∨ a1 = 3 ∨ a1 = 4 ∨ a1 = 5 := by omega
    rw [hc]
    clear hc h0 h5 hix
    rcases hb' with rfl | rfl | rfl | rfl | rfl | rfl <;> decide)
  clear hc
  go_enter Try.func40, Try.ntmps40
  go_wp2
  go_ret
  rw [HG.out]
  exact ⟨rfl, by repeat (first | exact Below.refl _ _ | apply below_alloc)⟩

set_option maxHeartbeats 8000000 in
set_option maxRecDepth 100000 in
theorem ltkref1_Fits.row2 (a1 : Int) (w : World) (h0 : 0 ≤ a1) (h5 : a1 ≤ 5) :
    Calls Try.prog 40 #[.int .i64 2, .int .i64 a1] w fun e w' => e = .returned (.bool (ltkref1_Fits.g 2 a1)) ∧ Below w.heap.size w w' := by
  have hu80 := Try.underlying66
  obtain ⟨c, hc⟩ : ∃ c : Int, c = (if a1 = 0 then 49 else if a1 = 1 then 49 else if a1 = 2 then 49 else if a1 = 3 then 48 else if a1 = 4 then 48 else 48) := ⟨_, rfl⟩
  have hix : ∀ W : World, (Instr.index 9 (.string ({ data := #[49, 49, 49, 48, 48, 48] } : ByteArray)) (.int .i64 a1)).run Try.prog W = .ok (.int .u8 c) W := by
    have hb' : a1 = 0 ∨ a1 = 1 ∨ a1 = 2 ∨ a1 = 3 ∨ a1 = 4 ∨ a1 = 5 := by omega
    rw [hc]
    clear hc h0 h5
    rcases hb' with rfl | rfl | rfl | rfl | rfl | rfl <;> (intro W; rfl)
  have HG := Aside0.mk (show (c == 49) = ltkref1_Fits.g 2 a1 by
    have hb' : a1 = 0 ∨ a1 = 1 ∨ a1 = 2 ∨ a1 = 3 ∨ a1 = 4 ∨ a1 = 5 := by omega
    rw [hc]
    clear hc h0 h5 hix
    rcases hb' with rfl | rfl | rfl | rfl | rfl | rfl <;> decide)
  clear hc
  go_enter Try.func40, Try.ntmps40
  go_wp2
  go_ret
  rw [HG.out]
  exact ⟨rfl, by repeat (first | exact Below.refl _ _ | apply below_alloc)⟩

set_option maxHeartbeats 8000000 in
set_option maxRecDepth 100000 in
theorem ltkref1_Fits.row3 (a1 : Int) (w : World) (h0 : 0 ≤ a1) (h5 : a1 ≤ 5) :
    Calls Try.prog 40 #[.int .i64 3, .int .i64 a1] w fun e w' => e = .returned (.bool (ltkref1_Fits.g 3 a1)) ∧ Below w.heap.size w w' := by
  have hu80 := Try.underlying66
  obtain ⟨c, hc⟩ : ∃ c : Int, c = (if a1 = 0 then 49 else if a1 = 1 then 49 else if a1 = 2 then 48 else if a1 = 3 then 49 else if a1 = 4 then 48 else 48) := ⟨_, rfl⟩
  have hix : ∀ W : World, (Instr.index 9 (.string ({ data := #[49, 49, 48, 49, 48, 48] } : ByteArray)) (.int .i64 a1)).run Try.prog W = .ok (.int .u8 c) W := by
    have hb' : a1 = 0 ∨ a1 = 1 ∨ a1 = 2 ∨ a1 = 3 ∨ a1 = 4 ∨ a1 = 5 := by omega
    rw [hc]
    clear hc h0 h5
    rcases hb' with rfl | rfl | rfl | rfl | rfl | rfl <;> (intro W; rfl)
  have HG := Aside0.mk (show (c == 49) = ltkref1_Fits.g 3 a1 by
    have hb' : a1 = 0 ∨ a1 = 1 ∨ a1 = 2 ∨ a1 = 3 ∨ a1 = 4 ∨ a1 = 5 := by omega
    rw [hc]
    clear hc h0 h5 hix
    rcases hb' with rfl | rfl | rfl | rfl | rfl | rfl <;> decide)
  clear hc
  go_enter Try.func40, Try.ntmps40
  go_wp2
  go_ret
  rw [HG.out]
  exact ⟨rfl, by repeat (first | exact Below.refl _ _ | apply below_alloc)⟩

set_option maxHeartbeats 8000000 in
set_option maxRecDepth 100000 in
theorem ltkref1_Fits.row4 (a1 : Int) (w : World) (h0 : 0 ≤ a1) (h5 : a1 ≤ 5) :
    Calls Try.prog 40 #[.int .i64 4, .int .i64 a1] w fun e w' => e = .returned (.bool (ltkref1_Fits.g 4 a1)) ∧ Below w.heap.size w w' := by
  have hu80 := Try.underlying66
  obtain ⟨c, hc⟩ : ∃ c : Int, c = (if a1 = 0 then 49 else if a1 = 1 then 49 else if a1 = 2 then 48 else if a1 = 3 then 48 else if a1 = 4 then 48 else 48) := ⟨_, rfl⟩
  have hix : ∀ W : World, (Instr.index 9 (.string ({ data := #[49, 49, 48, 48, 48, 48] } : ByteArray)) (.int .i64 a1)).run Try.prog W = .ok (.int .u8 c) W := by
    have hb' : a1 = 0 ∨ a1 = 1 ∨ a1 = 2 ∨ a1 = 3 ∨ a1 = 4 ∨ a1 = 5 := by omega
    rw [hc]
    clear hc h0 h5
    rcases hb' with rfl | rfl | rfl | rfl | rfl | rfl <;> (intro W; rfl)
  have HG := Aside0.mk (show (c == 49) = ltkref1_Fits.g 4 a1 by
    have hb' : a1 = 0 ∨ a1 = 1 ∨ a1 = 2 ∨ a1 = 3 ∨ a1 = 4 ∨ a1 = 5 := by omega
    rw [hc]
    clear hc h0 h5 hix
    rcases hb' with rfl | rfl | rfl | rfl | rfl | rfl <;> decide)
  clear hc
  go_enter Try.func40, Try.ntmps40
  go_wp2
  go_ret
  rw [HG.out]
  exact ⟨rfl, by repeat (first | exact Below.refl _ _ | apply below_alloc)⟩

set_option maxHeartbeats 8000000 in
set_option maxRecDepth 100000 in
theorem ltkref1_Fits.row5 (a1 : Int) (w : World) (h0 : 0 ≤ a1) (h5 : a1 ≤ 5) :
    Calls Try.prog 40 #[.int .i64 5, .int .i64 a1] w fun e w' => e = .returned (.bool (ltkref1_Fits.g 5 a1)) ∧ Below w.heap.size w w' := by
  have hu80 := Try.underlying66
  obtain ⟨c, hc⟩ : ∃ c : Int, c = (if a1 = 0 then 49 else if a1 = 1 then 48 else if a1 = 2 then 48 else if a1 = 3 then 48 else if a1 = 4 then 48 else 48) := ⟨_, rfl⟩
  have hix : ∀ W : World, (Instr.index 9 (.string ({ data := #[49, 48, 48, 48, 48, 48] } : ByteArray)) (.int .i64 a1)).run Try.prog W = .ok (.int .u8 c) W := by
    have hb' : a1 = 0 ∨ a1 = 1 ∨ a1 = 2 ∨ a1 = 3 ∨ a1 = 4 ∨ a1 = 5 := by omega
    rw [hc]
    clear hc h0 h5
    rcases hb' with rfl | rfl | rfl | rfl | rfl | rfl <;> (intro W; rfl)
  have HG := Aside0.mk (show (c == 49) = ltkref1_Fits.g 5 a1 by
    have hb' : a1 = 0 ∨ a1 = 1 ∨ a1 = 2 ∨ a1 = 3 ∨ a1 = 4 ∨ a1 = 5 := by omega
    rw [hc]
    clear hc h0 h5 hix
    rcases hb' with rfl | rfl | rfl | rfl | rfl | rfl <;> decide)
  clear hc
  go_enter Try.func40, Try.ntmps40
  go_wp2
  go_ret
  rw [HG.out]
  exact ⟨rfl, by repeat (first | exact Below.refl _ _ | apply below_alloc)⟩

set_option maxHeartbeats 8000000 in
set_option maxRecDepth 100000 in
theorem ltkref1_Fits.calls (a0 a1 : Int) (r : Bool) (w : World) (h : ltkref1_Fits.f a0 a1 = some r) :
    Calls Try.prog 40 #[.int .i64 a0, .int .i64 a1] w fun e w' => e = .returned (.bool r) ∧ Below w.heap.size w w' := by
  obtain rfl := Option.some.inj h
  clear h
  by_cases ha : 0 ≤ a0 ∧ a0 ≤ 5
  · by_cases hb : 0 ≤ a1 ∧ a1 ≤ 5
    · have e : (decide (0 ≤ a0 ∧ a0 ≤ 5) && decide (0 ≤ a1 ∧ a1 ≤ 5) && ltkref1_Fits.g a0 a1) = ltkref1_Fits.g a0 a1 := by
        rw [decide_eq_true ha, decide_eq_true hb]; rfl
      rw [e]
      have ha' : a0 = 0 ∨ a0 = 1 ∨ a0 = 2 ∨ a0 = 3 ∨ a0 = 4 ∨ a0 = 5 := by omega
      rcases ha' with rfl | rfl | rfl | rfl | rfl | rfl
      · exact ltkref1_Fits.row0 a1 w hb.1 hb.2
      · exact ltkref1_Fits.row1 a1 w hb.1 hb.2
      · exact ltkref1_Fits.row2 a1 w hb.1 hb.2
      · exact ltkref1_Fits.row3 a1 w hb.1 hb.2
      · exact ltkref1_Fits.row4 a1 w hb.1 hb.2
      · exact ltkref1_Fits.row5 a1 w hb.1 hb.2
    · have hbb : (decide (0 ≤ a0 ∧ a0 ≤ 5) && decide (0 ≤ a1 ∧ a1 ≤ 5) && ltkref1_Fits.g a0 a1) = false := by
        rw [decide_eq_false hb]; simp
      rw [hbb]
      clear hbb
      by_cases h1 : 0 ≤ a1
      · have h2 : ¬ a1 ≤ 5 := by omega
        obtain ⟨h3, h4⟩ := ha
        clear hb
        go_enter Try.func40, Try.ntmps40
        go_wp2
        go_ret
        exact ⟨rfl, by repeat (first | exact Below.refl _ _ | apply below_alloc)⟩
      · obtain ⟨h3, h4⟩ := ha
        clear hb
        go_enter Try.func40, Try.ntmps40
        go_wp2
        go_ret
        exact ⟨rfl, by repeat (first | exact Below.refl _ _ | apply below_alloc)⟩
  · have hbb : (decide (0 ≤ a0 ∧ a0 ≤ 5) && decide (0 ≤ a1 ∧ a1 ≤ 5) && ltkref1_Fits.g a0 a1) = false := by
      rw [decide_eq_false ha]; simp
    rw [hbb]
    clear hbb
    by_cases h1 : 0 ≤ a0
    · have h2 : ¬ a0 ≤ 5 := by omega
      clear ha
      go_enter Try.func40, Try.ntmps40
      go_wp2
      go_ret
      exact ⟨rfl, by repeat (first | exact Below.refl _ _ | apply below_alloc)⟩
    · clear ha
      go_enter Try.func40, Try.ntmps40
      go_wp2
      go_ret
      exact ⟨rfl, by repeat (first | exact Below.refl _ _ | apply below_alloc)⟩

-- NOT PRINTED: function 31 (ltkref8_Lane_fits)

-- NOT PRINTED: function 32 (ltkref8_Lane_put)

-- NOT PRINTED: function 7 (ltkref8_Lane_Ask)

-- NOT PRINTED: function 9 (lane_Lane_Leave)

/-! ### ltkref8_without: function 35 -/
def ltkref8_without.l0 : Nat → List (S50) → Int → List (S50) → Int → Option ((List (S50)))
  | 0, _, _, _, _ => none
  | k + 1, x0, x1, x5, x6 => if x6 < (x0.length : Int) then (if 0 ≤ x6 then (if ((rd_T50 x0 x6).f0) = x1 then (ltkref8_without.l0 k x0 x1 x5 (wrap64 (x6 + 1))) else (if x5.length < 8796093022208 then (ltkref8_without.l0 k x0 x1 (x5 ++ [(⟨(rd_T50 x0 x6).f0, (rd_T50 x0 x6).f1⟩ : S50)]) (wrap64 (x6 + 1))) else (none))) else (none)) else (some x5)
def ltkref8_without.f (k : Nat) (l0 : List (S50)) (a1 : Int) : Option ((List (S50))) := ltkref8_without.l0 k l0 a1 ([] : List (S50)) 0
theorem ltkref8_without.mono_l : ∀ k, (∀ y0 y1 y2 y3, LeO (ltkref8_without.l0 k y0 y1 y2 y3) (ltkref8_without.l0 (k + 1) y0 y1 y2 y3))
  | 0 => fun _ _ _ _ r h => by simp [ltkref8_without.l0] at h
  | k + 1 => by
    have ih0 := ltkref8_without.mono_l k
    · intro y0 y1 y2 y3
      unfold ltkref8_without.l0
      repeat' first
      | (with_reducible exact ih0 _ _ _ _)
      | (with_reducible exact LeO.refl _)
      | (with_reducible exact LeO.none _)
      | (with_reducible refine LeO.ite ?_ ?_)
      | (with_reducible refine LeO.bind ?_ (fun _ => ?_))
      | exact ih0 _ _ _ _
      | exact LeO.none _
      | refine LeO.ite ?_ ?_
      | refine LeO.bind ?_ (fun _ => ?_)
theorem ltkref8_without.mono : ∀ a0 a1 k, LeO (ltkref8_without.f k a0 a1) (ltkref8_without.f (k + 1) a0 a1) := by
  intro a0 a1 k
  have ih0 := ltkref8_without.mono_l k
  unfold ltkref8_without.f
  repeat' first
      | (with_reducible exact ih0 _ _ _ _)
      | (with_reducible exact LeO.refl _)
      | (with_reducible exact LeO.none _)
      | (with_reducible refine LeO.ite ?_ ?_)
      | (with_reducible refine LeO.bind ?_ (fun _ => ?_))
      | exact ih0 _ _ _ _
      | exact LeO.none _
      | refine LeO.ite ?_ ?_
      | refine LeO.bind ?_ (fun _ => ?_)
set_option maxHeartbeats 8000000 in
set_option maxRecDepth 100000 in
theorem ltkref8_without.calls (k : Nat) (A0 : Option Addr) (c0 : Nat) (l0 : List (S50)) (a1 : Int) (r : List (S50)) (w : World) (hr0 : Kd.C k50 w A0 l0.length l0) (hc0 : l0.length ≤ c0) (h : ltkref8_without.f k l0 a1 = some r) :
    Calls Try.prog 35 #[.slice A0 l0.length c0, .int .i64 a1] w fun e w' => ∃ v0_ : Value, e = .returned (v0_) ∧ Kd.R k50 50 w' w.heap.size (fun _ => True) v0_ r ∧ Below w.heap.size w w' := by
  have hu50 := Try.underlying50
  have HR0 := Aside0.mk hr0
  have HC0 := Aside0.mk hc0
  clear hr0 hc0
  have HB := Aside0.mk (Below.refl w.heap.size w)
  have H : (ltkref8_without.l0 k l0 a1 ([] : List (S50)) 0) = some r := h
  clear h
  have H' := Aside0.mk H
  clear H
  go_enter Try.func35, Try.ntmps35
  go_wp2
  go_loopg [5, 6] k (fun kq v5 v6 w' => ∃ (x5_1 : List (S50)) (x6_1 : Int), v6 = .int .i64 x6_1 ∧ Aside0 (ltkref8_without.l0 kq l0 a1 x5_1 x6_1 = some r) ∧ Aside0 (kq ≤ k) ∧ Aside0 (Kd.R k50 50 w' w.heap.size (fun _ => True) v5 x5_1) ∧ Aside0 (Below w.heap.size w w'))
  case atStart => exact ⟨(([] : List (S50))), (0), (by first | rfl | (simp; done) | (simp [*]; done)), H', ⟨Nat.le_refl _⟩, ⟨by first | exact Kd.R_nil _ _ _ _ _ | exact Kd.N_nil _ _ _ _ _ | exact Kd.V_nil _ _ _ _ _ | exact Kd.Q_nil _ _ _ _ _ | exact Kd.S_nil _ _ _ _ _⟩, ⟨by repeat (first | (with_reducible first | exact HB.out | apply below_alloc | apply pw_below_drewN | apply below_drew1) | exact HB.out)⟩⟩
  case round =>
    clear H'
    try clear p2
    obtain ⟨x5_1, x6_1, rfl, HA, HK1, HO_5, HB⟩ := hrel
    cases gk with
    | zero => exact absurd HA.out (by simp [ltkref8_without.l0])
    | succ k1 =>
      have H := HA.out
      clear HA
      simp only [ltkref8_without.l0] at H
      by_cases c3 : x6_1 < (l0.length : Int)
      · rw [if_pos c3] at H
        have c3b0 : decide (x6_1 < (l0.length : Int)) = true := decide_eq_true c3
        clear c3
        by_cases c4 : 0 ≤ x6_1
        · rw [if_pos c4] at H
          have c4b0 : decide (0 ≤ x6_1) = true := decide_eq_true c4
          clear c4
          by_cases c5 : ((rd_T50 l0 x6_1).f0) = a1
          · rw [if_pos c5] at H
            have c5b0 : (((rd_T50 l0 x6_1).f0) == a1) = true := beq_iff_eq.mpr c5
            have c5b1 : (((rd_T50 l0 x6_1).f0) != a1) = false := bne_eq_false_iff_eq.mpr c5
            clear c5
            have H' := Aside0.mk H
            clear H
            have p135 : 0 ≤ (x6_1 : Int) := of_decide_eq_true (by first | (with_reducible assumption) | assumption)
            have q135 : x6_1 < (l0.length : Int) := of_decide_eq_true (by first | (with_reducible assumption) | assumption)
            obtain ⟨ad135, e135, hx135_0, hx135_1⟩ := at_T50 HR0.out x6_1 p135 q135
            cases e135
            replace hx135_0 := (HB.out.cell (World.block_lt_of_cell? w _ hx135_0)).trans hx135_0
            replace hx135_1 := (HB.out.cell (World.block_lt_of_cell? w _ hx135_1)).trans hx135_1
            replace p135 := eq_true p135
            replace q135 := eq_true q135
            go_wp2
            go_roundg k1
            case measure => have := HK1.out; omega
            case rel => exact ⟨(x5_1), (wrap64 (x6_1 + 1)), (by first | rfl | (simp; done) | (simp [*]; done)), H', ⟨by have := HK1.out; omega⟩, ⟨by (with_reducible repeat (first | apply Kd.R_alloc | apply Kd.R_drewN | apply Kd.R_drew)); exact HO_5.out⟩, ⟨by repeat (first | (with_reducible first | exact HB.out | apply below_alloc | apply pw_below_drewN | apply below_drew1) | exact HB.out)⟩⟩
          · rw [if_neg c5] at H
            have c5b0 : (((rd_T50 l0 x6_1).f0) == a1) = false := beq_eq_false_iff_ne.mpr c5
            have c5b1 : (((rd_T50 l0 x6_1).f0) != a1) = true := bne_iff_ne.mpr c5
            by_cases c6 : x5_1.length < 8796093022208
            · rw [if_pos c6] at H
              have LMc6 := Aside0.mk c6
              clear c6
              obtain ⟨y137, hy137⟩ : ∃ y_ : List (S50), y_ = (x5_1 ++ [(⟨(rd_T50 l0 x6_1).f0, (rd_T50 l0 x6_1).f1⟩ : S50)]) := ⟨_, rfl⟩
              replace H : (ltkref8_without.l0 k1 l0 a1 y137 (wrap64 (x6_1 + 1))) = some r := by first | (rw [hy137]; with_reducible exact H) | (have H2_ := (Option.bind_some _ _).symm.trans H; rw [hy137]; with_reducible exact H2_) | (have H2_ := (Option.bind_some _ _).symm.trans H; with_reducible exact H2_) | with_reducible exact H | (rw [hy137]; exact H) | exact H
              have Ny137 := Aside0.mk hy137
              clear hy137
              have H' := Aside0.mk H
              clear H
              have p135 : 0 ≤ (x6_1 : Int) := of_decide_eq_true (by first | (with_reducible assumption) | assumption)
              have q135 : x6_1 < (l0.length : Int) := of_decide_eq_true (by first | (with_reducible assumption) | assumption)
              obtain ⟨ad135, e135, hx135_0, hx135_1⟩ := at_T50 HR0.out x6_1 p135 q135
              cases e135
              replace hx135_0 := (HB.out.cell (World.block_lt_of_cell? w _ hx135_0)).trans hx135_0
              replace hx135_1 := (HB.out.cell (World.block_lt_of_cell? w _ hx135_1)).trans hx135_1
              replace p135 := eq_true p135
              replace q135 := eq_true q135
              have p136 : 0 ≤ (x6_1 : Int) := of_decide_eq_true (by first | (with_reducible assumption) | assumption)
              have q136 : x6_1 < (l0.length : Int) := of_decide_eq_true (by first | (with_reducible assumption) | assumption)
              obtain ⟨ad136, e136, hx136_0, hx136_1⟩ := at_T50 HR0.out x6_1 p136 q136
              obtain rfl : ad135 = ad136 := (by injection e136)
              replace hx136_0 := (HB.out.cell (World.block_lt_of_cell? w _ hx136_0)).trans hx136_0
              replace hx136_1 := (HB.out.cell (World.block_lt_of_cell? w _ hx136_1)).trans hx136_1
              replace p136 := eq_true p136
              replace q136 := eq_true q136
              go_wp2_with (first | ((with_reducible refine gate_builtin (b := .append) (xs := #[.tmp 20, .tmp 25]) rfl ?_); at_builtin; refine Kd.R_append k50 (w0 := w) w.heap.size rfl (.tmp 20) (.tmp 25) 27 50 (.agg #[(.int .i64 0), (.int .i64 0)]) 16 rfl Try.underlying27 info50 rfl (by decide) (by omega) u5 x5_1 (⟨(rd_T50 l0 x6_1).f0, (rd_T50 l0 x6_1).f1⟩ : S50) [.int .i64 ((rd_T50 l0 x6_1).f0), .int .i64 ((rd_T50 l0 x6_1).f1)] (fun _ => True) (fun _ => False) rfl rfl ?aP (fun _ hk => hk.elim) ?aF ?aO ?aB ?aS ?aL ?_; (case aP => exact k50_mkM _ _ _ (⟨(rd_T50 l0 x6_1).f0, (rd_T50 l0 x6_1).f1⟩ : S50)); (case aB => exact (by repeat (first | (with_reducible first | exact HB.out | apply below_alloc | apply pw_below_drewN | apply below_drew1) | exact HB.out))); (case aF => exact (fun _ _ => trivial)); (case aO => exact (by (with_reducible repeat (first | apply Kd.R_alloc | apply Kd.R_drewN | apply Kd.R_drew)); exact HO_5.out)); (case aS => exact (below_size (by repeat (first | (with_reducible first | exact HB.out | apply below_alloc | apply pw_below_drewN | apply below_drew1) | exact HB.out)))); (case aL => have := LMc6.out; omega); intro v138 w7 ho hb hg hat; rw [← Ny137.out] at ho; have n0_ := Aside0.mk (hb); have n1_ := Aside0.mk (ho); clear HB; clear HO_5; have HB := n0_; have HO139 := n1_; clear n0_ n1_; clear ho hb hg hat))
              go_roundg k1
              case measure => have := HK1.out; omega
              case rel => exact ⟨(y137), (wrap64 (x6_1 + 1)), (by first | rfl | (simp; done) | (simp [*]; done)), H', ⟨by have := HK1.out; omega⟩, ⟨by (with_reducible repeat (first | apply Kd.R_alloc | apply Kd.R_drewN | apply Kd.R_drew)); exact HO139.out⟩, ⟨by repeat (first | (with_reducible first | exact HB.out | apply below_alloc | apply pw_below_drewN | apply below_drew1) | exact HB.out)⟩⟩
            · rw [if_neg c6] at H
              exact absurd H (by simp)
        · rw [if_neg c4] at H
          exact absurd H (by simp)
      · rw [if_neg c3] at H
        have c3b0 : decide (x6_1 < (l0.length : Int)) = false := decide_eq_false c3
        clear c3
        obtain rfl := Option.some.inj H
        go_wp2
        go_ret
        exact ⟨_, by first | rfl | (simp [errW_none, errW_some] <;> rfl) | (simp [*, errW_none, errW_some] <;> rfl), by (with_reducible repeat (first | apply Kd.R_alloc | apply Kd.R_drewN | apply Kd.R_drew)); exact HO_5.out, by repeat (first | (with_reducible first | exact HB.out | apply below_alloc | apply pw_below_drewN | apply below_drew1) | exact HB.out)⟩

-- NOT PRINTED: function 10 (ltkref8_Lane_Leave)

-- NOT PRINTED: function 13 (lane_Lane_Waits)

/-! ### ltkref_Has: function 55 -/
def ltkref_Has.l0 : Nat → List Int → Int → Int → Option (Bool)
  | 0, _, _, _ => none
  | k + 1, x0, x1, x5 => if x5 < (x0.length : Int) then (if 0 ≤ x5 then (if (rd x0 x5) = x1 then (some true) else (ltkref_Has.l0 k x0 x1 (wrap64 (x5 + 1)))) else (none)) else (some false)
def ltkref_Has.f (k : Nat) (l0 : List Int) (a1 : Int) : Option (Bool) := ltkref_Has.l0 k l0 a1 0
theorem ltkref_Has.mono_l : ∀ k, (∀ y0 y1 y2, LeO (ltkref_Has.l0 k y0 y1 y2) (ltkref_Has.l0 (k + 1) y0 y1 y2))
  | 0 => fun _ _ _ r h => by simp [ltkref_Has.l0] at h
  | k + 1 => by
    have ih0 := ltkref_Has.mono_l k
    · intro y0 y1 y2
      unfold ltkref_Has.l0
      repeat' first
      | (with_reducible exact ih0 _ _ _)
      | (with_reducible exact LeO.refl _)
      | (with_reducible exact LeO.none _)
      | (with_reducible refine LeO.ite ?_ ?_)
      | (with_reducible refine LeO.bind ?_ (fun _ => ?_))
      | exact ih0 _ _ _
      | exact LeO.none _
      | refine LeO.ite ?_ ?_
      | refine LeO.bind ?_ (fun _ => ?_)
theorem ltkref_Has.mono : ∀ a0 a1 k, LeO (ltkref_Has.f k a0 a1) (ltkref_Has.f (k + 1) a0 a1) := by
  intro a0 a1 k
  have ih0 := ltkref_Has.mono_l k
  unfold ltkref_Has.f
  repeat' first
      | (with_reducible exact ih0 _ _ _)
      | (with_reducible exact LeO.refl _)
      | (with_reducible exact LeO.none _)
      | (with_reducible refine LeO.ite ?_ ?_)
      | (with_reducible refine LeO.bind ?_ (fun _ => ?_))
      | exact ih0 _ _ _
      | exact LeO.none _
      | refine LeO.ite ?_ ?_
      | refine LeO.bind ?_ (fun _ => ?_)
set_option maxHeartbeats 8000000 in
set_option maxRecDepth 100000 in
theorem ltkref_Has.calls (k : Nat) (A0 : Option Addr) (c0 : Nat) (l0 : List Int) (a1 : Int) (r : Bool) (w : World) (hr0 : Kd.C (Kd.int .i64) w A0 l0.length l0) (hc0 : l0.length ≤ c0) (h : ltkref_Has.f k l0 a1 = some r) :
    Calls Try.prog 55 #[.slice A0 l0.length c0, .int .i64 a1] w fun e w' => e = .returned (.bool r) ∧ Drawn0 w w' := by
  have HR0 := Aside0.mk hr0
  have HC0 := Aside0.mk hc0
  clear hr0 hc0
  have H : (ltkref_Has.l0 k l0 a1 0) = some r := h
  clear h
  have H' := Aside0.mk H
  clear H
  go_enter Try.func55, Try.ntmps55
  go_wp2
  go_loopg [5] k (fun kq v5 w' => ∃ (x5_1 : Int), v5 = .int .i64 x5_1 ∧ Aside0 (ltkref_Has.l0 kq l0 a1 x5_1 = some r) ∧ Aside0 (kq ≤ k) ∧ Drawn0 w w')
  case atStart => exact ⟨(0), (by first | rfl | (simp; done) | (simp [*]; done)), H', ⟨Nat.le_refl _⟩, by repeat (first | exact Drawn0.refl _ | apply Drawn0.step)⟩
  case round =>
    clear H'
    try clear p2
    obtain ⟨x5_1, rfl, HA, HK1, ⟨m1, rfl⟩⟩ := hrel
    cases gk with
    | zero => exact absurd HA.out (by simp [ltkref_Has.l0])
    | succ k1 =>
      have H := HA.out
      clear HA
      simp only [ltkref_Has.l0] at H
      by_cases c3 : x5_1 < (l0.length : Int)
      · rw [if_pos c3] at H
        have c3b0 : decide (x5_1 < (l0.length : Int)) = true := decide_eq_true c3
        clear c3
        by_cases c4 : 0 ≤ x5_1
        · rw [if_pos c4] at H
          have c4b0 : decide (0 ≤ x5_1) = true := decide_eq_true c4
          clear c4
          by_cases c5 : (rd l0 x5_1) = a1
          · rw [if_pos c5] at H
            have c5b0 : ((rd l0 x5_1) == a1) = true := beq_iff_eq.mpr c5
            have c5b1 : ((rd l0 x5_1) != a1) = false := bne_eq_false_iff_eq.mpr c5
            clear c5
            obtain rfl := Option.some.inj H
            have p146 : 0 ≤ (x5_1 : Int) := of_decide_eq_true (by first | (with_reducible assumption) | assumption)
            have q146 : x5_1 < (l0.length : Int) := of_decide_eq_true (by first | (with_reducible assumption) | assumption)
            obtain ⟨ad146, e146, hx146_0⟩ := Kd.at_int HR0.out x5_1 p146 q146
            cases e146
            replace p146 := eq_true p146
            replace q146 := eq_true q146
            go_wp2
            go_ret
            exact ⟨by first | rfl | (simp; done) | (simp [*]; done), by repeat (first | exact Drawn0.refl _ | apply Drawn0.step)⟩
          · rw [if_neg c5] at H
            have c5b0 : ((rd l0 x5_1) == a1) = false := beq_eq_false_iff_ne.mpr c5
            have c5b1 : ((rd l0 x5_1) != a1) = true := bne_iff_ne.mpr c5
            have H' := Aside0.mk H
            clear H
            have p146 : 0 ≤ (x5_1 : Int) := of_decide_eq_true (by first | (with_reducible assumption) | assumption)
            have q146 : x5_1 < (l0.length : Int) := of_decide_eq_true (by first | (with_reducible assumption) | assumption)
            obtain ⟨ad146, e146, hx146_0⟩ := Kd.at_int HR0.out x5_1 p146 q146
            cases e146
            replace p146 := eq_true p146
            replace q146 := eq_true q146
            go_wp2
            go_roundg k1
            case measure => have := HK1.out; omega
            case rel => exact ⟨(wrap64 (x5_1 + 1)), (by first | rfl | (simp; done) | (simp [*]; done)), H', ⟨by have := HK1.out; omega⟩, by repeat (first | exact Drawn0.refl _ | apply Drawn0.step)⟩
        · rw [if_neg c4] at H
          exact absurd H (by simp)
      · rw [if_neg c3] at H
        have c3b0 : decide (x5_1 < (l0.length : Int)) = false := decide_eq_false c3
        clear c3
        obtain rfl := Option.some.inj H
        go_wp2
        go_ret
        exact ⟨by first | rfl | (simp; done) | (simp [*]; done), by repeat (first | exact Drawn0.refl _ | apply Drawn0.step)⟩

-- NOT PRINTED: function 41 (ltkref_Sorted)

-- NOT PRINTED: function 16 (ltkref8_Lane_Blocks)

/-! ### ltkref8_SameEntries: function 17 -/
def ltkref8_SameEntries.l0 : Nat → List (S50) → List (S50) → Int → Option (Bool)
  | 0, _, _, _ => none
  | k + 1, x0, x1, x5 => if x5 < (x0.length : Int) then (if 0 ≤ x5 then (if x5 < (x1.length : Int) then (if (!(((rd_T50 x0 x5).f0) == ((rd_T50 x1 x5).f0)) || (!(((rd_T50 x0 x5).f1) == ((rd_T50 x1 x5).f1)))) = true then (some false) else (ltkref8_SameEntries.l0 k x0 x1 (wrap64 (x5 + 1)))) else (none)) else (none)) else (some true)
def ltkref8_SameEntries.f (k : Nat) (l0 : List (S50)) (l1 : List (S50)) : Option (Bool) := if (l0.length : Int) = (l1.length : Int) then (ltkref8_SameEntries.l0 k l0 l1 0) else (some false)
theorem ltkref8_SameEntries.mono_l : ∀ k, (∀ y0 y1 y2, LeO (ltkref8_SameEntries.l0 k y0 y1 y2) (ltkref8_SameEntries.l0 (k + 1) y0 y1 y2))
  | 0 => fun _ _ _ r h => by simp [ltkref8_SameEntries.l0] at h
  | k + 1 => by
    have ih0 := ltkref8_SameEntries.mono_l k
    · intro y0 y1 y2
      unfold ltkref8_SameEntries.l0
      repeat' first
      | (with_reducible exact ih0 _ _ _)
      | (with_reducible exact LeO.refl _)
      | (with_reducible exact LeO.none _)
      | (with_reducible refine LeO.ite ?_ ?_)
      | (with_reducible refine LeO.bind ?_ (fun _ => ?_))
      | exact ih0 _ _ _
      | exact LeO.none _
      | refine LeO.ite ?_ ?_
      | refine LeO.bind ?_ (fun _ => ?_)
theorem ltkref8_SameEntries.mono : ∀ a0 a1 k, LeO (ltkref8_SameEntries.f k a0 a1) (ltkref8_SameEntries.f (k + 1) a0 a1) := by
  intro a0 a1 k
  have ih0 := ltkref8_SameEntries.mono_l k
  unfold ltkref8_SameEntries.f
  repeat' first
      | (with_reducible exact ih0 _ _ _)
      | (with_reducible exact LeO.refl _)
      | (with_reducible exact LeO.none _)
      | (with_reducible refine LeO.ite ?_ ?_)
      | (with_reducible refine LeO.bind ?_ (fun _ => ?_))
      | exact ih0 _ _ _
      | exact LeO.none _
      | refine LeO.ite ?_ ?_
      | refine LeO.bind ?_ (fun _ => ?_)
set_option maxHeartbeats 8000000 in
set_option maxRecDepth 100000 in
theorem ltkref8_SameEntries.calls (k : Nat) (A0 : Option Addr) (c0 : Nat) (l0 : List (S50)) (A1 : Option Addr) (c1 : Nat) (l1 : List (S50)) (r : Bool) (w : World) (hr0 : Kd.C k50 w A0 l0.length l0) (hc0 : l0.length ≤ c0) (hr1 : Kd.C k50 w A1 l1.length l1) (hc1 : l1.length ≤ c1) (h : ltkref8_SameEntries.f k l0 l1 = some r) :
    Calls Try.prog 17 #[.slice A0 l0.length c0, .slice A1 l1.length c1] w fun e w' => e = .returned (.bool r) ∧ Drawn0 w w' := by
  have hu50 := Try.underlying50
  have HR0 := Aside0.mk hr0
  have HC0 := Aside0.mk hc0
  clear hr0 hc0
  have HR1 := Aside0.mk hr1
  have HC1 := Aside0.mk hc1
  clear hr1 hc1
  have H : (if (l0.length : Int) = (l1.length : Int) then (ltkref8_SameEntries.l0 k l0 l1 0) else (some false)) = some r := h
  clear h
  by_cases c3 : (l0.length : Int) = (l1.length : Int)
  · rw [if_pos c3] at H
    have c3b0 : ((l0.length : Int) == (l1.length : Int)) = true := beq_iff_eq.mpr c3
    have c3b1 : ((l0.length : Int) != (l1.length : Int)) = false := bne_eq_false_iff_eq.mpr c3
    have c3b2 : (l0.length == l1.length) = true := by first | simpa using c3 | (simp at c3 ⊢; omega)
    clear c3
    have H' := Aside0.mk H
    clear H
    go_enter Try.func17, Try.ntmps17
    go_wp2
    repeat (go_quiet (fail); try go_wp2)
    go_loopg [5] k (fun kq v5 w' => ∃ (x5_1 : Int), v5 = .int .i64 x5_1 ∧ Aside0 (ltkref8_SameEntries.l0 kq l0 l1 x5_1 = some r) ∧ Aside0 (kq ≤ k) ∧ Drawn0 w w')
    case atStart => exact ⟨(0), (by first | rfl | (simp; done) | (simp [*]; done)), H', ⟨Nat.le_refl _⟩, by repeat (first | exact Drawn0.refl _ | apply Drawn0.step)⟩
    case round =>
      clear H'
      try clear c1
      try clear p2
      try clear c3
      try clear c3b0
      try clear c3b1
      try clear c3b2
      obtain ⟨x5_1, rfl, HA, HK1, ⟨m1, rfl⟩⟩ := hrel
      cases gk with
      | zero => exact absurd HA.out (by simp [ltkref8_SameEntries.l0])
      | succ k1 =>
        have H := HA.out
        clear HA
        simp only [ltkref8_SameEntries.l0] at H
        by_cases c4 : x5_1 < (l0.length : Int)
        · rw [if_pos c4] at H
          have c4b0 : decide (x5_1 < (l0.length : Int)) = true := decide_eq_true c4
          clear c4
          by_cases c5 : 0 ≤ x5_1
          · rw [if_pos c5] at H
            have c5b0 : decide (0 ≤ x5_1) = true := decide_eq_true c5
            clear c5
            by_cases c6 : x5_1 < (l1.length : Int)
            · rw [if_pos c6] at H
              have c6b0 : decide (x5_1 < (l1.length : Int)) = true := decide_eq_true c6
              clear c6
              by_cases c7 : (!(((rd_T50 l0 x5_1).f0) == ((rd_T50 l1 x5_1).f0)) || (!(((rd_T50 l0 x5_1).f1) == ((rd_T50 l1 x5_1).f1)))) = true
              · rw [if_pos c7] at H
                have c7b0 : (!(((rd_T50 l0 x5_1).f0) == ((rd_T50 l1 x5_1).f0)) || (!(((rd_T50 l0 x5_1).f1) == ((rd_T50 l1 x5_1).f1)))) = true := c7
                clear c7
                obtain rfl := Option.some.inj H
                have p199 : 0 ≤ (x5_1 : Int) := of_decide_eq_true (by first | (with_reducible assumption) | assumption)
                have q199 : x5_1 < (l0.length : Int) := of_decide_eq_true (by first | (with_reducible assumption) | assumption)
                obtain ⟨ad199, e199, hx199_0, hx199_1⟩ := at_T50 HR0.out x5_1 p199 q199
                cases e199
                replace p199 := eq_true p199
                replace q199 := eq_true q199
                have p200 : 0 ≤ (x5_1 : Int) := of_decide_eq_true (by first | (with_reducible assumption) | assumption)
                have q200 : x5_1 < (l1.length : Int) := of_decide_eq_true (by first | (with_reducible assumption) | assumption)
                obtain ⟨ad200, e200, hx200_0, hx200_1⟩ := at_T50 HR1.out x5_1 p200 q200
                cases e200
                replace p200 := eq_true p200
                replace q200 := eq_true q200
                go_wp2
                repeat (go_quiet (fail); try go_wp2)
                go_ret
                exact ⟨by first | rfl | (simp; done) | (simp [*]; done), by repeat (first | exact Drawn0.refl _ | apply Drawn0.step)⟩
              · rw [if_neg c7] at H
                have c7b0 : (!(((rd_T50 l0 x5_1).f0) == ((rd_T50 l1 x5_1).f0)) || (!(((rd_T50 l0 x5_1).f1) == ((rd_T50 l1 x5_1).f1)))) = false := by simpa using c7
                clear c7
                have H' := Aside0.mk H
                clear H
                have p199 : 0 ≤ (x5_1 : Int) := of_decide_eq_true (by first | (with_reducible assumption) | assumption)
                have q199 : x5_1 < (l0.length : Int) := of_decide_eq_true (by first | (with_reducible assumption) | assumption)
                obtain ⟨ad199, e199, hx199_0, hx199_1⟩ := at_T50 HR0.out x5_1 p199 q199
                cases e199
                replace p199 := eq_true p199
                replace q199 := eq_true q199
                have p200 : 0 ≤ (x5_1 : Int) := of_decide_eq_true (by first | (with_reducible assumption) | assumption)
                have q200 : x5_1 < (l1.length : Int) := of_decide_eq_true (by first | (with_reducible assumption) | assumption)
                obtain ⟨ad200, e200, hx200_0, hx200_1⟩ := at_T50 HR1.out x5_1 p200 q200
                cases e200
                replace p200 := eq_true p200
                replace q200 := eq_true q200
                go_wp2
                repeat (go_quiet (fail); try go_wp2)
                go_roundg k1
                case measure => have := HK1.out; omega
                case rel => exact ⟨(wrap64 (x5_1 + 1)), (by first | rfl | (simp; done) | (simp [*]; done)), H', ⟨by have := HK1.out; omega⟩, by repeat (first | exact Drawn0.refl _ | apply Drawn0.step)⟩
            · rw [if_neg c6] at H
              exact absurd H (by simp)
          · rw [if_neg c5] at H
            exact absurd H (by simp)
        · rw [if_neg c4] at H
          have c4b0 : decide (x5_1 < (l0.length : Int)) = false := decide_eq_false c4
          clear c4
          obtain rfl := Option.some.inj H
          go_wp2
          repeat (go_quiet (fail); try go_wp2)
          go_ret
          exact ⟨by first | rfl | (simp; done) | (simp [*]; done), by repeat (first | exact Drawn0.refl _ | apply Drawn0.step)⟩
  · rw [if_neg c3] at H
    have c3b0 : ((l0.length : Int) == (l1.length : Int)) = false := beq_eq_false_iff_ne.mpr c3
    have c3b1 : ((l0.length : Int) != (l1.length : Int)) = true := bne_iff_ne.mpr c3
    have c3b2 : (l0.length == l1.length) = false := by first | simpa using c3 | (simp at c3 ⊢; omega)
    obtain rfl := Option.some.inj H
    go_enter Try.func17, Try.ntmps17
    go_wp2
    repeat (go_quiet (fail); try go_wp2)
    go_ret
    exact ⟨by first | rfl | (simp; done) | (simp [*]; done), by repeat (first | exact Drawn0.refl _ | apply Drawn0.step)⟩

-- NOT PRINTED: function 18 (lane_Lane_Holders)

-- NOT PRINTED: function 19 (lane_Lane_Queue)

-- NOT PRINTED: function 3 (ltklaw8_LanePlays)

end Go.Proofs.Ytfpnadalfopmcaa.PMd
