import Derived.Test.YtkceadieigpolaaGreatPMdx0
namespace Go.Proofs.YtkceadieigpolaaGreat.PMd
open Go.RowKit Go.Proofs.YtkceadieigpolaaGreatW.PrintWords Go.Proofs.YtkceadieigpolaaGreatW.PrintLast Go.Proofs.YtkceadieigpolaaGreatW.PrintMore
attribute [local go_sem] max2_int min2_int max_two min_two max_three min_three max_four min_four   -- for this text's walks alone
set_option linter.unusedVariables false
set_option linter.unusedSimpArgs false
def mode_Known.f (a0 : Int) : Option (Bool) := if a0 ≥ 0 then (some (decide (a0 ≤ 5))) else (some false)
set_option maxHeartbeats 8000000 in
set_option maxRecDepth 100000 in
theorem mode_Known.calls (a0 : Int) (r : Bool) (w : World) (h : mode_Known.f a0 = some r) :
    Calls Tryz.prog 38 #[.int .i64 a0] w fun e w' => e = .returned (.bool r) ∧ Drawn0 w w' := by
  have H : (if a0 ≥ 0 then (some (decide (a0 ≤ 5))) else (some false)) = some r := h
  clear h
  by_cases c2 : a0 ≥ 0
  · rw [if_pos c2] at H
    have c2b0 : decide (0 ≤ a0) = true := decide_eq_true c2
    clear c2
    obtain rfl := Option.some.inj H
    go_enter Tryz.func38, Tryz.ntmps38
    go_wp2
    go_ret
    exact ⟨by first | rfl | (simp; done) | (simp [*]; done), by repeat (first | exact Drawn0.refl _ | apply Drawn0.step)⟩
  · rw [if_neg c2] at H
    have c2b0 : decide (0 ≤ a0) = false := decide_eq_false c2
    clear c2
    obtain rfl := Option.some.inj H
    go_enter Tryz.func38, Tryz.ntmps38
    go_wp2
    go_ret
    exact ⟨by first | rfl | (simp; done) | (simp [*]; done), by repeat (first | exact Drawn0.refl _ | apply Drawn0.step)⟩
def ltkref1_Mode.f (a0 : Int) : Option (Bool) := if a0 ≥ 0 then (some (decide (a0 ≤ 5))) else (some false)
set_option maxHeartbeats 8000000 in
set_option maxRecDepth 100000 in
theorem ltkref1_Mode.calls (a0 : Int) (r : Bool) (w : World) (h : ltkref1_Mode.f a0 = some r) :
    Calls Tryz.prog 41 #[.int .i64 a0] w fun e w' => e = .returned (.bool r) ∧ Drawn0 w w' := by
  have H : (if a0 ≥ 0 then (some (decide (a0 ≤ 5))) else (some false)) = some r := h
  clear h
  by_cases c2 : a0 ≥ 0
  · rw [if_pos c2] at H
    have c2b0 : decide (0 ≤ a0) = true := decide_eq_true c2
    clear c2
    obtain rfl := Option.some.inj H
    go_enter Tryz.func41, Tryz.ntmps41
    go_wp2
    go_ret
    exact ⟨by first | rfl | (simp; done) | (simp [*]; done), by repeat (first | exact Drawn0.refl _ | apply Drawn0.step)⟩
  · rw [if_neg c2] at H
    have c2b0 : decide (0 ≤ a0) = false := decide_eq_false c2
    clear c2
    obtain rfl := Option.some.inj H
    go_enter Tryz.func41, Tryz.ntmps41
    go_wp2
    go_ret
    exact ⟨by first | rfl | (simp; done) | (simp [*]; done), by repeat (first | exact Drawn0.refl _ | apply Drawn0.step)⟩
def ltkref1_Sup.l0 : Nat → List Int → Int → Int → Option (Int)
  | 0, _, _, _ => none
  | k + 1, x0, x3, x4 => if x4 < (x0.length : Int) then (if 0 ≤ x4 then ((ltkref1_Mode.f (rd x0 x4)).bind fun t108 => (if t108 = true then (if x3 = 2 then (if (rd x0 x4) = 3 then (ltkref1_Sup.l0 k x0 4 (wrap64 (x4 + 1))) else (if x3 = 3 then (if (rd x0 x4) = 2 then (ltkref1_Sup.l0 k x0 4 (wrap64 (x4 + 1))) else (ltkref1_Sup.l0 k x0 (mx x3 (rd x0 x4)) (wrap64 (x4 + 1)))) else (ltkref1_Sup.l0 k x0 (mx x3 (rd x0 x4)) (wrap64 (x4 + 1))))) else (if x3 = 3 then (if (rd x0 x4) = 2 then (ltkref1_Sup.l0 k x0 4 (wrap64 (x4 + 1))) else (ltkref1_Sup.l0 k x0 (mx x3 (rd x0 x4)) (wrap64 (x4 + 1)))) else (ltkref1_Sup.l0 k x0 (mx x3 (rd x0 x4)) (wrap64 (x4 + 1))))) else (ltkref1_Sup.l0 k x0 5 (wrap64 (x4 + 1))))) else (none)) else (some x3)
def ltkref1_Sup.f (k : Nat) (l0 : List Int) : Option (Int) := ltkref1_Sup.l0 k l0 0 0
set_option maxHeartbeats 8000000 in
set_option maxRecDepth 100000 in
theorem ltkref1_Sup.calls (k : Nat) (A0 : Option Addr) (c0 : Nat) (l0 : List Int) (r : Int) (w : World) (hr0 : Kd.C (Kd.int .i64) w A0 l0.length l0) (hc0 : l0.length ≤ c0) (h : ltkref1_Sup.f k l0 = some r) :
    Calls Tryz.prog 76 #[.slice A0 l0.length c0] w fun e w' => e = .returned (.int .i64 r) ∧ Below w.heap.size w w' := by
  have HR0 := Aside0.mk hr0
  have HC0 := Aside0.mk hc0
  clear hr0 hc0
  have HB := Aside0.mk (Below.refl w.heap.size w)
  have H : (ltkref1_Sup.l0 k l0 0 0) = some r := h
  clear h
  have H' := Aside0.mk H
  clear H
  go_enter Tryz.func76, Tryz.ntmps76
  go_wp2
  go_loopg [3, 4] k (fun kq v3 v4 w' => ∃ (x3_1 : Int) (x4_1 : Int), v3 = .int .i64 x3_1 ∧ v4 = .int .i64 x4_1 ∧ Aside0 (ltkref1_Sup.l0 kq l0 x3_1 x4_1 = some r) ∧ Aside0 (kq ≤ k) ∧ Aside0 (Below w.heap.size w w'))
  case atStart => exact ⟨(0), (0), (by first | rfl | (simp; done) | (simp [*]; done)), (by first | rfl | (simp; done) | (simp [*]; done)), H', ⟨Nat.le_refl _⟩, ⟨by repeat (first | (with_reducible first | exact HB.out | apply below_alloc | apply pw_below_drewN | apply below_drew1) | exact HB.out)⟩⟩
  case round =>
    clear H'
    obtain ⟨x3_1, x4_1, rfl, rfl, HA, HK1, HB⟩ := hrel
    cases gk with
    | zero => exact absurd HA.out (by simp [ltkref1_Sup.l0])
    | succ k1 =>
      have H := HA.out
      clear HA
      simp only [ltkref1_Sup.l0] at H
      by_cases c2 : x4_1 < (l0.length : Int)
      · rw [if_pos c2] at H
        have c2b0 : decide (x4_1 < (l0.length : Int)) = true := decide_eq_true c2
        clear c2
        by_cases c3 : 0 ≤ x4_1
        · rw [if_pos c3] at H
          have c3b0 : decide (0 ≤ x4_1) = true := decide_eq_true c3
          clear c3
          replace H := Option.bind_eq_some_iff.mp H
          obtain ⟨t108, A40, H⟩ := H
          replace H : (if t108 = true then (if x3_1 = 2 then (if (rd l0 x4_1) = 3 then (ltkref1_Sup.l0 k1 l0 4 (wrap64 (x4_1 + 1))) else (if x3_1 = 3 then (if (rd l0 x4_1) = 2 then (ltkref1_Sup.l0 k1 l0 4 (wrap64 (x4_1 + 1))) else (ltkref1_Sup.l0 k1 l0 (mx x3_1 (rd l0 x4_1)) (wrap64 (x4_1 + 1)))) else (ltkref1_Sup.l0 k1 l0 (mx x3_1 (rd l0 x4_1)) (wrap64 (x4_1 + 1))))) else (if x3_1 = 3 then (if (rd l0 x4_1) = 2 then (ltkref1_Sup.l0 k1 l0 4 (wrap64 (x4_1 + 1))) else (ltkref1_Sup.l0 k1 l0 (mx x3_1 (rd l0 x4_1)) (wrap64 (x4_1 + 1)))) else (ltkref1_Sup.l0 k1 l0 (mx x3_1 (rd l0 x4_1)) (wrap64 (x4_1 + 1))))) else (ltkref1_Sup.l0 k1 l0 5 (wrap64 (x4_1 + 1)))) = some r := H
          have A4 := Aside0.mk A40
          clear A40
          by_cases c5 : t108 = true
          · subst c5
            have H1 : (if x3_1 = 2 then (if (rd l0 x4_1) = 3 then (ltkref1_Sup.l0 k1 l0 4 (wrap64 (x4_1 + 1))) else (if x3_1 = 3 then (if (rd l0 x4_1) = 2 then (ltkref1_Sup.l0 k1 l0 4 (wrap64 (x4_1 + 1))) else (ltkref1_Sup.l0 k1 l0 (mx x3_1 (rd l0 x4_1)) (wrap64 (x4_1 + 1)))) else (ltkref1_Sup.l0 k1 l0 (mx x3_1 (rd l0 x4_1)) (wrap64 (x4_1 + 1))))) else (if x3_1 = 3 then (if (rd l0 x4_1) = 2 then (ltkref1_Sup.l0 k1 l0 4 (wrap64 (x4_1 + 1))) else (ltkref1_Sup.l0 k1 l0 (mx x3_1 (rd l0 x4_1)) (wrap64 (x4_1 + 1)))) else (ltkref1_Sup.l0 k1 l0 (mx x3_1 (rd l0 x4_1)) (wrap64 (x4_1 + 1))))) = some r := by rw [if_pos rfl] at H; exact H
            clear H
            have H := H1
            clear H1
            by_cases c6 : x3_1 = 2
            · rw [if_pos c6] at H
              have c6b0 : (x3_1 == 2) = true := beq_iff_eq.mpr c6
              have c6b1 : (x3_1 != 2) = false := bne_eq_false_iff_eq.mpr c6
              clear c6
              by_cases c7 : (rd l0 x4_1) = 3
              · rw [if_pos c7] at H
                have c7b0 : ((rd l0 x4_1) == 3) = true := beq_iff_eq.mpr c7
                have c7b1 : ((rd l0 x4_1) != 3) = false := bne_eq_false_iff_eq.mpr c7
                clear c7
                have H' := Aside0.mk H
                clear H
                have p107 : 0 ≤ (x4_1 : Int) := of_decide_eq_true (by first | (with_reducible assumption) | assumption)
                have q107 : x4_1 < (l0.length : Int) := of_decide_eq_true (by first | (with_reducible assumption) | assumption)
                obtain ⟨ad107, e107, hx107_0⟩ := Kd.at_int HR0.out x4_1 p107 q107
                cases e107
                replace hx107_0 := (HB.out.cell (World.block_lt_of_cell? w _ hx107_0)).trans hx107_0
                replace p107 := eq_true p107
                replace q107 := eq_true q107
                go_wp2_with (first | ((with_reducible refine gate_callee (f := 41) rfl ?_); refine goesL_ (some 21) rfl rfl Tryz.func41 (by kernel_rfl) rfl #[.int .i64 (rd l0 x4_1)] rfl (by (try simp only [List.map_toArray, List.map_cons, List.map_nil]); first | done | rfl | (simp only [List.length_drop, List.length_take]; rfl)) ?_; (with_reducible refine (ltkref1_Mode.calls (rd l0 x4_1) true _ A4.out).mono ?_); rintro e w' ⟨rfl, ⟨nd, rfl⟩⟩; refine ⟨_, rfl, ?_⟩))
                go_roundg k1
                case measure => have := HK1.out; omega
                case rel => exact ⟨(4), (wrap64 (x4_1 + 1)), (by first | rfl | (simp; done) | (simp [*]; done)), (by first | rfl | (simp; done) | (simp [*]; done)), H', ⟨by have := HK1.out; omega⟩, ⟨by repeat (first | (with_reducible first | exact HB.out | apply below_alloc | apply pw_below_drewN | apply below_drew1) | exact HB.out)⟩⟩
              · rw [if_neg c7] at H
                have c7b0 : ((rd l0 x4_1) == 3) = false := beq_eq_false_iff_ne.mpr c7
                have c7b1 : ((rd l0 x4_1) != 3) = true := bne_iff_ne.mpr c7
                by_cases c8 : x3_1 = 3
                · rw [if_pos c8] at H
                  have c8b0 : (x3_1 == 3) = true := beq_iff_eq.mpr c8
                  have c8b1 : (x3_1 != 3) = false := bne_eq_false_iff_eq.mpr c8
                  clear c8
                  by_cases c9 : (rd l0 x4_1) = 2
                  · rw [if_pos c9] at H
                    have c9b0 : ((rd l0 x4_1) == 2) = true := beq_iff_eq.mpr c9
                    have c9b1 : ((rd l0 x4_1) != 2) = false := bne_eq_false_iff_eq.mpr c9
                    clear c9
                    have H' := Aside0.mk H
                    clear H
                    have p107 : 0 ≤ (x4_1 : Int) := of_decide_eq_true (by first | (with_reducible assumption) | assumption)
                    have q107 : x4_1 < (l0.length : Int) := of_decide_eq_true (by first | (with_reducible assumption) | assumption)
                    obtain ⟨ad107, e107, hx107_0⟩ := Kd.at_int HR0.out x4_1 p107 q107
                    cases e107
                    replace hx107_0 := (HB.out.cell (World.block_lt_of_cell? w _ hx107_0)).trans hx107_0
                    replace p107 := eq_true p107
                    replace q107 := eq_true q107
                    go_wp2_with (first | ((with_reducible refine gate_callee (f := 41) rfl ?_); refine goesL_ (some 21) rfl rfl Tryz.func41 (by kernel_rfl) rfl #[.int .i64 (rd l0 x4_1)] rfl (by (try simp only [List.map_toArray, List.map_cons, List.map_nil]); first | done | rfl | (simp only [List.length_drop, List.length_take]; rfl)) ?_; (with_reducible refine (ltkref1_Mode.calls (rd l0 x4_1) true _ A4.out).mono ?_); rintro e w' ⟨rfl, ⟨nd, rfl⟩⟩; refine ⟨_, rfl, ?_⟩))
                    go_roundg k1
                    case measure => have := HK1.out; omega
                    case rel => exact ⟨(4), (wrap64 (x4_1 + 1)), (by first | rfl | (simp; done) | (simp [*]; done)), (by first | rfl | (simp; done) | (simp [*]; done)), H', ⟨by have := HK1.out; omega⟩, ⟨by repeat (first | (with_reducible first | exact HB.out | apply below_alloc | apply pw_below_drewN | apply below_drew1) | exact HB.out)⟩⟩
                  · rw [if_neg c9] at H
                    have c9b0 : ((rd l0 x4_1) == 2) = false := beq_eq_false_iff_ne.mpr c9
                    have c9b1 : ((rd l0 x4_1) != 2) = true := bne_iff_ne.mpr c9
                    obtain ⟨ji10, hji10⟩ : ∃ j_ : Int, (mx x3_1 (rd l0 x4_1)) = j_ := ⟨_, rfl⟩
                    replace H : (ltkref1_Sup.l0 k1 l0 ji10 (wrap64 (x4_1 + 1))) = some r := by first | (rw [hji10] at H; exact H) | (simp only [hji10] at H ⊢; exact H)
                    (try rw [hji10] at A4)
                    have hji10_ : (if x3_1 < (rd l0 x4_1) then (rd l0 x4_1) else x3_1) = ji10 := hji10
                    have H' := Aside0.mk H
                    clear H
                    have p107 : 0 ≤ (x4_1 : Int) := of_decide_eq_true (by first | (with_reducible assumption) | assumption)
                    have q107 : x4_1 < (l0.length : Int) := of_decide_eq_true (by first | (with_reducible assumption) | assumption)
                    obtain ⟨ad107, e107, hx107_0⟩ := Kd.at_int HR0.out x4_1 p107 q107
                    cases e107
                    replace hx107_0 := (HB.out.cell (World.block_lt_of_cell? w _ hx107_0)).trans hx107_0
                    replace p107 := eq_true p107
                    replace q107 := eq_true q107
                    go_wp2_with (first | ((with_reducible refine gate_callee (f := 41) rfl ?_); refine goesL_ (some 21) rfl rfl Tryz.func41 (by kernel_rfl) rfl #[.int .i64 (rd l0 x4_1)] rfl (by (try simp only [List.map_toArray, List.map_cons, List.map_nil]); first | done | rfl | (simp only [List.length_drop, List.length_take]; rfl)) ?_; (with_reducible refine (ltkref1_Mode.calls (rd l0 x4_1) true _ A4.out).mono ?_); rintro e w' ⟨rfl, ⟨nd, rfl⟩⟩; refine ⟨_, rfl, ?_⟩))
                    go_roundg k1
                    case measure => have := HK1.out; omega
                    case rel => exact ⟨(ji10), (wrap64 (x4_1 + 1)), (by first | rfl | (simp; done) | (simp only [← hji10] <;> (first | rfl | (simp; done))) | (simp [*]; done)), (by first | rfl | (simp; done) | (simp [*]; done)), H', ⟨by have := HK1.out; omega⟩, ⟨by repeat (first | (with_reducible first | exact HB.out | apply below_alloc | apply pw_below_drewN | apply below_drew1) | exact HB.out)⟩⟩
                · rw [if_neg c8] at H
                  have c8b0 : (x3_1 == 3) = false := beq_eq_false_iff_ne.mpr c8
                  have c8b1 : (x3_1 != 3) = true := bne_iff_ne.mpr c8
                  obtain ⟨ji11, hji11⟩ : ∃ j_ : Int, (mx x3_1 (rd l0 x4_1)) = j_ := ⟨_, rfl⟩
                  replace H : (ltkref1_Sup.l0 k1 l0 ji11 (wrap64 (x4_1 + 1))) = some r := by first | (rw [hji11] at H; exact H) | (simp only [hji11] at H ⊢; exact H)
                  (try rw [hji11] at A4)
                  have hji11_ : (if x3_1 < (rd l0 x4_1) then (rd l0 x4_1) else x3_1) = ji11 := hji11
                  have H' := Aside0.mk H
                  clear H
                  have p107 : 0 ≤ (x4_1 : Int) := of_decide_eq_true (by first | (with_reducible assumption) | assumption)
                  have q107 : x4_1 < (l0.length : Int) := of_decide_eq_true (by first | (with_reducible assumption) | assumption)
                  obtain ⟨ad107, e107, hx107_0⟩ := Kd.at_int HR0.out x4_1 p107 q107
                  cases e107
                  replace hx107_0 := (HB.out.cell (World.block_lt_of_cell? w _ hx107_0)).trans hx107_0
                  replace p107 := eq_true p107
                  replace q107 := eq_true q107
                  go_wp2_with (first | ((with_reducible refine gate_callee (f := 41) rfl ?_); refine goesL_ (some 21) rfl rfl Tryz.func41 (by kernel_rfl) rfl #[.int .i64 (rd l0 x4_1)] rfl (by (try simp only [List.map_toArray, List.map_cons, List.map_nil]); first | done | rfl | (simp only [List.length_drop, List.length_take]; rfl)) ?_; (with_reducible refine (ltkref1_Mode.calls (rd l0 x4_1) true _ A4.out).mono ?_); rintro e w' ⟨rfl, ⟨nd, rfl⟩⟩; refine ⟨_, rfl, ?_⟩))
                  go_roundg k1
                  case measure => have := HK1.out; omega
                  case rel => exact ⟨(ji11), (wrap64 (x4_1 + 1)), (by first | rfl | (simp; done) | (simp only [← hji11] <;> (first | rfl | (simp; done))) | (simp [*]; done)), (by first | rfl | (simp; done) | (simp [*]; done)), H', ⟨by have := HK1.out; omega⟩, ⟨by repeat (first | (with_reducible first | exact HB.out | apply below_alloc | apply pw_below_drewN | apply below_drew1) | exact HB.out)⟩⟩
            · rw [if_neg c6] at H
              have c6b0 : (x3_1 == 2) = false := beq_eq_false_iff_ne.mpr c6
              have c6b1 : (x3_1 != 2) = true := bne_iff_ne.mpr c6
              by_cases c12 : x3_1 = 3
              · rw [if_pos c12] at H
                have c12b0 : (x3_1 == 3) = true := beq_iff_eq.mpr c12
                have c12b1 : (x3_1 != 3) = false := bne_eq_false_iff_eq.mpr c12
                clear c12
                by_cases c13 : (rd l0 x4_1) = 2
                · rw [if_pos c13] at H
                  have c13b0 : ((rd l0 x4_1) == 2) = true := beq_iff_eq.mpr c13
                  have c13b1 : ((rd l0 x4_1) != 2) = false := bne_eq_false_iff_eq.mpr c13
                  clear c13
                  have H' := Aside0.mk H
                  clear H
                  have p107 : 0 ≤ (x4_1 : Int) := of_decide_eq_true (by first | (with_reducible assumption) | assumption)
                  have q107 : x4_1 < (l0.length : Int) := of_decide_eq_true (by first | (with_reducible assumption) | assumption)
                  obtain ⟨ad107, e107, hx107_0⟩ := Kd.at_int HR0.out x4_1 p107 q107
                  cases e107
                  replace hx107_0 := (HB.out.cell (World.block_lt_of_cell? w _ hx107_0)).trans hx107_0
                  replace p107 := eq_true p107
                  replace q107 := eq_true q107
                  go_wp2_with (first | ((with_reducible refine gate_callee (f := 41) rfl ?_); refine goesL_ (some 21) rfl rfl Tryz.func41 (by kernel_rfl) rfl #[.int .i64 (rd l0 x4_1)] rfl (by (try simp only [List.map_toArray, List.map_cons, List.map_nil]); first | done | rfl | (simp only [List.length_drop, List.length_take]; rfl)) ?_; (with_reducible refine (ltkref1_Mode.calls (rd l0 x4_1) true _ A4.out).mono ?_); rintro e w' ⟨rfl, ⟨nd, rfl⟩⟩; refine ⟨_, rfl, ?_⟩))
                  go_roundg k1
                  case measure => have := HK1.out; omega
                  case rel => exact ⟨(4), (wrap64 (x4_1 + 1)), (by first | rfl | (simp; done) | (simp [*]; done)), (by first | rfl | (simp; done) | (simp [*]; done)), H', ⟨by have := HK1.out; omega⟩, ⟨by repeat (first | (with_reducible first | exact HB.out | apply below_alloc | apply pw_below_drewN | apply below_drew1) | exact HB.out)⟩⟩
                · rw [if_neg c13] at H
                  have c13b0 : ((rd l0 x4_1) == 2) = false := beq_eq_false_iff_ne.mpr c13
                  have c13b1 : ((rd l0 x4_1) != 2) = true := bne_iff_ne.mpr c13
                  obtain ⟨ji14, hji14⟩ : ∃ j_ : Int, (mx x3_1 (rd l0 x4_1)) = j_ := ⟨_, rfl⟩
                  replace H : (ltkref1_Sup.l0 k1 l0 ji14 (wrap64 (x4_1 + 1))) = some r := by first | (rw [hji14] at H; exact H) | (simp only [hji14] at H ⊢; exact H)
                  (try rw [hji14] at A4)
                  have hji14_ : (if x3_1 < (rd l0 x4_1) then (rd l0 x4_1) else x3_1) = ji14 := hji14
                  have H' := Aside0.mk H
                  clear H
                  have p107 : 0 ≤ (x4_1 : Int) := of_decide_eq_true (by first | (with_reducible assumption) | assumption)
                  have q107 : x4_1 < (l0.length : Int) := of_decide_eq_true (by first | (with_reducible assumption) | assumption)
                  obtain ⟨ad107, e107, hx107_0⟩ := Kd.at_int HR0.out x4_1 p107 q107
                  cases e107
                  replace hx107_0 := (HB.out.cell (World.block_lt_of_cell? w _ hx107_0)).trans hx107_0
                  replace p107 := eq_true p107
                  replace q107 := eq_true q107
                  go_wp2_with (first | ((with_reducible refine gate_callee (f := 41) rfl ?_); refine goesL_ (some 21) rfl rfl Tryz.func41 (by kernel_rfl) rfl #[.int .i64 (rd l0 x4_1)] rfl (by (try simp only [List.map_toArray, List.map_cons, List.map_nil]); first | done | rfl | (simp only [List.length_drop, List.length_take]; rfl)) ?_; (with_reducible refine (ltkref1_Mode.calls (rd l0 x4_1) true _ A4.out).mono ?_); rintro e w' ⟨rfl, ⟨nd, rfl⟩⟩; refine ⟨_, rfl, ?_⟩))
                  go_roundg k1
                  case measure => have := HK1.out; omega
                  case rel => exact ⟨(ji14), (wrap64 (x4_1 + 1)), (by first | rfl | (simp; done) | (simp only [← hji14] <;> (first | rfl | (simp; done))) | (simp [*]; done)), (by first | rfl | (simp; done) | (simp [*]; done)), H', ⟨by have := HK1.out; omega⟩, ⟨by repeat (first | (with_reducible first | exact HB.out | apply below_alloc | apply pw_below_drewN | apply below_drew1) | exact HB.out)⟩⟩
              · rw [if_neg c12] at H
                have c12b0 : (x3_1 == 3) = false := beq_eq_false_iff_ne.mpr c12
                have c12b1 : (x3_1 != 3) = true := bne_iff_ne.mpr c12
                obtain ⟨ji15, hji15⟩ : ∃ j_ : Int, (mx x3_1 (rd l0 x4_1)) = j_ := ⟨_, rfl⟩
                replace H : (ltkref1_Sup.l0 k1 l0 ji15 (wrap64 (x4_1 + 1))) = some r := by first | (rw [hji15] at H; exact H) | (simp only [hji15] at H ⊢; exact H)
                (try rw [hji15] at A4)
                have hji15_ : (if x3_1 < (rd l0 x4_1) then (rd l0 x4_1) else x3_1) = ji15 := hji15
                have H' := Aside0.mk H
                clear H
                have p107 : 0 ≤ (x4_1 : Int) := of_decide_eq_true (by first | (with_reducible assumption) | assumption)
                have q107 : x4_1 < (l0.length : Int) := of_decide_eq_true (by first | (with_reducible assumption) | assumption)
                obtain ⟨ad107, e107, hx107_0⟩ := Kd.at_int HR0.out x4_1 p107 q107
                cases e107
                replace hx107_0 := (HB.out.cell (World.block_lt_of_cell? w _ hx107_0)).trans hx107_0
                replace p107 := eq_true p107
                replace q107 := eq_true q107
                go_wp2_with (first | ((with_reducible refine gate_callee (f := 41) rfl ?_); refine goesL_ (some 21) rfl rfl Tryz.func41 (by kernel_rfl) rfl #[.int .i64 (rd l0 x4_1)] rfl (by (try simp only [List.map_toArray, List.map_cons, List.map_nil]); first | done | rfl | (simp only [List.length_drop, List.length_take]; rfl)) ?_; (with_reducible refine (ltkref1_Mode.calls (rd l0 x4_1) true _ A4.out).mono ?_); rintro e w' ⟨rfl, ⟨nd, rfl⟩⟩; refine ⟨_, rfl, ?_⟩))
                go_roundg k1
                case measure => have := HK1.out; omega
                case rel => exact ⟨(ji15), (wrap64 (x4_1 + 1)), (by first | rfl | (simp; done) | (simp only [← hji15] <;> (first | rfl | (simp; done))) | (simp [*]; done)), (by first | rfl | (simp; done) | (simp [*]; done)), H', ⟨by have := HK1.out; omega⟩, ⟨by repeat (first | (with_reducible first | exact HB.out | apply below_alloc | apply pw_below_drewN | apply below_drew1) | exact HB.out)⟩⟩
          · replace c5 := Bool.eq_false_iff.mpr c5
            subst c5
            have H1 : (ltkref1_Sup.l0 k1 l0 5 (wrap64 (x4_1 + 1))) = some r := by rw [if_neg (show ¬ (false = true) by decide)] at H; exact H
            clear H
            have H := H1
            clear H1
            have H' := Aside0.mk H
            clear H
            have p107 : 0 ≤ (x4_1 : Int) := of_decide_eq_true (by first | (with_reducible assumption) | assumption)
            have q107 : x4_1 < (l0.length : Int) := of_decide_eq_true (by first | (with_reducible assumption) | assumption)
            obtain ⟨ad107, e107, hx107_0⟩ := Kd.at_int HR0.out x4_1 p107 q107
            cases e107
            replace hx107_0 := (HB.out.cell (World.block_lt_of_cell? w _ hx107_0)).trans hx107_0
            replace p107 := eq_true p107
            replace q107 := eq_true q107
            go_wp2_with (first | ((with_reducible refine gate_callee (f := 41) rfl ?_); refine goesL_ (some 21) rfl rfl Tryz.func41 (by kernel_rfl) rfl #[.int .i64 (rd l0 x4_1)] rfl (by (try simp only [List.map_toArray, List.map_cons, List.map_nil]); first | done | rfl | (simp only [List.length_drop, List.length_take]; rfl)) ?_; (with_reducible refine (ltkref1_Mode.calls (rd l0 x4_1) false _ A4.out).mono ?_); rintro e w' ⟨rfl, ⟨nd, rfl⟩⟩; refine ⟨_, rfl, ?_⟩))
            go_roundg k1
            case measure => have := HK1.out; omega
            case rel => exact ⟨(5), (wrap64 (x4_1 + 1)), (by first | rfl | (simp; done) | (simp [*]; done)), (by first | rfl | (simp; done) | (simp [*]; done)), H', ⟨by have := HK1.out; omega⟩, ⟨by repeat (first | (with_reducible first | exact HB.out | apply below_alloc | apply pw_below_drewN | apply below_drew1) | exact HB.out)⟩⟩
        · rw [if_neg c3] at H
          exact absurd H (by simp)
      · rw [if_neg c2] at H
        have c2b0 : decide (x4_1 < (l0.length : Int)) = false := decide_eq_false c2
        clear c2
        obtain rfl := Option.some.inj H
        go_wp2
        go_ret
        exact ⟨by first | rfl | (simp [errW_none, errW_some] <;> rfl) | (simp [*, errW_none, errW_some] <;> rfl), by repeat (first | (with_reducible first | exact HB.out | apply below_alloc | apply pw_below_drewN | apply below_drew1) | exact HB.out)⟩
def ltkref1_Fits.g (a b : Int) : Bool := (a == 0 || b == 0) || (a == 1 && b != 5) || (b == 1 && a != 5) || (a == 2 && b == 2) || (a == 3 && b == 3)
def ltkref1_Fits.f (a0 a1 : Int) : Option Bool := some (decide (0 ≤ a0 ∧ a0 ≤ 5) && decide (0 ≤ a1 ∧ a1 ≤ 5) && ltkref1_Fits.g a0 a1)
set_option maxHeartbeats 8000000 in
set_option maxRecDepth 100000 in
theorem ltkref1_Fits.row0 (a1 : Int) (w : World) (h0 : 0 ≤ a1) (h5 : a1 ≤ 5) :
    Calls Tryz.prog 95 #[.int .i64 0, .int .i64 a1] w fun e w' => e = .returned (.bool (ltkref1_Fits.g 0 a1)) ∧ Below w.heap.size w w' := by
  have hu80 := Tryz.underlying130
  obtain ⟨c, hc⟩ : ∃ c : Int, c = (if a1 = 0 then 49 else if a1 = 1 then 49 else if a1 = 2 then 49 else if a1 = 3 then 49 else if a1 = 4 then 49 else 49) := ⟨_, rfl⟩
  have hix : ∀ W : World, (Instr.index 9 (.string ({ data := #[49, 49, 49, 49, 49, 49] } : ByteArray)) (.int .i64 a1)).run Tryz.prog W = .ok (.int .u8 c) W := by
    have hb' : a1 = 0 ∨ a1 = 1 ∨ a1 = 2 ∨ a1 = 3 ∨ a1 = 4 ∨ a1 = 5 := by omega
    rw [hc]
    clear hc h0 h5
    rcases hb' with rfl | rfl | rfl | rfl | rfl | rfl <;> (intro W; rfl)
  have HG := Aside0.mk (show (c == 49) = ltkref1_Fits.g 0 a1 by
    have hb' : a1 = 0 ∨ a1 = 1 ∨ a1 = 2 ∨ a1 = 3 ∨ a1 = 4 ∨ a1 = 5 := by omega
    rw [hc]
    clear hc h0 h5 hix
    rcases hb' with rfl | rfl | rfl | rfl | rfl | rfl <;> decide)
  clear hc
  go_enter Tryz.func95, Tryz.ntmps95
  go_wp2
  go_ret
  rw [HG.out]
  exact ⟨rfl, by repeat (first | exact Below.refl _ _ | apply below_alloc)⟩
set_option maxHeartbeats 8000000 in
set_option maxRecDepth 100000 in
theorem ltkref1_Fits.row1 (a1 : Int) (w : World) (h0 : 0 ≤ a1) (h5 : a1 ≤ 5) :
    Calls Tryz.prog 95 #[.int .i64 1, .int .i64 a1] w fun e w' => e = .returned (.bool (ltkref1_Fits.g 1 a1)) ∧ Below w.heap.size w w' := by
  have hu80 := Tryz.underlying130
  obtain ⟨c, hc⟩ : ∃ c : Int, c = (if a1 = 0 then 49 else if a1 = 1 then 49 else if a1 = 2 then 49 else if a1 = 3 then 49 else if a1 = 4 then 49 else 48) := ⟨_, rfl⟩
  have hix : ∀ W : World, (Instr.index 9 (.string ({ data := #[49, 49, 49, 49, 49, 48] } : ByteArray)) (.int .i64 a1)).run Tryz.prog W = .ok (.int .u8 c) W := by
    have hb' : a1 = 0 ∨ a1 = 1 ∨ a1 = 2 ∨ a1 = 3 ∨ a1 = 4 ∨ a1 = 5 := by omega
    rw [hc]
    clear hc h0 h5
    rcases hb' with rfl | rfl | rfl | rfl | rfl | rfl <;> (intro W; rfl)
  have HG := Aside0.mk (show (c == 49) = ltkref1_Fits.g 1 a1 by
    have hb' : a1 = 0 ∨ a1 = 1 ∨ a1 = 2 ∨ a1 = 3 ∨ a1 = 4 ∨ a1 = 5 := by omega
    rw [hc]
    clear hc h0 h5 hix
    rcases hb' with rfl | rfl | rfl | rfl | rfl | rfl <;> decide)
  clear hc
  go_enter Tryz.func95, Tryz.ntmps95
  go_wp2
  go_ret
  rw [HG.out]
  exact ⟨rfl, by repeat (first | exact Below.refl _ _ | apply below_alloc)⟩
set_option maxHeartbeats 8000000 in
set_option maxRecDepth 100000 in
theorem ltkref1_Fits.row2 (a1 : Int) (w : World) (h0 : 0 ≤ a1) (h5 : a1 ≤ 5) :
    Calls Tryz.prog 95 #[.int .i64 2, .int .i64 a1] w fun e w' => e = .returned (.bool (ltkref1_Fits.g 2 a1)) ∧ Below w.heap.size w w' := by
  have hu80 := Tryz.underlying130
  obtain ⟨c, hc⟩ : ∃ c : Int, c = (if a1 = 0 then 49 else if a1 = 1 then 49 else if a1 = 2 then 49 else if a1 = 3 then 48 else if a1 = 4 then 48 else 48) := ⟨_, rfl⟩
  have hix : ∀ W : World, (Instr.index 9 (.string ({ data := #[49, 49, 49, 48, 48, 48] } : ByteArray)) (.int .i64 a1)).run Tryz.prog W = .ok (.int .u8 c) W := by
    have hb' : a1 = 0 ∨ a1 = 1 ∨ a1 = 2 ∨ a1 = 3 ∨ a1 = 4 ∨ a1 = 5 := by omega
    rw [hc]
    clear hc h0 h5
    rcases hb' with rfl | rfl | rfl | rfl | rfl | rfl <;> (intro W; rfl)
  have HG := Aside0.mk (show (c == 49) = ltkref1_Fits.g 2 a1 by
    have hb' : a1 = 0 ∨ a1 = 1 ∨ a1 = 2 ∨ a1 = 3 ∨ a1 = 4 ∨ a1 = 5 := by omega
    rw [hc]
    clear hc h0 h5 hix
    rcases hb' with rfl | rfl | rfl | rfl | rfl | rfl <;> decide)
  clear hc
  go_enter Tryz.func95, Tryz.ntmps95
  go_wp2
  go_ret
  rw [HG.out]
  exact ⟨rfl, by repeat (first | exact Below.refl _ _ | apply below_alloc)⟩
set_option maxHeartbeats 8000000 in
set_option maxRecDepth 100000 in
theorem ltkref1_Fits.row3 (a1 : Int) (w : World) (h0 : 0 ≤ a1) (h5 : a1 ≤ 5) :
    Calls Tryz.prog 95 #[.int .i64 3, .int .i64 a1] w fun e w' => e = .returned (.bool (ltkref1_Fits.g 3 a1)) ∧ Below w.heap.size w w' := by
  have hu80 := Tryz.underlying130
  obtain ⟨c, hc⟩ : ∃ c : Int, c = (if a1 = 0 then 49 else if a1 = 1 then 49 else if a1 = 2 then 48 else if a1 = 3 then 49 else if a1 = 4 then 48 else 48) := ⟨_, rfl⟩
  have hix : ∀ W : World, (Instr.index 9 (.string ({ data := #[49, 49, 48, 49, 48, 48] } : ByteArray)) (.int .i64 a1)).run Tryz.prog W = .ok (.int .u8 c) W := by
    have hb' : a1 = 0 ∨ a1 = 1 ∨ a1 = 2 ∨ a1 = 3 ∨ a1 = 4 ∨ a1 = 5 := by omega
    rw [hc]
    clear hc h0 h5
    rcases hb' with rfl | rfl | rfl | rfl | rfl | rfl <;> (intro W; rfl)
  have HG := Aside0.mk (show (c == 49) = ltkref1_Fits.g 3 a1 by
    have hb' : a1 = 0 ∨ a1 = 1 ∨ a1 = 2 ∨ a1 = 3 ∨ a1 = 4 ∨ a1 = 5 := by omega
    rw [hc]
    clear hc h0 h5 hix
    rcases hb' with rfl | rfl | rfl | rfl | rfl | rfl <;> decide)
  clear hc
  go_enter Tryz.func95, Tryz.ntmps95
  go_wp2
  go_ret
  rw [HG.out]
  exact ⟨rfl, by repeat (first | exact Below.refl _ _ | apply below_alloc)⟩
set_option maxHeartbeats 8000000 in
set_option maxRecDepth 100000 in
theorem ltkref1_Fits.row4 (a1 : Int) (w : World) (h0 : 0 ≤ a1) (h5 : a1 ≤ 5) :
    Calls Tryz.prog 95 #[.int .i64 4, .int .i64 a1] w fun e w' => e = .returned (.bool (ltkref1_Fits.g 4 a1)) ∧ Below w.heap.size w w' := by
  have hu80 := Tryz.underlying130
  obtain ⟨c, hc⟩ : ∃ c : Int, c = (if a1 = 0 then 49 else if a1 = 1 then 49 else if a1 = 2 then 48 else if a1 = 3 then 48 else if a1 = 4 then 48 else 48) := ⟨_, rfl⟩
  have hix : ∀ W : World, (Instr.index 9 (.string ({ data := #[49, 49, 48, 48, 48, 48] } : ByteArray)) (.int .i64 a1)).run Tryz.prog W = .ok (.int .u8 c) W := by
    have hb' : a1 = 0 ∨ a1 = 1 ∨ a1 = 2 ∨ a1 = 3 ∨ a1 = 4 ∨ a1 = 5 := by omega
    rw [hc]
    clear hc h0 h5
    rcases hb' with rfl | rfl | rfl | rfl | rfl | rfl <;> (intro W; rfl)
  have HG := Aside0.mk (show (c == 49) = ltkref1_Fits.g 4 a1 by
    have hb' : a1 = 0 ∨ a1 = 1 ∨ a1 = 2 ∨ a1 = 3 ∨ a1 = 4 ∨ a1 = 5 := by omega
    rw [hc]
    clear hc h0 h5 hix
    rcases hb' with rfl | rfl | rfl | rfl | rfl | rfl <;> decide)
  clear hc
  go_enter Tryz.func95, Tryz.ntmps95
  go_wp2
  go_ret
  rw [HG.out]
  exact ⟨rfl, by repeat (first | exact Below.refl _ _ | apply below_alloc)⟩
set_option maxHeartbeats 8000000 in
set_option maxRecDepth 100000 in
theorem ltkref1_Fits.row5 (a1 : Int) (w : World) (h0 : 0 ≤ a1) (h5 : a1 ≤ 5) :
    Calls Tryz.prog 95 #[.int .i64 5, .int .i64 a1] w fun e w' => e = .returned (.bool (ltkref1_Fits.g 5 a1)) ∧ Below w.heap.size w w' := by
  have hu80 := Tryz.underlying130
  obtain ⟨c, hc⟩ : ∃ c : Int, c = (if a1 = 0 then 49 else if a1 = 1 then 48 else if a1 = 2 then 48 else if a1 = 3 then 48 else if a1 = 4 then 48 else 48) := ⟨_, rfl⟩
  have hix : ∀ W : World, (Instr.index 9 (.string ({ data := #[49, 48, 48, 48, 48, 48] } : ByteArray)) (.int .i64 a1)).run Tryz.prog W = .ok (.int .u8 c) W := by
    have hb' : a1 = 0 ∨ a1 = 1 ∨ a1 = 2 ∨ a1 = 3 ∨ a1 = 4 ∨ a1 = 5 := by omega
    rw [hc]
    clear hc h0 h5
    rcases hb' with rfl | rfl | rfl | rfl | rfl | rfl <;> (intro W; rfl)
  have HG := Aside0.mk (show (c == 49) = ltkref1_Fits.g 5 a1 by
    have hb' : a1 = 0 ∨ a1 = 1 ∨ a1 = 2 ∨ a1 = 3 ∨ a1 = 4 ∨ a1 = 5 := by omega
    rw [hc]
    clear hc h0 h5 hix
    rcases hb' with rfl | rfl | rfl | rfl | rfl | rfl <;> decide)
  clear hc
  go_enter Tryz.func95, Tryz.ntmps95
  go_wp2
  go_ret
  rw [HG.out]
  exact ⟨rfl, by repeat (first | exact Below.refl _ _ | apply below_alloc)⟩
set_option maxHeartbeats 8000000 in
set_option maxRecDepth 100000 in
theorem ltkref1_Fits.calls (a0 a1 : Int) (r : Bool) (w : World) (h : ltkref1_Fits.f a0 a1 = some r) :
    Calls Tryz.prog 95 #[.int .i64 a0, .int .i64 a1] w fun e w' => e = .returned (.bool r) ∧ Below w.heap.size w w' := by
  obtain rfl := Option.some.inj h
  clear h
  by_cases ha : 0 ≤ a0 ∧ a0 ≤ 5
  · by_cases hb : 0 ≤ a1 ∧ a1 ≤ 5
    · have e : (decide (0 ≤ a0 ∧ a0 ≤ 5) && decide (0 ≤ a1 ∧ a1 ≤ 5) && ltkref1_Fits.g a0 a1) = ltkref1_Fits.g a0 a1 := by
        rw [decide_eq_true ha, decide_eq_true hb]; rfl
      rw [e]
      have ha' : a0 = 0 ∨ a0 = 1 ∨ a0 = 2 ∨ a0 = 3 ∨ a0 = 4 ∨ a0 = 5 := by omega
      rcases ha' with rfl | rfl | rfl | rfl | rfl | rfl
      · exact ltkref1_Fits.row0 a1 w hb.1 hb.2
      · exact ltkref1_Fits.row1 a1 w hb.1 hb.2
      · exact ltkref1_Fits.row2 a1 w hb.1 hb.2
      · exact ltkref1_Fits.row3 a1 w hb.1 hb.2
      · exact ltkref1_Fits.row4 a1 w hb.1 hb.2
      · exact ltkref1_Fits.row5 a1 w hb.1 hb.2
    · have hbb : (decide (0 ≤ a0 ∧ a0 ≤ 5) && decide (0 ≤ a1 ∧ a1 ≤ 5) && ltkref1_Fits.g a0 a1) = false := by
        rw [decide_eq_false hb]; simp
      rw [hbb]
      clear hbb
      by_cases h1 : 0 ≤ a1
      · have h2 : ¬ a1 ≤ 5 := by omega
        obtain ⟨h3, h4⟩ := ha
        clear hb
        go_enter Tryz.func95, Tryz.ntmps95
        go_wp2
        go_ret
        exact ⟨rfl, by repeat (first | exact Below.refl _ _ | apply below_alloc)⟩
      · obtain ⟨h3, h4⟩ := ha
        clear hb
        go_enter Tryz.func95, Tryz.ntmps95
        go_wp2
        go_ret
        exact ⟨rfl, by repeat (first | exact Below.refl _ _ | apply below_alloc)⟩
  · have hbb : (decide (0 ≤ a0 ∧ a0 ≤ 5) && decide (0 ≤ a1 ∧ a1 ≤ 5) && ltkref1_Fits.g a0 a1) = false := by
      rw [decide_eq_false ha]; simp
    rw [hbb]
    clear hbb
    by_cases h1 : 0 ≤ a0
    · have h2 : ¬ a0 ≤ 5 := by omega
      clear ha
      go_enter Tryz.func95, Tryz.ntmps95
      go_wp2
      go_ret
      exact ⟨rfl, by repeat (first | exact Below.refl _ _ | apply below_alloc)⟩
    · clear ha
      go_enter Tryz.func95, Tryz.ntmps95
      go_wp2
      go_ret
      exact ⟨rfl, by repeat (first | exact Below.refl _ _ | apply below_alloc)⟩
end Go.Proofs.YtkceadieigpolaaGreat.PMd
