-- Written by a program of this session (myprint.py) over the kit's print; some functions' contracts are given by hand.
import Derived.Test.YtfdnhhjggophcaaPAbx0
namespace Go.Proofs.Ytfdnhhjggophcaa.PAb
open Go.RowKit Go.Proofs.YtfdnhhjggophcaaW.PrintWords Go.Proofs.YtfdnhhjggophcaaW.PrintLast Go.Proofs.YtfdnhhjggophcaaW.PrintMore
attribute [local go_sem] max2_int min2_int max_two min_two max_three min_three max_four min_four   -- for this text's walks alone
set_option linter.unusedVariables false
set_option linter.unusedSimpArgs false

/-! ### ltkref20_Prog: function 16 -/
mutual
def ltkref20_Prog.l0 : Nat → List Int → Int → List (S54) → Int → Option ((List (S54)))
  | 0, _, _, _, _ => none
  | k + 1, x0, x3, x4, x5 => if x5 < x3 then (if 0 ≤ (wrap64 (3 * x5)) then (if (wrap64 (3 * x5)) < (x0.length : Int) then (if 0 ≤ (wrap64 ((wrap64 (3 * x5)) + 1)) then (if (wrap64 ((wrap64 (3 * x5)) + 1)) < (x0.length : Int) then (if 0 ≤ (wrap64 ((wrap64 (3 * x5)) + 2)) then (if (wrap64 ((wrap64 (3 * x5)) + 2)) < (x0.length : Int) then (if (Int.tmod (rd x0 (wrap64 (3 * x5))) 8) = 0 then (ltkref20_Prog.j1 k x0 x3 x4 x5 (wrap64 (rd x0 (wrap64 ((wrap64 (3 * x5)) + 1)))) (wrap64 (rd x0 (wrap64 ((wrap64 (3 * x5)) + 2)))) (Int.tmod (rd x0 (wrap64 (3 * x5))) 8) ((Int.tmod (rd x0 (wrap64 (3 * x5))) 8) == 0)) else (ltkref20_Prog.j1 k x0 x3 x4 x5 (wrap64 (rd x0 (wrap64 ((wrap64 (3 * x5)) + 1)))) (wrap64 (rd x0 (wrap64 ((wrap64 (3 * x5)) + 2)))) (Int.tmod (rd x0 (wrap64 (3 * x5))) 8) ((Int.tmod (rd x0 (wrap64 (3 * x5))) 8) == 1))) else (none)) else (none)) else (none)) else (none)) else (none)) else (none)) else (some x4)
def ltkref20_Prog.j1 : Nat → List Int → Int → List (S54) → Int → Int → Int → Int → Bool → Option ((List (S54)))
  | 0, _, _, _, _, _, _, _, _ => none
  | k + 1, x0, x3, x4, x5, x7, x8, x38, x39 => if x39 = true then (if x4.length < 2513169434916 then (ltkref20_Prog.l0 k x0 x3 (x4 ++ [(⟨1, Int.tmod x7 4, Int.tmod x8 16, wrap64 ((Int.tmod (wrap64 (Int.tdiv x8 16)) 5) - 1), ([] : List Int)⟩ : S54)]) (wrap64 (x5 + 1))) else (none)) else (if x38 = 2 then (ltkref20_Prog.j2 k x0 x3 x4 x5 x7 x8 x38 (x38 == 2)) else (ltkref20_Prog.j2 k x0 x3 x4 x5 x7 x8 x38 (x38 == 3)))
def ltkref20_Prog.j2 : Nat → List Int → Int → List (S54) → Int → Int → Int → Int → Bool → Option ((List (S54)))
  | 0, _, _, _, _, _, _, _, _ => none
  | k + 1, x0, x3, x4, x5, x7, x8, x38, x54 => if x54 = true then (if x4.length < 2513169434916 then (ltkref20_Prog.l0 k x0 x3 (x4 ++ [(⟨2, Int.tmod x7 4, Int.tmod x8 16, wrap64 ((Int.tmod (wrap64 (Int.tdiv x8 16)) 5) - 1), ([] : List Int)⟩ : S54)]) (wrap64 (x5 + 1))) else (none)) else (if x38 = 4 then (if x4.length < 2513169434916 then (ltkref20_Prog.l0 k x0 x3 (x4 ++ [(⟨3, Int.tmod x7 4, x8, 0, ([] : List Int)⟩ : S54)]) (wrap64 (x5 + 1))) else (none)) else (if x38 = 5 then (if x4.length < 2513169434916 then (ltkref20_Prog.l0 k x0 x3 (x4 ++ [(⟨4, Int.tmod x7 4, Int.tmod x8 9, 0, (([0, 1] : List Int))⟩ : S54)]) (wrap64 (x5 + 1))) else (none)) else (if x38 = 6 then (if (wrap64 (x5 + 2)) ≤ x3 then (if x4.length < 2513169434916 then (ltkref20_Prog.l0 k x0 x3 (x4 ++ [(⟨5, Int.tmod x7 4, wrap64 (x5 + 2), 0, ([] : List Int)⟩ : S54)]) (wrap64 (x5 + 1))) else (none)) else (if x4.length < 2513169434916 then (ltkref20_Prog.l0 k x0 x3 (x4 ++ [(⟨3, Int.tmod x7 4, 1, 0, ([] : List Int)⟩ : S54)]) (wrap64 (x5 + 1))) else (none))) else (if x38 = 7 then (if x8 = 255 then (if x4.length < 2513169434916 then (ltkref20_Prog.l0 k x0 x3 (x4 ++ [(⟨6, 0, 0, 0, ([] : List Int)⟩ : S54)]) (wrap64 (x5 + 1))) else (none)) else (if x8 = 254 then (if x4.length < 2513169434916 then (ltkref20_Prog.l0 k x0 x3 (x4 ++ [(⟨7, 0, 0, 0, ([] : List Int)⟩ : S54)]) (wrap64 (x5 + 1))) else (none)) else (if x4.length < 2513169434916 then (ltkref20_Prog.l0 k x0 x3 (x4 ++ [(⟨3, Int.tmod x7 4, x8, 0, ([] : List Int)⟩ : S54)]) (wrap64 (x5 + 1))) else (none)))) else (ltkref20_Prog.l0 k x0 x3 x4 (wrap64 (x5 + 1)))))))
end
def ltkref20_Prog.f (k : Nat) (l0 : List Int) : Option ((List (S54))) := ltkref20_Prog.l0 k l0 (mn (wrap64 ((l0.length : Int) / 3)) 60) ([] : List (S54)) 0
theorem ltkref20_Prog.mono_l : ∀ k, (∀ y0 y1 y2 y3, LeO (ltkref20_Prog.l0 k y0 y1 y2 y3) (ltkref20_Prog.l0 (k + 1) y0 y1 y2 y3)) ∧ (∀ y0 y1 y2 y3 y4 y5 y6 y7, LeO (ltkref20_Prog.j1 k y0 y1 y2 y3 y4 y5 y6 y7) (ltkref20_Prog.j1 (k + 1) y0 y1 y2 y3 y4 y5 y6 y7)) ∧ (∀ y0 y1 y2 y3 y4 y5 y6 y7, LeO (ltkref20_Prog.j2 k y0 y1 y2 y3 y4 y5 y6 y7) (ltkref20_Prog.j2 (k + 1) y0 y1 y2 y3 y4 y5 y6 y7))
  | 0 => ⟨fun _ _ _ _ r h => by simp [ltkref20_Prog.l0] at h, fun _ _ _ _ _ _ _ _ r h => by simp [ltkref20_Prog.j1] at h, fun _ _ _ _ _ _ _ _ r h => by simp [ltkref20_Prog.j2] at h⟩
  | k + 1 => by
    obtain ⟨ih0, ih1, ih2⟩ := ltkref20_Prog.mono_l k
    refine ⟨?_, ?_, ?_⟩
    · intro y0 y1 y2 y3
      unfold ltkref20_Prog.l0
      repeat' first
      | (with_reducible exact ih0 _ _ _ _)
      | (with_reducible exact ih1 _ _ _ _ _ _ _ _)
      | (with_reducible exact ih2 _ _ _ _ _ _ _ _)
      | (with_reducible exact LeO.refl _)
      | (with_reducible exact LeO.none _)
      | (with_reducible refine LeO.ite ?_ ?_)
      | (with_reducible refine LeO.bind ?_ (fun _ => ?_))
      | exact ih0 _ _ _ _
      | exact ih1 _ _ _ _ _ _ _ _
      | exact ih2 _ _ _ _ _ _ _ _
      | exact LeO.none _
      | refine LeO.ite ?_ ?_
      | refine LeO.bind ?_ (fun _ => ?_)
    · intro y0 y1 y2 y3 y4 y5 y6 y7
      unfold ltkref20_Prog.j1
      repeat' first
      | (with_reducible exact ih0 _ _ _ _)
      | (with_reducible exact ih1 _ _ _ _ _ _ _ _)
      | (with_reducible exact ih2 _ _ _ _ _ _ _ _)
      | (with_reducible exact LeO.refl _)
      | (with_reducible exact LeO.none _)
      | (with_reducible refine LeO.ite ?_ ?_)
      | (with_reducible refine LeO.bind ?_ (fun _ => ?_))
      | exact ih0 _ _ _ _
      | exact ih1 _ _ _ _ _ _ _ _
      | exact ih2 _ _ _ _ _ _ _ _
      | exact LeO.none _
      | refine LeO.ite ?_ ?_
      | refine LeO.bind ?_ (fun _ => ?_)
    · intro y0 y1 y2 y3 y4 y5 y6 y7
      unfold ltkref20_Prog.j2
      repeat' first
      | (with_reducible exact ih0 _ _ _ _)
      | (with_reducible exact ih1 _ _ _ _ _ _ _ _)
      | (with_reducible exact ih2 _ _ _ _ _ _ _ _)
      | (with_reducible exact LeO.refl _)
      | (with_reducible exact LeO.none _)
      | (with_reducible refine LeO.ite ?_ ?_)
      | (with_reducible refine LeO.bind ?_ (fun _ => ?_))
      | exact ih0 _ _ _ _
      | exact ih1 _ _ _ _ _ _ _ _
      | exact ih2 _ _ _ _ _ _ _ _
      | exact LeO.none _
      | refine LeO.ite ?_ ?_
      | refine LeO.bind ?_ (fun _ => ?_)
theorem ltkref20_Prog.mono : ∀ a0 k, LeO (ltkref20_Prog.f k a0) (ltkref20_Prog.f (k + 1) a0) := by
  intro a0 k
  obtain ⟨ih0, ih1, ih2⟩ := ltkref20_Prog.mono_l k
  unfold ltkref20_Prog.f
  repeat' first
      | (with_reducible exact ih0 _ _ _ _)
      | (with_reducible exact ih1 _ _ _ _ _ _ _ _)
      | (with_reducible exact ih2 _ _ _ _ _ _ _ _)
      | (with_reducible exact LeO.refl _)
      | (with_reducible exact LeO.none _)
      | (with_reducible refine LeO.ite ?_ ?_)
      | (with_reducible refine LeO.bind ?_ (fun _ => ?_))
      | exact ih0 _ _ _ _
      | exact ih1 _ _ _ _ _ _ _ _
      | exact ih2 _ _ _ _ _ _ _ _
      | exact LeO.none _
      | refine LeO.ite ?_ ?_
      | refine LeO.bind ?_ (fun _ => ?_)
set_option maxHeartbeats 8000000 in
set_option maxRecDepth 100000 in
theorem ltkref20_Prog.calls (k : Nat) (A0 : Option Addr) (c0 : Nat) (l0 : List Int) (r : List (S54)) (w : World) (hr0 : Kd.C (Kd.int .u8) w A0 l0.length l0) (hc0 : l0.length ≤ c0) (h : ltkref20_Prog.f k l0 = some r) :
    Calls Try.prog 16 #[.slice A0 l0.length c0] w fun e w' => ∃ v0_ : Value, e = .returned (v0_) ∧ Kd.S k54 54 w' w.heap.size (fun _ => True) v0_ r ∧ Below w.heap.size w w' := by
  have hu54 := Try.underlying54
  have HR0 := Aside0.mk hr0
  have HC0 := Aside0.mk hc0
  clear hr0 hc0
  have HB := Aside0.mk (Below.refl w.heap.size w)
  have H : (ltkref20_Prog.l0 k l0 (mn (wrap64 ((l0.length : Int) / 3)) 60) ([] : List (S54)) 0) = some r := h
  clear h
  obtain ⟨ji2, hji2⟩ : ∃ j_ : Int, (mn (wrap64 ((l0.length : Int) / 3)) 60) = j_ := ⟨_, rfl⟩
  replace H : (ltkref20_Prog.l0 k l0 ji2 ([] : List (S54)) 0) = some r := by first | (rw [hji2] at H; exact H) | (simp only [hji2] at H ⊢; exact H)
  (try (have hji2h : ji2 ≤ 60 := by (rw [← hji2]; unfold mn; (repeat' split) <;> omega)))
  (try (have hji2g : ji2 ≤ 64 := by omega))
  have hji2_ : (if 60 < (wrap64 ((l0.length : Int) / 3)) then 60 else (wrap64 ((l0.length : Int) / 3))) = ji2 := hji2
  have H' := Aside0.mk H
  clear H
  go_enter Try.func16, Try.ntmps16
  go_wp2
  repeat (go_quiet (fail); try go_wp2)
  go_loopg [4, 5] k (fun kq v4 v5 w' => ∃ (x4_1 : List (S54)) (x5_1 : Int), v5 = .int .i64 x5_1 ∧ Aside0 (ltkref20_Prog.l0 kq l0 ji2 x4_1 x5_1 = some r) ∧ Aside0 (kq ≤ k) ∧ Aside0 (Kd.S k54 54 w' w.heap.size (fun _ => True) v4 x4_1) ∧ Aside0 (Below w.heap.size w w'))
  case atStart => exact ⟨(([] : List (S54))), (0), (by first | rfl | (simp; done) | (simp [*]; done)), H', ⟨Nat.le_refl _⟩, ⟨by first | exact Kd.S_nil _ _ _ _ _ | exact Kd.N_nil _ _ _ _ _ | exact Kd.V_nil _ _ _ _ _ | exact Kd.Q_nil _ _ _ _ _ | exact Kd.R_nil _ _ _ _ _⟩, ⟨by repeat (first | (with_reducible first | exact HB.out | apply below_alloc | apply pw_below_drewN | apply below_drew1) | exact HB.out)⟩⟩
  case round =>
    clear H'
    try clear c1
    try clear p2
    obtain ⟨x4_1, x5_1, rfl, HA, HK1, HO_4, HB⟩ := hrel
    cases gk with
    | zero => exact absurd HA.out (by simp [ltkref20_Prog.l0])
    | succ k1 =>
      have H := HA.out
      clear HA
      simp only [ltkref20_Prog.l0] at H
      by_cases c3 : x5_1 < ji2
      · rw [if_pos c3] at H
        have c3b0 : decide (x5_1 < ji2) = true := decide_eq_true c3
        clear c3
        obtain ⟨ji4, hji4⟩ : ∃ j_ : Int, (wrap64 (3 * x5_1)) = j_ := ⟨_, rfl⟩
        replace H : (if 0 ≤ (ji4) then (if (ji4) < (l0.length : Int) then (if 0 ≤ (wrap64 ((ji4) + 1)) then (if (wrap64 ((ji4) + 1)) < (l0.length : Int) then (if 0 ≤ (wrap64 ((ji4) + 2)) then (if (wrap64 ((ji4) + 2)) < (l0.length : Int) then (if (Int.tmod (rd l0 (ji4)) 8) = 0 then (ltkref20_Prog.j1 k1 l0 ji2 x4_1 x5_1 (wrap64 (rd l0 (wrap64 ((ji4) + 1)))) (wrap64 (rd l0 (wrap64 ((ji4) + 2)))) (Int.tmod (rd l0 (ji4)) 8) ((Int.tmod (rd l0 (ji4)) 8) == 0)) else (ltkref20_Prog.j1 k1 l0 ji2 x4_1 x5_1 (wrap64 (rd l0 (wrap64 ((ji4) + 1)))) (wrap64 (rd l0 (wrap64 ((ji4) + 2)))) (Int.tmod (rd l0 (ji4)) 8) ((Int.tmod (rd l0 (ji4)) 8) == 1))) else (none)) else (none)) else (none)) else (none)) else (none)) else (none)) = some r := by first | (rw [hji4] at H; exact H) | (simp only [hji4] at H ⊢; exact H)
        have hji4w : (IntKind.i64.wrap (3 * x5_1)) = ji4 := (i64_w _).trans hji4
        by_cases c5 : 0 ≤ (ji4)
        · rw [if_pos c5] at H
          have c5b0 : decide (0 ≤ (ji4)) = true := decide_eq_true c5
          clear c5
          by_cases c6 : (ji4) < (l0.length : Int)
          · rw [if_pos c6] at H
            have c6b0 : decide ((ji4) < (l0.length : Int)) = true := decide_eq_true c6
            clear c6
            obtain ⟨ji7, hji7⟩ : ∃ j_ : Int, (wrap64 ((ji4) + 1)) = j_ := ⟨_, rfl⟩
            replace H : (if 0 ≤ (ji7) then (if (ji7) < (l0.length : Int) then (if 0 ≤ (wrap64 ((ji4) + 2)) then (if (wrap64 ((ji4) + 2)) < (l0.length : Int) then (if (Int.tmod (rd l0 (ji4)) 8) = 0 then (ltkref20_Prog.j1 k1 l0 ji2 x4_1 x5_1 (wrap64 (rd l0 (ji7))) (wrap64 (rd l0 (wrap64 ((ji4) + 2)))) (Int.tmod (rd l0 (ji4)) 8) ((Int.tmod (rd l0 (ji4)) 8) == 0)) else (ltkref20_Prog.j1 k1 l0 ji2 x4_1 x5_1 (wrap64 (rd l0 (ji7))) (wrap64 (rd l0 (wrap64 ((ji4) + 2)))) (Int.tmod (rd l0 (ji4)) 8) ((Int.tmod (rd l0 (ji4)) 8) == 1))) else (none)) else (none)) else (none)) else (none)) = some r := by first | (rw [hji7] at H; exact H) | (simp only [hji7] at H ⊢; exact H)
            have hji7w : (IntKind.i64.wrap ((ji4) + 1)) = ji7 := (i64_w _).trans hji7
            by_cases c8 : 0 ≤ (ji7)
            · rw [if_pos c8] at H
              have c8b0 : decide (0 ≤ (ji7)) = true := decide_eq_true c8
              clear c8
              by_cases c9 : (ji7) < (l0.length : Int)
              · rw [if_pos c9] at H
                have c9b0 : decide ((ji7) < (l0.length : Int)) = true := decide_eq_true c9
                clear c9
                obtain ⟨ji10, hji10⟩ : ∃ j_ : Int, (wrap64 ((ji4) + 2)) = j_ := ⟨_, rfl⟩
                replace H : (if 0 ≤ (ji10) then (if (ji10) < (l0.length : Int) then (if (Int.tmod (rd l0 (ji4)) 8) = 0 then (ltkref20_Prog.j1 k1 l0 ji2 x4_1 x5_1 (wrap64 (rd l0 (ji7))) (wrap64 (rd l0 (ji10))) (Int.tmod (rd l0 (ji4)) 8) ((Int.tmod (rd l0 (ji4)) 8) == 0)) else (ltkref20_Prog.j1 k1 l0 ji2 x4_1 x5_1 (wrap64 (rd l0 (ji7))) (wrap64 (rd l0 (ji10))) (Int.tmod (rd l0 (ji4)) 8) ((Int.tmod (rd l0 (ji4)) 8) == 1))) else (none)) else (none)) = some r := by first | (rw [hji10] at H; exact H) | (simp only [hji10] at H ⊢; exact H)
                have hji10w : (IntKind.i64.wrap ((ji4) + 2)) = ji10 := (i64_w _).trans hji10
                by_cases c11 : 0 ≤ (ji10)
                · rw [if_pos c11] at H
                  have c11b0 : decide (0 ≤ (ji10)) = true := decide_eq_true c11
                  clear c11
                  by_cases c12 : (ji10) < (l0.length : Int)
                  · rw [if_pos c12] at H
                    have c12b0 : decide ((ji10) < (l0.length : Int)) = true := decide_eq_true c12
                    clear c12
                    have HC13 := Aside0.mk H
                    clear H
                    have p197 : 0 ≤ ((ji4) : Int) := of_decide_eq_true (by first | (with_reducible assumption) | assumption)
                    have q197 : (ji4) < (l0.length : Int) := of_decide_eq_true (by first | (with_reducible assumption) | assumption)
                    obtain ⟨ad197, e197, hx197_0⟩ := Kd.at_int HR0.out (ji4) p197 q197
                    cases e197
                    replace hx197_0 := (HB.out.cell (World.block_lt_of_cell? w _ hx197_0)).trans hx197_0
                    replace p197 := eq_true p197
                    replace q197 := eq_true q197
                    have p198 : 0 ≤ ((ji7) : Int) := of_decide_eq_true (by first | (with_reducible assumption) | assumption)
                    have q198 : (ji7) < (l0.length : Int) := of_decide_eq_true (by first | (with_reducible assumption) | assumption)
                    obtain ⟨ad198, e198, hx198_0⟩ := Kd.at_int HR0.out (ji7) p198 q198
                    obtain rfl : ad197 = ad198 := (by injection e198)
                    replace hx198_0 := (HB.out.cell (World.block_lt_of_cell? w _ hx198_0)).trans hx198_0
                    replace p198 := eq_true p198
                    replace q198 := eq_true q198
                    have p199 : 0 ≤ ((ji10) : Int) := of_decide_eq_true (by first | (with_reducible assumption) | assumption)
                    have q199 : (ji10) < (l0.length : Int) := of_decide_eq_true (by first | (with_reducible assumption) | assumption)
                    obtain ⟨ad199, e199, hx199_0⟩ := Kd.at_int HR0.out (ji10) p199 q199
                    obtain rfl : ad197 = ad199 := (by injection e199)
                    replace hx199_0 := (HB.out.cell (World.block_lt_of_cell? w _ hx199_0)).trans hx199_0
                    replace p199 := eq_true p199
                    replace q199 := eq_true q199
                    go_upto_if 39 with (fail)
                    repeat (go_quiet (fail); go_upto_if 39 with (fail))
                    go_cut [39] (fun v39 wc => ∃ (kq : Nat) (x39_12 : Bool), v39 = .bool x39_12 ∧ Aside0 (ltkref20_Prog.j1 kq l0 ji2 x4_1 x5_1 (wrap64 (rd l0 (ji7))) (wrap64 (rd l0 (ji10))) (Int.tmod (rd l0 (ji4)) 8) x39_12 = some r) ∧ Aside0 (kq ≤ k1) ∧ Aside0 (Kd.S k54 54 wc w.heap.size (fun _ => True) u4 x4_1) ∧ Aside0 (Below w.heap.size w wc))
                    case first =>
                      have H := HC13.out
                      clear HC13
                      by_cases c14 : (Int.tmod (rd l0 (ji4)) 8) = 0
                      · rw [if_pos c14] at H
                        have c14b0 : ((Int.tmod (rd l0 (ji4)) 8) == 0) = true := beq_iff_eq.mpr c14
                        have c14b1 : ((Int.tmod (rd l0 (ji4)) 8) != 0) = false := bne_eq_false_iff_eq.mpr c14
                        clear c14
                        (first | rw [c14b0] | (simp only [i64_w, i32_w]; rw [c14b0]) | skip)
                        have H' := Aside0.mk H
                        clear H
                        go_wp2
                        repeat (go_quiet (fail); try go_wp2)
                        go_meet
                        case rel => exact ⟨_, (((Int.tmod (rd l0 (ji4)) 8) == 0)), (by first | rfl | (simp; done) | (simp only [← hji4] <;> (first | rfl | (simp; done))) | (simp [*]; done)), H', ⟨by have := HK1.out; first | omega | exact Nat.le_refl _⟩, ⟨by (with_reducible repeat (first | apply Kd.S_alloc | apply Kd.S_drewN | apply Kd.S_drew)); exact HO_4.out⟩, ⟨by repeat (first | (with_reducible first | exact HB.out | apply below_alloc | apply pw_below_drewN | apply below_drew1) | exact HB.out)⟩⟩
                      · rw [if_neg c14] at H
                        have c14b0 : ((Int.tmod (rd l0 (ji4)) 8) == 0) = false := beq_eq_false_iff_ne.mpr c14
                        have c14b1 : ((Int.tmod (rd l0 (ji4)) 8) != 0) = true := bne_iff_ne.mpr c14
                        (first | rw [c14b0] | (simp only [i64_w, i32_w]; rw [c14b0]) | skip)
                        have H' := Aside0.mk H
                        clear H
                        go_wp2
                        repeat (go_quiet (fail); try go_wp2)
                        go_meet
                        case rel => exact ⟨_, (((Int.tmod (rd l0 (ji4)) 8) == 1)), (by first | rfl | (simp; done) | (simp only [← hji4] <;> (first | rfl | (simp; done))) | (simp [*]; done)), H', ⟨by have := HK1.out; first | omega | exact Nat.le_refl _⟩, ⟨by (with_reducible repeat (first | apply Kd.S_alloc | apply Kd.S_drewN | apply Kd.S_drew)); exact HO_4.out⟩, ⟨by repeat (first | (with_reducible first | exact HB.out | apply below_alloc | apply pw_below_drewN | apply below_drew1) | exact HB.out)⟩⟩
                    case rest =>
                      clear HC13
                      try clear c1
                      try clear p1
                      try clear q1
                      try clear hx1
                      try clear p2
                      try clear c3
                      try clear c3b0
                      try clear c5
                      try clear c5b0
                      try clear c6
                      try clear c6b0
                      try clear p6
                      try clear c8
                      try clear c8b0
                      try clear c9
                      try clear c9b0
                      try clear c11
                      try clear c11b0
                      try clear c12
                      try clear c12b0
                      try clear c14
                      try clear c14b0
                      try clear c14b1
                      try clear hx197_0
                      try clear hx198_0
                      try clear hx199_0
                      try clear p197
                      try clear p198
                      try clear p199
                      try clear p2
                      try clear q197
                      try clear q198
                      try clear q199
                      obtain ⟨kq, x39_12, rfl, HA, HJ12, HO_4, HB⟩ := hcut
                      cases kq with
                      | zero => exact absurd HA.out (by simp [ltkref20_Prog.j1])
                      | succ kj12 =>
                        have H := HA.out
                        clear HA
                        simp only [ltkref20_Prog.j1] at H
                        by_cases c15 : x39_12 = true
                        · subst c15
                          have H1 : (if x4_1.length < 2513169434916 then (ltkref20_Prog.l0 kj12 l0 ji2 (x4_1 ++ [(⟨1, Int.tmod (wrap64 (rd l0 (ji7))) 4, Int.tmod (wrap64 (rd l0 (ji10))) 16, wrap64 ((Int.tmod (wrap64 (Int.tdiv (wrap64 (rd l0 (ji10))) 16)) 5) - 1), ([] : List Int)⟩ : S54)]) (wrap64 (x5_1 + 1))) else (none)) = some r := by rw [if_pos rfl] at H; exact H
                          clear H
                          have H := H1
                          clear H1
                          by_cases c16 : x4_1.length < 2513169434916
                          · rw [if_pos c16] at H
                            have LMc16 := Aside0.mk c16
                            clear c16
                            obtain ⟨y200, hy200⟩ : ∃ y_ : List (S54), y_ = (x4_1 ++ [(⟨1, Int.tmod (wrap64 (rd l0 (ji7))) 4, Int.tmod (wrap64 (rd l0 (ji10))) 16, wrap64 ((Int.tmod (wrap64 (Int.tdiv (wrap64 (rd l0 (ji10))) 16)) 5) - 1), ([] : List Int)⟩ : S54)]) := ⟨_, rfl⟩
                            replace H : (ltkref20_Prog.l0 kj12 l0 ji2 y200 (wrap64 (x5_1 + 1))) = some r := by first | (rw [hy200]; with_reducible exact H) | (have H2_ := (Option.bind_some _ _).symm.trans H; rw [hy200]; with_reducible exact H2_) | (have H2_ := (Option.bind_some _ _).symm.trans H; with_reducible exact H2_) | with_reducible exact H | (rw [hy200]; exact H) | exact H
                            have Ny200 := Aside0.mk hy200
                            clear hy200
                            have H' := Aside0.mk H
                            clear H
                            go_wp2_with (first | ((with_reducible refine gate_builtin (b := .append) (xs := #[.tmp 42, .tmp 52]) rfl ?_); at_builtin; refine Kd.S_append k54 (w0 := w) w.heap.size rfl (.tmp 42) (.tmp 52) 22 54 (.agg #[(.int .i64 0), (.int .i64 0), (.int .i64 0), (.int .i64 0), (.slice none 0 0)]) 56 rfl Try.underlying22 info54 rfl (by decide) (by omega) u4 x4_1 (⟨1, Int.tmod (wrap64 (rd l0 (ji7))) 4, Int.tmod (wrap64 (rd l0 (ji10))) 16, wrap64 ((Int.tmod (wrap64 (Int.tdiv (wrap64 (rd l0 (ji10))) 16)) 5) - 1), ([] : List Int)⟩ : S54) [.int .i64 1, .int .i64 (Int.tmod (wrap64 (rd l0 (ji7))) 4), .int .i64 (Int.tmod (wrap64 (rd l0 (ji10))) 16), .int .i64 (wrap64 ((Int.tmod (wrap64 (Int.tdiv (wrap64 (rd l0 (ji10))) 16)) 5) - 1)), .slice none 0 0] (fun _ => True) (fun _ => False) rfl rfl ?aP (fun k_ hk_ => hk_.elim) ?aF ?aO ?aB ?aS ?aL ?_; (case aP => exact k54_mkM _ _ _ (⟨1, Int.tmod (wrap64 (rd l0 (ji7))) 4, Int.tmod (wrap64 (rd l0 (ji10))) 16, wrap64 ((Int.tmod (wrap64 (Int.tdiv (wrap64 (rd l0 (ji10))) 16)) 5) - 1), ([] : List Int)⟩ : S54) (Kd.R_nil _ _ _ _ _)); (case aB => exact (by repeat (first | (with_reducible first | exact HB.out | apply below_alloc | apply pw_below_drewN | apply below_drew1) | exact HB.out))); (case aF => exact (fun _ _ => trivial)); (case aO => exact (by (with_reducible repeat (first | apply Kd.S_alloc | apply Kd.S_drewN | apply Kd.S_drew)); exact Kd.S_mono HO_4.out (fun k_ hk => ⟨trivial, fun e_ => e_⟩))); (case aS => exact (below_size (by repeat (first | (with_reducible first | exact HB.out | apply below_alloc | apply pw_below_drewN | apply below_drew1) | exact HB.out)))); (case aL => have := LMc16.out; omega); intro v201 w17 ho hb hg hat; rw [← Ny200.out] at ho; have n0_ := Aside0.mk (hb); have n1_ := Aside0.mk (ho); clear HB; clear HO_4; have HB := n0_; have HO202 := n1_; clear n0_ n1_; clear ho hb hg hat))
                            repeat (go_quiet (first | ((with_reducible refine gate_builtin (b := .append) (xs := #[.tmp 42, .tmp 52]) rfl ?_); at_builtin; refine Kd.S_append k54 (w0 := w) w.heap.size rfl (.tmp 42) (.tmp 52) 22 54 (.agg #[(.int .i64 0), (.int .i64 0), (.int .i64 0), (.int .i64 0), (.slice none 0 0)]) 56 rfl Try.underlying22 info54 rfl (by decide) (by omega) u4 x4_1 (⟨1, Int.tmod (wrap64 (rd l0 (ji7))) 4, Int.tmod (wrap64 (rd l0 (ji10))) 16, wrap64 ((Int.tmod (wrap64 (Int.tdiv (wrap64 (rd l0 (ji10))) 16)) 5) - 1), ([] : List Int)⟩ : S54) [.int .i64 1, .int .i64 (Int.tmod (wrap64 (rd l0 (ji7))) 4), .int .i64 (Int.tmod (wrap64 (rd l0 (ji10))) 16), .int .i64 (wrap64 ((Int.tmod (wrap64 (Int.tdiv (wrap64 (rd l0 (ji10))) 16)) 5) - 1)), .slice none 0 0] (fun _ => True) (fun _ => False) rfl rfl ?aP (fun k_ hk_ => hk_.elim) ?aF ?aO ?aB ?aS ?aL ?_; (case aP => exact k54_mkM _ _ _ (⟨1, Int.tmod (wrap64 (rd l0 (ji7))) 4, Int.tmod (wrap64 (rd l0 (ji10))) 16, wrap64 ((Int.tmod (wrap64 (Int.tdiv (wrap64 (rd l0 (ji10))) 16)) 5) - 1), ([] : List Int)⟩ : S54) (Kd.R_nil _ _ _ _ _)); (case aB => exact (by repeat (first | (with_reducible first | exact HB.out | apply below_alloc | apply pw_below_drewN | apply below_drew1) | exact HB.out))); (case aF => exact (fun _ _ => trivial)); (case aO => exact (by (with_reducible repeat (first | apply Kd.S_alloc | apply Kd.S_drewN | apply Kd.S_drew)); exact Kd.S_mono HO_4.out (fun k_ hk => ⟨trivial, fun e_ => e_⟩))); (case aS => exact (below_size (by repeat (first | (with_reducible first | exact HB.out | apply below_alloc | apply pw_below_drewN | apply below_drew1) | exact HB.out)))); (case aL => have := LMc16.out; omega); intro v201 w17 ho hb hg hat; rw [← Ny200.out] at ho; have n0_ := Aside0.mk (hb); have n1_ := Aside0.mk (ho); clear HB; clear HO_4; have HB := n0_; have HO202 := n1_; clear n0_ n1_; clear ho hb hg hat)); try go_wp2_with (first | ((with_reducible refine gate_builtin (b := .append) (xs := #[.tmp 42, .tmp 52]) rfl ?_); at_builtin; refine Kd.S_append k54 (w0 := w) w.heap.size rfl (.tmp 42) (.tmp 52) 22 54 (.agg #[(.int .i64 0), (.int .i64 0), (.int .i64 0), (.int .i64 0), (.slice none 0 0)]) 56 rfl Try.underlying22 info54 rfl (by decide) (by omega) u4 x4_1 (⟨1, Int.tmod (wrap64 (rd l0 (ji7))) 4, Int.tmod (wrap64 (rd l0 (ji10))) 16, wrap64 ((Int.tmod (wrap64 (Int.tdiv (wrap64 (rd l0 (ji10))) 16)) 5) - 1), ([] : List Int)⟩ : S54) [.int .i64 1, .int .i64 (Int.tmod (wrap64 (rd l0 (ji7))) 4), .int .i64 (Int.tmod (wrap64 (rd l0 (ji10))) 16), .int .i64 (wrap64 ((Int.tmod (wrap64 (Int.tdiv (wrap64 (rd l0 (ji10))) 16)) 5) - 1)), .slice none 0 0] (fun _ => True) (fun _ => False) rfl rfl ?aP (fun k_ hk_ => hk_.elim) ?aF ?aO ?aB ?aS ?aL ?_; (case aP => exact k54_mkM _ _ _ (⟨1, Int.tmod (wrap64 (rd l0 (ji7))) 4, Int.tmod (wrap64 (rd l0 (ji10))) 16, wrap64 ((Int.tmod (wrap64 (Int.tdiv (wrap64 (rd l0 (ji10))) 16)) 5) - 1), ([] : List Int)⟩ : S54) (Kd.R_nil _ _ _ _ _)); (case aB => exact (by repeat (first | (with_reducible first | exact HB.out | apply below_alloc | apply pw_below_drewN | apply below_drew1) | exact HB.out))); (case aF => exact (fun _ _ => trivial)); (case aO => exact (by (with_reducible repeat (first | apply Kd.S_alloc | apply Kd.S_drewN | apply Kd.S_drew)); exact Kd.S_mono HO_4.out (fun k_ hk => ⟨trivial, fun e_ => e_⟩))); (case aS => exact (below_size (by repeat (first | (with_reducible first | exact HB.out | apply below_alloc | apply pw_below_drewN | apply below_drew1) | exact HB.out)))); (case aL => have := LMc16.out; omega); intro v201 w17 ho hb hg hat; rw [← Ny200.out] at ho; have n0_ := Aside0.mk (hb); have n1_ := Aside0.mk (ho); clear HB; clear HO_4; have HB := n0_; have HO202 := n1_; clear n0_ n1_; clear ho hb hg hat)))
                            go_roundg kj12
                            case measure => have := HK1.out; have := HJ12.out; omega
                            case rel => exact ⟨(y200), (wrap64 (x5_1 + 1)), (by first | rfl | (simp; done) | (simp [*]; done)), H', ⟨by have := HK1.out; have := HJ12.out; omega⟩, ⟨by (with_reducible repeat (first | apply Kd.S_alloc | apply Kd.S_drewN | apply Kd.S_drew)); exact HO202.out⟩, ⟨by repeat (first | (with_reducible first | exact HB.out | apply below_alloc | apply pw_below_drewN | apply below_drew1) | exact HB.out)⟩⟩
                          · rw [if_neg c16] at H
                            exact absurd H (by simp)
                        · replace c15 := Bool.eq_false_iff.mpr c15
                          subst c15
                          have H1 : (if (Int.tmod (rd l0 (ji4)) 8) = 2 then (ltkref20_Prog.j2 kj12 l0 ji2 x4_1 x5_1 (wrap64 (rd l0 (ji7))) (wrap64 (rd l0 (ji10))) (Int.tmod (rd l0 (ji4)) 8) ((Int.tmod (rd l0 (ji4)) 8) == 2)) else (ltkref20_Prog.j2 kj12 l0 ji2 x4_1 x5_1 (wrap64 (rd l0 (ji7))) (wrap64 (rd l0 (ji10))) (Int.tmod (rd l0 (ji4)) 8) ((Int.tmod (rd l0 (ji4)) 8) == 3))) = some r := by rw [if_neg (show ¬ (false = true) by decide)] at H; exact H
                          clear H
                          have H := H1
                          clear H1
                          have HC18 := Aside0.mk H
                          clear H
                          go_upto_if 54 with (fail)
                          repeat (go_quiet (fail); go_upto_if 54 with (fail))
                          go_cut [54] (fun v54 wc => ∃ (kq : Nat) (x54_17 : Bool), v54 = .bool x54_17 ∧ Aside0 (ltkref20_Prog.j2 kq l0 ji2 x4_1 x5_1 (wrap64 (rd l0 (ji7))) (wrap64 (rd l0 (ji10))) (Int.tmod (rd l0 (ji4)) 8) x54_17 = some r) ∧ Aside0 (kq ≤ kj12) ∧ Aside0 (Kd.S k54 54 wc w.heap.size (fun _ => True) u4 x4_1) ∧ Aside0 (Below w.heap.size w wc))
                          case first =>
                            have H := HC18.out
                            clear HC18
                            by_cases c19 : (Int.tmod (rd l0 (ji4)) 8) = 2
                            · rw [if_pos c19] at H
                              have c19b0 : ((Int.tmod (rd l0 (ji4)) 8) == 2) = true := beq_iff_eq.mpr c19
                              have c19b1 : ((Int.tmod (rd l0 (ji4)) 8) != 2) = false := bne_eq_false_iff_eq.mpr c19
                              clear c19
                              (first | rw [c19b0] | (simp only [i64_w, i32_w]; rw [c19b0]) | skip)
                              have H' := Aside0.mk H
                              clear H
                              go_wp2
                              repeat (go_quiet (fail); try go_wp2)
                              go_meet
                              case rel => exact ⟨_, (((Int.tmod (rd l0 (ji4)) 8) == 2)), (by first | rfl | (simp; done) | (simp only [← hji4] <;> (first | rfl | (simp; done))) | (simp [*]; done)), H', ⟨by have := HK1.out; have := HJ12.out; first | omega | exact Nat.le_refl _⟩, ⟨by (with_reducible repeat (first | apply Kd.S_alloc | apply Kd.S_drewN | apply Kd.S_drew)); exact HO_4.out⟩, ⟨by repeat (first | (with_reducible first | exact HB.out | apply below_alloc | apply pw_below_drewN | apply below_drew1) | exact HB.out)⟩⟩
                            · rw [if_neg c19] at H
                              have c19b0 : ((Int.tmod (rd l0 (ji4)) 8) == 2) = false := beq_eq_false_iff_ne.mpr c19
                              have c19b1 : ((Int.tmod (rd l0 (ji4)) 8) != 2) = true := bne_iff_ne.mpr c19
                              (first | rw [c19b0] | (simp only [i64_w, i32_w]; rw [c19b0]) | skip)
                              have H' := Aside0.mk H
                              clear H
                              go_wp2
                              repeat (go_quiet (fail); try go_wp2)
                              go_meet
                              case rel => exact ⟨_, (((Int.tmod (rd l0 (ji4)) 8) == 3)), (by first | rfl | (simp; done) | (simp only [← hji4] <;> (first | rfl | (simp; done))) | (simp [*]; done)), H', ⟨by have := HK1.out; have := HJ12.out; first | omega | exact Nat.le_refl _⟩, ⟨by (with_reducible repeat (first | apply Kd.S_alloc | apply Kd.S_drewN | apply Kd.S_drew)); exact HO_4.out⟩, ⟨by repeat (first | (with_reducible first | exact HB.out | apply below_alloc | apply pw_below_drewN | apply below_drew1) | exact HB.out)⟩⟩
                          case rest =>
                            clear HC18
                            try clear c1
                            try clear p1
                            try clear q1
                            try clear hx1
                            try clear p2
                            try clear c3
                            try clear c3b0
                            try clear c5
                            try clear c5b0
                            try clear c6
                            try clear c6b0
                            try clear p6
                            try clear c8
                            try clear c8b0
                            try clear c9
                            try clear c9b0
                            try clear c11
                            try clear c11b0
                            try clear c12
                            try clear c12b0
                            try clear c14
                            try clear c14b0
                            try clear c14b1
                            try clear c15
                            try clear c16
                            try clear c19
                            try clear c19b0
                            try clear c19b1
                            try clear p19
                            try clear q19
                            try clear hx19
                            try clear hx197_0
                            try clear hx198_0
                            try clear hx199_0
                            try clear p1
                            try clear p197
                            try clear p198
                            try clear p199
                            try clear p2
                            try clear p6
                            try clear q1
                            try clear q197
                            try clear q198
                            try clear q199
                            obtain ⟨kq, x54_17, rfl, HA, HJ17, HO_4, HB⟩ := hcut
                            cases kq with
                            | zero => exact absurd HA.out (by simp [ltkref20_Prog.j2])
                            | succ kj17 =>
                              have H := HA.out
                              clear HA
                              simp only [ltkref20_Prog.j2] at H
                              by_cases c20 : x54_17 = true
                              · subst c20
                                have H1 : (if x4_1.length < 2513169434916 then (ltkref20_Prog.l0 kj17 l0 ji2 (x4_1 ++ [(⟨2, Int.tmod (wrap64 (rd l0 (ji7))) 4, Int.tmod (wrap64 (rd l0 (ji10))) 16, wrap64 ((Int.tmod (wrap64 (Int.tdiv (wrap64 (rd l0 (ji10))) 16)) 5) - 1), ([] : List Int)⟩ : S54)]) (wrap64 (x5_1 + 1))) else (none)) = some r := by rw [if_pos rfl] at H; exact H
                                clear H
                                have H := H1
                                clear H1
                                by_cases c21 : x4_1.length < 2513169434916
                                · rw [if_pos c21] at H
                                  have LMc21 := Aside0.mk c21
                                  clear c21
                                  obtain ⟨y203, hy203⟩ : ∃ y_ : List (S54), y_ = (x4_1 ++ [(⟨2, Int.tmod (wrap64 (rd l0 (ji7))) 4, Int.tmod (wrap64 (rd l0 (ji10))) 16, wrap64 ((Int.tmod (wrap64 (Int.tdiv (wrap64 (rd l0 (ji10))) 16)) 5) - 1), ([] : List Int)⟩ : S54)]) := ⟨_, rfl⟩
                                  replace H : (ltkref20_Prog.l0 kj17 l0 ji2 y203 (wrap64 (x5_1 + 1))) = some r := by first | (rw [hy203]; with_reducible exact H) | (have H2_ := (Option.bind_some _ _).symm.trans H; rw [hy203]; with_reducible exact H2_) | (have H2_ := (Option.bind_some _ _).symm.trans H; with_reducible exact H2_) | with_reducible exact H | (rw [hy203]; exact H) | exact H
                                  have Ny203 := Aside0.mk hy203
                                  clear hy203
                                  have H' := Aside0.mk H
                                  clear H
                                  go_wp2_with (first | ((with_reducible refine gate_builtin (b := .append) (xs := #[.tmp 57, .tmp 67]) rfl ?_); at_builtin; refine Kd.S_append k54 (w0 := w) w.heap.size rfl (.tmp 57) (.tmp 67) 22 54 (.agg #[(.int .i64 0), (.int .i64 0), (.int .i64 0), (.int .i64 0), (.slice none 0 0)]) 56 rfl Try.underlying22 info54 rfl (by decide) (by omega) u4 x4_1 (⟨2, Int.tmod (wrap64 (rd l0 (ji7))) 4, Int.tmod (wrap64 (rd l0 (ji10))) 16, wrap64 ((Int.tmod (wrap64 (Int.tdiv (wrap64 (rd l0 (ji10))) 16)) 5) - 1), ([] : List Int)⟩ : S54) [.int .i64 2, .int .i64 (Int.tmod (wrap64 (rd l0 (ji7))) 4), .int .i64 (Int.tmod (wrap64 (rd l0 (ji10))) 16), .int .i64 (wrap64 ((Int.tmod (wrap64 (Int.tdiv (wrap64 (rd l0 (ji10))) 16)) 5) - 1)), .slice none 0 0] (fun _ => True) (fun _ => False) rfl rfl ?aP (fun k_ hk_ => hk_.elim) ?aF ?aO ?aB ?aS ?aL ?_; (case aP => exact k54_mkM _ _ _ (⟨2, Int.tmod (wrap64 (rd l0 (ji7))) 4, Int.tmod (wrap64 (rd l0 (ji10))) 16, wrap64 ((Int.tmod (wrap64 (Int.tdiv (wrap64 (rd l0 (ji10))) 16)) 5) - 1), ([] : List Int)⟩ : S54) (Kd.R_nil _ _ _ _ _)); (case aB => exact (by repeat (first | (with_reducible first | exact HB.out | apply below_alloc | apply pw_below_drewN | apply below_drew1) | exact HB.out))); (case aF => exact (fun _ _ => trivial)); (case aO => exact (by (with_reducible repeat (first | apply Kd.S_alloc | apply Kd.S_drewN | apply Kd.S_drew)); exact Kd.S_mono HO_4.out (fun k_ hk => ⟨trivial, fun e_ => e_⟩))); (case aS => exact (below_size (by repeat (first | (with_reducible first | exact HB.out | apply below_alloc | apply pw_below_drewN | apply below_drew1) | exact HB.out)))); (case aL => have := LMc21.out; omega); intro v204 w22 ho hb hg hat; rw [← Ny203.out] at ho; have n0_ := Aside0.mk (hb); have n1_ := Aside0.mk (ho); clear HB; clear HO_4; have HB := n0_; have HO205 := n1_; clear n0_ n1_; clear ho hb hg hat))
                                  repeat (go_quiet (first | ((with_reducible refine gate_builtin (b := .append) (xs := #[.tmp 57, .tmp 67]) rfl ?_); at_builtin; refine Kd.S_append k54 (w0 := w) w.heap.size rfl (.tmp 57) (.tmp 67) 22 54 (.agg #[(.int .i64 0), (.int .i64 0), (.int .i64 0), (.int .i64 0), (.slice none 0 0)]) 56 rfl Try.underlying22 info54 rfl (by decide) (by omega) u4 x4_1 (⟨2, Int.tmod (wrap64 (rd l0 (ji7))) 4, Int.tmod (wrap64 (rd l0 (ji10))) 16, wrap64 ((Int.tmod (wrap64 (Int.tdiv (wrap64 (rd l0 (ji10))) 16)) 5) - 1), ([] : List Int)⟩ : S54) [.int .i64 2, .int .i64 (Int.tmod (wrap64 (rd l0 (ji7))) 4), .int .i64 (Int.tmod (wrap64 (rd l0 (ji10))) 16), .int .i64 (wrap64 ((Int.tmod (wrap64 (Int.tdiv (wrap64 (rd l0 (ji10))) 16)) 5) - 1)), .slice none 0 0] (fun _ => True) (fun _ => False) rfl rfl ?aP (fun k_ hk_ => hk_.elim) ?aF ?aO ?aB ?aS ?aL ?_; (case aP => exact k54_mkM _ _ _ (⟨2, Int.tmod (wrap64 (rd l0 (ji7))) 4, Int.tmod (wrap64 (rd l0 (ji10))) 16, wrap64 ((Int.tmod (wrap64 (Int.tdiv (wrap64 (rd l0 (ji10))) 16)) 5) - 1), ([] : List Int)⟩ : S54) (Kd.R_nil _ _ _ _ _)); (case aB => exact (by repeat (first | (with_reducible first | exact HB.out | apply below_alloc | apply pw_below_drewN | apply below_drew1) | exact HB.out))); (case aF => exact (fun _ _ => trivial)); (case aO => exact (by (with_reducible repeat (first | apply Kd.S_alloc | apply Kd.S_drewN | apply Kd.S_drew)); exact Kd.S_mono HO_4.out (fun k_ hk => ⟨trivial, fun e_ => e_⟩))); (case aS => exact (below_size (by repeat (first | (with_reducible first | exact HB.out | apply below_alloc | apply pw_below_drewN | apply below_drew1) | exact HB.out)))); (case aL => have := LMc21.out; omega); intro v204 w22 ho hb hg hat; rw [← Ny203.out] at ho; have n0_ := Aside0.mk (hb); have n1_ := Aside0.mk (ho); clear HB; clear HO_4; have HB := n0_; have HO205 := n1_; clear n0_ n1_; clear ho hb hg hat)); try go_wp2_with (first | ((with_reducible refine gate_builtin (b := .append) (xs := #[.tmp 57, .tmp 67]) rfl ?_); at_builtin; refine Kd.S_append k54 (w0 := w) w.heap.size rfl (.tmp 57) (.tmp 67) 22 54 (.agg #[(.int .i64 0), (.int .i64 0), (.int .i64 0), (.int .i64 0), (.slice none 0 0)]) 56 rfl Try.underlying22 info54 rfl (by decide) (by omega) u4 x4_1 (⟨2, Int.tmod (wrap64 (rd l0 (ji7))) 4, Int.tmod (wrap64 (rd l0 (ji10))) 16, wrap64 ((Int.tmod (wrap64 (Int.tdiv (wrap64 (rd l0 (ji10))) 16)) 5) - 1), ([] : List Int)⟩ : S54) [.int .i64 2, .int .i64 (Int.tmod (wrap64 (rd l0 (ji7))) 4), .int .i64 (Int.tmod (wrap64 (rd l0 (ji10))) 16), .int .i64 (wrap64 ((Int.tmod (wrap64 (Int.tdiv (wrap64 (rd l0 (ji10))) 16)) 5) - 1)), .slice none 0 0] (fun _ => True) (fun _ => False) rfl rfl ?aP (fun k_ hk_ => hk_.elim) ?aF ?aO ?aB ?aS ?aL ?_; (case aP => exact k54_mkM _ _ _ (⟨2, Int.tmod (wrap64 (rd l0 (ji7))) 4, Int.tmod (wrap64 (rd l0 (ji10))) 16, wrap64 ((Int.tmod (wrap64 (Int.tdiv (wrap64 (rd l0 (ji10))) 16)) 5) - 1), ([] : List Int)⟩ : S54) (Kd.R_nil _ _ _ _ _)); (case aB => exact (by repeat (first | (with_reducible first | exact HB.out | apply below_alloc | apply pw_below_drewN | apply below_drew1) | exact HB.out))); (case aF => exact (fun _ _ => trivial)); (case aO => exact (by (with_reducible repeat (first | apply Kd.S_alloc | apply Kd.S_drewN | apply Kd.S_drew)); exact Kd.S_mono HO_4.out (fun k_ hk => ⟨trivial, fun e_ => e_⟩))); (case aS => exact (below_size (by repeat (first | (with_reducible first | exact HB.out | apply below_alloc | apply pw_below_drewN | apply below_drew1) | exact HB.out)))); (case aL => have := LMc21.out; omega); intro v204 w22 ho hb hg hat; rw [← Ny203.out] at ho; have n0_ := Aside0.mk (hb); have n1_ := Aside0.mk (ho); clear HB; clear HO_4; have HB := n0_; have HO205 := n1_; clear n0_ n1_; clear ho hb hg hat)))
                                  go_roundg kj17
                                  case measure => have := HK1.out; have := HJ12.out; have := HJ17.out; omega
                                  case rel => exact ⟨(y203), (wrap64 (x5_1 + 1)), (by first | rfl | (simp; done) | (simp [*]; done)), H', ⟨by have := HK1.out; have := HJ12.out; have := HJ17.out; omega⟩, ⟨by (with_reducible repeat (first | apply Kd.S_alloc | apply Kd.S_drewN | apply Kd.S_drew)); exact HO205.out⟩, ⟨by repeat (first | (with_reducible first | exact HB.out | apply below_alloc | apply pw_below_drewN | apply below_drew1) | exact HB.out)⟩⟩
                                · rw [if_neg c21] at H
                                  exact absurd H (by simp)
                              · replace c20 := Bool.eq_false_iff.mpr c20
                                subst c20
                                have H1 : (if (Int.tmod (rd l0 (ji4)) 8) = 4 then (if x4_1.length < 2513169434916 then (ltkref20_Prog.l0 kj17 l0 ji2 (x4_1 ++ [(⟨3, Int.tmod (wrap64 (rd l0 (ji7))) 4, (wrap64 (rd l0 (ji10))), 0, ([] : List Int)⟩ : S54)]) (wrap64 (x5_1 + 1))) else (none)) else (if (Int.tmod (rd l0 (ji4)) 8) = 5 then (if x4_1.length < 2513169434916 then (ltkref20_Prog.l0 kj17 l0 ji2 (x4_1 ++ [(⟨4, Int.tmod (wrap64 (rd l0 (ji7))) 4, Int.tmod (wrap64 (rd l0 (ji10))) 9, 0, (([0, 1] : List Int))⟩ : S54)]) (wrap64 (x5_1 + 1))) else (none)) else (if (Int.tmod (rd l0 (ji4)) 8) = 6 then (if (wrap64 (x5_1 + 2)) ≤ ji2 then (if x4_1.length < 2513169434916 then (ltkref20_Prog.l0 kj17 l0 ji2 (x4_1 ++ [(⟨5, Int.tmod (wrap64 (rd l0 (ji7))) 4, wrap64 (x5_1 + 2), 0, ([] : List Int)⟩ : S54)]) (wrap64 (x5_1 + 1))) else (none)) else (if x4_1.length < 2513169434916 then (ltkref20_Prog.l0 kj17 l0 ji2 (x4_1 ++ [(⟨3, Int.tmod (wrap64 (rd l0 (ji7))) 4, 1, 0, ([] : List Int)⟩ : S54)]) (wrap64 (x5_1 + 1))) else (none))) else (if (Int.tmod (rd l0 (ji4)) 8) = 7 then (if (wrap64 (rd l0 (ji10))) = 255 then (if x4_1.length < 2513169434916 then (ltkref20_Prog.l0 kj17 l0 ji2 (x4_1 ++ [(⟨6, 0, 0, 0, ([] : List Int)⟩ : S54)]) (wrap64 (x5_1 + 1))) else (none)) else (if (wrap64 (rd l0 (ji10))) = 254 then (if x4_1.length < 2513169434916 then (ltkref20_Prog.l0 kj17 l0 ji2 (x4_1 ++ [(⟨7, 0, 0, 0, ([] : List Int)⟩ : S54)]) (wrap64 (x5_1 + 1))) else (none)) else (if x4_1.length < 2513169434916 then (ltkref20_Prog.l0 kj17 l0 ji2 (x4_1 ++ [(⟨3, Int.tmod (wrap64 (rd l0 (ji7))) 4, (wrap64 (rd l0 (ji10))), 0, ([] : List Int)⟩ : S54)]) (wrap64 (x5_1 + 1))) else (none)))) else (ltkref20_Prog.l0 kj17 l0 ji2 x4_1 (wrap64 (x5_1 + 1))))))) = some r := by rw [if_neg (show ¬ (false = true) by decide)] at H; exact H
                                clear H
                                have H := H1
                                clear H1
                                by_cases c23 : (Int.tmod (rd l0 (ji4)) 8) = 4
                                · rw [if_pos c23] at H
                                  have c23b0 : ((Int.tmod (rd l0 (ji4)) 8) == 4) = true := beq_iff_eq.mpr c23
                                  have c23b1 : ((Int.tmod (rd l0 (ji4)) 8) != 4) = false := bne_eq_false_iff_eq.mpr c23
                                  clear c23
                                  by_cases c24 : x4_1.length < 2513169434916
                                  · rw [if_pos c24] at H
                                    have LMc24 := Aside0.mk c24
                                    clear c24
                                    obtain ⟨y206, hy206⟩ : ∃ y_ : List (S54), y_ = (x4_1 ++ [(⟨3, Int.tmod (wrap64 (rd l0 (ji7))) 4, (wrap64 (rd l0 (ji10))), 0, ([] : List Int)⟩ : S54)]) := ⟨_, rfl⟩
                                    replace H : (ltkref20_Prog.l0 kj17 l0 ji2 y206 (wrap64 (x5_1 + 1))) = some r := by first | (rw [hy206]; with_reducible exact H) | (have H2_ := (Option.bind_some _ _).symm.trans H; rw [hy206]; with_reducible exact H2_) | (have H2_ := (Option.bind_some _ _).symm.trans H; with_reducible exact H2_) | with_reducible exact H | (rw [hy206]; exact H) | exact H
                                    have Ny206 := Aside0.mk hy206
                                    clear hy206
                                    have H' := Aside0.mk H
                                    clear H
                                    go_wp2_with (first | ((with_reducible refine gate_builtin (b := .append) (xs := #[.tmp 71, .tmp 76]) rfl ?_); at_builtin; refine Kd.S_append k54 (w0 := w) w.heap.size rfl (.tmp 71) (.tmp 76) 22 54 (.agg #[(.int .i64 0), (.int .i64 0), (.int .i64 0), (.int .i64 0), (.slice none 0 0)]) 56 rfl Try.underlying22 info54 rfl (by decide) (by omega) u4 x4_1 (⟨3, Int.tmod (wrap64 (rd l0 (ji7))) 4, (wrap64 (rd l0 (ji10))), 0, ([] : List Int)⟩ : S54) [.int .i64 3, .int .i64 (Int.tmod (wrap64 (rd l0 (ji7))) 4), .int .i64 (wrap64 (rd l0 (ji10))), .int .i64 0, .slice none 0 0] (fun _ => True) (fun _ => False) rfl rfl ?aP (fun k_ hk_ => hk_.elim) ?aF ?aO ?aB ?aS ?aL ?_; (case aP => exact k54_mkM _ _ _ (⟨3, Int.tmod (wrap64 (rd l0 (ji7))) 4, (wrap64 (rd l0 (ji10))), 0, ([] : List Int)⟩ : S54) (Kd.R_nil _ _ _ _ _)); (case aB => exact (by repeat (first | (with_reducible first | exact HB.out | apply below_alloc | apply pw_below_drewN | apply below_drew1) | exact HB.out))); (case aF => exact (fun _ _ => trivial)); (case aO => exact (by (with_reducible repeat (first | apply Kd.S_alloc | apply Kd.S_drewN | apply Kd.S_drew)); exact Kd.S_mono HO_4.out (fun k_ hk => ⟨trivial, fun e_ => e_⟩))); (case aS => exact (below_size (by repeat (first | (with_reducible first | exact HB.out | apply below_alloc | apply pw_below_drewN | apply below_drew1) | exact HB.out)))); (case aL => have := LMc24.out; omega); intro v207 w25 ho hb hg hat; rw [← Ny206.out] at ho; have n0_ := Aside0.mk (hb); have n1_ := Aside0.mk (ho); clear HB; clear HO_4; have HB := n0_; have HO208 := n1_; clear n0_ n1_; clear ho hb hg hat))
                                    repeat (go_quiet (first | ((with_reducible refine gate_builtin (b := .append) (xs := #[.tmp 71, .tmp 76]) rfl ?_); at_builtin; refine Kd.S_append k54 (w0 := w) w.heap.size rfl (.tmp 71) (.tmp 76) 22 54 (.agg #[(.int .i64 0), (.int .i64 0), (.int .i64 0), (.int .i64 0), (.slice none 0 0)]) 56 rfl Try.underlying22 info54 rfl (by decide) (by omega) u4 x4_1 (⟨3, Int.tmod (wrap64 (rd l0 (ji7))) 4, (wrap64 (rd l0 (ji10))), 0, ([] : List Int)⟩ : S54) [.int .i64 3, .int .i64 (Int.tmod (wrap64 (rd l0 (ji7))) 4), .int .i64 (wrap64 (rd l0 (ji10))), .int .i64 0, .slice none 0 0] (fun _ => True) (fun _ => False) rfl rfl ?aP (fun k_ hk_ => hk_.elim) ?aF ?aO ?aB ?aS ?aL ?_; (case aP => exact k54_mkM _ _ _ (⟨3, Int.tmod (wrap64 (rd l0 (ji7))) 4, (wrap64 (rd l0 (ji10))), 0, ([] : List Int)⟩ : S54) (Kd.R_nil _ _ _ _ _)); (case aB => exact (by repeat (first | (with_reducible first | exact HB.out | apply below_alloc | apply pw_below_drewN | apply below_drew1) | exact HB.out))); (case aF => exact (fun _ _ => trivial)); (case aO => exact (by (with_reducible repeat (first | apply Kd.S_alloc | apply Kd.S_drewN | apply Kd.S_drew)); exact Kd.S_mono HO_4.out (fun k_ hk => ⟨trivial, fun e_ => e_⟩))); (case aS => exact (below_size (by repeat (first | (with_reducible first | exact HB.out | apply below_alloc | apply pw_below_drewN | apply below_drew1) | exact HB.out)))); (case aL => have := LMc24.out; omega); intro v207 w25 ho hb hg hat; rw [← Ny206.out] at ho; have n0_ := Aside0.mk (hb); have n1_ := Aside0.mk (ho); clear HB; clear HO_4; have HB := n0_; have HO208 := n1_; clear n0_ n1_; clear ho hb hg hat)); try go_wp2_with (first | ((with_reducible refine gate_builtin (b := .append) (xs := #[.tmp 71, .tmp 76]) rfl ?_); at_builtin; refine Kd.S_append k54 (w0 := w) w.heap.size rfl (.tmp 71) (.tmp 76) 22 54 (.agg #[(.int .i64 0), (.int .i64 0), (.int .i64 0), (.int .i64 0), (.slice none 0 0)]) 56 rfl Try.underlying22 info54 rfl (by decide) (by omega) u4 x4_1 (⟨3, Int.tmod (wrap64 (rd l0 (ji7))) 4, (wrap64 (rd l0 (ji10))), 0, ([] : List Int)⟩ : S54) [.int .i64 3, .int .i64 (Int.tmod (wrap64 (rd l0 (ji7))) 4), .int .i64 (wrap64 (rd l0 (ji10))), .int .i64 0, .slice none 0 0] (fun _ => True) (fun _ => False) rfl rfl ?aP (fun k_ hk_ => hk_.elim) ?aF ?aO ?aB ?aS ?aL ?_; (case aP => exact k54_mkM _ _ _ (⟨3, Int.tmod (wrap64 (rd l0 (ji7))) 4, (wrap64 (rd l0 (ji10))), 0, ([] : List Int)⟩ : S54) (Kd.R_nil _ _ _ _ _)); (case aB => exact (by repeat (first | (with_reducible first | exact HB.out | apply below_alloc | apply pw_below_drewN | apply below_drew1) | exact HB.out))); (case aF => exact (fun _ _ => trivial)); (case aO => exact (by (with_reducible repeat (first | apply Kd.S_alloc | apply Kd.S_drewN | apply Kd.S_drew)); exact Kd.S_mono HO_4.out (fun k_ hk => ⟨trivial, fun e_ => e_⟩))); (case aS => exact (below_size (by repeat (first | (with_reducible first | exact HB.out | apply below_alloc | apply pw_below_drewN | apply below_drew1) | exact HB.out)))); (case aL => have := LMc24.out; omega); intro v207 w25 ho hb hg hat; rw [← Ny206.out] at ho; have n0_ := Aside0.mk (hb); have n1_ := Aside0.mk (ho); clear HB; clear HO_4; have HB := n0_; have HO208 := n1_; clear n0_ n1_; clear ho hb hg hat)))
                                    go_roundg kj17
                                    case measure => have := HK1.out; have := HJ12.out; have := HJ17.out; omega
                                    case rel => exact ⟨(y206), (wrap64 (x5_1 + 1)), (by first | rfl | (simp; done) | (simp [*]; done)), H', ⟨by have := HK1.out; have := HJ12.out; have := HJ17.out; omega⟩, ⟨by (with_reducible repeat (first | apply Kd.S_alloc | apply Kd.S_drewN | apply Kd.S_drew)); exact HO208.out⟩, ⟨by repeat (first | (with_reducible first | exact HB.out | apply below_alloc | apply pw_below_drewN | apply below_drew1) | exact HB.out)⟩⟩
                                  · rw [if_neg c24] at H
                                    exact absurd H (by simp)
                                · rw [if_neg c23] at H
                                  have c23b0 : ((Int.tmod (rd l0 (ji4)) 8) == 4) = false := beq_eq_false_iff_ne.mpr c23
                                  have c23b1 : ((Int.tmod (rd l0 (ji4)) 8) != 4) = true := bne_iff_ne.mpr c23
                                  by_cases c26 : (Int.tmod (rd l0 (ji4)) 8) = 5
                                  · rw [if_pos c26] at H
                                    have c26b0 : ((Int.tmod (rd l0 (ji4)) 8) == 5) = true := beq_iff_eq.mpr c26
                                    have c26b1 : ((Int.tmod (rd l0 (ji4)) 8) != 5) = false := bne_eq_false_iff_eq.mpr c26
                                    clear c26
                                    obtain ⟨y209, hy209⟩ : ∃ y_ : List Int, y_ = (([0, 1] : List Int)) := ⟨_, rfl⟩
                                    replace H : (if x4_1.length < 2513169434916 then (ltkref20_Prog.l0 kj17 l0 ji2 (x4_1 ++ [(⟨4, Int.tmod (wrap64 (rd l0 (ji7))) 4, Int.tmod (wrap64 (rd l0 (ji10))) 9, 0, y209⟩ : S54)]) (wrap64 (x5_1 + 1))) else (none)) = some r := by first | (rw [hy209]; with_reducible exact H) | (have H2_ := (Option.bind_some _ _).symm.trans H; rw [hy209]; with_reducible exact H2_) | (have H2_ := (Option.bind_some _ _).symm.trans H; with_reducible exact H2_) | with_reducible exact H | (rw [hy209]; exact H) | exact H
                                    have Ny209 := Aside0.mk hy209
                                    clear hy209
                                    by_cases c27 : x4_1.length < 2513169434916
                                    · rw [if_pos c27] at H
                                      have LMc27 := Aside0.mk c27
                                      clear c27
                                      obtain ⟨y212, hy212⟩ : ∃ y_ : List (S54), y_ = (x4_1 ++ [(⟨4, Int.tmod (wrap64 (rd l0 (ji7))) 4, Int.tmod (wrap64 (rd l0 (ji10))) 9, 0, y209⟩ : S54)]) := ⟨_, rfl⟩
                                      replace H : (ltkref20_Prog.l0 kj17 l0 ji2 y212 (wrap64 (x5_1 + 1))) = some r := by first | (rw [hy212]; with_reducible exact H) | (have H2_ := (Option.bind_some _ _).symm.trans H; rw [hy212]; with_reducible exact H2_) | (have H2_ := (Option.bind_some _ _).symm.trans H; with_reducible exact H2_) | with_reducible exact H | (rw [hy212]; exact H) | exact H
                                      have Ny212 := Aside0.mk hy212
                                      clear hy212
                                      have H' := Aside0.mk H
                                      clear H
                                      go_wp2_with (first | ((with_reducible refine gate_dst (N := 85) rfl ?_); refine Kd.R_lit (Kd.int .i64) _ 3 ?hg (N := 85) ?hd (xs := ([0, 1] : List Int)) (inner := [.int .i64 0, .int .i64 1]) (ok := fun _ => True) (okp := fun _ => True) ?hr ?hp (fun _ hk => hk) trivial (Below.refl _ _) (Nat.le_refl _) (by simp) ?_; (case hd => rfl); (case hg => rfl); (case hr => first | (go_simp; done) | (go_simp; rfl)); (case hp => exact (Reps.one (show Kd.M (Kd.int .i64) _ _ _ 0 [.int .i64 0] from rfl) (Reps.one (show Kd.M (Kd.int .i64) _ _ _ 1 [.int .i64 1] from rfl) (Reps.none _ _)))); intro v210 w28 ho29 hb hg_ hnew_; clear hg_ hnew_; (first | rw [← Ny209.out] at ho29 | (simp only [Int.reduceToNat] at ho29; rw [← Ny209.out] at ho29)); have n0_ := Aside0.mk (Kd.S_elder' (by (with_reducible repeat (first | apply Kd.S_alloc | apply Kd.S_drewN | apply Kd.S_drew)); exact HO_4.out) (Kd.R_base ho29) hb); have n1_ := Aside0.mk (Kd.R_lower ho29 (below_size (by repeat (first | (with_reducible first | exact HB.out | apply below_alloc | apply pw_below_drewN | apply below_drew1) | exact HB.out)))); have n2_ := Aside0.mk (below_step (by repeat (first | (with_reducible first | exact HB.out | apply below_alloc | apply pw_below_drewN | apply below_drew1) | exact HB.out)) hb); clear HO_4; clear HB; have HO_4 := n0_; have HO211 := n1_; have HB := n2_; clear n0_ n1_ n2_; clear hb ho29; obtain ⟨Ao30, co30, eo30⟩ := Kd.R_slice HO211.out; subst eo30) | ((with_reducible refine gate_builtin (b := .append) (xs := #[.tmp 80, .tmp 87]) rfl ?_); at_builtin; refine Kd.S_append k54 (w0 := w) w.heap.size rfl (.tmp 80) (.tmp 87) 22 54 (.agg #[(.int .i64 0), (.int .i64 0), (.int .i64 0), (.int .i64 0), (.slice none 0 0)]) 56 rfl Try.underlying22 info54 rfl (by decide) (by omega) u4 x4_1 (⟨4, Int.tmod (wrap64 (rd l0 (ji7))) 4, Int.tmod (wrap64 (rd l0 (ji10))) 9, 0, y209⟩ : S54) [.int .i64 4, .int .i64 (Int.tmod (wrap64 (rd l0 (ji7))) 4), .int .i64 (Int.tmod (wrap64 (rd l0 (ji10))) 9), .int .i64 0, .slice Ao30 y209.length co30] (fun _ => True) (fun k_ => some k_ = (.slice Ao30 y209.length co30 : Value).ownBlock) rfl rfl ?aP (fun k_ hk_ => ((Kd.R_mono (ok' := fun k_ => ((fun _ => True)) k_ ∧ some k_ ≠ (u4 : Value).ownBlock) (Kd.R_apart' (HO211.out) (Kd.S_typed HO_4.out) (by decide)) (fun k_ hk => ⟨trivial, hk.2⟩))).1 k_ hk_.symm) ?aF ?aO ?aB ?aS ?aL ?_; (case aP => exact k54_mkM _ _ _ (⟨4, Int.tmod (wrap64 (rd l0 (ji7))) 4, Int.tmod (wrap64 (rd l0 (ji10))) 9, 0, y209⟩ : S54) (Kd.R_mono (Kd.R_tight rfl (Kd.R_mono (ok' := fun k_ => ((fun _ => True)) k_ ∧ some k_ ≠ (u4 : Value).ownBlock) (Kd.R_apart' (HO211.out) (Kd.S_typed HO_4.out) (by decide)) (fun k_ hk => ⟨trivial, hk.2⟩))) (fun _ h_ => h_))); (case aB => exact (by repeat (first | (with_reducible first | exact HB.out | apply below_alloc | apply pw_below_drewN | apply below_drew1) | exact HB.out))); (case aF => exact (fun _ _ => trivial)); (case aO => exact (by (with_reducible repeat (first | apply Kd.S_alloc | apply Kd.S_drewN | apply Kd.S_drew)); exact Kd.S_mono HO_4.out (fun k_ hk => ⟨trivial, fun e_ => hk.2 e_⟩))); (case aS => exact (below_size (by repeat (first | (with_reducible first | exact HB.out | apply below_alloc | apply pw_below_drewN | apply below_drew1) | exact HB.out)))); (case aL => have := LMc27.out; omega); intro v213 w31 ho hb hg hat; rw [← Ny212.out] at ho; have n0_ := Aside0.mk (hb); have n1_ := Aside0.mk (ho); clear HB; clear HO_4; clear HO211; have HB := n0_; have HO214 := n1_; clear n0_ n1_; clear ho hb hg hat))
                                      repeat (go_quiet (first | ((with_reducible refine gate_dst (N := 85) rfl ?_); refine Kd.R_lit (Kd.int .i64) _ 3 ?hg (N := 85) ?hd (xs := ([0, 1] : List Int)) (inner := [.int .i64 0, .int .i64 1]) (ok := fun _ => True) (okp := fun _ => True) ?hr ?hp (fun _ hk => hk) trivial (Below.refl _ _) (Nat.le_refl _) (by simp) ?_; (case hd => rfl); (case hg => rfl); (case hr => first | (go_simp; done) | (go_simp; rfl)); (case hp => exact (Reps.one (show Kd.M (Kd.int .i64) _ _ _ 0 [.int .i64 0] from rfl) (Reps.one (show Kd.M (Kd.int .i64) _ _ _ 1 [.int .i64 1] from rfl) (Reps.none _ _)))); intro v210 w28 ho29 hb hg_ hnew_; clear hg_ hnew_; (first | rw [← Ny209.out] at ho29 | (simp only [Int.reduceToNat] at ho29; rw [← Ny209.out] at ho29)); have n0_ := Aside0.mk (Kd.S_elder' (by (with_reducible repeat (first | apply Kd.S_alloc | apply Kd.S_drewN | apply Kd.S_drew)); exact HO_4.out) (Kd.R_base ho29) hb); have n1_ := Aside0.mk (Kd.R_lower ho29 (below_size (by repeat (first | (with_reducible first | exact HB.out | apply below_alloc | apply pw_below_drewN | apply below_drew1) | exact HB.out)))); have n2_ := Aside0.mk (below_step (by repeat (first | (with_reducible first | exact HB.out | apply below_alloc | apply pw_below_drewN | apply below_drew1) | exact HB.out)) hb); clear HO_4; clear HB; have HO_4 := n0_; have HO211 := n1_; have HB := n2_; clear n0_ n1_ n2_; clear hb ho29; obtain ⟨Ao30, co30, eo30⟩ := Kd.R_slice HO211.out; subst eo30) | ((with_reducible refine gate_builtin (b := .append) (xs := #[.tmp 80, .tmp 87]) rfl ?_); at_builtin; refine Kd.S_append k54 (w0 := w) w.heap.size rfl (.tmp 80) (.tmp 87) 22 54 (.agg #[(.int .i64 0), (.int .i64 0), (.int .i64 0), (.int .i64 0), (.slice none 0 0)]) 56 rfl Try.underlying22 info54 rfl (by decide) (by omega) u4 x4_1 (⟨4, Int.tmod (wrap64 (rd l0 (ji7))) 4, Int.tmod (wrap64 (rd l0 (ji10))) 9, 0, y209⟩ : S54) [.int .i64 4, .int .i64 (Int.tmod (wrap64 (rd l0 (ji7))) 4), .int .i64 (Int.tmod (wrap64 (rd l0 (ji10))) 9), .int .i64 0, .slice Ao30 y209.length co30] (fun _ => True) (fun k_ => some k_ = (.slice Ao30 y209.length co30 : Value).ownBlock) rfl rfl ?aP (fun k_ hk_ => ((Kd.R_mono (ok' := fun k_ => ((fun _ => True)) k_ ∧ some k_ ≠ (u4 : Value).ownBlock) (Kd.R_apart' (HO211.out) (Kd.S_typed HO_4.out) (by decide)) (fun k_ hk => ⟨trivial, hk.2⟩))).1 k_ hk_.symm) ?aF ?aO ?aB ?aS ?aL ?_; (case aP => exact k54_mkM _ _ _ (⟨4, Int.tmod (wrap64 (rd l0 (ji7))) 4, Int.tmod (wrap64 (rd l0 (ji10))) 9, 0, y209⟩ : S54) (Kd.R_mono (Kd.R_tight rfl (Kd.R_mono (ok' := fun k_ => ((fun _ => True)) k_ ∧ some k_ ≠ (u4 : Value).ownBlock) (Kd.R_apart' (HO211.out) (Kd.S_typed HO_4.out) (by decide)) (fun k_ hk => ⟨trivial, hk.2⟩))) (fun _ h_ => h_))); (case aB => exact (by repeat (first | (with_reducible first | exact HB.out | apply below_alloc | apply pw_below_drewN | apply below_drew1) | exact HB.out))); (case aF => exact (fun _ _ => trivial)); (case aO => exact (by (with_reducible repeat (first | apply Kd.S_alloc | apply Kd.S_drewN | apply Kd.S_drew)); exact Kd.S_mono HO_4.out (fun k_ hk => ⟨trivial, fun e_ => hk.2 e_⟩))); (case aS => exact (below_size (by repeat (first | (with_reducible first | exact HB.out | apply below_alloc | apply pw_below_drewN | apply below_drew1) | exact HB.out)))); (case aL => have := LMc27.out; omega); intro v213 w31 ho hb hg hat; rw [← Ny212.out] at ho; have n0_ := Aside0.mk (hb); have n1_ := Aside0.mk (ho); clear HB; clear HO_4; clear HO211; have HB := n0_; have HO214 := n1_; clear n0_ n1_; clear ho hb hg hat)); try go_wp2_with (first | ((with_reducible refine gate_dst (N := 85) rfl ?_); refine Kd.R_lit (Kd.int .i64) _ 3 ?hg (N := 85) ?hd (xs := ([0, 1] : List Int)) (inner := [.int .i64 0, .int .i64 1]) (ok := fun _ => True) (okp := fun _ => True) ?hr ?hp (fun _ hk => hk) trivial (Below.refl _ _) (Nat.le_refl _) (by simp) ?_; (case hd => rfl); (case hg => rfl); (case hr => first | (go_simp; done) | (go_simp; rfl)); (case hp => exact (Reps.one (show Kd.M (Kd.int .i64) _ _ _ 0 [.int .i64 0] from rfl) (Reps.one (show Kd.M (Kd.int .i64) _ _ _ 1 [.int .i64 1] from rfl) (Reps.none _ _)))); intro v210 w28 ho29 hb hg_ hnew_; clear hg_ hnew_; (first | rw [← Ny209.out] at ho29 | (simp only [Int.reduceToNat] at ho29; rw [← Ny209.out] at ho29)); have n0_ := Aside0.mk (Kd.S_elder' (by (with_reducible repeat (first | apply Kd.S_alloc | apply Kd.S_drewN | apply Kd.S_drew)); exact HO_4.out) (Kd.R_base ho29) hb); have n1_ := Aside0.mk (Kd.R_lower ho29 (below_size (by repeat (first | (with_reducible first | exact HB.out | apply below_alloc | apply pw_below_drewN | apply below_drew1) | exact HB.out)))); have n2_ := Aside0.mk (below_step (by repeat (first | (with_reducible first | exact HB.out | apply below_alloc | apply pw_below_drewN | apply below_drew1) | exact HB.out)) hb); clear HO_4; clear HB; have HO_4 := n0_; have HO211 := n1_; have HB := n2_; clear n0_ n1_ n2_; clear hb ho29; obtain ⟨Ao30, co30, eo30⟩ := Kd.R_slice HO211.out; subst eo30) | ((with_reducible refine gate_builtin (b := .append) (xs := #[.tmp 80, .tmp 87]) rfl ?_); at_builtin; refine Kd.S_append k54 (w0 := w) w.heap.size rfl (.tmp 80) (.tmp 87) 22 54 (.agg #[(.int .i64 0), (.int .i64 0), (.int .i64 0), (.int .i64 0), (.slice none 0 0)]) 56 rfl Try.underlying22 info54 rfl (by decide) (by omega) u4 x4_1 (⟨4, Int.tmod (wrap64 (rd l0 (ji7))) 4, Int.tmod (wrap64 (rd l0 (ji10))) 9, 0, y209⟩ : S54) [.int .i64 4, .int .i64 (Int.tmod (wrap64 (rd l0 (ji7))) 4), .int .i64 (Int.tmod (wrap64 (rd l0 (ji10))) 9), .int .i64 0, .slice Ao30 y209.length co30] (fun _ => True) (fun k_ => some k_ = (.slice Ao30 y209.length co30 : Value).ownBlock) rfl rfl ?aP (fun k_ hk_ => ((Kd.R_mono (ok' := fun k_ => ((fun _ => True)) k_ ∧ some k_ ≠ (u4 : Value).ownBlock) (Kd.R_apart' (HO211.out) (Kd.S_typed HO_4.out) (by decide)) (fun k_ hk => ⟨trivial, hk.2⟩))).1 k_ hk_.symm) ?aF ?aO ?aB ?aS ?aL ?_; (case aP => exact k54_mkM _ _ _ (⟨4, Int.tmod (wrap64 (rd l0 (ji7))) 4, Int.tmod (wrap64 (rd l0 (ji10))) 9, 0, y209⟩ : S54) (Kd.R_mono (Kd.R_tight rfl (Kd.R_mono (ok' := fun k_ => ((fun _ => True)) k_ ∧ some k_ ≠ (u4 : Value).ownBlock) (Kd.R_apart' (HO211.out) (Kd.S_typed HO_4.out) (by decide)) (fun k_ hk => ⟨trivial, hk.2⟩))) (fun _ h_ => h_))); (case aB => exact (by repeat (first | (with_reducible first | exact HB.out | apply below_alloc | apply pw_below_drewN | apply below_drew1) | exact HB.out))); (case aF => exact (fun _ _ => trivial)); (case aO => exact (by (with_reducible repeat (first | apply Kd.S_alloc | apply Kd.S_drewN | apply Kd.S_drew)); exact Kd.S_mono HO_4.out (fun k_ hk => ⟨trivial, fun e_ => hk.2 e_⟩))); (case aS => exact (below_size (by repeat (first | (with_reducible first | exact HB.out | apply below_alloc | apply pw_below_drewN | apply below_drew1) | exact HB.out)))); (case aL => have := LMc27.out; omega); intro v213 w31 ho hb hg hat; rw [← Ny212.out] at ho; have n0_ := Aside0.mk (hb); have n1_ := Aside0.mk (ho); clear HB; clear HO_4; clear HO211; have HB := n0_; have HO214 := n1_; clear n0_ n1_; clear ho hb hg hat)))
                                      go_roundg kj17
                                      case measure => have := HK1.out; have := HJ12.out; have := HJ17.out; omega
                                      case rel => exact ⟨(y212), (wrap64 (x5_1 + 1)), (by first | rfl | (simp; done) | (simp [*]; done)), H', ⟨by have := HK1.out; have := HJ12.out; have := HJ17.out; omega⟩, ⟨by (with_reducible repeat (first | apply Kd.S_alloc | apply Kd.S_drewN | apply Kd.S_drew)); exact HO214.out⟩, ⟨by repeat (first | (with_reducible first | exact HB.out | apply below_alloc | apply pw_below_drewN | apply below_drew1) | exact HB.out)⟩⟩
                                    · rw [if_neg c27] at H
                                      exact absurd H (by simp)
                                  · rw [if_neg c26] at H
                                    have c26b0 : ((Int.tmod (rd l0 (ji4)) 8) == 5) = false := beq_eq_false_iff_ne.mpr c26
                                    have c26b1 : ((Int.tmod (rd l0 (ji4)) 8) != 5) = true := bne_iff_ne.mpr c26
                                    by_cases c32 : (Int.tmod (rd l0 (ji4)) 8) = 6
                                    · rw [if_pos c32] at H
                                      have c32b0 : ((Int.tmod (rd l0 (ji4)) 8) == 6) = true := beq_iff_eq.mpr c32
                                      have c32b1 : ((Int.tmod (rd l0 (ji4)) 8) != 6) = false := bne_eq_false_iff_eq.mpr c32
                                      clear c32
                                      by_cases c33 : (wrap64 (x5_1 + 2)) ≤ ji2
                                      · rw [if_pos c33] at H
                                        have c33b0 : decide ((wrap64 (x5_1 + 2)) ≤ ji2) = true := decide_eq_true c33
                                        clear c33
                                        by_cases c34 : x4_1.length < 2513169434916
                                        · rw [if_pos c34] at H
                                          have LMc34 := Aside0.mk c34
                                          clear c34
                                          obtain ⟨y215, hy215⟩ : ∃ y_ : List (S54), y_ = (x4_1 ++ [(⟨5, Int.tmod (wrap64 (rd l0 (ji7))) 4, wrap64 (x5_1 + 2), 0, ([] : List Int)⟩ : S54)]) := ⟨_, rfl⟩
                                          replace H : (ltkref20_Prog.l0 kj17 l0 ji2 y215 (wrap64 (x5_1 + 1))) = some r := by first | (rw [hy215]; with_reducible exact H) | (have H2_ := (Option.bind_some _ _).symm.trans H; rw [hy215]; with_reducible exact H2_) | (have H2_ := (Option.bind_some _ _).symm.trans H; with_reducible exact H2_) | with_reducible exact H | (rw [hy215]; exact H) | exact H
                                          have Ny215 := Aside0.mk hy215
                                          clear hy215
                                          have H' := Aside0.mk H
                                          clear H
                                          go_wp2_with (first | ((with_reducible refine gate_builtin (b := .append) (xs := #[.tmp 95, .tmp 101]) rfl ?_); at_builtin; refine Kd.S_append k54 (w0 := w) w.heap.size rfl (.tmp 95) (.tmp 101) 22 54 (.agg #[(.int .i64 0), (.int .i64 0), (.int .i64 0), (.int .i64 0), (.slice none 0 0)]) 56 rfl Try.underlying22 info54 rfl (by decide) (by omega) u4 x4_1 (⟨5, Int.tmod (wrap64 (rd l0 (ji7))) 4, wrap64 (x5_1 + 2), 0, ([] : List Int)⟩ : S54) [.int .i64 5, .int .i64 (Int.tmod (wrap64 (rd l0 (ji7))) 4), .int .i64 (wrap64 (x5_1 + 2)), .int .i64 0, .slice none 0 0] (fun _ => True) (fun _ => False) rfl rfl ?aP (fun k_ hk_ => hk_.elim) ?aF ?aO ?aB ?aS ?aL ?_; (case aP => exact k54_mkM _ _ _ (⟨5, Int.tmod (wrap64 (rd l0 (ji7))) 4, wrap64 (x5_1 + 2), 0, ([] : List Int)⟩ : S54) (Kd.R_nil _ _ _ _ _)); (case aB => exact (by repeat (first | (with_reducible first | exact HB.out | apply below_alloc | apply pw_below_drewN | apply below_drew1) | exact HB.out))); (case aF => exact (fun _ _ => trivial)); (case aO => exact (by (with_reducible repeat (first | apply Kd.S_alloc | apply Kd.S_drewN | apply Kd.S_drew)); exact Kd.S_mono HO_4.out (fun k_ hk => ⟨trivial, fun e_ => e_⟩))); (case aS => exact (below_size (by repeat (first | (with_reducible first | exact HB.out | apply below_alloc | apply pw_below_drewN | apply below_drew1) | exact HB.out)))); (case aL => have := LMc34.out; omega); intro v216 w35 ho hb hg hat; rw [← Ny215.out] at ho; have n0_ := Aside0.mk (hb); have n1_ := Aside0.mk (ho); clear HB; clear HO_4; have HB := n0_; have HO217 := n1_; clear n0_ n1_; clear ho hb hg hat))
                                          repeat (go_quiet (first | ((with_reducible refine gate_builtin (b := .append) (xs := #[.tmp 95, .tmp 101]) rfl ?_); at_builtin; refine Kd.S_append k54 (w0 := w) w.heap.size rfl (.tmp 95) (.tmp 101) 22 54 (.agg #[(.int .i64 0), (.int .i64 0), (.int .i64 0), (.int .i64 0), (.slice none 0 0)]) 56 rfl Try.underlying22 info54 rfl (by decide) (by omega) u4 x4_1 (⟨5, Int.tmod (wrap64 (rd l0 (ji7))) 4, wrap64 (x5_1 + 2), 0, ([] : List Int)⟩ : S54) [.int .i64 5, .int .i64 (Int.tmod (wrap64 (rd l0 (ji7))) 4), .int .i64 (wrap64 (x5_1 + 2)), .int .i64 0, .slice none 0 0] (fun _ => True) (fun _ => False) rfl rfl ?aP (fun k_ hk_ => hk_.elim) ?aF ?aO ?aB ?aS ?aL ?_; (case aP => exact k54_mkM _ _ _ (⟨5, Int.tmod (wrap64 (rd l0 (ji7))) 4, wrap64 (x5_1 + 2), 0, ([] : List Int)⟩ : S54) (Kd.R_nil _ _ _ _ _)); (case aB => exact (by repeat (first | (with_reducible first | exact HB.out | apply below_alloc | apply pw_below_drewN | apply below_drew1) | exact HB.out))); (case aF => exact (fun _ _ => trivial)); (case aO => exact (by (with_reducible repeat (first | apply Kd.S_alloc | apply Kd.S_drewN | apply Kd.S_drew)); exact Kd.S_mono HO_4.out (fun k_ hk => ⟨trivial, fun e_ => e_⟩))); (case aS => exact (below_size (by repeat (first | (with_reducible first | exact HB.out | apply below_alloc | apply pw_below_drewN | apply below_drew1) | exact HB.out)))); (case aL => have := LMc34.out; omega); intro v216 w35 ho hb hg hat; rw [← Ny215.out] at ho; have n0_ := Aside0.mk (hb); have n1_ := Aside0.mk (ho); clear HB; clear HO_4; have HB := n0_; have HO217 := n1_; clear n0_ n1_; clear ho hb hg hat)); try go_wp2_with (first | ((with_reducible refine gate_builtin (b := .append) (xs := #[.tmp 95, .tmp 101]) rfl ?_); at_builtin; refine Kd.S_append k54 (w0 := w) w.heap.size rfl (.tmp 95) (.tmp 101) 22 54 (.agg #[(.int .i64 0), (.int .i64 0), (.int .i64 0), (.int .i64 0), (.slice none 0 0)]) 56 rfl Try.underlying22 info54 rfl (by decide) (by omega) u4 x4_1 (⟨5, Int.tmod (wrap64 (rd l0 (ji7))) 4, wrap64 (x5_1 + 2), 0, ([] : List Int)⟩ : S54) [.int .i64 5, .int .i64 (Int.tmod (wrap64 (rd l0 (ji7))) 4), .int .i64 (wrap64 (x5_1 + 2)), .int .i64 0, .slice none 0 0] (fun _ => True) (fun _ => False) rfl rfl ?aP (fun k_ hk_ => hk_.elim) ?aF ?aO ?aB ?aS ?aL ?_; (case aP => exact k54_mkM _ _ _ (⟨5, Int.tmod (wrap64 (rd l0 (ji7))) 4, wrap64 (x5_1 + 2), 0, ([] : List Int)⟩ : S54) (Kd.R_nil _ _ _ _ _)); (case aB => exact (by repeat (first | (with_reducible first | exact HB.out | apply below_alloc | apply pw_below_drewN | apply below_drew1) | exact HB.out))); (case aF => exact (fun _ _ => trivial)); (case aO => exact (by (with_reducible repeat (first | apply Kd.S_alloc | apply Kd.S_drewN | apply Kd.S_drew)); exact Kd.S_mono HO_4.out (fun k_ hk => ⟨trivial, fun e_ => e_⟩))); (case aS => exact (below_size (by repeat (first | (with_reducible first | exact HB.out | apply below_alloc | apply pw_below_drewN | apply below_drew1) | exact HB.out)))); (case aL => have := LMc34.out; omega); intro v216 w35 ho hb hg hat; rw [← Ny215.out] at ho; have n0_ := Aside0.mk (hb); have n1_ := Aside0.mk (ho); clear HB; clear HO_4; have HB := n0_; have HO217 := n1_; clear n0_ n1_; clear ho hb hg hat)))
                                          go_roundg kj17
                                          case measure => have := HK1.out; have := HJ12.out; have := HJ17.out; omega
                                          case rel => exact ⟨(y215), (wrap64 (x5_1 + 1)), (by first | rfl | (simp; done) | (simp [*]; done)), H', ⟨by have := HK1.out; have := HJ12.out; have := HJ17.out; omega⟩, ⟨by (with_reducible repeat (first | apply Kd.S_alloc | apply Kd.S_drewN | apply Kd.S_drew)); exact HO217.out⟩, ⟨by repeat (first | (with_reducible first | exact HB.out | apply below_alloc | apply pw_below_drewN | apply below_drew1) | exact HB.out)⟩⟩
                                        · rw [if_neg c34] at H
                                          exact absurd H (by simp)
                                      · rw [if_neg c33] at H
                                        have c33b0 : decide ((wrap64 (x5_1 + 2)) ≤ ji2) = false := decide_eq_false c33
                                        clear c33
                                        by_cases c36 : x4_1.length < 2513169434916
                                        · rw [if_pos c36] at H
                                          have LMc36 := Aside0.mk c36
                                          clear c36
                                          obtain ⟨y218, hy218⟩ : ∃ y_ : List (S54), y_ = (x4_1 ++ [(⟨3, Int.tmod (wrap64 (rd l0 (ji7))) 4, 1, 0, ([] : List Int)⟩ : S54)]) := ⟨_, rfl⟩
                                          replace H : (ltkref20_Prog.l0 kj17 l0 ji2 y218 (wrap64 (x5_1 + 1))) = some r := by first | (rw [hy218]; with_reducible exact H) | (have H2_ := (Option.bind_some _ _).symm.trans H; rw [hy218]; with_reducible exact H2_) | (have H2_ := (Option.bind_some _ _).symm.trans H; with_reducible exact H2_) | with_reducible exact H | (rw [hy218]; exact H) | exact H
                                          have Ny218 := Aside0.mk hy218
                                          clear hy218
                                          have H' := Aside0.mk H
                                          clear H
                                          go_wp2_with (first | ((with_reducible refine gate_builtin (b := .append) (xs := #[.tmp 103, .tmp 107]) rfl ?_); at_builtin; refine Kd.S_append k54 (w0 := w) w.heap.size rfl (.tmp 103) (.tmp 107) 22 54 (.agg #[(.int .i64 0), (.int .i64 0), (.int .i64 0), (.int .i64 0), (.slice none 0 0)]) 56 rfl Try.underlying22 info54 rfl (by decide) (by omega) u4 x4_1 (⟨3, Int.tmod (wrap64 (rd l0 (ji7))) 4, 1, 0, ([] : List Int)⟩ : S54) [.int .i64 3, .int .i64 (Int.tmod (wrap64 (rd l0 (ji7))) 4), .int .i64 1, .int .i64 0, .slice none 0 0] (fun _ => True) (fun _ => False) rfl rfl ?aP (fun k_ hk_ => hk_.elim) ?aF ?aO ?aB ?aS ?aL ?_; (case aP => exact k54_mkM _ _ _ (⟨3, Int.tmod (wrap64 (rd l0 (ji7))) 4, 1, 0, ([] : List Int)⟩ : S54) (Kd.R_nil _ _ _ _ _)); (case aB => exact (by repeat (first | (with_reducible first | exact HB.out | apply below_alloc | apply pw_below_drewN | apply below_drew1) | exact HB.out))); (case aF => exact (fun _ _ => trivial)); (case aO => exact (by (with_reducible repeat (first | apply Kd.S_alloc | apply Kd.S_drewN | apply Kd.S_drew)); exact Kd.S_mono HO_4.out (fun k_ hk => ⟨trivial, fun e_ => e_⟩))); (case aS => exact (below_size (by repeat (first | (with_reducible first | exact HB.out | apply below_alloc | apply pw_below_drewN | apply below_drew1) | exact HB.out)))); (case aL => have := LMc36.out; omega); intro v219 w37 ho hb hg hat; rw [← Ny218.out] at ho; have n0_ := Aside0.mk (hb); have n1_ := Aside0.mk (ho); clear HB; clear HO_4; have HB := n0_; have HO220 := n1_; clear n0_ n1_; clear ho hb hg hat))
                                          repeat (go_quiet (first | ((with_reducible refine gate_builtin (b := .append) (xs := #[.tmp 103, .tmp 107]) rfl ?_); at_builtin; refine Kd.S_append k54 (w0 := w) w.heap.size rfl (.tmp 103) (.tmp 107) 22 54 (.agg #[(.int .i64 0), (.int .i64 0), (.int .i64 0), (.int .i64 0), (.slice none 0 0)]) 56 rfl Try.underlying22 info54 rfl (by decide) (by omega) u4 x4_1 (⟨3, Int.tmod (wrap64 (rd l0 (ji7))) 4, 1, 0, ([] : List Int)⟩ : S54) [.int .i64 3, .int .i64 (Int.tmod (wrap64 (rd l0 (ji7))) 4), .int .i64 1, .int .i64 0, .slice none 0 0] (fun _ => True) (fun _ => False) rfl rfl ?aP (fun k_ hk_ => hk_.elim) ?aF ?aO ?aB ?aS ?aL ?_; (case aP => exact k54_mkM _ _ _ (⟨3, Int.tmod (wrap64 (rd l0 (ji7))) 4, 1, 0, ([] : List Int)⟩ : S54) (Kd.R_nil _ _ _ _ _)); (case aB => exact (by repeat (first | (with_reducible first | exact HB.out | apply below_alloc | apply pw_below_drewN | apply below_drew1) | exact HB.out))); (case aF => exact (fun _ _ => trivial)); (case aO => exact (by (with_reducible repeat (first | apply Kd.S_alloc | apply Kd.S_drewN | apply Kd.S_drew)); exact Kd.S_mono HO_4.out (fun k_ hk => ⟨trivial, fun e_ => e_⟩))); (case aS => exact (below_size (by repeat (first | (with_reducible first | exact HB.out | apply below_alloc | apply pw_below_drewN | apply below_drew1) | exact HB.out)))); (case aL => have := LMc36.out; omega); intro v219 w37 ho hb hg hat; rw [← Ny218.out] at ho; have n0_ := Aside0.mk (hb); have n1_ := Aside0.mk (ho); clear HB; clear HO_4; have HB := n0_; have HO220 := n1_; clear n0_ n1_; clear ho hb hg hat)); try go_wp2_with (first | ((with_reducible refine gate_builtin (b := .append) (xs := #[.tmp 103, .tmp 107]) rfl ?_); at_builtin; refine Kd.S_append k54 (w0 := w) w.heap.size rfl (.tmp 103) (.tmp 107) 22 54 (.agg #[(.int .i64 0), (.int .i64 0), (.int .i64 0), (.int .i64 0), (.slice none 0 0)]) 56 rfl Try.underlying22 info54 rfl (by decide) (by omega) u4 x4_1 (⟨3, Int.tmod (wrap64 (rd l0 (ji7))) 4, 1, 0, ([] : List Int)⟩ : S54) [.int .i64 3, .int .i64 (Int.tmod (wrap64 (rd l0 (ji7))) 4), .int .i64 1, .int .i64 0, .slice none 0 0] (fun _ => True) (fun _ => False) rfl rfl ?aP (fun k_ hk_ => hk_.elim) ?aF ?aO ?aB ?aS ?aL ?_; (case aP => exact k54_mkM _ _ _ (⟨3, Int.tmod (wrap64 (rd l0 (ji7))) 4, 1, 0, ([] : List Int)⟩ : S54) (Kd.R_nil _ _ _ _ _)); (case aB => exact (by repeat (first | (with_reducible first | exact HB.out | apply below_alloc | apply pw_below_drewN | apply below_drew1) | exact HB.out))); (case aF => exact (fun _ _ => trivial)); (case aO => exact (by (with_reducible repeat (first | apply Kd.S_alloc | apply Kd.S_drewN | apply Kd.S_drew)); exact Kd.S_mono HO_4.out (fun k_ hk => ⟨trivial, fun e_ => e_⟩))); (case aS => exact (below_size (by repeat (first | (with_reducible first | exact HB.out | apply below_alloc | apply pw_below_drewN | apply below_drew1) | exact HB.out)))); (case aL => have := LMc36.out; omega); intro v219 w37 ho hb hg hat; rw [← Ny218.out] at ho; have n0_ := Aside0.mk (hb); have n1_ := Aside0.mk (ho); clear HB; clear HO_4; have HB := n0_; have HO220 := n1_; clear n0_ n1_; clear ho hb hg hat)))
                                          go_roundg kj17
                                          case measure => have := HK1.out; have := HJ12.out; have := HJ17.out; omega
                                          case rel => exact ⟨(y218), (wrap64 (x5_1 + 1)), (by first | rfl | (simp; done) | (simp [*]; done)), H', ⟨by have := HK1.out; have := HJ12.out; have := HJ17.out; omega⟩, ⟨by (with_reducible repeat (first | apply Kd.S_alloc | apply Kd.S_drewN | apply Kd.S_drew)); exact HO220.out⟩, ⟨by repeat (first | (with_reducible first | exact HB.out | apply below_alloc | apply pw_below_drewN | apply below_drew1) | exact HB.out)⟩⟩
                                        · rw [if_neg c36] at H
                                          exact absurd H (by simp)
                                    · rw [if_neg c32] at H
                                      have c32b0 : ((Int.tmod (rd l0 (ji4)) 8) == 6) = false := beq_eq_false_iff_ne.mpr c32
                                      have c32b1 : ((Int.tmod (rd l0 (ji4)) 8) != 6) = true := bne_iff_ne.mpr c32
                                      by_cases c38 : (Int.tmod (rd l0 (ji4)) 8) = 7
                                      · rw [if_pos c38] at H
                                        have c38b0 : ((Int.tmod (rd l0 (ji4)) 8) == 7) = true := beq_iff_eq.mpr c38
                                        have c38b1 : ((Int.tmod (rd l0 (ji4)) 8) != 7) = false := bne_eq_false_iff_eq.mpr c38
                                        clear c38
                                        by_cases c39 : (wrap64 (rd l0 (ji10))) = 255
                                        · rw [if_pos c39] at H
                                          have c39b0 : ((wrap64 (rd l0 (ji10))) == 255) = true := beq_iff_eq.mpr c39
                                          have c39b1 : ((wrap64 (rd l0 (ji10))) != 255) = false := bne_eq_false_iff_eq.mpr c39
                                          clear c39
                                          by_cases c40 : x4_1.length < 2513169434916
                                          · rw [if_pos c40] at H
                                            have LMc40 := Aside0.mk c40
                                            clear c40
                                            obtain ⟨y221, hy221⟩ : ∃ y_ : List (S54), y_ = (x4_1 ++ [(⟨6, 0, 0, 0, ([] : List Int)⟩ : S54)]) := ⟨_, rfl⟩
                                            replace H : (ltkref20_Prog.l0 kj17 l0 ji2 y221 (wrap64 (x5_1 + 1))) = some r := by first | (rw [hy221]; with_reducible exact H) | (have H2_ := (Option.bind_some _ _).symm.trans H; rw [hy221]; with_reducible exact H2_) | (have H2_ := (Option.bind_some _ _).symm.trans H; with_reducible exact H2_) | with_reducible exact H | (rw [hy221]; exact H) | exact H
                                            have Ny221 := Aside0.mk hy221
                                            clear hy221
                                            have H' := Aside0.mk H
                                            clear H
                                            go_wp2_with (first | ((with_reducible refine gate_builtin (b := .append) (xs := #[.tmp 121, .tmp 123]) rfl ?_); at_builtin; refine Kd.S_append k54 (w0 := w) w.heap.size rfl (.tmp 121) (.tmp 123) 22 54 (.agg #[(.int .i64 0), (.int .i64 0), (.int .i64 0), (.int .i64 0), (.slice none 0 0)]) 56 rfl Try.underlying22 info54 rfl (by decide) (by omega) u4 x4_1 (⟨6, 0, 0, 0, ([] : List Int)⟩ : S54) [.int .i64 6, .int .i64 0, .int .i64 0, .int .i64 0, .slice none 0 0] (fun _ => True) (fun _ => False) rfl rfl ?aP (fun k_ hk_ => hk_.elim) ?aF ?aO ?aB ?aS ?aL ?_; (case aP => exact k54_mkM _ _ _ (⟨6, 0, 0, 0, ([] : List Int)⟩ : S54) (Kd.R_nil _ _ _ _ _)); (case aB => exact (by repeat (first | (with_reducible first | exact HB.out | apply below_alloc | apply pw_below_drewN | apply below_drew1) | exact HB.out))); (case aF => exact (fun _ _ => trivial)); (case aO => exact (by (with_reducible repeat (first | apply Kd.S_alloc | apply Kd.S_drewN | apply Kd.S_drew)); exact Kd.S_mono HO_4.out (fun k_ hk => ⟨trivial, fun e_ => e_⟩))); (case aS => exact (below_size (by repeat (first | (with_reducible first | exact HB.out | apply below_alloc | apply pw_below_drewN | apply below_drew1) | exact HB.out)))); (case aL => have := LMc40.out; omega); intro v222 w41 ho hb hg hat; rw [← Ny221.out] at ho; have n0_ := Aside0.mk (hb); have n1_ := Aside0.mk (ho); clear HB; clear HO_4; have HB := n0_; have HO223 := n1_; clear n0_ n1_; clear ho hb hg hat))
                                            repeat (go_quiet (first | ((with_reducible refine gate_builtin (b := .append) (xs := #[.tmp 121, .tmp 123]) rfl ?_); at_builtin; refine Kd.S_append k54 (w0 := w) w.heap.size rfl (.tmp 121) (.tmp 123) 22 54 (.agg #[(.int .i64 0), (.int .i64 0), (.int .i64 0), (.int .i64 0), (.slice none 0 0)]) 56 rfl Try.underlying22 info54 rfl (by decide) (by omega) u4 x4_1 (⟨6, 0, 0, 0, ([] : List Int)⟩ : S54) [.int .i64 6, .int .i64 0, .int .i64 0, .int .i64 0, .slice none 0 0] (fun _ => True) (fun _ => False) rfl rfl ?aP (fun k_ hk_ => hk_.elim) ?aF ?aO ?aB ?aS ?aL ?_; (case aP => exact k54_mkM _ _ _ (⟨6, 0, 0, 0, ([] : List Int)⟩ : S54) (Kd.R_nil _ _ _ _ _)); (case aB => exact (by repeat (first | (with_reducible first | exact HB.out | apply below_alloc | apply pw_below_drewN | apply below_drew1) | exact HB.out))); (case aF => exact (fun _ _ => trivial)); (case aO => exact (by (with_reducible repeat (first | apply Kd.S_alloc | apply Kd.S_drewN | apply Kd.S_drew)); exact Kd.S_mono HO_4.out (fun k_ hk => ⟨trivial, fun e_ => e_⟩))); (case aS => exact (below_size (by repeat (first | (with_reducible first | exact HB.out | apply below_alloc | apply pw_below_drewN | apply below_drew1) | exact HB.out)))); (case aL => have := LMc40.out; omega); intro v222 w41 ho hb hg hat; rw [← Ny221.out] at ho; have n0_ := Aside0.mk (hb); have n1_ := Aside0.mk (ho); clear HB; clear HO_4; have HB := n0_; have HO223 := n1_; clear n0_ n1_; clear ho hb hg hat)); try go_wp2_with (first | ((with_reducible refine gate_builtin (b := .append) (xs := #[.tmp 121, .tmp 123]) rfl ?_); at_builtin; refine Kd.S_append k54 (w0 := w) w.heap.size rfl (.tmp 121) (.tmp 123) 22 54 (.agg #[(.int .i64 0), (.int .i64 0), (.int .i64 0), (.int .i64 0), (.slice none 0 0)]) 56 rfl Try.underlying22 info54 rfl (by decide) (by omega) u4 x4_1 (⟨6, 0, 0, 0, ([] : List Int)⟩ : S54) [.int .i64 6, .int .i64 0, .int .i64 0, .int .i64 0, .slice none 0 0] (fun _ => True) (fun _ => False) rfl rfl ?aP (fun k_ hk_ => hk_.elim) ?aF ?aO ?aB ?aS ?aL ?_; (case aP => exact k54_mkM _ _ _ (⟨6, 0, 0, 0, ([] : List Int)⟩ : S54) (Kd.R_nil _ _ _ _ _)); (case aB => exact (by repeat (first | (with_reducible first | exact HB.out | apply below_alloc | apply pw_below_drewN | apply below_drew1) | exact HB.out))); (case aF => exact (fun _ _ => trivial)); (case aO => exact (by (with_reducible repeat (first | apply Kd.S_alloc | apply Kd.S_drewN | apply Kd.S_drew)); exact Kd.S_mono HO_4.out (fun k_ hk => ⟨trivial, fun e_ => e_⟩))); (case aS => exact (below_size (by repeat (first | (with_reducible first | exact HB.out | apply below_alloc | apply pw_below_drewN | apply below_drew1) | exact HB.out)))); (case aL => have := LMc40.out; omega); intro v222 w41 ho hb hg hat; rw [← Ny221.out] at ho; have n0_ := Aside0.mk (hb); have n1_ := Aside0.mk (ho); clear HB; clear HO_4; have HB := n0_; have HO223 := n1_; clear n0_ n1_; clear ho hb hg hat)))
                                            go_roundg kj17
                                            case measure => have := HK1.out; have := HJ12.out; have := HJ17.out; omega
                                            case rel => exact ⟨(y221), (wrap64 (x5_1 + 1)), (by first | rfl | (simp; done) | (simp [*]; done)), H', ⟨by have := HK1.out; have := HJ12.out; have := HJ17.out; omega⟩, ⟨by (with_reducible repeat (first | apply Kd.S_alloc | apply Kd.S_drewN | apply Kd.S_drew)); exact HO223.out⟩, ⟨by repeat (first | (with_reducible first | exact HB.out | apply below_alloc | apply pw_below_drewN | apply below_drew1) | exact HB.out)⟩⟩
                                          · rw [if_neg c40] at H
                                            exact absurd H (by simp)
                                        · rw [if_neg c39] at H
                                          have c39b0 : ((wrap64 (rd l0 (ji10))) == 255) = false := beq_eq_false_iff_ne.mpr c39
                                          have c39b1 : ((wrap64 (rd l0 (ji10))) != 255) = true := bne_iff_ne.mpr c39
                                          by_cases c42 : (wrap64 (rd l0 (ji10))) = 254
                                          · rw [if_pos c42] at H
                                            have c42b0 : ((wrap64 (rd l0 (ji10))) == 254) = true := beq_iff_eq.mpr c42
                                            have c42b1 : ((wrap64 (rd l0 (ji10))) != 254) = false := bne_eq_false_iff_eq.mpr c42
                                            clear c42
                                            by_cases c43 : x4_1.length < 2513169434916
                                            · rw [if_pos c43] at H
                                              have LMc43 := Aside0.mk c43
                                              clear c43
                                              obtain ⟨y224, hy224⟩ : ∃ y_ : List (S54), y_ = (x4_1 ++ [(⟨7, 0, 0, 0, ([] : List Int)⟩ : S54)]) := ⟨_, rfl⟩
                                              replace H : (ltkref20_Prog.l0 kj17 l0 ji2 y224 (wrap64 (x5_1 + 1))) = some r := by first | (rw [hy224]; with_reducible exact H) | (have H2_ := (Option.bind_some _ _).symm.trans H; rw [hy224]; with_reducible exact H2_) | (have H2_ := (Option.bind_some _ _).symm.trans H; with_reducible exact H2_) | with_reducible exact H | (rw [hy224]; exact H) | exact H
                                              have Ny224 := Aside0.mk hy224
                                              clear hy224
                                              have H' := Aside0.mk H
                                              clear H
                                              go_wp2_with (first | ((with_reducible refine gate_builtin (b := .append) (xs := #[.tmp 127, .tmp 129]) rfl ?_); at_builtin; refine Kd.S_append k54 (w0 := w) w.heap.size rfl (.tmp 127) (.tmp 129) 22 54 (.agg #[(.int .i64 0), (.int .i64 0), (.int .i64 0), (.int .i64 0), (.slice none 0 0)]) 56 rfl Try.underlying22 info54 rfl (by decide) (by omega) u4 x4_1 (⟨7, 0, 0, 0, ([] : List Int)⟩ : S54) [.int .i64 7, .int .i64 0, .int .i64 0, .int .i64 0, .slice none 0 0] (fun _ => True) (fun _ => False) rfl rfl ?aP (fun k_ hk_ => hk_.elim) ?aF ?aO ?aB ?aS ?aL ?_; (case aP => exact k54_mkM _ _ _ (⟨7, 0, 0, 0, ([] : List Int)⟩ : S54) (Kd.R_nil _ _ _ _ _)); (case aB => exact (by repeat (first | (with_reducible first | exact HB.out | apply below_alloc | apply pw_below_drewN | apply below_drew1) | exact HB.out))); (case aF => exact (fun _ _ => trivial)); (case aO => exact (by (with_reducible repeat (first | apply Kd.S_alloc | apply Kd.S_drewN | apply Kd.S_drew)); exact Kd.S_mono HO_4.out (fun k_ hk => ⟨trivial, fun e_ => e_⟩))); (case aS => exact (below_size (by repeat (first | (with_reducible first | exact HB.out | apply below_alloc | apply pw_below_drewN | apply below_drew1) | exact HB.out)))); (case aL => have := LMc43.out; omega); intro v225 w44 ho hb hg hat; rw [← Ny224.out] at ho; have n0_ := Aside0.mk (hb); have n1_ := Aside0.mk (ho); clear HB; clear HO_4; have HB := n0_; have HO226 := n1_; clear n0_ n1_; clear ho hb hg hat))
                                              repeat (go_quiet (first | ((with_reducible refine gate_builtin (b := .append) (xs := #[.tmp 127, .tmp 129]) rfl ?_); at_builtin; refine Kd.S_append k54 (w0 := w) w.heap.size rfl (.tmp 127) (.tmp 129) 22 54 (.agg #[(.int .i64 0), (.int .i64 0), (.int .i64 0), (.int .i64 0), (.slice none 0 0)]) 56 rfl Try.underlying22 info54 rfl (by decide) (by omega) u4 x4_1 (⟨7, 0, 0, 0, ([] : List Int)⟩ : S54) [.int .i64 7, .int .i64 0, .int .i64 0, .int .i64 0, .slice none 0 0] (fun _ => True) (fun _ => False) rfl rfl ?aP (fun k_ hk_ => hk_.elim) ?aF ?aO ?aB ?aS ?aL ?_; (case aP => exact k54_mkM _ _ _ (⟨7, 0, 0, 0, ([] : List Int)⟩ : S54) (Kd.R_nil _ _ _ _ _)); (case aB => exact (by repeat (first | (with_reducible first | exact HB.out | apply below_alloc | apply pw_below_drewN | apply below_drew1) | exact HB.out))); (case aF => exact (fun _ _ => trivial)); (case aO => exact (by (with_reducible repeat (first | apply Kd.S_alloc | apply Kd.S_drewN | apply Kd.S_drew)); exact Kd.S_mono HO_4.out (fun k_ hk => ⟨trivial, fun e_ => e_⟩))); (case aS => exact (below_size (by repeat (first | (with_reducible first | exact HB.out | apply below_alloc | apply pw_below_drewN | apply below_drew1) | exact HB.out)))); (case aL => have := LMc43.out; omega); intro v225 w44 ho hb hg hat; rw [← Ny224.out] at ho; have n0_ := Aside0.mk (hb); have n1_ := Aside0.mk (ho); clear HB; clear HO_4; have HB := n0_; have HO226 := n1_; clear n0_ n1_; clear ho hb hg hat)); try go_wp2_with (first | ((with_reducible refine gate_builtin (b := .append) (xs := #[.tmp 127, .tmp 129]) rfl ?_); at_builtin; refine Kd.S_append k54 (w0 := w) w.heap.size rfl (.tmp 127) (.tmp 129) 22 54 (.agg #[(.int .i64 0), (.int .i64 0), (.int .i64 0), (.int .i64 0), (.slice none 0 0)]) 56 rfl Try.underlying22 info54 rfl (by decide) (by omega) u4 x4_1 (⟨7, 0, 0, 0, ([] : List Int)⟩ : S54) [.int .i64 7, .int .i64 0, .int .i64 0, .int .i64 0, .slice none 0 0] (fun _ => True) (fun _ => False) rfl rfl ?aP (fun k_ hk_ => hk_.elim) ?aF ?aO ?aB ?aS ?aL ?_; (case aP => exact k54_mkM _ _ _ (⟨7, 0, 0, 0, ([] : List Int)⟩ : S54) (Kd.R_nil _ _ _ _ _)); (case aB => exact (by repeat (first | (with_reducible first | exact HB.out | apply below_alloc | apply pw_below_drewN | apply below_drew1) | exact HB.out))); (case aF => exact (fun _ _ => trivial)); (case aO => exact (by (with_reducible repeat (first | apply Kd.S_alloc | apply Kd.S_drewN | apply Kd.S_drew)); exact Kd.S_mono HO_4.out (fun k_ hk => ⟨trivial, fun e_ => e_⟩))); (case aS => exact (below_size (by repeat (first | (with_reducible first | exact HB.out | apply below_alloc | apply pw_below_drewN | apply below_drew1) | exact HB.out)))); (case aL => have := LMc43.out; omega); intro v225 w44 ho hb hg hat; rw [← Ny224.out] at ho; have n0_ := Aside0.mk (hb); have n1_ := Aside0.mk (ho); clear HB; clear HO_4; have HB := n0_; have HO226 := n1_; clear n0_ n1_; clear ho hb hg hat)))
                                              go_roundg kj17
                                              case measure => have := HK1.out; have := HJ12.out; have := HJ17.out; omega
                                              case rel => exact ⟨(y224), (wrap64 (x5_1 + 1)), (by first | rfl | (simp; done) | (simp [*]; done)), H', ⟨by have := HK1.out; have := HJ12.out; have := HJ17.out; omega⟩, ⟨by (with_reducible repeat (first | apply Kd.S_alloc | apply Kd.S_drewN | apply Kd.S_drew)); exact HO226.out⟩, ⟨by repeat (first | (with_reducible first | exact HB.out | apply below_alloc | apply pw_below_drewN | apply below_drew1) | exact HB.out)⟩⟩
                                            · rw [if_neg c43] at H
                                              exact absurd H (by simp)
                                          · rw [if_neg c42] at H
                                            have c42b0 : ((wrap64 (rd l0 (ji10))) == 254) = false := beq_eq_false_iff_ne.mpr c42
                                            have c42b1 : ((wrap64 (rd l0 (ji10))) != 254) = true := bne_iff_ne.mpr c42
                                            by_cases c45 : x4_1.length < 2513169434916
                                            · rw [if_pos c45] at H
                                              have LMc45 := Aside0.mk c45
                                              clear c45
                                              obtain ⟨y227, hy227⟩ : ∃ y_ : List (S54), y_ = (x4_1 ++ [(⟨3, Int.tmod (wrap64 (rd l0 (ji7))) 4, (wrap64 (rd l0 (ji10))), 0, ([] : List Int)⟩ : S54)]) := ⟨_, rfl⟩
                                              replace H : (ltkref20_Prog.l0 kj17 l0 ji2 y227 (wrap64 (x5_1 + 1))) = some r := by first | (rw [hy227]; with_reducible exact H) | (have H2_ := (Option.bind_some _ _).symm.trans H; rw [hy227]; with_reducible exact H2_) | (have H2_ := (Option.bind_some _ _).symm.trans H; with_reducible exact H2_) | with_reducible exact H | (rw [hy227]; exact H) | exact H
                                              have Ny227 := Aside0.mk hy227
                                              clear hy227
                                              have H' := Aside0.mk H
                                              clear H
                                              go_wp2_with (first | ((with_reducible refine gate_builtin (b := .append) (xs := #[.tmp 112, .tmp 117]) rfl ?_); at_builtin; refine Kd.S_append k54 (w0 := w) w.heap.size rfl (.tmp 112) (.tmp 117) 22 54 (.agg #[(.int .i64 0), (.int .i64 0), (.int .i64 0), (.int .i64 0), (.slice none 0 0)]) 56 rfl Try.underlying22 info54 rfl (by decide) (by omega) u4 x4_1 (⟨3, Int.tmod (wrap64 (rd l0 (ji7))) 4, (wrap64 (rd l0 (ji10))), 0, ([] : List Int)⟩ : S54) [.int .i64 3, .int .i64 (Int.tmod (wrap64 (rd l0 (ji7))) 4), .int .i64 (wrap64 (rd l0 (ji10))), .int .i64 0, .slice none 0 0] (fun _ => True) (fun _ => False) rfl rfl ?aP (fun k_ hk_ => hk_.elim) ?aF ?aO ?aB ?aS ?aL ?_; (case aP => exact k54_mkM _ _ _ (⟨3, Int.tmod (wrap64 (rd l0 (ji7))) 4, (wrap64 (rd l0 (ji10))), 0, ([] : List Int)⟩ : S54) (Kd.R_nil _ _ _ _ _)); (case aB => exact (by repeat (first | (with_reducible first | exact HB.out | apply below_alloc | apply pw_below_drewN | apply below_drew1) | exact HB.out))); (case aF => exact (fun _ _ => trivial)); (case aO => exact (by (with_reducible repeat (first | apply Kd.S_alloc | apply Kd.S_drewN | apply Kd.S_drew)); exact Kd.S_mono HO_4.out (fun k_ hk => ⟨trivial, fun e_ => e_⟩))); (case aS => exact (below_size (by repeat (first | (with_reducible first | exact HB.out | apply below_alloc | apply pw_below_drewN | apply below_drew1) | exact HB.out)))); (case aL => have := LMc45.out; omega); intro v228 w46 ho hb hg hat; rw [← Ny227.out] at ho; have n0_ := Aside0.mk (hb); have n1_ := Aside0.mk (ho); clear HB; clear HO_4; have HB := n0_; have HO229 := n1_; clear n0_ n1_; clear ho hb hg hat))
                                              repeat (go_quiet (first | ((with_reducible refine gate_builtin (b := .append) (xs := #[.tmp 112, .tmp 117]) rfl ?_); at_builtin; refine Kd.S_append k54 (w0 := w) w.heap.size rfl (.tmp 112) (.tmp 117) 22 54 (.agg #[(.int .i64 0), (.int .i64 0), (.int .i64 0), (.int .i64 0), (.slice none 0 0)]) 56 rfl Try.underlying22 info54 rfl (by decide) (by omega) u4 x4_1 (⟨3, Int.tmod (wrap64 (rd l0 (ji7))) 4, (wrap64 (rd l0 (ji10))), 0, ([] : List Int)⟩ : S54) [.int .i64 3, .int .i64 (Int.tmod (wrap64 (rd l0 (ji7))) 4), .int .i64 (wrap64 (rd l0 (ji10))), .int .i64 0, .slice none 0 0] (fun _ => True) (fun _ => False) rfl rfl ?aP (fun k_ hk_ => hk_.elim) ?aF ?aO ?aB ?aS ?aL ?_; (case aP => exact k54_mkM _ _ _ (⟨3, Int.tmod (wrap64 (rd l0 (ji7))) 4, (wrap64 (rd l0 (ji10))), 0, ([] : List Int)⟩ : S54) (Kd.R_nil _ _ _ _ _)); (case aB => exact (by repeat (first | (with_reducible first | exact HB.out | apply below_alloc | apply pw_below_drewN | apply below_drew1) | exact HB.out))); (case aF => exact (fun _ _ => trivial)); (case aO => exact (by (with_reducible repeat (first | apply Kd.S_alloc | apply Kd.S_drewN | apply Kd.S_drew)); exact Kd.S_mono HO_4.out (fun k_ hk => ⟨trivial, fun e_ => e_⟩))); (case aS => exact (below_size (by repeat (first | (with_reducible first | exact HB.out | apply below_alloc | apply pw_below_drewN | apply below_drew1) | exact HB.out)))); (case aL => have := LMc45.out; omega); intro v228 w46 ho hb hg hat; rw [← Ny227.out] at ho; have n0_ := Aside0.mk (hb); have n1_ := Aside0.mk (ho); clear HB; clear HO_4; have HB := n0_; have HO229 := n1_; clear n0_ n1_; clear ho hb hg hat)); try go_wp2_with (first | ((with_reducible refine gate_builtin (b := .append) (xs := #[.tmp 112, .tmp 117]) rfl ?_); at_builtin; refine Kd.S_append k54 (w0 := w) w.heap.size rfl (.tmp 112) (.tmp 117) 22 54 (.agg #[(.int .i64 0), (.int .i64 0), (.int .i64 0), (.int .i64 0), (.slice none 0 0)]) 56 rfl Try.underlying22 info54 rfl (by decide) (by omega) u4 x4_1 (⟨3, Int.tmod (wrap64 (rd l0 (ji7))) 4, (wrap64 (rd l0 (ji10))), 0, ([] : List Int)⟩ : S54) [.int .i64 3, .int .i64 (Int.tmod (wrap64 (rd l0 (ji7))) 4), .int .i64 (wrap64 (rd l0 (ji10))), .int .i64 0, .slice none 0 0] (fun _ => True) (fun _ => False) rfl rfl ?aP (fun k_ hk_ => hk_.elim) ?aF ?aO ?aB ?aS ?aL ?_; (case aP => exact k54_mkM _ _ _ (⟨3, Int.tmod (wrap64 (rd l0 (ji7))) 4, (wrap64 (rd l0 (ji10))), 0, ([] : List Int)⟩ : S54) (Kd.R_nil _ _ _ _ _)); (case aB => exact (by repeat (first | (with_reducible first | exact HB.out | apply below_alloc | apply pw_below_drewN | apply below_drew1) | exact HB.out))); (case aF => exact (fun _ _ => trivial)); (case aO => exact (by (with_reducible repeat (first | apply Kd.S_alloc | apply Kd.S_drewN | apply Kd.S_drew)); exact Kd.S_mono HO_4.out (fun k_ hk => ⟨trivial, fun e_ => e_⟩))); (case aS => exact (below_size (by repeat (first | (with_reducible first | exact HB.out | apply below_alloc | apply pw_below_drewN | apply below_drew1) | exact HB.out)))); (case aL => have := LMc45.out; omega); intro v228 w46 ho hb hg hat; rw [← Ny227.out] at ho; have n0_ := Aside0.mk (hb); have n1_ := Aside0.mk (ho); clear HB; clear HO_4; have HB := n0_; have HO229 := n1_; clear n0_ n1_; clear ho hb hg hat)))
                                              go_roundg kj17
                                              case measure => have := HK1.out; have := HJ12.out; have := HJ17.out; omega
                                              case rel => exact ⟨(y227), (wrap64 (x5_1 + 1)), (by first | rfl | (simp; done) | (simp [*]; done)), H', ⟨by have := HK1.out; have := HJ12.out; have := HJ17.out; omega⟩, ⟨by (with_reducible repeat (first | apply Kd.S_alloc | apply Kd.S_drewN | apply Kd.S_drew)); exact HO229.out⟩, ⟨by repeat (first | (with_reducible first | exact HB.out | apply below_alloc | apply pw_below_drewN | apply below_drew1) | exact HB.out)⟩⟩
                                            · rw [if_neg c45] at H
                                              exact absurd H (by simp)
                                      · rw [if_neg c38] at H
                                        have c38b0 : ((Int.tmod (rd l0 (ji4)) 8) == 7) = false := beq_eq_false_iff_ne.mpr c38
                                        have c38b1 : ((Int.tmod (rd l0 (ji4)) 8) != 7) = true := bne_iff_ne.mpr c38
                                        have H' := Aside0.mk H
                                        clear H
                                        go_wp2
                                        repeat (go_quiet (fail); try go_wp2)
                                        go_roundg kj17
                                        case measure => have := HK1.out; have := HJ12.out; have := HJ17.out; omega
                                        case rel => exact ⟨(x4_1), (wrap64 (x5_1 + 1)), (by first | rfl | (simp; done) | (simp [*]; done)), H', ⟨by have := HK1.out; have := HJ12.out; have := HJ17.out; omega⟩, ⟨by (with_reducible repeat (first | apply Kd.S_alloc | apply Kd.S_drewN | apply Kd.S_drew)); exact HO_4.out⟩, ⟨by repeat (first | (with_reducible first | exact HB.out | apply below_alloc | apply pw_below_drewN | apply below_drew1) | exact HB.out)⟩⟩
                  · rw [if_neg c12] at H
                    exact absurd H (by simp)
                · rw [if_neg c11] at H
                  exact absurd H (by simp)
              · rw [if_neg c9] at H
                exact absurd H (by simp)
            · rw [if_neg c8] at H
              exact absurd H (by simp)
          · rw [if_neg c6] at H
            exact absurd H (by simp)
        · rw [if_neg c5] at H
          exact absurd H (by simp)
      · rw [if_neg c3] at H
        have c3b0 : decide (x5_1 < ji2) = false := decide_eq_false c3
        clear c3
        obtain rfl := Option.some.inj H
        go_wp2
        repeat (go_quiet (fail); try go_wp2)
        go_ret
        exact ⟨_, by first | rfl | (simp [errW_none, errW_some] <;> rfl) | (simp only [← hji2]; first | rfl | (simp [errW_none, errW_some] <;> rfl)) | (simp [*, errW_none, errW_some] <;> rfl), by (with_reducible repeat (first | apply Kd.S_alloc | apply Kd.S_drewN | apply Kd.S_drew)); exact HO_4.out, by repeat (first | (with_reducible first | exact HB.out | apply below_alloc | apply pw_below_drewN | apply below_drew1) | exact HB.out)⟩

end Go.Proofs.Ytfdnhhjggophcaa.PAb
