-- Written by a program of this session (myprint.py) over the kit's print; some functions' contracts are given by hand.
import Derived.Test.YtfdnhhjggophcaaPAbx0
import Derived.Test.YtfdnhhjggophcaaPAbx4
namespace Go.Proofs.Ytfdnhhjggophcaa.PAb
open Go.RowKit Go.Proofs.YtfdnhhjggophcaaW.PrintWords Go.Proofs.YtfdnhhjggophcaaW.PrintLast Go.Proofs.YtfdnhhjggophcaaW.PrintMore
attribute [local go_sem] max2_int min2_int max_two min_two max_three min_three max_four min_four   -- for this text's walks alone
set_option linter.unusedVariables false
set_option linter.unusedSimpArgs false

/-! ### tale_Threads: function 10 -/
mutual
def tale_Threads.j0 : Nat → List Int → Int → Bool → Option ((List (List (List (S54)))))
  | 0, _, _, _ => none
  | k + 1, x0, x1, x14 => if x14 = true then (some ([] : List (List (List (S54))))) else (if x1 = 0 then (none) else (tale_Threads.l0 k x0 ([] : List (List (List (S54)))) (wrap64 ((x0.length : Int) / x1)) x1 0))
def tale_Threads.l0 : Nat → List Int → List (List (List (S54))) → Int → Int → Int → Option ((List (List (List (S54)))))
  | 0, _, _, _, _, _ => none
  | k + 1, x0, x5, x6, x19, x20 => if x20 < x19 then (if 0 ≤ (wrap64 (x20 * x6)) then (if (wrap64 (x20 * x6)) ≤ (wrap64 ((wrap64 (x20 + 1)) * x6)) then (if (wrap64 ((wrap64 (x20 + 1)) * x6)) ≤ (x0.length : Int) then (if 0 ≤ (wrap64 (Int.tdiv x6 2)) then (if (wrap64 (Int.tdiv x6 2)) ≤ (((x0.take ((wrap64 ((wrap64 (x20 + 1)) * x6)) : Int).toNat).drop ((wrap64 (x20 * x6)) : Int).toNat).length : Int) then ((tale_Prog.f k (((x0.take ((wrap64 ((wrap64 (x20 + 1)) * x6)) : Int).toNat).drop ((wrap64 (x20 * x6)) : Int).toNat).take ((wrap64 (Int.tdiv x6 2)) : Int).toNat)).bind fun t184 => ((tale_Prog.f k (((x0.take ((wrap64 ((wrap64 (x20 + 1)) * x6)) : Int).toNat).drop ((wrap64 (x20 * x6)) : Int).toNat).drop ((wrap64 (Int.tdiv x6 2)) : Int).toNat)).bind fun t188 => (if x5.length < 5864062014805 then (tale_Threads.l0 k x0 (x5 ++ [(([t184, t188] : List (List (S54))))]) x6 x19 (wrap64 (x20 + 1))) else (none)))) else (none)) else (none)) else (none)) else (none)) else (none)) else (some x5)
end
def tale_Threads.f (k : Nat) (l0 : List Int) (a1 : Int) : Option ((List (List (List (S54))))) := if a1 < 1 then (tale_Threads.j0 k l0 a1 true) else (tale_Threads.j0 k l0 a1 (decide (a1 > 64)))
theorem tale_Threads.mono_l : ∀ k, (∀ y0 y1 y2, LeO (tale_Threads.j0 k y0 y1 y2) (tale_Threads.j0 (k + 1) y0 y1 y2)) ∧ (∀ y0 y1 y2 y3 y4, LeO (tale_Threads.l0 k y0 y1 y2 y3 y4) (tale_Threads.l0 (k + 1) y0 y1 y2 y3 y4))
  | 0 => ⟨fun _ _ _ r h => by simp [tale_Threads.j0] at h, fun _ _ _ _ _ r h => by simp [tale_Threads.l0] at h⟩
  | k + 1 => by
    obtain ⟨ih0, ih1⟩ := tale_Threads.mono_l k
    refine ⟨?_, ?_⟩
    · intro y0 y1 y2
      unfold tale_Threads.j0
      repeat' first
      | (with_reducible exact ih0 _ _ _)
      | (with_reducible exact ih1 _ _ _ _ _)
      | (with_reducible exact tale_Prog.mono _ _)
      | (with_reducible exact LeO.refl _)
      | (with_reducible exact LeO.none _)
      | (with_reducible refine LeO.ite ?_ ?_)
      | (with_reducible refine LeO.bind ?_ (fun _ => ?_))
      | exact ih0 _ _ _
      | exact ih1 _ _ _ _ _
      | exact tale_Prog.mono _ _
      | exact LeO.none _
      | refine LeO.ite ?_ ?_
      | refine LeO.bind ?_ (fun _ => ?_)
    · intro y0 y1 y2 y3 y4
      unfold tale_Threads.l0
      repeat' first
      | (with_reducible exact ih0 _ _ _)
      | (with_reducible exact ih1 _ _ _ _ _)
      | (with_reducible exact tale_Prog.mono _ _)
      | (with_reducible exact LeO.refl _)
      | (with_reducible exact LeO.none _)
      | (with_reducible refine LeO.ite ?_ ?_)
      | (with_reducible refine LeO.bind ?_ (fun _ => ?_))
      | exact ih0 _ _ _
      | exact ih1 _ _ _ _ _
      | exact tale_Prog.mono _ _
      | exact LeO.none _
      | refine LeO.ite ?_ ?_
      | refine LeO.bind ?_ (fun _ => ?_)
theorem tale_Threads.mono : ∀ a0 a1 k, LeO (tale_Threads.f k a0 a1) (tale_Threads.f (k + 1) a0 a1) := by
  intro a0 a1 k
  obtain ⟨ih0, ih1⟩ := tale_Threads.mono_l k
  unfold tale_Threads.f
  repeat' first
      | (with_reducible exact ih0 _ _ _)
      | (with_reducible exact ih1 _ _ _ _ _)
      | (with_reducible exact tale_Prog.mono _ _)
      | (with_reducible exact LeO.refl _)
      | (with_reducible exact LeO.none _)
      | (with_reducible refine LeO.ite ?_ ?_)
      | (with_reducible refine LeO.bind ?_ (fun _ => ?_))
      | exact ih0 _ _ _
      | exact ih1 _ _ _ _ _
      | exact tale_Prog.mono _ _
      | exact LeO.none _
      | refine LeO.ite ?_ ?_
      | refine LeO.bind ?_ (fun _ => ?_)
def tale_Threads.T9 : Bool × List (List Nat × List Nat) := (true, [([], []), ([], []), ([], []), ([2], [2]), ([1, 3], [1, 3]), ([4], [4]), ([], []), ([], []), ([7], [7]), ([6, 8], [6, 8]), ([9, 5], [9]), ([5, 10], [5, 10]), ([11], [11]), ([0, 12, 10], [0, 12]), ([13, 13, 0, 1, 2, 3, 4, 5, 6, 7, 8, 9, 10, 11, 12, 13], [0, 13])])
def tale_Threads.B9 : List Nat := [0, 0, 0, 4, 14, 30, 0, 0, 128, 448, 1022, 2046, 4094, 8191, 16383]
theorem tale_Threads.tab9 : rtab .any (opsOf Try.f10 9) = tale_Threads.T9 := by kernel_rfl
theorem tale_Threads.bits9 : waitsOk tale_Threads.T9.2 tale_Threads.B9 = true := by kernel_rfl
set_option maxHeartbeats 8000000 in
set_option maxRecDepth 100000 in
theorem tale_Threads.calls (k : Nat) (A0 : Option Addr) (c0 : Nat) (l0 : List Int) (a1 : Int) (r : List (List (List (S54)))) (w : World) (hr0 : Kd.C (Kd.int .u8) w A0 l0.length l0) (hc0 : l0.length ≤ c0) (h : tale_Threads.f k l0 a1 = some r) :
    Calls Try.prog 10 #[.slice A0 l0.length c0, .int .i64 a1] w fun e w' => ∃ v0_ : Value, e = .returned (v0_) ∧ Kd.N (Kd.slice 22 (Kd.slice 54 k54)) 26 w' w.heap.size (fun k_ => (w.heap.size ≤ k_)) v0_ r ∧ Below w.heap.size w w' := by
  have HR0 := Aside0.mk hr0
  have HC0 := Aside0.mk hc0
  clear hr0 hc0
  have HB := Aside0.mk (Below.refl w.heap.size w)
  have H : (if a1 < 1 then (tale_Threads.j0 k l0 a1 true) else (tale_Threads.j0 k l0 a1 (decide (a1 > 64)))) = some r := h
  clear h
  have HC3 := Aside0.mk H
  clear H
  go_enter Try.func10, Try.ntmps10
  go_upto_region 1 with (fail)
  go_cut [14] (fun v14 wc => ∃ (kq : Nat) (x14_2 : Bool), v14 = .bool x14_2 ∧ Aside0 (tale_Threads.j0 kq l0 a1 x14_2 = some r) ∧ Aside0 (kq ≤ k) ∧ Aside0 (Below w.heap.size w wc))
  case first =>
    have H := HC3.out
    clear HC3
    by_cases c4 : a1 < 1
    · rw [if_pos c4] at H
      have c4b0 : decide (a1 < 1) = true := decide_eq_true c4
      clear c4
      (first | rw [c4b0] | (simp only [i64_w, i32_w]; rw [c4b0]) | skip)
      have H' := Aside0.mk H
      clear H
      go_wp2
      go_meet
      case rel => exact ⟨_, (true), (by first | rfl | (simp; done) | (simp [*]; done)), H', ⟨by first | omega | exact Nat.le_refl _⟩, ⟨by repeat (first | (with_reducible first | exact HB.out | apply below_alloc | apply pw_below_drewN | apply below_drew1) | exact HB.out)⟩⟩
    · rw [if_neg c4] at H
      have c4b0 : decide (a1 < 1) = false := decide_eq_false c4
      clear c4
      (first | rw [c4b0] | (simp only [i64_w, i32_w]; rw [c4b0]) | skip)
      have H' := Aside0.mk H
      clear H
      go_wp2
      go_meet
      case rel => exact ⟨_, (decide (a1 > 64)), (by first | rfl | (simp; done) | (simp [*]; done)), H', ⟨by first | omega | exact Nat.le_refl _⟩, ⟨by repeat (first | (with_reducible first | exact HB.out | apply below_alloc | apply pw_below_drewN | apply below_drew1) | exact HB.out)⟩⟩
  case rest =>
    clear HC3
    try clear c1
    try clear p2
    try clear c4
    try clear c4b0
    obtain ⟨kq, x14_2, rfl, HA, HJ2, HB⟩ := hcut
    cases kq with
    | zero => exact absurd HA.out (by simp [tale_Threads.j0])
    | succ kj2 =>
      have H := HA.out
      clear HA
      simp only [tale_Threads.j0] at H
      by_cases c5 : x14_2 = true
      · subst c5
        have H1 : (some ([] : List (List (List (S54))))) = some r := by rw [if_pos rfl] at H; exact H
        clear H
        have H := H1
        clear H1
        obtain rfl := Option.some.inj H
        go_wp2
        go_ret
        exact ⟨_, by first | rfl | (simp [errW_none, errW_some] <;> rfl) | (simp [*, errW_none, errW_some] <;> rfl), by first | exact Kd.R_nil _ _ _ _ _ | exact Kd.N_nil _ _ _ _ _ | exact Kd.V_nil _ _ _ _ _ | exact Kd.Q_nil _ _ _ _ _ | exact Kd.S_nil _ _ _ _ _, by repeat (first | (with_reducible first | exact HB.out | apply below_alloc | apply pw_below_drewN | apply below_drew1) | exact HB.out)⟩
      · replace c5 := Bool.eq_false_iff.mpr c5
        subst c5
        have H1 : (if a1 = 0 then (none) else (tale_Threads.l0 kj2 l0 ([] : List (List (List (S54)))) (wrap64 ((l0.length : Int) / a1)) a1 0)) = some r := by rw [if_neg (show ¬ (false = true) by decide)] at H; exact H
        clear H
        have H := H1
        clear H1
        by_cases c6 : a1 = 0
        · rw [if_pos c6] at H
          exact absurd H (by simp)
        · rw [if_neg c6] at H
          have c6b0 : (a1 == 0) = false := beq_eq_false_iff_ne.mpr c6
          have c6b1 : (a1 != 0) = true := bne_iff_ne.mpr c6
          have H' := Aside0.mk H
          clear H
          go_wp2
          go_loopg [5, 20] kj2 (fun kq v5 v20 w' => ∃ (x5_2 : List (List (List (S54)))) (x20_2 : Int), v20 = .int .i64 x20_2 ∧ Aside0 (tale_Threads.l0 kq l0 x5_2 (wrap64 ((l0.length : Int) / a1)) a1 x20_2 = some r) ∧ Aside0 (kq ≤ kj2) ∧ Aside0 (Kd.N (Kd.slice 22 (Kd.slice 54 k54)) 26 w' w.heap.size (fun k_ => (w.heap.size ≤ k_)) v5 x5_2) ∧ Aside0 (Below w.heap.size w w'))
          case atStart => exact ⟨(([] : List (List (List (S54))))), (0), (by first | rfl | (simp; done) | (simp [*]; done)), H', ⟨Nat.le_refl _⟩, ⟨by first | exact Kd.R_nil _ _ _ _ _ | exact Kd.N_nil _ _ _ _ _ | exact Kd.V_nil _ _ _ _ _ | exact Kd.Q_nil _ _ _ _ _ | exact Kd.S_nil _ _ _ _ _⟩, ⟨by repeat (first | (with_reducible first | exact HB.out | apply below_alloc | apply pw_below_drewN | apply below_drew1) | exact HB.out)⟩⟩
          case round =>
            clear H'
            try clear c1
            try clear p2
            try clear c4
            try clear c4b0
            try clear c5
            try clear c6
            try clear c6b0
            try clear c6b1
            try clear p6
            try clear p2
            obtain ⟨x5_2, x20_2, rfl, HA, HK2, HO_5, HB⟩ := hrel
            cases gk with
            | zero => exact absurd HA.out (by simp [tale_Threads.l0])
            | succ k2 =>
              have H := HA.out
              clear HA
              simp only [tale_Threads.l0] at H
              by_cases c7 : x20_2 < a1
              · rw [if_pos c7] at H
                have c7b0 : decide (x20_2 < a1) = true := decide_eq_true c7
                clear c7
                obtain ⟨ji8, hji8⟩ : ∃ j_ : Int, (wrap64 (x20_2 * (wrap64 ((l0.length : Int) / a1)))) = j_ := ⟨_, rfl⟩
                replace H : (if 0 ≤ (ji8) then (if (ji8) ≤ (wrap64 ((wrap64 (x20_2 + 1)) * (wrap64 ((l0.length : Int) / a1)))) then (if (wrap64 ((wrap64 (x20_2 + 1)) * (wrap64 ((l0.length : Int) / a1)))) ≤ (l0.length : Int) then (if 0 ≤ (wrap64 (Int.tdiv (wrap64 ((l0.length : Int) / a1)) 2)) then (if (wrap64 (Int.tdiv (wrap64 ((l0.length : Int) / a1)) 2)) ≤ (((l0.take ((wrap64 ((wrap64 (x20_2 + 1)) * (wrap64 ((l0.length : Int) / a1)))) : Int).toNat).drop ((ji8) : Int).toNat).length : Int) then ((tale_Prog.f k2 (((l0.take ((wrap64 ((wrap64 (x20_2 + 1)) * (wrap64 ((l0.length : Int) / a1)))) : Int).toNat).drop ((ji8) : Int).toNat).take ((wrap64 (Int.tdiv (wrap64 ((l0.length : Int) / a1)) 2)) : Int).toNat)).bind fun t184 => ((tale_Prog.f k2 (((l0.take ((wrap64 ((wrap64 (x20_2 + 1)) * (wrap64 ((l0.length : Int) / a1)))) : Int).toNat).drop ((ji8) : Int).toNat).drop ((wrap64 (Int.tdiv (wrap64 ((l0.length : Int) / a1)) 2)) : Int).toNat)).bind fun t188 => (if x5_2.length < 5864062014805 then (tale_Threads.l0 k2 l0 (x5_2 ++ [(([t184, t188] : List (List (S54))))]) (wrap64 ((l0.length : Int) / a1)) a1 (wrap64 (x20_2 + 1))) else (none)))) else (none)) else (none)) else (none)) else (none)) else (none)) = some r := by first | (rw [hji8] at H; exact H) | (simp only [hji8] at H ⊢; exact H)
                have hji8w : (IntKind.i64.wrap (x20_2 * (wrap64 ((l0.length : Int) / a1)))) = ji8 := (i64_w _).trans hji8
                by_cases c9 : 0 ≤ (ji8)
                · rw [if_pos c9] at H
                  have c9b0 := eq_true c9
                  have c9b1 : decide (0 ≤ (ji8)) = true := decide_eq_true c9
                  clear c9
                  by_cases c10 : (ji8) ≤ (wrap64 ((wrap64 (x20_2 + 1)) * (wrap64 ((l0.length : Int) / a1))))
                  · rw [if_pos c10] at H
                    have c10b0 := eq_true c10
                    have c10b1 : decide ((ji8) ≤ (wrap64 ((wrap64 (x20_2 + 1)) * (wrap64 ((l0.length : Int) / a1))))) = true := decide_eq_true c10
                    by_cases c11 : (wrap64 ((wrap64 (x20_2 + 1)) * (wrap64 ((l0.length : Int) / a1)))) ≤ (l0.length : Int)
                    · rw [if_pos c11] at H
                      have c11b0 := eq_true c11
                      have c11b1 : decide ((wrap64 ((wrap64 (x20_2 + 1)) * (wrap64 ((l0.length : Int) / a1)))) ≤ (l0.length : Int)) = true := decide_eq_true c11
                      obtain ⟨ji12, hji12⟩ : ∃ j_ : Int, (wrap64 (Int.tdiv (wrap64 ((l0.length : Int) / a1)) 2)) = j_ := ⟨_, rfl⟩
                      replace H : (if 0 ≤ (ji12) then (if (ji12) ≤ (((l0.take ((wrap64 ((wrap64 (x20_2 + 1)) * (wrap64 ((l0.length : Int) / a1)))) : Int).toNat).drop ((ji8) : Int).toNat).length : Int) then ((tale_Prog.f k2 (((l0.take ((wrap64 ((wrap64 (x20_2 + 1)) * (wrap64 ((l0.length : Int) / a1)))) : Int).toNat).drop ((ji8) : Int).toNat).take ((ji12) : Int).toNat)).bind fun t184 => ((tale_Prog.f k2 (((l0.take ((wrap64 ((wrap64 (x20_2 + 1)) * (wrap64 ((l0.length : Int) / a1)))) : Int).toNat).drop ((ji8) : Int).toNat).drop ((ji12) : Int).toNat)).bind fun t188 => (if x5_2.length < 5864062014805 then (tale_Threads.l0 k2 l0 (x5_2 ++ [(([t184, t188] : List (List (S54))))]) (wrap64 ((l0.length : Int) / a1)) a1 (wrap64 (x20_2 + 1))) else (none)))) else (none)) else (none)) = some r := by first | (rw [hji12] at H; exact H) | (simp only [hji12] at H ⊢; exact H)
                      have hji12w : (IntKind.i64.wrap (Int.tdiv (wrap64 ((l0.length : Int) / a1)) 2)) = ji12 := (i64_w _).trans hji12
                      by_cases c13 : 0 ≤ (ji12)
                      · rw [if_pos c13] at H
                        have c13b0 := eq_true c13
                        have c13b1 : decide (0 ≤ (ji12)) = true := decide_eq_true c13
                        clear c13
                        by_cases c14 : (ji12) ≤ (((l0.take ((wrap64 ((wrap64 (x20_2 + 1)) * (wrap64 ((l0.length : Int) / a1)))) : Int).toNat).drop ((ji8) : Int).toNat).length : Int)
                        · rw [if_pos c14] at H
                          have c14b0 := eq_true c14
                          have c14b1 : decide ((ji12) ≤ (((l0.take ((wrap64 ((wrap64 (x20_2 + 1)) * (wrap64 ((l0.length : Int) / a1)))) : Int).toNat).drop ((ji8) : Int).toNat).length : Int)) = true := decide_eq_true c14
                          replace H := Option.bind_eq_some_iff.mp H
                          obtain ⟨t184, A150, H⟩ := H
                          replace H : ((tale_Prog.f k2 (((l0.take ((wrap64 ((wrap64 (x20_2 + 1)) * (wrap64 ((l0.length : Int) / a1)))) : Int).toNat).drop ((ji8) : Int).toNat).drop ((ji12) : Int).toNat)).bind fun t188 => (if x5_2.length < 5864062014805 then (tale_Threads.l0 k2 l0 (x5_2 ++ [(([t184, t188] : List (List (S54))))]) (wrap64 ((l0.length : Int) / a1)) a1 (wrap64 (x20_2 + 1))) else (none))) = some r := H
                          have A15 := Aside0.mk A150
                          clear A150
                          have c16b0 := eq_true (of_decide_eq_true (by first | (with_reducible assumption) | assumption) : 0 ≤ (ji12))
                          have c17b0 := eq_true (of_decide_eq_true (by first | (with_reducible assumption) | assumption) : (ji12) ≤ (((l0.take ((wrap64 ((wrap64 (x20_2 + 1)) * (wrap64 ((l0.length : Int) / a1)))) : Int).toNat).drop ((ji8) : Int).toNat).length : Int))
                          replace H := Option.bind_eq_some_iff.mp H
                          obtain ⟨t188, A180, H⟩ := H
                          replace H : (if x5_2.length < 5864062014805 then (tale_Threads.l0 k2 l0 (x5_2 ++ [(([t184, t188] : List (List (S54))))]) (wrap64 ((l0.length : Int) / a1)) a1 (wrap64 (x20_2 + 1))) else (none)) = some r := H
                          have A18 := Aside0.mk A180
                          clear A180
                          obtain ⟨y191, hy191⟩ : ∃ y_ : List (List (S54)), y_ = (([t184, t188] : List (List (S54)))) := ⟨_, rfl⟩
                          replace H : (if x5_2.length < 5864062014805 then (tale_Threads.l0 k2 l0 (x5_2 ++ [y191]) (wrap64 ((l0.length : Int) / a1)) a1 (wrap64 (x20_2 + 1))) else (none)) = some r := by first | (rw [hy191]; with_reducible exact H) | (have H2_ := (Option.bind_some _ _).symm.trans H; rw [hy191]; with_reducible exact H2_) | (have H2_ := (Option.bind_some _ _).symm.trans H; with_reducible exact H2_) | with_reducible exact H | (rw [hy191]; exact H) | exact H
                          have Ny191 := Aside0.mk hy191
                          clear hy191
                          by_cases c19 : x5_2.length < 5864062014805
                          · rw [if_pos c19] at H
                            have LMc19 := Aside0.mk c19
                            clear c19
                            obtain ⟨y194, hy194⟩ : ∃ y_ : List (List (List (S54))), y_ = (x5_2 ++ [y191]) := ⟨_, rfl⟩
                            replace H : (tale_Threads.l0 k2 l0 y194 (wrap64 ((l0.length : Int) / a1)) a1 (wrap64 (x20_2 + 1))) = some r := by first | (rw [hy194]; with_reducible exact H) | (have H2_ := (Option.bind_some _ _).symm.trans H; rw [hy194]; with_reducible exact H2_) | (have H2_ := (Option.bind_some _ _).symm.trans H; with_reducible exact H2_) | with_reducible exact H | (rw [hy194]; exact H) | exact H
                            have Ny194 := Aside0.mk hy194
                            clear hy194
                            have H' := Aside0.mk H
                            clear H
                            obtain ⟨i020, hi020, _, hsz20, _⟩ := info_parts info5
                            obtain ⟨A20, hcut20, hA20, hC20⟩ := print_mid_of (P := Try.prog) (Value.int .u8) 0 29 5 .i64 .i64 Try.underlying29 hi020 hsz20 A0 c0 l0 (ji8) (wrap64 ((wrap64 (x20_2 + 1)) * (wrap64 ((l0.length : Int) / a1)))) (of_decide_eq_true (by first | (with_reducible assumption) | assumption)) (by first | omega | exact of_decide_eq_true (by first | (with_reducible assumption) | assumption)) (of_decide_eq_true (by first | (with_reducible assumption) | assumption)) HC0.out
                            have HR182 := Aside0.mk (Kd.C_of_reads (h1 := fun _ => rfl) (hA20 _ (Kd.reads_of_C HR0.out)))
                            have HC182 := Aside0.mk hC20
                            clear hA20 hC20 hi020 hsz20
                            try go_wp2
                            have n0_ := Aside0.mk (Kd.N_drew HO_5.out)
                            have n1_ := Aside0.mk (below_drew1 HB.out)
                            clear HO_5
                            clear HB
                            have HO_5 := n0_
                            have HB := n1_
                            clear n0_ n1_
                            obtain ⟨i022, hi022, _, hsz22, _⟩ := info_parts info5
                            obtain ⟨hcut22, hA22, hC22⟩ := print_take_of (P := Try.prog) (Value.int .u8) 0 29 5 .i64 Try.underlying29 hi022 hsz22 A20 (c0 - (ji8).toNat) ((l0.take ((wrap64 ((wrap64 (x20_2 + 1)) * (wrap64 ((l0.length : Int) / a1)))) : Int).toNat).drop ((ji8) : Int).toNat) (ji12) (of_decide_eq_true (by first | (with_reducible assumption) | assumption)) (of_decide_eq_true (by first | (with_reducible assumption) | assumption)) HC182.out
                            have hl_22 : ((l0.take ((wrap64 ((wrap64 (x20_2 + 1)) * (wrap64 ((l0.length : Int) / a1)))) : Int).toNat).drop ((ji8) : Int).toNat).length = ((wrap64 ((wrap64 (x20_2 + 1)) * (wrap64 ((l0.length : Int) / a1)))) : Int).toNat - ((ji8) : Int).toNat := by
                              have h3_ : (wrap64 ((wrap64 (x20_2 + 1)) * (wrap64 ((l0.length : Int) / a1)))) ≤ ((l0.length : Nat) : Int) := of_decide_eq_true (by first | (with_reducible assumption) | assumption)
                              rw [List.length_drop, List.length_take]
                              omega
                            (try rw [hl_22] at hcut22)
                            have HL_22 := Aside0.mk hl_22
                            clear hl_22
                            have HR183 := Aside0.mk (Kd.C_of_reads (h1 := fun _ => rfl) (hA22 _ (Kd.reads_of_C HR182.out)))
                            have HC183 := Aside0.mk hC22
                            clear hA22 hC22 hi022 hsz22
                            obtain ⟨i023, hi023, _, hsz23, _⟩ := info_parts info5
                            obtain ⟨A23, hcut23, hA23, hC23⟩ := print_drop_of (P := Try.prog) (Value.int .u8) 0 29 5 .i64 Try.underlying29 hi023 hsz23 A20 (c0 - (ji8).toNat) ((l0.take ((wrap64 ((wrap64 (x20_2 + 1)) * (wrap64 ((l0.length : Int) / a1)))) : Int).toNat).drop ((ji8) : Int).toNat) (ji12) (of_decide_eq_true (by first | (with_reducible assumption) | assumption)) (of_decide_eq_true (by first | (with_reducible assumption) | assumption)) HC182.out
                            have hl_23 : ((l0.take ((wrap64 ((wrap64 (x20_2 + 1)) * (wrap64 ((l0.length : Int) / a1)))) : Int).toNat).drop ((ji8) : Int).toNat).length = ((wrap64 ((wrap64 (x20_2 + 1)) * (wrap64 ((l0.length : Int) / a1)))) : Int).toNat - ((ji8) : Int).toNat := by
                              have h3_ : (wrap64 ((wrap64 (x20_2 + 1)) * (wrap64 ((l0.length : Int) / a1)))) ≤ ((l0.length : Nat) : Int) := of_decide_eq_true (by first | (with_reducible assumption) | assumption)
                              rw [List.length_drop, List.length_take]
                              omega
                            (try rw [hl_23] at hcut23)
                            have HL_23 := Aside0.mk hl_23
                            clear hl_23
                            have HR187 := Aside0.mk (Kd.C_of_reads (h1 := fun _ => rfl) (hA23 _ (Kd.reads_of_C HR182.out)))
                            have HC187 := Aside0.mk hC23
                            clear hA23 hC23 hi023 hsz23
                            refine start_ (n := 15) (S := fun w' => True) (ds := []) #[false, false, false, false, false, false, false, false, false, false, false, false, false, false, false] (by kernel_rfl) rfl rfl trivial (fun hHeld => ?_); refine with_tabW tale_Threads.tab9 tale_Threads.bits9 (fun HT_ HW_ => ?_)
                            generalize wr.drew = w21 at HO_5 HB HR183 HR187 hHeld ⊢
                            refine pure_ (i := 0) (N := some 32) (v := ?_) (a' := ?_) #[true, false, false, false, false, false, false, false, false, false, false, false, false, false, false] rfl rfl (any_of HT_.out (by kernel_rfl)) (fun _ _ _ h => h) (Or.inl ⟨by rfl, ?_⟩) ?_ ?_
                            rotate_left
                            · intro w'
                              go_simp
                              with_reducible rfl
                            rotate_left
                            · simp only [Act.put, List.setIfInBounds_toArray, List.set_cons_zero, List.set_cons_succ, i64_w, i32_w]
                              rfl
                            refine pure_ (i := 1) (N := some 33) (v := ?_) (a' := ?_) #[true, true, false, false, false, false, false, false, false, false, false, false, false, false, false] rfl rfl (any_of HT_.out (by kernel_rfl)) (fun _ _ _ h => h) (Or.inl ⟨by rfl, ?_⟩) ?_ ?_
                            rotate_left
                            · intro w'
                              go_simp
                              with_reducible rfl
                            rotate_left
                            · simp only [Act.put, List.setIfInBounds_toArray, List.set_cons_zero, List.set_cons_succ, i64_w, i32_w]
                              rfl
                            refine pure_ (i := 2) (N := some 34) (v := ?_) (a' := ?_) #[true, true, true, false, false, false, false, false, false, false, false, false, false, false, false] rfl rfl (any_of HT_.out (by kernel_rfl)) (fun _ _ _ h => h) (Or.inl ⟨by rfl, ?_⟩) ?_ ?_
                            rotate_left
                            · intro w'
                              go_simp
                              with_reducible rfl
                            rotate_left
                            · simp only [Act.put, List.setIfInBounds_toArray, List.set_cons_zero, List.set_cons_succ, i64_w, i32_w]
                              rfl
                            refine pure_ (i := 3) (N := some 35) (v := ?_) (a' := ?_) #[true, true, true, true, false, false, false, false, false, false, false, false, false, false, false] rfl rfl (any_of HT_.out (by kernel_rfl)) (fun _ _ _ h => h) (Or.inl ⟨by rfl, ?_⟩) ?_ ?_
                            rotate_left
                            · intro w'
                              go_simp
                              with_reducible rfl
                            rotate_left
                            · simp only [Act.put, List.setIfInBounds_toArray, List.set_cons_zero, List.set_cons_succ, i64_w, i32_w]
                              rfl
                            refine pure_ (i := 4) (N := some 36) (v := ?_) (a' := ?_) #[true, true, true, true, true, false, false, false, false, false, false, false, false, false, false] rfl rfl (any_of HT_.out (by kernel_rfl)) (fun _ _ _ h => h) (Or.inl ⟨by rfl, ?_⟩) ?_ ?_
                            rotate_left
                            · intro w'
                              go_simp
                              with_reducible rfl
                            rotate_left
                            · simp only [Act.put, List.setIfInBounds_toArray, List.set_cons_zero, List.set_cons_succ, i64_w, i32_w]
                              rfl
                            refine pure_ (i := 6) (N := some 38) (v := ?_) (a' := ?_) #[true, true, true, true, true, false, true, false, false, false, false, false, false, false, false] rfl rfl (any_of HT_.out (by kernel_rfl)) (fun _ _ _ h => h) (Or.inl ⟨by rfl, ?_⟩) ?_ ?_
                            rotate_left
                            · intro w'
                              go_simp
                              with_reducible rfl
                            rotate_left
                            · simp only [Act.put, List.setIfInBounds_toArray, List.set_cons_zero, List.set_cons_succ, i64_w, i32_w]
                              rfl
                            refine pure_ (i := 7) (N := some 39) (v := ?_) (a' := ?_) #[true, true, true, true, true, false, true, true, false, false, false, false, false, false, false] rfl rfl (any_of HT_.out (by kernel_rfl)) (fun _ _ _ h => h) (Or.inl ⟨by rfl, ?_⟩) ?_ ?_
                            rotate_left
                            · intro w'
                              go_simp
                              with_reducible rfl
                            rotate_left
                            · simp only [Act.put, List.setIfInBounds_toArray, List.set_cons_zero, List.set_cons_succ, i64_w, i32_w]
                              rfl
                            refine pure_ (i := 8) (N := some 40) (v := ?_) (a' := ?_) #[true, true, true, true, true, false, true, true, true, false, false, false, false, false, false] rfl rfl (any_of HT_.out (by kernel_rfl)) (fun _ _ _ h => h) (Or.inl ⟨by rfl, ?_⟩) ?_ ?_
                            rotate_left
                            · intro w'
                              go_simp
                              with_reducible rfl
                            rotate_left
                            · simp only [Act.put, List.setIfInBounds_toArray, List.set_cons_zero, List.set_cons_succ, i64_w, i32_w]
                              rfl
                            refine pure_ (i := 9) (N := some 41) (v := ?_) (a' := ?_) #[true, true, true, true, true, false, true, true, true, true, false, false, false, false, false] rfl rfl (any_of HT_.out (by kernel_rfl)) (fun _ _ _ h => h) (Or.inl ⟨by rfl, ?_⟩) ?_ ?_
                            rotate_left
                            · intro w'
                              go_simp
                              with_reducible rfl
                            rotate_left
                            · simp only [Act.put, List.setIfInBounds_toArray, List.set_cons_zero, List.set_cons_succ, i64_w, i32_w]
                              rfl
                            refine one_ (i := 5) (N := some 37) #[true, true, true, true, true, true, true, true, true, true, false, false, false, false, false] rfl rfl (one_of HT_.out (by kernel_rfl)) (by decide) (fun K hK => ?_)
                            refine goes_ Try.func15 (by kernel_rfl) rfl #[.slice A20 (((l0.take ((wrap64 ((wrap64 (x20_2 + 1)) * (wrap64 ((l0.length : Int) / a1)))) : Int).toNat).drop ((ji8) : Int).toNat).take ((ji12) : Int).toNat).length (c0 - (ji8).toNat)] (by rfl) rfl rfl (by (try simp only [List.map_toArray, List.map_cons, List.map_nil]); first | done | (rw [show (((l0.take ((wrap64 ((wrap64 (x20_2 + 1)) * (wrap64 ((l0.length : Int) / a1)))) : Int).toNat).drop ((ji8) : Int).toNat).take ((ji12) : Int).toNat).length = (ji12).toNat from (by rw [List.length_take]; have h_ : ((ji12) : Int) ≤ (((l0.take ((wrap64 ((wrap64 (x20_2 + 1)) * (wrap64 ((l0.length : Int) / a1)))) : Int).toNat).drop ((ji8) : Int).toNat).length : Int) := of_decide_eq_true (by first | (with_reducible assumption) | assumption); omega)] <;> rfl) | (simp only [hji12, hji8]; rfl) | rfl | (rw [List.length_take, HL_22.out]; rfl) | (rw [List.length_drop, HL_22.out]; rfl) | (rw [List.length_drop, HL_22.out, Nat.sub_sub ((wrap64 ((wrap64 (x20_2 + 1)) * (wrap64 ((l0.length : Int) / a1)))) : Int).toNat]; rfl) | (rw [List.length_take, HL_23.out]; rfl) | (rw [List.length_drop, HL_23.out]; rfl) | (rw [List.length_drop, HL_23.out, Nat.sub_sub ((wrap64 ((wrap64 (x20_2 + 1)) * (wrap64 ((l0.length : Int) / a1)))) : Int).toNat]; rfl) | (simp only [List.length_drop, List.length_take]; rfl)) ?_
                            with_reducible refine (tale_Prog.calls k2 _ _ (((l0.take ((wrap64 ((wrap64 (x20_2 + 1)) * (wrap64 ((l0.length : Int) / a1)))) : Int).toNat).drop ((ji8) : Int).toNat).take ((ji12) : Int).toNat) t184 _ ?side1 ?side2 A15.out).mono ?_
                            (case side1 => repeat (first | exact (Kd.C_below HR183.out HB.out) | (with_reducible refine Kd.C_alloc ?_ _) | (with_reducible refine Kd.C_drewN ?_ _) | (with_reducible refine Kd.C_drew ?_)))
                            (case side2 => exact HC183.out)
                            rintro e w24 ⟨v185, rfl, ho0, hb⟩
                            refine ⟨_, rfl, ?_⟩
                            have n0_ := Aside0.mk (Kd.N_elder' (by (with_reducible repeat (first | apply Kd.N_alloc | apply Kd.N_drewN | apply Kd.N_drew)); exact HO_5.out) (by first | exact Kd.N_base ho0 | exact Kd.N_base (Kd.S_N ho0) | exact Kd.N_base (Kd.S_N (Kd.S_bound ho0))) hb)
                            have n1_ := Aside0.mk (Kd.N_lower (Kd.N_mono (ok' := fun k_ => (w.heap.size ≤ k_) ∧ some k_ ≠ (u5 : Value).ownBlock) (Kd.S_N (Kd.S_bound ho0)) (fun k_ hk_ => ⟨(Nat.le_trans (below_size (by repeat (first | (with_reducible first | exact HB.out | apply below_alloc | apply pw_below_drewN | apply below_drew1) | exact HB.out))) hk_.2.1), (Kd.fresh' (Kd.N_lt (by (with_reducible repeat (first | apply Kd.N_alloc | apply Kd.N_drewN | apply Kd.N_drew)); exact HO_5.out)) k_ hk_.2.1)⟩)) (below_size (by repeat (first | (with_reducible first | exact HB.out | apply below_alloc | apply pw_below_drewN | apply below_drew1) | exact HB.out))))
                            have n2_ := Aside0.mk (below_step (by repeat (first | (with_reducible first | exact HB.out | apply below_alloc | apply pw_below_drewN | apply below_drew1) | exact HB.out)) hb)
                            clear HO_5
                            clear HB
                            have HO_5 := n0_
                            have HO186 := n1_
                            have HB := n2_
                            clear n0_ n1_ n2_
                            (try clear hb)
                            (try clear hb2)
                            (try clear hk)
                            (try clear hi)
                            (try clear ho0)
                            refine hK.out _ _ trivial (fun hHeld => ?_)
                            clear hK K
                            refine norm_ (a' := ?_) ?_ ?_
                            rotate_left
                            · show Act.put _ (some 37) _ = _
                              simp only [Act.put, List.setIfInBounds_toArray, List.set_cons_zero, List.set_cons_succ, i64_w, i32_w]
                              rfl
                            refine one_ (i := 10) (N := some 42) #[true, true, true, true, true, true, true, true, true, true, true, false, false, false, false] rfl rfl (one_of HT_.out (by kernel_rfl)) (by decide) (fun K hK => ?_)
                            refine goes_ Try.func15 (by kernel_rfl) rfl #[.slice A23 (((l0.take ((wrap64 ((wrap64 (x20_2 + 1)) * (wrap64 ((l0.length : Int) / a1)))) : Int).toNat).drop ((ji8) : Int).toNat).drop ((ji12) : Int).toNat).length ((c0 - (ji8).toNat) - (ji12).toNat)] (by rfl) rfl rfl (by (try simp only [List.map_toArray, List.map_cons, List.map_nil]); first | done | (rw [show (((l0.take ((wrap64 ((wrap64 (x20_2 + 1)) * (wrap64 ((l0.length : Int) / a1)))) : Int).toNat).drop ((ji8) : Int).toNat).drop ((ji12) : Int).toNat).length = (((l0.take ((wrap64 ((wrap64 (x20_2 + 1)) * (wrap64 ((l0.length : Int) / a1)))) : Int).toNat).drop ((ji8) : Int).toNat).length - (ji12).toNat) from List.length_drop] <;> rfl) | (simp only [hji12, hji8]; rfl) | rfl | (rw [List.length_take, HL_22.out]; rfl) | (rw [List.length_drop, HL_22.out]; rfl) | (rw [List.length_drop, HL_22.out, Nat.sub_sub ((wrap64 ((wrap64 (x20_2 + 1)) * (wrap64 ((l0.length : Int) / a1)))) : Int).toNat]; rfl) | (rw [List.length_take, HL_23.out]; rfl) | (rw [List.length_drop, HL_23.out]; rfl) | (rw [List.length_drop, HL_23.out, Nat.sub_sub ((wrap64 ((wrap64 (x20_2 + 1)) * (wrap64 ((l0.length : Int) / a1)))) : Int).toNat]; rfl) | (simp only [List.length_drop, List.length_take]; rfl)) ?_
                            with_reducible refine (tale_Prog.calls k2 _ _ (((l0.take ((wrap64 ((wrap64 (x20_2 + 1)) * (wrap64 ((l0.length : Int) / a1)))) : Int).toNat).drop ((ji8) : Int).toNat).drop ((ji12) : Int).toNat) t188 _ ?side1 ?side2 A18.out).mono ?_
                            (case side1 => repeat (first | exact (Kd.C_below HR187.out HB.out) | (with_reducible refine Kd.C_alloc ?_ _) | (with_reducible refine Kd.C_drewN ?_ _) | (with_reducible refine Kd.C_drew ?_)))
                            (case side2 => exact HC187.out)
                            rintro e w25 ⟨v189, rfl, ho0, hb⟩
                            refine ⟨_, rfl, ?_⟩
                            have n0_ := Aside0.mk (Kd.N_elder' (by (with_reducible repeat (first | apply Kd.N_alloc | apply Kd.N_drewN | apply Kd.N_drew)); exact HO_5.out) (by first | exact Kd.N_base ho0 | exact Kd.N_base (Kd.S_N ho0) | exact Kd.N_base (Kd.S_N (Kd.S_bound ho0))) hb)
                            have n1_ := Aside0.mk (Kd.N_elder' (by (with_reducible repeat (first | apply Kd.N_alloc | apply Kd.N_drewN | apply Kd.N_drew)); exact HO186.out) (by first | exact Kd.N_base ho0 | exact Kd.N_base (Kd.S_N ho0) | exact Kd.N_base (Kd.S_N (Kd.S_bound ho0))) hb)
                            have n2_ := Aside0.mk (Kd.N_lower (Kd.N_mono (ok' := fun k_ => (w.heap.size ≤ k_) ∧ some k_ ≠ (u5 : Value).ownBlock ∧ some k_ ≠ (v185 : Value).ownBlock) (Kd.S_N (Kd.S_bound ho0)) (fun k_ hk_ => ⟨(Nat.le_trans (below_size (by repeat (first | (with_reducible first | exact HB.out | apply below_alloc | apply pw_below_drewN | apply below_drew1) | exact HB.out))) hk_.2.1), (Kd.fresh' (Kd.N_lt (by (with_reducible repeat (first | apply Kd.N_alloc | apply Kd.N_drewN | apply Kd.N_drew)); exact HO_5.out)) k_ hk_.2.1), (Kd.fresh' (Kd.N_lt (by (with_reducible repeat (first | apply Kd.N_alloc | apply Kd.N_drewN | apply Kd.N_drew)); exact HO186.out)) k_ hk_.2.1)⟩)) (below_size (by repeat (first | (with_reducible first | exact HB.out | apply below_alloc | apply pw_below_drewN | apply below_drew1) | exact HB.out))))
                            have n3_ := Aside0.mk (below_step (by repeat (first | (with_reducible first | exact HB.out | apply below_alloc | apply pw_below_drewN | apply below_drew1) | exact HB.out)) hb)
                            clear HO_5
                            clear HO186
                            clear HB
                            have HO_5 := n0_
                            have HO186 := n1_
                            have HO190 := n2_
                            have HB := n3_
                            clear n0_ n1_ n2_ n3_
                            (try clear hb)
                            (try clear hb2)
                            (try clear hk)
                            (try clear hi)
                            (try clear ho0)
                            obtain ⟨Ao26, co26, eo26⟩ := Kd.N_slice HO186.out
                            (first | subst eo26 | (injection eo26 with f1_ f2_ f3_; have f4_ := f1_.symm; have f5_ := f3_.symm; clear f1_ f2_ f3_; subst f4_; subst f5_))
                            obtain ⟨Ao27, co27, eo27⟩ := Kd.N_slice HO190.out
                            (first | subst eo27 | (injection eo27 with f1_ f2_ f3_; have f4_ := f1_.symm; have f5_ := f3_.symm; clear f1_ f2_ f3_; subst f4_; subst f5_))
                            refine hK.out _ _ trivial (fun hHeld => ?_)
                            clear hK K
                            refine norm_ (a' := ?_) ?_ ?_
                            rotate_left
                            · show Act.put _ (some 42) _ = _
                              simp only [Act.put, List.setIfInBounds_toArray, List.set_cons_zero, List.set_cons_succ, i64_w, i32_w]
                              rfl
                            refine one_ (i := 11) (N := some 43) #[true, true, true, true, true, true, true, true, true, true, true, true, false, false, false] rfl rfl (one_of HT_.out (by kernel_rfl)) (by decide) (fun K hK => ?_)
                            refine Kd.N_lit_step (Kd.slice 54 k54) _ 22 ?hg (N' := 43) ?hd (xs := ([t184, t188] : List (List (S54)))) (inner := [.slice Ao26 t184.length co26, .slice Ao27 t188.length co27]) (ok := (fun k_ => (w.heap.size ≤ k_) ∧ some k_ ≠ (u5 : Value).ownBlock)) (okp := (fun k_ => (w.heap.size ≤ k_) ∧ some k_ ≠ (u5 : Value).ownBlock)) ?hr ?hp (fun _ hk => hk) ((show ∀ k_, w25.heap.size ≤ k_ → (fun k_ => (w.heap.size ≤ k_) ∧ some k_ ≠ (u5 : Value).ownBlock) k_ from fun k_ hk => ⟨(Nat.le_trans (below_size (by repeat (first | (with_reducible first | exact HB.out | apply below_alloc | apply pw_below_drewN | apply below_drew1) | exact HB.out))) hk), Kd.fresh' (Kd.N_lt (by (with_reducible repeat (first | apply Kd.N_alloc | apply Kd.N_drewN | apply Kd.N_drew)); exact HO_5.out)) k_ hk⟩) _ (Nat.le_refl _)) (Below.refl _ _) (Nat.le_refl _) (by simp) ?_; (case hd => rfl); (case hg => rfl); (case hr => first | (go_simp; done) | (go_simp; rfl)); (case hp => exact (Reps.one (show Kd.FK (Kd.slice 54 k54) _ _ t184 [.slice Ao26 t184.length co26] from (Kd.FK_slice_mk (Kd.N_reads' (Kd.N_mono (ok' := (fun k_ => (w.heap.size ≤ k_) ∧ some k_ ≠ (u5 : Value).ownBlock)) (HO186.out) (fun k_ hk => ⟨hk.1.1, hk.1.2⟩))).2.1 (Kd.N_F (Kd.N_mono (ok' := (fun k_ => (w.heap.size ≤ k_) ∧ some k_ ≠ (u5 : Value).ownBlock)) (HO186.out) (fun k_ hk => ⟨hk.1.1, hk.1.2⟩))))) (Reps.one (show Kd.FK (Kd.slice 54 k54) _ _ t188 [.slice Ao27 t188.length co27] from (Kd.FK_slice_mk (Kd.N_reads' (Kd.N_mono (ok' := (fun k_ => (w.heap.size ≤ k_) ∧ some k_ ≠ (u5 : Value).ownBlock)) (HO190.out) (fun k_ hk => ⟨hk.1, hk.2.1⟩))).2.1 (Kd.N_F (Kd.N_mono (ok' := (fun k_ => (w.heap.size ≤ k_) ∧ some k_ ≠ (u5 : Value).ownBlock)) (HO190.out) (fun k_ hk => ⟨hk.1, hk.2.1⟩))))) (Reps.none _ _))))
                            intro v192 w28 ho29 hb hg_ hnew_
                            clear hg_ hnew_
                            (first | rw [← Ny191.out] at ho29 | (simp only [Int.reduceToNat] at ho29; rw [← Ny191.out] at ho29))
                            have n0_ := Aside0.mk (Kd.N_elder' (by (with_reducible repeat (first | apply Kd.N_alloc | apply Kd.N_drewN | apply Kd.N_drew)); exact HO_5.out) (Kd.N_base ho29) hb)
                            have n1_ := Aside0.mk (Kd.N_lower ho29 (below_size (by repeat (first | (with_reducible first | exact HB.out | apply below_alloc | apply pw_below_drewN | apply below_drew1) | exact HB.out))))
                            have n2_ := Aside0.mk (below_step (by repeat (first | (with_reducible first | exact HB.out | apply below_alloc | apply pw_below_drewN | apply below_drew1) | exact HB.out)) hb)
                            clear HO_5
                            clear HB
                            clear HO186
                            clear HO190
                            have HO_5 := n0_
                            have HO193 := n1_
                            have HB := n2_
                            clear n0_ n1_ n2_
                            clear hb ho29
                            obtain ⟨Ao31, co31, eo31⟩ := Kd.N_slice HO193.out
                            (first | subst eo31 | (injection eo31 with f1_ f2_ f3_; have f4_ := f1_.symm; have f5_ := f3_.symm; clear f1_ f2_ f3_; subst f4_; subst f5_))
                            refine hK.out _ _ trivial (fun hHeld => ?_)
                            clear hK K
                            refine norm_ (a' := ?_) ?_ ?_
                            rotate_left
                            · show Act.put _ (some 43) _ = _
                              simp only [Act.put, List.setIfInBounds_toArray, List.set_cons_zero, List.set_cons_succ, i64_w, i32_w]
                              rfl
                            refine one_ (i := 12) (N := some 44) #[true, true, true, true, true, true, true, true, true, true, true, true, true, false, false] rfl rfl (one_of HT_.out (by kernel_rfl)) (by decide) (fun K hK => ?_)
                            refine value_ (w1 := ?_) (v := ?_) (by rfl) rfl ?_ ?_
                            rotate_left 2
                            · go_simp
                              constructor
                              · rfl
                              · rfl
                            refine hK.out _ _ trivial (fun hHeld => ?_)
                            clear hK K
                            refine norm_ (a' := ?_) ?_ ?_
                            rotate_left
                            · show Act.put _ (some 44) _ = _
                              simp only [Act.put, List.setIfInBounds_toArray, List.set_cons_zero, List.set_cons_succ, i64_w, i32_w]
                              rfl
                            refine one_ (i := 13) (N := some 45) #[true, true, true, true, true, true, true, true, true, true, true, true, true, true, false] rfl rfl (one_of HT_.out (by kernel_rfl)) (by decide) (fun K hK => ?_)
                            refine Kd.N_append_step (Kd.slice 22 (Kd.slice 54 k54)) (w0 := w) w.heap.size (by rfl) (.tmp 32) (.tmp 44) 31 26 (.slice none 0 0) 24 rfl Try.underlying31 info26 rfl (by decide) (by omega) u5 x5_2 y191 [.slice Ao31 y191.length co31] (fun k_ => (w.heap.size ≤ k_)) (fun k_ => ((fun k_ => (w.heap.size ≤ k_))) k_ ∧ some k_ ≠ (u5 : Value).ownBlock) rfl rfl ?aP (fun _ hk => hk) ?aF ?aO ?aB ?aS ?aL ?_
                            (case aP => exact (Kd.FK_slice_mk (Kd.N_reads' (Kd.N_mono (ok' := (fun k_ => ((fun k_ => (w.heap.size ≤ k_))) k_ ∧ some k_ ≠ (u5 : Value).ownBlock)) (HO193.out) (fun k_ hk => ⟨hk.1, hk.2⟩))).2.1 (Kd.N_F (Kd.N_mono (ok' := (fun k_ => ((fun k_ => (w.heap.size ≤ k_))) k_ ∧ some k_ ≠ (u5 : Value).ownBlock)) (HO193.out) (fun k_ hk => ⟨hk.1, hk.2⟩)))))
                            (case aB => exact (by repeat (first | (with_reducible first | exact HB.out | apply below_alloc | apply pw_below_drewN | apply below_drew1) | exact HB.out)))
                            (case aF => exact (fun k_ hk => (Nat.le_trans (below_size (by repeat (first | (with_reducible first | exact HB.out | apply below_alloc | apply pw_below_drewN | apply below_drew1) | exact HB.out))) hk)))
                            (case aO => exact (by (with_reducible repeat (first | apply Kd.N_alloc | apply Kd.N_drewN | apply Kd.N_drew)); exact Kd.N_mono HO_5.out (fun _ hk => hk.1.1.1)))
                            (case aS => exact (below_size (by repeat (first | (with_reducible first | exact HB.out | apply below_alloc | apply pw_below_drewN | apply below_drew1) | exact HB.out))))
                            (case aL => have := LMc19.out; omega)
                            intro v195 w30 ho hb hg hat
                            rw [← Ny194.out] at ho
                            have n0_ := Aside0.mk (hb)
                            have n1_ := Aside0.mk (ho)
                            clear HB
                            clear HO_5
                            clear HO193
                            have HB := n0_
                            have HO196 := n1_
                            clear n0_ n1_
                            clear ho hb hg hat
                            refine hK.out _ _ trivial (fun hHeld => ?_)
                            clear hK K
                            refine norm_ (a' := ?_) ?_ ?_
                            rotate_left
                            · show Act.put _ (some 45) _ = _
                              simp only [Act.put, List.setIfInBounds_toArray, List.set_cons_zero, List.set_cons_succ, i64_w, i32_w]
                              rfl
                            refine pure_ (i := 14) (N := some 5) (v := ?_) (a' := ?_) #[true, true, true, true, true, true, true, true, true, true, true, true, true, true, true] rfl rfl (any_of HT_.out (by kernel_rfl)) (fun _ _ _ h => h) (Or.inl ⟨by rfl, ?_⟩) ?_ ?_
                            rotate_left
                            · intro w'
                              go_simp
                              with_reducible rfl
                            rotate_left
                            · simp only [Act.put, List.setIfInBounds_toArray, List.set_cons_zero, List.set_cons_succ, i64_w, i32_w]
                              rfl
                            refine done_ (done_of HT_.out (by kernel_rfl)) ?_
                            try go_wp2
                            go_roundg k2
                            case measure => have := HJ2.out; have := HK2.out; omega
                            case rel => exact ⟨(y194), (wrap64 (x20_2 + 1)), (by first | rfl | (simp; done) | (simp [*]; done)), H', ⟨by have := HJ2.out; have := HK2.out; omega⟩, ⟨by (with_reducible repeat (first | apply Kd.N_alloc | apply Kd.N_drewN | apply Kd.N_drew)); exact HO196.out⟩, ⟨by repeat (first | (with_reducible first | exact HB.out | apply below_alloc | apply pw_below_drewN | apply below_drew1) | exact HB.out)⟩⟩
                          · rw [if_neg c19] at H
                            exact absurd H (by simp)
                        · rw [if_neg c14] at H
                          exact absurd H (by simp)
                      · rw [if_neg c13] at H
                        exact absurd H (by simp)
                    · rw [if_neg c11] at H
                      exact absurd H (by simp)
                  · rw [if_neg c10] at H
                    exact absurd H (by simp)
                · rw [if_neg c9] at H
                  exact absurd H (by simp)
              · rw [if_neg c7] at H
                have c7b0 : decide (x20_2 < a1) = false := decide_eq_false c7
                clear c7
                obtain rfl := Option.some.inj H
                go_wp2
                go_ret
                exact ⟨_, by first | rfl | (simp [errW_none, errW_some] <;> rfl) | (simp [*, errW_none, errW_some] <;> rfl), by (with_reducible repeat (first | apply Kd.N_alloc | apply Kd.N_drewN | apply Kd.N_drew)); exact HO_5.out, by repeat (first | (with_reducible first | exact HB.out | apply below_alloc | apply pw_below_drewN | apply below_drew1) | exact HB.out)⟩

end Go.Proofs.Ytfdnhhjggophcaa.PAb
