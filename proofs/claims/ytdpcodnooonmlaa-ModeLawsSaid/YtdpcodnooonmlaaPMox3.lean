-- Written by a program of this session (myprint.py) over the kit's print; some functions' contracts are given by hand.
import Derived.Test.YtdpcodnooonmlaaPMox0
import Derived.Test.YtdpcodnooonmlaaPMox1
namespace Go.Proofs.Ytdpcodnooonmlaa.PMo
open Go.RowKit Go.Proofs.YtdpcodnooonmlaaW.PrintWords Go.Proofs.YtdpcodnooonmlaaW.PrintLast Go.Proofs.YtdpcodnooonmlaaW.PrintMore
attribute [local go_sem] max2_int min2_int max_two min_two max_three min_three max_four min_four   -- for this text's walks alone
set_option linter.unusedVariables false
set_option linter.unusedSimpArgs false

/-! ### mode_Intent: function 35 -/
def mode_Intent.j0 : Nat → Int → Bool → Option (Int)
  | 0, _, _ => none
  | k + 1, x0, x3 => if x3 = true then (some 0) else ((mode_made.f x0).bind fun t158 => (if (Go.bits .and .i64 t158 2) > 0 then (some 2) else (some 1)))
def mode_Intent.f (k : Nat) (a0 : Int) : Option (Int) := if a0 = 0 then (mode_Intent.j0 k a0 true) else ((mode_Known.f a0).bind fun t157 => (mode_Intent.j0 k a0 (!t157)))
theorem mode_Intent.mono_l : ∀ k, (∀ y0 y1, LeO (mode_Intent.j0 k y0 y1) (mode_Intent.j0 (k + 1) y0 y1))
  | 0 => fun _ _ r h => by simp [mode_Intent.j0] at h
  | k + 1 => by
    have ih0 := mode_Intent.mono_l k
    · intro y0 y1
      unfold mode_Intent.j0
      repeat' first
      | (with_reducible exact ih0 _ _)
      | (with_reducible exact LeO.refl _)
      | (with_reducible exact LeO.none _)
      | (with_reducible refine LeO.ite ?_ ?_)
      | (with_reducible refine LeO.bind ?_ (fun _ => ?_))
      | exact ih0 _ _
      | exact LeO.none _
      | refine LeO.ite ?_ ?_
      | refine LeO.bind ?_ (fun _ => ?_)
theorem mode_Intent.mono : ∀ a0 k, LeO (mode_Intent.f k a0) (mode_Intent.f (k + 1) a0) := by
  intro a0 k
  have ih0 := mode_Intent.mono_l k
  unfold mode_Intent.f
  repeat' first
      | (with_reducible exact ih0 _ _)
      | (with_reducible exact LeO.refl _)
      | (with_reducible exact LeO.none _)
      | (with_reducible refine LeO.ite ?_ ?_)
      | (with_reducible refine LeO.bind ?_ (fun _ => ?_))
      | exact ih0 _ _
      | exact LeO.none _
      | refine LeO.ite ?_ ?_
      | refine LeO.bind ?_ (fun _ => ?_)
set_option maxHeartbeats 8000000 in
set_option maxRecDepth 100000 in
theorem mode_Intent.calls (k : Nat) (a0 : Int) (r : Int) (w : World) (h : mode_Intent.f k a0 = some r) :
    Calls Try.prog 35 #[.int .i64 a0] w fun e w' => e = .returned (.int .i64 r) ∧ Drawn0 w w' := by
  have H : (if a0 = 0 then (mode_Intent.j0 k a0 true) else ((mode_Known.f a0).bind fun t157 => (mode_Intent.j0 k a0 (!t157)))) = some r := h
  clear h
  have HC2 := Aside0.mk H
  clear H
  go_enter Try.func35, Try.ntmps35
  go_upto_region 1 with (fail)
  go_cut [3] (fun v3 wc => ∃ (kq : Nat) (x3_1 : Bool), v3 = .bool x3_1 ∧ Aside0 (mode_Intent.j0 kq a0 x3_1 = some r) ∧ Aside0 (kq ≤ k) ∧ Drawn0 w wc)
  case first =>
    have H := HC2.out
    clear HC2
    by_cases c3 : a0 = 0
    · rw [if_pos c3] at H
      have c3b0 : (a0 == 0) = true := beq_iff_eq.mpr c3
      have c3b1 : (a0 != 0) = false := bne_eq_false_iff_eq.mpr c3
      clear c3
      (first | rw [c3b0] | (simp only [i64_w, i32_w]; rw [c3b0]) | skip)
      as_aux_lemma =>
        have H' := Aside0.mk H
        clear H
        go_wp2
        go_meet
        case rel => exact ⟨_, (true), (by first | rfl | (simp; done) | (simp [*]; done)), H', ⟨by first | omega | exact Nat.le_refl _⟩, by repeat (first | exact Drawn0.refl _ | apply Drawn0.step)⟩
    · rw [if_neg c3] at H
      have c3b0 : (a0 == 0) = false := beq_eq_false_iff_ne.mpr c3
      have c3b1 : (a0 != 0) = true := bne_iff_ne.mpr c3
      (first | rw [c3b0] | (simp only [i64_w, i32_w]; rw [c3b0]) | skip)
      replace H := Option.bind_eq_some_iff.mp H
      obtain ⟨t157, A40, H⟩ := H
      replace H : (mode_Intent.j0 k a0 (!t157)) = some r := H
      have A4 := Aside0.mk A40
      clear A40
      as_aux_lemma =>
        have H' := Aside0.mk H
        clear H
        go_wp2_with (first | (go_at_call 29; (with_reducible refine (mode_Known.calls a0 t157 _ A4.out).mono ?_); rintro e w' ⟨rfl, ⟨nd, rfl⟩⟩))
        go_meet
        case rel => exact ⟨_, (!t157), (by first | rfl | (simp; done) | (simp [*]; done)), H', ⟨by first | omega | exact Nat.le_refl _⟩, by repeat (first | exact Drawn0.refl _ | apply Drawn0.step)⟩
  case rest =>
    clear HC2
    try clear p2
    try clear c3
    try clear c3b0
    try clear c3b1
    obtain ⟨kq, x3_1, rfl, HA, HJ1, ⟨mc1, rfl⟩⟩ := hcut
    cases kq with
    | zero => exact absurd HA.out (by simp [mode_Intent.j0])
    | succ kj1 =>
      have H := HA.out
      clear HA
      simp only [mode_Intent.j0] at H
      by_cases c5 : x3_1 = true
      · subst c5
        have H1 : (some 0) = some r := by rw [if_pos rfl] at H; exact H
        clear H
        have H := H1
        clear H1
        as_aux_lemma =>
          obtain rfl := Option.some.inj H
          go_wp2
          go_ret
          exact ⟨by first | rfl | (simp; done) | (simp [*]; done), by repeat (first | exact Drawn0.refl _ | apply Drawn0.step)⟩
      · replace c5 := Bool.eq_false_iff.mpr c5
        subst c5
        have H1 : ((mode_made.f a0).bind fun t158 => (if (Go.bits .and .i64 t158 2) > 0 then (some 2) else (some 1))) = some r := by rw [if_neg (show ¬ (false = true) by decide)] at H; exact H
        clear H
        have H := H1
        clear H1
        replace H := Option.bind_eq_some_iff.mp H
        obtain ⟨t158, A60, H⟩ := H
        replace H : (if (Go.bits .and .i64 t158 2) > 0 then (some 2) else (some 1)) = some r := H
        have A6 := Aside0.mk A60
        clear A60
        by_cases c7 : (Go.bits .and .i64 t158 2) > 0
        · rw [if_pos c7] at H
          have c7b0 : decide (0 < (Go.bits .and .i64 t158 2)) = true := decide_eq_true c7
          clear c7
          as_aux_lemma =>
            obtain rfl := Option.some.inj H
            go_wp2_with (first | ((with_reducible refine gate_callee (f := 67) rfl ?_); refine goesL_ (some 13) rfl rfl Try.func67 (by kernel_rfl) rfl #[.int .i64 a0] rfl (by (try simp only [List.map_toArray, List.map_cons, List.map_nil]); first | done | rfl | (simp only [List.length_drop, List.length_take]; rfl)) ?_; (with_reducible refine (mode_made.calls a0 t158 _ A6.out).mono ?_); rintro e w' ⟨rfl, ⟨nd, rfl⟩⟩; refine ⟨_, rfl, ?_⟩))
            go_ret
            exact ⟨by first | rfl | (simp; done) | (simp [*]; done), by repeat (first | exact Drawn0.refl _ | apply Drawn0.step)⟩
        · rw [if_neg c7] at H
          have c7b0 : decide (0 < (Go.bits .and .i64 t158 2)) = false := decide_eq_false c7
          clear c7
          as_aux_lemma =>
            obtain rfl := Option.some.inj H
            go_wp2_with (first | ((with_reducible refine gate_callee (f := 67) rfl ?_); refine goesL_ (some 13) rfl rfl Try.func67 (by kernel_rfl) rfl #[.int .i64 a0] rfl (by (try simp only [List.map_toArray, List.map_cons, List.map_nil]); first | done | rfl | (simp only [List.length_drop, List.length_take]; rfl)) ?_; (with_reducible refine (mode_made.calls a0 t158 _ A6.out).mono ?_); rintro e w' ⟨rfl, ⟨nd, rfl⟩⟩; refine ⟨_, rfl, ?_⟩))
            go_ret
            exact ⟨by first | rfl | (simp; done) | (simp [*]; done), by repeat (first | exact Drawn0.refl _ | apply Drawn0.step)⟩

/-! ### ltkref1_Mode: function 36 -/
def ltkref1_Mode.f (a0 : Int) : Option (Bool) := if a0 ≥ 0 then (some (decide (a0 ≤ 5))) else (some false)
set_option maxHeartbeats 8000000 in
set_option maxRecDepth 100000 in
theorem ltkref1_Mode.calls (a0 : Int) (r : Bool) (w : World) (h : ltkref1_Mode.f a0 = some r) :
    Calls Try.prog 36 #[.int .i64 a0] w fun e w' => e = .returned (.bool r) ∧ Drawn0 w w' := by
  have H : (if a0 ≥ 0 then (some (decide (a0 ≤ 5))) else (some false)) = some r := h
  clear h
  by_cases c2 : a0 ≥ 0
  · rw [if_pos c2] at H
    have c2b0 : decide (0 ≤ a0) = true := decide_eq_true c2
    clear c2
    as_aux_lemma =>
      obtain rfl := Option.some.inj H
      go_enter Try.func36, Try.ntmps36
      go_wp2
      go_ret
      exact ⟨by first | rfl | (simp; done) | (simp [*]; done), by repeat (first | exact Drawn0.refl _ | apply Drawn0.step)⟩
  · rw [if_neg c2] at H
    have c2b0 : decide (0 ≤ a0) = false := decide_eq_false c2
    clear c2
    as_aux_lemma =>
      obtain rfl := Option.some.inj H
      go_enter Try.func36, Try.ntmps36
      go_wp2
      go_ret
      exact ⟨by first | rfl | (simp; done) | (simp [*]; done), by repeat (first | exact Drawn0.refl _ | apply Drawn0.step)⟩

/-! ### ltkref1_Fits: function 37 (by hand) -/
def ltkref1_Fits.g (a b : Int) : Bool := (a == 0 || b == 0) || (a == 1 && b != 5) || (b == 1 && a != 5) || (a == 2 && b == 2) || (a == 3 && b == 3)
def ltkref1_Fits.f (a0 a1 : Int) : Option Bool := some (decide (0 ≤ a0 ∧ a0 ≤ 5) && decide (0 ≤ a1 ∧ a1 ≤ 5) && ltkref1_Fits.g a0 a1)

set_option maxHeartbeats 8000000 in
set_option maxRecDepth 100000 in
theorem ltkref1_Fits.row0 (a1 : Int) (w : World) (h0 : 0 ≤ a1) (h5 : a1 ≤ 5) :
    Calls Try.prog 37 #[.int .i64 0, .int .i64 a1] w fun e w' => e = .returned (.bool (ltkref1_Fits.g 0 a1)) ∧ Below w.heap.size w w' := by
  have hu80 := Try.underlying80
  obtain ⟨c, hc⟩ : ∃ c : Int, c = (if a1 = 0 then 49 else if a1 = 1 then 49 else if a1 = 2 then 49 else if a1 = 3 then 49 else if a1 = 4 then 49 else 49) := ⟨_, rfl⟩
  have hix : ∀ W : World, (Instr.index 9 (.string ({ data := #[49, 49, 49, 49, 49, 49] } : ByteArray)) (.int .i64 a1)).run Try.prog W = .ok (.int .u8 c) W := by
    have hb' : a1 = 0 ∨ a1 = 1 ∨ a1 = 2 ∨ a1 = 3 ∨ a1 = 4 ∨ a1 = 5 := by omega
    rw [hc]
    clear hc h0 h5
    rcases hb' with rfl | rfl | rfl | rfl | rfl | rfl <;> (intro W; rfl)
  have HG := Aside0.mk (show (c == 49) = ltkref1_Fits.g 0 a1 by
    have hb' : a1 = 0 ∨ a1 = 1 ∨ a1 = 2 ∨ a1 = 3 ∨ a1 = 4 ∨ a1 = 5 := by omega
    rw [hc]
    clear hc h0 h5 hix
    rcases hb' with rfl | rfl | rfl | rfl | rfl | rfl <;> decide)
  clear hc
  go_enter Try.func37, Try.ntmps37
  go_wp2
  go_ret
  rw [HG.out]
  exact ⟨rfl, by repeat (first | exact Below.refl _ _ | apply below_alloc)⟩

set_option maxHeartbeats 8000000 in
set_option maxRecDepth 100000 in
theorem ltkref1_Fits.row1 (a1 : Int) (w : World) (h0 : 0 ≤ a1) (h5 : a1 ≤ 5) :
    Calls Try.prog 37 #[.int .i64 1, .int .i64 a1] w fun e w' => e = .returned (.bool (ltkref1_Fits.g 1 a1)) ∧ Below w.heap.size w w' := by
  have hu80 := Try.underlying80
  obtain ⟨c, hc⟩ : ∃ c : Int, c = (if a1 = 0 then 49 else if a1 = 1 then 49 else if a1 = 2 then 49 else if a1 = 3 then 49 else if a1 = 4 then 49 else 48) := ⟨_, rfl⟩
  have hix : ∀ W : World, (Instr.index 9 (.string ({ data := #[49, 49, 49, 49, 49, 48] } : ByteArray)) (.int .i64 a1)).run Try.prog W = .ok (.int .u8 c) W := by
    have hb' : a1 = 0 ∨ a1 = 1 ∨ a1 = 2 ∨ a1 = 3 ∨ a1 = 4 ∨ a1 = 5 := by omega
    rw [hc]
    clear hc h0 h5
    rcases hb' with rfl | rfl | rfl | rfl | rfl | rfl <;> (intro W; rfl)
  have HG := Aside0.mk (show (c == 49) = ltkref1_Fits.g 1 a1 by
    have hb' : a1 = 0 ∨ a1 = 1 ∨ a1 = 2 ∨ a1 = 3 ∨ a1 = 4 ∨ a1 = 5 := by omega
    rw [hc]
    clear hc h0 h5 hix
    rcases hb' with rfl | rfl | rfl | rfl | rfl | rfl <;> decide)
  clear hc
  go_enter Try.func37, Try.ntmps37
  go_wp2
  go_ret
  rw [HG.out]
  exact ⟨rfl, by repeat (first | exact Below.refl _ _ | apply below_alloc)⟩

set_option maxHeartbeats 8000000 in
set_option maxRecDepth 100000 in
theorem ltkref1_Fits.row2 (a1 : Int) (w : World) (h0 : 0 ≤ a1) (h5 : a1 ≤ 5) :
    Calls Try.prog 37 #[.int .i64 2, .int .i64 a1] w fun e w' => e = .returned (.bool (ltkref1_Fits.g 2 a1)) ∧ Below w.heap.size w w' := by
  have hu80 := Try.underlying80
  obtain ⟨c, hc⟩ : ∃ c : Int, c = (if a1 = 0 then 49 else if a1 = 1 then 49 else if a1 = 2 then 49 else if a1 = 3 then 48 else if a1 = 4 then 48 else 48) := ⟨_, rfl⟩
  have hix : ∀ W : World, (Instr.index 9 (.string ({ data := #[49, 49, 49, 48, 48, 48] } : ByteArray)) (.int .i64 a1)).run Try.prog W = .ok (.int .u8 c) W := by
    have hb' : a1 = 0 ∨ a1 = 1 ∨ a1 = 2 ∨ a1 = 3 ∨ a1 = 4 ∨ a1 = 5 := by omega
    rw [hc]
    clear hc h0 h5
    rcases hb' with rfl | rfl | rfl | rfl | rfl | rfl <;> (intro W; rfl)
  have HG := Aside0.mk (show (c == 49) = ltkref1_Fits.g 2 a1 by
    have hb' : a1 = 0 ∨ a1 = 1 ∨ a1 = 2 ∨ a1 = 3 ∨ a1 = 4 ∨ a1 = 5 := by omega
    rw [hc]
    clear hc h0 h5 hix
    rcases hb' with rfl | rfl | rfl | rfl | rfl | rfl <;> decide)
  clear hc
  go_enter Try.func37, Try.ntmps37
  go_wp2
  go_ret
  rw [HG.out]
  exact ⟨rfl, by repeat (first | exact Below.refl _ _ | apply below_alloc)⟩

set_option maxHeartbeats 8000000 in
set_option maxRecDepth 100000 in
theorem ltkref1_Fits.row3 (a1 : Int) (w : World) (h0 : 0 ≤ a1) (h5 : a1 ≤ 5) :
    Calls Try.prog 37 #[.int .i64 3, .int .i64 a1] w fun e w' => e = .returned (.bool (ltkref1_Fits.g 3 a1)) ∧ Below w.heap.size w w' := by
  have hu80 := Try.underlying80
  obtain ⟨c, hc⟩ : ∃ c : Int, c = (if a1 = 0 then 49 else if a1 = 1 then 49 else if a1 = 2 then 48 else if a1 = 3 then 49 else if a1 = 4 then 48 else 48) := ⟨_, rfl⟩
  have hix : ∀ W : World, (Instr.index 9 (.string ({ data := #[49, 49, 48, 49, 48, 48] } : ByteArray)) (.int .i64 a1)).run Try.prog W = .ok (.int .u8 c) W := by
    have hb' : a1 = 0 ∨ a1 = 1 ∨ a1 = 2 ∨ a1 = 3 ∨ a1 = 4 ∨ a1 = 5 := by omega
    rw [hc]
    clear hc h0 h5
    rcases hb' with rfl | rfl | rfl | rfl | rfl | rfl <;> (intro W; rfl)
  have HG := Aside0.mk (show (c == 49) = ltkref1_Fits.g 3 a1 by
    have hb' : a1 = 0 ∨ a1 = 1 ∨ a1 = 2 ∨ a1 = 3 ∨ a1 = 4 ∨ a1 = 5 := by omega
    rw [hc]
    clear hc h0 h5 hix
    rcases hb' with rfl | rfl | rfl | rfl | rfl | rfl <;> decide)
  clear hc
  go_enter Try.func37, Try.ntmps37
  go_wp2
  go_ret
  rw [HG.out]
  exact ⟨rfl, by repeat (first | exact Below.refl _ _ | apply below_alloc)⟩

set_option maxHeartbeats 8000000 in
set_option maxRecDepth 100000 in
theorem ltkref1_Fits.row4 (a1 : Int) (w : World) (h0 : 0 ≤ a1) (h5 : a1 ≤ 5) :
    Calls Try.prog 37 #[.int .i64 4, .int .i64 a1] w fun e w' => e = .returned (.bool (ltkref1_Fits.g 4 a1)) ∧ Below w.heap.size w w' := by
  have hu80 := Try.underlying80
  obtain ⟨c, hc⟩ : ∃ c : Int, c = (if a1 = 0 then 49 else if a1 = 1 then 49 else if a1 = 2 then 48 else if a1 = 3 then 48 else if a1 = 4 then 48 else 48) := ⟨_, rfl⟩
  have hix : ∀ W : World, (Instr.index 9 (.string ({ data := #[49, 49, 48, 48, 48, 48] } : ByteArray)) (.int .i64 a1)).run Try.prog W = .ok (.int .u8 c) W := by
    have hb' : a1 = 0 ∨ a1 = 1 ∨ a1 = 2 ∨ a1 = 3 ∨ a1 = 4 ∨ a1 = 5 := by omega
    rw [hc]
    clear hc h0 h5
    rcases hb' with rfl | rfl | rfl | rfl | rfl | rfl <;> (intro W; rfl)
  have HG := Aside0.mk (show (c == 49) = ltkref1_Fits.g 4 a1 by
    have hb' : a1 = 0 ∨ a1 = 1 ∨ a1 = 2 ∨ a1 = 3 ∨ a1 = 4 ∨ a1 = 5 := by omega
    rw [hc]
    clear hc h0 h5 hix
    rcases hb' with rfl | rfl | rfl | rfl | rfl | rfl <;> decide)
  clear hc
  go_enter Try.func37, Try.ntmps37
  go_wp2
  go_ret
  rw [HG.out]
  exact ⟨rfl, by repeat (first | exact Below.refl _ _ | apply below_alloc)⟩

set_option maxHeartbeats 8000000 in
set_option maxRecDepth 100000 in
theorem ltkref1_Fits.row5 (a1 : Int) (w : World) (h0 : 0 ≤ a1) (h5 : a1 ≤ 5) :
    Calls Try.prog 37 #[.int .i64 5, .int .i64 a1] w fun e w' => e = .returned (.bool (ltkref1_Fits.g 5 a1)) ∧ Below w.heap.size w w' := by
  have hu80 := Try.underlying80
  obtain ⟨c, hc⟩ : ∃ c : Int, c = (if a1 = 0 then 49 else if a1 = 1 then 48 else if a1 = 2 then 48 else if a1 = 3 then 48 else if a1 = 4 then 48 else 48) := ⟨_, rfl⟩
  have hix : ∀ W : World, (Instr.index 9 (.string ({ data := #[49, 48, 48, 48, 48, 48] } : ByteArray)) (.int .i64 a1)).run Try.prog W = .ok (.int .u8 c) W := by
    have hb' : a1 = 0 ∨ a1 = 1 ∨ a1 = 2 ∨ a1 = 3 ∨ a1 = 4 ∨ a1 = 5 := by omega
    rw [hc]
    clear hc h0 h5
    rcases hb' with rfl | rfl | rfl | rfl | rfl | rfl <;> (intro W; rfl)
  have HG := Aside0.mk (show (c == 49) = ltkref1_Fits.g 5 a1 by
    have hb' : a1 = 0 ∨ a1 = 1 ∨ a1 = 2 ∨ a1 = 3 ∨ a1 = 4 ∨ a1 = 5 := by omega
    rw [hc]
    clear hc h0 h5 hix
    rcases hb' with rfl | rfl | rfl | rfl | rfl | rfl <;> decide)
  clear hc
  go_enter Try.func37, Try.ntmps37
  go_wp2
  go_ret
  rw [HG.out]
  exact ⟨rfl, by repeat (first | exact Below.refl _ _ | apply below_alloc)⟩

set_option maxHeartbeats 8000000 in
set_option maxRecDepth 100000 in
theorem ltkref1_Fits.calls (a0 a1 : Int) (r : Bool) (w : World) (h : ltkref1_Fits.f a0 a1 = some r) :
    Calls Try.prog 37 #[.int .i64 a0, .int .i64 a1] w fun e w' => e = .returned (.bool r) ∧ Below w.heap.size w w' := by
  obtain rfl := Option.some.inj h
  clear h
  by_cases ha : 0 ≤ a0 ∧ a0 ≤ 5
  · by_cases hb : 0 ≤ a1 ∧ a1 ≤ 5
    · have e : (decide (0 ≤ a0 ∧ a0 ≤ 5) && decide (0 ≤ a1 ∧ a1 ≤ 5) && ltkref1_Fits.g a0 a1) = ltkref1_Fits.g a0 a1 := by
        rw [decide_eq_true ha, decide_eq_true hb]; rfl
      rw [e]
      have ha' : a0 = 0 ∨ a0 = 1 ∨ a0 = 2 ∨ a0 = 3 ∨ a0 = 4 ∨ a0 = 5 := by omega
      rcases ha' with rfl | rfl | rfl | rfl | rfl | rfl
      · exact ltkref1_Fits.row0 a1 w hb.1 hb.2
      · exact ltkref1_Fits.row1 a1 w hb.1 hb.2
      · exact ltkref1_Fits.row2 a1 w hb.1 hb.2
      · exact ltkref1_Fits.row3 a1 w hb.1 hb.2
      · exact ltkref1_Fits.row4 a1 w hb.1 hb.2
      · exact ltkref1_Fits.row5 a1 w hb.1 hb.2
    · have hbb : (decide (0 ≤ a0 ∧ a0 ≤ 5) && decide (0 ≤ a1 ∧ a1 ≤ 5) && ltkref1_Fits.g a0 a1) = false := by
        rw [decide_eq_false hb]; simp
      rw [hbb]
      clear hbb
      by_cases h1 : 0 ≤ a1
      · have h2 : ¬ a1 ≤ 5 := by omega
        obtain ⟨h3, h4⟩ := ha
        clear hb
        go_enter Try.func37, Try.ntmps37
        go_wp2
        go_ret
        exact ⟨rfl, by repeat (first | exact Below.refl _ _ | apply below_alloc)⟩
      · obtain ⟨h3, h4⟩ := ha
        clear hb
        go_enter Try.func37, Try.ntmps37
        go_wp2
        go_ret
        exact ⟨rfl, by repeat (first | exact Below.refl _ _ | apply below_alloc)⟩
  · have hbb : (decide (0 ≤ a0 ∧ a0 ≤ 5) && decide (0 ≤ a1 ∧ a1 ≤ 5) && ltkref1_Fits.g a0 a1) = false := by
      rw [decide_eq_false ha]; simp
    rw [hbb]
    clear hbb
    by_cases h1 : 0 ≤ a0
    · have h2 : ¬ a0 ≤ 5 := by omega
      clear ha
      go_enter Try.func37, Try.ntmps37
      go_wp2
      go_ret
      exact ⟨rfl, by repeat (first | exact Below.refl _ _ | apply below_alloc)⟩
    · clear ha
      go_enter Try.func37, Try.ntmps37
      go_wp2
      go_ret
      exact ⟨rfl, by repeat (first | exact Below.refl _ _ | apply below_alloc)⟩

/-! ### ltkref1_Sup: function 39 -/
def ltkref1_Sup.l0 : Nat → List Int → Int → Int → Option (Int)
  | 0, _, _, _ => none
  | k + 1, x0, x3, x4 => if x4 < (x0.length : Int) then (if 0 ≤ x4 then ((ltkref1_Mode.f (rd x0 x4)).bind fun t160 => (if t160 = true then (if x3 = 2 then (if (rd x0 x4) = 3 then (ltkref1_Sup.l0 k x0 4 (wrap64 (x4 + 1))) else (if x3 = 3 then (if (rd x0 x4) = 2 then (ltkref1_Sup.l0 k x0 4 (wrap64 (x4 + 1))) else (ltkref1_Sup.l0 k x0 (mx x3 (rd x0 x4)) (wrap64 (x4 + 1)))) else (ltkref1_Sup.l0 k x0 (mx x3 (rd x0 x4)) (wrap64 (x4 + 1))))) else (if x3 = 3 then (if (rd x0 x4) = 2 then (ltkref1_Sup.l0 k x0 4 (wrap64 (x4 + 1))) else (ltkref1_Sup.l0 k x0 (mx x3 (rd x0 x4)) (wrap64 (x4 + 1)))) else (ltkref1_Sup.l0 k x0 (mx x3 (rd x0 x4)) (wrap64 (x4 + 1))))) else (ltkref1_Sup.l0 k x0 5 (wrap64 (x4 + 1))))) else (none)) else (some x3)
def ltkref1_Sup.f (k : Nat) (l0 : List Int) : Option (Int) := ltkref1_Sup.l0 k l0 0 0
theorem ltkref1_Sup.mono_l : ∀ k, (∀ y0 y1 y2, LeO (ltkref1_Sup.l0 k y0 y1 y2) (ltkref1_Sup.l0 (k + 1) y0 y1 y2))
  | 0 => fun _ _ _ r h => by simp [ltkref1_Sup.l0] at h
  | k + 1 => by
    have ih0 := ltkref1_Sup.mono_l k
    · intro y0 y1 y2
      unfold ltkref1_Sup.l0
      repeat' first
      | (with_reducible exact ih0 _ _ _)
      | (with_reducible exact LeO.refl _)
      | (with_reducible exact LeO.none _)
      | (with_reducible refine LeO.ite ?_ ?_)
      | (with_reducible refine LeO.bind ?_ (fun _ => ?_))
      | exact ih0 _ _ _
      | exact LeO.none _
      | refine LeO.ite ?_ ?_
      | refine LeO.bind ?_ (fun _ => ?_)
theorem ltkref1_Sup.mono : ∀ a0 k, LeO (ltkref1_Sup.f k a0) (ltkref1_Sup.f (k + 1) a0) := by
  intro a0 k
  have ih0 := ltkref1_Sup.mono_l k
  unfold ltkref1_Sup.f
  repeat' first
      | (with_reducible exact ih0 _ _ _)
      | (with_reducible exact LeO.refl _)
      | (with_reducible exact LeO.none _)
      | (with_reducible refine LeO.ite ?_ ?_)
      | (with_reducible refine LeO.bind ?_ (fun _ => ?_))
      | exact ih0 _ _ _
      | exact LeO.none _
      | refine LeO.ite ?_ ?_
      | refine LeO.bind ?_ (fun _ => ?_)
set_option maxHeartbeats 8000000 in
set_option maxRecDepth 100000 in
theorem ltkref1_Sup.calls (k : Nat) (A0 : Option Addr) (c0 : Nat) (l0 : List Int) (r : Int) (w : World) (hr0 : Kd.C (Kd.int .i64) w A0 l0.length l0) (hc0 : l0.length ≤ c0) (h : ltkref1_Sup.f k l0 = some r) :
    Calls Try.prog 39 #[.slice A0 l0.length c0] w fun e w' => e = .returned (.int .i64 r) ∧ Below w.heap.size w w' := by
  have HR0 := Aside0.mk hr0
  have HC0 := Aside0.mk hc0
  clear hr0 hc0
  have HB := Aside0.mk (Below.refl w.heap.size w)
  have H : (ltkref1_Sup.l0 k l0 0 0) = some r := h
  clear h
  have H' := Aside0.mk H
  clear H
  go_enter Try.func39, Try.ntmps39
  go_wp2
  go_loopg [3, 4] k (fun kq v3 v4 w' => ∃ (x3_1 : Int) (x4_1 : Int), v3 = .int .i64 x3_1 ∧ v4 = .int .i64 x4_1 ∧ Aside0 (ltkref1_Sup.l0 kq l0 x3_1 x4_1 = some r) ∧ Aside0 (kq ≤ k) ∧ Aside0 (Below w.heap.size w w'))
  case atStart => exact ⟨(0), (0), (by first | rfl | (simp; done) | (simp [*]; done)), (by first | rfl | (simp; done) | (simp [*]; done)), H', ⟨Nat.le_refl _⟩, ⟨by repeat (first | (with_reducible first | exact HB.out | apply below_alloc | apply pw_below_drewN | apply below_drew1) | exact HB.out)⟩⟩
  case round =>
    clear H'
    obtain ⟨x3_1, x4_1, rfl, rfl, HA, HK1, HB⟩ := hrel
    cases gk with
    | zero => exact absurd HA.out (by simp [ltkref1_Sup.l0])
    | succ k1 =>
      have H := HA.out
      clear HA
      simp only [ltkref1_Sup.l0] at H
      by_cases c2 : x4_1 < (l0.length : Int)
      · rw [if_pos c2] at H
        have c2b0 : decide (x4_1 < (l0.length : Int)) = true := decide_eq_true c2
        clear c2
        by_cases c3 : 0 ≤ x4_1
        · rw [if_pos c3] at H
          have c3b0 : decide (0 ≤ x4_1) = true := decide_eq_true c3
          clear c3
          replace H := Option.bind_eq_some_iff.mp H
          obtain ⟨t160, A40, H⟩ := H
          replace H : (if t160 = true then (if x3_1 = 2 then (if (rd l0 x4_1) = 3 then (ltkref1_Sup.l0 k1 l0 4 (wrap64 (x4_1 + 1))) else (if x3_1 = 3 then (if (rd l0 x4_1) = 2 then (ltkref1_Sup.l0 k1 l0 4 (wrap64 (x4_1 + 1))) else (ltkref1_Sup.l0 k1 l0 (mx x3_1 (rd l0 x4_1)) (wrap64 (x4_1 + 1)))) else (ltkref1_Sup.l0 k1 l0 (mx x3_1 (rd l0 x4_1)) (wrap64 (x4_1 + 1))))) else (if x3_1 = 3 then (if (rd l0 x4_1) = 2 then (ltkref1_Sup.l0 k1 l0 4 (wrap64 (x4_1 + 1))) else (ltkref1_Sup.l0 k1 l0 (mx x3_1 (rd l0 x4_1)) (wrap64 (x4_1 + 1)))) else (ltkref1_Sup.l0 k1 l0 (mx x3_1 (rd l0 x4_1)) (wrap64 (x4_1 + 1))))) else (ltkref1_Sup.l0 k1 l0 5 (wrap64 (x4_1 + 1)))) = some r := H
          have A4 := Aside0.mk A40
          clear A40
          by_cases c5 : t160 = true
          · subst c5
            have H1 : (if x3_1 = 2 then (if (rd l0 x4_1) = 3 then (ltkref1_Sup.l0 k1 l0 4 (wrap64 (x4_1 + 1))) else (if x3_1 = 3 then (if (rd l0 x4_1) = 2 then (ltkref1_Sup.l0 k1 l0 4 (wrap64 (x4_1 + 1))) else (ltkref1_Sup.l0 k1 l0 (mx x3_1 (rd l0 x4_1)) (wrap64 (x4_1 + 1)))) else (ltkref1_Sup.l0 k1 l0 (mx x3_1 (rd l0 x4_1)) (wrap64 (x4_1 + 1))))) else (if x3_1 = 3 then (if (rd l0 x4_1) = 2 then (ltkref1_Sup.l0 k1 l0 4 (wrap64 (x4_1 + 1))) else (ltkref1_Sup.l0 k1 l0 (mx x3_1 (rd l0 x4_1)) (wrap64 (x4_1 + 1)))) else (ltkref1_Sup.l0 k1 l0 (mx x3_1 (rd l0 x4_1)) (wrap64 (x4_1 + 1))))) = some r := by rw [if_pos rfl] at H; exact H
            clear H
            have H := H1
            clear H1
            by_cases c6 : x3_1 = 2
            · rw [if_pos c6] at H
              have c6b0 : (x3_1 == 2) = true := beq_iff_eq.mpr c6
              have c6b1 : (x3_1 != 2) = false := bne_eq_false_iff_eq.mpr c6
              clear c6
              by_cases c7 : (rd l0 x4_1) = 3
              · rw [if_pos c7] at H
                have c7b0 : ((rd l0 x4_1) == 3) = true := beq_iff_eq.mpr c7
                have c7b1 : ((rd l0 x4_1) != 3) = false := bne_eq_false_iff_eq.mpr c7
                clear c7
                as_aux_lemma =>
                  have H' := Aside0.mk H
                  clear H
                  have p159 : 0 ≤ (x4_1 : Int) := of_decide_eq_true (by first | (with_reducible assumption) | assumption)
                  have q159 : x4_1 < (l0.length : Int) := of_decide_eq_true (by first | (with_reducible assumption) | assumption)
                  obtain ⟨ad159, e159, hx159_0⟩ := Kd.at_int HR0.out x4_1 p159 q159
                  cases e159
                  replace hx159_0 := (HB.out.cell (World.block_lt_of_cell? w _ hx159_0)).trans hx159_0
                  replace p159 := eq_true p159
                  replace q159 := eq_true q159
                  go_wp2_with (first | ((with_reducible refine gate_callee (f := 36) rfl ?_); refine goesL_ (some 21) rfl rfl Try.func36 (by kernel_rfl) rfl #[.int .i64 (rd l0 x4_1)] rfl (by (try simp only [List.map_toArray, List.map_cons, List.map_nil]); first | done | rfl | (simp only [List.length_drop, List.length_take]; rfl)) ?_; (with_reducible refine (ltkref1_Mode.calls (rd l0 x4_1) true _ A4.out).mono ?_); rintro e w' ⟨rfl, ⟨nd, rfl⟩⟩; refine ⟨_, rfl, ?_⟩))
                  go_roundg k1
                  case measure => have := HK1.out; omega
                  case rel => exact ⟨(4), (wrap64 (x4_1 + 1)), (by first | rfl | (simp; done) | (simp [*]; done)), (by first | rfl | (simp; done) | (simp [*]; done)), H', ⟨by have := HK1.out; omega⟩, ⟨by repeat (first | (with_reducible first | exact HB.out | apply below_alloc | apply pw_below_drewN | apply below_drew1) | exact HB.out)⟩⟩
              · rw [if_neg c7] at H
                have c7b0 : ((rd l0 x4_1) == 3) = false := beq_eq_false_iff_ne.mpr c7
                have c7b1 : ((rd l0 x4_1) != 3) = true := bne_iff_ne.mpr c7
                by_cases c8 : x3_1 = 3
                · rw [if_pos c8] at H
                  have c8b0 : (x3_1 == 3) = true := beq_iff_eq.mpr c8
                  have c8b1 : (x3_1 != 3) = false := bne_eq_false_iff_eq.mpr c8
                  clear c8
                  by_cases c9 : (rd l0 x4_1) = 2
                  · rw [if_pos c9] at H
                    have c9b0 : ((rd l0 x4_1) == 2) = true := beq_iff_eq.mpr c9
                    have c9b1 : ((rd l0 x4_1) != 2) = false := bne_eq_false_iff_eq.mpr c9
                    clear c9
                    as_aux_lemma =>
                      have H' := Aside0.mk H
                      clear H
                      have p159 : 0 ≤ (x4_1 : Int) := of_decide_eq_true (by first | (with_reducible assumption) | assumption)
                      have q159 : x4_1 < (l0.length : Int) := of_decide_eq_true (by first | (with_reducible assumption) | assumption)
                      obtain ⟨ad159, e159, hx159_0⟩ := Kd.at_int HR0.out x4_1 p159 q159
                      cases e159
                      replace hx159_0 := (HB.out.cell (World.block_lt_of_cell? w _ hx159_0)).trans hx159_0
                      replace p159 := eq_true p159
                      replace q159 := eq_true q159
                      go_wp2_with (first | ((with_reducible refine gate_callee (f := 36) rfl ?_); refine goesL_ (some 21) rfl rfl Try.func36 (by kernel_rfl) rfl #[.int .i64 (rd l0 x4_1)] rfl (by (try simp only [List.map_toArray, List.map_cons, List.map_nil]); first | done | rfl | (simp only [List.length_drop, List.length_take]; rfl)) ?_; (with_reducible refine (ltkref1_Mode.calls (rd l0 x4_1) true _ A4.out).mono ?_); rintro e w' ⟨rfl, ⟨nd, rfl⟩⟩; refine ⟨_, rfl, ?_⟩))
                      go_roundg k1
                      case measure => have := HK1.out; omega
                      case rel => exact ⟨(4), (wrap64 (x4_1 + 1)), (by first | rfl | (simp; done) | (simp [*]; done)), (by first | rfl | (simp; done) | (simp [*]; done)), H', ⟨by have := HK1.out; omega⟩, ⟨by repeat (first | (with_reducible first | exact HB.out | apply below_alloc | apply pw_below_drewN | apply below_drew1) | exact HB.out)⟩⟩
                  · rw [if_neg c9] at H
                    have c9b0 : ((rd l0 x4_1) == 2) = false := beq_eq_false_iff_ne.mpr c9
                    have c9b1 : ((rd l0 x4_1) != 2) = true := bne_iff_ne.mpr c9
                    obtain ⟨ji10, hji10⟩ : ∃ j_ : Int, (mx x3_1 (rd l0 x4_1)) = j_ := ⟨_, rfl⟩
                    replace H : (ltkref1_Sup.l0 k1 l0 ji10 (wrap64 (x4_1 + 1))) = some r := by first | (rw [hji10] at H; exact H) | (simp only [hji10] at H ⊢; exact H)
                    (try rw [hji10] at A4)
                    have hji10_ : (if x3_1 < (rd l0 x4_1) then (rd l0 x4_1) else x3_1) = ji10 := hji10
                    as_aux_lemma =>
                      have H' := Aside0.mk H
                      clear H
                      have p159 : 0 ≤ (x4_1 : Int) := of_decide_eq_true (by first | (with_reducible assumption) | assumption)
                      have q159 : x4_1 < (l0.length : Int) := of_decide_eq_true (by first | (with_reducible assumption) | assumption)
                      obtain ⟨ad159, e159, hx159_0⟩ := Kd.at_int HR0.out x4_1 p159 q159
                      cases e159
                      replace hx159_0 := (HB.out.cell (World.block_lt_of_cell? w _ hx159_0)).trans hx159_0
                      replace p159 := eq_true p159
                      replace q159 := eq_true q159
                      go_wp2_with (first | ((with_reducible refine gate_callee (f := 36) rfl ?_); refine goesL_ (some 21) rfl rfl Try.func36 (by kernel_rfl) rfl #[.int .i64 (rd l0 x4_1)] rfl (by (try simp only [List.map_toArray, List.map_cons, List.map_nil]); first | done | rfl | (simp only [List.length_drop, List.length_take]; rfl)) ?_; (with_reducible refine (ltkref1_Mode.calls (rd l0 x4_1) true _ A4.out).mono ?_); rintro e w' ⟨rfl, ⟨nd, rfl⟩⟩; refine ⟨_, rfl, ?_⟩))
                      go_roundg k1
                      case measure => have := HK1.out; omega
                      case rel => exact ⟨(ji10), (wrap64 (x4_1 + 1)), (by first | rfl | (simp; done) | (simp only [← hji10] <;> (first | rfl | simp)) | (simp [*]; done)), (by first | rfl | (simp; done) | (simp [*]; done)), H', ⟨by have := HK1.out; omega⟩, ⟨by repeat (first | (with_reducible first | exact HB.out | apply below_alloc | apply pw_below_drewN | apply below_drew1) | exact HB.out)⟩⟩
                · rw [if_neg c8] at H
                  have c8b0 : (x3_1 == 3) = false := beq_eq_false_iff_ne.mpr c8
                  have c8b1 : (x3_1 != 3) = true := bne_iff_ne.mpr c8
                  obtain ⟨ji11, hji11⟩ : ∃ j_ : Int, (mx x3_1 (rd l0 x4_1)) = j_ := ⟨_, rfl⟩
                  replace H : (ltkref1_Sup.l0 k1 l0 ji11 (wrap64 (x4_1 + 1))) = some r := by first | (rw [hji11] at H; exact H) | (simp only [hji11] at H ⊢; exact H)
                  (try rw [hji11] at A4)
                  have hji11_ : (if x3_1 < (rd l0 x4_1) then (rd l0 x4_1) else x3_1) = ji11 := hji11
                  as_aux_lemma =>
                    have H' := Aside0.mk H
                    clear H
                    have p159 : 0 ≤ (x4_1 : Int) := of_decide_eq_true (by first | (with_reducible assumption) | assumption)
                    have q159 : x4_1 < (l0.length : Int) := of_decide_eq_true (by first | (with_reducible assumption) | assumption)
                    obtain ⟨ad159, e159, hx159_0⟩ := Kd.at_int HR0.out x4_1 p159 q159
                    cases e159
                    replace hx159_0 := (HB.out.cell (World.block_lt_of_cell? w _ hx159_0)).trans hx159_0
                    replace p159 := eq_true p159
                    replace q159 := eq_true q159
                    go_wp2_with (first | ((with_reducible refine gate_callee (f := 36) rfl ?_); refine goesL_ (some 21) rfl rfl Try.func36 (by kernel_rfl) rfl #[.int .i64 (rd l0 x4_1)] rfl (by (try simp only [List.map_toArray, List.map_cons, List.map_nil]); first | done | rfl | (simp only [List.length_drop, List.length_take]; rfl)) ?_; (with_reducible refine (ltkref1_Mode.calls (rd l0 x4_1) true _ A4.out).mono ?_); rintro e w' ⟨rfl, ⟨nd, rfl⟩⟩; refine ⟨_, rfl, ?_⟩))
                    go_roundg k1
                    case measure => have := HK1.out; omega
                    case rel => exact ⟨(ji11), (wrap64 (x4_1 + 1)), (by first | rfl | (simp; done) | (simp only [← hji11] <;> (first | rfl | simp)) | (simp [*]; done)), (by first | rfl | (simp; done) | (simp [*]; done)), H', ⟨by have := HK1.out; omega⟩, ⟨by repeat (first | (with_reducible first | exact HB.out | apply below_alloc | apply pw_below_drewN | apply below_drew1) | exact HB.out)⟩⟩
            · rw [if_neg c6] at H
              have c6b0 : (x3_1 == 2) = false := beq_eq_false_iff_ne.mpr c6
              have c6b1 : (x3_1 != 2) = true := bne_iff_ne.mpr c6
              by_cases c12 : x3_1 = 3
              · rw [if_pos c12] at H
                have c12b0 : (x3_1 == 3) = true := beq_iff_eq.mpr c12
                have c12b1 : (x3_1 != 3) = false := bne_eq_false_iff_eq.mpr c12
                clear c12
                by_cases c13 : (rd l0 x4_1) = 2
                · rw [if_pos c13] at H
                  have c13b0 : ((rd l0 x4_1) == 2) = true := beq_iff_eq.mpr c13
                  have c13b1 : ((rd l0 x4_1) != 2) = false := bne_eq_false_iff_eq.mpr c13
                  clear c13
                  as_aux_lemma =>
                    have H' := Aside0.mk H
                    clear H
                    have p159 : 0 ≤ (x4_1 : Int) := of_decide_eq_true (by first | (with_reducible assumption) | assumption)
                    have q159 : x4_1 < (l0.length : Int) := of_decide_eq_true (by first | (with_reducible assumption) | assumption)
                    obtain ⟨ad159, e159, hx159_0⟩ := Kd.at_int HR0.out x4_1 p159 q159
                    cases e159
                    replace hx159_0 := (HB.out.cell (World.block_lt_of_cell? w _ hx159_0)).trans hx159_0
                    replace p159 := eq_true p159
                    replace q159 := eq_true q159
                    go_wp2_with (first | ((with_reducible refine gate_callee (f := 36) rfl ?_); refine goesL_ (some 21) rfl rfl Try.func36 (by kernel_rfl) rfl #[.int .i64 (rd l0 x4_1)] rfl (by (try simp only [List.map_toArray, List.map_cons, List.map_nil]); first | done | rfl | (simp only [List.length_drop, List.length_take]; rfl)) ?_; (with_reducible refine (ltkref1_Mode.calls (rd l0 x4_1) true _ A4.out).mono ?_); rintro e w' ⟨rfl, ⟨nd, rfl⟩⟩; refine ⟨_, rfl, ?_⟩))
                    go_roundg k1
                    case measure => have := HK1.out; omega
                    case rel => exact ⟨(4), (wrap64 (x4_1 + 1)), (by first | rfl | (simp; done) | (simp [*]; done)), (by first | rfl | (simp; done) | (simp [*]; done)), H', ⟨by have := HK1.out; omega⟩, ⟨by repeat (first | (with_reducible first | exact HB.out | apply below_alloc | apply pw_below_drewN | apply below_drew1) | exact HB.out)⟩⟩
                · rw [if_neg c13] at H
                  have c13b0 : ((rd l0 x4_1) == 2) = false := beq_eq_false_iff_ne.mpr c13
                  have c13b1 : ((rd l0 x4_1) != 2) = true := bne_iff_ne.mpr c13
                  obtain ⟨ji14, hji14⟩ : ∃ j_ : Int, (mx x3_1 (rd l0 x4_1)) = j_ := ⟨_, rfl⟩
                  replace H : (ltkref1_Sup.l0 k1 l0 ji14 (wrap64 (x4_1 + 1))) = some r := by first | (rw [hji14] at H; exact H) | (simp only [hji14] at H ⊢; exact H)
                  (try rw [hji14] at A4)
                  have hji14_ : (if x3_1 < (rd l0 x4_1) then (rd l0 x4_1) else x3_1) = ji14 := hji14
                  as_aux_lemma =>
                    have H' := Aside0.mk H
                    clear H
                    have p159 : 0 ≤ (x4_1 : Int) := of_decide_eq_true (by first | (with_reducible assumption) | assumption)
                    have q159 : x4_1 < (l0.length : Int) := of_decide_eq_true (by first | (with_reducible assumption) | assumption)
                    obtain ⟨ad159, e159, hx159_0⟩ := Kd.at_int HR0.out x4_1 p159 q159
                    cases e159
                    replace hx159_0 := (HB.out.cell (World.block_lt_of_cell? w _ hx159_0)).trans hx159_0
                    replace p159 := eq_true p159
                    replace q159 := eq_true q159
                    go_wp2_with (first | ((with_reducible refine gate_callee (f := 36) rfl ?_); refine goesL_ (some 21) rfl rfl Try.func36 (by kernel_rfl) rfl #[.int .i64 (rd l0 x4_1)] rfl (by (try simp only [List.map_toArray, List.map_cons, List.map_nil]); first | done | rfl | (simp only [List.length_drop, List.length_take]; rfl)) ?_; (with_reducible refine (ltkref1_Mode.calls (rd l0 x4_1) true _ A4.out).mono ?_); rintro e w' ⟨rfl, ⟨nd, rfl⟩⟩; refine ⟨_, rfl, ?_⟩))
                    go_roundg k1
                    case measure => have := HK1.out; omega
                    case rel => exact ⟨(ji14), (wrap64 (x4_1 + 1)), (by first | rfl | (simp; done) | (simp only [← hji14] <;> (first | rfl | simp)) | (simp [*]; done)), (by first | rfl | (simp; done) | (simp [*]; done)), H', ⟨by have := HK1.out; omega⟩, ⟨by repeat (first | (with_reducible first | exact HB.out | apply below_alloc | apply pw_below_drewN | apply below_drew1) | exact HB.out)⟩⟩
              · rw [if_neg c12] at H
                have c12b0 : (x3_1 == 3) = false := beq_eq_false_iff_ne.mpr c12
                have c12b1 : (x3_1 != 3) = true := bne_iff_ne.mpr c12
                obtain ⟨ji15, hji15⟩ : ∃ j_ : Int, (mx x3_1 (rd l0 x4_1)) = j_ := ⟨_, rfl⟩
                replace H : (ltkref1_Sup.l0 k1 l0 ji15 (wrap64 (x4_1 + 1))) = some r := by first | (rw [hji15] at H; exact H) | (simp only [hji15] at H ⊢; exact H)
                (try rw [hji15] at A4)
                have hji15_ : (if x3_1 < (rd l0 x4_1) then (rd l0 x4_1) else x3_1) = ji15 := hji15
                as_aux_lemma =>
                  have H' := Aside0.mk H
                  clear H
                  have p159 : 0 ≤ (x4_1 : Int) := of_decide_eq_true (by first | (with_reducible assumption) | assumption)
                  have q159 : x4_1 < (l0.length : Int) := of_decide_eq_true (by first | (with_reducible assumption) | assumption)
                  obtain ⟨ad159, e159, hx159_0⟩ := Kd.at_int HR0.out x4_1 p159 q159
                  cases e159
                  replace hx159_0 := (HB.out.cell (World.block_lt_of_cell? w _ hx159_0)).trans hx159_0
                  replace p159 := eq_true p159
                  replace q159 := eq_true q159
                  go_wp2_with (first | ((with_reducible refine gate_callee (f := 36) rfl ?_); refine goesL_ (some 21) rfl rfl Try.func36 (by kernel_rfl) rfl #[.int .i64 (rd l0 x4_1)] rfl (by (try simp only [List.map_toArray, List.map_cons, List.map_nil]); first | done | rfl | (simp only [List.length_drop, List.length_take]; rfl)) ?_; (with_reducible refine (ltkref1_Mode.calls (rd l0 x4_1) true _ A4.out).mono ?_); rintro e w' ⟨rfl, ⟨nd, rfl⟩⟩; refine ⟨_, rfl, ?_⟩))
                  go_roundg k1
                  case measure => have := HK1.out; omega
                  case rel => exact ⟨(ji15), (wrap64 (x4_1 + 1)), (by first | rfl | (simp; done) | (simp only [← hji15] <;> (first | rfl | simp)) | (simp [*]; done)), (by first | rfl | (simp; done) | (simp [*]; done)), H', ⟨by have := HK1.out; omega⟩, ⟨by repeat (first | (with_reducible first | exact HB.out | apply below_alloc | apply pw_below_drewN | apply below_drew1) | exact HB.out)⟩⟩
          · replace c5 := Bool.eq_false_iff.mpr c5
            subst c5
            have H1 : (ltkref1_Sup.l0 k1 l0 5 (wrap64 (x4_1 + 1))) = some r := by rw [if_neg (show ¬ (false = true) by decide)] at H; exact H
            clear H
            have H := H1
            clear H1
            as_aux_lemma =>
              have H' := Aside0.mk H
              clear H
              have p159 : 0 ≤ (x4_1 : Int) := of_decide_eq_true (by first | (with_reducible assumption) | assumption)
              have q159 : x4_1 < (l0.length : Int) := of_decide_eq_true (by first | (with_reducible assumption) | assumption)
              obtain ⟨ad159, e159, hx159_0⟩ := Kd.at_int HR0.out x4_1 p159 q159
              cases e159
              replace hx159_0 := (HB.out.cell (World.block_lt_of_cell? w _ hx159_0)).trans hx159_0
              replace p159 := eq_true p159
              replace q159 := eq_true q159
              go_wp2_with (first | ((with_reducible refine gate_callee (f := 36) rfl ?_); refine goesL_ (some 21) rfl rfl Try.func36 (by kernel_rfl) rfl #[.int .i64 (rd l0 x4_1)] rfl (by (try simp only [List.map_toArray, List.map_cons, List.map_nil]); first | done | rfl | (simp only [List.length_drop, List.length_take]; rfl)) ?_; (with_reducible refine (ltkref1_Mode.calls (rd l0 x4_1) false _ A4.out).mono ?_); rintro e w' ⟨rfl, ⟨nd, rfl⟩⟩; refine ⟨_, rfl, ?_⟩))
              go_roundg k1
              case measure => have := HK1.out; omega
              case rel => exact ⟨(5), (wrap64 (x4_1 + 1)), (by first | rfl | (simp; done) | (simp [*]; done)), (by first | rfl | (simp; done) | (simp [*]; done)), H', ⟨by have := HK1.out; omega⟩, ⟨by repeat (first | (with_reducible first | exact HB.out | apply below_alloc | apply pw_below_drewN | apply below_drew1) | exact HB.out)⟩⟩
        · rw [if_neg c3] at H
          exact absurd H (by simp)
      · rw [if_neg c2] at H
        have c2b0 : decide (x4_1 < (l0.length : Int)) = false := decide_eq_false c2
        clear c2
        as_aux_lemma =>
          obtain rfl := Option.some.inj H
          go_wp2
          go_ret
          exact ⟨by first | rfl | (simp [errW_none, errW_some] <;> rfl) | (simp [*, errW_none, errW_some] <;> rfl), by repeat (first | (with_reducible first | exact HB.out | apply below_alloc | apply pw_below_drewN | apply below_drew1) | exact HB.out)⟩

/-! ### ltkref1_Covers: function 38 -/
def ltkref1_Covers.f (k : Nat) (a0 : Int) (a1 : Int) : Option (Bool) := (ltkref1_Mode.f a0).bind fun t161 => (if t161 = true then ((ltkref1_Mode.f a1).bind fun t162 => (if t162 = true then ((ltkref1_Sup.f k (([a0, a1] : List Int))).bind fun t166 => (some (t166 == a0))) else (some false))) else (some false))
theorem ltkref1_Covers.mono : ∀ a0 a1 k, LeO (ltkref1_Covers.f k a0 a1) (ltkref1_Covers.f (k + 1) a0 a1) := by
  intro a0 a1 k
  unfold ltkref1_Covers.f
  repeat' first
      | (with_reducible exact ltkref1_Sup.mono _ _)
      | (with_reducible exact LeO.refl _)
      | (with_reducible exact LeO.none _)
      | (with_reducible refine LeO.ite ?_ ?_)
      | (with_reducible refine LeO.bind ?_ (fun _ => ?_))
      | exact ltkref1_Sup.mono _ _
      | exact LeO.none _
      | refine LeO.ite ?_ ?_
      | refine LeO.bind ?_ (fun _ => ?_)
set_option maxHeartbeats 8000000 in
set_option maxRecDepth 100000 in
theorem ltkref1_Covers.calls (k : Nat) (a0 : Int) (a1 : Int) (r : Bool) (w : World) (h : ltkref1_Covers.f k a0 a1 = some r) :
    Calls Try.prog 38 #[.int .i64 a0, .int .i64 a1] w fun e w' => e = .returned (.bool r) ∧ Below w.heap.size w w' := by
  have HB := Aside0.mk (Below.refl w.heap.size w)
  have H : ((ltkref1_Mode.f a0).bind fun t161 => (if t161 = true then ((ltkref1_Mode.f a1).bind fun t162 => (if t162 = true then ((ltkref1_Sup.f k (([a0, a1] : List Int))).bind fun t166 => (some (t166 == a0))) else (some false))) else (some false))) = some r := h
  clear h
  replace H := Option.bind_eq_some_iff.mp H
  obtain ⟨t161, A30, H⟩ := H
  replace H : (if t161 = true then ((ltkref1_Mode.f a1).bind fun t162 => (if t162 = true then ((ltkref1_Sup.f k (([a0, a1] : List Int))).bind fun t166 => (some (t166 == a0))) else (some false))) else (some false)) = some r := H
  have A3 := Aside0.mk A30
  clear A30
  by_cases c4 : t161 = true
  · subst c4
    have H1 : ((ltkref1_Mode.f a1).bind fun t162 => (if t162 = true then ((ltkref1_Sup.f k (([a0, a1] : List Int))).bind fun t166 => (some (t166 == a0))) else (some false))) = some r := by rw [if_pos rfl] at H; exact H
    clear H
    have H := H1
    clear H1
    replace H := Option.bind_eq_some_iff.mp H
    obtain ⟨t162, A50, H⟩ := H
    replace H : (if t162 = true then ((ltkref1_Sup.f k (([a0, a1] : List Int))).bind fun t166 => (some (t166 == a0))) else (some false)) = some r := H
    have A5 := Aside0.mk A50
    clear A50
    by_cases c6 : t162 = true
    · subst c6
      have H1 : ((ltkref1_Sup.f k (([a0, a1] : List Int))).bind fun t166 => (some (t166 == a0))) = some r := by rw [if_pos rfl] at H; exact H
      clear H
      have H := H1
      clear H1
      obtain ⟨y163, hy163⟩ : ∃ y_ : List Int, y_ = (([a0, a1] : List Int)) := ⟨_, rfl⟩
      replace H : ((ltkref1_Sup.f k y163).bind fun t166 => (some (t166 == a0))) = some r := by first | (rw [hy163]; with_reducible exact H) | (have H2_ := (Option.bind_some _ _).symm.trans H; rw [hy163]; with_reducible exact H2_) | (have H2_ := (Option.bind_some _ _).symm.trans H; with_reducible exact H2_) | with_reducible exact H | (rw [hy163]; exact H) | exact H
      have Ny163 := Aside0.mk hy163
      clear hy163
      replace H := Option.bind_eq_some_iff.mp H
      obtain ⟨t166, A70, H⟩ := H
      replace H : (some (t166 == a0)) = some r := H
      have A7 := Aside0.mk A70
      clear A70
      as_aux_lemma =>
        obtain rfl := Option.some.inj H
        go_enter Try.func38, Try.ntmps38
        go_wp2_with (first | ((with_reducible refine gate_callee (f := 36) rfl ?_); refine goesL_ (some 6) rfl rfl Try.func36 (by kernel_rfl) rfl #[.int .i64 a0] rfl (by (try simp only [List.map_toArray, List.map_cons, List.map_nil]); first | done | rfl | (simp only [List.length_drop, List.length_take]; rfl)) ?_; (with_reducible refine (ltkref1_Mode.calls a0 true _ A3.out).mono ?_); rintro e w' ⟨rfl, ⟨nd, rfl⟩⟩; refine ⟨_, rfl, ?_⟩) | (go_at_call 36; (with_reducible refine (ltkref1_Mode.calls a1 true _ A5.out).mono ?_); rintro e w' ⟨rfl, ⟨nd, rfl⟩⟩) | ((with_reducible refine gate_dst (N := 14) rfl ?_); (try (refine gate_guard (by rfl) ?_; dsimp only)); refine Kd.R_lit (Kd.int .i64) _ 3 ?hg (N := 14) ?hd (xs := ([a0, a1] : List Int)) (inner := [.int .i64 a0, .int .i64 a1]) (ok := fun _ => True) (okp := fun _ => True) ?hr ?hp (fun _ hk => hk) trivial (Below.refl _ _) (Nat.le_refl _) (by simp) ?_; (case hd => rfl); (case hg => rfl); (case hr => first | (go_simp; done) | (go_simp; rfl)); (case hp => exact (Reps.one (show Kd.M (Kd.int .i64) _ _ _ a0 [.int .i64 a0] from rfl) (Reps.one (show Kd.M (Kd.int .i64) _ _ _ a1 [.int .i64 a1] from rfl) (Reps.none _ _)))); intro v164 w8 ho9 hb hg_ hnew_; clear hg_ hnew_; (first | rw [← Ny163.out] at ho9 | (simp only [Int.reduceToNat] at ho9; rw [← Ny163.out] at ho9)); have n0_ := Aside0.mk (Kd.R_lower ho9 (below_size (by repeat (first | (with_reducible first | exact HB.out | apply below_alloc | apply pw_below_drewN | apply below_drew1) | exact HB.out)))); have n1_ := Aside0.mk (below_step (by repeat (first | (with_reducible first | exact HB.out | apply below_alloc | apply pw_below_drewN | apply below_drew1) | exact HB.out)) hb); clear HB; have HO165 := n0_; have HB := n1_; clear n0_ n1_; clear hb ho9; obtain ⟨Ao10, co10, eo10⟩ := Kd.R_slice HO165.out; subst eo10) | (go_at_call 39; (with_reducible refine (ltkref1_Sup.calls k _ _ y163 t166 _ ?side1 ?side2 A7.out).mono ?_); (case side1 => repeat (first | exact (Kd.R_reads' HO165.out).2.2 | (with_reducible refine Kd.C_alloc ?_ _) | (with_reducible refine Kd.C_drewN ?_ _) | (with_reducible refine Kd.C_drew ?_))); (case side2 => exact (Kd.R_reads' HO165.out).2.1); rintro e w11 ⟨rfl, hb⟩; have n0_ := Aside0.mk (Kd.R_below (by (with_reducible repeat (first | apply Kd.R_alloc | apply Kd.R_drewN | apply Kd.R_drew)); exact HO165.out) hb); have n1_ := Aside0.mk (below_step (by repeat (first | (with_reducible first | exact HB.out | apply below_alloc | apply pw_below_drewN | apply below_drew1) | exact HB.out)) hb); clear HO165; clear HB; have HO165 := n0_; have HB := n1_; clear n0_ n1_; (try clear hb); (try clear hb2); (try clear hk); (try clear hi)))
        go_ret
        exact ⟨by first | rfl | (simp [errW_none, errW_some] <;> rfl) | (simp [*, errW_none, errW_some] <;> rfl), by repeat (first | (with_reducible first | exact HB.out | apply below_alloc | apply pw_below_drewN | apply below_drew1) | exact HB.out)⟩
    · replace c6 := Bool.eq_false_iff.mpr c6
      subst c6
      have H1 : (some false) = some r := by rw [if_neg (show ¬ (false = true) by decide)] at H; exact H
      clear H
      have H := H1
      clear H1
      as_aux_lemma =>
        obtain rfl := Option.some.inj H
        go_enter Try.func38, Try.ntmps38
        go_wp2_with (first | ((with_reducible refine gate_callee (f := 36) rfl ?_); refine goesL_ (some 6) rfl rfl Try.func36 (by kernel_rfl) rfl #[.int .i64 a0] rfl (by (try simp only [List.map_toArray, List.map_cons, List.map_nil]); first | done | rfl | (simp only [List.length_drop, List.length_take]; rfl)) ?_; (with_reducible refine (ltkref1_Mode.calls a0 true _ A3.out).mono ?_); rintro e w' ⟨rfl, ⟨nd, rfl⟩⟩; refine ⟨_, rfl, ?_⟩) | (go_at_call 36; (with_reducible refine (ltkref1_Mode.calls a1 false _ A5.out).mono ?_); rintro e w' ⟨rfl, ⟨nd, rfl⟩⟩))
        go_ret
        exact ⟨by first | rfl | (simp [errW_none, errW_some] <;> rfl) | (simp [*, errW_none, errW_some] <;> rfl), by repeat (first | (with_reducible first | exact HB.out | apply below_alloc | apply pw_below_drewN | apply below_drew1) | exact HB.out)⟩
  · replace c4 := Bool.eq_false_iff.mpr c4
    subst c4
    have H1 : (some false) = some r := by rw [if_neg (show ¬ (false = true) by decide)] at H; exact H
    clear H
    have H := H1
    clear H1
    as_aux_lemma =>
      obtain rfl := Option.some.inj H
      go_enter Try.func38, Try.ntmps38
      go_wp2_with (first | ((with_reducible refine gate_callee (f := 36) rfl ?_); refine goesL_ (some 6) rfl rfl Try.func36 (by kernel_rfl) rfl #[.int .i64 a0] rfl (by (try simp only [List.map_toArray, List.map_cons, List.map_nil]); first | done | rfl | (simp only [List.length_drop, List.length_take]; rfl)) ?_; (with_reducible refine (ltkref1_Mode.calls a0 false _ A3.out).mono ?_); rintro e w' ⟨rfl, ⟨nd, rfl⟩⟩; refine ⟨_, rfl, ?_⟩))
      go_ret
      exact ⟨by first | rfl | (simp [errW_none, errW_some] <;> rfl) | (simp [*, errW_none, errW_some] <;> rfl), by repeat (first | (with_reducible first | exact HB.out | apply below_alloc | apply pw_below_drewN | apply below_drew1) | exact HB.out)⟩

/-! ### ltkref1_Intent: function 40 -/
def ltkref1_Intent.j0 : Nat → Int → Bool → Option (Int)
  | 0, _, _ => none
  | k + 1, x3, x4 => if x4 = true then (some 1) else (if x3 = 2 then (some 2) else (if x3 = 4 then (some 2) else (if x3 = 5 then (some 2) else (some 0))))
def ltkref1_Intent.f (k : Nat) (a0 : Int) : Option (Int) := if a0 = 1 then (ltkref1_Intent.j0 k a0 (a0 == 1)) else (ltkref1_Intent.j0 k a0 (a0 == 3))
theorem ltkref1_Intent.mono_l : ∀ k, (∀ y0 y1, LeO (ltkref1_Intent.j0 k y0 y1) (ltkref1_Intent.j0 (k + 1) y0 y1))
  | 0 => fun _ _ r h => by simp [ltkref1_Intent.j0] at h
  | k + 1 => by
    have ih0 := ltkref1_Intent.mono_l k
    · intro y0 y1
      unfold ltkref1_Intent.j0
      repeat' first
      | (with_reducible exact ih0 _ _)
      | (with_reducible exact LeO.refl _)
      | (with_reducible exact LeO.none _)
      | (with_reducible refine LeO.ite ?_ ?_)
      | (with_reducible refine LeO.bind ?_ (fun _ => ?_))
      | exact ih0 _ _
      | exact LeO.none _
      | refine LeO.ite ?_ ?_
      | refine LeO.bind ?_ (fun _ => ?_)
theorem ltkref1_Intent.mono : ∀ a0 k, LeO (ltkref1_Intent.f k a0) (ltkref1_Intent.f (k + 1) a0) := by
  intro a0 k
  have ih0 := ltkref1_Intent.mono_l k
  unfold ltkref1_Intent.f
  repeat' first
      | (with_reducible exact ih0 _ _)
      | (with_reducible exact LeO.refl _)
      | (with_reducible exact LeO.none _)
      | (with_reducible refine LeO.ite ?_ ?_)
      | (with_reducible refine LeO.bind ?_ (fun _ => ?_))
      | exact ih0 _ _
      | exact LeO.none _
      | refine LeO.ite ?_ ?_
      | refine LeO.bind ?_ (fun _ => ?_)
set_option maxHeartbeats 8000000 in
set_option maxRecDepth 100000 in
theorem ltkref1_Intent.calls (k : Nat) (a0 : Int) (r : Int) (w : World) (h : ltkref1_Intent.f k a0 = some r) :
    Calls Try.prog 40 #[.int .i64 a0] w fun e w' => e = .returned (.int .i64 r) ∧ Drawn0 w w' := by
  have H : (if a0 = 1 then (ltkref1_Intent.j0 k a0 (a0 == 1)) else (ltkref1_Intent.j0 k a0 (a0 == 3))) = some r := h
  clear h
  have HC2 := Aside0.mk H
  clear H
  go_enter Try.func40, Try.ntmps40
  go_upto_if 4 with (fail)
  go_cut [4] (fun v4 wc => ∃ (kq : Nat) (x4_1 : Bool), v4 = .bool x4_1 ∧ Aside0 (ltkref1_Intent.j0 kq a0 x4_1 = some r) ∧ Aside0 (kq ≤ k) ∧ Drawn0 w wc)
  case first =>
    have H := HC2.out
    clear HC2
    by_cases c3 : a0 = 1
    · rw [if_pos c3] at H
      have c3b0 : (a0 == 1) = true := beq_iff_eq.mpr c3
      have c3b1 : (a0 != 1) = false := bne_eq_false_iff_eq.mpr c3
      clear c3
      (first | rw [c3b0] | (simp only [i64_w, i32_w]; rw [c3b0]) | skip)
      as_aux_lemma =>
        have H' := Aside0.mk H
        clear H
        go_wp2
        go_meet
        case rel => exact ⟨_, ((a0 == 1)), (by first | rfl | (simp; done) | (simp [*]; done)), H', ⟨by first | omega | exact Nat.le_refl _⟩, by repeat (first | exact Drawn0.refl _ | apply Drawn0.step)⟩
    · rw [if_neg c3] at H
      have c3b0 : (a0 == 1) = false := beq_eq_false_iff_ne.mpr c3
      have c3b1 : (a0 != 1) = true := bne_iff_ne.mpr c3
      (first | rw [c3b0] | (simp only [i64_w, i32_w]; rw [c3b0]) | skip)
      as_aux_lemma =>
        have H' := Aside0.mk H
        clear H
        go_wp2
        go_meet
        case rel => exact ⟨_, ((a0 == 3)), (by first | rfl | (simp; done) | (simp [*]; done)), H', ⟨by first | omega | exact Nat.le_refl _⟩, by repeat (first | exact Drawn0.refl _ | apply Drawn0.step)⟩
  case rest =>
    clear HC2
    try clear p2
    try clear c3
    try clear c3b0
    try clear c3b1
    obtain ⟨kq, x4_1, rfl, HA, HJ1, ⟨mc1, rfl⟩⟩ := hcut
    cases kq with
    | zero => exact absurd HA.out (by simp [ltkref1_Intent.j0])
    | succ kj1 =>
      have H := HA.out
      clear HA
      simp only [ltkref1_Intent.j0] at H
      by_cases c4 : x4_1 = true
      · subst c4
        have H1 : (some 1) = some r := by rw [if_pos rfl] at H; exact H
        clear H
        have H := H1
        clear H1
        as_aux_lemma =>
          obtain rfl := Option.some.inj H
          go_wp2
          go_ret
          exact ⟨by first | rfl | (simp; done) | (simp [*]; done), by repeat (first | exact Drawn0.refl _ | apply Drawn0.step)⟩
      · replace c4 := Bool.eq_false_iff.mpr c4
        subst c4
        have H1 : (if a0 = 2 then (some 2) else (if a0 = 4 then (some 2) else (if a0 = 5 then (some 2) else (some 0)))) = some r := by rw [if_neg (show ¬ (false = true) by decide)] at H; exact H
        clear H
        have H := H1
        clear H1
        by_cases c5 : a0 = 2
        · rw [if_pos c5] at H
          have c5b0 : (a0 == 2) = true := beq_iff_eq.mpr c5
          have c5b1 : (a0 != 2) = false := bne_eq_false_iff_eq.mpr c5
          clear c5
          as_aux_lemma =>
            obtain rfl := Option.some.inj H
            go_wp2
            go_ret
            exact ⟨by first | rfl | (simp; done) | (simp [*]; done), by repeat (first | exact Drawn0.refl _ | apply Drawn0.step)⟩
        · rw [if_neg c5] at H
          have c5b0 : (a0 == 2) = false := beq_eq_false_iff_ne.mpr c5
          have c5b1 : (a0 != 2) = true := bne_iff_ne.mpr c5
          by_cases c6 : a0 = 4
          · rw [if_pos c6] at H
            have c6b0 : (a0 == 4) = true := beq_iff_eq.mpr c6
            have c6b1 : (a0 != 4) = false := bne_eq_false_iff_eq.mpr c6
            clear c6
            as_aux_lemma =>
              obtain rfl := Option.some.inj H
              go_wp2
              go_ret
              exact ⟨by first | rfl | (simp; done) | (simp [*]; done), by repeat (first | exact Drawn0.refl _ | apply Drawn0.step)⟩
          · rw [if_neg c6] at H
            have c6b0 : (a0 == 4) = false := beq_eq_false_iff_ne.mpr c6
            have c6b1 : (a0 != 4) = true := bne_iff_ne.mpr c6
            by_cases c7 : a0 = 5
            · rw [if_pos c7] at H
              have c7b0 : (a0 == 5) = true := beq_iff_eq.mpr c7
              have c7b1 : (a0 != 5) = false := bne_eq_false_iff_eq.mpr c7
              clear c7
              as_aux_lemma =>
                obtain rfl := Option.some.inj H
                go_wp2
                go_ret
                exact ⟨by first | rfl | (simp; done) | (simp [*]; done), by repeat (first | exact Drawn0.refl _ | apply Drawn0.step)⟩
            · rw [if_neg c7] at H
              have c7b0 : (a0 == 5) = false := beq_eq_false_iff_ne.mpr c7
              have c7b1 : (a0 != 5) = true := bne_iff_ne.mpr c7
              as_aux_lemma =>
                obtain rfl := Option.some.inj H
                go_wp2
                go_ret
                exact ⟨by first | rfl | (simp; done) | (simp [*]; done), by repeat (first | exact Drawn0.refl _ | apply Drawn0.step)⟩

/-! ### ltkref1_Reads: function 41 -/
def ltkref1_Reads.f (a0 : Int) : Option (Bool) := if a0 ≥ 3 then (some (decide (a0 ≤ 5))) else (some false)
set_option maxHeartbeats 8000000 in
set_option maxRecDepth 100000 in
theorem ltkref1_Reads.calls (a0 : Int) (r : Bool) (w : World) (h : ltkref1_Reads.f a0 = some r) :
    Calls Try.prog 41 #[.int .i64 a0] w fun e w' => e = .returned (.bool r) ∧ Drawn0 w w' := by
  have H : (if a0 ≥ 3 then (some (decide (a0 ≤ 5))) else (some false)) = some r := h
  clear h
  by_cases c2 : a0 ≥ 3
  · rw [if_pos c2] at H
    have c2b0 : decide (3 ≤ a0) = true := decide_eq_true c2
    clear c2
    as_aux_lemma =>
      obtain rfl := Option.some.inj H
      go_enter Try.func41, Try.ntmps41
      go_wp2
      go_ret
      exact ⟨by first | rfl | (simp; done) | (simp [*]; done), by repeat (first | exact Drawn0.refl _ | apply Drawn0.step)⟩
  · rw [if_neg c2] at H
    have c2b0 : decide (3 ≤ a0) = false := decide_eq_false c2
    clear c2
    as_aux_lemma =>
      obtain rfl := Option.some.inj H
      go_enter Try.func41, Try.ntmps41
      go_wp2
      go_ret
      exact ⟨by first | rfl | (simp; done) | (simp [*]; done), by repeat (first | exact Drawn0.refl _ | apply Drawn0.step)⟩

/-! ### ltkref1_Writes: function 42 -/
def ltkref1_Writes.f (a0 : Int) : Option (Bool) := some (a0 == 5)
set_option maxHeartbeats 8000000 in
set_option maxRecDepth 100000 in
theorem ltkref1_Writes.calls (a0 : Int) (r : Bool) (w : World) (h : ltkref1_Writes.f a0 = some r) :
    Calls Try.prog 42 #[.int .i64 a0] w fun e w' => e = .returned (.bool r) ∧ Drawn0 w w' := by
  have H : (some (a0 == 5)) = some r := h
  clear h
  as_aux_lemma =>
    obtain rfl := Option.some.inj H
    go_enter Try.func42, Try.ntmps42
    go_wp2
    go_ret
    exact ⟨by first | rfl | (simp; done) | (simp [*]; done), by repeat (first | exact Drawn0.refl _ | apply Drawn0.step)⟩

end Go.Proofs.Ytdpcodnooonmlaa.PMo
