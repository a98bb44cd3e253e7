-- Written by a program of this session (myprint.py) over the kit's print; some functions' contracts are given by hand.
import Derived.Test.YtdpcodnooonmlaaPMox0
import Derived.Test.YtdpcodnooonmlaaPMox1
import Derived.Test.YtdpcodnooonmlaaPMox2
import Derived.Test.YtdpcodnooonmlaaPMox3
namespace Go.Proofs.Ytdpcodnooonmlaa.PMo
open Go.RowKit Go.Proofs.YtdpcodnooonmlaaW.PrintWords Go.Proofs.YtdpcodnooonmlaaW.PrintLast Go.Proofs.YtdpcodnooonmlaaW.PrintMore
attribute [local go_sem] max2_int min2_int max_two min_two max_three min_three max_four min_four   -- for this text's walks alone
set_option linter.unusedVariables false
set_option linter.unusedSimpArgs false

/-! ### ltklaw4_ModeLaws: function 13 -/
mutual
def ltklaw4_ModeLaws.j0 : Nat → Int → Int → Int → Bool → Option (Bool)
  | 0, _, _, _, _ => none
  | k + 1, x0, x1, x2, x22 => if x22 = true then ((ltklaw4_first.f k).bind fun t188 => (some t188)) else ((mode_Sup.f k (([x0, x1] : List Int))).bind fun t192 => ((mode_Fits.f x0 x1).bind fun t193 => ((mode_Fits.f x1 x0).bind fun t194 => (if (t193 != t194) = true then (ltklaw4_ModeLaws.j1 k x0 x1 x2 t192 true) else ((mode_Sup.f k (([x1, x0] : List Int))).bind fun t198 => (if t198 = t192 then ((mode_Sup.f k (([x0, x0] : List Int))).bind fun t202 => (if t202 = x0 then ((mode_Sup.f k (([x0, x1] : List Int))).bind fun t206 => ((mode_Sup.f k (([t206, x2] : List Int))).bind fun t210 => ((mode_Sup.f k (([x0, x1, x2] : List Int))).bind fun t214 => (ltklaw4_ModeLaws.j1 k x0 x1 x2 t192 (t210 != t214))))) else (ltklaw4_ModeLaws.j1 k x0 x1 x2 t192 true))) else (ltklaw4_ModeLaws.j1 k x0 x1 x2 t192 true)))))))
def ltklaw4_ModeLaws.j1 : Nat → Int → Int → Int → Int → Bool → Option (Bool)
  | 0, _, _, _, _, _ => none
  | k + 1, x0, x1, x2, x7, x65 => if x65 = true then (some false) else ((mode_Fits.f x2 x7).bind fun t215 => (if t215 = true then ((mode_Fits.f x2 x0).bind fun t216 => (if t216 = true then ((mode_Fits.f x2 x1).bind fun t217 => (ltklaw4_ModeLaws.j2 k x0 x1 x2 x7 (!t217))) else (ltklaw4_ModeLaws.j2 k x0 x1 x2 x7 true))) else (ltklaw4_ModeLaws.j2 k x0 x1 x2 x7 false)))
def ltklaw4_ModeLaws.j2 : Nat → Int → Int → Int → Int → Bool → Option (Bool)
  | 0, _, _, _, _, _ => none
  | k + 1, x0, x1, x2, x7, x80 => if x80 = true then (some false) else ((mode_Covers.f k x7 x0).bind fun t218 => (if t218 = true then ((mode_Covers.f k x7 x1).bind fun t219 => (if t219 = true then ((mode_Covers.f k x2 x0).bind fun t220 => (if t220 = true then ((mode_Covers.f k x2 x1).bind fun t221 => (if t221 = true then ((mode_Covers.f k x2 x7).bind fun t222 => (ltklaw4_ModeLaws.j3 k x0 x1 (!t222))) else (ltklaw4_ModeLaws.j3 k x0 x1 false))) else (ltklaw4_ModeLaws.j3 k x0 x1 false))) else (ltklaw4_ModeLaws.j3 k x0 x1 true))) else (ltklaw4_ModeLaws.j3 k x0 x1 true)))
def ltklaw4_ModeLaws.j3 : Nat → Int → Int → Bool → Option (Bool)
  | 0, _, _, _ => none
  | k + 1, x0, x1, x106 => if x106 = true then (some false) else ((mode_Covers.f k x0 x1).bind fun t223 => (if t223 = true then ((mode_Intent.f k x0).bind fun t224 => ((mode_Intent.f k x1).bind fun t225 => ((mode_Covers.f k t224 t225).bind fun t226 => (if t226 = true then ((mode_Reads.f x1).bind fun t227 => (if t227 = true then ((mode_Reads.f x0).bind fun t228 => (if t228 = true then ((mode_Writes.f x1).bind fun t229 => (if t229 = true then ((mode_Writes.f x0).bind fun t230 => (ltklaw4_ModeLaws.j4 k x0 x1 (!t230))) else (ltklaw4_ModeLaws.j4 k x0 x1 false))) else (ltklaw4_ModeLaws.j4 k x0 x1 true))) else ((mode_Writes.f x1).bind fun t231 => (if t231 = true then ((mode_Writes.f x0).bind fun t232 => (ltklaw4_ModeLaws.j4 k x0 x1 (!t232))) else (ltklaw4_ModeLaws.j4 k x0 x1 false))))) else (ltklaw4_ModeLaws.j4 k x0 x1 true))))) else (ltklaw4_ModeLaws.j4 k x0 x1 false)))
def ltklaw4_ModeLaws.j4 : Nat → Int → Int → Bool → Option (Bool)
  | 0, _, _, _ => none
  | k + 1, x0, x1, x135 => if x135 = true then (some false) else ((ltklaw4_first.f k).bind fun t233 => (if t233 = true then ((mode_Covers.f k x0 x1).bind fun t234 => (if t234 = true then ((mode_Covers.f k x1 x0).bind fun t235 => (if t235 = true then (if x0 = x1 then ((mode_Writes.f x0).bind fun t236 => (if t236 = true then ((mode_Reads.f x0).bind fun t237 => (some t237)) else (some true))) else (some false)) else ((mode_Writes.f x0).bind fun t238 => (if t238 = true then ((mode_Reads.f x0).bind fun t239 => (some t239)) else (some true))))) else ((mode_Writes.f x0).bind fun t240 => (if t240 = true then ((mode_Reads.f x0).bind fun t241 => (some t241)) else (some true))))) else (some false)))
end
def ltklaw4_ModeLaws.f (k : Nat) (a0 : Int) (a1 : Int) (a2 : Int) : Option (Bool) := (ltklaw4_first.f k).bind fun t184 => (if t184 = true then ((mode_Known.f a0).bind fun t185 => (if t185 = true then ((mode_Known.f a1).bind fun t186 => (if t186 = true then ((mode_Known.f a2).bind fun t187 => (ltklaw4_ModeLaws.j0 k a0 a1 a2 (!t187))) else (ltklaw4_ModeLaws.j0 k a0 a1 a2 true))) else (ltklaw4_ModeLaws.j0 k a0 a1 a2 true))) else (some false))
theorem ltklaw4_ModeLaws.mono_l : ∀ k, (∀ y0 y1 y2 y3, LeO (ltklaw4_ModeLaws.j0 k y0 y1 y2 y3) (ltklaw4_ModeLaws.j0 (k + 1) y0 y1 y2 y3)) ∧ (∀ y0 y1 y2 y3 y4, LeO (ltklaw4_ModeLaws.j1 k y0 y1 y2 y3 y4) (ltklaw4_ModeLaws.j1 (k + 1) y0 y1 y2 y3 y4)) ∧ (∀ y0 y1 y2 y3 y4, LeO (ltklaw4_ModeLaws.j2 k y0 y1 y2 y3 y4) (ltklaw4_ModeLaws.j2 (k + 1) y0 y1 y2 y3 y4)) ∧ (∀ y0 y1 y2, LeO (ltklaw4_ModeLaws.j3 k y0 y1 y2) (ltklaw4_ModeLaws.j3 (k + 1) y0 y1 y2)) ∧ (∀ y0 y1 y2, LeO (ltklaw4_ModeLaws.j4 k y0 y1 y2) (ltklaw4_ModeLaws.j4 (k + 1) y0 y1 y2))
  | 0 => ⟨fun _ _ _ _ r h => by simp [ltklaw4_ModeLaws.j0] at h, fun _ _ _ _ _ r h => by simp [ltklaw4_ModeLaws.j1] at h, fun _ _ _ _ _ r h => by simp [ltklaw4_ModeLaws.j2] at h, fun _ _ _ r h => by simp [ltklaw4_ModeLaws.j3] at h, fun _ _ _ r h => by simp [ltklaw4_ModeLaws.j4] at h⟩
  | k + 1 => by
    obtain ⟨ih0, ih1, ih2, ih3, ih4⟩ := ltklaw4_ModeLaws.mono_l k
    refine ⟨?_, ?_, ?_, ?_, ?_⟩
    · intro y0 y1 y2 y3
      unfold ltklaw4_ModeLaws.j0
      repeat' first
      | (with_reducible exact ih0 _ _ _ _)
      | (with_reducible exact ih1 _ _ _ _ _)
      | (with_reducible exact ih2 _ _ _ _ _)
      | (with_reducible exact ih3 _ _ _)
      | (with_reducible exact ih4 _ _ _)
      | (with_reducible exact ltklaw4_first.mono _)
      | (with_reducible exact mode_Covers.mono _ _ _)
      | (with_reducible exact mode_Intent.mono _ _)
      | (with_reducible exact mode_Sup.mono _ _)
      | (with_reducible exact LeO.refl _)
      | (with_reducible exact LeO.none _)
      | (with_reducible refine LeO.ite ?_ ?_)
      | (with_reducible refine LeO.bind ?_ (fun _ => ?_))
      | exact ih0 _ _ _ _
      | exact ih1 _ _ _ _ _
      | exact ih2 _ _ _ _ _
      | exact ih3 _ _ _
      | exact ih4 _ _ _
      | exact ltklaw4_first.mono _
      | exact mode_Covers.mono _ _ _
      | exact mode_Intent.mono _ _
      | exact mode_Sup.mono _ _
      | exact LeO.none _
      | refine LeO.ite ?_ ?_
      | refine LeO.bind ?_ (fun _ => ?_)
    · intro y0 y1 y2 y3 y4
      unfold ltklaw4_ModeLaws.j1
      repeat' first
      | (with_reducible exact ih0 _ _ _ _)
      | (with_reducible exact ih1 _ _ _ _ _)
      | (with_reducible exact ih2 _ _ _ _ _)
      | (with_reducible exact ih3 _ _ _)
      | (with_reducible exact ih4 _ _ _)
      | (with_reducible exact ltklaw4_first.mono _)
      | (with_reducible exact mode_Covers.mono _ _ _)
      | (with_reducible exact mode_Intent.mono _ _)
      | (with_reducible exact mode_Sup.mono _ _)
      | (with_reducible exact LeO.refl _)
      | (with_reducible exact LeO.none _)
      | (with_reducible refine LeO.ite ?_ ?_)
      | (with_reducible refine LeO.bind ?_ (fun _ => ?_))
      | exact ih0 _ _ _ _
      | exact ih1 _ _ _ _ _
      | exact ih2 _ _ _ _ _
      | exact ih3 _ _ _
      | exact ih4 _ _ _
      | exact ltklaw4_first.mono _
      | exact mode_Covers.mono _ _ _
      | exact mode_Intent.mono _ _
      | exact mode_Sup.mono _ _
      | exact LeO.none _
      | refine LeO.ite ?_ ?_
      | refine LeO.bind ?_ (fun _ => ?_)
    · intro y0 y1 y2 y3 y4
      unfold ltklaw4_ModeLaws.j2
      repeat' first
      | (with_reducible exact ih0 _ _ _ _)
      | (with_reducible exact ih1 _ _ _ _ _)
      | (with_reducible exact ih2 _ _ _ _ _)
      | (with_reducible exact ih3 _ _ _)
      | (with_reducible exact ih4 _ _ _)
      | (with_reducible exact ltklaw4_first.mono _)
      | (with_reducible exact mode_Covers.mono _ _ _)
      | (with_reducible exact mode_Intent.mono _ _)
      | (with_reducible exact mode_Sup.mono _ _)
      | (with_reducible exact LeO.refl _)
      | (with_reducible exact LeO.none _)
      | (with_reducible refine LeO.ite ?_ ?_)
      | (with_reducible refine LeO.bind ?_ (fun _ => ?_))
      | exact ih0 _ _ _ _
      | exact ih1 _ _ _ _ _
      | exact ih2 _ _ _ _ _
      | exact ih3 _ _ _
      | exact ih4 _ _ _
      | exact ltklaw4_first.mono _
      | exact mode_Covers.mono _ _ _
      | exact mode_Intent.mono _ _
      | exact mode_Sup.mono _ _
      | exact LeO.none _
      | refine LeO.ite ?_ ?_
      | refine LeO.bind ?_ (fun _ => ?_)
    · intro y0 y1 y2
      unfold ltklaw4_ModeLaws.j3
      repeat' first
      | (with_reducible exact ih0 _ _ _ _)
      | (with_reducible exact ih1 _ _ _ _ _)
      | (with_reducible exact ih2 _ _ _ _ _)
      | (with_reducible exact ih3 _ _ _)
      | (with_reducible exact ih4 _ _ _)
      | (with_reducible exact ltklaw4_first.mono _)
      | (with_reducible exact mode_Covers.mono _ _ _)
      | (with_reducible exact mode_Intent.mono _ _)
      | (with_reducible exact mode_Sup.mono _ _)
      | (with_reducible exact LeO.refl _)
      | (with_reducible exact LeO.none _)
      | (with_reducible refine LeO.ite ?_ ?_)
      | (with_reducible refine LeO.bind ?_ (fun _ => ?_))
      | exact ih0 _ _ _ _
      | exact ih1 _ _ _ _ _
      | exact ih2 _ _ _ _ _
      | exact ih3 _ _ _
      | exact ih4 _ _ _
      | exact ltklaw4_first.mono _
      | exact mode_Covers.mono _ _ _
      | exact mode_Intent.mono _ _
      | exact mode_Sup.mono _ _
      | exact LeO.none _
      | refine LeO.ite ?_ ?_
      | refine LeO.bind ?_ (fun _ => ?_)
    · intro y0 y1 y2
      unfold ltklaw4_ModeLaws.j4
      repeat' first
      | (with_reducible exact ih0 _ _ _ _)
      | (with_reducible exact ih1 _ _ _ _ _)
      | (with_reducible exact ih2 _ _ _ _ _)
      | (with_reducible exact ih3 _ _ _)
      | (with_reducible exact ih4 _ _ _)
      | (with_reducible exact ltklaw4_first.mono _)
      | (with_reducible exact mode_Covers.mono _ _ _)
      | (with_reducible exact mode_Intent.mono _ _)
      | (with_reducible exact mode_Sup.mono _ _)
      | (with_reducible exact LeO.refl _)
      | (with_reducible exact LeO.none _)
      | (with_reducible refine LeO.ite ?_ ?_)
      | (with_reducible refine LeO.bind ?_ (fun _ => ?_))
      | exact ih0 _ _ _ _
      | exact ih1 _ _ _ _ _
      | exact ih2 _ _ _ _ _
      | exact ih3 _ _ _
      | exact ih4 _ _ _
      | exact ltklaw4_first.mono _
      | exact mode_Covers.mono _ _ _
      | exact mode_Intent.mono _ _
      | exact mode_Sup.mono _ _
      | exact LeO.none _
      | refine LeO.ite ?_ ?_
      | refine LeO.bind ?_ (fun _ => ?_)
theorem ltklaw4_ModeLaws.mono : ∀ a0 a1 a2 k, LeO (ltklaw4_ModeLaws.f k a0 a1 a2) (ltklaw4_ModeLaws.f (k + 1) a0 a1 a2) := by
  intro a0 a1 a2 k
  obtain ⟨ih0, ih1, ih2, ih3, ih4⟩ := ltklaw4_ModeLaws.mono_l k
  unfold ltklaw4_ModeLaws.f
  repeat' first
      | (with_reducible exact ih0 _ _ _ _)
      | (with_reducible exact ih1 _ _ _ _ _)
      | (with_reducible exact ih2 _ _ _ _ _)
      | (with_reducible exact ih3 _ _ _)
      | (with_reducible exact ih4 _ _ _)
      | (with_reducible exact ltklaw4_first.mono _)
      | (with_reducible exact mode_Covers.mono _ _ _)
      | (with_reducible exact mode_Intent.mono _ _)
      | (with_reducible exact mode_Sup.mono _ _)
      | (with_reducible exact LeO.refl _)
      | (with_reducible exact LeO.none _)
      | (with_reducible refine LeO.ite ?_ ?_)
      | (with_reducible refine LeO.bind ?_ (fun _ => ?_))
      | exact ih0 _ _ _ _
      | exact ih1 _ _ _ _ _
      | exact ih2 _ _ _ _ _
      | exact ih3 _ _ _
      | exact ih4 _ _ _
      | exact ltklaw4_first.mono _
      | exact mode_Covers.mono _ _ _
      | exact mode_Intent.mono _ _
      | exact mode_Sup.mono _ _
      | exact LeO.none _
      | refine LeO.ite ?_ ?_
      | refine LeO.bind ?_ (fun _ => ?_)
set_option maxHeartbeats 8000000 in
set_option maxRecDepth 100000 in
theorem ltklaw4_ModeLaws.calls (k : Nat) (a0 : Int) (a1 : Int) (a2 : Int) (r : Bool) (w : World) (h : ltklaw4_ModeLaws.f k a0 a1 a2 = some r) :
    Calls Try.prog 13 #[.int .i64 a0, .int .i64 a1, .int .i64 a2] w fun e w' => e = .returned (.bool r) ∧ Below w.heap.size w w' := by
  have HB := Aside0.mk (Below.refl w.heap.size w)
  have H : ((ltklaw4_first.f k).bind fun t184 => (if t184 = true then ((mode_Known.f a0).bind fun t185 => (if t185 = true then ((mode_Known.f a1).bind fun t186 => (if t186 = true then ((mode_Known.f a2).bind fun t187 => (ltklaw4_ModeLaws.j0 k a0 a1 a2 (!t187))) else (ltklaw4_ModeLaws.j0 k a0 a1 a2 true))) else (ltklaw4_ModeLaws.j0 k a0 a1 a2 true))) else (some false))) = some r := h
  clear h
  replace H := Option.bind_eq_some_iff.mp H
  obtain ⟨t184, A40, H⟩ := H
  replace H : (if t184 = true then ((mode_Known.f a0).bind fun t185 => (if t185 = true then ((mode_Known.f a1).bind fun t186 => (if t186 = true then ((mode_Known.f a2).bind fun t187 => (ltklaw4_ModeLaws.j0 k a0 a1 a2 (!t187))) else (ltklaw4_ModeLaws.j0 k a0 a1 a2 true))) else (ltklaw4_ModeLaws.j0 k a0 a1 a2 true))) else (some false)) = some r := H
  have A4 := Aside0.mk A40
  clear A40
  by_cases c5 : t184 = true
  · subst c5
    have H1 : ((mode_Known.f a0).bind fun t185 => (if t185 = true then ((mode_Known.f a1).bind fun t186 => (if t186 = true then ((mode_Known.f a2).bind fun t187 => (ltklaw4_ModeLaws.j0 k a0 a1 a2 (!t187))) else (ltklaw4_ModeLaws.j0 k a0 a1 a2 true))) else (ltklaw4_ModeLaws.j0 k a0 a1 a2 true))) = some r := by rw [if_pos rfl] at H; exact H
    clear H
    have H := H1
    clear H1
    have HC6 := Aside0.mk H
    clear H
    go_enter Try.func13, Try.ntmps13
    go_upto_region 3 with (first | ((with_reducible refine gate_callee (f := 28) rfl ?_); refine goesL_ (some 8) rfl rfl Try.func28 (by kernel_rfl) rfl #[] rfl (by (try simp only [List.map_toArray, List.map_cons, List.map_nil]); first | done | rfl | (simp only [List.length_drop, List.length_take]; rfl)) ?_; (with_reducible refine (ltklaw4_first.calls k  true _ A4.out).mono ?_); rintro e w7 ⟨rfl, hb⟩; refine ⟨_, rfl, ?_⟩; have n0_ := Aside0.mk (below_step (by repeat (first | (with_reducible first | exact HB.out | apply below_alloc | apply pw_below_drewN | apply below_drew1) | exact HB.out)) hb); clear HB; have HB := n0_; clear n0_; (try clear hb); (try clear hb2); (try clear hk); (try clear hi)))
    (try simp only [Act.put, List.setIfInBounds_toArray, List.set_cons_zero, List.set_cons_succ])
    go_cut [22] (fun v22 wc => ∃ (kq : Nat) (x22_5 : Bool), v22 = .bool x22_5 ∧ Aside0 (ltklaw4_ModeLaws.j0 kq a0 a1 a2 x22_5 = some r) ∧ Aside0 (kq ≤ k) ∧ Aside0 (Below w.heap.size w wc))
    case first => as_aux_lemma =>
      have H := HC6.out
      clear HC6
      replace H := Option.bind_eq_some_iff.mp H
      obtain ⟨t185, A80, H⟩ := H
      replace H : (if t185 = true then ((mode_Known.f a1).bind fun t186 => (if t186 = true then ((mode_Known.f a2).bind fun t187 => (ltklaw4_ModeLaws.j0 k a0 a1 a2 (!t187))) else (ltklaw4_ModeLaws.j0 k a0 a1 a2 true))) else (ltklaw4_ModeLaws.j0 k a0 a1 a2 true)) = some r := H
      have A8 := Aside0.mk A80
      clear A80
      by_cases c9 : t185 = true
      · subst c9
        have H1 : ((mode_Known.f a1).bind fun t186 => (if t186 = true then ((mode_Known.f a2).bind fun t187 => (ltklaw4_ModeLaws.j0 k a0 a1 a2 (!t187))) else (ltklaw4_ModeLaws.j0 k a0 a1 a2 true))) = some r := by rw [if_pos rfl] at H; exact H
        clear H
        have H := H1
        clear H1
        replace H := Option.bind_eq_some_iff.mp H
        obtain ⟨t186, A100, H⟩ := H
        replace H : (if t186 = true then ((mode_Known.f a2).bind fun t187 => (ltklaw4_ModeLaws.j0 k a0 a1 a2 (!t187))) else (ltklaw4_ModeLaws.j0 k a0 a1 a2 true)) = some r := H
        have A10 := Aside0.mk A100
        clear A100
        by_cases c11 : t186 = true
        · subst c11
          have H1 : ((mode_Known.f a2).bind fun t187 => (ltklaw4_ModeLaws.j0 k a0 a1 a2 (!t187))) = some r := by rw [if_pos rfl] at H; exact H
          clear H
          have H := H1
          clear H1
          replace H := Option.bind_eq_some_iff.mp H
          obtain ⟨t187, A120, H⟩ := H
          replace H : (ltklaw4_ModeLaws.j0 k a0 a1 a2 (!t187)) = some r := H
          have A12 := Aside0.mk A120
          clear A120
          as_aux_lemma =>
            have H' := Aside0.mk H
            clear H
            go_wp2_with (first | ((with_reducible refine gate_callee (f := 29) rfl ?_); refine goesL_ (some 11) rfl rfl Try.func29 (by kernel_rfl) rfl #[.int .i64 a0] rfl (by (try simp only [List.map_toArray, List.map_cons, List.map_nil]); first | done | rfl | (simp only [List.length_drop, List.length_take]; rfl)) ?_; (with_reducible refine (mode_Known.calls a0 true _ A8.out).mono ?_); rintro e w' ⟨rfl, ⟨nd, rfl⟩⟩; refine ⟨_, rfl, ?_⟩) | (go_at_call 29; (with_reducible refine (mode_Known.calls a1 true _ A10.out).mono ?_); rintro e w' ⟨rfl, ⟨nd, rfl⟩⟩) | (go_at_call 29; (with_reducible refine (mode_Known.calls a2 t187 _ A12.out).mono ?_); rintro e w' ⟨rfl, ⟨nd, rfl⟩⟩))
            go_meet
            case rel => exact ⟨_, (!t187), (by first | rfl | (simp; done) | (simp [*]; done)), H', ⟨by first | omega | exact Nat.le_refl _⟩, ⟨by repeat (first | (with_reducible first | exact HB.out | apply below_alloc | apply pw_below_drewN | apply below_drew1) | exact HB.out)⟩⟩
        · replace c11 := Bool.eq_false_iff.mpr c11
          subst c11
          have H1 : (ltklaw4_ModeLaws.j0 k a0 a1 a2 true) = some r := by rw [if_neg (show ¬ (false = true) by decide)] at H; exact H
          clear H
          have H := H1
          clear H1
          as_aux_lemma =>
            have H' := Aside0.mk H
            clear H
            go_wp2_with (first | ((with_reducible refine gate_callee (f := 29) rfl ?_); refine goesL_ (some 11) rfl rfl Try.func29 (by kernel_rfl) rfl #[.int .i64 a0] rfl (by (try simp only [List.map_toArray, List.map_cons, List.map_nil]); first | done | rfl | (simp only [List.length_drop, List.length_take]; rfl)) ?_; (with_reducible refine (mode_Known.calls a0 true _ A8.out).mono ?_); rintro e w' ⟨rfl, ⟨nd, rfl⟩⟩; refine ⟨_, rfl, ?_⟩) | (go_at_call 29; (with_reducible refine (mode_Known.calls a1 false _ A10.out).mono ?_); rintro e w' ⟨rfl, ⟨nd, rfl⟩⟩))
            go_meet
            case rel => exact ⟨_, (true), (by first | rfl | (simp; done) | (simp [*]; done)), H', ⟨by first | omega | exact Nat.le_refl _⟩, ⟨by repeat (first | (with_reducible first | exact HB.out | apply below_alloc | apply pw_below_drewN | apply below_drew1) | exact HB.out)⟩⟩
      · replace c9 := Bool.eq_false_iff.mpr c9
        subst c9
        have H1 : (ltklaw4_ModeLaws.j0 k a0 a1 a2 true) = some r := by rw [if_neg (show ¬ (false = true) by decide)] at H; exact H
        clear H
        have H := H1
        clear H1
        as_aux_lemma =>
          have H' := Aside0.mk H
          clear H
          go_wp2_with (first | ((with_reducible refine gate_callee (f := 29) rfl ?_); refine goesL_ (some 11) rfl rfl Try.func29 (by kernel_rfl) rfl #[.int .i64 a0] rfl (by (try simp only [List.map_toArray, List.map_cons, List.map_nil]); first | done | rfl | (simp only [List.length_drop, List.length_take]; rfl)) ?_; (with_reducible refine (mode_Known.calls a0 false _ A8.out).mono ?_); rintro e w' ⟨rfl, ⟨nd, rfl⟩⟩; refine ⟨_, rfl, ?_⟩))
          go_meet
          case rel => exact ⟨_, (true), (by first | rfl | (simp; done) | (simp [*]; done)), H', ⟨by first | omega | exact Nat.le_refl _⟩, ⟨by repeat (first | (with_reducible first | exact HB.out | apply below_alloc | apply pw_below_drewN | apply below_drew1) | exact HB.out)⟩⟩
    case rest => as_aux_lemma =>
      clear HC6
      try clear c1
      try clear c2
      try clear p2
      try clear c5
      try clear c9
      try clear c11
      obtain ⟨kq, x22_5, rfl, HA, HJ5, HB⟩ := hcut
      cases kq with
      | zero => exact absurd HA.out (by simp [ltklaw4_ModeLaws.j0])
      | succ kj5 =>
        have H := HA.out
        clear HA
        simp only [ltklaw4_ModeLaws.j0] at H
        by_cases c13 : x22_5 = true
        · subst c13
          have H1 : ((ltklaw4_first.f kj5).bind fun t188 => (some t188)) = some r := by rw [if_pos rfl] at H; exact H
          clear H
          have H := H1
          clear H1
          replace H := Option.bind_eq_some_iff.mp H
          obtain ⟨t188, A140, H⟩ := H
          replace H : (some t188) = some r := H
          have A14 := Aside0.mk A140
          clear A140
          as_aux_lemma =>
            obtain rfl := Option.some.inj H
            go_wp2_with (first | ((with_reducible refine gate_callee (f := 28) rfl ?_); refine goesL_ (some 23) rfl rfl Try.func28 (by kernel_rfl) rfl #[] rfl (by (try simp only [List.map_toArray, List.map_cons, List.map_nil]); first | done | rfl | (simp only [List.length_drop, List.length_take]; rfl)) ?_; (with_reducible refine (ltklaw4_first.calls kj5  t188 _ A14.out).mono ?_); rintro e w15 ⟨rfl, hb⟩; refine ⟨_, rfl, ?_⟩; have n0_ := Aside0.mk (below_step (by repeat (first | (with_reducible first | exact HB.out | apply below_alloc | apply pw_below_drewN | apply below_drew1) | exact HB.out)) hb); clear HB; have HB := n0_; clear n0_; (try clear hb); (try clear hb2); (try clear hk); (try clear hi)))
            go_ret
            exact ⟨by first | rfl | (simp [errW_none, errW_some] <;> rfl) | (simp [*, errW_none, errW_some] <;> rfl), by repeat (first | (with_reducible first | exact HB.out | apply below_alloc | apply pw_below_drewN | apply below_drew1) | exact HB.out)⟩
        · replace c13 := Bool.eq_false_iff.mpr c13
          subst c13
          have H1 : ((mode_Sup.f kj5 (([a0, a1] : List Int))).bind fun t192 => ((mode_Fits.f a0 a1).bind fun t193 => ((mode_Fits.f a1 a0).bind fun t194 => (if (t193 != t194) = true then (ltklaw4_ModeLaws.j1 kj5 a0 a1 a2 t192 true) else ((mode_Sup.f kj5 (([a1, a0] : List Int))).bind fun t198 => (if t198 = t192 then ((mode_Sup.f kj5 (([a0, a0] : List Int))).bind fun t202 => (if t202 = a0 then ((mode_Sup.f kj5 (([a0, a1] : List Int))).bind fun t206 => ((mode_Sup.f kj5 (([t206, a2] : List Int))).bind fun t210 => ((mode_Sup.f kj5 (([a0, a1, a2] : List Int))).bind fun t214 => (ltklaw4_ModeLaws.j1 kj5 a0 a1 a2 t192 (t210 != t214))))) else (ltklaw4_ModeLaws.j1 kj5 a0 a1 a2 t192 true))) else (ltklaw4_ModeLaws.j1 kj5 a0 a1 a2 t192 true))))))) = some r := by rw [if_neg (show ¬ (false = true) by decide)] at H; exact H
          clear H
          have H := H1
          clear H1
          obtain ⟨y189, hy189⟩ : ∃ y_ : List Int, y_ = (([a0, a1] : List Int)) := ⟨_, rfl⟩
          replace H : ((mode_Sup.f kj5 y189).bind fun t192 => ((mode_Fits.f a0 a1).bind fun t193 => ((mode_Fits.f a1 a0).bind fun t194 => (if (t193 != t194) = true then (ltklaw4_ModeLaws.j1 kj5 a0 a1 a2 t192 true) else ((mode_Sup.f kj5 (([a1, a0] : List Int))).bind fun t198 => (if t198 = t192 then ((mode_Sup.f kj5 (([a0, a0] : List Int))).bind fun t202 => (if t202 = a0 then ((mode_Sup.f kj5 (([a0, a1] : List Int))).bind fun t206 => ((mode_Sup.f kj5 (([t206, a2] : List Int))).bind fun t210 => ((mode_Sup.f kj5 (([a0, a1, a2] : List Int))).bind fun t214 => (ltklaw4_ModeLaws.j1 kj5 a0 a1 a2 t192 (t210 != t214))))) else (ltklaw4_ModeLaws.j1 kj5 a0 a1 a2 t192 true))) else (ltklaw4_ModeLaws.j1 kj5 a0 a1 a2 t192 true))))))) = some r := by first | (rw [hy189]; with_reducible exact H) | (have H2_ := (Option.bind_some _ _).symm.trans H; rw [hy189]; with_reducible exact H2_) | (have H2_ := (Option.bind_some _ _).symm.trans H; with_reducible exact H2_) | with_reducible exact H | (rw [hy189]; exact H) | exact H
          have Ny189 := Aside0.mk hy189
          clear hy189
          replace H := Option.bind_eq_some_iff.mp H
          obtain ⟨t192, A160, H⟩ := H
          replace H : ((mode_Fits.f a0 a1).bind fun t193 => ((mode_Fits.f a1 a0).bind fun t194 => (if (t193 != t194) = true then (ltklaw4_ModeLaws.j1 kj5 a0 a1 a2 t192 true) else ((mode_Sup.f kj5 (([a1, a0] : List Int))).bind fun t198 => (if t198 = t192 then ((mode_Sup.f kj5 (([a0, a0] : List Int))).bind fun t202 => (if t202 = a0 then ((mode_Sup.f kj5 (([a0, a1] : List Int))).bind fun t206 => ((mode_Sup.f kj5 (([t206, a2] : List Int))).bind fun t210 => ((mode_Sup.f kj5 (([a0, a1, a2] : List Int))).bind fun t214 => (ltklaw4_ModeLaws.j1 kj5 a0 a1 a2 t192 (t210 != t214))))) else (ltklaw4_ModeLaws.j1 kj5 a0 a1 a2 t192 true))) else (ltklaw4_ModeLaws.j1 kj5 a0 a1 a2 t192 true)))))) = some r := H
          have A16 := Aside0.mk A160
          clear A160
          have HC17 := Aside0.mk H
          clear H
          go_upto_region 6 with (first | ((with_reducible refine gate_dst (N := 26) rfl ?_); (try (refine gate_guard (by rfl) ?_; dsimp only)); refine Kd.R_lit (Kd.int .i64) _ 3 ?hg (N := 26) ?hd (xs := ([a0, a1] : List Int)) (inner := [.int .i64 a0, .int .i64 a1]) (ok := fun _ => True) (okp := fun _ => True) ?hr ?hp (fun _ hk => hk) trivial (Below.refl _ _) (Nat.le_refl _) (by simp) ?_; (case hd => rfl); (case hg => rfl); (case hr => first | (go_simp; done) | (go_simp; rfl)); (case hp => exact (Reps.one (show Kd.M (Kd.int .i64) _ _ _ a0 [.int .i64 a0] from rfl) (Reps.one (show Kd.M (Kd.int .i64) _ _ _ a1 [.int .i64 a1] from rfl) (Reps.none _ _)))); intro v190 w18 ho19 hb hg_ hnew_; clear hg_ hnew_; (first | rw [← Ny189.out] at ho19 | (simp only [Int.reduceToNat] at ho19; rw [← Ny189.out] at ho19)); have n0_ := Aside0.mk (Kd.R_lower ho19 (below_size (by repeat (first | (with_reducible first | exact HB.out | apply below_alloc | apply pw_below_drewN | apply below_drew1) | exact HB.out)))); have n1_ := Aside0.mk (below_step (by repeat (first | (with_reducible first | exact HB.out | apply below_alloc | apply pw_below_drewN | apply below_drew1) | exact HB.out)) hb); clear HB; have HO191 := n0_; have HB := n1_; clear n0_ n1_; clear hb ho19; obtain ⟨Ao20, co20, eo20⟩ := Kd.R_slice HO191.out; subst eo20) | ((with_reducible refine gate_callee (f := 30) rfl ?_); refine goesL_ (some 27) rfl rfl Try.func30 (by kernel_rfl) rfl #[.slice Ao20 y189.length co20] rfl (by (try simp only [List.map_toArray, List.map_cons, List.map_nil]); first | done | rfl | (simp only [List.length_drop, List.length_take]; rfl)) ?_; (with_reducible refine (mode_Sup.calls kj5 _ _ y189 t192 _ ?side1 ?side2 A16.out).mono ?_); (case side1 => repeat (first | exact (Kd.R_reads' HO191.out).2.2 | (with_reducible refine Kd.C_alloc ?_ _) | (with_reducible refine Kd.C_drewN ?_ _) | (with_reducible refine Kd.C_drew ?_))); (case side2 => exact (Kd.R_reads' HO191.out).2.1); rintro e w' ⟨rfl, ⟨nd, rfl⟩⟩; refine ⟨_, rfl, ?_⟩))
          (try simp only [Act.put, List.setIfInBounds_toArray, List.set_cons_zero, List.set_cons_succ])
          go_cut [65] (fun v65 wc => ∃ (kq : Nat) (x65_16 : Bool), v65 = .bool x65_16 ∧ Aside0 (ltklaw4_ModeLaws.j1 kq a0 a1 a2 t192 x65_16 = some r) ∧ Aside0 (kq ≤ kj5) ∧ Aside0 (Below w.heap.size w wc))
          case first => as_aux_lemma =>
            have H := HC17.out
            clear HC17
            replace H := Option.bind_eq_some_iff.mp H
            obtain ⟨t193, A210, H⟩ := H
            replace H : ((mode_Fits.f a1 a0).bind fun t194 => (if (t193 != t194) = true then (ltklaw4_ModeLaws.j1 kj5 a0 a1 a2 t192 true) else ((mode_Sup.f kj5 (([a1, a0] : List Int))).bind fun t198 => (if t198 = t192 then ((mode_Sup.f kj5 (([a0, a0] : List Int))).bind fun t202 => (if t202 = a0 then ((mode_Sup.f kj5 (([a0, a1] : List Int))).bind fun t206 => ((mode_Sup.f kj5 (([t206, a2] : List Int))).bind fun t210 => ((mode_Sup.f kj5 (([a0, a1, a2] : List Int))).bind fun t214 => (ltklaw4_ModeLaws.j1 kj5 a0 a1 a2 t192 (t210 != t214))))) else (ltklaw4_ModeLaws.j1 kj5 a0 a1 a2 t192 true))) else (ltklaw4_ModeLaws.j1 kj5 a0 a1 a2 t192 true))))) = some r := H
            have A21 := Aside0.mk A210
            clear A210
            replace H := Option.bind_eq_some_iff.mp H
            obtain ⟨t194, A220, H⟩ := H
            replace H : (if (t193 != t194) = true then (ltklaw4_ModeLaws.j1 kj5 a0 a1 a2 t192 true) else ((mode_Sup.f kj5 (([a1, a0] : List Int))).bind fun t198 => (if t198 = t192 then ((mode_Sup.f kj5 (([a0, a0] : List Int))).bind fun t202 => (if t202 = a0 then ((mode_Sup.f kj5 (([a0, a1] : List Int))).bind fun t206 => ((mode_Sup.f kj5 (([t206, a2] : List Int))).bind fun t210 => ((mode_Sup.f kj5 (([a0, a1, a2] : List Int))).bind fun t214 => (ltklaw4_ModeLaws.j1 kj5 a0 a1 a2 t192 (t210 != t214))))) else (ltklaw4_ModeLaws.j1 kj5 a0 a1 a2 t192 true))) else (ltklaw4_ModeLaws.j1 kj5 a0 a1 a2 t192 true)))) = some r := H
            have A22 := Aside0.mk A220
            clear A220
            by_cases c23 : (t193 != t194) = true
            · rw [if_pos c23] at H
              have c23b0 : (t193 != t194) = true := c23
              (try (have c23b1 : decide (t193 = t194) = false := by simpa using c23))
              (try (have c23b2 : (t193 == t194) = false := by simpa using c23))
              (try (have c23b3 : ¬ (t193 = t194) := by simpa using c23))
              clear c23
              (first | rw [c23b0] | (simp only [i64_w, i32_w]; rw [c23b0]) | skip)
              as_aux_lemma =>
                have H' := Aside0.mk H
                clear H
                go_wp2_with (first | ((with_reducible refine gate_callee (f := 32) rfl ?_); refine goesL_ (some 30) rfl rfl Try.func32 (by kernel_rfl) rfl #[.int .i64 a0, .int .i64 a1] rfl (by (try simp only [List.map_toArray, List.map_cons, List.map_nil]); first | done | rfl | (simp only [List.length_drop, List.length_take]; rfl)) ?_; (with_reducible refine (mode_Fits.calls a0 a1 t193 _ A21.out).mono ?_); rintro e w' ⟨rfl, ⟨nd, rfl⟩⟩; refine ⟨_, rfl, ?_⟩) | ((with_reducible refine gate_callee (f := 32) rfl ?_); refine goesL_ (some 33) rfl rfl Try.func32 (by kernel_rfl) rfl #[.int .i64 a1, .int .i64 a0] rfl (by (try simp only [List.map_toArray, List.map_cons, List.map_nil]); first | done | rfl | (simp only [List.length_drop, List.length_take]; rfl)) ?_; (with_reducible refine (mode_Fits.calls a1 a0 t194 _ A22.out).mono ?_); rintro e w' ⟨rfl, ⟨nd, rfl⟩⟩; refine ⟨_, rfl, ?_⟩))
                go_meet
                case rel => exact ⟨_, (true), (by first | rfl | (simp; done) | (simp [*]; done)), H', ⟨by have := HJ5.out; first | omega | exact Nat.le_refl _⟩, ⟨by repeat (first | (with_reducible first | exact HB.out | apply below_alloc | apply pw_below_drewN | apply below_drew1) | exact HB.out)⟩⟩
            · rw [if_neg c23] at H
              have c23b0 : (t193 != t194) = false := by simpa using c23
              (try (have c23b1 : decide (t193 = t194) = true := by simpa using c23))
              (try (have c23b2 : (t193 == t194) = true := by simpa using c23))
              clear c23
              (first | rw [c23b0] | (simp only [i64_w, i32_w]; rw [c23b0]) | skip)
              obtain ⟨y195, hy195⟩ : ∃ y_ : List Int, y_ = (([a1, a0] : List Int)) := ⟨_, rfl⟩
              replace H : ((mode_Sup.f kj5 y195).bind fun t198 => (if t198 = t192 then ((mode_Sup.f kj5 (([a0, a0] : List Int))).bind fun t202 => (if t202 = a0 then ((mode_Sup.f kj5 (([a0, a1] : List Int))).bind fun t206 => ((mode_Sup.f kj5 (([t206, a2] : List Int))).bind fun t210 => ((mode_Sup.f kj5 (([a0, a1, a2] : List Int))).bind fun t214 => (ltklaw4_ModeLaws.j1 kj5 a0 a1 a2 t192 (t210 != t214))))) else (ltklaw4_ModeLaws.j1 kj5 a0 a1 a2 t192 true))) else (ltklaw4_ModeLaws.j1 kj5 a0 a1 a2 t192 true))) = some r := by first | (rw [hy195]; with_reducible exact H) | (have H2_ := (Option.bind_some _ _).symm.trans H; rw [hy195]; with_reducible exact H2_) | (have H2_ := (Option.bind_some _ _).symm.trans H; with_reducible exact H2_) | with_reducible exact H | (rw [hy195]; exact H) | exact H
              have Ny195 := Aside0.mk hy195
              clear hy195
              replace H := Option.bind_eq_some_iff.mp H
              obtain ⟨t198, A240, H⟩ := H
              replace H : (if t198 = t192 then ((mode_Sup.f kj5 (([a0, a0] : List Int))).bind fun t202 => (if t202 = a0 then ((mode_Sup.f kj5 (([a0, a1] : List Int))).bind fun t206 => ((mode_Sup.f kj5 (([t206, a2] : List Int))).bind fun t210 => ((mode_Sup.f kj5 (([a0, a1, a2] : List Int))).bind fun t214 => (ltklaw4_ModeLaws.j1 kj5 a0 a1 a2 t192 (t210 != t214))))) else (ltklaw4_ModeLaws.j1 kj5 a0 a1 a2 t192 true))) else (ltklaw4_ModeLaws.j1 kj5 a0 a1 a2 t192 true)) = some r := H
              have A24 := Aside0.mk A240
              clear A240
              by_cases c25 : t198 = t192
              · rw [if_pos c25] at H
                have c25b0 : (t198 == t192) = true := beq_iff_eq.mpr c25
                have c25b1 : (t198 != t192) = false := bne_eq_false_iff_eq.mpr c25
                clear c25
                obtain ⟨y199, hy199⟩ : ∃ y_ : List Int, y_ = (([a0, a0] : List Int)) := ⟨_, rfl⟩
                replace H : ((mode_Sup.f kj5 y199).bind fun t202 => (if t202 = a0 then ((mode_Sup.f kj5 (([a0, a1] : List Int))).bind fun t206 => ((mode_Sup.f kj5 (([t206, a2] : List Int))).bind fun t210 => ((mode_Sup.f kj5 (([a0, a1, a2] : List Int))).bind fun t214 => (ltklaw4_ModeLaws.j1 kj5 a0 a1 a2 t192 (t210 != t214))))) else (ltklaw4_ModeLaws.j1 kj5 a0 a1 a2 t192 true))) = some r := by first | (rw [hy199]; with_reducible exact H) | (have H2_ := (Option.bind_some _ _).symm.trans H; rw [hy199]; with_reducible exact H2_) | (have H2_ := (Option.bind_some _ _).symm.trans H; with_reducible exact H2_) | with_reducible exact H | (rw [hy199]; exact H) | exact H
                have Ny199 := Aside0.mk hy199
                clear hy199
                replace H := Option.bind_eq_some_iff.mp H
                obtain ⟨t202, A260, H⟩ := H
                replace H : (if t202 = a0 then ((mode_Sup.f kj5 (([a0, a1] : List Int))).bind fun t206 => ((mode_Sup.f kj5 (([t206, a2] : List Int))).bind fun t210 => ((mode_Sup.f kj5 (([a0, a1, a2] : List Int))).bind fun t214 => (ltklaw4_ModeLaws.j1 kj5 a0 a1 a2 t192 (t210 != t214))))) else (ltklaw4_ModeLaws.j1 kj5 a0 a1 a2 t192 true)) = some r := H
                have A26 := Aside0.mk A260
                clear A260
                by_cases c27 : t202 = a0
                · rw [if_pos c27] at H
                  have c27b0 : (t202 == a0) = true := beq_iff_eq.mpr c27
                  have c27b1 : (t202 != a0) = false := bne_eq_false_iff_eq.mpr c27
                  clear c27
                  obtain ⟨y203, hy203⟩ : ∃ y_ : List Int, y_ = (([a0, a1] : List Int)) := ⟨_, rfl⟩
                  replace H : ((mode_Sup.f kj5 y203).bind fun t206 => ((mode_Sup.f kj5 (([t206, a2] : List Int))).bind fun t210 => ((mode_Sup.f kj5 (([a0, a1, a2] : List Int))).bind fun t214 => (ltklaw4_ModeLaws.j1 kj5 a0 a1 a2 t192 (t210 != t214))))) = some r := by first | (rw [hy203]; with_reducible exact H) | (have H2_ := (Option.bind_some _ _).symm.trans H; rw [hy203]; with_reducible exact H2_) | (have H2_ := (Option.bind_some _ _).symm.trans H; with_reducible exact H2_) | with_reducible exact H | (rw [hy203]; exact H) | exact H
                  have Ny203 := Aside0.mk hy203
                  clear hy203
                  replace H := Option.bind_eq_some_iff.mp H
                  obtain ⟨t206, A280, H⟩ := H
                  replace H : ((mode_Sup.f kj5 (([t206, a2] : List Int))).bind fun t210 => ((mode_Sup.f kj5 (([a0, a1, a2] : List Int))).bind fun t214 => (ltklaw4_ModeLaws.j1 kj5 a0 a1 a2 t192 (t210 != t214)))) = some r := H
                  have A28 := Aside0.mk A280
                  clear A280
                  obtain ⟨y207, hy207⟩ : ∃ y_ : List Int, y_ = (([t206, a2] : List Int)) := ⟨_, rfl⟩
                  replace H : ((mode_Sup.f kj5 y207).bind fun t210 => ((mode_Sup.f kj5 (([a0, a1, a2] : List Int))).bind fun t214 => (ltklaw4_ModeLaws.j1 kj5 a0 a1 a2 t192 (t210 != t214)))) = some r := by first | (rw [hy207]; with_reducible exact H) | (have H2_ := (Option.bind_some _ _).symm.trans H; rw [hy207]; with_reducible exact H2_) | (have H2_ := (Option.bind_some _ _).symm.trans H; with_reducible exact H2_) | with_reducible exact H | (rw [hy207]; exact H) | exact H
                  have Ny207 := Aside0.mk hy207
                  clear hy207
                  replace H := Option.bind_eq_some_iff.mp H
                  obtain ⟨t210, A290, H⟩ := H
                  replace H : ((mode_Sup.f kj5 (([a0, a1, a2] : List Int))).bind fun t214 => (ltklaw4_ModeLaws.j1 kj5 a0 a1 a2 t192 (t210 != t214))) = some r := H
                  have A29 := Aside0.mk A290
                  clear A290
                  obtain ⟨y211, hy211⟩ : ∃ y_ : List Int, y_ = (([a0, a1, a2] : List Int)) := ⟨_, rfl⟩
                  replace H : ((mode_Sup.f kj5 y211).bind fun t214 => (ltklaw4_ModeLaws.j1 kj5 a0 a1 a2 t192 (t210 != t214))) = some r := by first | (rw [hy211]; with_reducible exact H) | (have H2_ := (Option.bind_some _ _).symm.trans H; rw [hy211]; with_reducible exact H2_) | (have H2_ := (Option.bind_some _ _).symm.trans H; with_reducible exact H2_) | with_reducible exact H | (rw [hy211]; exact H) | exact H
                  have Ny211 := Aside0.mk hy211
                  clear hy211
                  replace H := Option.bind_eq_some_iff.mp H
                  obtain ⟨t214, A300, H⟩ := H
                  replace H : (ltklaw4_ModeLaws.j1 kj5 a0 a1 a2 t192 (t210 != t214)) = some r := H
                  have A30 := Aside0.mk A300
                  clear A300
                  as_aux_lemma =>
                    have H' := Aside0.mk H
                    clear H
                    go_wp2_with (first | ((with_reducible refine gate_callee (f := 32) rfl ?_); refine goesL_ (some 30) rfl rfl Try.func32 (by kernel_rfl) rfl #[.int .i64 a0, .int .i64 a1] rfl (by (try simp only [List.map_toArray, List.map_cons, List.map_nil]); first | done | rfl | (simp only [List.length_drop, List.length_take]; rfl)) ?_; (with_reducible refine (mode_Fits.calls a0 a1 t193 _ A21.out).mono ?_); rintro e w' ⟨rfl, ⟨nd, rfl⟩⟩; refine ⟨_, rfl, ?_⟩) | ((with_reducible refine gate_callee (f := 32) rfl ?_); refine goesL_ (some 33) rfl rfl Try.func32 (by kernel_rfl) rfl #[.int .i64 a1, .int .i64 a0] rfl (by (try simp only [List.map_toArray, List.map_cons, List.map_nil]); first | done | rfl | (simp only [List.length_drop, List.length_take]; rfl)) ?_; (with_reducible refine (mode_Fits.calls a1 a0 t194 _ A22.out).mono ?_); rintro e w' ⟨rfl, ⟨nd, rfl⟩⟩; refine ⟨_, rfl, ?_⟩) | ((with_reducible refine gate_dst (N := 38) rfl ?_); (try (refine gate_guard (by rfl) ?_; dsimp only)); refine Kd.R_lit (Kd.int .i64) _ 3 ?hg (N := 38) ?hd (xs := ([a1, a0] : List Int)) (inner := [.int .i64 a1, .int .i64 a0]) (ok := fun _ => True) (okp := fun _ => True) ?hr ?hp (fun _ hk => hk) trivial (Below.refl _ _) (Nat.le_refl _) (by simp) ?_; (case hd => rfl); (case hg => rfl); (case hr => first | (go_simp; done) | (go_simp; rfl)); (case hp => exact (Reps.one (show Kd.M (Kd.int .i64) _ _ _ a1 [.int .i64 a1] from rfl) (Reps.one (show Kd.M (Kd.int .i64) _ _ _ a0 [.int .i64 a0] from rfl) (Reps.none _ _)))); intro v196 w31 ho32 hb hg_ hnew_; clear hg_ hnew_; (first | rw [← Ny195.out] at ho32 | (simp only [Int.reduceToNat] at ho32; rw [← Ny195.out] at ho32)); have n0_ := Aside0.mk (Kd.R_elder' (by (with_reducible repeat (first | apply Kd.R_alloc | apply Kd.R_drewN | apply Kd.R_drew)); exact HO191.out) (Kd.R_base ho32) hb); have n1_ := Aside0.mk (Kd.R_lower (Kd.R_new' ho32 (Kd.R_lt (by (with_reducible repeat (first | apply Kd.R_alloc | apply Kd.R_drewN | apply Kd.R_drew)); exact HO191.out))) (below_size (by repeat (first | (with_reducible first | exact HB.out | apply below_alloc | apply pw_below_drewN | apply below_drew1) | exact HB.out)))); have n2_ := Aside0.mk (below_step (by repeat (first | (with_reducible first | exact HB.out | apply below_alloc | apply pw_below_drewN | apply below_drew1) | exact HB.out)) hb); clear HO191; clear HB; have HO191 := n0_; have HO197 := n1_; have HB := n2_; clear n0_ n1_ n2_; clear hb ho32; obtain ⟨Ao33, co33, eo33⟩ := Kd.R_slice HO197.out; subst eo33) | (go_at_call 30; (with_reducible refine (mode_Sup.calls kj5 _ _ y195 t198 _ ?side1 ?side2 A24.out).mono ?_); (case side1 => repeat (first | exact (Kd.R_reads' HO197.out).2.2 | (with_reducible refine Kd.C_alloc ?_ _) | (with_reducible refine Kd.C_drewN ?_ _) | (with_reducible refine Kd.C_drew ?_))); (case side2 => exact (Kd.R_reads' HO197.out).2.1); rintro e w' ⟨rfl, ⟨nd, rfl⟩⟩) | ((with_reducible refine gate_dst (N := 46) rfl ?_); (try (refine gate_guard (by rfl) ?_; dsimp only)); refine Kd.R_lit (Kd.int .i64) _ 3 ?hg (N := 46) ?hd (xs := ([a0, a0] : List Int)) (inner := [.int .i64 a0, .int .i64 a0]) (ok := fun _ => True) (okp := fun _ => True) ?hr ?hp (fun _ hk => hk) trivial (Below.refl _ _) (Nat.le_refl _) (by simp) ?_; (case hd => rfl); (case hg => rfl); (case hr => first | (go_simp; done) | (go_simp; rfl)); (case hp => exact (Reps.one (show Kd.M (Kd.int .i64) _ _ _ a0 [.int .i64 a0] from rfl) (Reps.one (show Kd.M (Kd.int .i64) _ _ _ a0 [.int .i64 a0] from rfl) (Reps.none _ _)))); intro v200 w34 ho35 hb hg_ hnew_; clear hg_ hnew_; (first | rw [← Ny199.out] at ho35 | (simp only [Int.reduceToNat] at ho35; rw [← Ny199.out] at ho35)); have n0_ := Aside0.mk (Kd.R_elder' (by (with_reducible repeat (first | apply Kd.R_alloc | apply Kd.R_drewN | apply Kd.R_drew)); exact HO191.out) (Kd.R_base ho35) hb); have n1_ := Aside0.mk (Kd.R_elder' (by (with_reducible repeat (first | apply Kd.R_alloc | apply Kd.R_drewN | apply Kd.R_drew)); exact HO197.out) (Kd.R_base ho35) hb); have n2_ := Aside0.mk (Kd.R_lower (Kd.R_new' (Kd.R_new' ho35 (Kd.R_lt (by (with_reducible repeat (first | apply Kd.R_alloc | apply Kd.R_drewN | apply Kd.R_drew)); exact HO191.out))) (Kd.R_lt (by (with_reducible repeat (first | apply Kd.R_alloc | apply Kd.R_drewN | apply Kd.R_drew)); exact HO197.out))) (below_size (by repeat (first | (with_reducible first | exact HB.out | apply below_alloc | apply pw_below_drewN | apply below_drew1) | exact HB.out)))); have n3_ := Aside0.mk (below_step (by repeat (first | (with_reducible first | exact HB.out | apply below_alloc | apply pw_below_drewN | apply below_drew1) | exact HB.out)) hb); clear HO191; clear HO197; clear HB; have HO191 := n0_; have HO197 := n1_; have HO201 := n2_; have HB := n3_; clear n0_ n1_ n2_ n3_; clear hb ho35; obtain ⟨Ao36, co36, eo36⟩ := Kd.R_slice HO201.out; subst eo36) | (go_at_call 30; (with_reducible refine (mode_Sup.calls kj5 _ _ y199 t202 _ ?side1 ?side2 A26.out).mono ?_); (case side1 => repeat (first | exact (Kd.R_reads' HO201.out).2.2 | (with_reducible refine Kd.C_alloc ?_ _) | (with_reducible refine Kd.C_drewN ?_ _) | (with_reducible refine Kd.C_drew ?_))); (case side2 => exact (Kd.R_reads' HO201.out).2.1); rintro e w' ⟨rfl, ⟨nd, rfl⟩⟩) | ((with_reducible refine gate_dst (N := 54) rfl ?_); (try (refine gate_guard (by rfl) ?_; dsimp only)); refine Kd.R_lit (Kd.int .i64) _ 3 ?hg (N := 54) ?hd (xs := ([a0, a1] : List Int)) (inner := [.int .i64 a0, .int .i64 a1]) (ok := fun _ => True) (okp := fun _ => True) ?hr ?hp (fun _ hk => hk) trivial (Below.refl _ _) (Nat.le_refl _) (by simp) ?_; (case hd => rfl); (case hg => rfl); (case hr => first | (go_simp; done) | (go_simp; rfl)); (case hp => exact (Reps.one (show Kd.M (Kd.int .i64) _ _ _ a0 [.int .i64 a0] from rfl) (Reps.one (show Kd.M (Kd.int .i64) _ _ _ a1 [.int .i64 a1] from rfl) (Reps.none _ _)))); intro v204 w37 ho38 hb hg_ hnew_; clear hg_ hnew_; (first | rw [← Ny203.out] at ho38 | (simp only [Int.reduceToNat] at ho38; rw [← Ny203.out] at ho38)); have n0_ := Aside0.mk (Kd.R_elder' (by (with_reducible repeat (first | apply Kd.R_alloc | apply Kd.R_drewN | apply Kd.R_drew)); exact HO191.out) (Kd.R_base ho38) hb); have n1_ := Aside0.mk (Kd.R_elder' (by (with_reducible repeat (first | apply Kd.R_alloc | apply Kd.R_drewN | apply Kd.R_drew)); exact HO197.out) (Kd.R_base ho38) hb); have n2_ := Aside0.mk (Kd.R_elder' (by (with_reducible repeat (first | apply Kd.R_alloc | apply Kd.R_drewN | apply Kd.R_drew)); exact HO201.out) (Kd.R_base ho38) hb); have n3_ := Aside0.mk (Kd.R_lower (Kd.R_new' (Kd.R_new' (Kd.R_new' ho38 (Kd.R_lt (by (with_reducible repeat (first | apply Kd.R_alloc | apply Kd.R_drewN | apply Kd.R_drew)); exact HO191.out))) (Kd.R_lt (by (with_reducible repeat (first | apply Kd.R_alloc | apply Kd.R_drewN | apply Kd.R_drew)); exact HO197.out))) (Kd.R_lt (by (with_reducible repeat (first | apply Kd.R_alloc | apply Kd.R_drewN | apply Kd.R_drew)); exact HO201.out))) (below_size (by repeat (first | (with_reducible first | exact HB.out | apply below_alloc | apply pw_below_drewN | apply below_drew1) | exact HB.out)))); have n4_ := Aside0.mk (below_step (by repeat (first | (with_reducible first | exact HB.out | apply below_alloc | apply pw_below_drewN | apply below_drew1) | exact HB.out)) hb); clear HO191; clear HO197; clear HO201; clear HB; have HO191 := n0_; have HO197 := n1_; have HO201 := n2_; have HO205 := n3_; have HB := n4_; clear n0_ n1_ n2_ n3_ n4_; clear hb ho38; obtain ⟨Ao39, co39, eo39⟩ := Kd.R_slice HO205.out; subst eo39) | (go_at_call 30; (with_reducible refine (mode_Sup.calls kj5 _ _ y203 t206 _ ?side1 ?side2 A28.out).mono ?_); (case side1 => repeat (first | exact (Kd.R_reads' HO205.out).2.2 | (with_reducible refine Kd.C_alloc ?_ _) | (with_reducible refine Kd.C_drewN ?_ _) | (with_reducible refine Kd.C_drew ?_))); (case side2 => exact (Kd.R_reads' HO205.out).2.1); rintro e w' ⟨rfl, ⟨nd, rfl⟩⟩) | ((with_reducible refine gate_dst (N := 57) rfl ?_); (try (refine gate_guard (by rfl) ?_; dsimp only)); refine Kd.R_lit (Kd.int .i64) _ 3 ?hg (N := 57) ?hd (xs := ([t206, a2] : List Int)) (inner := [.int .i64 t206, .int .i64 a2]) (ok := fun _ => True) (okp := fun _ => True) ?hr ?hp (fun _ hk => hk) trivial (Below.refl _ _) (Nat.le_refl _) (by simp) ?_; (case hd => rfl); (case hg => rfl); (case hr => first | (go_simp; done) | (go_simp; rfl)); (case hp => exact (Reps.one (show Kd.M (Kd.int .i64) _ _ _ t206 [.int .i64 t206] from rfl) (Reps.one (show Kd.M (Kd.int .i64) _ _ _ a2 [.int .i64 a2] from rfl) (Reps.none _ _)))); intro v208 w40 ho41 hb hg_ hnew_; clear hg_ hnew_; (first | rw [← Ny207.out] at ho41 | (simp only [Int.reduceToNat] at ho41; rw [← Ny207.out] at ho41)); have n0_ := Aside0.mk (Kd.R_elder' (by (with_reducible repeat (first | apply Kd.R_alloc | apply Kd.R_drewN | apply Kd.R_drew)); exact HO191.out) (Kd.R_base ho41) hb); have n1_ := Aside0.mk (Kd.R_elder' (by (with_reducible repeat (first | apply Kd.R_alloc | apply Kd.R_drewN | apply Kd.R_drew)); exact HO197.out) (Kd.R_base ho41) hb); have n2_ := Aside0.mk (Kd.R_elder' (by (with_reducible repeat (first | apply Kd.R_alloc | apply Kd.R_drewN | apply Kd.R_drew)); exact HO201.out) (Kd.R_base ho41) hb); have n3_ := Aside0.mk (Kd.R_elder' (by (with_reducible repeat (first | apply Kd.R_alloc | apply Kd.R_drewN | apply Kd.R_drew)); exact HO205.out) (Kd.R_base ho41) hb); have n4_ := Aside0.mk (Kd.R_lower (Kd.R_new' (Kd.R_new' (Kd.R_new' (Kd.R_new' ho41 (Kd.R_lt (by (with_reducible repeat (first | apply Kd.R_alloc | apply Kd.R_drewN | apply Kd.R_drew)); exact HO191.out))) (Kd.R_lt (by (with_reducible repeat (first | apply Kd.R_alloc | apply Kd.R_drewN | apply Kd.R_drew)); exact HO197.out))) (Kd.R_lt (by (with_reducible repeat (first | apply Kd.R_alloc | apply Kd.R_drewN | apply Kd.R_drew)); exact HO201.out))) (Kd.R_lt (by (with_reducible repeat (first | apply Kd.R_alloc | apply Kd.R_drewN | apply Kd.R_drew)); exact HO205.out))) (below_size (by repeat (first | (with_reducible first | exact HB.out | apply below_alloc | apply pw_below_drewN | apply below_drew1) | exact HB.out)))); have n5_ := Aside0.mk (below_step (by repeat (first | (with_reducible first | exact HB.out | apply below_alloc | apply pw_below_drewN | apply below_drew1) | exact HB.out)) hb); clear HO191; clear HO197; clear HO201; clear HO205; clear HB; have HO191 := n0_; have HO197 := n1_; have HO201 := n2_; have HO205 := n3_; have HO209 := n4_; have HB := n5_; clear n0_ n1_ n2_ n3_ n4_ n5_; clear hb ho41; obtain ⟨Ao42, co42, eo42⟩ := Kd.R_slice HO209.out; subst eo42) | (go_at_call 30; (with_reducible refine (mode_Sup.calls kj5 _ _ y207 t210 _ ?side1 ?side2 A29.out).mono ?_); (case side1 => repeat (first | exact (Kd.R_reads' HO209.out).2.2 | (with_reducible refine Kd.C_alloc ?_ _) | (with_reducible refine Kd.C_drewN ?_ _) | (with_reducible refine Kd.C_drew ?_))); (case side2 => exact (Kd.R_reads' HO209.out).2.1); rintro e w' ⟨rfl, ⟨nd, rfl⟩⟩) | ((with_reducible refine gate_dst (N := 62) rfl ?_); (try (refine gate_guard (by rfl) ?_; dsimp only)); refine Kd.R_lit (Kd.int .i64) _ 3 ?hg (N := 62) ?hd (xs := ([a0, a1, a2] : List Int)) (inner := [.int .i64 a0, .int .i64 a1, .int .i64 a2]) (ok := fun _ => True) (okp := fun _ => True) ?hr ?hp (fun _ hk => hk) trivial (Below.refl _ _) (Nat.le_refl _) (by simp) ?_; (case hd => rfl); (case hg => rfl); (case hr => first | (go_simp; done) | (go_simp; rfl)); (case hp => exact (Reps.one (show Kd.M (Kd.int .i64) _ _ _ a0 [.int .i64 a0] from rfl) (Reps.one (show Kd.M (Kd.int .i64) _ _ _ a1 [.int .i64 a1] from rfl) (Reps.one (show Kd.M (Kd.int .i64) _ _ _ a2 [.int .i64 a2] from rfl) (Reps.none _ _))))); intro v212 w43 ho44 hb hg_ hnew_; clear hg_ hnew_; (first | rw [← Ny211.out] at ho44 | (simp only [Int.reduceToNat] at ho44; rw [← Ny211.out] at ho44)); have n0_ := Aside0.mk (Kd.R_elder' (by (with_reducible repeat (first | apply Kd.R_alloc | apply Kd.R_drewN | apply Kd.R_drew)); exact HO191.out) (Kd.R_base ho44) hb); have n1_ := Aside0.mk (Kd.R_elder' (by (with_reducible repeat (first | apply Kd.R_alloc | apply Kd.R_drewN | apply Kd.R_drew)); exact HO197.out) (Kd.R_base ho44) hb); have n2_ := Aside0.mk (Kd.R_elder' (by (with_reducible repeat (first | apply Kd.R_alloc | apply Kd.R_drewN | apply Kd.R_drew)); exact HO201.out) (Kd.R_base ho44) hb); have n3_ := Aside0.mk (Kd.R_elder' (by (with_reducible repeat (first | apply Kd.R_alloc | apply Kd.R_drewN | apply Kd.R_drew)); exact HO205.out) (Kd.R_base ho44) hb); have n4_ := Aside0.mk (Kd.R_elder' (by (with_reducible repeat (first | apply Kd.R_alloc | apply Kd.R_drewN | apply Kd.R_drew)); exact HO209.out) (Kd.R_base ho44) hb); have n5_ := Aside0.mk (Kd.R_lower (Kd.R_new' (Kd.R_new' (Kd.R_new' (Kd.R_new' (Kd.R_new' ho44 (Kd.R_lt (by (with_reducible repeat (first | apply Kd.R_alloc | apply Kd.R_drewN | apply Kd.R_drew)); exact HO191.out))) (Kd.R_lt (by (with_reducible repeat (first | apply Kd.R_alloc | apply Kd.R_drewN | apply Kd.R_drew)); exact HO197.out))) (Kd.R_lt (by (with_reducible repeat (first | apply Kd.R_alloc | apply Kd.R_drewN | apply Kd.R_drew)); exact HO201.out))) (Kd.R_lt (by (with_reducible repeat (first | apply Kd.R_alloc | apply Kd.R_drewN | apply Kd.R_drew)); exact HO205.out))) (Kd.R_lt (by (with_reducible repeat (first | apply Kd.R_alloc | apply Kd.R_drewN | apply Kd.R_drew)); exact HO209.out))) (below_size (by repeat (first | (with_reducible first | exact HB.out | apply below_alloc | apply pw_below_drewN | apply below_drew1) | exact HB.out)))); have n6_ := Aside0.mk (below_step (by repeat (first | (with_reducible first | exact HB.out | apply below_alloc | apply pw_below_drewN | apply below_drew1) | exact HB.out)) hb); clear HO191; clear HO197; clear HO201; clear HO205; clear HO209; clear HB; have HO191 := n0_; have HO197 := n1_; have HO201 := n2_; have HO205 := n3_; have HO209 := n4_; have HO213 := n5_; have HB := n6_; clear n0_ n1_ n2_ n3_ n4_ n5_ n6_; clear hb ho44; obtain ⟨Ao45, co45, eo45⟩ := Kd.R_slice HO213.out; subst eo45) | (go_at_call 30; (with_reducible refine (mode_Sup.calls kj5 _ _ y211 t214 _ ?side1 ?side2 A30.out).mono ?_); (case side1 => repeat (first | exact (Kd.R_reads' HO213.out).2.2 | (with_reducible refine Kd.C_alloc ?_ _) | (with_reducible refine Kd.C_drewN ?_ _) | (with_reducible refine Kd.C_drew ?_))); (case side2 => exact (Kd.R_reads' HO213.out).2.1); rintro e w' ⟨rfl, ⟨nd, rfl⟩⟩))
                    go_meet
                    case rel => exact ⟨_, ((t210 != t214)), (by first | rfl | (simp; done) | (simp [*]; done)), H', ⟨by have := HJ5.out; first | omega | exact Nat.le_refl _⟩, ⟨by repeat (first | (with_reducible first | exact HB.out | apply below_alloc | apply pw_below_drewN | apply below_drew1) | exact HB.out)⟩⟩
                · rw [if_neg c27] at H
                  have c27b0 : (t202 == a0) = false := beq_eq_false_iff_ne.mpr c27
                  have c27b1 : (t202 != a0) = true := bne_iff_ne.mpr c27
                  as_aux_lemma =>
                    have H' := Aside0.mk H
                    clear H
                    go_wp2_with (first | ((with_reducible refine gate_callee (f := 32) rfl ?_); refine goesL_ (some 30) rfl rfl Try.func32 (by kernel_rfl) rfl #[.int .i64 a0, .int .i64 a1] rfl (by (try simp only [List.map_toArray, List.map_cons, List.map_nil]); first | done | rfl | (simp only [List.length_drop, List.length_take]; rfl)) ?_; (with_reducible refine (mode_Fits.calls a0 a1 t193 _ A21.out).mono ?_); rintro e w' ⟨rfl, ⟨nd, rfl⟩⟩; refine ⟨_, rfl, ?_⟩) | ((with_reducible refine gate_callee (f := 32) rfl ?_); refine goesL_ (some 33) rfl rfl Try.func32 (by kernel_rfl) rfl #[.int .i64 a1, .int .i64 a0] rfl (by (try simp only [List.map_toArray, List.map_cons, List.map_nil]); first | done | rfl | (simp only [List.length_drop, List.length_take]; rfl)) ?_; (with_reducible refine (mode_Fits.calls a1 a0 t194 _ A22.out).mono ?_); rintro e w' ⟨rfl, ⟨nd, rfl⟩⟩; refine ⟨_, rfl, ?_⟩) | ((with_reducible refine gate_dst (N := 38) rfl ?_); (try (refine gate_guard (by rfl) ?_; dsimp only)); refine Kd.R_lit (Kd.int .i64) _ 3 ?hg (N := 38) ?hd (xs := ([a1, a0] : List Int)) (inner := [.int .i64 a1, .int .i64 a0]) (ok := fun _ => True) (okp := fun _ => True) ?hr ?hp (fun _ hk => hk) trivial (Below.refl _ _) (Nat.le_refl _) (by simp) ?_; (case hd => rfl); (case hg => rfl); (case hr => first | (go_simp; done) | (go_simp; rfl)); (case hp => exact (Reps.one (show Kd.M (Kd.int .i64) _ _ _ a1 [.int .i64 a1] from rfl) (Reps.one (show Kd.M (Kd.int .i64) _ _ _ a0 [.int .i64 a0] from rfl) (Reps.none _ _)))); intro v196 w46 ho47 hb hg_ hnew_; clear hg_ hnew_; (first | rw [← Ny195.out] at ho47 | (simp only [Int.reduceToNat] at ho47; rw [← Ny195.out] at ho47)); have n0_ := Aside0.mk (Kd.R_elder' (by (with_reducible repeat (first | apply Kd.R_alloc | apply Kd.R_drewN | apply Kd.R_drew)); exact HO191.out) (Kd.R_base ho47) hb); have n1_ := Aside0.mk (Kd.R_lower (Kd.R_new' ho47 (Kd.R_lt (by (with_reducible repeat (first | apply Kd.R_alloc | apply Kd.R_drewN | apply Kd.R_drew)); exact HO191.out))) (below_size (by repeat (first | (with_reducible first | exact HB.out | apply below_alloc | apply pw_below_drewN | apply below_drew1) | exact HB.out)))); have n2_ := Aside0.mk (below_step (by repeat (first | (with_reducible first | exact HB.out | apply below_alloc | apply pw_below_drewN | apply below_drew1) | exact HB.out)) hb); clear HO191; clear HB; have HO191 := n0_; have HO197 := n1_; have HB := n2_; clear n0_ n1_ n2_; clear hb ho47; obtain ⟨Ao48, co48, eo48⟩ := Kd.R_slice HO197.out; subst eo48) | (go_at_call 30; (with_reducible refine (mode_Sup.calls kj5 _ _ y195 t198 _ ?side1 ?side2 A24.out).mono ?_); (case side1 => repeat (first | exact (Kd.R_reads' HO197.out).2.2 | (with_reducible refine Kd.C_alloc ?_ _) | (with_reducible refine Kd.C_drewN ?_ _) | (with_reducible refine Kd.C_drew ?_))); (case side2 => exact (Kd.R_reads' HO197.out).2.1); rintro e w' ⟨rfl, ⟨nd, rfl⟩⟩) | ((with_reducible refine gate_dst (N := 46) rfl ?_); (try (refine gate_guard (by rfl) ?_; dsimp only)); refine Kd.R_lit (Kd.int .i64) _ 3 ?hg (N := 46) ?hd (xs := ([a0, a0] : List Int)) (inner := [.int .i64 a0, .int .i64 a0]) (ok := fun _ => True) (okp := fun _ => True) ?hr ?hp (fun _ hk => hk) trivial (Below.refl _ _) (Nat.le_refl _) (by simp) ?_; (case hd => rfl); (case hg => rfl); (case hr => first | (go_simp; done) | (go_simp; rfl)); (case hp => exact (Reps.one (show Kd.M (Kd.int .i64) _ _ _ a0 [.int .i64 a0] from rfl) (Reps.one (show Kd.M (Kd.int .i64) _ _ _ a0 [.int .i64 a0] from rfl) (Reps.none _ _)))); intro v200 w49 ho50 hb hg_ hnew_; clear hg_ hnew_; (first | rw [← Ny199.out] at ho50 | (simp only [Int.reduceToNat] at ho50; rw [← Ny199.out] at ho50)); have n0_ := Aside0.mk (Kd.R_elder' (by (with_reducible repeat (first | apply Kd.R_alloc | apply Kd.R_drewN | apply Kd.R_drew)); exact HO191.out) (Kd.R_base ho50) hb); have n1_ := Aside0.mk (Kd.R_elder' (by (with_reducible repeat (first | apply Kd.R_alloc | apply Kd.R_drewN | apply Kd.R_drew)); exact HO197.out) (Kd.R_base ho50) hb); have n2_ := Aside0.mk (Kd.R_lower (Kd.R_new' (Kd.R_new' ho50 (Kd.R_lt (by (with_reducible repeat (first | apply Kd.R_alloc | apply Kd.R_drewN | apply Kd.R_drew)); exact HO191.out))) (Kd.R_lt (by (with_reducible repeat (first | apply Kd.R_alloc | apply Kd.R_drewN | apply Kd.R_drew)); exact HO197.out))) (below_size (by repeat (first | (with_reducible first | exact HB.out | apply below_alloc | apply pw_below_drewN | apply below_drew1) | exact HB.out)))); have n3_ := Aside0.mk (below_step (by repeat (first | (with_reducible first | exact HB.out | apply below_alloc | apply pw_below_drewN | apply below_drew1) | exact HB.out)) hb); clear HO191; clear HO197; clear HB; have HO191 := n0_; have HO197 := n1_; have HO201 := n2_; have HB := n3_; clear n0_ n1_ n2_ n3_; clear hb ho50; obtain ⟨Ao51, co51, eo51⟩ := Kd.R_slice HO201.out; subst eo51) | (go_at_call 30; (with_reducible refine (mode_Sup.calls kj5 _ _ y199 t202 _ ?side1 ?side2 A26.out).mono ?_); (case side1 => repeat (first | exact (Kd.R_reads' HO201.out).2.2 | (with_reducible refine Kd.C_alloc ?_ _) | (with_reducible refine Kd.C_drewN ?_ _) | (with_reducible refine Kd.C_drew ?_))); (case side2 => exact (Kd.R_reads' HO201.out).2.1); rintro e w' ⟨rfl, ⟨nd, rfl⟩⟩))
                    go_meet
                    case rel => exact ⟨_, (true), (by first | rfl | (simp; done) | (simp [*]; done)), H', ⟨by have := HJ5.out; first | omega | exact Nat.le_refl _⟩, ⟨by repeat (first | (with_reducible first | exact HB.out | apply below_alloc | apply pw_below_drewN | apply below_drew1) | exact HB.out)⟩⟩
              · rw [if_neg c25] at H
                have c25b0 : (t198 == t192) = false := beq_eq_false_iff_ne.mpr c25
                have c25b1 : (t198 != t192) = true := bne_iff_ne.mpr c25
                as_aux_lemma =>
                  have H' := Aside0.mk H
                  clear H
                  go_wp2_with (first | ((with_reducible refine gate_callee (f := 32) rfl ?_); refine goesL_ (some 30) rfl rfl Try.func32 (by kernel_rfl) rfl #[.int .i64 a0, .int .i64 a1] rfl (by (try simp only [List.map_toArray, List.map_cons, List.map_nil]); first | done | rfl | (simp only [List.length_drop, List.length_take]; rfl)) ?_; (with_reducible refine (mode_Fits.calls a0 a1 t193 _ A21.out).mono ?_); rintro e w' ⟨rfl, ⟨nd, rfl⟩⟩; refine ⟨_, rfl, ?_⟩) | ((with_reducible refine gate_callee (f := 32) rfl ?_); refine goesL_ (some 33) rfl rfl Try.func32 (by kernel_rfl) rfl #[.int .i64 a1, .int .i64 a0] rfl (by (try simp only [List.map_toArray, List.map_cons, List.map_nil]); first | done | rfl | (simp only [List.length_drop, List.length_take]; rfl)) ?_; (with_reducible refine (mode_Fits.calls a1 a0 t194 _ A22.out).mono ?_); rintro e w' ⟨rfl, ⟨nd, rfl⟩⟩; refine ⟨_, rfl, ?_⟩) | ((with_reducible refine gate_dst (N := 38) rfl ?_); (try (refine gate_guard (by rfl) ?_; dsimp only)); refine Kd.R_lit (Kd.int .i64) _ 3 ?hg (N := 38) ?hd (xs := ([a1, a0] : List Int)) (inner := [.int .i64 a1, .int .i64 a0]) (ok := fun _ => True) (okp := fun _ => True) ?hr ?hp (fun _ hk => hk) trivial (Below.refl _ _) (Nat.le_refl _) (by simp) ?_; (case hd => rfl); (case hg => rfl); (case hr => first | (go_simp; done) | (go_simp; rfl)); (case hp => exact (Reps.one (show Kd.M (Kd.int .i64) _ _ _ a1 [.int .i64 a1] from rfl) (Reps.one (show Kd.M (Kd.int .i64) _ _ _ a0 [.int .i64 a0] from rfl) (Reps.none _ _)))); intro v196 w52 ho53 hb hg_ hnew_; clear hg_ hnew_; (first | rw [← Ny195.out] at ho53 | (simp only [Int.reduceToNat] at ho53; rw [← Ny195.out] at ho53)); have n0_ := Aside0.mk (Kd.R_elder' (by (with_reducible repeat (first | apply Kd.R_alloc | apply Kd.R_drewN | apply Kd.R_drew)); exact HO191.out) (Kd.R_base ho53) hb); have n1_ := Aside0.mk (Kd.R_lower (Kd.R_new' ho53 (Kd.R_lt (by (with_reducible repeat (first | apply Kd.R_alloc | apply Kd.R_drewN | apply Kd.R_drew)); exact HO191.out))) (below_size (by repeat (first | (with_reducible first | exact HB.out | apply below_alloc | apply pw_below_drewN | apply below_drew1) | exact HB.out)))); have n2_ := Aside0.mk (below_step (by repeat (first | (with_reducible first | exact HB.out | apply below_alloc | apply pw_below_drewN | apply below_drew1) | exact HB.out)) hb); clear HO191; clear HB; have HO191 := n0_; have HO197 := n1_; have HB := n2_; clear n0_ n1_ n2_; clear hb ho53; obtain ⟨Ao54, co54, eo54⟩ := Kd.R_slice HO197.out; subst eo54) | (go_at_call 30; (with_reducible refine (mode_Sup.calls kj5 _ _ y195 t198 _ ?side1 ?side2 A24.out).mono ?_); (case side1 => repeat (first | exact (Kd.R_reads' HO197.out).2.2 | (with_reducible refine Kd.C_alloc ?_ _) | (with_reducible refine Kd.C_drewN ?_ _) | (with_reducible refine Kd.C_drew ?_))); (case side2 => exact (Kd.R_reads' HO197.out).2.1); rintro e w' ⟨rfl, ⟨nd, rfl⟩⟩))
                  go_meet
                  case rel => exact ⟨_, (true), (by first | rfl | (simp; done) | (simp [*]; done)), H', ⟨by have := HJ5.out; first | omega | exact Nat.le_refl _⟩, ⟨by repeat (first | (with_reducible first | exact HB.out | apply below_alloc | apply pw_below_drewN | apply below_drew1) | exact HB.out)⟩⟩
          case rest => as_aux_lemma =>
            clear HC17
            try clear c1
            try clear c2
            try clear p2
            try clear c3
            try clear c5
            try clear c9
            try clear c11
            try clear c13
            try clear c23
            try clear c23b0
            try clear c23b1
            try clear c23b2
            try clear c25
            try clear c25b0
            try clear c25b1
            try clear c27
            try clear c27b0
            try clear c27b1
            try clear c28
            try clear c29
            try clear c30
            try clear c32
            try clear p2
            obtain ⟨kq, x65_16, rfl, HA, HJ16, HB⟩ := hcut
            cases kq with
            | zero => exact absurd HA.out (by simp [ltklaw4_ModeLaws.j1])
            | succ kj16 =>
              have H := HA.out
              clear HA
              simp only [ltklaw4_ModeLaws.j1] at H
              by_cases c55 : x65_16 = true
              · subst c55
                have H1 : (some false) = some r := by rw [if_pos rfl] at H; exact H
                clear H
                have H := H1
                clear H1
                as_aux_lemma =>
                  obtain rfl := Option.some.inj H
                  go_wp2
                  go_ret
                  exact ⟨by first | rfl | (simp [errW_none, errW_some] <;> rfl) | (simp [*, errW_none, errW_some] <;> rfl), by repeat (first | (with_reducible first | exact HB.out | apply below_alloc | apply pw_below_drewN | apply below_drew1) | exact HB.out)⟩
              · replace c55 := Bool.eq_false_iff.mpr c55
                subst c55
                have H1 : ((mode_Fits.f a2 t192).bind fun t215 => (if t215 = true then ((mode_Fits.f a2 a0).bind fun t216 => (if t216 = true then ((mode_Fits.f a2 a1).bind fun t217 => (ltklaw4_ModeLaws.j2 kj16 a0 a1 a2 t192 (!t217))) else (ltklaw4_ModeLaws.j2 kj16 a0 a1 a2 t192 true))) else (ltklaw4_ModeLaws.j2 kj16 a0 a1 a2 t192 false))) = some r := by rw [if_neg (show ¬ (false = true) by decide)] at H; exact H
                clear H
                have H := H1
                clear H1
                have HC56 := Aside0.mk H
                clear H
                go_upto_region 8 with (fail)
                go_cut [80] (fun v80 wc => ∃ (kq : Nat) (x80_55 : Bool), v80 = .bool x80_55 ∧ Aside0 (ltklaw4_ModeLaws.j2 kq a0 a1 a2 t192 x80_55 = some r) ∧ Aside0 (kq ≤ kj16) ∧ Aside0 (Below w.heap.size w wc))
                case first => as_aux_lemma =>
                  have H := HC56.out
                  clear HC56
                  replace H := Option.bind_eq_some_iff.mp H
                  obtain ⟨t215, A570, H⟩ := H
                  replace H : (if t215 = true then ((mode_Fits.f a2 a0).bind fun t216 => (if t216 = true then ((mode_Fits.f a2 a1).bind fun t217 => (ltklaw4_ModeLaws.j2 kj16 a0 a1 a2 t192 (!t217))) else (ltklaw4_ModeLaws.j2 kj16 a0 a1 a2 t192 true))) else (ltklaw4_ModeLaws.j2 kj16 a0 a1 a2 t192 false)) = some r := H
                  have A57 := Aside0.mk A570
                  clear A570
                  by_cases c58 : t215 = true
                  · subst c58
                    have H1 : ((mode_Fits.f a2 a0).bind fun t216 => (if t216 = true then ((mode_Fits.f a2 a1).bind fun t217 => (ltklaw4_ModeLaws.j2 kj16 a0 a1 a2 t192 (!t217))) else (ltklaw4_ModeLaws.j2 kj16 a0 a1 a2 t192 true))) = some r := by rw [if_pos rfl] at H; exact H
                    clear H
                    have H := H1
                    clear H1
                    replace H := Option.bind_eq_some_iff.mp H
                    obtain ⟨t216, A590, H⟩ := H
                    replace H : (if t216 = true then ((mode_Fits.f a2 a1).bind fun t217 => (ltklaw4_ModeLaws.j2 kj16 a0 a1 a2 t192 (!t217))) else (ltklaw4_ModeLaws.j2 kj16 a0 a1 a2 t192 true)) = some r := H
                    have A59 := Aside0.mk A590
                    clear A590
                    by_cases c60 : t216 = true
                    · subst c60
                      have H1 : ((mode_Fits.f a2 a1).bind fun t217 => (ltklaw4_ModeLaws.j2 kj16 a0 a1 a2 t192 (!t217))) = some r := by rw [if_pos rfl] at H; exact H
                      clear H
                      have H := H1
                      clear H1
                      replace H := Option.bind_eq_some_iff.mp H
                      obtain ⟨t217, A610, H⟩ := H
                      replace H : (ltklaw4_ModeLaws.j2 kj16 a0 a1 a2 t192 (!t217)) = some r := H
                      have A61 := Aside0.mk A610
                      clear A610
                      as_aux_lemma =>
                        have H' := Aside0.mk H
                        clear H
                        go_wp2_with (first | ((with_reducible refine gate_callee (f := 32) rfl ?_); refine goesL_ (some 68) rfl rfl Try.func32 (by kernel_rfl) rfl #[.int .i64 a2, .int .i64 t192] rfl (by (try simp only [List.map_toArray, List.map_cons, List.map_nil]); first | done | rfl | (simp only [List.length_drop, List.length_take]; rfl)) ?_; (with_reducible refine (mode_Fits.calls a2 t192 true _ A57.out).mono ?_); rintro e w' ⟨rfl, ⟨nd, rfl⟩⟩; refine ⟨_, rfl, ?_⟩) | (go_at_call 32; (with_reducible refine (mode_Fits.calls a2 a0 true _ A59.out).mono ?_); rintro e w' ⟨rfl, ⟨nd, rfl⟩⟩) | (go_at_call 32; (with_reducible refine (mode_Fits.calls a2 a1 t217 _ A61.out).mono ?_); rintro e w' ⟨rfl, ⟨nd, rfl⟩⟩))
                        go_meet
                        case rel => exact ⟨_, (!t217), (by first | rfl | (simp; done) | (simp [*]; done)), H', ⟨by have := HJ5.out; have := HJ16.out; first | omega | exact Nat.le_refl _⟩, ⟨by repeat (first | (with_reducible first | exact HB.out | apply below_alloc | apply pw_below_drewN | apply below_drew1) | exact HB.out)⟩⟩
                    · replace c60 := Bool.eq_false_iff.mpr c60
                      subst c60
                      have H1 : (ltklaw4_ModeLaws.j2 kj16 a0 a1 a2 t192 true) = some r := by rw [if_neg (show ¬ (false = true) by decide)] at H; exact H
                      clear H
                      have H := H1
                      clear H1
                      as_aux_lemma =>
                        have H' := Aside0.mk H
                        clear H
                        go_wp2_with (first | ((with_reducible refine gate_callee (f := 32) rfl ?_); refine goesL_ (some 68) rfl rfl Try.func32 (by kernel_rfl) rfl #[.int .i64 a2, .int .i64 t192] rfl (by (try simp only [List.map_toArray, List.map_cons, List.map_nil]); first | done | rfl | (simp only [List.length_drop, List.length_take]; rfl)) ?_; (with_reducible refine (mode_Fits.calls a2 t192 true _ A57.out).mono ?_); rintro e w' ⟨rfl, ⟨nd, rfl⟩⟩; refine ⟨_, rfl, ?_⟩) | (go_at_call 32; (with_reducible refine (mode_Fits.calls a2 a0 false _ A59.out).mono ?_); rintro e w' ⟨rfl, ⟨nd, rfl⟩⟩))
                        go_meet
                        case rel => exact ⟨_, (true), (by first | rfl | (simp; done) | (simp [*]; done)), H', ⟨by have := HJ5.out; have := HJ16.out; first | omega | exact Nat.le_refl _⟩, ⟨by repeat (first | (with_reducible first | exact HB.out | apply below_alloc | apply pw_below_drewN | apply below_drew1) | exact HB.out)⟩⟩
                  · replace c58 := Bool.eq_false_iff.mpr c58
                    subst c58
                    have H1 : (ltklaw4_ModeLaws.j2 kj16 a0 a1 a2 t192 false) = some r := by rw [if_neg (show ¬ (false = true) by decide)] at H; exact H
                    clear H
                    have H := H1
                    clear H1
                    as_aux_lemma =>
                      have H' := Aside0.mk H
                      clear H
                      go_wp2_with (first | ((with_reducible refine gate_callee (f := 32) rfl ?_); refine goesL_ (some 68) rfl rfl Try.func32 (by kernel_rfl) rfl #[.int .i64 a2, .int .i64 t192] rfl (by (try simp only [List.map_toArray, List.map_cons, List.map_nil]); first | done | rfl | (simp only [List.length_drop, List.length_take]; rfl)) ?_; (with_reducible refine (mode_Fits.calls a2 t192 false _ A57.out).mono ?_); rintro e w' ⟨rfl, ⟨nd, rfl⟩⟩; refine ⟨_, rfl, ?_⟩))
                      go_meet
                      case rel => exact ⟨_, (false), (by first | rfl | (simp; done) | (simp [*]; done)), H', ⟨by have := HJ5.out; have := HJ16.out; first | omega | exact Nat.le_refl _⟩, ⟨by repeat (first | (with_reducible first | exact HB.out | apply below_alloc | apply pw_below_drewN | apply below_drew1) | exact HB.out)⟩⟩
                case rest => as_aux_lemma =>
                  clear HC56
                  try clear c1
                  try clear c2
                  try clear p2
                  try clear c3
                  try clear c5
                  try clear c6
                  try clear c9
                  try clear c11
                  try clear c13
                  try clear c23
                  try clear c23b0
                  try clear c23b1
                  try clear c23b2
                  try clear c25
                  try clear c25b0
                  try clear c25b1
                  try clear c27
                  try clear c27b0
                  try clear c27b1
                  try clear c28
                  try clear c29
                  try clear c30
                  try clear c32
                  try clear c55
                  try clear c58
                  try clear c60
                  try clear p2
                  obtain ⟨kq, x80_55, rfl, HA, HJ55, HB⟩ := hcut
                  cases kq with
                  | zero => exact absurd HA.out (by simp [ltklaw4_ModeLaws.j2])
                  | succ kj55 =>
                    have H := HA.out
                    clear HA
                    simp only [ltklaw4_ModeLaws.j2] at H
                    by_cases c62 : x80_55 = true
                    · subst c62
                      have H1 : (some false) = some r := by rw [if_pos rfl] at H; exact H
                      clear H
                      have H := H1
                      clear H1
                      as_aux_lemma =>
                        obtain rfl := Option.some.inj H
                        go_wp2
                        go_ret
                        exact ⟨by first | rfl | (simp [errW_none, errW_some] <;> rfl) | (simp [*, errW_none, errW_some] <;> rfl), by repeat (first | (with_reducible first | exact HB.out | apply below_alloc | apply pw_below_drewN | apply below_drew1) | exact HB.out)⟩
                    · replace c62 := Bool.eq_false_iff.mpr c62
                      subst c62
                      have H1 : ((mode_Covers.f kj55 t192 a0).bind fun t218 => (if t218 = true then ((mode_Covers.f kj55 t192 a1).bind fun t219 => (if t219 = true then ((mode_Covers.f kj55 a2 a0).bind fun t220 => (if t220 = true then ((mode_Covers.f kj55 a2 a1).bind fun t221 => (if t221 = true then ((mode_Covers.f kj55 a2 t192).bind fun t222 => (ltklaw4_ModeLaws.j3 kj55 a0 a1 (!t222))) else (ltklaw4_ModeLaws.j3 kj55 a0 a1 false))) else (ltklaw4_ModeLaws.j3 kj55 a0 a1 false))) else (ltklaw4_ModeLaws.j3 kj55 a0 a1 true))) else (ltklaw4_ModeLaws.j3 kj55 a0 a1 true))) = some r := by rw [if_neg (show ¬ (false = true) by decide)] at H; exact H
                      clear H
                      have H := H1
                      clear H1
                      have HC63 := Aside0.mk H
                      clear H
                      go_upto_region 10 with (fail)
                      go_cut [106] (fun v106 wc => ∃ (kq : Nat) (x106_62 : Bool), v106 = .bool x106_62 ∧ Aside0 (ltklaw4_ModeLaws.j3 kq a0 a1 x106_62 = some r) ∧ Aside0 (kq ≤ kj55) ∧ Aside0 (Below w.heap.size w wc))
                      case first => as_aux_lemma =>
                        have H := HC63.out
                        clear HC63
                        replace H := Option.bind_eq_some_iff.mp H
                        obtain ⟨t218, A640, H⟩ := H
                        replace H : (if t218 = true then ((mode_Covers.f kj55 t192 a1).bind fun t219 => (if t219 = true then ((mode_Covers.f kj55 a2 a0).bind fun t220 => (if t220 = true then ((mode_Covers.f kj55 a2 a1).bind fun t221 => (if t221 = true then ((mode_Covers.f kj55 a2 t192).bind fun t222 => (ltklaw4_ModeLaws.j3 kj55 a0 a1 (!t222))) else (ltklaw4_ModeLaws.j3 kj55 a0 a1 false))) else (ltklaw4_ModeLaws.j3 kj55 a0 a1 false))) else (ltklaw4_ModeLaws.j3 kj55 a0 a1 true))) else (ltklaw4_ModeLaws.j3 kj55 a0 a1 true)) = some r := H
                        have A64 := Aside0.mk A640
                        clear A640
                        by_cases c65 : t218 = true
                        · subst c65
                          have H1 : ((mode_Covers.f kj55 t192 a1).bind fun t219 => (if t219 = true then ((mode_Covers.f kj55 a2 a0).bind fun t220 => (if t220 = true then ((mode_Covers.f kj55 a2 a1).bind fun t221 => (if t221 = true then ((mode_Covers.f kj55 a2 t192).bind fun t222 => (ltklaw4_ModeLaws.j3 kj55 a0 a1 (!t222))) else (ltklaw4_ModeLaws.j3 kj55 a0 a1 false))) else (ltklaw4_ModeLaws.j3 kj55 a0 a1 false))) else (ltklaw4_ModeLaws.j3 kj55 a0 a1 true))) = some r := by rw [if_pos rfl] at H; exact H
                          clear H
                          have H := H1
                          clear H1
                          replace H := Option.bind_eq_some_iff.mp H
                          obtain ⟨t219, A660, H⟩ := H
                          replace H : (if t219 = true then ((mode_Covers.f kj55 a2 a0).bind fun t220 => (if t220 = true then ((mode_Covers.f kj55 a2 a1).bind fun t221 => (if t221 = true then ((mode_Covers.f kj55 a2 t192).bind fun t222 => (ltklaw4_ModeLaws.j3 kj55 a0 a1 (!t222))) else (ltklaw4_ModeLaws.j3 kj55 a0 a1 false))) else (ltklaw4_ModeLaws.j3 kj55 a0 a1 false))) else (ltklaw4_ModeLaws.j3 kj55 a0 a1 true)) = some r := H
                          have A66 := Aside0.mk A660
                          clear A660
                          by_cases c67 : t219 = true
                          · subst c67
                            have H1 : ((mode_Covers.f kj55 a2 a0).bind fun t220 => (if t220 = true then ((mode_Covers.f kj55 a2 a1).bind fun t221 => (if t221 = true then ((mode_Covers.f kj55 a2 t192).bind fun t222 => (ltklaw4_ModeLaws.j3 kj55 a0 a1 (!t222))) else (ltklaw4_ModeLaws.j3 kj55 a0 a1 false))) else (ltklaw4_ModeLaws.j3 kj55 a0 a1 false))) = some r := by rw [if_pos rfl] at H; exact H
                            clear H
                            have H := H1
                            clear H1
                            replace H := Option.bind_eq_some_iff.mp H
                            obtain ⟨t220, A680, H⟩ := H
                            replace H : (if t220 = true then ((mode_Covers.f kj55 a2 a1).bind fun t221 => (if t221 = true then ((mode_Covers.f kj55 a2 t192).bind fun t222 => (ltklaw4_ModeLaws.j3 kj55 a0 a1 (!t222))) else (ltklaw4_ModeLaws.j3 kj55 a0 a1 false))) else (ltklaw4_ModeLaws.j3 kj55 a0 a1 false)) = some r := H
                            have A68 := Aside0.mk A680
                            clear A680
                            by_cases c69 : t220 = true
                            · subst c69
                              have H1 : ((mode_Covers.f kj55 a2 a1).bind fun t221 => (if t221 = true then ((mode_Covers.f kj55 a2 t192).bind fun t222 => (ltklaw4_ModeLaws.j3 kj55 a0 a1 (!t222))) else (ltklaw4_ModeLaws.j3 kj55 a0 a1 false))) = some r := by rw [if_pos rfl] at H; exact H
                              clear H
                              have H := H1
                              clear H1
                              replace H := Option.bind_eq_some_iff.mp H
                              obtain ⟨t221, A700, H⟩ := H
                              replace H : (if t221 = true then ((mode_Covers.f kj55 a2 t192).bind fun t222 => (ltklaw4_ModeLaws.j3 kj55 a0 a1 (!t222))) else (ltklaw4_ModeLaws.j3 kj55 a0 a1 false)) = some r := H
                              have A70 := Aside0.mk A700
                              clear A700
                              by_cases c71 : t221 = true
                              · subst c71
                                have H1 : ((mode_Covers.f kj55 a2 t192).bind fun t222 => (ltklaw4_ModeLaws.j3 kj55 a0 a1 (!t222))) = some r := by rw [if_pos rfl] at H; exact H
                                clear H
                                have H := H1
                                clear H1
                                replace H := Option.bind_eq_some_iff.mp H
                                obtain ⟨t222, A720, H⟩ := H
                                replace H : (ltklaw4_ModeLaws.j3 kj55 a0 a1 (!t222)) = some r := H
                                have A72 := Aside0.mk A720
                                clear A720
                                as_aux_lemma =>
                                  have H' := Aside0.mk H
                                  clear H
                                  go_wp2_with (first | ((with_reducible refine gate_callee (f := 31) rfl ?_); refine goesL_ (some 83) rfl rfl Try.func31 (by kernel_rfl) rfl #[.int .i64 t192, .int .i64 a0] rfl (by (try simp only [List.map_toArray, List.map_cons, List.map_nil]); first | done | rfl | (simp only [List.length_drop, List.length_take]; rfl)) ?_; (with_reducible refine (mode_Covers.calls kj55 t192 a0 true _ A64.out).mono ?_); rintro e w73 ⟨rfl, hb⟩; refine ⟨_, rfl, ?_⟩; have n0_ := Aside0.mk (below_step (by repeat (first | (with_reducible first | exact HB.out | apply below_alloc | apply pw_below_drewN | apply below_drew1) | exact HB.out)) hb); clear HB; have HB := n0_; clear n0_; (try clear hb); (try clear hb2); (try clear hk); (try clear hi)) | (go_at_call 31; (with_reducible refine (mode_Covers.calls kj55 t192 a1 true _ A66.out).mono ?_); rintro e w74 ⟨rfl, hb⟩; have n0_ := Aside0.mk (below_step (by repeat (first | (with_reducible first | exact HB.out | apply below_alloc | apply pw_below_drewN | apply below_drew1) | exact HB.out)) hb); clear HB; have HB := n0_; clear n0_; (try clear hb); (try clear hb2); (try clear hk); (try clear hi)) | (go_at_call 31; (with_reducible refine (mode_Covers.calls kj55 a2 a0 true _ A68.out).mono ?_); rintro e w75 ⟨rfl, hb⟩; have n0_ := Aside0.mk (below_step (by repeat (first | (with_reducible first | exact HB.out | apply below_alloc | apply pw_below_drewN | apply below_drew1) | exact HB.out)) hb); clear HB; have HB := n0_; clear n0_; (try clear hb); (try clear hb2); (try clear hk); (try clear hi)) | (go_at_call 31; (with_reducible refine (mode_Covers.calls kj55 a2 a1 true _ A70.out).mono ?_); rintro e w76 ⟨rfl, hb⟩; have n0_ := Aside0.mk (below_step (by repeat (first | (with_reducible first | exact HB.out | apply below_alloc | apply pw_below_drewN | apply below_drew1) | exact HB.out)) hb); clear HB; have HB := n0_; clear n0_; (try clear hb); (try clear hb2); (try clear hk); (try clear hi)) | (go_at_call 31; (with_reducible refine (mode_Covers.calls kj55 a2 t192 t222 _ A72.out).mono ?_); rintro e w77 ⟨rfl, hb⟩; have n0_ := Aside0.mk (below_step (by repeat (first | (with_reducible first | exact HB.out | apply below_alloc | apply pw_below_drewN | apply below_drew1) | exact HB.out)) hb); clear HB; have HB := n0_; clear n0_; (try clear hb); (try clear hb2); (try clear hk); (try clear hi)))
                                  go_meet
                                  case rel => exact ⟨_, (!t222), (by first | rfl | (simp; done) | (simp [*]; done)), H', ⟨by have := HJ5.out; have := HJ16.out; have := HJ55.out; first | omega | exact Nat.le_refl _⟩, ⟨by repeat (first | (with_reducible first | exact HB.out | apply below_alloc | apply pw_below_drewN | apply below_drew1) | exact HB.out)⟩⟩
                              · replace c71 := Bool.eq_false_iff.mpr c71
                                subst c71
                                have H1 : (ltklaw4_ModeLaws.j3 kj55 a0 a1 false) = some r := by rw [if_neg (show ¬ (false = true) by decide)] at H; exact H
                                clear H
                                have H := H1
                                clear H1
                                as_aux_lemma =>
                                  have H' := Aside0.mk H
                                  clear H
                                  go_wp2_with (first | ((with_reducible refine gate_callee (f := 31) rfl ?_); refine goesL_ (some 83) rfl rfl Try.func31 (by kernel_rfl) rfl #[.int .i64 t192, .int .i64 a0] rfl (by (try simp only [List.map_toArray, List.map_cons, List.map_nil]); first | done | rfl | (simp only [List.length_drop, List.length_take]; rfl)) ?_; (with_reducible refine (mode_Covers.calls kj55 t192 a0 true _ A64.out).mono ?_); rintro e w78 ⟨rfl, hb⟩; refine ⟨_, rfl, ?_⟩; have n0_ := Aside0.mk (below_step (by repeat (first | (with_reducible first | exact HB.out | apply below_alloc | apply pw_below_drewN | apply below_drew1) | exact HB.out)) hb); clear HB; have HB := n0_; clear n0_; (try clear hb); (try clear hb2); (try clear hk); (try clear hi)) | (go_at_call 31; (with_reducible refine (mode_Covers.calls kj55 t192 a1 true _ A66.out).mono ?_); rintro e w79 ⟨rfl, hb⟩; have n0_ := Aside0.mk (below_step (by repeat (first | (with_reducible first | exact HB.out | apply below_alloc | apply pw_below_drewN | apply below_drew1) | exact HB.out)) hb); clear HB; have HB := n0_; clear n0_; (try clear hb); (try clear hb2); (try clear hk); (try clear hi)) | (go_at_call 31; (with_reducible refine (mode_Covers.calls kj55 a2 a0 true _ A68.out).mono ?_); rintro e w80 ⟨rfl, hb⟩; have n0_ := Aside0.mk (below_step (by repeat (first | (with_reducible first | exact HB.out | apply below_alloc | apply pw_below_drewN | apply below_drew1) | exact HB.out)) hb); clear HB; have HB := n0_; clear n0_; (try clear hb); (try clear hb2); (try clear hk); (try clear hi)) | (go_at_call 31; (with_reducible refine (mode_Covers.calls kj55 a2 a1 false _ A70.out).mono ?_); rintro e w81 ⟨rfl, hb⟩; have n0_ := Aside0.mk (below_step (by repeat (first | (with_reducible first | exact HB.out | apply below_alloc | apply pw_below_drewN | apply below_drew1) | exact HB.out)) hb); clear HB; have HB := n0_; clear n0_; (try clear hb); (try clear hb2); (try clear hk); (try clear hi)))
                                  go_meet
                                  case rel => exact ⟨_, (false), (by first | rfl | (simp; done) | (simp [*]; done)), H', ⟨by have := HJ5.out; have := HJ16.out; have := HJ55.out; first | omega | exact Nat.le_refl _⟩, ⟨by repeat (first | (with_reducible first | exact HB.out | apply below_alloc | apply pw_below_drewN | apply below_drew1) | exact HB.out)⟩⟩
                            · replace c69 := Bool.eq_false_iff.mpr c69
                              subst c69
                              have H1 : (ltklaw4_ModeLaws.j3 kj55 a0 a1 false) = some r := by rw [if_neg (show ¬ (false = true) by decide)] at H; exact H
                              clear H
                              have H := H1
                              clear H1
                              as_aux_lemma =>
                                have H' := Aside0.mk H
                                clear H
                                go_wp2_with (first | ((with_reducible refine gate_callee (f := 31) rfl ?_); refine goesL_ (some 83) rfl rfl Try.func31 (by kernel_rfl) rfl #[.int .i64 t192, .int .i64 a0] rfl (by (try simp only [List.map_toArray, List.map_cons, List.map_nil]); first | done | rfl | (simp only [List.length_drop, List.length_take]; rfl)) ?_; (with_reducible refine (mode_Covers.calls kj55 t192 a0 true _ A64.out).mono ?_); rintro e w82 ⟨rfl, hb⟩; refine ⟨_, rfl, ?_⟩; have n0_ := Aside0.mk (below_step (by repeat (first | (with_reducible first | exact HB.out | apply below_alloc | apply pw_below_drewN | apply below_drew1) | exact HB.out)) hb); clear HB; have HB := n0_; clear n0_; (try clear hb); (try clear hb2); (try clear hk); (try clear hi)) | (go_at_call 31; (with_reducible refine (mode_Covers.calls kj55 t192 a1 true _ A66.out).mono ?_); rintro e w83 ⟨rfl, hb⟩; have n0_ := Aside0.mk (below_step (by repeat (first | (with_reducible first | exact HB.out | apply below_alloc | apply pw_below_drewN | apply below_drew1) | exact HB.out)) hb); clear HB; have HB := n0_; clear n0_; (try clear hb); (try clear hb2); (try clear hk); (try clear hi)) | (go_at_call 31; (with_reducible refine (mode_Covers.calls kj55 a2 a0 false _ A68.out).mono ?_); rintro e w84 ⟨rfl, hb⟩; have n0_ := Aside0.mk (below_step (by repeat (first | (with_reducible first | exact HB.out | apply below_alloc | apply pw_below_drewN | apply below_drew1) | exact HB.out)) hb); clear HB; have HB := n0_; clear n0_; (try clear hb); (try clear hb2); (try clear hk); (try clear hi)))
                                go_meet
                                case rel => exact ⟨_, (false), (by first | rfl | (simp; done) | (simp [*]; done)), H', ⟨by have := HJ5.out; have := HJ16.out; have := HJ55.out; first | omega | exact Nat.le_refl _⟩, ⟨by repeat (first | (with_reducible first | exact HB.out | apply below_alloc | apply pw_below_drewN | apply below_drew1) | exact HB.out)⟩⟩
                          · replace c67 := Bool.eq_false_iff.mpr c67
                            subst c67
                            have H1 : (ltklaw4_ModeLaws.j3 kj55 a0 a1 true) = some r := by rw [if_neg (show ¬ (false = true) by decide)] at H; exact H
                            clear H
                            have H := H1
                            clear H1
                            as_aux_lemma =>
                              have H' := Aside0.mk H
                              clear H
                              go_wp2_with (first | ((with_reducible refine gate_callee (f := 31) rfl ?_); refine goesL_ (some 83) rfl rfl Try.func31 (by kernel_rfl) rfl #[.int .i64 t192, .int .i64 a0] rfl (by (try simp only [List.map_toArray, List.map_cons, List.map_nil]); first | done | rfl | (simp only [List.length_drop, List.length_take]; rfl)) ?_; (with_reducible refine (mode_Covers.calls kj55 t192 a0 true _ A64.out).mono ?_); rintro e w85 ⟨rfl, hb⟩; refine ⟨_, rfl, ?_⟩; have n0_ := Aside0.mk (below_step (by repeat (first | (with_reducible first | exact HB.out | apply below_alloc | apply pw_below_drewN | apply below_drew1) | exact HB.out)) hb); clear HB; have HB := n0_; clear n0_; (try clear hb); (try clear hb2); (try clear hk); (try clear hi)) | (go_at_call 31; (with_reducible refine (mode_Covers.calls kj55 t192 a1 false _ A66.out).mono ?_); rintro e w86 ⟨rfl, hb⟩; have n0_ := Aside0.mk (below_step (by repeat (first | (with_reducible first | exact HB.out | apply below_alloc | apply pw_below_drewN | apply below_drew1) | exact HB.out)) hb); clear HB; have HB := n0_; clear n0_; (try clear hb); (try clear hb2); (try clear hk); (try clear hi)))
                              go_meet
                              case rel => exact ⟨_, (true), (by first | rfl | (simp; done) | (simp [*]; done)), H', ⟨by have := HJ5.out; have := HJ16.out; have := HJ55.out; first | omega | exact Nat.le_refl _⟩, ⟨by repeat (first | (with_reducible first | exact HB.out | apply below_alloc | apply pw_below_drewN | apply below_drew1) | exact HB.out)⟩⟩
                        · replace c65 := Bool.eq_false_iff.mpr c65
                          subst c65
                          have H1 : (ltklaw4_ModeLaws.j3 kj55 a0 a1 true) = some r := by rw [if_neg (show ¬ (false = true) by decide)] at H; exact H
                          clear H
                          have H := H1
                          clear H1
                          as_aux_lemma =>
                            have H' := Aside0.mk H
                            clear H
                            go_wp2_with (first | ((with_reducible refine gate_callee (f := 31) rfl ?_); refine goesL_ (some 83) rfl rfl Try.func31 (by kernel_rfl) rfl #[.int .i64 t192, .int .i64 a0] rfl (by (try simp only [List.map_toArray, List.map_cons, List.map_nil]); first | done | rfl | (simp only [List.length_drop, List.length_take]; rfl)) ?_; (with_reducible refine (mode_Covers.calls kj55 t192 a0 false _ A64.out).mono ?_); rintro e w87 ⟨rfl, hb⟩; refine ⟨_, rfl, ?_⟩; have n0_ := Aside0.mk (below_step (by repeat (first | (with_reducible first | exact HB.out | apply below_alloc | apply pw_below_drewN | apply below_drew1) | exact HB.out)) hb); clear HB; have HB := n0_; clear n0_; (try clear hb); (try clear hb2); (try clear hk); (try clear hi)))
                            go_meet
                            case rel => exact ⟨_, (true), (by first | rfl | (simp; done) | (simp [*]; done)), H', ⟨by have := HJ5.out; have := HJ16.out; have := HJ55.out; first | omega | exact Nat.le_refl _⟩, ⟨by repeat (first | (with_reducible first | exact HB.out | apply below_alloc | apply pw_below_drewN | apply below_drew1) | exact HB.out)⟩⟩
                      case rest => as_aux_lemma =>
                        clear HC63
                        try clear c1
                        try clear c2
                        try clear p2
                        try clear c3
                        try clear c5
                        try clear c6
                        try clear c7
                        try clear c9
                        try clear c11
                        try clear c13
                        try clear c23
                        try clear c23b0
                        try clear c23b1
                        try clear c23b2
                        try clear c25
                        try clear c25b0
                        try clear c25b1
                        try clear c27
                        try clear c27b0
                        try clear c27b1
                        try clear c28
                        try clear c29
                        try clear c30
                        try clear c31
                        try clear c32
                        try clear c55
                        try clear c58
                        try clear c60
                        try clear c62
                        try clear c65
                        try clear c67
                        try clear c69
                        try clear c71
                        try clear p2
                        obtain ⟨kq, x106_62, rfl, HA, HJ62, HB⟩ := hcut
                        cases kq with
                        | zero => exact absurd HA.out (by simp [ltklaw4_ModeLaws.j3])
                        | succ kj62 =>
                          have H := HA.out
                          clear HA
                          simp only [ltklaw4_ModeLaws.j3] at H
                          by_cases c88 : x106_62 = true
                          · subst c88
                            have H1 : (some false) = some r := by rw [if_pos rfl] at H; exact H
                            clear H
                            have H := H1
                            clear H1
                            as_aux_lemma =>
                              obtain rfl := Option.some.inj H
                              go_wp2
                              go_ret
                              exact ⟨by first | rfl | (simp [errW_none, errW_some] <;> rfl) | (simp [*, errW_none, errW_some] <;> rfl), by repeat (first | (with_reducible first | exact HB.out | apply below_alloc | apply pw_below_drewN | apply below_drew1) | exact HB.out)⟩
                          · replace c88 := Bool.eq_false_iff.mpr c88
                            subst c88
                            have H1 : ((mode_Covers.f kj62 a0 a1).bind fun t223 => (if t223 = true then ((mode_Intent.f kj62 a0).bind fun t224 => ((mode_Intent.f kj62 a1).bind fun t225 => ((mode_Covers.f kj62 t224 t225).bind fun t226 => (if t226 = true then ((mode_Reads.f a1).bind fun t227 => (if t227 = true then ((mode_Reads.f a0).bind fun t228 => (if t228 = true then ((mode_Writes.f a1).bind fun t229 => (if t229 = true then ((mode_Writes.f a0).bind fun t230 => (ltklaw4_ModeLaws.j4 kj62 a0 a1 (!t230))) else (ltklaw4_ModeLaws.j4 kj62 a0 a1 false))) else (ltklaw4_ModeLaws.j4 kj62 a0 a1 true))) else ((mode_Writes.f a1).bind fun t231 => (if t231 = true then ((mode_Writes.f a0).bind fun t232 => (ltklaw4_ModeLaws.j4 kj62 a0 a1 (!t232))) else (ltklaw4_ModeLaws.j4 kj62 a0 a1 false))))) else (ltklaw4_ModeLaws.j4 kj62 a0 a1 true))))) else (ltklaw4_ModeLaws.j4 kj62 a0 a1 false))) = some r := by rw [if_neg (show ¬ (false = true) by decide)] at H; exact H
                            clear H
                            have H := H1
                            clear H1
                            have HC89 := Aside0.mk H
                            clear H
                            go_upto_region 12 with (fail)
                            go_cut [135] (fun v135 wc => ∃ (kq : Nat) (x135_88 : Bool), v135 = .bool x135_88 ∧ Aside0 (ltklaw4_ModeLaws.j4 kq a0 a1 x135_88 = some r) ∧ Aside0 (kq ≤ kj62) ∧ Aside0 (Below w.heap.size w wc))
                            case first => as_aux_lemma =>
                              have H := HC89.out
                              clear HC89
                              replace H := Option.bind_eq_some_iff.mp H
                              obtain ⟨t223, A900, H⟩ := H
                              replace H : (if t223 = true then ((mode_Intent.f kj62 a0).bind fun t224 => ((mode_Intent.f kj62 a1).bind fun t225 => ((mode_Covers.f kj62 t224 t225).bind fun t226 => (if t226 = true then ((mode_Reads.f a1).bind fun t227 => (if t227 = true then ((mode_Reads.f a0).bind fun t228 => (if t228 = true then ((mode_Writes.f a1).bind fun t229 => (if t229 = true then ((mode_Writes.f a0).bind fun t230 => (ltklaw4_ModeLaws.j4 kj62 a0 a1 (!t230))) else (ltklaw4_ModeLaws.j4 kj62 a0 a1 false))) else (ltklaw4_ModeLaws.j4 kj62 a0 a1 true))) else ((mode_Writes.f a1).bind fun t231 => (if t231 = true then ((mode_Writes.f a0).bind fun t232 => (ltklaw4_ModeLaws.j4 kj62 a0 a1 (!t232))) else (ltklaw4_ModeLaws.j4 kj62 a0 a1 false))))) else (ltklaw4_ModeLaws.j4 kj62 a0 a1 true))))) else (ltklaw4_ModeLaws.j4 kj62 a0 a1 false)) = some r := H
                              have A90 := Aside0.mk A900
                              clear A900
                              by_cases c91 : t223 = true
                              · subst c91
                                have H1 : ((mode_Intent.f kj62 a0).bind fun t224 => ((mode_Intent.f kj62 a1).bind fun t225 => ((mode_Covers.f kj62 t224 t225).bind fun t226 => (if t226 = true then ((mode_Reads.f a1).bind fun t227 => (if t227 = true then ((mode_Reads.f a0).bind fun t228 => (if t228 = true then ((mode_Writes.f a1).bind fun t229 => (if t229 = true then ((mode_Writes.f a0).bind fun t230 => (ltklaw4_ModeLaws.j4 kj62 a0 a1 (!t230))) else (ltklaw4_ModeLaws.j4 kj62 a0 a1 false))) else (ltklaw4_ModeLaws.j4 kj62 a0 a1 true))) else ((mode_Writes.f a1).bind fun t231 => (if t231 = true then ((mode_Writes.f a0).bind fun t232 => (ltklaw4_ModeLaws.j4 kj62 a0 a1 (!t232))) else (ltklaw4_ModeLaws.j4 kj62 a0 a1 false))))) else (ltklaw4_ModeLaws.j4 kj62 a0 a1 true))))) = some r := by rw [if_pos rfl] at H; exact H
                                clear H
                                have H := H1
                                clear H1
                                replace H := Option.bind_eq_some_iff.mp H
                                obtain ⟨t224, A920, H⟩ := H
                                replace H : ((mode_Intent.f kj62 a1).bind fun t225 => ((mode_Covers.f kj62 t224 t225).bind fun t226 => (if t226 = true then ((mode_Reads.f a1).bind fun t227 => (if t227 = true then ((mode_Reads.f a0).bind fun t228 => (if t228 = true then ((mode_Writes.f a1).bind fun t229 => (if t229 = true then ((mode_Writes.f a0).bind fun t230 => (ltklaw4_ModeLaws.j4 kj62 a0 a1 (!t230))) else (ltklaw4_ModeLaws.j4 kj62 a0 a1 false))) else (ltklaw4_ModeLaws.j4 kj62 a0 a1 true))) else ((mode_Writes.f a1).bind fun t231 => (if t231 = true then ((mode_Writes.f a0).bind fun t232 => (ltklaw4_ModeLaws.j4 kj62 a0 a1 (!t232))) else (ltklaw4_ModeLaws.j4 kj62 a0 a1 false))))) else (ltklaw4_ModeLaws.j4 kj62 a0 a1 true)))) = some r := H
                                have A92 := Aside0.mk A920
                                clear A920
                                replace H := Option.bind_eq_some_iff.mp H
                                obtain ⟨t225, A930, H⟩ := H
                                replace H : ((mode_Covers.f kj62 t224 t225).bind fun t226 => (if t226 = true then ((mode_Reads.f a1).bind fun t227 => (if t227 = true then ((mode_Reads.f a0).bind fun t228 => (if t228 = true then ((mode_Writes.f a1).bind fun t229 => (if t229 = true then ((mode_Writes.f a0).bind fun t230 => (ltklaw4_ModeLaws.j4 kj62 a0 a1 (!t230))) else (ltklaw4_ModeLaws.j4 kj62 a0 a1 false))) else (ltklaw4_ModeLaws.j4 kj62 a0 a1 true))) else ((mode_Writes.f a1).bind fun t231 => (if t231 = true then ((mode_Writes.f a0).bind fun t232 => (ltklaw4_ModeLaws.j4 kj62 a0 a1 (!t232))) else (ltklaw4_ModeLaws.j4 kj62 a0 a1 false))))) else (ltklaw4_ModeLaws.j4 kj62 a0 a1 true))) = some r := H
                                have A93 := Aside0.mk A930
                                clear A930
                                replace H := Option.bind_eq_some_iff.mp H
                                obtain ⟨t226, A940, H⟩ := H
                                replace H : (if t226 = true then ((mode_Reads.f a1).bind fun t227 => (if t227 = true then ((mode_Reads.f a0).bind fun t228 => (if t228 = true then ((mode_Writes.f a1).bind fun t229 => (if t229 = true then ((mode_Writes.f a0).bind fun t230 => (ltklaw4_ModeLaws.j4 kj62 a0 a1 (!t230))) else (ltklaw4_ModeLaws.j4 kj62 a0 a1 false))) else (ltklaw4_ModeLaws.j4 kj62 a0 a1 true))) else ((mode_Writes.f a1).bind fun t231 => (if t231 = true then ((mode_Writes.f a0).bind fun t232 => (ltklaw4_ModeLaws.j4 kj62 a0 a1 (!t232))) else (ltklaw4_ModeLaws.j4 kj62 a0 a1 false))))) else (ltklaw4_ModeLaws.j4 kj62 a0 a1 true)) = some r := H
                                have A94 := Aside0.mk A940
                                clear A940
                                by_cases c95 : t226 = true
                                · subst c95
                                  have H1 : ((mode_Reads.f a1).bind fun t227 => (if t227 = true then ((mode_Reads.f a0).bind fun t228 => (if t228 = true then ((mode_Writes.f a1).bind fun t229 => (if t229 = true then ((mode_Writes.f a0).bind fun t230 => (ltklaw4_ModeLaws.j4 kj62 a0 a1 (!t230))) else (ltklaw4_ModeLaws.j4 kj62 a0 a1 false))) else (ltklaw4_ModeLaws.j4 kj62 a0 a1 true))) else ((mode_Writes.f a1).bind fun t231 => (if t231 = true then ((mode_Writes.f a0).bind fun t232 => (ltklaw4_ModeLaws.j4 kj62 a0 a1 (!t232))) else (ltklaw4_ModeLaws.j4 kj62 a0 a1 false))))) = some r := by rw [if_pos rfl] at H; exact H
                                  clear H
                                  have H := H1
                                  clear H1
                                  replace H := Option.bind_eq_some_iff.mp H
                                  obtain ⟨t227, A960, H⟩ := H
                                  replace H : (if t227 = true then ((mode_Reads.f a0).bind fun t228 => (if t228 = true then ((mode_Writes.f a1).bind fun t229 => (if t229 = true then ((mode_Writes.f a0).bind fun t230 => (ltklaw4_ModeLaws.j4 kj62 a0 a1 (!t230))) else (ltklaw4_ModeLaws.j4 kj62 a0 a1 false))) else (ltklaw4_ModeLaws.j4 kj62 a0 a1 true))) else ((mode_Writes.f a1).bind fun t231 => (if t231 = true then ((mode_Writes.f a0).bind fun t232 => (ltklaw4_ModeLaws.j4 kj62 a0 a1 (!t232))) else (ltklaw4_ModeLaws.j4 kj62 a0 a1 false)))) = some r := H
                                  have A96 := Aside0.mk A960
                                  clear A960
                                  by_cases c97 : t227 = true
                                  · subst c97
                                    have H1 : ((mode_Reads.f a0).bind fun t228 => (if t228 = true then ((mode_Writes.f a1).bind fun t229 => (if t229 = true then ((mode_Writes.f a0).bind fun t230 => (ltklaw4_ModeLaws.j4 kj62 a0 a1 (!t230))) else (ltklaw4_ModeLaws.j4 kj62 a0 a1 false))) else (ltklaw4_ModeLaws.j4 kj62 a0 a1 true))) = some r := by rw [if_pos rfl] at H; exact H
                                    clear H
                                    have H := H1
                                    clear H1
                                    replace H := Option.bind_eq_some_iff.mp H
                                    obtain ⟨t228, A980, H⟩ := H
                                    replace H : (if t228 = true then ((mode_Writes.f a1).bind fun t229 => (if t229 = true then ((mode_Writes.f a0).bind fun t230 => (ltklaw4_ModeLaws.j4 kj62 a0 a1 (!t230))) else (ltklaw4_ModeLaws.j4 kj62 a0 a1 false))) else (ltklaw4_ModeLaws.j4 kj62 a0 a1 true)) = some r := H
                                    have A98 := Aside0.mk A980
                                    clear A980
                                    by_cases c99 : t228 = true
                                    · subst c99
                                      have H1 : ((mode_Writes.f a1).bind fun t229 => (if t229 = true then ((mode_Writes.f a0).bind fun t230 => (ltklaw4_ModeLaws.j4 kj62 a0 a1 (!t230))) else (ltklaw4_ModeLaws.j4 kj62 a0 a1 false))) = some r := by rw [if_pos rfl] at H; exact H
                                      clear H
                                      have H := H1
                                      clear H1
                                      replace H := Option.bind_eq_some_iff.mp H
                                      obtain ⟨t229, A1000, H⟩ := H
                                      replace H : (if t229 = true then ((mode_Writes.f a0).bind fun t230 => (ltklaw4_ModeLaws.j4 kj62 a0 a1 (!t230))) else (ltklaw4_ModeLaws.j4 kj62 a0 a1 false)) = some r := H
                                      have A100 := Aside0.mk A1000
                                      clear A1000
                                      by_cases c101 : t229 = true
                                      · subst c101
                                        have H1 : ((mode_Writes.f a0).bind fun t230 => (ltklaw4_ModeLaws.j4 kj62 a0 a1 (!t230))) = some r := by rw [if_pos rfl] at H; exact H
                                        clear H
                                        have H := H1
                                        clear H1
                                        replace H := Option.bind_eq_some_iff.mp H
                                        obtain ⟨t230, A1020, H⟩ := H
                                        replace H : (ltklaw4_ModeLaws.j4 kj62 a0 a1 (!t230)) = some r := H
                                        have A102 := Aside0.mk A1020
                                        clear A1020
                                        as_aux_lemma =>
                                          have H' := Aside0.mk H
                                          clear H
                                          go_wp2_with (first | ((with_reducible refine gate_callee (f := 31) rfl ?_); refine goesL_ (some 109) rfl rfl Try.func31 (by kernel_rfl) rfl #[.int .i64 a0, .int .i64 a1] rfl (by (try simp only [List.map_toArray, List.map_cons, List.map_nil]); first | done | rfl | (simp only [List.length_drop, List.length_take]; rfl)) ?_; (with_reducible refine (mode_Covers.calls kj62 a0 a1 true _ A90.out).mono ?_); rintro e w103 ⟨rfl, hb⟩; refine ⟨_, rfl, ?_⟩; have n0_ := Aside0.mk (below_step (by repeat (first | (with_reducible first | exact HB.out | apply below_alloc | apply pw_below_drewN | apply below_drew1) | exact HB.out)) hb); clear HB; have HB := n0_; clear n0_; (try clear hb); (try clear hb2); (try clear hk); (try clear hi)) | (go_at_call 35; (with_reducible refine (mode_Intent.calls kj62 a0 t224 _ A92.out).mono ?_); rintro e w' ⟨rfl, ⟨nd, rfl⟩⟩) | (go_at_call 35; (with_reducible refine (mode_Intent.calls kj62 a1 t225 _ A93.out).mono ?_); rintro e w' ⟨rfl, ⟨nd, rfl⟩⟩) | (go_at_call 31; (with_reducible refine (mode_Covers.calls kj62 t224 t225 true _ A94.out).mono ?_); rintro e w104 ⟨rfl, hb⟩; have n0_ := Aside0.mk (below_step (by repeat (first | (with_reducible first | exact HB.out | apply below_alloc | apply pw_below_drewN | apply below_drew1) | exact HB.out)) hb); clear HB; have HB := n0_; clear n0_; (try clear hb); (try clear hb2); (try clear hk); (try clear hi)) | (go_at_call 34; (with_reducible refine (mode_Reads.calls a1 true _ A96.out).mono ?_); rintro e w' ⟨rfl, ⟨nd, rfl⟩⟩) | (go_at_call 34; (with_reducible refine (mode_Reads.calls a0 true _ A98.out).mono ?_); rintro e w' ⟨rfl, ⟨nd, rfl⟩⟩) | (go_at_call 33; (with_reducible refine (mode_Writes.calls a1 true _ A100.out).mono ?_); rintro e w' ⟨rfl, ⟨nd, rfl⟩⟩) | (go_at_call 33; (with_reducible refine (mode_Writes.calls a0 t230 _ A102.out).mono ?_); rintro e w' ⟨rfl, ⟨nd, rfl⟩⟩))
                                          go_meet
                                          case rel => exact ⟨_, (!t230), (by first | rfl | (simp; done) | (simp [*]; done)), H', ⟨by have := HJ5.out; have := HJ16.out; have := HJ55.out; have := HJ62.out; first | omega | exact Nat.le_refl _⟩, ⟨by repeat (first | (with_reducible first | exact HB.out | apply below_alloc | apply pw_below_drewN | apply below_drew1) | exact HB.out)⟩⟩
                                      · replace c101 := Bool.eq_false_iff.mpr c101
                                        subst c101
                                        have H1 : (ltklaw4_ModeLaws.j4 kj62 a0 a1 false) = some r := by rw [if_neg (show ¬ (false = true) by decide)] at H; exact H
                                        clear H
                                        have H := H1
                                        clear H1
                                        as_aux_lemma =>
                                          have H' := Aside0.mk H
                                          clear H
                                          go_wp2_with (first | ((with_reducible refine gate_callee (f := 31) rfl ?_); refine goesL_ (some 109) rfl rfl Try.func31 (by kernel_rfl) rfl #[.int .i64 a0, .int .i64 a1] rfl (by (try simp only [List.map_toArray, List.map_cons, List.map_nil]); first | done | rfl | (simp only [List.length_drop, List.length_take]; rfl)) ?_; (with_reducible refine (mode_Covers.calls kj62 a0 a1 true _ A90.out).mono ?_); rintro e w105 ⟨rfl, hb⟩; refine ⟨_, rfl, ?_⟩; have n0_ := Aside0.mk (below_step (by repeat (first | (with_reducible first | exact HB.out | apply below_alloc | apply pw_below_drewN | apply below_drew1) | exact HB.out)) hb); clear HB; have HB := n0_; clear n0_; (try clear hb); (try clear hb2); (try clear hk); (try clear hi)) | (go_at_call 35; (with_reducible refine (mode_Intent.calls kj62 a0 t224 _ A92.out).mono ?_); rintro e w' ⟨rfl, ⟨nd, rfl⟩⟩) | (go_at_call 35; (with_reducible refine (mode_Intent.calls kj62 a1 t225 _ A93.out).mono ?_); rintro e w' ⟨rfl, ⟨nd, rfl⟩⟩) | (go_at_call 31; (with_reducible refine (mode_Covers.calls kj62 t224 t225 true _ A94.out).mono ?_); rintro e w106 ⟨rfl, hb⟩; have n0_ := Aside0.mk (below_step (by repeat (first | (with_reducible first | exact HB.out | apply below_alloc | apply pw_below_drewN | apply below_drew1) | exact HB.out)) hb); clear HB; have HB := n0_; clear n0_; (try clear hb); (try clear hb2); (try clear hk); (try clear hi)) | (go_at_call 34; (with_reducible refine (mode_Reads.calls a1 true _ A96.out).mono ?_); rintro e w' ⟨rfl, ⟨nd, rfl⟩⟩) | (go_at_call 34; (with_reducible refine (mode_Reads.calls a0 true _ A98.out).mono ?_); rintro e w' ⟨rfl, ⟨nd, rfl⟩⟩) | (go_at_call 33; (with_reducible refine (mode_Writes.calls a1 false _ A100.out).mono ?_); rintro e w' ⟨rfl, ⟨nd, rfl⟩⟩))
                                          go_meet
                                          case rel => exact ⟨_, (false), (by first | rfl | (simp; done) | (simp [*]; done)), H', ⟨by have := HJ5.out; have := HJ16.out; have := HJ55.out; have := HJ62.out; first | omega | exact Nat.le_refl _⟩, ⟨by repeat (first | (with_reducible first | exact HB.out | apply below_alloc | apply pw_below_drewN | apply below_drew1) | exact HB.out)⟩⟩
                                    · replace c99 := Bool.eq_false_iff.mpr c99
                                      subst c99
                                      have H1 : (ltklaw4_ModeLaws.j4 kj62 a0 a1 true) = some r := by rw [if_neg (show ¬ (false = true) by decide)] at H; exact H
                                      clear H
                                      have H := H1
                                      clear H1
                                      as_aux_lemma =>
                                        have H' := Aside0.mk H
                                        clear H
                                        go_wp2_with (first | ((with_reducible refine gate_callee (f := 31) rfl ?_); refine goesL_ (some 109) rfl rfl Try.func31 (by kernel_rfl) rfl #[.int .i64 a0, .int .i64 a1] rfl (by (try simp only [List.map_toArray, List.map_cons, List.map_nil]); first | done | rfl | (simp only [List.length_drop, List.length_take]; rfl)) ?_; (with_reducible refine (mode_Covers.calls kj62 a0 a1 true _ A90.out).mono ?_); rintro e w107 ⟨rfl, hb⟩; refine ⟨_, rfl, ?_⟩; have n0_ := Aside0.mk (below_step (by repeat (first | (with_reducible first | exact HB.out | apply below_alloc | apply pw_below_drewN | apply below_drew1) | exact HB.out)) hb); clear HB; have HB := n0_; clear n0_; (try clear hb); (try clear hb2); (try clear hk); (try clear hi)) | (go_at_call 35; (with_reducible refine (mode_Intent.calls kj62 a0 t224 _ A92.out).mono ?_); rintro e w' ⟨rfl, ⟨nd, rfl⟩⟩) | (go_at_call 35; (with_reducible refine (mode_Intent.calls kj62 a1 t225 _ A93.out).mono ?_); rintro e w' ⟨rfl, ⟨nd, rfl⟩⟩) | (go_at_call 31; (with_reducible refine (mode_Covers.calls kj62 t224 t225 true _ A94.out).mono ?_); rintro e w108 ⟨rfl, hb⟩; have n0_ := Aside0.mk (below_step (by repeat (first | (with_reducible first | exact HB.out | apply below_alloc | apply pw_below_drewN | apply below_drew1) | exact HB.out)) hb); clear HB; have HB := n0_; clear n0_; (try clear hb); (try clear hb2); (try clear hk); (try clear hi)) | (go_at_call 34; (with_reducible refine (mode_Reads.calls a1 true _ A96.out).mono ?_); rintro e w' ⟨rfl, ⟨nd, rfl⟩⟩) | (go_at_call 34; (with_reducible refine (mode_Reads.calls a0 false _ A98.out).mono ?_); rintro e w' ⟨rfl, ⟨nd, rfl⟩⟩))
                                        go_meet
                                        case rel => exact ⟨_, (true), (by first | rfl | (simp; done) | (simp [*]; done)), H', ⟨by have := HJ5.out; have := HJ16.out; have := HJ55.out; have := HJ62.out; first | omega | exact Nat.le_refl _⟩, ⟨by repeat (first | (with_reducible first | exact HB.out | apply below_alloc | apply pw_below_drewN | apply below_drew1) | exact HB.out)⟩⟩
                                  · replace c97 := Bool.eq_false_iff.mpr c97
                                    subst c97
                                    have H1 : ((mode_Writes.f a1).bind fun t231 => (if t231 = true then ((mode_Writes.f a0).bind fun t232 => (ltklaw4_ModeLaws.j4 kj62 a0 a1 (!t232))) else (ltklaw4_ModeLaws.j4 kj62 a0 a1 false))) = some r := by rw [if_neg (show ¬ (false = true) by decide)] at H; exact H
                                    clear H
                                    have H := H1
                                    clear H1
                                    replace H := Option.bind_eq_some_iff.mp H
                                    obtain ⟨t231, A1090, H⟩ := H
                                    replace H : (if t231 = true then ((mode_Writes.f a0).bind fun t232 => (ltklaw4_ModeLaws.j4 kj62 a0 a1 (!t232))) else (ltklaw4_ModeLaws.j4 kj62 a0 a1 false)) = some r := H
                                    have A109 := Aside0.mk A1090
                                    clear A1090
                                    by_cases c110 : t231 = true
                                    · subst c110
                                      have H1 : ((mode_Writes.f a0).bind fun t232 => (ltklaw4_ModeLaws.j4 kj62 a0 a1 (!t232))) = some r := by rw [if_pos rfl] at H; exact H
                                      clear H
                                      have H := H1
                                      clear H1
                                      replace H := Option.bind_eq_some_iff.mp H
                                      obtain ⟨t232, A1110, H⟩ := H
                                      replace H : (ltklaw4_ModeLaws.j4 kj62 a0 a1 (!t232)) = some r := H
                                      have A111 := Aside0.mk A1110
                                      clear A1110
                                      as_aux_lemma =>
                                        have H' := Aside0.mk H
                                        clear H
                                        go_wp2_with (first | ((with_reducible refine gate_callee (f := 31) rfl ?_); refine goesL_ (some 109) rfl rfl Try.func31 (by kernel_rfl) rfl #[.int .i64 a0, .int .i64 a1] rfl (by (try simp only [List.map_toArray, List.map_cons, List.map_nil]); first | done | rfl | (simp only [List.length_drop, List.length_take]; rfl)) ?_; (with_reducible refine (mode_Covers.calls kj62 a0 a1 true _ A90.out).mono ?_); rintro e w112 ⟨rfl, hb⟩; refine ⟨_, rfl, ?_⟩; have n0_ := Aside0.mk (below_step (by repeat (first | (with_reducible first | exact HB.out | apply below_alloc | apply pw_below_drewN | apply below_drew1) | exact HB.out)) hb); clear HB; have HB := n0_; clear n0_; (try clear hb); (try clear hb2); (try clear hk); (try clear hi)) | (go_at_call 35; (with_reducible refine (mode_Intent.calls kj62 a0 t224 _ A92.out).mono ?_); rintro e w' ⟨rfl, ⟨nd, rfl⟩⟩) | (go_at_call 35; (with_reducible refine (mode_Intent.calls kj62 a1 t225 _ A93.out).mono ?_); rintro e w' ⟨rfl, ⟨nd, rfl⟩⟩) | (go_at_call 31; (with_reducible refine (mode_Covers.calls kj62 t224 t225 true _ A94.out).mono ?_); rintro e w113 ⟨rfl, hb⟩; have n0_ := Aside0.mk (below_step (by repeat (first | (with_reducible first | exact HB.out | apply below_alloc | apply pw_below_drewN | apply below_drew1) | exact HB.out)) hb); clear HB; have HB := n0_; clear n0_; (try clear hb); (try clear hb2); (try clear hk); (try clear hi)) | (go_at_call 34; (with_reducible refine (mode_Reads.calls a1 false _ A96.out).mono ?_); rintro e w' ⟨rfl, ⟨nd, rfl⟩⟩) | (go_at_call 33; (with_reducible refine (mode_Writes.calls a1 true _ A109.out).mono ?_); rintro e w' ⟨rfl, ⟨nd, rfl⟩⟩) | (go_at_call 33; (with_reducible refine (mode_Writes.calls a0 t232 _ A111.out).mono ?_); rintro e w' ⟨rfl, ⟨nd, rfl⟩⟩))
                                        go_meet
                                        case rel => exact ⟨_, (!t232), (by first | rfl | (simp; done) | (simp [*]; done)), H', ⟨by have := HJ5.out; have := HJ16.out; have := HJ55.out; have := HJ62.out; first | omega | exact Nat.le_refl _⟩, ⟨by repeat (first | (with_reducible first | exact HB.out | apply below_alloc | apply pw_below_drewN | apply below_drew1) | exact HB.out)⟩⟩
                                    · replace c110 := Bool.eq_false_iff.mpr c110
                                      subst c110
                                      have H1 : (ltklaw4_ModeLaws.j4 kj62 a0 a1 false) = some r := by rw [if_neg (show ¬ (false = true) by decide)] at H; exact H
                                      clear H
                                      have H := H1
                                      clear H1
                                      as_aux_lemma =>
                                        have H' := Aside0.mk H
                                        clear H
                                        go_wp2_with (first | ((with_reducible refine gate_callee (f := 31) rfl ?_); refine goesL_ (some 109) rfl rfl Try.func31 (by kernel_rfl) rfl #[.int .i64 a0, .int .i64 a1] rfl (by (try simp only [List.map_toArray, List.map_cons, List.map_nil]); first | done | rfl | (simp only [List.length_drop, List.length_take]; rfl)) ?_; (with_reducible refine (mode_Covers.calls kj62 a0 a1 true _ A90.out).mono ?_); rintro e w114 ⟨rfl, hb⟩; refine ⟨_, rfl, ?_⟩; have n0_ := Aside0.mk (below_step (by repeat (first | (with_reducible first | exact HB.out | apply below_alloc | apply pw_below_drewN | apply below_drew1) | exact HB.out)) hb); clear HB; have HB := n0_; clear n0_; (try clear hb); (try clear hb2); (try clear hk); (try clear hi)) | (go_at_call 35; (with_reducible refine (mode_Intent.calls kj62 a0 t224 _ A92.out).mono ?_); rintro e w' ⟨rfl, ⟨nd, rfl⟩⟩) | (go_at_call 35; (with_reducible refine (mode_Intent.calls kj62 a1 t225 _ A93.out).mono ?_); rintro e w' ⟨rfl, ⟨nd, rfl⟩⟩) | (go_at_call 31; (with_reducible refine (mode_Covers.calls kj62 t224 t225 true _ A94.out).mono ?_); rintro e w115 ⟨rfl, hb⟩; have n0_ := Aside0.mk (below_step (by repeat (first | (with_reducible first | exact HB.out | apply below_alloc | apply pw_below_drewN | apply below_drew1) | exact HB.out)) hb); clear HB; have HB := n0_; clear n0_; (try clear hb); (try clear hb2); (try clear hk); (try clear hi)) | (go_at_call 34; (with_reducible refine (mode_Reads.calls a1 false _ A96.out).mono ?_); rintro e w' ⟨rfl, ⟨nd, rfl⟩⟩) | (go_at_call 33; (with_reducible refine (mode_Writes.calls a1 false _ A109.out).mono ?_); rintro e w' ⟨rfl, ⟨nd, rfl⟩⟩))
                                        go_meet
                                        case rel => exact ⟨_, (false), (by first | rfl | (simp; done) | (simp [*]; done)), H', ⟨by have := HJ5.out; have := HJ16.out; have := HJ55.out; have := HJ62.out; first | omega | exact Nat.le_refl _⟩, ⟨by repeat (first | (with_reducible first | exact HB.out | apply below_alloc | apply pw_below_drewN | apply below_drew1) | exact HB.out)⟩⟩
                                · replace c95 := Bool.eq_false_iff.mpr c95
                                  subst c95
                                  have H1 : (ltklaw4_ModeLaws.j4 kj62 a0 a1 true) = some r := by rw [if_neg (show ¬ (false = true) by decide)] at H; exact H
                                  clear H
                                  have H := H1
                                  clear H1
                                  as_aux_lemma =>
                                    have H' := Aside0.mk H
                                    clear H
                                    go_wp2_with (first | ((with_reducible refine gate_callee (f := 31) rfl ?_); refine goesL_ (some 109) rfl rfl Try.func31 (by kernel_rfl) rfl #[.int .i64 a0, .int .i64 a1] rfl (by (try simp only [List.map_toArray, List.map_cons, List.map_nil]); first | done | rfl | (simp only [List.length_drop, List.length_take]; rfl)) ?_; (with_reducible refine (mode_Covers.calls kj62 a0 a1 true _ A90.out).mono ?_); rintro e w116 ⟨rfl, hb⟩; refine ⟨_, rfl, ?_⟩; have n0_ := Aside0.mk (below_step (by repeat (first | (with_reducible first | exact HB.out | apply below_alloc | apply pw_below_drewN | apply below_drew1) | exact HB.out)) hb); clear HB; have HB := n0_; clear n0_; (try clear hb); (try clear hb2); (try clear hk); (try clear hi)) | (go_at_call 35; (with_reducible refine (mode_Intent.calls kj62 a0 t224 _ A92.out).mono ?_); rintro e w' ⟨rfl, ⟨nd, rfl⟩⟩) | (go_at_call 35; (with_reducible refine (mode_Intent.calls kj62 a1 t225 _ A93.out).mono ?_); rintro e w' ⟨rfl, ⟨nd, rfl⟩⟩) | (go_at_call 31; (with_reducible refine (mode_Covers.calls kj62 t224 t225 false _ A94.out).mono ?_); rintro e w117 ⟨rfl, hb⟩; have n0_ := Aside0.mk (below_step (by repeat (first | (with_reducible first | exact HB.out | apply below_alloc | apply pw_below_drewN | apply below_drew1) | exact HB.out)) hb); clear HB; have HB := n0_; clear n0_; (try clear hb); (try clear hb2); (try clear hk); (try clear hi)))
                                    go_meet
                                    case rel => exact ⟨_, (true), (by first | rfl | (simp; done) | (simp [*]; done)), H', ⟨by have := HJ5.out; have := HJ16.out; have := HJ55.out; have := HJ62.out; first | omega | exact Nat.le_refl _⟩, ⟨by repeat (first | (with_reducible first | exact HB.out | apply below_alloc | apply pw_below_drewN | apply below_drew1) | exact HB.out)⟩⟩
                              · replace c91 := Bool.eq_false_iff.mpr c91
                                subst c91
                                have H1 : (ltklaw4_ModeLaws.j4 kj62 a0 a1 false) = some r := by rw [if_neg (show ¬ (false = true) by decide)] at H; exact H
                                clear H
                                have H := H1
                                clear H1
                                as_aux_lemma =>
                                  have H' := Aside0.mk H
                                  clear H
                                  go_wp2_with (first | ((with_reducible refine gate_callee (f := 31) rfl ?_); refine goesL_ (some 109) rfl rfl Try.func31 (by kernel_rfl) rfl #[.int .i64 a0, .int .i64 a1] rfl (by (try simp only [List.map_toArray, List.map_cons, List.map_nil]); first | done | rfl | (simp only [List.length_drop, List.length_take]; rfl)) ?_; (with_reducible refine (mode_Covers.calls kj62 a0 a1 false _ A90.out).mono ?_); rintro e w118 ⟨rfl, hb⟩; refine ⟨_, rfl, ?_⟩; have n0_ := Aside0.mk (below_step (by repeat (first | (with_reducible first | exact HB.out | apply below_alloc | apply pw_below_drewN | apply below_drew1) | exact HB.out)) hb); clear HB; have HB := n0_; clear n0_; (try clear hb); (try clear hb2); (try clear hk); (try clear hi)))
                                  go_meet
                                  case rel => exact ⟨_, (false), (by first | rfl | (simp; done) | (simp [*]; done)), H', ⟨by have := HJ5.out; have := HJ16.out; have := HJ55.out; have := HJ62.out; first | omega | exact Nat.le_refl _⟩, ⟨by repeat (first | (with_reducible first | exact HB.out | apply below_alloc | apply pw_below_drewN | apply below_drew1) | exact HB.out)⟩⟩
                            case rest => as_aux_lemma =>
                              clear HC89
                              try clear c1
                              try clear c2
                              try clear p2
                              try clear c3
                              try clear c5
                              try clear c6
                              try clear c7
                              try clear c8
                              try clear c9
                              try clear c10
                              try clear c11
                              try clear c13
                              try clear c23
                              try clear c23b0
                              try clear c23b1
                              try clear c23b2
                              try clear c25
                              try clear c25b0
                              try clear c25b1
                              try clear c27
                              try clear c27b0
                              try clear c27b1
                              try clear c28
                              try clear c29
                              try clear c30
                              try clear c31
                              try clear c32
                              try clear c55
                              try clear c58
                              try clear c60
                              try clear c62
                              try clear c65
                              try clear c67
                              try clear c69
                              try clear c71
                              try clear c88
                              try clear c91
                              try clear c95
                              try clear c97
                              try clear c99
                              try clear c101
                              try clear c110
                              try clear p2
                              obtain ⟨kq, x135_88, rfl, HA, HJ88, HB⟩ := hcut
                              cases kq with
                              | zero => exact absurd HA.out (by simp [ltklaw4_ModeLaws.j4])
                              | succ kj88 =>
                                have H := HA.out
                                clear HA
                                simp only [ltklaw4_ModeLaws.j4] at H
                                by_cases c119 : x135_88 = true
                                · subst c119
                                  have H1 : (some false) = some r := by rw [if_pos rfl] at H; exact H
                                  clear H
                                  have H := H1
                                  clear H1
                                  as_aux_lemma =>
                                    obtain rfl := Option.some.inj H
                                    go_wp2
                                    go_ret
                                    exact ⟨by first | rfl | (simp [errW_none, errW_some] <;> rfl) | (simp [*, errW_none, errW_some] <;> rfl), by repeat (first | (with_reducible first | exact HB.out | apply below_alloc | apply pw_below_drewN | apply below_drew1) | exact HB.out)⟩
                                · replace c119 := Bool.eq_false_iff.mpr c119
                                  subst c119
                                  have H1 : ((ltklaw4_first.f kj88).bind fun t233 => (if t233 = true then ((mode_Covers.f kj88 a0 a1).bind fun t234 => (if t234 = true then ((mode_Covers.f kj88 a1 a0).bind fun t235 => (if t235 = true then (if a0 = a1 then ((mode_Writes.f a0).bind fun t236 => (if t236 = true then ((mode_Reads.f a0).bind fun t237 => (some t237)) else (some true))) else (some false)) else ((mode_Writes.f a0).bind fun t238 => (if t238 = true then ((mode_Reads.f a0).bind fun t239 => (some t239)) else (some true))))) else ((mode_Writes.f a0).bind fun t240 => (if t240 = true then ((mode_Reads.f a0).bind fun t241 => (some t241)) else (some true))))) else (some false))) = some r := by rw [if_neg (show ¬ (false = true) by decide)] at H; exact H
                                  clear H
                                  have H := H1
                                  clear H1
                                  replace H := Option.bind_eq_some_iff.mp H
                                  obtain ⟨t233, A1200, H⟩ := H
                                  replace H : (if t233 = true then ((mode_Covers.f kj88 a0 a1).bind fun t234 => (if t234 = true then ((mode_Covers.f kj88 a1 a0).bind fun t235 => (if t235 = true then (if a0 = a1 then ((mode_Writes.f a0).bind fun t236 => (if t236 = true then ((mode_Reads.f a0).bind fun t237 => (some t237)) else (some true))) else (some false)) else ((mode_Writes.f a0).bind fun t238 => (if t238 = true then ((mode_Reads.f a0).bind fun t239 => (some t239)) else (some true))))) else ((mode_Writes.f a0).bind fun t240 => (if t240 = true then ((mode_Reads.f a0).bind fun t241 => (some t241)) else (some true))))) else (some false)) = some r := H
                                  have A120 := Aside0.mk A1200
                                  clear A1200
                                  by_cases c121 : t233 = true
                                  · subst c121
                                    have H1 : ((mode_Covers.f kj88 a0 a1).bind fun t234 => (if t234 = true then ((mode_Covers.f kj88 a1 a0).bind fun t235 => (if t235 = true then (if a0 = a1 then ((mode_Writes.f a0).bind fun t236 => (if t236 = true then ((mode_Reads.f a0).bind fun t237 => (some t237)) else (some true))) else (some false)) else ((mode_Writes.f a0).bind fun t238 => (if t238 = true then ((mode_Reads.f a0).bind fun t239 => (some t239)) else (some true))))) else ((mode_Writes.f a0).bind fun t240 => (if t240 = true then ((mode_Reads.f a0).bind fun t241 => (some t241)) else (some true))))) = some r := by rw [if_pos rfl] at H; exact H
                                    clear H
                                    have H := H1
                                    clear H1
                                    replace H := Option.bind_eq_some_iff.mp H
                                    obtain ⟨t234, A1220, H⟩ := H
                                    replace H : (if t234 = true then ((mode_Covers.f kj88 a1 a0).bind fun t235 => (if t235 = true then (if a0 = a1 then ((mode_Writes.f a0).bind fun t236 => (if t236 = true then ((mode_Reads.f a0).bind fun t237 => (some t237)) else (some true))) else (some false)) else ((mode_Writes.f a0).bind fun t238 => (if t238 = true then ((mode_Reads.f a0).bind fun t239 => (some t239)) else (some true))))) else ((mode_Writes.f a0).bind fun t240 => (if t240 = true then ((mode_Reads.f a0).bind fun t241 => (some t241)) else (some true)))) = some r := H
                                    have A122 := Aside0.mk A1220
                                    clear A1220
                                    by_cases c123 : t234 = true
                                    · subst c123
                                      have H1 : ((mode_Covers.f kj88 a1 a0).bind fun t235 => (if t235 = true then (if a0 = a1 then ((mode_Writes.f a0).bind fun t236 => (if t236 = true then ((mode_Reads.f a0).bind fun t237 => (some t237)) else (some true))) else (some false)) else ((mode_Writes.f a0).bind fun t238 => (if t238 = true then ((mode_Reads.f a0).bind fun t239 => (some t239)) else (some true))))) = some r := by rw [if_pos rfl] at H; exact H
                                      clear H
                                      have H := H1
                                      clear H1
                                      replace H := Option.bind_eq_some_iff.mp H
                                      obtain ⟨t235, A1240, H⟩ := H
                                      replace H : (if t235 = true then (if a0 = a1 then ((mode_Writes.f a0).bind fun t236 => (if t236 = true then ((mode_Reads.f a0).bind fun t237 => (some t237)) else (some true))) else (some false)) else ((mode_Writes.f a0).bind fun t238 => (if t238 = true then ((mode_Reads.f a0).bind fun t239 => (some t239)) else (some true)))) = some r := H
                                      have A124 := Aside0.mk A1240
                                      clear A1240
                                      by_cases c125 : t235 = true
                                      · subst c125
                                        have H1 : (if a0 = a1 then ((mode_Writes.f a0).bind fun t236 => (if t236 = true then ((mode_Reads.f a0).bind fun t237 => (some t237)) else (some true))) else (some false)) = some r := by rw [if_pos rfl] at H; exact H
                                        clear H
                                        have H := H1
                                        clear H1
                                        by_cases c126 : a0 = a1
                                        · rw [if_pos c126] at H
                                          have c126b0 : (a0 == a1) = true := beq_iff_eq.mpr c126
                                          have c126b1 : (a0 != a1) = false := bne_eq_false_iff_eq.mpr c126
                                          clear c126
                                          replace H := Option.bind_eq_some_iff.mp H
                                          obtain ⟨t236, A1270, H⟩ := H
                                          replace H : (if t236 = true then ((mode_Reads.f a0).bind fun t237 => (some t237)) else (some true)) = some r := H
                                          have A127 := Aside0.mk A1270
                                          clear A1270
                                          by_cases c128 : t236 = true
                                          · subst c128
                                            have H1 : ((mode_Reads.f a0).bind fun t237 => (some t237)) = some r := by rw [if_pos rfl] at H; exact H
                                            clear H
                                            have H := H1
                                            clear H1
                                            replace H := Option.bind_eq_some_iff.mp H
                                            obtain ⟨t237, A1290, H⟩ := H
                                            replace H : (some t237) = some r := H
                                            have A129 := Aside0.mk A1290
                                            clear A1290
                                            as_aux_lemma =>
                                              obtain rfl := Option.some.inj H
                                              go_wp2_with (first | ((with_reducible refine gate_callee (f := 28) rfl ?_); refine goesL_ (some 136) rfl rfl Try.func28 (by kernel_rfl) rfl #[] rfl (by (try simp only [List.map_toArray, List.map_cons, List.map_nil]); first | done | rfl | (simp only [List.length_drop, List.length_take]; rfl)) ?_; (with_reducible refine (ltklaw4_first.calls kj88  true _ A120.out).mono ?_); rintro e w130 ⟨rfl, hb⟩; refine ⟨_, rfl, ?_⟩; have n0_ := Aside0.mk (below_step (by repeat (first | (with_reducible first | exact HB.out | apply below_alloc | apply pw_below_drewN | apply below_drew1) | exact HB.out)) hb); clear HB; have HB := n0_; clear n0_; (try clear hb); (try clear hb2); (try clear hk); (try clear hi)) | (go_at_call 31; (with_reducible refine (mode_Covers.calls kj88 a0 a1 true _ A122.out).mono ?_); rintro e w131 ⟨rfl, hb⟩; have n0_ := Aside0.mk (below_step (by repeat (first | (with_reducible first | exact HB.out | apply below_alloc | apply pw_below_drewN | apply below_drew1) | exact HB.out)) hb); clear HB; have HB := n0_; clear n0_; (try clear hb); (try clear hb2); (try clear hk); (try clear hi)) | (go_at_call 31; (with_reducible refine (mode_Covers.calls kj88 a1 a0 true _ A124.out).mono ?_); rintro e w132 ⟨rfl, hb⟩; have n0_ := Aside0.mk (below_step (by repeat (first | (with_reducible first | exact HB.out | apply below_alloc | apply pw_below_drewN | apply below_drew1) | exact HB.out)) hb); clear HB; have HB := n0_; clear n0_; (try clear hb); (try clear hb2); (try clear hk); (try clear hi)) | (go_at_call 33; (with_reducible refine (mode_Writes.calls a0 true _ A127.out).mono ?_); rintro e w' ⟨rfl, ⟨nd, rfl⟩⟩) | (go_at_call 34; (with_reducible refine (mode_Reads.calls a0 t237 _ A129.out).mono ?_); rintro e w' ⟨rfl, ⟨nd, rfl⟩⟩))
                                              go_ret
                                              exact ⟨by first | rfl | (simp [errW_none, errW_some] <;> rfl) | (simp [*, errW_none, errW_some] <;> rfl), by repeat (first | (with_reducible first | exact HB.out | apply below_alloc | apply pw_below_drewN | apply below_drew1) | exact HB.out)⟩
                                          · replace c128 := Bool.eq_false_iff.mpr c128
                                            subst c128
                                            have H1 : (some true) = some r := by rw [if_neg (show ¬ (false = true) by decide)] at H; exact H
                                            clear H
                                            have H := H1
                                            clear H1
                                            as_aux_lemma =>
                                              obtain rfl := Option.some.inj H
                                              go_wp2_with (first | ((with_reducible refine gate_callee (f := 28) rfl ?_); refine goesL_ (some 136) rfl rfl Try.func28 (by kernel_rfl) rfl #[] rfl (by (try simp only [List.map_toArray, List.map_cons, List.map_nil]); first | done | rfl | (simp only [List.length_drop, List.length_take]; rfl)) ?_; (with_reducible refine (ltklaw4_first.calls kj88  true _ A120.out).mono ?_); rintro e w133 ⟨rfl, hb⟩; refine ⟨_, rfl, ?_⟩; have n0_ := Aside0.mk (below_step (by repeat (first | (with_reducible first | exact HB.out | apply below_alloc | apply pw_below_drewN | apply below_drew1) | exact HB.out)) hb); clear HB; have HB := n0_; clear n0_; (try clear hb); (try clear hb2); (try clear hk); (try clear hi)) | (go_at_call 31; (with_reducible refine (mode_Covers.calls kj88 a0 a1 true _ A122.out).mono ?_); rintro e w134 ⟨rfl, hb⟩; have n0_ := Aside0.mk (below_step (by repeat (first | (with_reducible first | exact HB.out | apply below_alloc | apply pw_below_drewN | apply below_drew1) | exact HB.out)) hb); clear HB; have HB := n0_; clear n0_; (try clear hb); (try clear hb2); (try clear hk); (try clear hi)) | (go_at_call 31; (with_reducible refine (mode_Covers.calls kj88 a1 a0 true _ A124.out).mono ?_); rintro e w135 ⟨rfl, hb⟩; have n0_ := Aside0.mk (below_step (by repeat (first | (with_reducible first | exact HB.out | apply below_alloc | apply pw_below_drewN | apply below_drew1) | exact HB.out)) hb); clear HB; have HB := n0_; clear n0_; (try clear hb); (try clear hb2); (try clear hk); (try clear hi)) | (go_at_call 33; (with_reducible refine (mode_Writes.calls a0 false _ A127.out).mono ?_); rintro e w' ⟨rfl, ⟨nd, rfl⟩⟩))
                                              go_ret
                                              exact ⟨by first | rfl | (simp [errW_none, errW_some] <;> rfl) | (simp [*, errW_none, errW_some] <;> rfl), by repeat (first | (with_reducible first | exact HB.out | apply below_alloc | apply pw_below_drewN | apply below_drew1) | exact HB.out)⟩
                                        · rw [if_neg c126] at H
                                          have c126b0 : (a0 == a1) = false := beq_eq_false_iff_ne.mpr c126
                                          have c126b1 : (a0 != a1) = true := bne_iff_ne.mpr c126
                                          as_aux_lemma =>
                                            obtain rfl := Option.some.inj H
                                            go_wp2_with (first | ((with_reducible refine gate_callee (f := 28) rfl ?_); refine goesL_ (some 136) rfl rfl Try.func28 (by kernel_rfl) rfl #[] rfl (by (try simp only [List.map_toArray, List.map_cons, List.map_nil]); first | done | rfl | (simp only [List.length_drop, List.length_take]; rfl)) ?_; (with_reducible refine (ltklaw4_first.calls kj88  true _ A120.out).mono ?_); rintro e w136 ⟨rfl, hb⟩; refine ⟨_, rfl, ?_⟩; have n0_ := Aside0.mk (below_step (by repeat (first | (with_reducible first | exact HB.out | apply below_alloc | apply pw_below_drewN | apply below_drew1) | exact HB.out)) hb); clear HB; have HB := n0_; clear n0_; (try clear hb); (try clear hb2); (try clear hk); (try clear hi)) | (go_at_call 31; (with_reducible refine (mode_Covers.calls kj88 a0 a1 true _ A122.out).mono ?_); rintro e w137 ⟨rfl, hb⟩; have n0_ := Aside0.mk (below_step (by repeat (first | (with_reducible first | exact HB.out | apply below_alloc | apply pw_below_drewN | apply below_drew1) | exact HB.out)) hb); clear HB; have HB := n0_; clear n0_; (try clear hb); (try clear hb2); (try clear hk); (try clear hi)) | (go_at_call 31; (with_reducible refine (mode_Covers.calls kj88 a1 a0 true _ A124.out).mono ?_); rintro e w138 ⟨rfl, hb⟩; have n0_ := Aside0.mk (below_step (by repeat (first | (with_reducible first | exact HB.out | apply below_alloc | apply pw_below_drewN | apply below_drew1) | exact HB.out)) hb); clear HB; have HB := n0_; clear n0_; (try clear hb); (try clear hb2); (try clear hk); (try clear hi)))
                                            go_ret
                                            exact ⟨by first | rfl | (simp [errW_none, errW_some] <;> rfl) | (simp [*, errW_none, errW_some] <;> rfl), by repeat (first | (with_reducible first | exact HB.out | apply below_alloc | apply pw_below_drewN | apply below_drew1) | exact HB.out)⟩
                                      · replace c125 := Bool.eq_false_iff.mpr c125
                                        subst c125
                                        have H1 : ((mode_Writes.f a0).bind fun t238 => (if t238 = true then ((mode_Reads.f a0).bind fun t239 => (some t239)) else (some true))) = some r := by rw [if_neg (show ¬ (false = true) by decide)] at H; exact H
                                        clear H
                                        have H := H1
                                        clear H1
                                        replace H := Option.bind_eq_some_iff.mp H
                                        obtain ⟨t238, A1390, H⟩ := H
                                        replace H : (if t238 = true then ((mode_Reads.f a0).bind fun t239 => (some t239)) else (some true)) = some r := H
                                        have A139 := Aside0.mk A1390
                                        clear A1390
                                        by_cases c140 : t238 = true
                                        · subst c140
                                          have H1 : ((mode_Reads.f a0).bind fun t239 => (some t239)) = some r := by rw [if_pos rfl] at H; exact H
                                          clear H
                                          have H := H1
                                          clear H1
                                          replace H := Option.bind_eq_some_iff.mp H
                                          obtain ⟨t239, A1410, H⟩ := H
                                          replace H : (some t239) = some r := H
                                          have A141 := Aside0.mk A1410
                                          clear A1410
                                          as_aux_lemma =>
                                            obtain rfl := Option.some.inj H
                                            go_wp2_with (first | ((with_reducible refine gate_callee (f := 28) rfl ?_); refine goesL_ (some 136) rfl rfl Try.func28 (by kernel_rfl) rfl #[] rfl (by (try simp only [List.map_toArray, List.map_cons, List.map_nil]); first | done | rfl | (simp only [List.length_drop, List.length_take]; rfl)) ?_; (with_reducible refine (ltklaw4_first.calls kj88  true _ A120.out).mono ?_); rintro e w142 ⟨rfl, hb⟩; refine ⟨_, rfl, ?_⟩; have n0_ := Aside0.mk (below_step (by repeat (first | (with_reducible first | exact HB.out | apply below_alloc | apply pw_below_drewN | apply below_drew1) | exact HB.out)) hb); clear HB; have HB := n0_; clear n0_; (try clear hb); (try clear hb2); (try clear hk); (try clear hi)) | (go_at_call 31; (with_reducible refine (mode_Covers.calls kj88 a0 a1 true _ A122.out).mono ?_); rintro e w143 ⟨rfl, hb⟩; have n0_ := Aside0.mk (below_step (by repeat (first | (with_reducible first | exact HB.out | apply below_alloc | apply pw_below_drewN | apply below_drew1) | exact HB.out)) hb); clear HB; have HB := n0_; clear n0_; (try clear hb); (try clear hb2); (try clear hk); (try clear hi)) | (go_at_call 31; (with_reducible refine (mode_Covers.calls kj88 a1 a0 false _ A124.out).mono ?_); rintro e w144 ⟨rfl, hb⟩; have n0_ := Aside0.mk (below_step (by repeat (first | (with_reducible first | exact HB.out | apply below_alloc | apply pw_below_drewN | apply below_drew1) | exact HB.out)) hb); clear HB; have HB := n0_; clear n0_; (try clear hb); (try clear hb2); (try clear hk); (try clear hi)) | (go_at_call 33; (with_reducible refine (mode_Writes.calls a0 true _ A139.out).mono ?_); rintro e w' ⟨rfl, ⟨nd, rfl⟩⟩) | (go_at_call 34; (with_reducible refine (mode_Reads.calls a0 t239 _ A141.out).mono ?_); rintro e w' ⟨rfl, ⟨nd, rfl⟩⟩))
                                            go_ret
                                            exact ⟨by first | rfl | (simp [errW_none, errW_some] <;> rfl) | (simp [*, errW_none, errW_some] <;> rfl), by repeat (first | (with_reducible first | exact HB.out | apply below_alloc | apply pw_below_drewN | apply below_drew1) | exact HB.out)⟩
                                        · replace c140 := Bool.eq_false_iff.mpr c140
                                          subst c140
                                          have H1 : (some true) = some r := by rw [if_neg (show ¬ (false = true) by decide)] at H; exact H
                                          clear H
                                          have H := H1
                                          clear H1
                                          as_aux_lemma =>
                                            obtain rfl := Option.some.inj H
                                            go_wp2_with (first | ((with_reducible refine gate_callee (f := 28) rfl ?_); refine goesL_ (some 136) rfl rfl Try.func28 (by kernel_rfl) rfl #[] rfl (by (try simp only [List.map_toArray, List.map_cons, List.map_nil]); first | done | rfl | (simp only [List.length_drop, List.length_take]; rfl)) ?_; (with_reducible refine (ltklaw4_first.calls kj88  true _ A120.out).mono ?_); rintro e w145 ⟨rfl, hb⟩; refine ⟨_, rfl, ?_⟩; have n0_ := Aside0.mk (below_step (by repeat (first | (with_reducible first | exact HB.out | apply below_alloc | apply pw_below_drewN | apply below_drew1) | exact HB.out)) hb); clear HB; have HB := n0_; clear n0_; (try clear hb); (try clear hb2); (try clear hk); (try clear hi)) | (go_at_call 31; (with_reducible refine (mode_Covers.calls kj88 a0 a1 true _ A122.out).mono ?_); rintro e w146 ⟨rfl, hb⟩; have n0_ := Aside0.mk (below_step (by repeat (first | (with_reducible first | exact HB.out | apply below_alloc | apply pw_below_drewN | apply below_drew1) | exact HB.out)) hb); clear HB; have HB := n0_; clear n0_; (try clear hb); (try clear hb2); (try clear hk); (try clear hi)) | (go_at_call 31; (with_reducible refine (mode_Covers.calls kj88 a1 a0 false _ A124.out).mono ?_); rintro e w147 ⟨rfl, hb⟩; have n0_ := Aside0.mk (below_step (by repeat (first | (with_reducible first | exact HB.out | apply below_alloc | apply pw_below_drewN | apply below_drew1) | exact HB.out)) hb); clear HB; have HB := n0_; clear n0_; (try clear hb); (try clear hb2); (try clear hk); (try clear hi)) | (go_at_call 33; (with_reducible refine (mode_Writes.calls a0 false _ A139.out).mono ?_); rintro e w' ⟨rfl, ⟨nd, rfl⟩⟩))
                                            go_ret
                                            exact ⟨by first | rfl | (simp [errW_none, errW_some] <;> rfl) | (simp [*, errW_none, errW_some] <;> rfl), by repeat (first | (with_reducible first | exact HB.out | apply below_alloc | apply pw_below_drewN | apply below_drew1) | exact HB.out)⟩
                                    · replace c123 := Bool.eq_false_iff.mpr c123
                                      subst c123
                                      have H1 : ((mode_Writes.f a0).bind fun t240 => (if t240 = true then ((mode_Reads.f a0).bind fun t241 => (some t241)) else (some true))) = some r := by rw [if_neg (show ¬ (false = true) by decide)] at H; exact H
                                      clear H
                                      have H := H1
                                      clear H1
                                      replace H := Option.bind_eq_some_iff.mp H
                                      obtain ⟨t240, A1480, H⟩ := H
                                      replace H : (if t240 = true then ((mode_Reads.f a0).bind fun t241 => (some t241)) else (some true)) = some r := H
                                      have A148 := Aside0.mk A1480
                                      clear A1480
                                      by_cases c149 : t240 = true
                                      · subst c149
                                        have H1 : ((mode_Reads.f a0).bind fun t241 => (some t241)) = some r := by rw [if_pos rfl] at H; exact H
                                        clear H
                                        have H := H1
                                        clear H1
                                        replace H := Option.bind_eq_some_iff.mp H
                                        obtain ⟨t241, A1500, H⟩ := H
                                        replace H : (some t241) = some r := H
                                        have A150 := Aside0.mk A1500
                                        clear A1500
                                        as_aux_lemma =>
                                          obtain rfl := Option.some.inj H
                                          go_wp2_with (first | ((with_reducible refine gate_callee (f := 28) rfl ?_); refine goesL_ (some 136) rfl rfl Try.func28 (by kernel_rfl) rfl #[] rfl (by (try simp only [List.map_toArray, List.map_cons, List.map_nil]); first | done | rfl | (simp only [List.length_drop, List.length_take]; rfl)) ?_; (with_reducible refine (ltklaw4_first.calls kj88  true _ A120.out).mono ?_); rintro e w151 ⟨rfl, hb⟩; refine ⟨_, rfl, ?_⟩; have n0_ := Aside0.mk (below_step (by repeat (first | (with_reducible first | exact HB.out | apply below_alloc | apply pw_below_drewN | apply below_drew1) | exact HB.out)) hb); clear HB; have HB := n0_; clear n0_; (try clear hb); (try clear hb2); (try clear hk); (try clear hi)) | (go_at_call 31; (with_reducible refine (mode_Covers.calls kj88 a0 a1 false _ A122.out).mono ?_); rintro e w152 ⟨rfl, hb⟩; have n0_ := Aside0.mk (below_step (by repeat (first | (with_reducible first | exact HB.out | apply below_alloc | apply pw_below_drewN | apply below_drew1) | exact HB.out)) hb); clear HB; have HB := n0_; clear n0_; (try clear hb); (try clear hb2); (try clear hk); (try clear hi)) | (go_at_call 33; (with_reducible refine (mode_Writes.calls a0 true _ A148.out).mono ?_); rintro e w' ⟨rfl, ⟨nd, rfl⟩⟩) | (go_at_call 34; (with_reducible refine (mode_Reads.calls a0 t241 _ A150.out).mono ?_); rintro e w' ⟨rfl, ⟨nd, rfl⟩⟩))
                                          go_ret
                                          exact ⟨by first | rfl | (simp [errW_none, errW_some] <;> rfl) | (simp [*, errW_none, errW_some] <;> rfl), by repeat (first | (with_reducible first | exact HB.out | apply below_alloc | apply pw_below_drewN | apply below_drew1) | exact HB.out)⟩
                                      · replace c149 := Bool.eq_false_iff.mpr c149
                                        subst c149
                                        have H1 : (some true) = some r := by rw [if_neg (show ¬ (false = true) by decide)] at H; exact H
                                        clear H
                                        have H := H1
                                        clear H1
                                        as_aux_lemma =>
                                          obtain rfl := Option.some.inj H
                                          go_wp2_with (first | ((with_reducible refine gate_callee (f := 28) rfl ?_); refine goesL_ (some 136) rfl rfl Try.func28 (by kernel_rfl) rfl #[] rfl (by (try simp only [List.map_toArray, List.map_cons, List.map_nil]); first | done | rfl | (simp only [List.length_drop, List.length_take]; rfl)) ?_; (with_reducible refine (ltklaw4_first.calls kj88  true _ A120.out).mono ?_); rintro e w153 ⟨rfl, hb⟩; refine ⟨_, rfl, ?_⟩; have n0_ := Aside0.mk (below_step (by repeat (first | (with_reducible first | exact HB.out | apply below_alloc | apply pw_below_drewN | apply below_drew1) | exact HB.out)) hb); clear HB; have HB := n0_; clear n0_; (try clear hb); (try clear hb2); (try clear hk); (try clear hi)) | (go_at_call 31; (with_reducible refine (mode_Covers.calls kj88 a0 a1 false _ A122.out).mono ?_); rintro e w154 ⟨rfl, hb⟩; have n0_ := Aside0.mk (below_step (by repeat (first | (with_reducible first | exact HB.out | apply below_alloc | apply pw_below_drewN | apply below_drew1) | exact HB.out)) hb); clear HB; have HB := n0_; clear n0_; (try clear hb); (try clear hb2); (try clear hk); (try clear hi)) | (go_at_call 33; (with_reducible refine (mode_Writes.calls a0 false _ A148.out).mono ?_); rintro e w' ⟨rfl, ⟨nd, rfl⟩⟩))
                                          go_ret
                                          exact ⟨by first | rfl | (simp [errW_none, errW_some] <;> rfl) | (simp [*, errW_none, errW_some] <;> rfl), by repeat (first | (with_reducible first | exact HB.out | apply below_alloc | apply pw_below_drewN | apply below_drew1) | exact HB.out)⟩
                                  · replace c121 := Bool.eq_false_iff.mpr c121
                                    subst c121
                                    have H1 : (some false) = some r := by rw [if_neg (show ¬ (false = true) by decide)] at H; exact H
                                    clear H
                                    have H := H1
                                    clear H1
                                    as_aux_lemma =>
                                      obtain rfl := Option.some.inj H
                                      go_wp2_with (first | ((with_reducible refine gate_callee (f := 28) rfl ?_); refine goesL_ (some 136) rfl rfl Try.func28 (by kernel_rfl) rfl #[] rfl (by (try simp only [List.map_toArray, List.map_cons, List.map_nil]); first | done | rfl | (simp only [List.length_drop, List.length_take]; rfl)) ?_; (with_reducible refine (ltklaw4_first.calls kj88  false _ A120.out).mono ?_); rintro e w155 ⟨rfl, hb⟩; refine ⟨_, rfl, ?_⟩; have n0_ := Aside0.mk (below_step (by repeat (first | (with_reducible first | exact HB.out | apply below_alloc | apply pw_below_drewN | apply below_drew1) | exact HB.out)) hb); clear HB; have HB := n0_; clear n0_; (try clear hb); (try clear hb2); (try clear hk); (try clear hi)))
                                      go_ret
                                      exact ⟨by first | rfl | (simp [errW_none, errW_some] <;> rfl) | (simp [*, errW_none, errW_some] <;> rfl), by repeat (first | (with_reducible first | exact HB.out | apply below_alloc | apply pw_below_drewN | apply below_drew1) | exact HB.out)⟩
  · replace c5 := Bool.eq_false_iff.mpr c5
    subst c5
    have H1 : (some false) = some r := by rw [if_neg (show ¬ (false = true) by decide)] at H; exact H
    clear H
    have H := H1
    clear H1
    as_aux_lemma =>
      obtain rfl := Option.some.inj H
      go_enter Try.func13, Try.ntmps13
      go_wp2_with (first | ((with_reducible refine gate_callee (f := 28) rfl ?_); refine goesL_ (some 8) rfl rfl Try.func28 (by kernel_rfl) rfl #[] rfl (by (try simp only [List.map_toArray, List.map_cons, List.map_nil]); first | done | rfl | (simp only [List.length_drop, List.length_take]; rfl)) ?_; (with_reducible refine (ltklaw4_first.calls k  false _ A4.out).mono ?_); rintro e w156 ⟨rfl, hb⟩; refine ⟨_, rfl, ?_⟩; have n0_ := Aside0.mk (below_step (by repeat (first | (with_reducible first | exact HB.out | apply below_alloc | apply pw_below_drewN | apply below_drew1) | exact HB.out)) hb); clear HB; have HB := n0_; clear n0_; (try clear hb); (try clear hb2); (try clear hk); (try clear hi)))
      go_ret
      exact ⟨by first | rfl | (simp [errW_none, errW_some] <;> rfl) | (simp [*, errW_none, errW_some] <;> rfl), by repeat (first | (with_reducible first | exact HB.out | apply below_alloc | apply pw_below_drewN | apply below_drew1) | exact HB.out)⟩

/-- THE ONE PURE STATEMENT of ltklaw4_ModeLaws: yours. -/
def ltklaw4_ModeLaws.Pure : Prop := ∀ (a0 : Int) (a1 : Int) (a2 : Int), (Lit.int .i64 a0).wf = true → (Lit.int .i64 a1).wf = true → (Lit.int .i64 a2).wf = true → ∃ k, ltklaw4_ModeLaws.f k a0 a1 a2 = some true
theorem ltklaw4_ModeLaws.walk (P : ltklaw4_ModeLaws.Pure) (a0 : Int) (a1 : Int) (a2 : Int) (w : World) (w0 : (Lit.int .i64 a0).wf = true) (w1 : (Lit.int .i64 a1).wf = true) (w2 : (Lit.int .i64 a2).wf = true) :
    Calls Try.prog 13 #[.int .i64 a0, .int .i64 a1, .int .i64 a2] w fun e w' => e = .returned (.bool true) ∧ Below w.heap.size w w' := by
  obtain ⟨k, h⟩ := P a0 a1 a2 w0 w1 w2
  refine (ltklaw4_ModeLaws.calls k a0 a1 a2 true w h).mono ?_
  rintro e w' ⟨rfl, hd⟩
  exact ⟨rfl, hd⟩

end Go.Proofs.Ytdpcodnooonmlaa.PMo
