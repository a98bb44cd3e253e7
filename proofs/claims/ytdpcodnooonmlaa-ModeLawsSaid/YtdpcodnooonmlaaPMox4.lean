-- Written by a program of this session (myprint.py) over the kit's print; some functions' contracts are given by hand.
import Derived.Test.YtdpcodnooonmlaaPMox0
import Derived.Test.YtdpcodnooonmlaaPMox1
import Derived.Test.YtdpcodnooonmlaaPMox2
import Derived.Test.YtdpcodnooonmlaaPMox3
namespace Go.Proofs.Ytdpcodnooonmlaa.PMo
open Go.RowKit Go.Proofs.YtdpcodnooonmlaaW.PrintWords Go.Proofs.YtdpcodnooonmlaaW.PrintLast Go.Proofs.YtdpcodnooonmlaaW.PrintMore
attribute [local go_sem] max2_int min2_int max_two min_two max_three min_three max_four min_four   -- for this text's walks alone
set_option linter.unusedVariables false
set_option linter.unusedSimpArgs false

/-! ### ltklaw4_ModeTells: function 12 -/
def ltklaw4_ModeTells.f (k : Nat) (a0 : Int) (a1 : Int) (l2 : List Int) : Option (Bool) := (ltklaw4_first.f k).bind fun t167 => (if t167 = true then (if (l2.length : Int) > 100 then ((ltklaw4_first.f k).bind fun t168 => (some t168)) else ((ltklaw4_first.f k).bind fun t169 => (if t169 = true then ((mode_Known.f a0).bind fun t170 => ((ltkref1_Mode.f a0).bind fun t171 => (if (t170 == t171) = true then ((mode_Fits.f a0 a1).bind fun t172 => ((ltkref1_Fits.f a0 a1).bind fun t173 => (if (t172 == t173) = true then ((mode_Covers.f k a0 a1).bind fun t174 => ((ltkref1_Covers.f k a0 a1).bind fun t175 => (if (t174 == t175) = true then ((mode_Sup.f k l2).bind fun t176 => ((ltkref1_Sup.f k l2).bind fun t177 => (if t176 = t177 then ((mode_Intent.f k a0).bind fun t178 => ((ltkref1_Intent.f k a0).bind fun t179 => (if t178 = t179 then ((mode_Reads.f a0).bind fun t180 => ((ltkref1_Reads.f a0).bind fun t181 => (if (t180 == t181) = true then ((mode_Writes.f a0).bind fun t182 => ((ltkref1_Writes.f a0).bind fun t183 => (some (t182 == t183)))) else (some false)))) else (some false)))) else (some false)))) else (some false)))) else (some false)))) else (some false)))) else (some false)))) else (some false))
theorem ltklaw4_ModeTells.mono : ∀ a0 a1 a2 k, LeO (ltklaw4_ModeTells.f k a0 a1 a2) (ltklaw4_ModeTells.f (k + 1) a0 a1 a2) := by
  intro a0 a1 a2 k
  unfold ltklaw4_ModeTells.f
  repeat' first
      | (with_reducible exact ltklaw4_first.mono _)
      | (with_reducible exact ltkref1_Covers.mono _ _ _)
      | (with_reducible exact ltkref1_Intent.mono _ _)
      | (with_reducible exact ltkref1_Sup.mono _ _)
      | (with_reducible exact mode_Covers.mono _ _ _)
      | (with_reducible exact mode_Intent.mono _ _)
      | (with_reducible exact mode_Sup.mono _ _)
      | (with_reducible exact LeO.refl _)
      | (with_reducible exact LeO.none _)
      | (with_reducible refine LeO.ite ?_ ?_)
      | (with_reducible refine LeO.bind ?_ (fun _ => ?_))
      | exact ltklaw4_first.mono _
      | exact ltkref1_Covers.mono _ _ _
      | exact ltkref1_Intent.mono _ _
      | exact ltkref1_Sup.mono _ _
      | exact mode_Covers.mono _ _ _
      | exact mode_Intent.mono _ _
      | exact mode_Sup.mono _ _
      | exact LeO.none _
      | refine LeO.ite ?_ ?_
      | refine LeO.bind ?_ (fun _ => ?_)
set_option maxHeartbeats 8000000 in
set_option maxRecDepth 100000 in
theorem ltklaw4_ModeTells.calls (k : Nat) (a0 : Int) (a1 : Int) (A2 : Option Addr) (c2 : Nat) (l2 : List Int) (r : Bool) (w : World) (hr2 : Kd.C (Kd.int .i64) w A2 l2.length l2) (hc2 : l2.length ≤ c2) (h : ltklaw4_ModeTells.f k a0 a1 l2 = some r) :
    Calls Try.prog 12 #[.int .i64 a0, .int .i64 a1, .slice A2 l2.length c2] w fun e w' => e = .returned (.bool r) ∧ Below w.heap.size w w' := by
  have HR2 := Aside0.mk hr2
  have HC2 := Aside0.mk hc2
  clear hr2 hc2
  have HB := Aside0.mk (Below.refl w.heap.size w)
  have H : ((ltklaw4_first.f k).bind fun t167 => (if t167 = true then (if (l2.length : Int) > 100 then ((ltklaw4_first.f k).bind fun t168 => (some t168)) else ((ltklaw4_first.f k).bind fun t169 => (if t169 = true then ((mode_Known.f a0).bind fun t170 => ((ltkref1_Mode.f a0).bind fun t171 => (if (t170 == t171) = true then ((mode_Fits.f a0 a1).bind fun t172 => ((ltkref1_Fits.f a0 a1).bind fun t173 => (if (t172 == t173) = true then ((mode_Covers.f k a0 a1).bind fun t174 => ((ltkref1_Covers.f k a0 a1).bind fun t175 => (if (t174 == t175) = true then ((mode_Sup.f k l2).bind fun t176 => ((ltkref1_Sup.f k l2).bind fun t177 => (if t176 = t177 then ((mode_Intent.f k a0).bind fun t178 => ((ltkref1_Intent.f k a0).bind fun t179 => (if t178 = t179 then ((mode_Reads.f a0).bind fun t180 => ((ltkref1_Reads.f a0).bind fun t181 => (if (t180 == t181) = true then ((mode_Writes.f a0).bind fun t182 => ((ltkref1_Writes.f a0).bind fun t183 => (some (t182 == t183)))) else (some false)))) else (some false)))) else (some false)))) else (some false)))) else (some false)))) else (some false)))) else (some false)))) else (some false))) = some r := h
  clear h
  replace H := Option.bind_eq_some_iff.mp H
  obtain ⟨t167, A40, H⟩ := H
  replace H : (if t167 = true then (if (l2.length : Int) > 100 then ((ltklaw4_first.f k).bind fun t168 => (some t168)) else ((ltklaw4_first.f k).bind fun t169 => (if t169 = true then ((mode_Known.f a0).bind fun t170 => ((ltkref1_Mode.f a0).bind fun t171 => (if (t170 == t171) = true then ((mode_Fits.f a0 a1).bind fun t172 => ((ltkref1_Fits.f a0 a1).bind fun t173 => (if (t172 == t173) = true then ((mode_Covers.f k a0 a1).bind fun t174 => ((ltkref1_Covers.f k a0 a1).bind fun t175 => (if (t174 == t175) = true then ((mode_Sup.f k l2).bind fun t176 => ((ltkref1_Sup.f k l2).bind fun t177 => (if t176 = t177 then ((mode_Intent.f k a0).bind fun t178 => ((ltkref1_Intent.f k a0).bind fun t179 => (if t178 = t179 then ((mode_Reads.f a0).bind fun t180 => ((ltkref1_Reads.f a0).bind fun t181 => (if (t180 == t181) = true then ((mode_Writes.f a0).bind fun t182 => ((ltkref1_Writes.f a0).bind fun t183 => (some (t182 == t183)))) else (some false)))) else (some false)))) else (some false)))) else (some false)))) else (some false)))) else (some false)))) else (some false)))) else (some false)) = some r := H
  have A4 := Aside0.mk A40
  clear A40
  by_cases c5 : t167 = true
  · subst c5
    have H1 : (if (l2.length : Int) > 100 then ((ltklaw4_first.f k).bind fun t168 => (some t168)) else ((ltklaw4_first.f k).bind fun t169 => (if t169 = true then ((mode_Known.f a0).bind fun t170 => ((ltkref1_Mode.f a0).bind fun t171 => (if (t170 == t171) = true then ((mode_Fits.f a0 a1).bind fun t172 => ((ltkref1_Fits.f a0 a1).bind fun t173 => (if (t172 == t173) = true then ((mode_Covers.f k a0 a1).bind fun t174 => ((ltkref1_Covers.f k a0 a1).bind fun t175 => (if (t174 == t175) = true then ((mode_Sup.f k l2).bind fun t176 => ((ltkref1_Sup.f k l2).bind fun t177 => (if t176 = t177 then ((mode_Intent.f k a0).bind fun t178 => ((ltkref1_Intent.f k a0).bind fun t179 => (if t178 = t179 then ((mode_Reads.f a0).bind fun t180 => ((ltkref1_Reads.f a0).bind fun t181 => (if (t180 == t181) = true then ((mode_Writes.f a0).bind fun t182 => ((ltkref1_Writes.f a0).bind fun t183 => (some (t182 == t183)))) else (some false)))) else (some false)))) else (some false)))) else (some false)))) else (some false)))) else (some false)))) else (some false)))) = some r := by rw [if_pos rfl] at H; exact H
    clear H
    have H := H1
    clear H1
    by_cases c6 : (l2.length : Int) > 100
    · rw [if_pos c6] at H
      have c6b0 : decide (100 < (l2.length : Int)) = true := decide_eq_true c6
      have c6b1 : decide (100 < l2.length) = true := decide_eq_true (by omega)
      clear c6
      replace H := Option.bind_eq_some_iff.mp H
      obtain ⟨t168, A70, H⟩ := H
      replace H : (some t168) = some r := H
      have A7 := Aside0.mk A70
      clear A70
      as_aux_lemma =>
        obtain rfl := Option.some.inj H
        go_enter Try.func12, Try.ntmps12
        go_wp2_with (first | ((with_reducible refine gate_callee (f := 28) rfl ?_); refine goesL_ (some 7) rfl rfl Try.func28 (by kernel_rfl) rfl #[] rfl (by (try simp only [List.map_toArray, List.map_cons, List.map_nil]); first | done | rfl | (simp only [List.length_drop, List.length_take]; rfl)) ?_; (with_reducible refine (ltklaw4_first.calls k  true _ A4.out).mono ?_); rintro e w8 ⟨rfl, hb⟩; refine ⟨_, rfl, ?_⟩; have n0_ := Aside0.mk (below_step (by repeat (first | (with_reducible first | exact HB.out | apply below_alloc | apply pw_below_drewN | apply below_drew1) | exact HB.out)) hb); clear HB; have HB := n0_; clear n0_; (try clear hb); (try clear hb2); (try clear hk); (try clear hi)) | ((with_reducible refine gate_callee (f := 28) rfl ?_); refine goesL_ (some 12) rfl rfl Try.func28 (by kernel_rfl) rfl #[] rfl (by (try simp only [List.map_toArray, List.map_cons, List.map_nil]); first | done | rfl | (simp only [List.length_drop, List.length_take]; rfl)) ?_; (with_reducible refine (ltklaw4_first.calls k  t168 _ A7.out).mono ?_); rintro e w9 ⟨rfl, hb⟩; refine ⟨_, rfl, ?_⟩; have n0_ := Aside0.mk (below_step (by repeat (first | (with_reducible first | exact HB.out | apply below_alloc | apply pw_below_drewN | apply below_drew1) | exact HB.out)) hb); clear HB; have HB := n0_; clear n0_; (try clear hb); (try clear hb2); (try clear hk); (try clear hi)))
        go_ret
        exact ⟨by first | rfl | (simp [errW_none, errW_some] <;> rfl) | (simp [*, errW_none, errW_some] <;> rfl), by repeat (first | (with_reducible first | exact HB.out | apply below_alloc | apply pw_below_drewN | apply below_drew1) | exact HB.out)⟩
    · rw [if_neg c6] at H
      have c6b0 : decide (100 < (l2.length : Int)) = false := decide_eq_false c6
      have c6b1 : decide (100 < l2.length) = false := decide_eq_false (by omega)
      clear c6
      replace H := Option.bind_eq_some_iff.mp H
      obtain ⟨t169, A100, H⟩ := H
      replace H : (if t169 = true then ((mode_Known.f a0).bind fun t170 => ((ltkref1_Mode.f a0).bind fun t171 => (if (t170 == t171) = true then ((mode_Fits.f a0 a1).bind fun t172 => ((ltkref1_Fits.f a0 a1).bind fun t173 => (if (t172 == t173) = true then ((mode_Covers.f k a0 a1).bind fun t174 => ((ltkref1_Covers.f k a0 a1).bind fun t175 => (if (t174 == t175) = true then ((mode_Sup.f k l2).bind fun t176 => ((ltkref1_Sup.f k l2).bind fun t177 => (if t176 = t177 then ((mode_Intent.f k a0).bind fun t178 => ((ltkref1_Intent.f k a0).bind fun t179 => (if t178 = t179 then ((mode_Reads.f a0).bind fun t180 => ((ltkref1_Reads.f a0).bind fun t181 => (if (t180 == t181) = true then ((mode_Writes.f a0).bind fun t182 => ((ltkref1_Writes.f a0).bind fun t183 => (some (t182 == t183)))) else (some false)))) else (some false)))) else (some false)))) else (some false)))) else (some false)))) else (some false)))) else (some false)) = some r := H
      have A10 := Aside0.mk A100
      clear A100
      by_cases c11 : t169 = true
      · subst c11
        have H1 : ((mode_Known.f a0).bind fun t170 => ((ltkref1_Mode.f a0).bind fun t171 => (if (t170 == t171) = true then ((mode_Fits.f a0 a1).bind fun t172 => ((ltkref1_Fits.f a0 a1).bind fun t173 => (if (t172 == t173) = true then ((mode_Covers.f k a0 a1).bind fun t174 => ((ltkref1_Covers.f k a0 a1).bind fun t175 => (if (t174 == t175) = true then ((mode_Sup.f k l2).bind fun t176 => ((ltkref1_Sup.f k l2).bind fun t177 => (if t176 = t177 then ((mode_Intent.f k a0).bind fun t178 => ((ltkref1_Intent.f k a0).bind fun t179 => (if t178 = t179 then ((mode_Reads.f a0).bind fun t180 => ((ltkref1_Reads.f a0).bind fun t181 => (if (t180 == t181) = true then ((mode_Writes.f a0).bind fun t182 => ((ltkref1_Writes.f a0).bind fun t183 => (some (t182 == t183)))) else (some false)))) else (some false)))) else (some false)))) else (some false)))) else (some false)))) else (some false)))) = some r := by rw [if_pos rfl] at H; exact H
        clear H
        have H := H1
        clear H1
        replace H := Option.bind_eq_some_iff.mp H
        obtain ⟨t170, A120, H⟩ := H
        replace H : ((ltkref1_Mode.f a0).bind fun t171 => (if (t170 == t171) = true then ((mode_Fits.f a0 a1).bind fun t172 => ((ltkref1_Fits.f a0 a1).bind fun t173 => (if (t172 == t173) = true then ((mode_Covers.f k a0 a1).bind fun t174 => ((ltkref1_Covers.f k a0 a1).bind fun t175 => (if (t174 == t175) = true then ((mode_Sup.f k l2).bind fun t176 => ((ltkref1_Sup.f k l2).bind fun t177 => (if t176 = t177 then ((mode_Intent.f k a0).bind fun t178 => ((ltkref1_Intent.f k a0).bind fun t179 => (if t178 = t179 then ((mode_Reads.f a0).bind fun t180 => ((ltkref1_Reads.f a0).bind fun t181 => (if (t180 == t181) = true then ((mode_Writes.f a0).bind fun t182 => ((ltkref1_Writes.f a0).bind fun t183 => (some (t182 == t183)))) else (some false)))) else (some false)))) else (some false)))) else (some false)))) else (some false)))) else (some false))) = some r := H
        have A12 := Aside0.mk A120
        clear A120
        replace H := Option.bind_eq_some_iff.mp H
        obtain ⟨t171, A130, H⟩ := H
        replace H : (if (t170 == t171) = true then ((mode_Fits.f a0 a1).bind fun t172 => ((ltkref1_Fits.f a0 a1).bind fun t173 => (if (t172 == t173) = true then ((mode_Covers.f k a0 a1).bind fun t174 => ((ltkref1_Covers.f k a0 a1).bind fun t175 => (if (t174 == t175) = true then ((mode_Sup.f k l2).bind fun t176 => ((ltkref1_Sup.f k l2).bind fun t177 => (if t176 = t177 then ((mode_Intent.f k a0).bind fun t178 => ((ltkref1_Intent.f k a0).bind fun t179 => (if t178 = t179 then ((mode_Reads.f a0).bind fun t180 => ((ltkref1_Reads.f a0).bind fun t181 => (if (t180 == t181) = true then ((mode_Writes.f a0).bind fun t182 => ((ltkref1_Writes.f a0).bind fun t183 => (some (t182 == t183)))) else (some false)))) else (some false)))) else (some false)))) else (some false)))) else (some false)))) else (some false)) = some r := H
        have A13 := Aside0.mk A130
        clear A130
        by_cases c14 : (t170 == t171) = true
        · rw [if_pos c14] at H
          have c14b0 : (t170 == t171) = true := c14
          (try (have c14b1 : decide (t170 = t171) = true := by simpa using c14))
          (try (have c14b2 : (t170 == t171) = true := by simpa using c14))
          clear c14
          replace H := Option.bind_eq_some_iff.mp H
          obtain ⟨t172, A150, H⟩ := H
          replace H : ((ltkref1_Fits.f a0 a1).bind fun t173 => (if (t172 == t173) = true then ((mode_Covers.f k a0 a1).bind fun t174 => ((ltkref1_Covers.f k a0 a1).bind fun t175 => (if (t174 == t175) = true then ((mode_Sup.f k l2).bind fun t176 => ((ltkref1_Sup.f k l2).bind fun t177 => (if t176 = t177 then ((mode_Intent.f k a0).bind fun t178 => ((ltkref1_Intent.f k a0).bind fun t179 => (if t178 = t179 then ((mode_Reads.f a0).bind fun t180 => ((ltkref1_Reads.f a0).bind fun t181 => (if (t180 == t181) = true then ((mode_Writes.f a0).bind fun t182 => ((ltkref1_Writes.f a0).bind fun t183 => (some (t182 == t183)))) else (some false)))) else (some false)))) else (some false)))) else (some false)))) else (some false))) = some r := H
          have A15 := Aside0.mk A150
          clear A150
          replace H := Option.bind_eq_some_iff.mp H
          obtain ⟨t173, A160, H⟩ := H
          replace H : (if (t172 == t173) = true then ((mode_Covers.f k a0 a1).bind fun t174 => ((ltkref1_Covers.f k a0 a1).bind fun t175 => (if (t174 == t175) = true then ((mode_Sup.f k l2).bind fun t176 => ((ltkref1_Sup.f k l2).bind fun t177 => (if t176 = t177 then ((mode_Intent.f k a0).bind fun t178 => ((ltkref1_Intent.f k a0).bind fun t179 => (if t178 = t179 then ((mode_Reads.f a0).bind fun t180 => ((ltkref1_Reads.f a0).bind fun t181 => (if (t180 == t181) = true then ((mode_Writes.f a0).bind fun t182 => ((ltkref1_Writes.f a0).bind fun t183 => (some (t182 == t183)))) else (some false)))) else (some false)))) else (some false)))) else (some false)))) else (some false)) = some r := H
          have A16 := Aside0.mk A160
          clear A160
          by_cases c17 : (t172 == t173) = true
          · rw [if_pos c17] at H
            have c17b0 : (t172 == t173) = true := c17
            (try (have c17b1 : decide (t172 = t173) = true := by simpa using c17))
            (try (have c17b2 : (t172 == t173) = true := by simpa using c17))
            clear c17
            replace H := Option.bind_eq_some_iff.mp H
            obtain ⟨t174, A180, H⟩ := H
            replace H : ((ltkref1_Covers.f k a0 a1).bind fun t175 => (if (t174 == t175) = true then ((mode_Sup.f k l2).bind fun t176 => ((ltkref1_Sup.f k l2).bind fun t177 => (if t176 = t177 then ((mode_Intent.f k a0).bind fun t178 => ((ltkref1_Intent.f k a0).bind fun t179 => (if t178 = t179 then ((mode_Reads.f a0).bind fun t180 => ((ltkref1_Reads.f a0).bind fun t181 => (if (t180 == t181) = true then ((mode_Writes.f a0).bind fun t182 => ((ltkref1_Writes.f a0).bind fun t183 => (some (t182 == t183)))) else (some false)))) else (some false)))) else (some false)))) else (some false))) = some r := H
            have A18 := Aside0.mk A180
            clear A180
            replace H := Option.bind_eq_some_iff.mp H
            obtain ⟨t175, A190, H⟩ := H
            replace H : (if (t174 == t175) = true then ((mode_Sup.f k l2).bind fun t176 => ((ltkref1_Sup.f k l2).bind fun t177 => (if t176 = t177 then ((mode_Intent.f k a0).bind fun t178 => ((ltkref1_Intent.f k a0).bind fun t179 => (if t178 = t179 then ((mode_Reads.f a0).bind fun t180 => ((ltkref1_Reads.f a0).bind fun t181 => (if (t180 == t181) = true then ((mode_Writes.f a0).bind fun t182 => ((ltkref1_Writes.f a0).bind fun t183 => (some (t182 == t183)))) else (some false)))) else (some false)))) else (some false)))) else (some false)) = some r := H
            have A19 := Aside0.mk A190
            clear A190
            by_cases c20 : (t174 == t175) = true
            · rw [if_pos c20] at H
              have c20b0 : (t174 == t175) = true := c20
              (try (have c20b1 : decide (t174 = t175) = true := by simpa using c20))
              (try (have c20b2 : (t174 == t175) = true := by simpa using c20))
              clear c20
              replace H := Option.bind_eq_some_iff.mp H
              obtain ⟨t176, A210, H⟩ := H
              replace H : ((ltkref1_Sup.f k l2).bind fun t177 => (if t176 = t177 then ((mode_Intent.f k a0).bind fun t178 => ((ltkref1_Intent.f k a0).bind fun t179 => (if t178 = t179 then ((mode_Reads.f a0).bind fun t180 => ((ltkref1_Reads.f a0).bind fun t181 => (if (t180 == t181) = true then ((mode_Writes.f a0).bind fun t182 => ((ltkref1_Writes.f a0).bind fun t183 => (some (t182 == t183)))) else (some false)))) else (some false)))) else (some false))) = some r := H
              have A21 := Aside0.mk A210
              clear A210
              replace H := Option.bind_eq_some_iff.mp H
              obtain ⟨t177, A220, H⟩ := H
              replace H : (if t176 = t177 then ((mode_Intent.f k a0).bind fun t178 => ((ltkref1_Intent.f k a0).bind fun t179 => (if t178 = t179 then ((mode_Reads.f a0).bind fun t180 => ((ltkref1_Reads.f a0).bind fun t181 => (if (t180 == t181) = true then ((mode_Writes.f a0).bind fun t182 => ((ltkref1_Writes.f a0).bind fun t183 => (some (t182 == t183)))) else (some false)))) else (some false)))) else (some false)) = some r := H
              have A22 := Aside0.mk A220
              clear A220
              by_cases c23 : t176 = t177
              · rw [if_pos c23] at H
                have c23b0 : (t176 == t177) = true := beq_iff_eq.mpr c23
                have c23b1 : (t176 != t177) = false := bne_eq_false_iff_eq.mpr c23
                clear c23
                replace H := Option.bind_eq_some_iff.mp H
                obtain ⟨t178, A240, H⟩ := H
                replace H : ((ltkref1_Intent.f k a0).bind fun t179 => (if t178 = t179 then ((mode_Reads.f a0).bind fun t180 => ((ltkref1_Reads.f a0).bind fun t181 => (if (t180 == t181) = true then ((mode_Writes.f a0).bind fun t182 => ((ltkref1_Writes.f a0).bind fun t183 => (some (t182 == t183)))) else (some false)))) else (some false))) = some r := H
                have A24 := Aside0.mk A240
                clear A240
                replace H := Option.bind_eq_some_iff.mp H
                obtain ⟨t179, A250, H⟩ := H
                replace H : (if t178 = t179 then ((mode_Reads.f a0).bind fun t180 => ((ltkref1_Reads.f a0).bind fun t181 => (if (t180 == t181) = true then ((mode_Writes.f a0).bind fun t182 => ((ltkref1_Writes.f a0).bind fun t183 => (some (t182 == t183)))) else (some false)))) else (some false)) = some r := H
                have A25 := Aside0.mk A250
                clear A250
                by_cases c26 : t178 = t179
                · rw [if_pos c26] at H
                  have c26b0 : (t178 == t179) = true := beq_iff_eq.mpr c26
                  have c26b1 : (t178 != t179) = false := bne_eq_false_iff_eq.mpr c26
                  clear c26
                  replace H := Option.bind_eq_some_iff.mp H
                  obtain ⟨t180, A270, H⟩ := H
                  replace H : ((ltkref1_Reads.f a0).bind fun t181 => (if (t180 == t181) = true then ((mode_Writes.f a0).bind fun t182 => ((ltkref1_Writes.f a0).bind fun t183 => (some (t182 == t183)))) else (some false))) = some r := H
                  have A27 := Aside0.mk A270
                  clear A270
                  replace H := Option.bind_eq_some_iff.mp H
                  obtain ⟨t181, A280, H⟩ := H
                  replace H : (if (t180 == t181) = true then ((mode_Writes.f a0).bind fun t182 => ((ltkref1_Writes.f a0).bind fun t183 => (some (t182 == t183)))) else (some false)) = some r := H
                  have A28 := Aside0.mk A280
                  clear A280
                  by_cases c29 : (t180 == t181) = true
                  · rw [if_pos c29] at H
                    have c29b0 : (t180 == t181) = true := c29
                    (try (have c29b1 : decide (t180 = t181) = true := by simpa using c29))
                    (try (have c29b2 : (t180 == t181) = true := by simpa using c29))
                    clear c29
                    replace H := Option.bind_eq_some_iff.mp H
                    obtain ⟨t182, A300, H⟩ := H
                    replace H : ((ltkref1_Writes.f a0).bind fun t183 => (some (t182 == t183))) = some r := H
                    have A30 := Aside0.mk A300
                    clear A300
                    replace H := Option.bind_eq_some_iff.mp H
                    obtain ⟨t183, A310, H⟩ := H
                    replace H : (some (t182 == t183)) = some r := H
                    have A31 := Aside0.mk A310
                    clear A310
                    as_aux_lemma =>
                      obtain rfl := Option.some.inj H
                      go_enter Try.func12, Try.ntmps12
                      go_wp2_with (first | ((with_reducible refine gate_callee (f := 28) rfl ?_); refine goesL_ (some 7) rfl rfl Try.func28 (by kernel_rfl) rfl #[] rfl (by (try simp only [List.map_toArray, List.map_cons, List.map_nil]); first | done | rfl | (simp only [List.length_drop, List.length_take]; rfl)) ?_; (with_reducible refine (ltklaw4_first.calls k  true _ A4.out).mono ?_); rintro e w32 ⟨rfl, hb⟩; refine ⟨_, rfl, ?_⟩; have n0_ := Aside0.mk (below_step (by repeat (first | (with_reducible first | exact HB.out | apply below_alloc | apply pw_below_drewN | apply below_drew1) | exact HB.out)) hb); clear HB; have HB := n0_; clear n0_; (try clear hb); (try clear hb2); (try clear hk); (try clear hi)) | ((with_reducible refine gate_callee (f := 28) rfl ?_); refine goesL_ (some 13) rfl rfl Try.func28 (by kernel_rfl) rfl #[] rfl (by (try simp only [List.map_toArray, List.map_cons, List.map_nil]); first | done | rfl | (simp only [List.length_drop, List.length_take]; rfl)) ?_; (with_reducible refine (ltklaw4_first.calls k  true _ A10.out).mono ?_); rintro e w33 ⟨rfl, hb⟩; refine ⟨_, rfl, ?_⟩; have n0_ := Aside0.mk (below_step (by repeat (first | (with_reducible first | exact HB.out | apply below_alloc | apply pw_below_drewN | apply below_drew1) | exact HB.out)) hb); clear HB; have HB := n0_; clear n0_; (try clear hb); (try clear hb2); (try clear hk); (try clear hi)) | (go_at_call 29; (with_reducible refine (mode_Known.calls a0 t170 _ A12.out).mono ?_); rintro e w' ⟨rfl, ⟨nd, rfl⟩⟩) | (go_at_call 36; (with_reducible refine (ltkref1_Mode.calls a0 t171 _ A13.out).mono ?_); rintro e w' ⟨rfl, ⟨nd, rfl⟩⟩) | (go_at_call 32; (with_reducible refine (mode_Fits.calls a0 a1 t172 _ A15.out).mono ?_); rintro e w' ⟨rfl, ⟨nd, rfl⟩⟩) | (go_at_call 37; (with_reducible refine (ltkref1_Fits.calls a0 a1 t173 _ A16.out).mono ?_); rintro e w34 ⟨rfl, hb⟩; have n0_ := Aside0.mk (below_step (by repeat (first | (with_reducible first | exact HB.out | apply below_alloc | apply pw_below_drewN | apply below_drew1) | exact HB.out)) hb); clear HB; have HB := n0_; clear n0_; (try clear hb); (try clear hb2); (try clear hk); (try clear hi)) | (go_at_call 31; (with_reducible refine (mode_Covers.calls k a0 a1 t174 _ A18.out).mono ?_); rintro e w35 ⟨rfl, hb⟩; have n0_ := Aside0.mk (below_step (by repeat (first | (with_reducible first | exact HB.out | apply below_alloc | apply pw_below_drewN | apply below_drew1) | exact HB.out)) hb); clear HB; have HB := n0_; clear n0_; (try clear hb); (try clear hb2); (try clear hk); (try clear hi)) | (go_at_call 38; (with_reducible refine (ltkref1_Covers.calls k a0 a1 t175 _ A19.out).mono ?_); rintro e w36 ⟨rfl, hb⟩; have n0_ := Aside0.mk (below_step (by repeat (first | (with_reducible first | exact HB.out | apply below_alloc | apply pw_below_drewN | apply below_drew1) | exact HB.out)) hb); clear HB; have HB := n0_; clear n0_; (try clear hb); (try clear hb2); (try clear hk); (try clear hi)) | (go_at_call 30; (with_reducible refine (mode_Sup.calls k _ _ l2 t176 _ ?side1 ?side2 A21.out).mono ?_); (case side1 => repeat (first | exact (Kd.C_below HR2.out HB.out) | (with_reducible refine Kd.C_alloc ?_ _) | (with_reducible refine Kd.C_drewN ?_ _) | (with_reducible refine Kd.C_drew ?_))); (case side2 => exact HC2.out); rintro e w' ⟨rfl, ⟨nd, rfl⟩⟩) | (go_at_call 39; (with_reducible refine (ltkref1_Sup.calls k _ _ l2 t177 _ ?side1 ?side2 A22.out).mono ?_); (case side1 => repeat (first | exact (Kd.C_below HR2.out (by repeat (first | (with_reducible first | exact HB.out | apply below_alloc | apply pw_below_drewN | apply below_drew1) | exact HB.out))) | (with_reducible refine Kd.C_alloc ?_ _) | (with_reducible refine Kd.C_drewN ?_ _) | (with_reducible refine Kd.C_drew ?_))); (case side2 => exact HC2.out); rintro e w37 ⟨rfl, hb⟩; have n0_ := Aside0.mk (below_step (by repeat (first | (with_reducible first | exact HB.out | apply below_alloc | apply pw_below_drewN | apply below_drew1) | exact HB.out)) hb); clear HB; have HB := n0_; clear n0_; (try clear hb); (try clear hb2); (try clear hk); (try clear hi)) | (go_at_call 35; (with_reducible refine (mode_Intent.calls k a0 t178 _ A24.out).mono ?_); rintro e w' ⟨rfl, ⟨nd, rfl⟩⟩) | (go_at_call 40; (with_reducible refine (ltkref1_Intent.calls k a0 t179 _ A25.out).mono ?_); rintro e w' ⟨rfl, ⟨nd, rfl⟩⟩) | (go_at_call 34; (with_reducible refine (mode_Reads.calls a0 t180 _ A27.out).mono ?_); rintro e w' ⟨rfl, ⟨nd, rfl⟩⟩) | (go_at_call 41; (with_reducible refine (ltkref1_Reads.calls a0 t181 _ A28.out).mono ?_); rintro e w' ⟨rfl, ⟨nd, rfl⟩⟩) | (go_at_call 33; (with_reducible refine (mode_Writes.calls a0 t182 _ A30.out).mono ?_); rintro e w' ⟨rfl, ⟨nd, rfl⟩⟩) | (go_at_call 42; (with_reducible refine (ltkref1_Writes.calls a0 t183 _ A31.out).mono ?_); rintro e w' ⟨rfl, ⟨nd, rfl⟩⟩))
                      go_ret
                      exact ⟨by first | rfl | (simp [errW_none, errW_some] <;> rfl) | (simp [*, errW_none, errW_some] <;> rfl), by repeat (first | (with_reducible first | exact HB.out | apply below_alloc | apply pw_below_drewN | apply below_drew1) | exact HB.out)⟩
                  · rw [if_neg c29] at H
                    have c29b0 : (t180 == t181) = false := by simpa using c29
                    (try (have c29b1 : decide (t180 = t181) = false := by simpa using c29))
                    (try (have c29b2 : (t180 == t181) = false := by simpa using c29))
                    (try (have c29b3 : ¬ (t180 = t181) := by simpa using c29))
                    clear c29
                    as_aux_lemma =>
                      obtain rfl := Option.some.inj H
                      go_enter Try.func12, Try.ntmps12
                      go_wp2_with (first | ((with_reducible refine gate_callee (f := 28) rfl ?_); refine goesL_ (some 7) rfl rfl Try.func28 (by kernel_rfl) rfl #[] rfl (by (try simp only [List.map_toArray, List.map_cons, List.map_nil]); first | done | rfl | (simp only [List.length_drop, List.length_take]; rfl)) ?_; (with_reducible refine (ltklaw4_first.calls k  true _ A4.out).mono ?_); rintro e w38 ⟨rfl, hb⟩; refine ⟨_, rfl, ?_⟩; have n0_ := Aside0.mk (below_step (by repeat (first | (with_reducible first | exact HB.out | apply below_alloc | apply pw_below_drewN | apply below_drew1) | exact HB.out)) hb); clear HB; have HB := n0_; clear n0_; (try clear hb); (try clear hb2); (try clear hk); (try clear hi)) | ((with_reducible refine gate_callee (f := 28) rfl ?_); refine goesL_ (some 13) rfl rfl Try.func28 (by kernel_rfl) rfl #[] rfl (by (try simp only [List.map_toArray, List.map_cons, List.map_nil]); first | done | rfl | (simp only [List.length_drop, List.length_take]; rfl)) ?_; (with_reducible refine (ltklaw4_first.calls k  true _ A10.out).mono ?_); rintro e w39 ⟨rfl, hb⟩; refine ⟨_, rfl, ?_⟩; have n0_ := Aside0.mk (below_step (by repeat (first | (with_reducible first | exact HB.out | apply below_alloc | apply pw_below_drewN | apply below_drew1) | exact HB.out)) hb); clear HB; have HB := n0_; clear n0_; (try clear hb); (try clear hb2); (try clear hk); (try clear hi)) | (go_at_call 29; (with_reducible refine (mode_Known.calls a0 t170 _ A12.out).mono ?_); rintro e w' ⟨rfl, ⟨nd, rfl⟩⟩) | (go_at_call 36; (with_reducible refine (ltkref1_Mode.calls a0 t171 _ A13.out).mono ?_); rintro e w' ⟨rfl, ⟨nd, rfl⟩⟩) | (go_at_call 32; (with_reducible refine (mode_Fits.calls a0 a1 t172 _ A15.out).mono ?_); rintro e w' ⟨rfl, ⟨nd, rfl⟩⟩) | (go_at_call 37; (with_reducible refine (ltkref1_Fits.calls a0 a1 t173 _ A16.out).mono ?_); rintro e w40 ⟨rfl, hb⟩; have n0_ := Aside0.mk (below_step (by repeat (first | (with_reducible first | exact HB.out | apply below_alloc | apply pw_below_drewN | apply below_drew1) | exact HB.out)) hb); clear HB; have HB := n0_; clear n0_; (try clear hb); (try clear hb2); (try clear hk); (try clear hi)) | (go_at_call 31; (with_reducible refine (mode_Covers.calls k a0 a1 t174 _ A18.out).mono ?_); rintro e w41 ⟨rfl, hb⟩; have n0_ := Aside0.mk (below_step (by repeat (first | (with_reducible first | exact HB.out | apply below_alloc | apply pw_below_drewN | apply below_drew1) | exact HB.out)) hb); clear HB; have HB := n0_; clear n0_; (try clear hb); (try clear hb2); (try clear hk); (try clear hi)) | (go_at_call 38; (with_reducible refine (ltkref1_Covers.calls k a0 a1 t175 _ A19.out).mono ?_); rintro e w42 ⟨rfl, hb⟩; have n0_ := Aside0.mk (below_step (by repeat (first | (with_reducible first | exact HB.out | apply below_alloc | apply pw_below_drewN | apply below_drew1) | exact HB.out)) hb); clear HB; have HB := n0_; clear n0_; (try clear hb); (try clear hb2); (try clear hk); (try clear hi)) | (go_at_call 30; (with_reducible refine (mode_Sup.calls k _ _ l2 t176 _ ?side1 ?side2 A21.out).mono ?_); (case side1 => repeat (first | exact (Kd.C_below HR2.out HB.out) | (with_reducible refine Kd.C_alloc ?_ _) | (with_reducible refine Kd.C_drewN ?_ _) | (with_reducible refine Kd.C_drew ?_))); (case side2 => exact HC2.out); rintro e w' ⟨rfl, ⟨nd, rfl⟩⟩) | (go_at_call 39; (with_reducible refine (ltkref1_Sup.calls k _ _ l2 t177 _ ?side1 ?side2 A22.out).mono ?_); (case side1 => repeat (first | exact (Kd.C_below HR2.out (by repeat (first | (with_reducible first | exact HB.out | apply below_alloc | apply pw_below_drewN | apply below_drew1) | exact HB.out))) | (with_reducible refine Kd.C_alloc ?_ _) | (with_reducible refine Kd.C_drewN ?_ _) | (with_reducible refine Kd.C_drew ?_))); (case side2 => exact HC2.out); rintro e w43 ⟨rfl, hb⟩; have n0_ := Aside0.mk (below_step (by repeat (first | (with_reducible first | exact HB.out | apply below_alloc | apply pw_below_drewN | apply below_drew1) | exact HB.out)) hb); clear HB; have HB := n0_; clear n0_; (try clear hb); (try clear hb2); (try clear hk); (try clear hi)) | (go_at_call 35; (with_reducible refine (mode_Intent.calls k a0 t178 _ A24.out).mono ?_); rintro e w' ⟨rfl, ⟨nd, rfl⟩⟩) | (go_at_call 40; (with_reducible refine (ltkref1_Intent.calls k a0 t179 _ A25.out).mono ?_); rintro e w' ⟨rfl, ⟨nd, rfl⟩⟩) | (go_at_call 34; (with_reducible refine (mode_Reads.calls a0 t180 _ A27.out).mono ?_); rintro e w' ⟨rfl, ⟨nd, rfl⟩⟩) | (go_at_call 41; (with_reducible refine (ltkref1_Reads.calls a0 t181 _ A28.out).mono ?_); rintro e w' ⟨rfl, ⟨nd, rfl⟩⟩))
                      go_ret
                      exact ⟨by first | rfl | (simp [errW_none, errW_some] <;> rfl) | (simp [*, errW_none, errW_some] <;> rfl), by repeat (first | (with_reducible first | exact HB.out | apply below_alloc | apply pw_below_drewN | apply below_drew1) | exact HB.out)⟩
                · rw [if_neg c26] at H
                  have c26b0 : (t178 == t179) = false := beq_eq_false_iff_ne.mpr c26
                  have c26b1 : (t178 != t179) = true := bne_iff_ne.mpr c26
                  as_aux_lemma =>
                    obtain rfl := Option.some.inj H
                    go_enter Try.func12, Try.ntmps12
                    go_wp2_with (first | ((with_reducible refine gate_callee (f := 28) rfl ?_); refine goesL_ (some 7) rfl rfl Try.func28 (by kernel_rfl) rfl #[] rfl (by (try simp only [List.map_toArray, List.map_cons, List.map_nil]); first | done | rfl | (simp only [List.length_drop, List.length_take]; rfl)) ?_; (with_reducible refine (ltklaw4_first.calls k  true _ A4.out).mono ?_); rintro e w44 ⟨rfl, hb⟩; refine ⟨_, rfl, ?_⟩; have n0_ := Aside0.mk (below_step (by repeat (first | (with_reducible first | exact HB.out | apply below_alloc | apply pw_below_drewN | apply below_drew1) | exact HB.out)) hb); clear HB; have HB := n0_; clear n0_; (try clear hb); (try clear hb2); (try clear hk); (try clear hi)) | ((with_reducible refine gate_callee (f := 28) rfl ?_); refine goesL_ (some 13) rfl rfl Try.func28 (by kernel_rfl) rfl #[] rfl (by (try simp only [List.map_toArray, List.map_cons, List.map_nil]); first | done | rfl | (simp only [List.length_drop, List.length_take]; rfl)) ?_; (with_reducible refine (ltklaw4_first.calls k  true _ A10.out).mono ?_); rintro e w45 ⟨rfl, hb⟩; refine ⟨_, rfl, ?_⟩; have n0_ := Aside0.mk (below_step (by repeat (first | (with_reducible first | exact HB.out | apply below_alloc | apply pw_below_drewN | apply below_drew1) | exact HB.out)) hb); clear HB; have HB := n0_; clear n0_; (try clear hb); (try clear hb2); (try clear hk); (try clear hi)) | (go_at_call 29; (with_reducible refine (mode_Known.calls a0 t170 _ A12.out).mono ?_); rintro e w' ⟨rfl, ⟨nd, rfl⟩⟩) | (go_at_call 36; (with_reducible refine (ltkref1_Mode.calls a0 t171 _ A13.out).mono ?_); rintro e w' ⟨rfl, ⟨nd, rfl⟩⟩) | (go_at_call 32; (with_reducible refine (mode_Fits.calls a0 a1 t172 _ A15.out).mono ?_); rintro e w' ⟨rfl, ⟨nd, rfl⟩⟩) | (go_at_call 37; (with_reducible refine (ltkref1_Fits.calls a0 a1 t173 _ A16.out).mono ?_); rintro e w46 ⟨rfl, hb⟩; have n0_ := Aside0.mk (below_step (by repeat (first | (with_reducible first | exact HB.out | apply below_alloc | apply pw_below_drewN | apply below_drew1) | exact HB.out)) hb); clear HB; have HB := n0_; clear n0_; (try clear hb); (try clear hb2); (try clear hk); (try clear hi)) | (go_at_call 31; (with_reducible refine (mode_Covers.calls k a0 a1 t174 _ A18.out).mono ?_); rintro e w47 ⟨rfl, hb⟩; have n0_ := Aside0.mk (below_step (by repeat (first | (with_reducible first | exact HB.out | apply below_alloc | apply pw_below_drewN | apply below_drew1) | exact HB.out)) hb); clear HB; have HB := n0_; clear n0_; (try clear hb); (try clear hb2); (try clear hk); (try clear hi)) | (go_at_call 38; (with_reducible refine (ltkref1_Covers.calls k a0 a1 t175 _ A19.out).mono ?_); rintro e w48 ⟨rfl, hb⟩; have n0_ := Aside0.mk (below_step (by repeat (first | (with_reducible first | exact HB.out | apply below_alloc | apply pw_below_drewN | apply below_drew1) | exact HB.out)) hb); clear HB; have HB := n0_; clear n0_; (try clear hb); (try clear hb2); (try clear hk); (try clear hi)) | (go_at_call 30; (with_reducible refine (mode_Sup.calls k _ _ l2 t176 _ ?side1 ?side2 A21.out).mono ?_); (case side1 => repeat (first | exact (Kd.C_below HR2.out HB.out) | (with_reducible refine Kd.C_alloc ?_ _) | (with_reducible refine Kd.C_drewN ?_ _) | (with_reducible refine Kd.C_drew ?_))); (case side2 => exact HC2.out); rintro e w' ⟨rfl, ⟨nd, rfl⟩⟩) | (go_at_call 39; (with_reducible refine (ltkref1_Sup.calls k _ _ l2 t177 _ ?side1 ?side2 A22.out).mono ?_); (case side1 => repeat (first | exact (Kd.C_below HR2.out (by repeat (first | (with_reducible first | exact HB.out | apply below_alloc | apply pw_below_drewN | apply below_drew1) | exact HB.out))) | (with_reducible refine Kd.C_alloc ?_ _) | (with_reducible refine Kd.C_drewN ?_ _) | (with_reducible refine Kd.C_drew ?_))); (case side2 => exact HC2.out); rintro e w49 ⟨rfl, hb⟩; have n0_ := Aside0.mk (below_step (by repeat (first | (with_reducible first | exact HB.out | apply below_alloc | apply pw_below_drewN | apply below_drew1) | exact HB.out)) hb); clear HB; have HB := n0_; clear n0_; (try clear hb); (try clear hb2); (try clear hk); (try clear hi)) | (go_at_call 35; (with_reducible refine (mode_Intent.calls k a0 t178 _ A24.out).mono ?_); rintro e w' ⟨rfl, ⟨nd, rfl⟩⟩) | (go_at_call 40; (with_reducible refine (ltkref1_Intent.calls k a0 t179 _ A25.out).mono ?_); rintro e w' ⟨rfl, ⟨nd, rfl⟩⟩))
                    go_ret
                    exact ⟨by first | rfl | (simp [errW_none, errW_some] <;> rfl) | (simp [*, errW_none, errW_some] <;> rfl), by repeat (first | (with_reducible first | exact HB.out | apply below_alloc | apply pw_below_drewN | apply below_drew1) | exact HB.out)⟩
              · rw [if_neg c23] at H
                have c23b0 : (t176 == t177) = false := beq_eq_false_iff_ne.mpr c23
                have c23b1 : (t176 != t177) = true := bne_iff_ne.mpr c23
                as_aux_lemma =>
                  obtain rfl := Option.some.inj H
                  go_enter Try.func12, Try.ntmps12
                  go_wp2_with (first | ((with_reducible refine gate_callee (f := 28) rfl ?_); refine goesL_ (some 7) rfl rfl Try.func28 (by kernel_rfl) rfl #[] rfl (by (try simp only [List.map_toArray, List.map_cons, List.map_nil]); first | done | rfl | (simp only [List.length_drop, List.length_take]; rfl)) ?_; (with_reducible refine (ltklaw4_first.calls k  true _ A4.out).mono ?_); rintro e w50 ⟨rfl, hb⟩; refine ⟨_, rfl, ?_⟩; have n0_ := Aside0.mk (below_step (by repeat (first | (with_reducible first | exact HB.out | apply below_alloc | apply pw_below_drewN | apply below_drew1) | exact HB.out)) hb); clear HB; have HB := n0_; clear n0_; (try clear hb); (try clear hb2); (try clear hk); (try clear hi)) | ((with_reducible refine gate_callee (f := 28) rfl ?_); refine goesL_ (some 13) rfl rfl Try.func28 (by kernel_rfl) rfl #[] rfl (by (try simp only [List.map_toArray, List.map_cons, List.map_nil]); first | done | rfl | (simp only [List.length_drop, List.length_take]; rfl)) ?_; (with_reducible refine (ltklaw4_first.calls k  true _ A10.out).mono ?_); rintro e w51 ⟨rfl, hb⟩; refine ⟨_, rfl, ?_⟩; have n0_ := Aside0.mk (below_step (by repeat (first | (with_reducible first | exact HB.out | apply below_alloc | apply pw_below_drewN | apply below_drew1) | exact HB.out)) hb); clear HB; have HB := n0_; clear n0_; (try clear hb); (try clear hb2); (try clear hk); (try clear hi)) | (go_at_call 29; (with_reducible refine (mode_Known.calls a0 t170 _ A12.out).mono ?_); rintro e w' ⟨rfl, ⟨nd, rfl⟩⟩) | (go_at_call 36; (with_reducible refine (ltkref1_Mode.calls a0 t171 _ A13.out).mono ?_); rintro e w' ⟨rfl, ⟨nd, rfl⟩⟩) | (go_at_call 32; (with_reducible refine (mode_Fits.calls a0 a1 t172 _ A15.out).mono ?_); rintro e w' ⟨rfl, ⟨nd, rfl⟩⟩) | (go_at_call 37; (with_reducible refine (ltkref1_Fits.calls a0 a1 t173 _ A16.out).mono ?_); rintro e w52 ⟨rfl, hb⟩; have n0_ := Aside0.mk (below_step (by repeat (first | (with_reducible first | exact HB.out | apply below_alloc | apply pw_below_drewN | apply below_drew1) | exact HB.out)) hb); clear HB; have HB := n0_; clear n0_; (try clear hb); (try clear hb2); (try clear hk); (try clear hi)) | (go_at_call 31; (with_reducible refine (mode_Covers.calls k a0 a1 t174 _ A18.out).mono ?_); rintro e w53 ⟨rfl, hb⟩; have n0_ := Aside0.mk (below_step (by repeat (first | (with_reducible first | exact HB.out | apply below_alloc | apply pw_below_drewN | apply below_drew1) | exact HB.out)) hb); clear HB; have HB := n0_; clear n0_; (try clear hb); (try clear hb2); (try clear hk); (try clear hi)) | (go_at_call 38; (with_reducible refine (ltkref1_Covers.calls k a0 a1 t175 _ A19.out).mono ?_); rintro e w54 ⟨rfl, hb⟩; have n0_ := Aside0.mk (below_step (by repeat (first | (with_reducible first | exact HB.out | apply below_alloc | apply pw_below_drewN | apply below_drew1) | exact HB.out)) hb); clear HB; have HB := n0_; clear n0_; (try clear hb); (try clear hb2); (try clear hk); (try clear hi)) | (go_at_call 30; (with_reducible refine (mode_Sup.calls k _ _ l2 t176 _ ?side1 ?side2 A21.out).mono ?_); (case side1 => repeat (first | exact (Kd.C_below HR2.out HB.out) | (with_reducible refine Kd.C_alloc ?_ _) | (with_reducible refine Kd.C_drewN ?_ _) | (with_reducible refine Kd.C_drew ?_))); (case side2 => exact HC2.out); rintro e w' ⟨rfl, ⟨nd, rfl⟩⟩) | (go_at_call 39; (with_reducible refine (ltkref1_Sup.calls k _ _ l2 t177 _ ?side1 ?side2 A22.out).mono ?_); (case side1 => repeat (first | exact (Kd.C_below HR2.out (by repeat (first | (with_reducible first | exact HB.out | apply below_alloc | apply pw_below_drewN | apply below_drew1) | exact HB.out))) | (with_reducible refine Kd.C_alloc ?_ _) | (with_reducible refine Kd.C_drewN ?_ _) | (with_reducible refine Kd.C_drew ?_))); (case side2 => exact HC2.out); rintro e w55 ⟨rfl, hb⟩; have n0_ := Aside0.mk (below_step (by repeat (first | (with_reducible first | exact HB.out | apply below_alloc | apply pw_below_drewN | apply below_drew1) | exact HB.out)) hb); clear HB; have HB := n0_; clear n0_; (try clear hb); (try clear hb2); (try clear hk); (try clear hi)))
                  go_ret
                  exact ⟨by first | rfl | (simp [errW_none, errW_some] <;> rfl) | (simp [*, errW_none, errW_some] <;> rfl), by repeat (first | (with_reducible first | exact HB.out | apply below_alloc | apply pw_below_drewN | apply below_drew1) | exact HB.out)⟩
            · rw [if_neg c20] at H
              have c20b0 : (t174 == t175) = false := by simpa using c20
              (try (have c20b1 : decide (t174 = t175) = false := by simpa using c20))
              (try (have c20b2 : (t174 == t175) = false := by simpa using c20))
              (try (have c20b3 : ¬ (t174 = t175) := by simpa using c20))
              clear c20
              as_aux_lemma =>
                obtain rfl := Option.some.inj H
                go_enter Try.func12, Try.ntmps12
                go_wp2_with (first | ((with_reducible refine gate_callee (f := 28) rfl ?_); refine goesL_ (some 7) rfl rfl Try.func28 (by kernel_rfl) rfl #[] rfl (by (try simp only [List.map_toArray, List.map_cons, List.map_nil]); first | done | rfl | (simp only [List.length_drop, List.length_take]; rfl)) ?_; (with_reducible refine (ltklaw4_first.calls k  true _ A4.out).mono ?_); rintro e w56 ⟨rfl, hb⟩; refine ⟨_, rfl, ?_⟩; have n0_ := Aside0.mk (below_step (by repeat (first | (with_reducible first | exact HB.out | apply below_alloc | apply pw_below_drewN | apply below_drew1) | exact HB.out)) hb); clear HB; have HB := n0_; clear n0_; (try clear hb); (try clear hb2); (try clear hk); (try clear hi)) | ((with_reducible refine gate_callee (f := 28) rfl ?_); refine goesL_ (some 13) rfl rfl Try.func28 (by kernel_rfl) rfl #[] rfl (by (try simp only [List.map_toArray, List.map_cons, List.map_nil]); first | done | rfl | (simp only [List.length_drop, List.length_take]; rfl)) ?_; (with_reducible refine (ltklaw4_first.calls k  true _ A10.out).mono ?_); rintro e w57 ⟨rfl, hb⟩; refine ⟨_, rfl, ?_⟩; have n0_ := Aside0.mk (below_step (by repeat (first | (with_reducible first | exact HB.out | apply below_alloc | apply pw_below_drewN | apply below_drew1) | exact HB.out)) hb); clear HB; have HB := n0_; clear n0_; (try clear hb); (try clear hb2); (try clear hk); (try clear hi)) | (go_at_call 29; (with_reducible refine (mode_Known.calls a0 t170 _ A12.out).mono ?_); rintro e w' ⟨rfl, ⟨nd, rfl⟩⟩) | (go_at_call 36; (with_reducible refine (ltkref1_Mode.calls a0 t171 _ A13.out).mono ?_); rintro e w' ⟨rfl, ⟨nd, rfl⟩⟩) | (go_at_call 32; (with_reducible refine (mode_Fits.calls a0 a1 t172 _ A15.out).mono ?_); rintro e w' ⟨rfl, ⟨nd, rfl⟩⟩) | (go_at_call 37; (with_reducible refine (ltkref1_Fits.calls a0 a1 t173 _ A16.out).mono ?_); rintro e w58 ⟨rfl, hb⟩; have n0_ := Aside0.mk (below_step (by repeat (first | (with_reducible first | exact HB.out | apply below_alloc | apply pw_below_drewN | apply below_drew1) | exact HB.out)) hb); clear HB; have HB := n0_; clear n0_; (try clear hb); (try clear hb2); (try clear hk); (try clear hi)) | (go_at_call 31; (with_reducible refine (mode_Covers.calls k a0 a1 t174 _ A18.out).mono ?_); rintro e w59 ⟨rfl, hb⟩; have n0_ := Aside0.mk (below_step (by repeat (first | (with_reducible first | exact HB.out | apply below_alloc | apply pw_below_drewN | apply below_drew1) | exact HB.out)) hb); clear HB; have HB := n0_; clear n0_; (try clear hb); (try clear hb2); (try clear hk); (try clear hi)) | (go_at_call 38; (with_reducible refine (ltkref1_Covers.calls k a0 a1 t175 _ A19.out).mono ?_); rintro e w60 ⟨rfl, hb⟩; have n0_ := Aside0.mk (below_step (by repeat (first | (with_reducible first | exact HB.out | apply below_alloc | apply pw_below_drewN | apply below_drew1) | exact HB.out)) hb); clear HB; have HB := n0_; clear n0_; (try clear hb); (try clear hb2); (try clear hk); (try clear hi)))
                go_ret
                exact ⟨by first | rfl | (simp [errW_none, errW_some] <;> rfl) | (simp [*, errW_none, errW_some] <;> rfl), by repeat (first | (with_reducible first | exact HB.out | apply below_alloc | apply pw_below_drewN | apply below_drew1) | exact HB.out)⟩
          · rw [if_neg c17] at H
            have c17b0 : (t172 == t173) = false := by simpa using c17
            (try (have c17b1 : decide (t172 = t173) = false := by simpa using c17))
            (try (have c17b2 : (t172 == t173) = false := by simpa using c17))
            (try (have c17b3 : ¬ (t172 = t173) := by simpa using c17))
            clear c17
            as_aux_lemma =>
              obtain rfl := Option.some.inj H
              go_enter Try.func12, Try.ntmps12
              go_wp2_with (first | ((with_reducible refine gate_callee (f := 28) rfl ?_); refine goesL_ (some 7) rfl rfl Try.func28 (by kernel_rfl) rfl #[] rfl (by (try simp only [List.map_toArray, List.map_cons, List.map_nil]); first | done | rfl | (simp only [List.length_drop, List.length_take]; rfl)) ?_; (with_reducible refine (ltklaw4_first.calls k  true _ A4.out).mono ?_); rintro e w61 ⟨rfl, hb⟩; refine ⟨_, rfl, ?_⟩; have n0_ := Aside0.mk (below_step (by repeat (first | (with_reducible first | exact HB.out | apply below_alloc | apply pw_below_drewN | apply below_drew1) | exact HB.out)) hb); clear HB; have HB := n0_; clear n0_; (try clear hb); (try clear hb2); (try clear hk); (try clear hi)) | ((with_reducible refine gate_callee (f := 28) rfl ?_); refine goesL_ (some 13) rfl rfl Try.func28 (by kernel_rfl) rfl #[] rfl (by (try simp only [List.map_toArray, List.map_cons, List.map_nil]); first | done | rfl | (simp only [List.length_drop, List.length_take]; rfl)) ?_; (with_reducible refine (ltklaw4_first.calls k  true _ A10.out).mono ?_); rintro e w62 ⟨rfl, hb⟩; refine ⟨_, rfl, ?_⟩; have n0_ := Aside0.mk (below_step (by repeat (first | (with_reducible first | exact HB.out | apply below_alloc | apply pw_below_drewN | apply below_drew1) | exact HB.out)) hb); clear HB; have HB := n0_; clear n0_; (try clear hb); (try clear hb2); (try clear hk); (try clear hi)) | (go_at_call 29; (with_reducible refine (mode_Known.calls a0 t170 _ A12.out).mono ?_); rintro e w' ⟨rfl, ⟨nd, rfl⟩⟩) | (go_at_call 36; (with_reducible refine (ltkref1_Mode.calls a0 t171 _ A13.out).mono ?_); rintro e w' ⟨rfl, ⟨nd, rfl⟩⟩) | (go_at_call 32; (with_reducible refine (mode_Fits.calls a0 a1 t172 _ A15.out).mono ?_); rintro e w' ⟨rfl, ⟨nd, rfl⟩⟩) | (go_at_call 37; (with_reducible refine (ltkref1_Fits.calls a0 a1 t173 _ A16.out).mono ?_); rintro e w63 ⟨rfl, hb⟩; have n0_ := Aside0.mk (below_step (by repeat (first | (with_reducible first | exact HB.out | apply below_alloc | apply pw_below_drewN | apply below_drew1) | exact HB.out)) hb); clear HB; have HB := n0_; clear n0_; (try clear hb); (try clear hb2); (try clear hk); (try clear hi)))
              go_ret
              exact ⟨by first | rfl | (simp [errW_none, errW_some] <;> rfl) | (simp [*, errW_none, errW_some] <;> rfl), by repeat (first | (with_reducible first | exact HB.out | apply below_alloc | apply pw_below_drewN | apply below_drew1) | exact HB.out)⟩
        · rw [if_neg c14] at H
          have c14b0 : (t170 == t171) = false := by simpa using c14
          (try (have c14b1 : decide (t170 = t171) = false := by simpa using c14))
          (try (have c14b2 : (t170 == t171) = false := by simpa using c14))
          (try (have c14b3 : ¬ (t170 = t171) := by simpa using c14))
          clear c14
          as_aux_lemma =>
            obtain rfl := Option.some.inj H
            go_enter Try.func12, Try.ntmps12
            go_wp2_with (first | ((with_reducible refine gate_callee (f := 28) rfl ?_); refine goesL_ (some 7) rfl rfl Try.func28 (by kernel_rfl) rfl #[] rfl (by (try simp only [List.map_toArray, List.map_cons, List.map_nil]); first | done | rfl | (simp only [List.length_drop, List.length_take]; rfl)) ?_; (with_reducible refine (ltklaw4_first.calls k  true _ A4.out).mono ?_); rintro e w64 ⟨rfl, hb⟩; refine ⟨_, rfl, ?_⟩; have n0_ := Aside0.mk (below_step (by repeat (first | (with_reducible first | exact HB.out | apply below_alloc | apply pw_below_drewN | apply below_drew1) | exact HB.out)) hb); clear HB; have HB := n0_; clear n0_; (try clear hb); (try clear hb2); (try clear hk); (try clear hi)) | ((with_reducible refine gate_callee (f := 28) rfl ?_); refine goesL_ (some 13) rfl rfl Try.func28 (by kernel_rfl) rfl #[] rfl (by (try simp only [List.map_toArray, List.map_cons, List.map_nil]); first | done | rfl | (simp only [List.length_drop, List.length_take]; rfl)) ?_; (with_reducible refine (ltklaw4_first.calls k  true _ A10.out).mono ?_); rintro e w65 ⟨rfl, hb⟩; refine ⟨_, rfl, ?_⟩; have n0_ := Aside0.mk (below_step (by repeat (first | (with_reducible first | exact HB.out | apply below_alloc | apply pw_below_drewN | apply below_drew1) | exact HB.out)) hb); clear HB; have HB := n0_; clear n0_; (try clear hb); (try clear hb2); (try clear hk); (try clear hi)) | (go_at_call 29; (with_reducible refine (mode_Known.calls a0 t170 _ A12.out).mono ?_); rintro e w' ⟨rfl, ⟨nd, rfl⟩⟩) | (go_at_call 36; (with_reducible refine (ltkref1_Mode.calls a0 t171 _ A13.out).mono ?_); rintro e w' ⟨rfl, ⟨nd, rfl⟩⟩))
            go_ret
            exact ⟨by first | rfl | (simp [errW_none, errW_some] <;> rfl) | (simp [*, errW_none, errW_some] <;> rfl), by repeat (first | (with_reducible first | exact HB.out | apply below_alloc | apply pw_below_drewN | apply below_drew1) | exact HB.out)⟩
      · replace c11 := Bool.eq_false_iff.mpr c11
        subst c11
        have H1 : (some false) = some r := by rw [if_neg (show ¬ (false = true) by decide)] at H; exact H
        clear H
        have H := H1
        clear H1
        as_aux_lemma =>
          obtain rfl := Option.some.inj H
          go_enter Try.func12, Try.ntmps12
          go_wp2_with (first | ((with_reducible refine gate_callee (f := 28) rfl ?_); refine goesL_ (some 7) rfl rfl Try.func28 (by kernel_rfl) rfl #[] rfl (by (try simp only [List.map_toArray, List.map_cons, List.map_nil]); first | done | rfl | (simp only [List.length_drop, List.length_take]; rfl)) ?_; (with_reducible refine (ltklaw4_first.calls k  true _ A4.out).mono ?_); rintro e w66 ⟨rfl, hb⟩; refine ⟨_, rfl, ?_⟩; have n0_ := Aside0.mk (below_step (by repeat (first | (with_reducible first | exact HB.out | apply below_alloc | apply pw_below_drewN | apply below_drew1) | exact HB.out)) hb); clear HB; have HB := n0_; clear n0_; (try clear hb); (try clear hb2); (try clear hk); (try clear hi)) | ((with_reducible refine gate_callee (f := 28) rfl ?_); refine goesL_ (some 13) rfl rfl Try.func28 (by kernel_rfl) rfl #[] rfl (by (try simp only [List.map_toArray, List.map_cons, List.map_nil]); first | done | rfl | (simp only [List.length_drop, List.length_take]; rfl)) ?_; (with_reducible refine (ltklaw4_first.calls k  false _ A10.out).mono ?_); rintro e w67 ⟨rfl, hb⟩; refine ⟨_, rfl, ?_⟩; have n0_ := Aside0.mk (below_step (by repeat (first | (with_reducible first | exact HB.out | apply below_alloc | apply pw_below_drewN | apply below_drew1) | exact HB.out)) hb); clear HB; have HB := n0_; clear n0_; (try clear hb); (try clear hb2); (try clear hk); (try clear hi)))
          go_ret
          exact ⟨by first | rfl | (simp [errW_none, errW_some] <;> rfl) | (simp [*, errW_none, errW_some] <;> rfl), by repeat (first | (with_reducible first | exact HB.out | apply below_alloc | apply pw_below_drewN | apply below_drew1) | exact HB.out)⟩
  · replace c5 := Bool.eq_false_iff.mpr c5
    subst c5
    have H1 : (some false) = some r := by rw [if_neg (show ¬ (false = true) by decide)] at H; exact H
    clear H
    have H := H1
    clear H1
    as_aux_lemma =>
      obtain rfl := Option.some.inj H
      go_enter Try.func12, Try.ntmps12
      go_wp2_with (first | ((with_reducible refine gate_callee (f := 28) rfl ?_); refine goesL_ (some 7) rfl rfl Try.func28 (by kernel_rfl) rfl #[] rfl (by (try simp only [List.map_toArray, List.map_cons, List.map_nil]); first | done | rfl | (simp only [List.length_drop, List.length_take]; rfl)) ?_; (with_reducible refine (ltklaw4_first.calls k  false _ A4.out).mono ?_); rintro e w68 ⟨rfl, hb⟩; refine ⟨_, rfl, ?_⟩; have n0_ := Aside0.mk (below_step (by repeat (first | (with_reducible first | exact HB.out | apply below_alloc | apply pw_below_drewN | apply below_drew1) | exact HB.out)) hb); clear HB; have HB := n0_; clear n0_; (try clear hb); (try clear hb2); (try clear hk); (try clear hi)))
      go_ret
      exact ⟨by first | rfl | (simp [errW_none, errW_some] <;> rfl) | (simp [*, errW_none, errW_some] <;> rfl), by repeat (first | (with_reducible first | exact HB.out | apply below_alloc | apply pw_below_drewN | apply below_drew1) | exact HB.out)⟩

/-- THE ONE PURE STATEMENT of ltklaw4_ModeTells: yours. -/
def ltklaw4_ModeTells.Pure : Prop := ∀ (a0 : Int) (a1 : Int) (l2 : List Int), (Lit.int .i64 a0).wf = true → (Lit.int .i64 a1).wf = true → l2.length ≤ maxLen → l2.length * 8 ≤ 140737488351232 → (∀ x ∈ l2, (Lit.int .i64 x).wf = true) → ∃ k, ltklaw4_ModeTells.f k a0 a1 l2 = some true
theorem ltklaw4_ModeTells.walk (P : ltklaw4_ModeTells.Pure) (a0 : Int) (a1 : Int) (a2 : Option Addr) (len2 cap2 : Nat) (z2 : List Int) (w : World) (w0 : (Lit.int .i64 a0).wf = true) (w1 : (Lit.int .i64 a1).wf = true) (w2 : (a2 = none ∧ len2 = 0 ∧ cap2 = 0 ∧ z2 = []) ∨ ∃ x, a2 = some x ∧ len2 ≤ cap2 ∧ cap2 ≤ maxLen ∧ z2.length = cap2 ∧ (∀ i, i < z2.length → w.cell? (x.add i) = some (.int .i64 (z2.getD i 0))) ∧ ∀ n ∈ z2, (Lit.int .i64 n).wf = true) (y2 : len2 * 8 ≤ 140737488351232) :
    Calls Try.prog 12 #[.int .i64 a0, .int .i64 a1, .slice a2 len2 cap2] w fun e w' => e = .returned (.bool true) ∧ Below w.heap.size w w' := by
  obtain ⟨l2, rfl, hr2, hm2, hw2, hc2⟩ := ReadsInt.ofRowC w2
  obtain ⟨k, h⟩ := P a0 a1 l2 w0 w1 hm2 y2 hw2
  refine (ltklaw4_ModeTells.calls k a0 a1 _ _ l2 true w (Kd.C_of_reads (d := (0 : Int)) (h1 := fun _ => rfl) hr2) hc2 h).mono ?_
  rintro e w' ⟨rfl, hd⟩
  exact ⟨rfl, hd⟩

end Go.Proofs.Ytdpcodnooonmlaa.PMo
