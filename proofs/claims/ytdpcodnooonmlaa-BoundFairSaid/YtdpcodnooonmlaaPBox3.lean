-- Written by a program of this session (myprint.py) over the kit's print; some functions' contracts are given by hand.
import Derived.Test.YtdpcodnooonmlaaPBox0
import Derived.Test.YtdpcodnooonmlaaPBox1
import Derived.Test.YtdpcodnooonmlaaPBox2
namespace Go.Proofs.Ytdpcodnooonmlaa.PBo
open Go.RowKit Go.Proofs.YtdpcodnooonmlaaW.PrintWords Go.Proofs.YtdpcodnooonmlaaW.PrintLast Go.Proofs.YtdpcodnooonmlaaW.PrintMore
attribute [local go_sem] max2_int min2_int max_two min_two max_three min_three max_four min_four   -- for this text's walks alone
set_option linter.unusedVariables false
set_option linter.unusedSimpArgs false

/-! ### ltklaw21_BoundFair: function 14 -/
mutual
def ltklaw21_BoundFair.j0 : Nat → Int → Int → Int → Bool → Option (Bool)
  | 0, _, _, _, _ => none
  | k + 1, x0, x1, x2, x35 => if x35 = true then ((ltklaw21_first.f k).bind fun t131 => (some t131)) else (if x1 = 0 then (ltklaw21_BoundFair.j1 k x2 (wrap64 (x0 + 1)) 1 1 1 1 x0 0 1 9 1 0 9 x1) else (ltklaw21_BoundFair.j1 k x2 x0 1 1 1 1 x0 0 1 9 1 0 9 x1))
def ltklaw21_BoundFair.j1 : Nat → Int → Int → Int → Int → Int → Int → Int → Int → Int → Int → Int → Int → Int → Int → Option (Bool)
  | 0, _, _, _, _, _, _, _, _, _, _, _, _, _, _ => none
  | k + 1, x2, x8, x133000, x133001, x133002, x133003, x133004, x133005, x133006, x133007, x133008, x133009, x133010, x133011 => ltklaw21_BoundFair.l0 k x2 x8 ([] : List Int) ([] : List Int) 0 x133000 x133001 x133002 x133003 x133004 x133005 x133006 x133007 x133008 x133009 x133010 x133011
def ltklaw21_BoundFair.l0 : Nat → Int → Int → List Int → List Int → Int → Int → Int → Int → Int → Int → Int → Int → Int → Int → Int → Int → Int → Option (Bool)
  | 0, _, _, _, _, _, _, _, _, _, _, _, _, _, _, _, _, _ => none
  | k + 1, x2, x8, x9, x10, x11, x133000, x133001, x133002, x133003, x133004, x133005, x133006, x133007, x133008, x133009, x133010, x133011 => if x11 < (wrap64 (x2 * x8)) then (if x8 = 0 then (none) else (if x9.length < 17592186044416 then ((some (x9 ++ [Int.tmod x11 x8] : List Int)).bind fun y133 => (if (Int.tmod x11 x8) = (wrap64 (x8 - 1)) then (ltklaw21_BoundFair.l0 k x2 x8 y133 x10 (wrap64 (x11 + 1)) x133000 x133001 x133002 x133003 x133004 x133005 x133006 x133007 x133008 x133009 x133010 x133011) else (if x10.length < 17592186044416 then (ltklaw21_BoundFair.l0 k x2 x8 y133 (x10 ++ [Int.tmod x11 x8]) (wrap64 (x11 + 1)) x133000 x133001 x133002 x133003 x133004 x133005 x133006 x133007 x133008 x133009 x133010 x133011) else (none)))) else (none))) else ((ltklaw21_first.f k).bind fun t139 => (if t139 = true then ((bound_Fair.f k x133000 x133001 x133002 x133003 x133004 x133005 x133006 x133007 x133008 x133009 x133010 x133011 x8 x9).bind fun t140 => (if t140 = true then ((bound_Fair.f k x133000 x133001 x133002 x133003 x133004 x133005 x133006 x133007 x133008 x133009 x133010 x133011 (wrap64 (x8 - 1)) x9).bind fun t141 => (if t141 = true then (some false) else (if (x10.length : Int) = 0 then ((bound_Fair.f k x133000 x133001 x133002 x133003 x133004 x133005 x133006 x133007 x133008 x133009 x133010 x133011 (wrap64 ((x9.length : Int) + 1)) x10).bind fun t142 => (some t142)) else ((bound_Fair.f k x133000 x133001 x133002 x133003 x133004 x133005 x133006 x133007 x133008 x133009 x133010 x133011 (x10.length : Int) x10).bind fun t143 => (if t143 = true then (some false) else ((bound_Fair.f k x133000 x133001 x133002 x133003 x133004 x133005 x133006 x133007 x133008 x133009 x133010 x133011 (wrap64 ((x9.length : Int) + 1)) x10).bind fun t144 => (some t144))))))) else (some false))) else (some false)))
end
def ltklaw21_BoundFair.f (k : Nat) (a0 : Int) (a1 : Int) (a2 : Int) : Option (Bool) := (ltklaw21_first.f k).bind fun t130 => (if t130 = true then (if a0 < 1 then (ltklaw21_BoundFair.j0 k a0 a1 a2 true) else (if a0 > 60 then (ltklaw21_BoundFair.j0 k a0 a1 a2 true) else (if a1 < 0 then (ltklaw21_BoundFair.j0 k a0 a1 a2 true) else (if a1 > 2 then (ltklaw21_BoundFair.j0 k a0 a1 a2 true) else (if a2 < 2 then (ltklaw21_BoundFair.j0 k a0 a1 a2 true) else (ltklaw21_BoundFair.j0 k a0 a1 a2 (decide (a2 > 4)))))))) else (some false))
theorem ltklaw21_BoundFair.mono_l : ∀ k, (∀ y0 y1 y2 y3, LeO (ltklaw21_BoundFair.j0 k y0 y1 y2 y3) (ltklaw21_BoundFair.j0 (k + 1) y0 y1 y2 y3)) ∧ (∀ y0 y1 y2 y3 y4 y5 y6 y7 y8 y9 y10 y11 y12 y13, LeO (ltklaw21_BoundFair.j1 k y0 y1 y2 y3 y4 y5 y6 y7 y8 y9 y10 y11 y12 y13) (ltklaw21_BoundFair.j1 (k + 1) y0 y1 y2 y3 y4 y5 y6 y7 y8 y9 y10 y11 y12 y13)) ∧ (∀ y0 y1 y2 y3 y4 y5 y6 y7 y8 y9 y10 y11 y12 y13 y14 y15 y16, LeO (ltklaw21_BoundFair.l0 k y0 y1 y2 y3 y4 y5 y6 y7 y8 y9 y10 y11 y12 y13 y14 y15 y16) (ltklaw21_BoundFair.l0 (k + 1) y0 y1 y2 y3 y4 y5 y6 y7 y8 y9 y10 y11 y12 y13 y14 y15 y16))
  | 0 => ⟨fun _ _ _ _ r h => by simp [ltklaw21_BoundFair.j0] at h, fun _ _ _ _ _ _ _ _ _ _ _ _ _ _ r h => by simp [ltklaw21_BoundFair.j1] at h, fun _ _ _ _ _ _ _ _ _ _ _ _ _ _ _ _ _ r h => by simp [ltklaw21_BoundFair.l0] at h⟩
  | k + 1 => by
    obtain ⟨ih0, ih1, ih2⟩ := ltklaw21_BoundFair.mono_l k
    refine ⟨?_, ?_, ?_⟩
    · intro y0 y1 y2 y3
      unfold ltklaw21_BoundFair.j0
      repeat' first
      | (with_reducible exact ih0 _ _ _ _)
      | (with_reducible exact ih1 _ _ _ _ _ _ _ _ _ _ _ _ _ _)
      | (with_reducible exact ih2 _ _ _ _ _ _ _ _ _ _ _ _ _ _ _ _ _)
      | (with_reducible exact bound_Fair.mono _ _ _ _ _ _ _ _ _ _ _ _ _ _ _)
      | (with_reducible exact ltklaw21_first.mono _)
      | (with_reducible exact LeO.refl _)
      | (with_reducible exact LeO.none _)
      | (with_reducible refine LeO.ite ?_ ?_)
      | (with_reducible refine LeO.bind ?_ (fun _ => ?_))
      | exact ih0 _ _ _ _
      | exact ih1 _ _ _ _ _ _ _ _ _ _ _ _ _ _
      | exact ih2 _ _ _ _ _ _ _ _ _ _ _ _ _ _ _ _ _
      | exact bound_Fair.mono _ _ _ _ _ _ _ _ _ _ _ _ _ _ _
      | exact ltklaw21_first.mono _
      | exact LeO.none _
      | refine LeO.ite ?_ ?_
      | refine LeO.bind ?_ (fun _ => ?_)
    · intro y0 y1 y2 y3 y4 y5 y6 y7 y8 y9 y10 y11 y12 y13
      unfold ltklaw21_BoundFair.j1
      repeat' first
      | (with_reducible exact ih0 _ _ _ _)
      | (with_reducible exact ih1 _ _ _ _ _ _ _ _ _ _ _ _ _ _)
      | (with_reducible exact ih2 _ _ _ _ _ _ _ _ _ _ _ _ _ _ _ _ _)
      | (with_reducible exact bound_Fair.mono _ _ _ _ _ _ _ _ _ _ _ _ _ _ _)
      | (with_reducible exact ltklaw21_first.mono _)
      | (with_reducible exact LeO.refl _)
      | (with_reducible exact LeO.none _)
      | (with_reducible refine LeO.ite ?_ ?_)
      | (with_reducible refine LeO.bind ?_ (fun _ => ?_))
      | exact ih0 _ _ _ _
      | exact ih1 _ _ _ _ _ _ _ _ _ _ _ _ _ _
      | exact ih2 _ _ _ _ _ _ _ _ _ _ _ _ _ _ _ _ _
      | exact bound_Fair.mono _ _ _ _ _ _ _ _ _ _ _ _ _ _ _
      | exact ltklaw21_first.mono _
      | exact LeO.none _
      | refine LeO.ite ?_ ?_
      | refine LeO.bind ?_ (fun _ => ?_)
    · intro y0 y1 y2 y3 y4 y5 y6 y7 y8 y9 y10 y11 y12 y13 y14 y15 y16
      unfold ltklaw21_BoundFair.l0
      repeat' first
      | (with_reducible exact ih0 _ _ _ _)
      | (with_reducible exact ih1 _ _ _ _ _ _ _ _ _ _ _ _ _ _)
      | (with_reducible exact ih2 _ _ _ _ _ _ _ _ _ _ _ _ _ _ _ _ _)
      | (with_reducible exact bound_Fair.mono _ _ _ _ _ _ _ _ _ _ _ _ _ _ _)
      | (with_reducible exact ltklaw21_first.mono _)
      | (with_reducible exact LeO.refl _)
      | (with_reducible exact LeO.none _)
      | (with_reducible refine LeO.ite ?_ ?_)
      | (with_reducible refine LeO.bind ?_ (fun _ => ?_))
      | exact ih0 _ _ _ _
      | exact ih1 _ _ _ _ _ _ _ _ _ _ _ _ _ _
      | exact ih2 _ _ _ _ _ _ _ _ _ _ _ _ _ _ _ _ _
      | exact bound_Fair.mono _ _ _ _ _ _ _ _ _ _ _ _ _ _ _
      | exact ltklaw21_first.mono _
      | exact LeO.none _
      | refine LeO.ite ?_ ?_
      | refine LeO.bind ?_ (fun _ => ?_)
theorem ltklaw21_BoundFair.mono : ∀ a0 a1 a2 k, LeO (ltklaw21_BoundFair.f k a0 a1 a2) (ltklaw21_BoundFair.f (k + 1) a0 a1 a2) := by
  intro a0 a1 a2 k
  obtain ⟨ih0, ih1, ih2⟩ := ltklaw21_BoundFair.mono_l k
  unfold ltklaw21_BoundFair.f
  repeat' first
      | (with_reducible exact ih0 _ _ _ _)
      | (with_reducible exact ih1 _ _ _ _ _ _ _ _ _ _ _ _ _ _)
      | (with_reducible exact ih2 _ _ _ _ _ _ _ _ _ _ _ _ _ _ _ _ _)
      | (with_reducible exact bound_Fair.mono _ _ _ _ _ _ _ _ _ _ _ _ _ _ _)
      | (with_reducible exact ltklaw21_first.mono _)
      | (with_reducible exact LeO.refl _)
      | (with_reducible exact LeO.none _)
      | (with_reducible refine LeO.ite ?_ ?_)
      | (with_reducible refine LeO.bind ?_ (fun _ => ?_))
      | exact ih0 _ _ _ _
      | exact ih1 _ _ _ _ _ _ _ _ _ _ _ _ _ _
      | exact ih2 _ _ _ _ _ _ _ _ _ _ _ _ _ _ _ _ _
      | exact bound_Fair.mono _ _ _ _ _ _ _ _ _ _ _ _ _ _ _
      | exact ltklaw21_first.mono _
      | exact LeO.none _
      | refine LeO.ite ?_ ?_
      | refine LeO.bind ?_ (fun _ => ?_)
set_option maxHeartbeats 8000000 in
set_option maxRecDepth 100000 in
theorem ltklaw21_BoundFair.calls (k : Nat) (a0 : Int) (a1 : Int) (a2 : Int) (r : Bool) (w : World) (h : ltklaw21_BoundFair.f k a0 a1 a2 = some r) :
    Calls Try.prog 14 #[.int .i64 a0, .int .i64 a1, .int .i64 a2] w fun e w' => e = .returned (.bool r) ∧ Below w.heap.size w w' := by
  have hu50 := Try.underlying50
  have HB := Aside0.mk (Below.refl w.heap.size w)
  have H : ((ltklaw21_first.f k).bind fun t130 => (if t130 = true then (if a0 < 1 then (ltklaw21_BoundFair.j0 k a0 a1 a2 true) else (if a0 > 60 then (ltklaw21_BoundFair.j0 k a0 a1 a2 true) else (if a1 < 0 then (ltklaw21_BoundFair.j0 k a0 a1 a2 true) else (if a1 > 2 then (ltklaw21_BoundFair.j0 k a0 a1 a2 true) else (if a2 < 2 then (ltklaw21_BoundFair.j0 k a0 a1 a2 true) else (ltklaw21_BoundFair.j0 k a0 a1 a2 (decide (a2 > 4)))))))) else (some false))) = some r := h
  clear h
  replace H := Option.bind_eq_some_iff.mp H
  obtain ⟨t130, A40, H⟩ := H
  replace H : (if t130 = true then (if a0 < 1 then (ltklaw21_BoundFair.j0 k a0 a1 a2 true) else (if a0 > 60 then (ltklaw21_BoundFair.j0 k a0 a1 a2 true) else (if a1 < 0 then (ltklaw21_BoundFair.j0 k a0 a1 a2 true) else (if a1 > 2 then (ltklaw21_BoundFair.j0 k a0 a1 a2 true) else (if a2 < 2 then (ltklaw21_BoundFair.j0 k a0 a1 a2 true) else (ltklaw21_BoundFair.j0 k a0 a1 a2 (decide (a2 > 4)))))))) else (some false)) = some r := H
  have A4 := Aside0.mk A40
  clear A40
  by_cases c5 : t130 = true
  · subst c5
    have H1 : (if a0 < 1 then (ltklaw21_BoundFair.j0 k a0 a1 a2 true) else (if a0 > 60 then (ltklaw21_BoundFair.j0 k a0 a1 a2 true) else (if a1 < 0 then (ltklaw21_BoundFair.j0 k a0 a1 a2 true) else (if a1 > 2 then (ltklaw21_BoundFair.j0 k a0 a1 a2 true) else (if a2 < 2 then (ltklaw21_BoundFair.j0 k a0 a1 a2 true) else (ltklaw21_BoundFair.j0 k a0 a1 a2 (decide (a2 > 4)))))))) = some r := by rw [if_pos rfl] at H; exact H
    clear H
    have H := H1
    clear H1
    have HC6 := Aside0.mk H
    clear H
    go_enter Try.func14, Try.ntmps14
    go_upto_region 3 with (first | ((with_reducible refine gate_callee (f := 43) rfl ?_); refine goesL_ (some 12) rfl rfl Try.func43 (by kernel_rfl) rfl #[] rfl (by (try simp only [List.map_toArray, List.map_cons, List.map_nil]); first | done | rfl | (simp only [List.length_drop, List.length_take]; rfl)) ?_; (with_reducible refine (ltklaw21_first.calls k  true _ A4.out).mono ?_); rintro e w7 ⟨rfl, hb⟩; refine ⟨_, rfl, ?_⟩; have n0_ := Aside0.mk (below_step (by repeat (first | (with_reducible first | exact HB.out | apply below_alloc | apply pw_below_drewN | apply below_drew1) | exact HB.out)) hb); clear HB; have HB := n0_; clear n0_; (try clear hb); (try clear hb2); (try clear hk); (try clear hi)))
    (try simp only [Act.put, List.setIfInBounds_toArray, List.set_cons_zero, List.set_cons_succ])
    go_cut [35] (fun v35 wc => ∃ (kq : Nat) (x35_5 : Bool), v35 = .bool x35_5 ∧ Aside0 (ltklaw21_BoundFair.j0 kq a0 a1 a2 x35_5 = some r) ∧ Aside0 (kq ≤ k) ∧ Aside0 (Below w.heap.size w wc))
    case first =>
      have H := HC6.out
      clear HC6
      by_cases c8 : a0 < 1
      · rw [if_pos c8] at H
        have c8b0 : decide (a0 < 1) = true := decide_eq_true c8
        clear c8
        (first | rw [c8b0] | (simp only [i64_w, i32_w]; rw [c8b0]) | skip)
        have H' := Aside0.mk H
        clear H
        go_wp2
        go_meet
        case rel => exact ⟨_, (true), (by first | rfl | (simp; done) | (simp [*]; done)), H', ⟨by first | omega | exact Nat.le_refl _⟩, ⟨by repeat (first | (with_reducible first | exact HB.out | apply below_alloc | apply pw_below_drewN | apply below_drew1) | exact HB.out)⟩⟩
      · rw [if_neg c8] at H
        have c8b0 : decide (a0 < 1) = false := decide_eq_false c8
        clear c8
        (first | rw [c8b0] | (simp only [i64_w, i32_w]; rw [c8b0]) | skip)
        by_cases c9 : a0 > 60
        · rw [if_pos c9] at H
          have c9b0 : decide (60 < a0) = true := decide_eq_true c9
          clear c9
          have H' := Aside0.mk H
          clear H
          go_wp2
          go_meet
          case rel => exact ⟨_, (true), (by first | rfl | (simp; done) | (simp [*]; done)), H', ⟨by first | omega | exact Nat.le_refl _⟩, ⟨by repeat (first | (with_reducible first | exact HB.out | apply below_alloc | apply pw_below_drewN | apply below_drew1) | exact HB.out)⟩⟩
        · rw [if_neg c9] at H
          have c9b0 : decide (60 < a0) = false := decide_eq_false c9
          clear c9
          by_cases c10 : a1 < 0
          · rw [if_pos c10] at H
            have c10b0 : decide (a1 < 0) = true := decide_eq_true c10
            clear c10
            have H' := Aside0.mk H
            clear H
            go_wp2
            go_meet
            case rel => exact ⟨_, (true), (by first | rfl | (simp; done) | (simp [*]; done)), H', ⟨by first | omega | exact Nat.le_refl _⟩, ⟨by repeat (first | (with_reducible first | exact HB.out | apply below_alloc | apply pw_below_drewN | apply below_drew1) | exact HB.out)⟩⟩
          · rw [if_neg c10] at H
            have c10b0 : decide (a1 < 0) = false := decide_eq_false c10
            clear c10
            by_cases c11 : a1 > 2
            · rw [if_pos c11] at H
              have c11b0 : decide (2 < a1) = true := decide_eq_true c11
              clear c11
              have H' := Aside0.mk H
              clear H
              go_wp2
              go_meet
              case rel => exact ⟨_, (true), (by first | rfl | (simp; done) | (simp [*]; done)), H', ⟨by first | omega | exact Nat.le_refl _⟩, ⟨by repeat (first | (with_reducible first | exact HB.out | apply below_alloc | apply pw_below_drewN | apply below_drew1) | exact HB.out)⟩⟩
            · rw [if_neg c11] at H
              have c11b0 : decide (2 < a1) = false := decide_eq_false c11
              clear c11
              by_cases c12 : a2 < 2
              · rw [if_pos c12] at H
                have c12b0 : decide (a2 < 2) = true := decide_eq_true c12
                clear c12
                have H' := Aside0.mk H
                clear H
                go_wp2
                go_meet
                case rel => exact ⟨_, (true), (by first | rfl | (simp; done) | (simp [*]; done)), H', ⟨by first | omega | exact Nat.le_refl _⟩, ⟨by repeat (first | (with_reducible first | exact HB.out | apply below_alloc | apply pw_below_drewN | apply below_drew1) | exact HB.out)⟩⟩
              · rw [if_neg c12] at H
                have c12b0 : decide (a2 < 2) = false := decide_eq_false c12
                clear c12
                have H' := Aside0.mk H
                clear H
                go_wp2
                go_meet
                case rel => exact ⟨_, (decide (a2 > 4)), (by first | rfl | (simp; done) | (simp [*]; done)), H', ⟨by first | omega | exact Nat.le_refl _⟩, ⟨by repeat (first | (with_reducible first | exact HB.out | apply below_alloc | apply pw_below_drewN | apply below_drew1) | exact HB.out)⟩⟩
    case rest =>
      clear HC6
      try clear c1
      try clear p2
      try clear c4
      try clear c5
      try clear c8
      try clear c8b0
      try clear c9
      try clear c9b0
      try clear c10
      try clear c10b0
      try clear c11
      try clear c11b0
      try clear c12
      try clear c12b0
      obtain ⟨kq, x35_5, rfl, HA, HJ5, HB⟩ := hcut
      cases kq with
      | zero => exact absurd HA.out (by simp [ltklaw21_BoundFair.j0])
      | succ kj5 =>
        have H := HA.out
        clear HA
        simp only [ltklaw21_BoundFair.j0] at H
        by_cases c13 : x35_5 = true
        · subst c13
          have H1 : ((ltklaw21_first.f kj5).bind fun t131 => (some t131)) = some r := by rw [if_pos rfl] at H; exact H
          clear H
          have H := H1
          clear H1
          replace H := Option.bind_eq_some_iff.mp H
          obtain ⟨t131, A140, H⟩ := H
          replace H : (some t131) = some r := H
          have A14 := Aside0.mk A140
          clear A140
          obtain rfl := Option.some.inj H
          go_wp2_with (first | ((with_reducible refine gate_callee (f := 43) rfl ?_); refine goesL_ (some 36) rfl rfl Try.func43 (by kernel_rfl) rfl #[] rfl (by (try simp only [List.map_toArray, List.map_cons, List.map_nil]); first | done | rfl | (simp only [List.length_drop, List.length_take]; rfl)) ?_; (with_reducible refine (ltklaw21_first.calls kj5  t131 _ A14.out).mono ?_); rintro e w15 ⟨rfl, hb⟩; refine ⟨_, rfl, ?_⟩; have n0_ := Aside0.mk (below_step (by repeat (first | (with_reducible first | exact HB.out | apply below_alloc | apply pw_below_drewN | apply below_drew1) | exact HB.out)) hb); clear HB; have HB := n0_; clear n0_; (try clear hb); (try clear hb2); (try clear hk); (try clear hi)))
          go_ret
          exact ⟨by first | rfl | (simp [errW_none, errW_some] <;> rfl) | (simp [*, errW_none, errW_some] <;> rfl), by repeat (first | (with_reducible first | exact HB.out | apply below_alloc | apply pw_below_drewN | apply below_drew1) | exact HB.out)⟩
        · replace c13 := Bool.eq_false_iff.mpr c13
          subst c13
          have H1 : (if a1 = 0 then (ltklaw21_BoundFair.j1 kj5 a2 (wrap64 (a0 + 1)) 1 1 1 1 a0 0 1 9 1 0 9 a1) else (ltklaw21_BoundFair.j1 kj5 a2 a0 1 1 1 1 a0 0 1 9 1 0 9 a1)) = some r := by rw [if_neg (show ¬ (false = true) by decide)] at H; exact H
          clear H
          have H := H1
          clear H1
          have HC16 := Aside0.mk H
          clear H
          go_upto_if 42 with (first | ((with_reducible refine gate_dst (N := 7) rfl ?_); (try (refine gate_guard (by rfl) ?_; dsimp only)); refine box_event ?hg (N := 7) ?hd (cs := #[.int .i64 0, .int .i64 0, .int .i64 0, .int .i64 0, .int .i64 0, .int .i64 0, .int .i64 0, .int .i64 0, .int .i64 0, .int .i64 0, .int .i64 0, .int .i64 0]) (t := 50) ?hr ?_; (case hd => rfl); (case hg => rfl); (case hr => first | (go_simp; done) | (go_simp; rfl)); intro gb132 hg w17 hbox hb; have n0_ := Aside0.mk (below_step (by repeat (first | (with_reducible first | exact HB.out | apply below_alloc | apply pw_below_drewN | apply below_drew1) | exact HB.out)) hb); have n1_ := Aside0.mk (hbox); have n2_ := Aside0.mk ((by rw [hg]; exact (below_size (by repeat (first | (with_reducible first | exact HB.out | apply below_alloc | apply pw_below_drewN | apply below_drew1) | exact HB.out))) : w.heap.size ≤ gb132)); have n3_ := Aside0.mk ((by rw [hg]; exact (below_size (by repeat (first | (with_reducible first | exact HB.out | apply below_alloc | apply pw_below_drewN | apply below_drew1) | exact HB.out))) : w.heap.size ≤ gb132)); clear HB; have HB := n0_; have BK132 := n1_; have GW132 := n2_; have GE132 := n3_; clear n0_ n1_ n2_ n3_; clear hb hbox hg; have hcz18_0 : w17.cell? ⟨gb132, 0, none⟩ = some (.int .i64 0) := (blk_cell BK132.out 0).trans rfl; have hcz18_1 : w17.cell? ⟨gb132, 1, none⟩ = some (.int .i64 0) := (blk_cell BK132.out 1).trans rfl; have hcz18_2 : w17.cell? ⟨gb132, 2, none⟩ = some (.int .i64 0) := (blk_cell BK132.out 2).trans rfl; have hcz18_3 : w17.cell? ⟨gb132, 3, none⟩ = some (.int .i64 0) := (blk_cell BK132.out 3).trans rfl; have hcz18_4 : w17.cell? ⟨gb132, 4, none⟩ = some (.int .i64 0) := (blk_cell BK132.out 4).trans rfl; have hcz18_5 : w17.cell? ⟨gb132, 5, none⟩ = some (.int .i64 0) := (blk_cell BK132.out 5).trans rfl; have hcz18_6 : w17.cell? ⟨gb132, 6, none⟩ = some (.int .i64 0) := (blk_cell BK132.out 6).trans rfl; have hcz18_7 : w17.cell? ⟨gb132, 7, none⟩ = some (.int .i64 0) := (blk_cell BK132.out 7).trans rfl; have hcz18_8 : w17.cell? ⟨gb132, 8, none⟩ = some (.int .i64 0) := (blk_cell BK132.out 8).trans rfl; have hcz18_9 : w17.cell? ⟨gb132, 9, none⟩ = some (.int .i64 0) := (blk_cell BK132.out 9).trans rfl; have hcz18_10 : w17.cell? ⟨gb132, 10, none⟩ = some (.int .i64 0) := (blk_cell BK132.out 10).trans rfl; have hcz18_11 : w17.cell? ⟨gb132, 11, none⟩ = some (.int .i64 0) := (blk_cell BK132.out 11).trans rfl; have hfz18_0 := blk_frozen BK132.out 0; have hfz18_1 := blk_frozen BK132.out 1; have hfz18_2 := blk_frozen BK132.out 2; have hfz18_3 := blk_frozen BK132.out 3; have hfz18_4 := blk_frozen BK132.out 4; have hfz18_5 := blk_frozen BK132.out 5; have hfz18_6 := blk_frozen BK132.out 6; have hfz18_7 := blk_frozen BK132.out 7; have hfz18_8 := blk_frozen BK132.out 8; have hfz18_9 := blk_frozen BK132.out 9; have hfz18_10 := blk_frozen BK132.out 10; have hfz18_11 := blk_frozen BK132.out 11))
          (try simp only [Act.put, List.setIfInBounds_toArray, List.set_cons_zero, List.set_cons_succ])
          go_cut [8] (fun v8 wc => ∃ (kq : Nat) (x8_15 : Int), v8 = .int .i64 x8_15 ∧ Aside0 (ltklaw21_BoundFair.j1 kq a2 x8_15 1 1 1 1 a0 0 1 9 1 0 9 a1 = some r) ∧ Aside0 (kq ≤ kj5) ∧ Aside0 (wc.heap[gb132]? = some (.cells #[.int .i64 1, .int .i64 1, .int .i64 1, .int .i64 1, .int .i64 a0, .int .i64 0, .int .i64 1, .int .i64 9, .int .i64 1, .int .i64 0, .int .i64 9, .int .i64 a1] 50 (0, 0))) ∧ Aside0 (Below w.heap.size w wc))
          case first =>
            have H := HC16.out
            clear HC16
            by_cases c19 : a1 = 0
            · rw [if_pos c19] at H
              have c19b0 : (a1 == 0) = true := beq_iff_eq.mpr c19
              have c19b1 : (a1 != 0) = false := bne_eq_false_iff_eq.mpr c19
              clear c19
              (first | rw [c19b0] | (simp only [i64_w, i32_w]; rw [c19b0]) | skip)
              have H' := Aside0.mk H
              clear H
              go_wp2
              go_meet
              case rel => exact ⟨_, (wrap64 (a0 + 1)), (by first | rfl | (simp; done) | (simp [*]; done)), H', ⟨by have := HJ5.out; first | omega | exact Nat.le_refl _⟩, ⟨by (with_reducible repeat (first | refine blk_drewN ?_ _ | refine blk_drew ?_ | refine blk_alloc ?_ _)); refine blk_put (cs := #[.int .i64 1, .int .i64 1, .int .i64 1, .int .i64 1, .int .i64 a0, .int .i64 0, .int .i64 1, .int .i64 9, .int .i64 1, .int .i64 0, .int .i64 9, .int .i64 0]) ?_ 11 _ rfl; (with_reducible repeat (first | refine blk_drewN ?_ _ | refine blk_drew ?_ | refine blk_alloc ?_ _)); refine blk_put (cs := #[.int .i64 1, .int .i64 1, .int .i64 1, .int .i64 1, .int .i64 a0, .int .i64 0, .int .i64 1, .int .i64 9, .int .i64 1, .int .i64 0, .int .i64 0, .int .i64 0]) ?_ 10 _ rfl; (with_reducible repeat (first | refine blk_drewN ?_ _ | refine blk_drew ?_ | refine blk_alloc ?_ _)); refine blk_put (cs := #[.int .i64 1, .int .i64 1, .int .i64 1, .int .i64 1, .int .i64 a0, .int .i64 0, .int .i64 1, .int .i64 9, .int .i64 1, .int .i64 0, .int .i64 0, .int .i64 0]) ?_ 9 _ rfl; (with_reducible repeat (first | refine blk_drewN ?_ _ | refine blk_drew ?_ | refine blk_alloc ?_ _)); refine blk_put (cs := #[.int .i64 1, .int .i64 1, .int .i64 1, .int .i64 1, .int .i64 a0, .int .i64 0, .int .i64 1, .int .i64 9, .int .i64 0, .int .i64 0, .int .i64 0, .int .i64 0]) ?_ 8 _ rfl; (with_reducible repeat (first | refine blk_drewN ?_ _ | refine blk_drew ?_ | refine blk_alloc ?_ _)); refine blk_put (cs := #[.int .i64 1, .int .i64 1, .int .i64 1, .int .i64 1, .int .i64 a0, .int .i64 0, .int .i64 1, .int .i64 0, .int .i64 0, .int .i64 0, .int .i64 0, .int .i64 0]) ?_ 7 _ rfl; (with_reducible repeat (first | refine blk_drewN ?_ _ | refine blk_drew ?_ | refine blk_alloc ?_ _)); refine blk_put (cs := #[.int .i64 1, .int .i64 1, .int .i64 1, .int .i64 1, .int .i64 a0, .int .i64 0, .int .i64 0, .int .i64 0, .int .i64 0, .int .i64 0, .int .i64 0, .int .i64 0]) ?_ 6 _ rfl; (with_reducible repeat (first | refine blk_drewN ?_ _ | refine blk_drew ?_ | refine blk_alloc ?_ _)); refine blk_put (cs := #[.int .i64 1, .int .i64 1, .int .i64 1, .int .i64 1, .int .i64 a0, .int .i64 0, .int .i64 0, .int .i64 0, .int .i64 0, .int .i64 0, .int .i64 0, .int .i64 0]) ?_ 5 _ rfl; (with_reducible repeat (first | refine blk_drewN ?_ _ | refine blk_drew ?_ | refine blk_alloc ?_ _)); refine blk_put (cs := #[.int .i64 1, .int .i64 1, .int .i64 1, .int .i64 1, .int .i64 0, .int .i64 0, .int .i64 0, .int .i64 0, .int .i64 0, .int .i64 0, .int .i64 0, .int .i64 0]) ?_ 4 _ rfl; (with_reducible repeat (first | refine blk_drewN ?_ _ | refine blk_drew ?_ | refine blk_alloc ?_ _)); refine blk_put (cs := #[.int .i64 1, .int .i64 1, .int .i64 1, .int .i64 0, .int .i64 0, .int .i64 0, .int .i64 0, .int .i64 0, .int .i64 0, .int .i64 0, .int .i64 0, .int .i64 0]) ?_ 3 _ rfl; (with_reducible repeat (first | refine blk_drewN ?_ _ | refine blk_drew ?_ | refine blk_alloc ?_ _)); refine blk_put (cs := #[.int .i64 1, .int .i64 1, .int .i64 0, .int .i64 0, .int .i64 0, .int .i64 0, .int .i64 0, .int .i64 0, .int .i64 0, .int .i64 0, .int .i64 0, .int .i64 0]) ?_ 2 _ rfl; (with_reducible repeat (first | refine blk_drewN ?_ _ | refine blk_drew ?_ | refine blk_alloc ?_ _)); refine blk_put (cs := #[.int .i64 1, .int .i64 0, .int .i64 0, .int .i64 0, .int .i64 0, .int .i64 0, .int .i64 0, .int .i64 0, .int .i64 0, .int .i64 0, .int .i64 0, .int .i64 0]) ?_ 1 _ rfl; (with_reducible repeat (first | refine blk_drewN ?_ _ | refine blk_drew ?_ | refine blk_alloc ?_ _)); refine blk_put (cs := #[.int .i64 0, .int .i64 0, .int .i64 0, .int .i64 0, .int .i64 0, .int .i64 0, .int .i64 0, .int .i64 0, .int .i64 0, .int .i64 0, .int .i64 0, .int .i64 0]) ?_ 0 _ rfl; (with_reducible repeat (first | refine blk_drewN ?_ _ | refine blk_drew ?_ | refine blk_alloc ?_ _)); exact BK132.out⟩, ⟨by repeat (first | (with_reducible first | exact HB.out | apply below_alloc | apply pw_below_drewN | apply below_drew1 | refine below_set ?_ GE132.out) | exact HB.out)⟩⟩
            · rw [if_neg c19] at H
              have c19b0 : (a1 == 0) = false := beq_eq_false_iff_ne.mpr c19
              have c19b1 : (a1 != 0) = true := bne_iff_ne.mpr c19
              (first | rw [c19b0] | (simp only [i64_w, i32_w]; rw [c19b0]) | skip)
              have H' := Aside0.mk H
              clear H
              go_wp2
              go_meet
              case rel => exact ⟨_, (a0), (by first | rfl | (simp; done) | (simp [*]; done)), H', ⟨by have := HJ5.out; first | omega | exact Nat.le_refl _⟩, ⟨by (with_reducible repeat (first | refine blk_drewN ?_ _ | refine blk_drew ?_ | refine blk_alloc ?_ _)); refine blk_put (cs := #[.int .i64 1, .int .i64 1, .int .i64 1, .int .i64 1, .int .i64 a0, .int .i64 0, .int .i64 1, .int .i64 9, .int .i64 1, .int .i64 0, .int .i64 9, .int .i64 0]) ?_ 11 _ rfl; (with_reducible repeat (first | refine blk_drewN ?_ _ | refine blk_drew ?_ | refine blk_alloc ?_ _)); refine blk_put (cs := #[.int .i64 1, .int .i64 1, .int .i64 1, .int .i64 1, .int .i64 a0, .int .i64 0, .int .i64 1, .int .i64 9, .int .i64 1, .int .i64 0, .int .i64 0, .int .i64 0]) ?_ 10 _ rfl; (with_reducible repeat (first | refine blk_drewN ?_ _ | refine blk_drew ?_ | refine blk_alloc ?_ _)); refine blk_put (cs := #[.int .i64 1, .int .i64 1, .int .i64 1, .int .i64 1, .int .i64 a0, .int .i64 0, .int .i64 1, .int .i64 9, .int .i64 1, .int .i64 0, .int .i64 0, .int .i64 0]) ?_ 9 _ rfl; (with_reducible repeat (first | refine blk_drewN ?_ _ | refine blk_drew ?_ | refine blk_alloc ?_ _)); refine blk_put (cs := #[.int .i64 1, .int .i64 1, .int .i64 1, .int .i64 1, .int .i64 a0, .int .i64 0, .int .i64 1, .int .i64 9, .int .i64 0, .int .i64 0, .int .i64 0, .int .i64 0]) ?_ 8 _ rfl; (with_reducible repeat (first | refine blk_drewN ?_ _ | refine blk_drew ?_ | refine blk_alloc ?_ _)); refine blk_put (cs := #[.int .i64 1, .int .i64 1, .int .i64 1, .int .i64 1, .int .i64 a0, .int .i64 0, .int .i64 1, .int .i64 0, .int .i64 0, .int .i64 0, .int .i64 0, .int .i64 0]) ?_ 7 _ rfl; (with_reducible repeat (first | refine blk_drewN ?_ _ | refine blk_drew ?_ | refine blk_alloc ?_ _)); refine blk_put (cs := #[.int .i64 1, .int .i64 1, .int .i64 1, .int .i64 1, .int .i64 a0, .int .i64 0, .int .i64 0, .int .i64 0, .int .i64 0, .int .i64 0, .int .i64 0, .int .i64 0]) ?_ 6 _ rfl; (with_reducible repeat (first | refine blk_drewN ?_ _ | refine blk_drew ?_ | refine blk_alloc ?_ _)); refine blk_put (cs := #[.int .i64 1, .int .i64 1, .int .i64 1, .int .i64 1, .int .i64 a0, .int .i64 0, .int .i64 0, .int .i64 0, .int .i64 0, .int .i64 0, .int .i64 0, .int .i64 0]) ?_ 5 _ rfl; (with_reducible repeat (first | refine blk_drewN ?_ _ | refine blk_drew ?_ | refine blk_alloc ?_ _)); refine blk_put (cs := #[.int .i64 1, .int .i64 1, .int .i64 1, .int .i64 1, .int .i64 0, .int .i64 0, .int .i64 0, .int .i64 0, .int .i64 0, .int .i64 0, .int .i64 0, .int .i64 0]) ?_ 4 _ rfl; (with_reducible repeat (first | refine blk_drewN ?_ _ | refine blk_drew ?_ | refine blk_alloc ?_ _)); refine blk_put (cs := #[.int .i64 1, .int .i64 1, .int .i64 1, .int .i64 0, .int .i64 0, .int .i64 0, .int .i64 0, .int .i64 0, .int .i64 0, .int .i64 0, .int .i64 0, .int .i64 0]) ?_ 3 _ rfl; (with_reducible repeat (first | refine blk_drewN ?_ _ | refine blk_drew ?_ | refine blk_alloc ?_ _)); refine blk_put (cs := #[.int .i64 1, .int .i64 1, .int .i64 0, .int .i64 0, .int .i64 0, .int .i64 0, .int .i64 0, .int .i64 0, .int .i64 0, .int .i64 0, .int .i64 0, .int .i64 0]) ?_ 2 _ rfl; (with_reducible repeat (first | refine blk_drewN ?_ _ | refine blk_drew ?_ | refine blk_alloc ?_ _)); refine blk_put (cs := #[.int .i64 1, .int .i64 0, .int .i64 0, .int .i64 0, .int .i64 0, .int .i64 0, .int .i64 0, .int .i64 0, .int .i64 0, .int .i64 0, .int .i64 0, .int .i64 0]) ?_ 1 _ rfl; (with_reducible repeat (first | refine blk_drewN ?_ _ | refine blk_drew ?_ | refine blk_alloc ?_ _)); refine blk_put (cs := #[.int .i64 0, .int .i64 0, .int .i64 0, .int .i64 0, .int .i64 0, .int .i64 0, .int .i64 0, .int .i64 0, .int .i64 0, .int .i64 0, .int .i64 0, .int .i64 0]) ?_ 0 _ rfl; (with_reducible repeat (first | refine blk_drewN ?_ _ | refine blk_drew ?_ | refine blk_alloc ?_ _)); exact BK132.out⟩, ⟨by repeat (first | (with_reducible first | exact HB.out | apply below_alloc | apply pw_below_drewN | apply below_drew1 | refine below_set ?_ GE132.out) | exact HB.out)⟩⟩
          case rest =>
            clear HC16
            try clear c1
            try clear p2
            try clear c4
            try clear c5
            try clear p6
            try clear c8
            try clear c8b0
            try clear c9
            try clear c9b0
            try clear c10
            try clear c10b0
            try clear c11
            try clear c11b0
            try clear c12
            try clear c12b0
            try clear c13
            try clear c14
            try clear c19
            try clear c19b0
            try clear c19b1
            try clear hcz18_0
            try clear hcz18_1
            try clear hcz18_10
            try clear hcz18_11
            try clear hcz18_2
            try clear hcz18_3
            try clear hcz18_4
            try clear hcz18_5
            try clear hcz18_6
            try clear hcz18_7
            try clear hcz18_8
            try clear hcz18_9
            try clear hfz18_0
            try clear hfz18_1
            try clear hfz18_10
            try clear hfz18_11
            try clear hfz18_2
            try clear hfz18_3
            try clear hfz18_4
            try clear hfz18_5
            try clear hfz18_6
            try clear hfz18_7
            try clear hfz18_8
            try clear hfz18_9
            try clear p2
            obtain ⟨kq, x8_15, rfl, HA, HJ15, BK132, HB⟩ := hcut
            cases kq with
            | zero => exact absurd HA.out (by simp [ltklaw21_BoundFair.j1])
            | succ kj15 =>
              have H := HA.out
              clear HA
              simp only [ltklaw21_BoundFair.j1] at H
              have H' := Aside0.mk H
              clear H
              go_wp2
              go_loopg [9, 10, 11] kj15 (fun kq v9 v10 v11 w' => ∃ (x9_3 : List Int) (x10_3 : List Int) (x11_3 : Int), v11 = .int .i64 x11_3 ∧ Aside0 (ltklaw21_BoundFair.l0 kq a2 x8_15 x9_3 x10_3 x11_3 1 1 1 1 a0 0 1 9 1 0 9 a1 = some r) ∧ Aside0 (kq ≤ kj15) ∧ Aside0 (Kd.R (Kd.int .i64) 3 w' w.heap.size (fun k_ => some k_ ≠ (v10 : Value).ownBlock) v9 x9_3) ∧ Aside0 (Kd.R (Kd.int .i64) 3 w' w.heap.size (fun k_ => some k_ ≠ (v9 : Value).ownBlock) v10 x10_3) ∧ Aside0 (w'.heap[gb132]? = some (.cells #[.int .i64 1, .int .i64 1, .int .i64 1, .int .i64 1, .int .i64 a0, .int .i64 0, .int .i64 1, .int .i64 9, .int .i64 1, .int .i64 0, .int .i64 9, .int .i64 a1] 50 (0, 0))) ∧ Aside0 (Below w.heap.size w w'))
              case atStart => exact ⟨(([] : List Int)), (([] : List Int)), (0), (by first | rfl | (simp; done) | (simp [*]; done)), H', ⟨Nat.le_refl _⟩, ⟨by first | exact Kd.R_nil _ _ _ _ _ | exact Kd.N_nil _ _ _ _ _ | exact Kd.V_nil _ _ _ _ _ | exact Kd.Q_nil _ _ _ _ _ | exact Kd.S_nil _ _ _ _ _⟩, ⟨by first | exact Kd.R_nil _ _ _ _ _ | exact Kd.N_nil _ _ _ _ _ | exact Kd.V_nil _ _ _ _ _ | exact Kd.Q_nil _ _ _ _ _ | exact Kd.S_nil _ _ _ _ _⟩, ⟨by (with_reducible repeat (first | refine blk_drewN ?_ _ | refine blk_drew ?_ | refine blk_alloc ?_ _)); exact BK132.out⟩, ⟨by repeat (first | (with_reducible first | exact HB.out | apply below_alloc | apply pw_below_drewN | apply below_drew1 | refine below_set ?_ GE132.out) | exact HB.out)⟩⟩
              case round =>
                clear H'
                try clear c1
                try clear p2
                try clear c4
                try clear c5
                try clear p6
                try clear c8
                try clear c8b0
                try clear c9
                try clear c9b0
                try clear c10
                try clear c10b0
                try clear c11
                try clear c11b0
                try clear c12
                try clear c12b0
                try clear c13
                try clear c14
                try clear c19
                try clear c19b0
                try clear c19b1
                try clear hcz18_0
                try clear hcz18_1
                try clear hcz18_10
                try clear hcz18_11
                try clear hcz18_2
                try clear hcz18_3
                try clear hcz18_4
                try clear hcz18_5
                try clear hcz18_6
                try clear hcz18_7
                try clear hcz18_8
                try clear hcz18_9
                try clear hfz18_0
                try clear hfz18_1
                try clear hfz18_10
                try clear hfz18_11
                try clear hfz18_2
                try clear hfz18_3
                try clear hfz18_4
                try clear hfz18_5
                try clear hfz18_6
                try clear hfz18_7
                try clear hfz18_8
                try clear hfz18_9
                try clear p2
                try clear p6
                obtain ⟨x9_3, x10_3, x11_3, rfl, HA, HK3, HO_9, HO_10, BK132, HB⟩ := hrel
                cases gk with
                | zero => exact absurd HA.out (by simp [ltklaw21_BoundFair.l0])
                | succ k3 =>
                  have H := HA.out
                  clear HA
                  simp only [ltklaw21_BoundFair.l0] at H
                  by_cases c20 : x11_3 < (wrap64 (a2 * x8_15))
                  · rw [if_pos c20] at H
                    have c20b0 : decide (x11_3 < (wrap64 (a2 * x8_15))) = true := decide_eq_true c20
                    clear c20
                    by_cases c21 : x8_15 = 0
                    · rw [if_pos c21] at H
                      exact absurd H (by simp)
                    · rw [if_neg c21] at H
                      have c21b0 : (x8_15 == 0) = false := beq_eq_false_iff_ne.mpr c21
                      have c21b1 : (x8_15 != 0) = true := bne_iff_ne.mpr c21
                      by_cases c22 : x9_3.length < 17592186044416
                      · rw [if_pos c22] at H
                        have LMc22 := Aside0.mk c22
                        clear c22
                        obtain ⟨y133, hy133⟩ : ∃ y_ : List Int, y_ = (x9_3 ++ [Int.tmod x11_3 x8_15]) := ⟨_, rfl⟩
                        replace H : (if (Int.tmod x11_3 x8_15) = (wrap64 (x8_15 - 1)) then (ltklaw21_BoundFair.l0 k3 a2 x8_15 y133 x10_3 (wrap64 (x11_3 + 1)) 1 1 1 1 a0 0 1 9 1 0 9 a1) else (if x10_3.length < 17592186044416 then (ltklaw21_BoundFair.l0 k3 a2 x8_15 y133 (x10_3 ++ [Int.tmod x11_3 x8_15]) (wrap64 (x11_3 + 1)) 1 1 1 1 a0 0 1 9 1 0 9 a1) else (none))) = some r := by first | (rw [hy133]; with_reducible exact H) | (have H2_ := (Option.bind_some _ _).symm.trans H; rw [hy133]; with_reducible exact H2_) | (have H2_ := (Option.bind_some _ _).symm.trans H; with_reducible exact H2_) | with_reducible exact H | (rw [hy133]; exact H) | exact H
                        have Ny133 := Aside0.mk hy133
                        clear hy133
                        by_cases c23 : (Int.tmod x11_3 x8_15) = (wrap64 (x8_15 - 1))
                        · rw [if_pos c23] at H
                          have c23b0 : ((Int.tmod x11_3 x8_15) == (wrap64 (x8_15 - 1))) = true := beq_iff_eq.mpr c23
                          have c23b1 : ((Int.tmod x11_3 x8_15) != (wrap64 (x8_15 - 1))) = false := bne_eq_false_iff_eq.mpr c23
                          clear c23
                          have H' := Aside0.mk H
                          clear H
                          go_wp2_with (first | ((with_reducible refine gate_builtin (b := .append) (xs := #[.tmp 52, .tmp 56]) rfl ?_); (try (refine gate_guard (by rfl) ?_; dsimp only)); at_builtin; refine Kd.R_append (Kd.int .i64) (w0 := w) w.heap.size rfl (.tmp 52) (.tmp 56) 22 3 (.int .i64 0) 8 rfl Try.underlying22 info3 rfl (by decide) (by omega) u9 x9_3 (Int.tmod x11_3 x8_15) [.int .i64 (Int.tmod x11_3 x8_15)] (fun k_ => some k_ ≠ (u10 : Value).ownBlock) (fun _ => False) rfl rfl ?aP (fun _ hk => hk.elim) ?aF ?aO ?aB ?aS ?aL ?_; (case aP => exact rfl); (case aB => exact (by repeat (first | (with_reducible first | exact HB.out | apply below_alloc | apply pw_below_drewN | apply below_drew1 | refine below_set ?_ GE132.out) | exact HB.out))); (case aF => exact (fun k_ hk => Kd.fresh' (Kd.R_lt (by (with_reducible repeat (first | apply Kd.R_alloc | apply Kd.R_drewN | apply Kd.R_drew)); exact HO_10.out)) k_ hk)); (case aO => exact (by (with_reducible repeat (first | apply Kd.R_alloc | apply Kd.R_drewN | apply Kd.R_drew)); exact HO_9.out)); (case aS => exact (below_size (by repeat (first | (with_reducible first | exact HB.out | apply below_alloc | apply pw_below_drewN | apply below_drew1 | refine below_set ?_ GE132.out) | exact HB.out)))); (case aL => have := LMc22.out; omega); intro v134 w24 ho hb hg hat; rw [← Ny133.out] at ho; have n0_ := Aside0.mk (Kd.R_after (ok := (fun _ => True)) (by (with_reducible repeat (first | apply Kd.R_alloc | apply Kd.R_drewN | apply Kd.R_drew)); exact Kd.R_mono HO_10.out (fun _ hk => ⟨trivial, hk⟩)) hg hat); have n1_ := Aside0.mk (blk_grown (g := gb132) (o := .cells #[.int .i64 1, .int .i64 1, .int .i64 1, .int .i64 1, .int .i64 a0, .int .i64 0, .int .i64 1, .int .i64 9, .int .i64 1, .int .i64 0, .int .i64 9, .int .i64 a1] 50 (0, 0)) (by (with_reducible repeat (first | refine blk_drewN ?_ _ | refine blk_drew ?_ | refine blk_alloc ?_ _)); exact BK132.out) hg (Kd.R_ne HO_9.out BK132.out (by decide))); have n2_ := Aside0.mk (hb); have n3_ := Aside0.mk (ho); clear HO_10; clear BK132; clear HB; clear HO_9; have HO_10 := n0_; have BK132 := n1_; have HB := n2_; have HO135 := n3_; clear n0_ n1_ n2_ n3_; clear ho hb hg hat))
                          go_roundg k3
                          case measure => have := HJ5.out; have := HJ15.out; have := HK3.out; omega
                          case rel => exact ⟨(y133), (x10_3), (wrap64 (x11_3 + 1)), (by first | rfl | (simp; done) | (simp [*]; done)), H', ⟨by have := HJ5.out; have := HJ15.out; have := HK3.out; omega⟩, ⟨by (with_reducible repeat (first | apply Kd.R_alloc | apply Kd.R_drewN | apply Kd.R_drew)); exact HO135.out⟩, ⟨by (with_reducible repeat (first | apply Kd.R_alloc | apply Kd.R_drewN | apply Kd.R_drew)); exact Kd.R_mono HO_10.out (fun _ hk => hk.2)⟩, ⟨by (with_reducible repeat (first | refine blk_drewN ?_ _ | refine blk_drew ?_ | refine blk_alloc ?_ _)); exact BK132.out⟩, ⟨by repeat (first | (with_reducible first | exact HB.out | apply below_alloc | apply pw_below_drewN | apply below_drew1 | refine below_set ?_ GE132.out) | exact HB.out)⟩⟩
                        · rw [if_neg c23] at H
                          have c23b0 : ((Int.tmod x11_3 x8_15) == (wrap64 (x8_15 - 1))) = false := beq_eq_false_iff_ne.mpr c23
                          have c23b1 : ((Int.tmod x11_3 x8_15) != (wrap64 (x8_15 - 1))) = true := bne_iff_ne.mpr c23
                          by_cases c25 : x10_3.length < 17592186044416
                          · rw [if_pos c25] at H
                            have LMc25 := Aside0.mk c25
                            clear c25
                            obtain ⟨y136, hy136⟩ : ∃ y_ : List Int, y_ = (x10_3 ++ [Int.tmod x11_3 x8_15]) := ⟨_, rfl⟩
                            replace H : (ltklaw21_BoundFair.l0 k3 a2 x8_15 y133 y136 (wrap64 (x11_3 + 1)) 1 1 1 1 a0 0 1 9 1 0 9 a1) = some r := by first | (rw [hy136]; with_reducible exact H) | (have H2_ := (Option.bind_some _ _).symm.trans H; rw [hy136]; with_reducible exact H2_) | (have H2_ := (Option.bind_some _ _).symm.trans H; with_reducible exact H2_) | with_reducible exact H | (rw [hy136]; exact H) | exact H
                            have Ny136 := Aside0.mk hy136
                            clear hy136
                            have H' := Aside0.mk H
                            clear H
                            go_wp2_with (first | ((with_reducible refine gate_builtin (b := .append) (xs := #[.tmp 52, .tmp 56]) rfl ?_); (try (refine gate_guard (by rfl) ?_; dsimp only)); at_builtin; refine Kd.R_append (Kd.int .i64) (w0 := w) w.heap.size rfl (.tmp 52) (.tmp 56) 22 3 (.int .i64 0) 8 rfl Try.underlying22 info3 rfl (by decide) (by omega) u9 x9_3 (Int.tmod x11_3 x8_15) [.int .i64 (Int.tmod x11_3 x8_15)] (fun k_ => some k_ ≠ (u10 : Value).ownBlock) (fun _ => False) rfl rfl ?aP (fun _ hk => hk.elim) ?aF ?aO ?aB ?aS ?aL ?_; (case aP => exact rfl); (case aB => exact (by repeat (first | (with_reducible first | exact HB.out | apply below_alloc | apply pw_below_drewN | apply below_drew1 | refine below_set ?_ GE132.out) | exact HB.out))); (case aF => exact (fun k_ hk => Kd.fresh' (Kd.R_lt (by (with_reducible repeat (first | apply Kd.R_alloc | apply Kd.R_drewN | apply Kd.R_drew)); exact HO_10.out)) k_ hk)); (case aO => exact (by (with_reducible repeat (first | apply Kd.R_alloc | apply Kd.R_drewN | apply Kd.R_drew)); exact HO_9.out)); (case aS => exact (below_size (by repeat (first | (with_reducible first | exact HB.out | apply below_alloc | apply pw_below_drewN | apply below_drew1 | refine below_set ?_ GE132.out) | exact HB.out)))); (case aL => have := LMc22.out; omega); intro v134 w26 ho hb hg hat; rw [← Ny133.out] at ho; have n0_ := Aside0.mk (Kd.R_after (ok := (fun _ => True)) (by (with_reducible repeat (first | apply Kd.R_alloc | apply Kd.R_drewN | apply Kd.R_drew)); exact Kd.R_mono HO_10.out (fun _ hk => ⟨trivial, hk⟩)) hg hat); have n1_ := Aside0.mk (blk_grown (g := gb132) (o := .cells #[.int .i64 1, .int .i64 1, .int .i64 1, .int .i64 1, .int .i64 a0, .int .i64 0, .int .i64 1, .int .i64 9, .int .i64 1, .int .i64 0, .int .i64 9, .int .i64 a1] 50 (0, 0)) (by (with_reducible repeat (first | refine blk_drewN ?_ _ | refine blk_drew ?_ | refine blk_alloc ?_ _)); exact BK132.out) hg (Kd.R_ne HO_9.out BK132.out (by decide))); have n2_ := Aside0.mk (hb); have n3_ := Aside0.mk (ho); clear HO_10; clear BK132; clear HB; clear HO_9; have HO_10 := n0_; have BK132 := n1_; have HB := n2_; have HO135 := n3_; clear n0_ n1_ n2_ n3_; clear ho hb hg hat) | ((with_reducible refine gate_builtin (b := .append) (xs := #[.tmp 64, .tmp 68]) rfl ?_); (try (refine gate_guard (by rfl) ?_; dsimp only)); at_builtin; refine Kd.R_append (Kd.int .i64) (w0 := w) w.heap.size rfl (.tmp 64) (.tmp 68) 22 3 (.int .i64 0) 8 rfl Try.underlying22 info3 rfl (by decide) (by omega) u10 x10_3 (Int.tmod x11_3 x8_15) [.int .i64 (Int.tmod x11_3 x8_15)] (fun k_ => some k_ ≠ (v134 : Value).ownBlock) (fun _ => False) rfl rfl ?aP (fun _ hk => hk.elim) ?aF ?aO ?aB ?aS ?aL ?_; (case aP => exact rfl); (case aB => exact (by repeat (first | (with_reducible first | exact HB.out | apply below_alloc | apply pw_below_drewN | apply below_drew1 | refine below_set ?_ GE132.out) | exact HB.out))); (case aF => exact (fun k_ hk => Kd.fresh' (Kd.R_lt (by (with_reducible repeat (first | apply Kd.R_alloc | apply Kd.R_drewN | apply Kd.R_drew)); exact HO135.out)) k_ hk)); (case aO => exact (by (with_reducible repeat (first | apply Kd.R_alloc | apply Kd.R_drewN | apply Kd.R_drew)); exact Kd.R_mono HO_10.out (fun _ hk => hk.2))); (case aS => exact (below_size (by repeat (first | (with_reducible first | exact HB.out | apply below_alloc | apply pw_below_drewN | apply below_drew1 | refine below_set ?_ GE132.out) | exact HB.out)))); (case aL => have := LMc25.out; omega); intro v137 w27 ho hb hg hat; rw [← Ny136.out] at ho; have n0_ := Aside0.mk (blk_grown (g := gb132) (o := .cells #[.int .i64 1, .int .i64 1, .int .i64 1, .int .i64 1, .int .i64 a0, .int .i64 0, .int .i64 1, .int .i64 9, .int .i64 1, .int .i64 0, .int .i64 9, .int .i64 a1] 50 (0, 0)) (by (with_reducible repeat (first | refine blk_drewN ?_ _ | refine blk_drew ?_ | refine blk_alloc ?_ _)); exact BK132.out) hg (Kd.R_ne HO_10.out BK132.out (by decide))); have n1_ := Aside0.mk (Kd.R_after (ok := (fun _ => True)) (by (with_reducible repeat (first | apply Kd.R_alloc | apply Kd.R_drewN | apply Kd.R_drew)); exact Kd.R_mono HO135.out (fun _ hk => ⟨trivial, hk⟩)) hg hat); have n2_ := Aside0.mk (hb); have n3_ := Aside0.mk (ho); clear BK132; clear HO135; clear HB; clear HO_10; have BK132 := n0_; have HO135 := n1_; have HB := n2_; have HO138 := n3_; clear n0_ n1_ n2_ n3_; clear ho hb hg hat))
                            go_roundg k3
                            case measure => have := HJ5.out; have := HJ15.out; have := HK3.out; omega
                            case rel => exact ⟨(y133), (y136), (wrap64 (x11_3 + 1)), (by first | rfl | (simp; done) | (simp [*]; done)), H', ⟨by have := HJ5.out; have := HJ15.out; have := HK3.out; omega⟩, ⟨by (with_reducible repeat (first | apply Kd.R_alloc | apply Kd.R_drewN | apply Kd.R_drew)); exact Kd.R_mono HO135.out (fun _ hk => hk.2)⟩, ⟨by (with_reducible repeat (first | apply Kd.R_alloc | apply Kd.R_drewN | apply Kd.R_drew)); exact HO138.out⟩, ⟨by (with_reducible repeat (first | refine blk_drewN ?_ _ | refine blk_drew ?_ | refine blk_alloc ?_ _)); exact BK132.out⟩, ⟨by repeat (first | (with_reducible first | exact HB.out | apply below_alloc | apply pw_below_drewN | apply below_drew1 | refine below_set ?_ GE132.out) | exact HB.out)⟩⟩
                          · rw [if_neg c25] at H
                            exact absurd H (by simp)
                      · rw [if_neg c22] at H
                        exact absurd H (by simp)
                  · rw [if_neg c20] at H
                    have c20b0 : decide (x11_3 < (wrap64 (a2 * x8_15))) = false := decide_eq_false c20
                    clear c20
                    replace H := Option.bind_eq_some_iff.mp H
                    obtain ⟨t139, A280, H⟩ := H
                    replace H : (if t139 = true then ((bound_Fair.f k3 1 1 1 1 a0 0 1 9 1 0 9 a1 x8_15 x9_3).bind fun t140 => (if t140 = true then ((bound_Fair.f k3 1 1 1 1 a0 0 1 9 1 0 9 a1 (wrap64 (x8_15 - 1)) x9_3).bind fun t141 => (if t141 = true then (some false) else (if (x10_3.length : Int) = 0 then ((bound_Fair.f k3 1 1 1 1 a0 0 1 9 1 0 9 a1 (wrap64 ((x9_3.length : Int) + 1)) x10_3).bind fun t142 => (some t142)) else ((bound_Fair.f k3 1 1 1 1 a0 0 1 9 1 0 9 a1 (x10_3.length : Int) x10_3).bind fun t143 => (if t143 = true then (some false) else ((bound_Fair.f k3 1 1 1 1 a0 0 1 9 1 0 9 a1 (wrap64 ((x9_3.length : Int) + 1)) x10_3).bind fun t144 => (some t144))))))) else (some false))) else (some false)) = some r := H
                    have A28 := Aside0.mk A280
                    clear A280
                    by_cases c29 : t139 = true
                    · subst c29
                      have H1 : ((bound_Fair.f k3 1 1 1 1 a0 0 1 9 1 0 9 a1 x8_15 x9_3).bind fun t140 => (if t140 = true then ((bound_Fair.f k3 1 1 1 1 a0 0 1 9 1 0 9 a1 (wrap64 (x8_15 - 1)) x9_3).bind fun t141 => (if t141 = true then (some false) else (if (x10_3.length : Int) = 0 then ((bound_Fair.f k3 1 1 1 1 a0 0 1 9 1 0 9 a1 (wrap64 ((x9_3.length : Int) + 1)) x10_3).bind fun t142 => (some t142)) else ((bound_Fair.f k3 1 1 1 1 a0 0 1 9 1 0 9 a1 (x10_3.length : Int) x10_3).bind fun t143 => (if t143 = true then (some false) else ((bound_Fair.f k3 1 1 1 1 a0 0 1 9 1 0 9 a1 (wrap64 ((x9_3.length : Int) + 1)) x10_3).bind fun t144 => (some t144))))))) else (some false))) = some r := by rw [if_pos rfl] at H; exact H
                      clear H
                      have H := H1
                      clear H1
                      replace H := Option.bind_eq_some_iff.mp H
                      obtain ⟨t140, A300, H⟩ := H
                      replace H : (if t140 = true then ((bound_Fair.f k3 1 1 1 1 a0 0 1 9 1 0 9 a1 (wrap64 (x8_15 - 1)) x9_3).bind fun t141 => (if t141 = true then (some false) else (if (x10_3.length : Int) = 0 then ((bound_Fair.f k3 1 1 1 1 a0 0 1 9 1 0 9 a1 (wrap64 ((x9_3.length : Int) + 1)) x10_3).bind fun t142 => (some t142)) else ((bound_Fair.f k3 1 1 1 1 a0 0 1 9 1 0 9 a1 (x10_3.length : Int) x10_3).bind fun t143 => (if t143 = true then (some false) else ((bound_Fair.f k3 1 1 1 1 a0 0 1 9 1 0 9 a1 (wrap64 ((x9_3.length : Int) + 1)) x10_3).bind fun t144 => (some t144))))))) else (some false)) = some r := H
                      have A30 := Aside0.mk A300
                      clear A300
                      by_cases c31 : t140 = true
                      · subst c31
                        have H1 : ((bound_Fair.f k3 1 1 1 1 a0 0 1 9 1 0 9 a1 (wrap64 (x8_15 - 1)) x9_3).bind fun t141 => (if t141 = true then (some false) else (if (x10_3.length : Int) = 0 then ((bound_Fair.f k3 1 1 1 1 a0 0 1 9 1 0 9 a1 (wrap64 ((x9_3.length : Int) + 1)) x10_3).bind fun t142 => (some t142)) else ((bound_Fair.f k3 1 1 1 1 a0 0 1 9 1 0 9 a1 (x10_3.length : Int) x10_3).bind fun t143 => (if t143 = true then (some false) else ((bound_Fair.f k3 1 1 1 1 a0 0 1 9 1 0 9 a1 (wrap64 ((x9_3.length : Int) + 1)) x10_3).bind fun t144 => (some t144))))))) = some r := by rw [if_pos rfl] at H; exact H
                        clear H
                        have H := H1
                        clear H1
                        replace H := Option.bind_eq_some_iff.mp H
                        obtain ⟨t141, A320, H⟩ := H
                        replace H : (if t141 = true then (some false) else (if (x10_3.length : Int) = 0 then ((bound_Fair.f k3 1 1 1 1 a0 0 1 9 1 0 9 a1 (wrap64 ((x9_3.length : Int) + 1)) x10_3).bind fun t142 => (some t142)) else ((bound_Fair.f k3 1 1 1 1 a0 0 1 9 1 0 9 a1 (x10_3.length : Int) x10_3).bind fun t143 => (if t143 = true then (some false) else ((bound_Fair.f k3 1 1 1 1 a0 0 1 9 1 0 9 a1 (wrap64 ((x9_3.length : Int) + 1)) x10_3).bind fun t144 => (some t144)))))) = some r := H
                        have A32 := Aside0.mk A320
                        clear A320
                        by_cases c33 : t141 = true
                        · subst c33
                          have H1 : (some false) = some r := by rw [if_pos rfl] at H; exact H
                          clear H
                          have H := H1
                          clear H1
                          obtain rfl := Option.some.inj H
                          go_wp2_with (first | ((with_reducible refine gate_callee (f := 43) rfl ?_); refine goesL_ (some 70) rfl rfl Try.func43 (by kernel_rfl) rfl #[] rfl (by (try simp only [List.map_toArray, List.map_cons, List.map_nil]); first | done | rfl | (simp only [List.length_drop, List.length_take]; rfl)) ?_; (with_reducible refine (ltklaw21_first.calls k3  true _ A28.out).mono ?_); rintro e w34 ⟨rfl, hb⟩; refine ⟨_, rfl, ?_⟩; have n0_ := Aside0.mk (Kd.R_below (by (with_reducible repeat (first | apply Kd.R_alloc | apply Kd.R_drewN | apply Kd.R_drew)); exact HO_9.out) hb); have n1_ := Aside0.mk (Kd.R_below (by (with_reducible repeat (first | apply Kd.R_alloc | apply Kd.R_drewN | apply Kd.R_drew)); exact HO_10.out) hb); have n2_ := Aside0.mk (blk_below (g := gb132) (o := .cells #[.int .i64 1, .int .i64 1, .int .i64 1, .int .i64 1, .int .i64 a0, .int .i64 0, .int .i64 1, .int .i64 9, .int .i64 1, .int .i64 0, .int .i64 9, .int .i64 a1] 50 (0, 0)) (by (with_reducible repeat (first | refine blk_drewN ?_ _ | refine blk_drew ?_ | refine blk_alloc ?_ _)); exact BK132.out) hb); have n3_ := Aside0.mk (below_step (by repeat (first | (with_reducible first | exact HB.out | apply below_alloc | apply pw_below_drewN | apply below_drew1 | refine below_set ?_ GE132.out) | exact HB.out)) hb); clear HO_9; clear HO_10; clear BK132; clear HB; have HO_9 := n0_; have HO_10 := n1_; have BK132 := n2_; have HB := n3_; clear n0_ n1_ n2_ n3_; (try clear hb); (try clear hb2); (try clear hk); (try clear hi); have hcz35_0 : w34.cell? ⟨gb132, 0, none⟩ = some (.int .i64 1) := (blk_cell BK132.out 0).trans rfl; have hcz35_1 : w34.cell? ⟨gb132, 1, none⟩ = some (.int .i64 1) := (blk_cell BK132.out 1).trans rfl; have hcz35_2 : w34.cell? ⟨gb132, 2, none⟩ = some (.int .i64 1) := (blk_cell BK132.out 2).trans rfl; have hcz35_3 : w34.cell? ⟨gb132, 3, none⟩ = some (.int .i64 1) := (blk_cell BK132.out 3).trans rfl; have hcz35_4 : w34.cell? ⟨gb132, 4, none⟩ = some (.int .i64 a0) := (blk_cell BK132.out 4).trans rfl; have hcz35_5 : w34.cell? ⟨gb132, 5, none⟩ = some (.int .i64 0) := (blk_cell BK132.out 5).trans rfl; have hcz35_6 : w34.cell? ⟨gb132, 6, none⟩ = some (.int .i64 1) := (blk_cell BK132.out 6).trans rfl; have hcz35_7 : w34.cell? ⟨gb132, 7, none⟩ = some (.int .i64 9) := (blk_cell BK132.out 7).trans rfl; have hcz35_8 : w34.cell? ⟨gb132, 8, none⟩ = some (.int .i64 1) := (blk_cell BK132.out 8).trans rfl; have hcz35_9 : w34.cell? ⟨gb132, 9, none⟩ = some (.int .i64 0) := (blk_cell BK132.out 9).trans rfl; have hcz35_10 : w34.cell? ⟨gb132, 10, none⟩ = some (.int .i64 9) := (blk_cell BK132.out 10).trans rfl; have hcz35_11 : w34.cell? ⟨gb132, 11, none⟩ = some (.int .i64 a1) := (blk_cell BK132.out 11).trans rfl; have hfz35_0 := blk_frozen BK132.out 0; have hfz35_1 := blk_frozen BK132.out 1; have hfz35_2 := blk_frozen BK132.out 2; have hfz35_3 := blk_frozen BK132.out 3; have hfz35_4 := blk_frozen BK132.out 4; have hfz35_5 := blk_frozen BK132.out 5; have hfz35_6 := blk_frozen BK132.out 6; have hfz35_7 := blk_frozen BK132.out 7; have hfz35_8 := blk_frozen BK132.out 8; have hfz35_9 := blk_frozen BK132.out 9; have hfz35_10 := blk_frozen BK132.out 10; have hfz35_11 := blk_frozen BK132.out 11; obtain ⟨Ao36, co36, eo36⟩ := Kd.R_slice HO_9.out; subst eo36) | (go_at_call 44; (with_reducible refine (bound_Fair.calls k3 1 1 1 1 a0 0 1 9 1 0 9 a1 x8_15 _ _ x9_3 true _ ?side1 ?side2 A30.out).mono ?_); (case side1 => repeat (first | exact (Kd.R_reads' HO_9.out).2.2 | (with_reducible refine Kd.C_alloc ?_ _) | (with_reducible refine Kd.C_drewN ?_ _) | (with_reducible refine Kd.C_drew ?_))); (case side2 => exact (Kd.R_reads' HO_9.out).2.1); rintro e w37 ⟨rfl, hb⟩; have n0_ := Aside0.mk (Kd.R_below (by (with_reducible repeat (first | apply Kd.R_alloc | apply Kd.R_drewN | apply Kd.R_drew)); exact HO_9.out) hb); have n1_ := Aside0.mk (Kd.R_below (by (with_reducible repeat (first | apply Kd.R_alloc | apply Kd.R_drewN | apply Kd.R_drew)); exact HO_10.out) hb); have n2_ := Aside0.mk (blk_below (g := gb132) (o := .cells #[.int .i64 1, .int .i64 1, .int .i64 1, .int .i64 1, .int .i64 a0, .int .i64 0, .int .i64 1, .int .i64 9, .int .i64 1, .int .i64 0, .int .i64 9, .int .i64 a1] 50 (0, 0)) (by (with_reducible repeat (first | refine blk_drewN ?_ _ | refine blk_drew ?_ | refine blk_alloc ?_ _)); exact BK132.out) hb); have n3_ := Aside0.mk (below_step (by repeat (first | (with_reducible first | exact HB.out | apply below_alloc | apply pw_below_drewN | apply below_drew1 | refine below_set ?_ GE132.out) | exact HB.out)) hb); clear HO_9; clear HO_10; clear BK132; clear HB; have HO_9 := n0_; have HO_10 := n1_; have BK132 := n2_; have HB := n3_; clear n0_ n1_ n2_ n3_; (try clear hb); (try clear hb2); (try clear hk); (try clear hi); have hcz38_0 : w37.cell? ⟨gb132, 0, none⟩ = some (.int .i64 1) := (blk_cell BK132.out 0).trans rfl; have hcz38_1 : w37.cell? ⟨gb132, 1, none⟩ = some (.int .i64 1) := (blk_cell BK132.out 1).trans rfl; have hcz38_2 : w37.cell? ⟨gb132, 2, none⟩ = some (.int .i64 1) := (blk_cell BK132.out 2).trans rfl; have hcz38_3 : w37.cell? ⟨gb132, 3, none⟩ = some (.int .i64 1) := (blk_cell BK132.out 3).trans rfl; have hcz38_4 : w37.cell? ⟨gb132, 4, none⟩ = some (.int .i64 a0) := (blk_cell BK132.out 4).trans rfl; have hcz38_5 : w37.cell? ⟨gb132, 5, none⟩ = some (.int .i64 0) := (blk_cell BK132.out 5).trans rfl; have hcz38_6 : w37.cell? ⟨gb132, 6, none⟩ = some (.int .i64 1) := (blk_cell BK132.out 6).trans rfl; have hcz38_7 : w37.cell? ⟨gb132, 7, none⟩ = some (.int .i64 9) := (blk_cell BK132.out 7).trans rfl; have hcz38_8 : w37.cell? ⟨gb132, 8, none⟩ = some (.int .i64 1) := (blk_cell BK132.out 8).trans rfl; have hcz38_9 : w37.cell? ⟨gb132, 9, none⟩ = some (.int .i64 0) := (blk_cell BK132.out 9).trans rfl; have hcz38_10 : w37.cell? ⟨gb132, 10, none⟩ = some (.int .i64 9) := (blk_cell BK132.out 10).trans rfl; have hcz38_11 : w37.cell? ⟨gb132, 11, none⟩ = some (.int .i64 a1) := (blk_cell BK132.out 11).trans rfl; have hfz38_0 := blk_frozen BK132.out 0; have hfz38_1 := blk_frozen BK132.out 1; have hfz38_2 := blk_frozen BK132.out 2; have hfz38_3 := blk_frozen BK132.out 3; have hfz38_4 := blk_frozen BK132.out 4; have hfz38_5 := blk_frozen BK132.out 5; have hfz38_6 := blk_frozen BK132.out 6; have hfz38_7 := blk_frozen BK132.out 7; have hfz38_8 := blk_frozen BK132.out 8; have hfz38_9 := blk_frozen BK132.out 9; have hfz38_10 := blk_frozen BK132.out 10; have hfz38_11 := blk_frozen BK132.out 11) | (go_at_call 44; (with_reducible refine (bound_Fair.calls k3 1 1 1 1 a0 0 1 9 1 0 9 a1 (wrap64 (x8_15 - 1)) _ _ x9_3 true _ ?side1 ?side2 A32.out).mono ?_); (case side1 => repeat (first | exact (Kd.R_reads' HO_9.out).2.2 | (with_reducible refine Kd.C_alloc ?_ _) | (with_reducible refine Kd.C_drewN ?_ _) | (with_reducible refine Kd.C_drew ?_))); (case side2 => exact (Kd.R_reads' HO_9.out).2.1); rintro e w39 ⟨rfl, hb⟩; have n0_ := Aside0.mk (Kd.R_below (by (with_reducible repeat (first | apply Kd.R_alloc | apply Kd.R_drewN | apply Kd.R_drew)); exact HO_9.out) hb); have n1_ := Aside0.mk (Kd.R_below (by (with_reducible repeat (first | apply Kd.R_alloc | apply Kd.R_drewN | apply Kd.R_drew)); exact HO_10.out) hb); have n2_ := Aside0.mk (blk_below (g := gb132) (o := .cells #[.int .i64 1, .int .i64 1, .int .i64 1, .int .i64 1, .int .i64 a0, .int .i64 0, .int .i64 1, .int .i64 9, .int .i64 1, .int .i64 0, .int .i64 9, .int .i64 a1] 50 (0, 0)) (by (with_reducible repeat (first | refine blk_drewN ?_ _ | refine blk_drew ?_ | refine blk_alloc ?_ _)); exact BK132.out) hb); have n3_ := Aside0.mk (below_step (by repeat (first | (with_reducible first | exact HB.out | apply below_alloc | apply pw_below_drewN | apply below_drew1 | refine below_set ?_ GE132.out) | exact HB.out)) hb); clear HO_9; clear HO_10; clear BK132; clear HB; have HO_9 := n0_; have HO_10 := n1_; have BK132 := n2_; have HB := n3_; clear n0_ n1_ n2_ n3_; (try clear hb); (try clear hb2); (try clear hk); (try clear hi)))
                          go_ret
                          exact ⟨by first | rfl | (simp [errW_none, errW_some] <;> rfl) | (simp [*, errW_none, errW_some] <;> rfl), by repeat (first | (with_reducible first | exact HB.out | apply below_alloc | apply pw_below_drewN | apply below_drew1 | refine below_set ?_ GE132.out) | exact HB.out)⟩
                        · replace c33 := Bool.eq_false_iff.mpr c33
                          subst c33
                          have H1 : (if (x10_3.length : Int) = 0 then ((bound_Fair.f k3 1 1 1 1 a0 0 1 9 1 0 9 a1 (wrap64 ((x9_3.length : Int) + 1)) x10_3).bind fun t142 => (some t142)) else ((bound_Fair.f k3 1 1 1 1 a0 0 1 9 1 0 9 a1 (x10_3.length : Int) x10_3).bind fun t143 => (if t143 = true then (some false) else ((bound_Fair.f k3 1 1 1 1 a0 0 1 9 1 0 9 a1 (wrap64 ((x9_3.length : Int) + 1)) x10_3).bind fun t144 => (some t144))))) = some r := by rw [if_neg (show ¬ (false = true) by decide)] at H; exact H
                          clear H
                          have H := H1
                          clear H1
                          by_cases c40 : (x10_3.length : Int) = 0
                          · rw [if_pos c40] at H
                            have c40b0 : ((x10_3.length : Int) == 0) = true := beq_iff_eq.mpr c40
                            have c40b1 : ((x10_3.length : Int) != 0) = false := bne_eq_false_iff_eq.mpr c40
                            clear c40
                            replace H := Option.bind_eq_some_iff.mp H
                            obtain ⟨t142, A410, H⟩ := H
                            replace H : (some t142) = some r := H
                            have A41 := Aside0.mk A410
                            clear A410
                            obtain rfl := Option.some.inj H
                            go_wp2_with (first | ((with_reducible refine gate_callee (f := 43) rfl ?_); refine goesL_ (some 70) rfl rfl Try.func43 (by kernel_rfl) rfl #[] rfl (by (try simp only [List.map_toArray, List.map_cons, List.map_nil]); first | done | rfl | (simp only [List.length_drop, List.length_take]; rfl)) ?_; (with_reducible refine (ltklaw21_first.calls k3  true _ A28.out).mono ?_); rintro e w42 ⟨rfl, hb⟩; refine ⟨_, rfl, ?_⟩; have n0_ := Aside0.mk (Kd.R_below (by (with_reducible repeat (first | apply Kd.R_alloc | apply Kd.R_drewN | apply Kd.R_drew)); exact HO_9.out) hb); have n1_ := Aside0.mk (Kd.R_below (by (with_reducible repeat (first | apply Kd.R_alloc | apply Kd.R_drewN | apply Kd.R_drew)); exact HO_10.out) hb); have n2_ := Aside0.mk (blk_below (g := gb132) (o := .cells #[.int .i64 1, .int .i64 1, .int .i64 1, .int .i64 1, .int .i64 a0, .int .i64 0, .int .i64 1, .int .i64 9, .int .i64 1, .int .i64 0, .int .i64 9, .int .i64 a1] 50 (0, 0)) (by (with_reducible repeat (first | refine blk_drewN ?_ _ | refine blk_drew ?_ | refine blk_alloc ?_ _)); exact BK132.out) hb); have n3_ := Aside0.mk (below_step (by repeat (first | (with_reducible first | exact HB.out | apply below_alloc | apply pw_below_drewN | apply below_drew1 | refine below_set ?_ GE132.out) | exact HB.out)) hb); clear HO_9; clear HO_10; clear BK132; clear HB; have HO_9 := n0_; have HO_10 := n1_; have BK132 := n2_; have HB := n3_; clear n0_ n1_ n2_ n3_; (try clear hb); (try clear hb2); (try clear hk); (try clear hi); have hcz43_0 : w42.cell? ⟨gb132, 0, none⟩ = some (.int .i64 1) := (blk_cell BK132.out 0).trans rfl; have hcz43_1 : w42.cell? ⟨gb132, 1, none⟩ = some (.int .i64 1) := (blk_cell BK132.out 1).trans rfl; have hcz43_2 : w42.cell? ⟨gb132, 2, none⟩ = some (.int .i64 1) := (blk_cell BK132.out 2).trans rfl; have hcz43_3 : w42.cell? ⟨gb132, 3, none⟩ = some (.int .i64 1) := (blk_cell BK132.out 3).trans rfl; have hcz43_4 : w42.cell? ⟨gb132, 4, none⟩ = some (.int .i64 a0) := (blk_cell BK132.out 4).trans rfl; have hcz43_5 : w42.cell? ⟨gb132, 5, none⟩ = some (.int .i64 0) := (blk_cell BK132.out 5).trans rfl; have hcz43_6 : w42.cell? ⟨gb132, 6, none⟩ = some (.int .i64 1) := (blk_cell BK132.out 6).trans rfl; have hcz43_7 : w42.cell? ⟨gb132, 7, none⟩ = some (.int .i64 9) := (blk_cell BK132.out 7).trans rfl; have hcz43_8 : w42.cell? ⟨gb132, 8, none⟩ = some (.int .i64 1) := (blk_cell BK132.out 8).trans rfl; have hcz43_9 : w42.cell? ⟨gb132, 9, none⟩ = some (.int .i64 0) := (blk_cell BK132.out 9).trans rfl; have hcz43_10 : w42.cell? ⟨gb132, 10, none⟩ = some (.int .i64 9) := (blk_cell BK132.out 10).trans rfl; have hcz43_11 : w42.cell? ⟨gb132, 11, none⟩ = some (.int .i64 a1) := (blk_cell BK132.out 11).trans rfl; have hfz43_0 := blk_frozen BK132.out 0; have hfz43_1 := blk_frozen BK132.out 1; have hfz43_2 := blk_frozen BK132.out 2; have hfz43_3 := blk_frozen BK132.out 3; have hfz43_4 := blk_frozen BK132.out 4; have hfz43_5 := blk_frozen BK132.out 5; have hfz43_6 := blk_frozen BK132.out 6; have hfz43_7 := blk_frozen BK132.out 7; have hfz43_8 := blk_frozen BK132.out 8; have hfz43_9 := blk_frozen BK132.out 9; have hfz43_10 := blk_frozen BK132.out 10; have hfz43_11 := blk_frozen BK132.out 11; obtain ⟨Ao44, co44, eo44⟩ := Kd.R_slice HO_9.out; subst eo44) | (go_at_call 44; (with_reducible refine (bound_Fair.calls k3 1 1 1 1 a0 0 1 9 1 0 9 a1 x8_15 _ _ x9_3 true _ ?side1 ?side2 A30.out).mono ?_); (case side1 => repeat (first | exact (Kd.R_reads' HO_9.out).2.2 | (with_reducible refine Kd.C_alloc ?_ _) | (with_reducible refine Kd.C_drewN ?_ _) | (with_reducible refine Kd.C_drew ?_))); (case side2 => exact (Kd.R_reads' HO_9.out).2.1); rintro e w45 ⟨rfl, hb⟩; have n0_ := Aside0.mk (Kd.R_below (by (with_reducible repeat (first | apply Kd.R_alloc | apply Kd.R_drewN | apply Kd.R_drew)); exact HO_9.out) hb); have n1_ := Aside0.mk (Kd.R_below (by (with_reducible repeat (first | apply Kd.R_alloc | apply Kd.R_drewN | apply Kd.R_drew)); exact HO_10.out) hb); have n2_ := Aside0.mk (blk_below (g := gb132) (o := .cells #[.int .i64 1, .int .i64 1, .int .i64 1, .int .i64 1, .int .i64 a0, .int .i64 0, .int .i64 1, .int .i64 9, .int .i64 1, .int .i64 0, .int .i64 9, .int .i64 a1] 50 (0, 0)) (by (with_reducible repeat (first | refine blk_drewN ?_ _ | refine blk_drew ?_ | refine blk_alloc ?_ _)); exact BK132.out) hb); have n3_ := Aside0.mk (below_step (by repeat (first | (with_reducible first | exact HB.out | apply below_alloc | apply pw_below_drewN | apply below_drew1 | refine below_set ?_ GE132.out) | exact HB.out)) hb); clear HO_9; clear HO_10; clear BK132; clear HB; have HO_9 := n0_; have HO_10 := n1_; have BK132 := n2_; have HB := n3_; clear n0_ n1_ n2_ n3_; (try clear hb); (try clear hb2); (try clear hk); (try clear hi); have hcz46_0 : w45.cell? ⟨gb132, 0, none⟩ = some (.int .i64 1) := (blk_cell BK132.out 0).trans rfl; have hcz46_1 : w45.cell? ⟨gb132, 1, none⟩ = some (.int .i64 1) := (blk_cell BK132.out 1).trans rfl; have hcz46_2 : w45.cell? ⟨gb132, 2, none⟩ = some (.int .i64 1) := (blk_cell BK132.out 2).trans rfl; have hcz46_3 : w45.cell? ⟨gb132, 3, none⟩ = some (.int .i64 1) := (blk_cell BK132.out 3).trans rfl; have hcz46_4 : w45.cell? ⟨gb132, 4, none⟩ = some (.int .i64 a0) := (blk_cell BK132.out 4).trans rfl; have hcz46_5 : w45.cell? ⟨gb132, 5, none⟩ = some (.int .i64 0) := (blk_cell BK132.out 5).trans rfl; have hcz46_6 : w45.cell? ⟨gb132, 6, none⟩ = some (.int .i64 1) := (blk_cell BK132.out 6).trans rfl; have hcz46_7 : w45.cell? ⟨gb132, 7, none⟩ = some (.int .i64 9) := (blk_cell BK132.out 7).trans rfl; have hcz46_8 : w45.cell? ⟨gb132, 8, none⟩ = some (.int .i64 1) := (blk_cell BK132.out 8).trans rfl; have hcz46_9 : w45.cell? ⟨gb132, 9, none⟩ = some (.int .i64 0) := (blk_cell BK132.out 9).trans rfl; have hcz46_10 : w45.cell? ⟨gb132, 10, none⟩ = some (.int .i64 9) := (blk_cell BK132.out 10).trans rfl; have hcz46_11 : w45.cell? ⟨gb132, 11, none⟩ = some (.int .i64 a1) := (blk_cell BK132.out 11).trans rfl; have hfz46_0 := blk_frozen BK132.out 0; have hfz46_1 := blk_frozen BK132.out 1; have hfz46_2 := blk_frozen BK132.out 2; have hfz46_3 := blk_frozen BK132.out 3; have hfz46_4 := blk_frozen BK132.out 4; have hfz46_5 := blk_frozen BK132.out 5; have hfz46_6 := blk_frozen BK132.out 6; have hfz46_7 := blk_frozen BK132.out 7; have hfz46_8 := blk_frozen BK132.out 8; have hfz46_9 := blk_frozen BK132.out 9; have hfz46_10 := blk_frozen BK132.out 10; have hfz46_11 := blk_frozen BK132.out 11) | (go_at_call 44; (with_reducible refine (bound_Fair.calls k3 1 1 1 1 a0 0 1 9 1 0 9 a1 (wrap64 (x8_15 - 1)) _ _ x9_3 false _ ?side1 ?side2 A32.out).mono ?_); (case side1 => repeat (first | exact (Kd.R_reads' HO_9.out).2.2 | (with_reducible refine Kd.C_alloc ?_ _) | (with_reducible refine Kd.C_drewN ?_ _) | (with_reducible refine Kd.C_drew ?_))); (case side2 => exact (Kd.R_reads' HO_9.out).2.1); rintro e w47 ⟨rfl, hb⟩; have n0_ := Aside0.mk (Kd.R_below (by (with_reducible repeat (first | apply Kd.R_alloc | apply Kd.R_drewN | apply Kd.R_drew)); exact HO_9.out) hb); have n1_ := Aside0.mk (Kd.R_below (by (with_reducible repeat (first | apply Kd.R_alloc | apply Kd.R_drewN | apply Kd.R_drew)); exact HO_10.out) hb); have n2_ := Aside0.mk (blk_below (g := gb132) (o := .cells #[.int .i64 1, .int .i64 1, .int .i64 1, .int .i64 1, .int .i64 a0, .int .i64 0, .int .i64 1, .int .i64 9, .int .i64 1, .int .i64 0, .int .i64 9, .int .i64 a1] 50 (0, 0)) (by (with_reducible repeat (first | refine blk_drewN ?_ _ | refine blk_drew ?_ | refine blk_alloc ?_ _)); exact BK132.out) hb); have n3_ := Aside0.mk (below_step (by repeat (first | (with_reducible first | exact HB.out | apply below_alloc | apply pw_below_drewN | apply below_drew1 | refine below_set ?_ GE132.out) | exact HB.out)) hb); clear HO_9; clear HO_10; clear BK132; clear HB; have HO_9 := n0_; have HO_10 := n1_; have BK132 := n2_; have HB := n3_; clear n0_ n1_ n2_ n3_; (try clear hb); (try clear hb2); (try clear hk); (try clear hi); obtain ⟨Ao48, co48, eo48⟩ := Kd.R_slice HO_10.out; subst eo48; have hcz49_0 : w47.cell? ⟨gb132, 0, none⟩ = some (.int .i64 1) := (blk_cell BK132.out 0).trans rfl; have hcz49_1 : w47.cell? ⟨gb132, 1, none⟩ = some (.int .i64 1) := (blk_cell BK132.out 1).trans rfl; have hcz49_2 : w47.cell? ⟨gb132, 2, none⟩ = some (.int .i64 1) := (blk_cell BK132.out 2).trans rfl; have hcz49_3 : w47.cell? ⟨gb132, 3, none⟩ = some (.int .i64 1) := (blk_cell BK132.out 3).trans rfl; have hcz49_4 : w47.cell? ⟨gb132, 4, none⟩ = some (.int .i64 a0) := (blk_cell BK132.out 4).trans rfl; have hcz49_5 : w47.cell? ⟨gb132, 5, none⟩ = some (.int .i64 0) := (blk_cell BK132.out 5).trans rfl; have hcz49_6 : w47.cell? ⟨gb132, 6, none⟩ = some (.int .i64 1) := (blk_cell BK132.out 6).trans rfl; have hcz49_7 : w47.cell? ⟨gb132, 7, none⟩ = some (.int .i64 9) := (blk_cell BK132.out 7).trans rfl; have hcz49_8 : w47.cell? ⟨gb132, 8, none⟩ = some (.int .i64 1) := (blk_cell BK132.out 8).trans rfl; have hcz49_9 : w47.cell? ⟨gb132, 9, none⟩ = some (.int .i64 0) := (blk_cell BK132.out 9).trans rfl; have hcz49_10 : w47.cell? ⟨gb132, 10, none⟩ = some (.int .i64 9) := (blk_cell BK132.out 10).trans rfl; have hcz49_11 : w47.cell? ⟨gb132, 11, none⟩ = some (.int .i64 a1) := (blk_cell BK132.out 11).trans rfl; have hfz49_0 := blk_frozen BK132.out 0; have hfz49_1 := blk_frozen BK132.out 1; have hfz49_2 := blk_frozen BK132.out 2; have hfz49_3 := blk_frozen BK132.out 3; have hfz49_4 := blk_frozen BK132.out 4; have hfz49_5 := blk_frozen BK132.out 5; have hfz49_6 := blk_frozen BK132.out 6; have hfz49_7 := blk_frozen BK132.out 7; have hfz49_8 := blk_frozen BK132.out 8; have hfz49_9 := blk_frozen BK132.out 9; have hfz49_10 := blk_frozen BK132.out 10; have hfz49_11 := blk_frozen BK132.out 11) | (go_at_call 44; (with_reducible refine (bound_Fair.calls k3 1 1 1 1 a0 0 1 9 1 0 9 a1 (wrap64 ((x9_3.length : Int) + 1)) _ _ x10_3 t142 _ ?side1 ?side2 A41.out).mono ?_); (case side1 => repeat (first | exact (Kd.R_reads' HO_10.out).2.2 | (with_reducible refine Kd.C_alloc ?_ _) | (with_reducible refine Kd.C_drewN ?_ _) | (with_reducible refine Kd.C_drew ?_))); (case side2 => exact (Kd.R_reads' HO_10.out).2.1); rintro e w50 ⟨rfl, hb⟩; have n0_ := Aside0.mk (Kd.R_below (by (with_reducible repeat (first | apply Kd.R_alloc | apply Kd.R_drewN | apply Kd.R_drew)); exact HO_9.out) hb); have n1_ := Aside0.mk (Kd.R_below (by (with_reducible repeat (first | apply Kd.R_alloc | apply Kd.R_drewN | apply Kd.R_drew)); exact HO_10.out) hb); have n2_ := Aside0.mk (blk_below (g := gb132) (o := .cells #[.int .i64 1, .int .i64 1, .int .i64 1, .int .i64 1, .int .i64 a0, .int .i64 0, .int .i64 1, .int .i64 9, .int .i64 1, .int .i64 0, .int .i64 9, .int .i64 a1] 50 (0, 0)) (by (with_reducible repeat (first | refine blk_drewN ?_ _ | refine blk_drew ?_ | refine blk_alloc ?_ _)); exact BK132.out) hb); have n3_ := Aside0.mk (below_step (by repeat (first | (with_reducible first | exact HB.out | apply below_alloc | apply pw_below_drewN | apply below_drew1 | refine below_set ?_ GE132.out) | exact HB.out)) hb); clear HO_9; clear HO_10; clear BK132; clear HB; have HO_9 := n0_; have HO_10 := n1_; have BK132 := n2_; have HB := n3_; clear n0_ n1_ n2_ n3_; (try clear hb); (try clear hb2); (try clear hk); (try clear hi)))
                            go_ret
                            exact ⟨by first | rfl | (simp [errW_none, errW_some] <;> rfl) | (simp [*, errW_none, errW_some] <;> rfl), by repeat (first | (with_reducible first | exact HB.out | apply below_alloc | apply pw_below_drewN | apply below_drew1 | refine below_set ?_ GE132.out) | exact HB.out)⟩
                          · rw [if_neg c40] at H
                            have c40b0 : ((x10_3.length : Int) == 0) = false := beq_eq_false_iff_ne.mpr c40
                            have c40b1 : ((x10_3.length : Int) != 0) = true := bne_iff_ne.mpr c40
                            have c40b2 : ¬ (x10_3 = []) := fun h_ => c40 (by rw [h_]; rfl)
                            replace H := Option.bind_eq_some_iff.mp H
                            obtain ⟨t143, A510, H⟩ := H
                            replace H : (if t143 = true then (some false) else ((bound_Fair.f k3 1 1 1 1 a0 0 1 9 1 0 9 a1 (wrap64 ((x9_3.length : Int) + 1)) x10_3).bind fun t144 => (some t144))) = some r := H
                            have A51 := Aside0.mk A510
                            clear A510
                            by_cases c52 : t143 = true
                            · subst c52
                              have H1 : (some false) = some r := by rw [if_pos rfl] at H; exact H
                              clear H
                              have H := H1
                              clear H1
                              obtain rfl := Option.some.inj H
                              go_wp2_with (first | ((with_reducible refine gate_callee (f := 43) rfl ?_); refine goesL_ (some 70) rfl rfl Try.func43 (by kernel_rfl) rfl #[] rfl (by (try simp only [List.map_toArray, List.map_cons, List.map_nil]); first | done | rfl | (simp only [List.length_drop, List.length_take]; rfl)) ?_; (with_reducible refine (ltklaw21_first.calls k3  true _ A28.out).mono ?_); rintro e w53 ⟨rfl, hb⟩; refine ⟨_, rfl, ?_⟩; have n0_ := Aside0.mk (Kd.R_below (by (with_reducible repeat (first | apply Kd.R_alloc | apply Kd.R_drewN | apply Kd.R_drew)); exact HO_9.out) hb); have n1_ := Aside0.mk (Kd.R_below (by (with_reducible repeat (first | apply Kd.R_alloc | apply Kd.R_drewN | apply Kd.R_drew)); exact HO_10.out) hb); have n2_ := Aside0.mk (blk_below (g := gb132) (o := .cells #[.int .i64 1, .int .i64 1, .int .i64 1, .int .i64 1, .int .i64 a0, .int .i64 0, .int .i64 1, .int .i64 9, .int .i64 1, .int .i64 0, .int .i64 9, .int .i64 a1] 50 (0, 0)) (by (with_reducible repeat (first | refine blk_drewN ?_ _ | refine blk_drew ?_ | refine blk_alloc ?_ _)); exact BK132.out) hb); have n3_ := Aside0.mk (below_step (by repeat (first | (with_reducible first | exact HB.out | apply below_alloc | apply pw_below_drewN | apply below_drew1 | refine below_set ?_ GE132.out) | exact HB.out)) hb); clear HO_9; clear HO_10; clear BK132; clear HB; have HO_9 := n0_; have HO_10 := n1_; have BK132 := n2_; have HB := n3_; clear n0_ n1_ n2_ n3_; (try clear hb); (try clear hb2); (try clear hk); (try clear hi); have hcz54_0 : w53.cell? ⟨gb132, 0, none⟩ = some (.int .i64 1) := (blk_cell BK132.out 0).trans rfl; have hcz54_1 : w53.cell? ⟨gb132, 1, none⟩ = some (.int .i64 1) := (blk_cell BK132.out 1).trans rfl; have hcz54_2 : w53.cell? ⟨gb132, 2, none⟩ = some (.int .i64 1) := (blk_cell BK132.out 2).trans rfl; have hcz54_3 : w53.cell? ⟨gb132, 3, none⟩ = some (.int .i64 1) := (blk_cell BK132.out 3).trans rfl; have hcz54_4 : w53.cell? ⟨gb132, 4, none⟩ = some (.int .i64 a0) := (blk_cell BK132.out 4).trans rfl; have hcz54_5 : w53.cell? ⟨gb132, 5, none⟩ = some (.int .i64 0) := (blk_cell BK132.out 5).trans rfl; have hcz54_6 : w53.cell? ⟨gb132, 6, none⟩ = some (.int .i64 1) := (blk_cell BK132.out 6).trans rfl; have hcz54_7 : w53.cell? ⟨gb132, 7, none⟩ = some (.int .i64 9) := (blk_cell BK132.out 7).trans rfl; have hcz54_8 : w53.cell? ⟨gb132, 8, none⟩ = some (.int .i64 1) := (blk_cell BK132.out 8).trans rfl; have hcz54_9 : w53.cell? ⟨gb132, 9, none⟩ = some (.int .i64 0) := (blk_cell BK132.out 9).trans rfl; have hcz54_10 : w53.cell? ⟨gb132, 10, none⟩ = some (.int .i64 9) := (blk_cell BK132.out 10).trans rfl; have hcz54_11 : w53.cell? ⟨gb132, 11, none⟩ = some (.int .i64 a1) := (blk_cell BK132.out 11).trans rfl; have hfz54_0 := blk_frozen BK132.out 0; have hfz54_1 := blk_frozen BK132.out 1; have hfz54_2 := blk_frozen BK132.out 2; have hfz54_3 := blk_frozen BK132.out 3; have hfz54_4 := blk_frozen BK132.out 4; have hfz54_5 := blk_frozen BK132.out 5; have hfz54_6 := blk_frozen BK132.out 6; have hfz54_7 := blk_frozen BK132.out 7; have hfz54_8 := blk_frozen BK132.out 8; have hfz54_9 := blk_frozen BK132.out 9; have hfz54_10 := blk_frozen BK132.out 10; have hfz54_11 := blk_frozen BK132.out 11; obtain ⟨Ao55, co55, eo55⟩ := Kd.R_slice HO_9.out; subst eo55) | (go_at_call 44; (with_reducible refine (bound_Fair.calls k3 1 1 1 1 a0 0 1 9 1 0 9 a1 x8_15 _ _ x9_3 true _ ?side1 ?side2 A30.out).mono ?_); (case side1 => repeat (first | exact (Kd.R_reads' HO_9.out).2.2 | (with_reducible refine Kd.C_alloc ?_ _) | (with_reducible refine Kd.C_drewN ?_ _) | (with_reducible refine Kd.C_drew ?_))); (case side2 => exact (Kd.R_reads' HO_9.out).2.1); rintro e w56 ⟨rfl, hb⟩; have n0_ := Aside0.mk (Kd.R_below (by (with_reducible repeat (first | apply Kd.R_alloc | apply Kd.R_drewN | apply Kd.R_drew)); exact HO_9.out) hb); have n1_ := Aside0.mk (Kd.R_below (by (with_reducible repeat (first | apply Kd.R_alloc | apply Kd.R_drewN | apply Kd.R_drew)); exact HO_10.out) hb); have n2_ := Aside0.mk (blk_below (g := gb132) (o := .cells #[.int .i64 1, .int .i64 1, .int .i64 1, .int .i64 1, .int .i64 a0, .int .i64 0, .int .i64 1, .int .i64 9, .int .i64 1, .int .i64 0, .int .i64 9, .int .i64 a1] 50 (0, 0)) (by (with_reducible repeat (first | refine blk_drewN ?_ _ | refine blk_drew ?_ | refine blk_alloc ?_ _)); exact BK132.out) hb); have n3_ := Aside0.mk (below_step (by repeat (first | (with_reducible first | exact HB.out | apply below_alloc | apply pw_below_drewN | apply below_drew1 | refine below_set ?_ GE132.out) | exact HB.out)) hb); clear HO_9; clear HO_10; clear BK132; clear HB; have HO_9 := n0_; have HO_10 := n1_; have BK132 := n2_; have HB := n3_; clear n0_ n1_ n2_ n3_; (try clear hb); (try clear hb2); (try clear hk); (try clear hi); have hcz57_0 : w56.cell? ⟨gb132, 0, none⟩ = some (.int .i64 1) := (blk_cell BK132.out 0).trans rfl; have hcz57_1 : w56.cell? ⟨gb132, 1, none⟩ = some (.int .i64 1) := (blk_cell BK132.out 1).trans rfl; have hcz57_2 : w56.cell? ⟨gb132, 2, none⟩ = some (.int .i64 1) := (blk_cell BK132.out 2).trans rfl; have hcz57_3 : w56.cell? ⟨gb132, 3, none⟩ = some (.int .i64 1) := (blk_cell BK132.out 3).trans rfl; have hcz57_4 : w56.cell? ⟨gb132, 4, none⟩ = some (.int .i64 a0) := (blk_cell BK132.out 4).trans rfl; have hcz57_5 : w56.cell? ⟨gb132, 5, none⟩ = some (.int .i64 0) := (blk_cell BK132.out 5).trans rfl; have hcz57_6 : w56.cell? ⟨gb132, 6, none⟩ = some (.int .i64 1) := (blk_cell BK132.out 6).trans rfl; have hcz57_7 : w56.cell? ⟨gb132, 7, none⟩ = some (.int .i64 9) := (blk_cell BK132.out 7).trans rfl; have hcz57_8 : w56.cell? ⟨gb132, 8, none⟩ = some (.int .i64 1) := (blk_cell BK132.out 8).trans rfl; have hcz57_9 : w56.cell? ⟨gb132, 9, none⟩ = some (.int .i64 0) := (blk_cell BK132.out 9).trans rfl; have hcz57_10 : w56.cell? ⟨gb132, 10, none⟩ = some (.int .i64 9) := (blk_cell BK132.out 10).trans rfl; have hcz57_11 : w56.cell? ⟨gb132, 11, none⟩ = some (.int .i64 a1) := (blk_cell BK132.out 11).trans rfl; have hfz57_0 := blk_frozen BK132.out 0; have hfz57_1 := blk_frozen BK132.out 1; have hfz57_2 := blk_frozen BK132.out 2; have hfz57_3 := blk_frozen BK132.out 3; have hfz57_4 := blk_frozen BK132.out 4; have hfz57_5 := blk_frozen BK132.out 5; have hfz57_6 := blk_frozen BK132.out 6; have hfz57_7 := blk_frozen BK132.out 7; have hfz57_8 := blk_frozen BK132.out 8; have hfz57_9 := blk_frozen BK132.out 9; have hfz57_10 := blk_frozen BK132.out 10; have hfz57_11 := blk_frozen BK132.out 11) | (go_at_call 44; (with_reducible refine (bound_Fair.calls k3 1 1 1 1 a0 0 1 9 1 0 9 a1 (wrap64 (x8_15 - 1)) _ _ x9_3 false _ ?side1 ?side2 A32.out).mono ?_); (case side1 => repeat (first | exact (Kd.R_reads' HO_9.out).2.2 | (with_reducible refine Kd.C_alloc ?_ _) | (with_reducible refine Kd.C_drewN ?_ _) | (with_reducible refine Kd.C_drew ?_))); (case side2 => exact (Kd.R_reads' HO_9.out).2.1); rintro e w58 ⟨rfl, hb⟩; have n0_ := Aside0.mk (Kd.R_below (by (with_reducible repeat (first | apply Kd.R_alloc | apply Kd.R_drewN | apply Kd.R_drew)); exact HO_9.out) hb); have n1_ := Aside0.mk (Kd.R_below (by (with_reducible repeat (first | apply Kd.R_alloc | apply Kd.R_drewN | apply Kd.R_drew)); exact HO_10.out) hb); have n2_ := Aside0.mk (blk_below (g := gb132) (o := .cells #[.int .i64 1, .int .i64 1, .int .i64 1, .int .i64 1, .int .i64 a0, .int .i64 0, .int .i64 1, .int .i64 9, .int .i64 1, .int .i64 0, .int .i64 9, .int .i64 a1] 50 (0, 0)) (by (with_reducible repeat (first | refine blk_drewN ?_ _ | refine blk_drew ?_ | refine blk_alloc ?_ _)); exact BK132.out) hb); have n3_ := Aside0.mk (below_step (by repeat (first | (with_reducible first | exact HB.out | apply below_alloc | apply pw_below_drewN | apply below_drew1 | refine below_set ?_ GE132.out) | exact HB.out)) hb); clear HO_9; clear HO_10; clear BK132; clear HB; have HO_9 := n0_; have HO_10 := n1_; have BK132 := n2_; have HB := n3_; clear n0_ n1_ n2_ n3_; (try clear hb); (try clear hb2); (try clear hk); (try clear hi); obtain ⟨Ao59, co59, eo59⟩ := Kd.R_slice HO_10.out; subst eo59; have hcz60_0 : w58.cell? ⟨gb132, 0, none⟩ = some (.int .i64 1) := (blk_cell BK132.out 0).trans rfl; have hcz60_1 : w58.cell? ⟨gb132, 1, none⟩ = some (.int .i64 1) := (blk_cell BK132.out 1).trans rfl; have hcz60_2 : w58.cell? ⟨gb132, 2, none⟩ = some (.int .i64 1) := (blk_cell BK132.out 2).trans rfl; have hcz60_3 : w58.cell? ⟨gb132, 3, none⟩ = some (.int .i64 1) := (blk_cell BK132.out 3).trans rfl; have hcz60_4 : w58.cell? ⟨gb132, 4, none⟩ = some (.int .i64 a0) := (blk_cell BK132.out 4).trans rfl; have hcz60_5 : w58.cell? ⟨gb132, 5, none⟩ = some (.int .i64 0) := (blk_cell BK132.out 5).trans rfl; have hcz60_6 : w58.cell? ⟨gb132, 6, none⟩ = some (.int .i64 1) := (blk_cell BK132.out 6).trans rfl; have hcz60_7 : w58.cell? ⟨gb132, 7, none⟩ = some (.int .i64 9) := (blk_cell BK132.out 7).trans rfl; have hcz60_8 : w58.cell? ⟨gb132, 8, none⟩ = some (.int .i64 1) := (blk_cell BK132.out 8).trans rfl; have hcz60_9 : w58.cell? ⟨gb132, 9, none⟩ = some (.int .i64 0) := (blk_cell BK132.out 9).trans rfl; have hcz60_10 : w58.cell? ⟨gb132, 10, none⟩ = some (.int .i64 9) := (blk_cell BK132.out 10).trans rfl; have hcz60_11 : w58.cell? ⟨gb132, 11, none⟩ = some (.int .i64 a1) := (blk_cell BK132.out 11).trans rfl; have hfz60_0 := blk_frozen BK132.out 0; have hfz60_1 := blk_frozen BK132.out 1; have hfz60_2 := blk_frozen BK132.out 2; have hfz60_3 := blk_frozen BK132.out 3; have hfz60_4 := blk_frozen BK132.out 4; have hfz60_5 := blk_frozen BK132.out 5; have hfz60_6 := blk_frozen BK132.out 6; have hfz60_7 := blk_frozen BK132.out 7; have hfz60_8 := blk_frozen BK132.out 8; have hfz60_9 := blk_frozen BK132.out 9; have hfz60_10 := blk_frozen BK132.out 10; have hfz60_11 := blk_frozen BK132.out 11) | (go_at_call 44; (with_reducible refine (bound_Fair.calls k3 1 1 1 1 a0 0 1 9 1 0 9 a1 (x10_3.length : Int) _ _ x10_3 true _ ?side1 ?side2 A51.out).mono ?_); (case side1 => repeat (first | exact (Kd.R_reads' HO_10.out).2.2 | (with_reducible refine Kd.C_alloc ?_ _) | (with_reducible refine Kd.C_drewN ?_ _) | (with_reducible refine Kd.C_drew ?_))); (case side2 => exact (Kd.R_reads' HO_10.out).2.1); rintro e w61 ⟨rfl, hb⟩; have n0_ := Aside0.mk (Kd.R_below (by (with_reducible repeat (first | apply Kd.R_alloc | apply Kd.R_drewN | apply Kd.R_drew)); exact HO_9.out) hb); have n1_ := Aside0.mk (Kd.R_below (by (with_reducible repeat (first | apply Kd.R_alloc | apply Kd.R_drewN | apply Kd.R_drew)); exact HO_10.out) hb); have n2_ := Aside0.mk (blk_below (g := gb132) (o := .cells #[.int .i64 1, .int .i64 1, .int .i64 1, .int .i64 1, .int .i64 a0, .int .i64 0, .int .i64 1, .int .i64 9, .int .i64 1, .int .i64 0, .int .i64 9, .int .i64 a1] 50 (0, 0)) (by (with_reducible repeat (first | refine blk_drewN ?_ _ | refine blk_drew ?_ | refine blk_alloc ?_ _)); exact BK132.out) hb); have n3_ := Aside0.mk (below_step (by repeat (first | (with_reducible first | exact HB.out | apply below_alloc | apply pw_below_drewN | apply below_drew1 | refine below_set ?_ GE132.out) | exact HB.out)) hb); clear HO_9; clear HO_10; clear BK132; clear HB; have HO_9 := n0_; have HO_10 := n1_; have BK132 := n2_; have HB := n3_; clear n0_ n1_ n2_ n3_; (try clear hb); (try clear hb2); (try clear hk); (try clear hi)))
                              go_ret
                              exact ⟨by first | rfl | (simp [errW_none, errW_some] <;> rfl) | (simp [*, errW_none, errW_some] <;> rfl), by repeat (first | (with_reducible first | exact HB.out | apply below_alloc | apply pw_below_drewN | apply below_drew1 | refine below_set ?_ GE132.out) | exact HB.out)⟩
                            · replace c52 := Bool.eq_false_iff.mpr c52
                              subst c52
                              have H1 : ((bound_Fair.f k3 1 1 1 1 a0 0 1 9 1 0 9 a1 (wrap64 ((x9_3.length : Int) + 1)) x10_3).bind fun t144 => (some t144)) = some r := by rw [if_neg (show ¬ (false = true) by decide)] at H; exact H
                              clear H
                              have H := H1
                              clear H1
                              replace H := Option.bind_eq_some_iff.mp H
                              obtain ⟨t144, A620, H⟩ := H
                              replace H : (some t144) = some r := H
                              have A62 := Aside0.mk A620
                              clear A620
                              obtain rfl := Option.some.inj H
                              go_wp2_with (first | ((with_reducible refine gate_callee (f := 43) rfl ?_); refine goesL_ (some 70) rfl rfl Try.func43 (by kernel_rfl) rfl #[] rfl (by (try simp only [List.map_toArray, List.map_cons, List.map_nil]); first | done | rfl | (simp only [List.length_drop, List.length_take]; rfl)) ?_; (with_reducible refine (ltklaw21_first.calls k3  true _ A28.out).mono ?_); rintro e w63 ⟨rfl, hb⟩; refine ⟨_, rfl, ?_⟩; have n0_ := Aside0.mk (Kd.R_below (by (with_reducible repeat (first | apply Kd.R_alloc | apply Kd.R_drewN | apply Kd.R_drew)); exact HO_9.out) hb); have n1_ := Aside0.mk (Kd.R_below (by (with_reducible repeat (first | apply Kd.R_alloc | apply Kd.R_drewN | apply Kd.R_drew)); exact HO_10.out) hb); have n2_ := Aside0.mk (blk_below (g := gb132) (o := .cells #[.int .i64 1, .int .i64 1, .int .i64 1, .int .i64 1, .int .i64 a0, .int .i64 0, .int .i64 1, .int .i64 9, .int .i64 1, .int .i64 0, .int .i64 9, .int .i64 a1] 50 (0, 0)) (by (with_reducible repeat (first | refine blk_drewN ?_ _ | refine blk_drew ?_ | refine blk_alloc ?_ _)); exact BK132.out) hb); have n3_ := Aside0.mk (below_step (by repeat (first | (with_reducible first | exact HB.out | apply below_alloc | apply pw_below_drewN | apply below_drew1 | refine below_set ?_ GE132.out) | exact HB.out)) hb); clear HO_9; clear HO_10; clear BK132; clear HB; have HO_9 := n0_; have HO_10 := n1_; have BK132 := n2_; have HB := n3_; clear n0_ n1_ n2_ n3_; (try clear hb); (try clear hb2); (try clear hk); (try clear hi); have hcz64_0 : w63.cell? ⟨gb132, 0, none⟩ = some (.int .i64 1) := (blk_cell BK132.out 0).trans rfl; have hcz64_1 : w63.cell? ⟨gb132, 1, none⟩ = some (.int .i64 1) := (blk_cell BK132.out 1).trans rfl; have hcz64_2 : w63.cell? ⟨gb132, 2, none⟩ = some (.int .i64 1) := (blk_cell BK132.out 2).trans rfl; have hcz64_3 : w63.cell? ⟨gb132, 3, none⟩ = some (.int .i64 1) := (blk_cell BK132.out 3).trans rfl; have hcz64_4 : w63.cell? ⟨gb132, 4, none⟩ = some (.int .i64 a0) := (blk_cell BK132.out 4).trans rfl; have hcz64_5 : w63.cell? ⟨gb132, 5, none⟩ = some (.int .i64 0) := (blk_cell BK132.out 5).trans rfl; have hcz64_6 : w63.cell? ⟨gb132, 6, none⟩ = some (.int .i64 1) := (blk_cell BK132.out 6).trans rfl; have hcz64_7 : w63.cell? ⟨gb132, 7, none⟩ = some (.int .i64 9) := (blk_cell BK132.out 7).trans rfl; have hcz64_8 : w63.cell? ⟨gb132, 8, none⟩ = some (.int .i64 1) := (blk_cell BK132.out 8).trans rfl; have hcz64_9 : w63.cell? ⟨gb132, 9, none⟩ = some (.int .i64 0) := (blk_cell BK132.out 9).trans rfl; have hcz64_10 : w63.cell? ⟨gb132, 10, none⟩ = some (.int .i64 9) := (blk_cell BK132.out 10).trans rfl; have hcz64_11 : w63.cell? ⟨gb132, 11, none⟩ = some (.int .i64 a1) := (blk_cell BK132.out 11).trans rfl; have hfz64_0 := blk_frozen BK132.out 0; have hfz64_1 := blk_frozen BK132.out 1; have hfz64_2 := blk_frozen BK132.out 2; have hfz64_3 := blk_frozen BK132.out 3; have hfz64_4 := blk_frozen BK132.out 4; have hfz64_5 := blk_frozen BK132.out 5; have hfz64_6 := blk_frozen BK132.out 6; have hfz64_7 := blk_frozen BK132.out 7; have hfz64_8 := blk_frozen BK132.out 8; have hfz64_9 := blk_frozen BK132.out 9; have hfz64_10 := blk_frozen BK132.out 10; have hfz64_11 := blk_frozen BK132.out 11; obtain ⟨Ao65, co65, eo65⟩ := Kd.R_slice HO_9.out; subst eo65) | (go_at_call 44; (with_reducible refine (bound_Fair.calls k3 1 1 1 1 a0 0 1 9 1 0 9 a1 x8_15 _ _ x9_3 true _ ?side1 ?side2 A30.out).mono ?_); (case side1 => repeat (first | exact (Kd.R_reads' HO_9.out).2.2 | (with_reducible refine Kd.C_alloc ?_ _) | (with_reducible refine Kd.C_drewN ?_ _) | (with_reducible refine Kd.C_drew ?_))); (case side2 => exact (Kd.R_reads' HO_9.out).2.1); rintro e w66 ⟨rfl, hb⟩; have n0_ := Aside0.mk (Kd.R_below (by (with_reducible repeat (first | apply Kd.R_alloc | apply Kd.R_drewN | apply Kd.R_drew)); exact HO_9.out) hb); have n1_ := Aside0.mk (Kd.R_below (by (with_reducible repeat (first | apply Kd.R_alloc | apply Kd.R_drewN | apply Kd.R_drew)); exact HO_10.out) hb); have n2_ := Aside0.mk (blk_below (g := gb132) (o := .cells #[.int .i64 1, .int .i64 1, .int .i64 1, .int .i64 1, .int .i64 a0, .int .i64 0, .int .i64 1, .int .i64 9, .int .i64 1, .int .i64 0, .int .i64 9, .int .i64 a1] 50 (0, 0)) (by (with_reducible repeat (first | refine blk_drewN ?_ _ | refine blk_drew ?_ | refine blk_alloc ?_ _)); exact BK132.out) hb); have n3_ := Aside0.mk (below_step (by repeat (first | (with_reducible first | exact HB.out | apply below_alloc | apply pw_below_drewN | apply below_drew1 | refine below_set ?_ GE132.out) | exact HB.out)) hb); clear HO_9; clear HO_10; clear BK132; clear HB; have HO_9 := n0_; have HO_10 := n1_; have BK132 := n2_; have HB := n3_; clear n0_ n1_ n2_ n3_; (try clear hb); (try clear hb2); (try clear hk); (try clear hi); have hcz67_0 : w66.cell? ⟨gb132, 0, none⟩ = some (.int .i64 1) := (blk_cell BK132.out 0).trans rfl; have hcz67_1 : w66.cell? ⟨gb132, 1, none⟩ = some (.int .i64 1) := (blk_cell BK132.out 1).trans rfl; have hcz67_2 : w66.cell? ⟨gb132, 2, none⟩ = some (.int .i64 1) := (blk_cell BK132.out 2).trans rfl; have hcz67_3 : w66.cell? ⟨gb132, 3, none⟩ = some (.int .i64 1) := (blk_cell BK132.out 3).trans rfl; have hcz67_4 : w66.cell? ⟨gb132, 4, none⟩ = some (.int .i64 a0) := (blk_cell BK132.out 4).trans rfl; have hcz67_5 : w66.cell? ⟨gb132, 5, none⟩ = some (.int .i64 0) := (blk_cell BK132.out 5).trans rfl; have hcz67_6 : w66.cell? ⟨gb132, 6, none⟩ = some (.int .i64 1) := (blk_cell BK132.out 6).trans rfl; have hcz67_7 : w66.cell? ⟨gb132, 7, none⟩ = some (.int .i64 9) := (blk_cell BK132.out 7).trans rfl; have hcz67_8 : w66.cell? ⟨gb132, 8, none⟩ = some (.int .i64 1) := (blk_cell BK132.out 8).trans rfl; have hcz67_9 : w66.cell? ⟨gb132, 9, none⟩ = some (.int .i64 0) := (blk_cell BK132.out 9).trans rfl; have hcz67_10 : w66.cell? ⟨gb132, 10, none⟩ = some (.int .i64 9) := (blk_cell BK132.out 10).trans rfl; have hcz67_11 : w66.cell? ⟨gb132, 11, none⟩ = some (.int .i64 a1) := (blk_cell BK132.out 11).trans rfl; have hfz67_0 := blk_frozen BK132.out 0; have hfz67_1 := blk_frozen BK132.out 1; have hfz67_2 := blk_frozen BK132.out 2; have hfz67_3 := blk_frozen BK132.out 3; have hfz67_4 := blk_frozen BK132.out 4; have hfz67_5 := blk_frozen BK132.out 5; have hfz67_6 := blk_frozen BK132.out 6; have hfz67_7 := blk_frozen BK132.out 7; have hfz67_8 := blk_frozen BK132.out 8; have hfz67_9 := blk_frozen BK132.out 9; have hfz67_10 := blk_frozen BK132.out 10; have hfz67_11 := blk_frozen BK132.out 11) | (go_at_call 44; (with_reducible refine (bound_Fair.calls k3 1 1 1 1 a0 0 1 9 1 0 9 a1 (wrap64 (x8_15 - 1)) _ _ x9_3 false _ ?side1 ?side2 A32.out).mono ?_); (case side1 => repeat (first | exact (Kd.R_reads' HO_9.out).2.2 | (with_reducible refine Kd.C_alloc ?_ _) | (with_reducible refine Kd.C_drewN ?_ _) | (with_reducible refine Kd.C_drew ?_))); (case side2 => exact (Kd.R_reads' HO_9.out).2.1); rintro e w68 ⟨rfl, hb⟩; have n0_ := Aside0.mk (Kd.R_below (by (with_reducible repeat (first | apply Kd.R_alloc | apply Kd.R_drewN | apply Kd.R_drew)); exact HO_9.out) hb); have n1_ := Aside0.mk (Kd.R_below (by (with_reducible repeat (first | apply Kd.R_alloc | apply Kd.R_drewN | apply Kd.R_drew)); exact HO_10.out) hb); have n2_ := Aside0.mk (blk_below (g := gb132) (o := .cells #[.int .i64 1, .int .i64 1, .int .i64 1, .int .i64 1, .int .i64 a0, .int .i64 0, .int .i64 1, .int .i64 9, .int .i64 1, .int .i64 0, .int .i64 9, .int .i64 a1] 50 (0, 0)) (by (with_reducible repeat (first | refine blk_drewN ?_ _ | refine blk_drew ?_ | refine blk_alloc ?_ _)); exact BK132.out) hb); have n3_ := Aside0.mk (below_step (by repeat (first | (with_reducible first | exact HB.out | apply below_alloc | apply pw_below_drewN | apply below_drew1 | refine below_set ?_ GE132.out) | exact HB.out)) hb); clear HO_9; clear HO_10; clear BK132; clear HB; have HO_9 := n0_; have HO_10 := n1_; have BK132 := n2_; have HB := n3_; clear n0_ n1_ n2_ n3_; (try clear hb); (try clear hb2); (try clear hk); (try clear hi); obtain ⟨Ao69, co69, eo69⟩ := Kd.R_slice HO_10.out; subst eo69; have hcz70_0 : w68.cell? ⟨gb132, 0, none⟩ = some (.int .i64 1) := (blk_cell BK132.out 0).trans rfl; have hcz70_1 : w68.cell? ⟨gb132, 1, none⟩ = some (.int .i64 1) := (blk_cell BK132.out 1).trans rfl; have hcz70_2 : w68.cell? ⟨gb132, 2, none⟩ = some (.int .i64 1) := (blk_cell BK132.out 2).trans rfl; have hcz70_3 : w68.cell? ⟨gb132, 3, none⟩ = some (.int .i64 1) := (blk_cell BK132.out 3).trans rfl; have hcz70_4 : w68.cell? ⟨gb132, 4, none⟩ = some (.int .i64 a0) := (blk_cell BK132.out 4).trans rfl; have hcz70_5 : w68.cell? ⟨gb132, 5, none⟩ = some (.int .i64 0) := (blk_cell BK132.out 5).trans rfl; have hcz70_6 : w68.cell? ⟨gb132, 6, none⟩ = some (.int .i64 1) := (blk_cell BK132.out 6).trans rfl; have hcz70_7 : w68.cell? ⟨gb132, 7, none⟩ = some (.int .i64 9) := (blk_cell BK132.out 7).trans rfl; have hcz70_8 : w68.cell? ⟨gb132, 8, none⟩ = some (.int .i64 1) := (blk_cell BK132.out 8).trans rfl; have hcz70_9 : w68.cell? ⟨gb132, 9, none⟩ = some (.int .i64 0) := (blk_cell BK132.out 9).trans rfl; have hcz70_10 : w68.cell? ⟨gb132, 10, none⟩ = some (.int .i64 9) := (blk_cell BK132.out 10).trans rfl; have hcz70_11 : w68.cell? ⟨gb132, 11, none⟩ = some (.int .i64 a1) := (blk_cell BK132.out 11).trans rfl; have hfz70_0 := blk_frozen BK132.out 0; have hfz70_1 := blk_frozen BK132.out 1; have hfz70_2 := blk_frozen BK132.out 2; have hfz70_3 := blk_frozen BK132.out 3; have hfz70_4 := blk_frozen BK132.out 4; have hfz70_5 := blk_frozen BK132.out 5; have hfz70_6 := blk_frozen BK132.out 6; have hfz70_7 := blk_frozen BK132.out 7; have hfz70_8 := blk_frozen BK132.out 8; have hfz70_9 := blk_frozen BK132.out 9; have hfz70_10 := blk_frozen BK132.out 10; have hfz70_11 := blk_frozen BK132.out 11) | (go_at_call 44; (with_reducible refine (bound_Fair.calls k3 1 1 1 1 a0 0 1 9 1 0 9 a1 (x10_3.length : Int) _ _ x10_3 false _ ?side1 ?side2 A51.out).mono ?_); (case side1 => repeat (first | exact (Kd.R_reads' HO_10.out).2.2 | (with_reducible refine Kd.C_alloc ?_ _) | (with_reducible refine Kd.C_drewN ?_ _) | (with_reducible refine Kd.C_drew ?_))); (case side2 => exact (Kd.R_reads' HO_10.out).2.1); rintro e w71 ⟨rfl, hb⟩; have n0_ := Aside0.mk (Kd.R_below (by (with_reducible repeat (first | apply Kd.R_alloc | apply Kd.R_drewN | apply Kd.R_drew)); exact HO_9.out) hb); have n1_ := Aside0.mk (Kd.R_below (by (with_reducible repeat (first | apply Kd.R_alloc | apply Kd.R_drewN | apply Kd.R_drew)); exact HO_10.out) hb); have n2_ := Aside0.mk (blk_below (g := gb132) (o := .cells #[.int .i64 1, .int .i64 1, .int .i64 1, .int .i64 1, .int .i64 a0, .int .i64 0, .int .i64 1, .int .i64 9, .int .i64 1, .int .i64 0, .int .i64 9, .int .i64 a1] 50 (0, 0)) (by (with_reducible repeat (first | refine blk_drewN ?_ _ | refine blk_drew ?_ | refine blk_alloc ?_ _)); exact BK132.out) hb); have n3_ := Aside0.mk (below_step (by repeat (first | (with_reducible first | exact HB.out | apply below_alloc | apply pw_below_drewN | apply below_drew1 | refine below_set ?_ GE132.out) | exact HB.out)) hb); clear HO_9; clear HO_10; clear BK132; clear HB; have HO_9 := n0_; have HO_10 := n1_; have BK132 := n2_; have HB := n3_; clear n0_ n1_ n2_ n3_; (try clear hb); (try clear hb2); (try clear hk); (try clear hi); have hcz72_0 : w71.cell? ⟨gb132, 0, none⟩ = some (.int .i64 1) := (blk_cell BK132.out 0).trans rfl; have hcz72_1 : w71.cell? ⟨gb132, 1, none⟩ = some (.int .i64 1) := (blk_cell BK132.out 1).trans rfl; have hcz72_2 : w71.cell? ⟨gb132, 2, none⟩ = some (.int .i64 1) := (blk_cell BK132.out 2).trans rfl; have hcz72_3 : w71.cell? ⟨gb132, 3, none⟩ = some (.int .i64 1) := (blk_cell BK132.out 3).trans rfl; have hcz72_4 : w71.cell? ⟨gb132, 4, none⟩ = some (.int .i64 a0) := (blk_cell BK132.out 4).trans rfl; have hcz72_5 : w71.cell? ⟨gb132, 5, none⟩ = some (.int .i64 0) := (blk_cell BK132.out 5).trans rfl; have hcz72_6 : w71.cell? ⟨gb132, 6, none⟩ = some (.int .i64 1) := (blk_cell BK132.out 6).trans rfl; have hcz72_7 : w71.cell? ⟨gb132, 7, none⟩ = some (.int .i64 9) := (blk_cell BK132.out 7).trans rfl; have hcz72_8 : w71.cell? ⟨gb132, 8, none⟩ = some (.int .i64 1) := (blk_cell BK132.out 8).trans rfl; have hcz72_9 : w71.cell? ⟨gb132, 9, none⟩ = some (.int .i64 0) := (blk_cell BK132.out 9).trans rfl; have hcz72_10 : w71.cell? ⟨gb132, 10, none⟩ = some (.int .i64 9) := (blk_cell BK132.out 10).trans rfl; have hcz72_11 : w71.cell? ⟨gb132, 11, none⟩ = some (.int .i64 a1) := (blk_cell BK132.out 11).trans rfl; have hfz72_0 := blk_frozen BK132.out 0; have hfz72_1 := blk_frozen BK132.out 1; have hfz72_2 := blk_frozen BK132.out 2; have hfz72_3 := blk_frozen BK132.out 3; have hfz72_4 := blk_frozen BK132.out 4; have hfz72_5 := blk_frozen BK132.out 5; have hfz72_6 := blk_frozen BK132.out 6; have hfz72_7 := blk_frozen BK132.out 7; have hfz72_8 := blk_frozen BK132.out 8; have hfz72_9 := blk_frozen BK132.out 9; have hfz72_10 := blk_frozen BK132.out 10; have hfz72_11 := blk_frozen BK132.out 11) | (go_at_call 44; (with_reducible refine (bound_Fair.calls k3 1 1 1 1 a0 0 1 9 1 0 9 a1 (wrap64 ((x9_3.length : Int) + 1)) _ _ x10_3 t144 _ ?side1 ?side2 A62.out).mono ?_); (case side1 => repeat (first | exact (Kd.R_reads' HO_10.out).2.2 | (with_reducible refine Kd.C_alloc ?_ _) | (with_reducible refine Kd.C_drewN ?_ _) | (with_reducible refine Kd.C_drew ?_))); (case side2 => exact (Kd.R_reads' HO_10.out).2.1); rintro e w73 ⟨rfl, hb⟩; have n0_ := Aside0.mk (Kd.R_below (by (with_reducible repeat (first | apply Kd.R_alloc | apply Kd.R_drewN | apply Kd.R_drew)); exact HO_9.out) hb); have n1_ := Aside0.mk (Kd.R_below (by (with_reducible repeat (first | apply Kd.R_alloc | apply Kd.R_drewN | apply Kd.R_drew)); exact HO_10.out) hb); have n2_ := Aside0.mk (blk_below (g := gb132) (o := .cells #[.int .i64 1, .int .i64 1, .int .i64 1, .int .i64 1, .int .i64 a0, .int .i64 0, .int .i64 1, .int .i64 9, .int .i64 1, .int .i64 0, .int .i64 9, .int .i64 a1] 50 (0, 0)) (by (with_reducible repeat (first | refine blk_drewN ?_ _ | refine blk_drew ?_ | refine blk_alloc ?_ _)); exact BK132.out) hb); have n3_ := Aside0.mk (below_step (by repeat (first | (with_reducible first | exact HB.out | apply below_alloc | apply pw_below_drewN | apply below_drew1 | refine below_set ?_ GE132.out) | exact HB.out)) hb); clear HO_9; clear HO_10; clear BK132; clear HB; have HO_9 := n0_; have HO_10 := n1_; have BK132 := n2_; have HB := n3_; clear n0_ n1_ n2_ n3_; (try clear hb); (try clear hb2); (try clear hk); (try clear hi)))
                              go_ret
                              exact ⟨by first | rfl | (simp [errW_none, errW_some] <;> rfl) | (simp [*, errW_none, errW_some] <;> rfl), by repeat (first | (with_reducible first | exact HB.out | apply below_alloc | apply pw_below_drewN | apply below_drew1 | refine below_set ?_ GE132.out) | exact HB.out)⟩
                      · replace c31 := Bool.eq_false_iff.mpr c31
                        subst c31
                        have H1 : (some false) = some r := by rw [if_neg (show ¬ (false = true) by decide)] at H; exact H
                        clear H
                        have H := H1
                        clear H1
                        obtain rfl := Option.some.inj H
                        go_wp2_with (first | ((with_reducible refine gate_callee (f := 43) rfl ?_); refine goesL_ (some 70) rfl rfl Try.func43 (by kernel_rfl) rfl #[] rfl (by (try simp only [List.map_toArray, List.map_cons, List.map_nil]); first | done | rfl | (simp only [List.length_drop, List.length_take]; rfl)) ?_; (with_reducible refine (ltklaw21_first.calls k3  true _ A28.out).mono ?_); rintro e w74 ⟨rfl, hb⟩; refine ⟨_, rfl, ?_⟩; have n0_ := Aside0.mk (Kd.R_below (by (with_reducible repeat (first | apply Kd.R_alloc | apply Kd.R_drewN | apply Kd.R_drew)); exact HO_9.out) hb); have n1_ := Aside0.mk (Kd.R_below (by (with_reducible repeat (first | apply Kd.R_alloc | apply Kd.R_drewN | apply Kd.R_drew)); exact HO_10.out) hb); have n2_ := Aside0.mk (blk_below (g := gb132) (o := .cells #[.int .i64 1, .int .i64 1, .int .i64 1, .int .i64 1, .int .i64 a0, .int .i64 0, .int .i64 1, .int .i64 9, .int .i64 1, .int .i64 0, .int .i64 9, .int .i64 a1] 50 (0, 0)) (by (with_reducible repeat (first | refine blk_drewN ?_ _ | refine blk_drew ?_ | refine blk_alloc ?_ _)); exact BK132.out) hb); have n3_ := Aside0.mk (below_step (by repeat (first | (with_reducible first | exact HB.out | apply below_alloc | apply pw_below_drewN | apply below_drew1 | refine below_set ?_ GE132.out) | exact HB.out)) hb); clear HO_9; clear HO_10; clear BK132; clear HB; have HO_9 := n0_; have HO_10 := n1_; have BK132 := n2_; have HB := n3_; clear n0_ n1_ n2_ n3_; (try clear hb); (try clear hb2); (try clear hk); (try clear hi); have hcz75_0 : w74.cell? ⟨gb132, 0, none⟩ = some (.int .i64 1) := (blk_cell BK132.out 0).trans rfl; have hcz75_1 : w74.cell? ⟨gb132, 1, none⟩ = some (.int .i64 1) := (blk_cell BK132.out 1).trans rfl; have hcz75_2 : w74.cell? ⟨gb132, 2, none⟩ = some (.int .i64 1) := (blk_cell BK132.out 2).trans rfl; have hcz75_3 : w74.cell? ⟨gb132, 3, none⟩ = some (.int .i64 1) := (blk_cell BK132.out 3).trans rfl; have hcz75_4 : w74.cell? ⟨gb132, 4, none⟩ = some (.int .i64 a0) := (blk_cell BK132.out 4).trans rfl; have hcz75_5 : w74.cell? ⟨gb132, 5, none⟩ = some (.int .i64 0) := (blk_cell BK132.out 5).trans rfl; have hcz75_6 : w74.cell? ⟨gb132, 6, none⟩ = some (.int .i64 1) := (blk_cell BK132.out 6).trans rfl; have hcz75_7 : w74.cell? ⟨gb132, 7, none⟩ = some (.int .i64 9) := (blk_cell BK132.out 7).trans rfl; have hcz75_8 : w74.cell? ⟨gb132, 8, none⟩ = some (.int .i64 1) := (blk_cell BK132.out 8).trans rfl; have hcz75_9 : w74.cell? ⟨gb132, 9, none⟩ = some (.int .i64 0) := (blk_cell BK132.out 9).trans rfl; have hcz75_10 : w74.cell? ⟨gb132, 10, none⟩ = some (.int .i64 9) := (blk_cell BK132.out 10).trans rfl; have hcz75_11 : w74.cell? ⟨gb132, 11, none⟩ = some (.int .i64 a1) := (blk_cell BK132.out 11).trans rfl; have hfz75_0 := blk_frozen BK132.out 0; have hfz75_1 := blk_frozen BK132.out 1; have hfz75_2 := blk_frozen BK132.out 2; have hfz75_3 := blk_frozen BK132.out 3; have hfz75_4 := blk_frozen BK132.out 4; have hfz75_5 := blk_frozen BK132.out 5; have hfz75_6 := blk_frozen BK132.out 6; have hfz75_7 := blk_frozen BK132.out 7; have hfz75_8 := blk_frozen BK132.out 8; have hfz75_9 := blk_frozen BK132.out 9; have hfz75_10 := blk_frozen BK132.out 10; have hfz75_11 := blk_frozen BK132.out 11; obtain ⟨Ao76, co76, eo76⟩ := Kd.R_slice HO_9.out; subst eo76) | (go_at_call 44; (with_reducible refine (bound_Fair.calls k3 1 1 1 1 a0 0 1 9 1 0 9 a1 x8_15 _ _ x9_3 false _ ?side1 ?side2 A30.out).mono ?_); (case side1 => repeat (first | exact (Kd.R_reads' HO_9.out).2.2 | (with_reducible refine Kd.C_alloc ?_ _) | (with_reducible refine Kd.C_drewN ?_ _) | (with_reducible refine Kd.C_drew ?_))); (case side2 => exact (Kd.R_reads' HO_9.out).2.1); rintro e w77 ⟨rfl, hb⟩; have n0_ := Aside0.mk (Kd.R_below (by (with_reducible repeat (first | apply Kd.R_alloc | apply Kd.R_drewN | apply Kd.R_drew)); exact HO_9.out) hb); have n1_ := Aside0.mk (Kd.R_below (by (with_reducible repeat (first | apply Kd.R_alloc | apply Kd.R_drewN | apply Kd.R_drew)); exact HO_10.out) hb); have n2_ := Aside0.mk (blk_below (g := gb132) (o := .cells #[.int .i64 1, .int .i64 1, .int .i64 1, .int .i64 1, .int .i64 a0, .int .i64 0, .int .i64 1, .int .i64 9, .int .i64 1, .int .i64 0, .int .i64 9, .int .i64 a1] 50 (0, 0)) (by (with_reducible repeat (first | refine blk_drewN ?_ _ | refine blk_drew ?_ | refine blk_alloc ?_ _)); exact BK132.out) hb); have n3_ := Aside0.mk (below_step (by repeat (first | (with_reducible first | exact HB.out | apply below_alloc | apply pw_below_drewN | apply below_drew1 | refine below_set ?_ GE132.out) | exact HB.out)) hb); clear HO_9; clear HO_10; clear BK132; clear HB; have HO_9 := n0_; have HO_10 := n1_; have BK132 := n2_; have HB := n3_; clear n0_ n1_ n2_ n3_; (try clear hb); (try clear hb2); (try clear hk); (try clear hi)))
                        go_ret
                        exact ⟨by first | rfl | (simp [errW_none, errW_some] <;> rfl) | (simp [*, errW_none, errW_some] <;> rfl), by repeat (first | (with_reducible first | exact HB.out | apply below_alloc | apply pw_below_drewN | apply below_drew1 | refine below_set ?_ GE132.out) | exact HB.out)⟩
                    · replace c29 := Bool.eq_false_iff.mpr c29
                      subst c29
                      have H1 : (some false) = some r := by rw [if_neg (show ¬ (false = true) by decide)] at H; exact H
                      clear H
                      have H := H1
                      clear H1
                      obtain rfl := Option.some.inj H
                      go_wp2_with (first | ((with_reducible refine gate_callee (f := 43) rfl ?_); refine goesL_ (some 70) rfl rfl Try.func43 (by kernel_rfl) rfl #[] rfl (by (try simp only [List.map_toArray, List.map_cons, List.map_nil]); first | done | rfl | (simp only [List.length_drop, List.length_take]; rfl)) ?_; (with_reducible refine (ltklaw21_first.calls k3  false _ A28.out).mono ?_); rintro e w78 ⟨rfl, hb⟩; refine ⟨_, rfl, ?_⟩; have n0_ := Aside0.mk (Kd.R_below (by (with_reducible repeat (first | apply Kd.R_alloc | apply Kd.R_drewN | apply Kd.R_drew)); exact HO_9.out) hb); have n1_ := Aside0.mk (Kd.R_below (by (with_reducible repeat (first | apply Kd.R_alloc | apply Kd.R_drewN | apply Kd.R_drew)); exact HO_10.out) hb); have n2_ := Aside0.mk (blk_below (g := gb132) (o := .cells #[.int .i64 1, .int .i64 1, .int .i64 1, .int .i64 1, .int .i64 a0, .int .i64 0, .int .i64 1, .int .i64 9, .int .i64 1, .int .i64 0, .int .i64 9, .int .i64 a1] 50 (0, 0)) (by (with_reducible repeat (first | refine blk_drewN ?_ _ | refine blk_drew ?_ | refine blk_alloc ?_ _)); exact BK132.out) hb); have n3_ := Aside0.mk (below_step (by repeat (first | (with_reducible first | exact HB.out | apply below_alloc | apply pw_below_drewN | apply below_drew1 | refine below_set ?_ GE132.out) | exact HB.out)) hb); clear HO_9; clear HO_10; clear BK132; clear HB; have HO_9 := n0_; have HO_10 := n1_; have BK132 := n2_; have HB := n3_; clear n0_ n1_ n2_ n3_; (try clear hb); (try clear hb2); (try clear hk); (try clear hi)))
                      go_ret
                      exact ⟨by first | rfl | (simp [errW_none, errW_some] <;> rfl) | (simp [*, errW_none, errW_some] <;> rfl), by repeat (first | (with_reducible first | exact HB.out | apply below_alloc | apply pw_below_drewN | apply below_drew1 | refine below_set ?_ GE132.out) | exact HB.out)⟩
  · replace c5 := Bool.eq_false_iff.mpr c5
    subst c5
    have H1 : (some false) = some r := by rw [if_neg (show ¬ (false = true) by decide)] at H; exact H
    clear H
    have H := H1
    clear H1
    obtain rfl := Option.some.inj H
    go_enter Try.func14, Try.ntmps14
    go_wp2_with (first | ((with_reducible refine gate_callee (f := 43) rfl ?_); refine goesL_ (some 12) rfl rfl Try.func43 (by kernel_rfl) rfl #[] rfl (by (try simp only [List.map_toArray, List.map_cons, List.map_nil]); first | done | rfl | (simp only [List.length_drop, List.length_take]; rfl)) ?_; (with_reducible refine (ltklaw21_first.calls k  false _ A4.out).mono ?_); rintro e w79 ⟨rfl, hb⟩; refine ⟨_, rfl, ?_⟩; have n0_ := Aside0.mk (below_step (by repeat (first | (with_reducible first | exact HB.out | apply below_alloc | apply pw_below_drewN | apply below_drew1) | exact HB.out)) hb); clear HB; have HB := n0_; clear n0_; (try clear hb); (try clear hb2); (try clear hk); (try clear hi)))
    go_ret
    exact ⟨by first | rfl | (simp [errW_none, errW_some] <;> rfl) | (simp [*, errW_none, errW_some] <;> rfl), by repeat (first | (with_reducible first | exact HB.out | apply below_alloc | apply pw_below_drewN | apply below_drew1) | exact HB.out)⟩

/-- THE ONE PURE STATEMENT of ltklaw21_BoundFair: yours. -/
def ltklaw21_BoundFair.Pure : Prop := ∀ (a0 : Int) (a1 : Int) (a2 : Int), (Lit.int .i64 a0).wf = true → (Lit.int .i64 a1).wf = true → (Lit.int .i64 a2).wf = true → ∃ k, ltklaw21_BoundFair.f k a0 a1 a2 = some true
theorem ltklaw21_BoundFair.walk (P : ltklaw21_BoundFair.Pure) (a0 : Int) (a1 : Int) (a2 : Int) (w : World) (w0 : (Lit.int .i64 a0).wf = true) (w1 : (Lit.int .i64 a1).wf = true) (w2 : (Lit.int .i64 a2).wf = true) :
    Calls Try.prog 14 #[.int .i64 a0, .int .i64 a1, .int .i64 a2] w fun e w' => e = .returned (.bool true) ∧ Below w.heap.size w w' := by
  obtain ⟨k, h⟩ := P a0 a1 a2 w0 w1 w2
  refine (ltklaw21_BoundFair.calls k a0 a1 a2 true w h).mono ?_
  rintro e w' ⟨rfl, hd⟩
  exact ⟨rfl, hd⟩

end Go.Proofs.Ytdpcodnooonmlaa.PBo
