/- LaneTurns: one asks again for more: it is granted where the others allow it, else it waits ahead of all. a, b, more in 1 to 5. -/
import Derived.Test.YtagdgkimjgomlaaQueue
namespace Go.Proofs.Ytagdgkimjgomlaa.Ln
open Go.RowKit Go.Proofs.YtagdgkimjgomlaaW.PrintWords Go.Proofs.YtagdgkimjgomlaaW.PrintLast Go.Proofs.YtagdgkimjgomlaaW.PrintMore Go.Proofs.Ytagdgkimjgomlaa.PMd
set_option linter.unusedVariables false
set_option linter.unusedSimpArgs false
def up (n : Fin 5) : Int := (n.val : Int) + 1
theorem t1f : ∀ a : Fin 5, askIn [] [] 1 (up a) = (1, [⟨1, up a⟩], []) := by decide +kernel
theorem t2f : ∀ a b : Fin 5, fitsM (up a) (up b) = true → askIn [⟨1, up a⟩] [] 2 (up b) = (1, [⟨1, up a⟩, ⟨2, up b⟩], []) ∧ askIn [⟨1, up a⟩, ⟨2, up b⟩] [] 3 5 = (2, [⟨1, up a⟩, ⟨2, up b⟩], [⟨3, 5⟩]) := by decide +kernel
theorem t3f : ∀ a b : Fin 5, fitsM (up a) (up b) = false → askIn [⟨1, up a⟩] [] 2 (up b) = (2, [⟨1, up a⟩], [⟨2, up b⟩]) ∧ askIn [⟨1, up a⟩] [⟨2, up b⟩] 3 5 = (2, [⟨1, up a⟩], [⟨2, up b⟩, ⟨3, 5⟩]) := by decide +kernel
theorem t4f : ∀ a b m : Fin 5, fitsM (up a) (up b) = true → (supM (up a) (up m) == up a || fitsM (supM (up a) (up m)) (up b)) = true → askIn [⟨1, up a⟩, ⟨2, up b⟩] [⟨3, 5⟩] 1 (up m) = (1, [⟨1, supM (up a) (up m)⟩, ⟨2, up b⟩], [⟨3, 5⟩]) := by decide +kernel
theorem t5f : ∀ a b m : Fin 5, fitsM (up a) (up b) = true → (supM (up a) (up m) == up a || fitsM (supM (up a) (up m)) (up b)) = false → askIn [⟨1, up a⟩, ⟨2, up b⟩] [⟨3, 5⟩] 1 (up m) = (2, [⟨1, up a⟩, ⟨2, up b⟩], [⟨1, supM (up a) (up m)⟩, ⟨3, 5⟩]) := by decide +kernel
theorem t6f : ∀ a b m : Fin 5, fitsM (up a) (up b) = false → askIn [⟨1, up a⟩] [⟨2, up b⟩, ⟨3, 5⟩] 1 (up m) = (1, [⟨1, supM (up a) (up m)⟩], [⟨2, up b⟩, ⟨3, 5⟩]) := by decide +kernel
theorem t7f : ∀ a b m : Fin 5, fitsM (up a) (up b) = true → (supM (up a) (up m) == up a || fitsM (supM (up a) (up m)) (up b)) = false → leaveIn [⟨1, up a⟩, ⟨2, up b⟩] [⟨1, supM (up a) (up m)⟩, ⟨3, 5⟩] 2 = ([1], [⟨1, supM (up a) (up m)⟩], [⟨3, 5⟩]) := by decide +kernel
theorem told1 (T : Int) (l : List E) : toldIn (⟨1, T⟩ :: l) 1 = T := by
  unfold toldIn ix
  simp [List.findIdx?_cons, rd_T67]
set_option maxHeartbeats 8000000 in
set_option maxRecDepth 100000 in
theorem turns_out (a0 a1 a2 : Int) (w : World) (h : a0 < 1 ∨ 5 < a0 ∨ a1 < 1 ∨ 5 < a1 ∨ a2 < 1 ∨ 5 < a2) : Calls Try.prog 8 #[.int .i64 a0, .int .i64 a1, .int .i64 a2] w fun e w' => e = .returned (.bool true) ∧ Below w.heap.size w w' := by
  have h' : a0 < 1 ∨ (¬ a0 < 1 ∧ 5 < a0) ∨ (¬ a0 < 1 ∧ ¬ 5 < a0 ∧ a1 < 1) ∨ (¬ a0 < 1 ∧ ¬ 5 < a0 ∧ ¬ a1 < 1 ∧ 5 < a1) ∨ (¬ a0 < 1 ∧ ¬ 5 < a0 ∧ ¬ a1 < 1 ∧ ¬ 5 < a1 ∧ a2 < 1) ∨ (¬ a0 < 1 ∧ ¬ 5 < a0 ∧ ¬ a1 < 1 ∧ ¬ 5 < a1 ∧ ¬ a2 < 1 ∧ 5 < a2) := by omega
  clear h
  rcases h' with h1 | ⟨h1, h2⟩ | ⟨h1, h2, h3⟩ | ⟨h1, h2, h3, h4⟩ | ⟨h1, h2, h3, h4, h5⟩ | ⟨h1, h2, h3, h4, h5, h6⟩
  all_goals
    go_enter Try.func8, Try.ntmps8
    go_wp2_with fail
    refine (first_ w w (Below.refl _ _)).mono ?_
    rintro e w1 ⟨rfl, hb⟩
    have HB := Aside0.mk hb
    clear hb
    go_wp2_with fail
    refine (New_L w w1 HB.out).mono ?_
    rintro e w2 ⟨rfl, hL, _⟩
    have HL := Aside0.mk hL
    clear hL
    go_wp2_with fail
    refine (first_ w w2 HL.out.2.2).mono ?_
    rintro e w3 ⟨rfl, hb3⟩
    have HB3 := Aside0.mk (below_then HL.out.2.2 HL.out.2.2.size hb3)
    clear hb3
    go_wp2
    go_ret
    exact ⟨rfl, HB3.out⟩
set_option maxHeartbeats 8000000 in
set_option maxRecDepth 100000 in
theorem turns_a (a b m T : Int) (w : World) (ha : 1 ≤ a ∧ a ≤ 5) (hb : 1 ≤ b ∧ b ≤ 5) (hm : 1 ≤ m ∧ m ≤ 5) (hT : supM a m = T) (hF : fitsM a b = true)
    (x1 : askIn [] [] 1 a = (1, [⟨1, a⟩], [])) (x2 : askIn [⟨1, a⟩] [] 2 b = (1, [⟨1, a⟩, ⟨2, b⟩], [])) (x3 : askIn [⟨1, a⟩, ⟨2, b⟩] [] 3 5 = (2, [⟨1, a⟩, ⟨2, b⟩], [⟨3, 5⟩])) (x4 : askIn [⟨1, a⟩, ⟨2, b⟩] [⟨3, 5⟩] 1 m = (1, [⟨1, T⟩, ⟨2, b⟩], [⟨3, 5⟩])) (hTa : (T == a) = true) (hTb : fitsM T b = true) :
    Calls Try.prog 8 #[.int .i64 a, .int .i64 b, .int .i64 m] w fun e w' => e = .returned (.bool true) ∧ Below w.heap.size w w' := by
  have p1 : decide (a < 1) = false := decide_eq_false (by omega)
  have p2 : decide (a > 5) = false := decide_eq_false (by omega)
  have p3 : decide (b < 1) = false := decide_eq_false (by omega)
  have p4 : decide (b > 5) = false := decide_eq_false (by omega)
  have p5 : decide (m < 1) = false := decide_eq_false (by omega)
  have p6 : decide (m > 5) = false := decide_eq_false (by omega)
  have s1 : (T == T) = true := beq_self_eq_true T
  have s2 : (a == a) = true := beq_self_eq_true a
  have HX := Aside0.mk (And.intro x1 (And.intro x2 (And.intro x3 x4)))
  clear x1 x2 x3 x4 ha hb hm
  go_enter Try.func8, Try.ntmps8
  go_wp2_with fail
  refine (first_ w w (Below.refl _ _)).mono ?_
  rintro e w1 ⟨rfl, hb⟩
  have HB := Aside0.mk hb
  clear hb
  go_wp2_with fail
  refine (New_L w w1 HB.out).mono ?_
  rintro e w2 ⟨rfl, hL, _⟩
  have HL2 := Aside0.mk hL
  clear hL HB
  generalize hB : w1.heap.size = B at HL2 ⊢
  clear hB
  go_wp2_with fail
  have hA := Ask_L 1 a HL2.out (by simp) (by simp)
  rw [HX.out.1] at hA
  refine hA.mono ?_
  clear hA
  rintro e w3 ⟨rfl, hL⟩
  have HL3 := Aside0.mk hL
  clear hL HL2
  go_wp2_with fail
  have hA := Ask_L 2 b HL3.out (by simp) (by simp)
  rw [HX.out.2.1] at hA
  refine hA.mono ?_
  clear hA
  rintro e w4 ⟨rfl, hL⟩
  have HL4 := Aside0.mk hL
  clear hL HL3
  go_wp2_with fail
  have hC := Fits_ a b w4
  rw [hF] at hC
  refine hC.mono ?_
  clear hC
  rintro e w5 ⟨rfl, hd⟩
  obtain ⟨n5, rfl⟩ := hd
  have HL5 := Aside0.mk (HL4.out.below (pw_below_drewN (Below.refl _ _) n5))
  clear HL4
  go_wp2_with fail
  have hA := Ask_L 3 5 HL5.out (by simp) (by simp)
  rw [HX.out.2.2.1] at hA
  refine hA.mono ?_
  clear hA
  rintro e w6 ⟨rfl, hL⟩
  have HL6 := Aside0.mk hL
  clear hL HL5
  go_wp2_with fail
  have hC := Sup_ a m _ 2 (w6.alloc (.cells #[.int .i64 a, .int .i64 m] 3)) (slice_two a m) (Nat.le_refl _)
  rw [hT] at hC
  refine hC.mono ?_
  clear hC
  rintro e w7 ⟨rfl, hd⟩
  obtain ⟨n7, rfl⟩ := hd
  have HL7 := Aside0.mk ((HL6.out.alloc (.cells #[.int .i64 a, .int .i64 m] 3)).below (pw_below_drewN (Below.refl _ _) n7))
  clear HL6
  generalize (w6.alloc (.cells #[.int .i64 a, .int .i64 m] 3)).drewN n7 = w7 at HL7 ⊢
  go_wp2_with fail
  have hA := Ask_L 1 m HL7.out (by simp) (by simp)
  rw [HX.out.2.2.2] at hA
  refine hA.mono ?_
  clear hA
  rintro e w8 ⟨rfl, hL⟩
  have HL8 := Aside0.mk hL
  clear hL HL7
  go_wp2_with fail
  have hC := Fits_ T b w8
  rw [hTb] at hC
  refine hC.mono ?_
  clear hC
  rintro e w9 ⟨rfl, hd⟩
  obtain ⟨n9, rfl⟩ := hd
  have HL9 := Aside0.mk (HL8.out.below (pw_below_drewN (Below.refl _ _) n9))
  clear HL8
  go_wp2_with fail
  have HQ := Aside0.mk (Queue_L HL9.out (by simp))
  refine HQ.out.mono ?_
  rintro e w10 ⟨A10, c10, rfl, hK, hc, hL, _⟩
  have HL10 := Aside0.mk hL
  have HK10 := Aside0.mk hK
  clear hL hK HQ HL9
  go_wp2_with fail
  refine (first_ w w10 HL10.out.2.2).mono ?_
  rintro e w11 ⟨rfl, hb⟩
  have HL11 := Aside0.mk (HL10.out.below hb)
  have HK11 := Aside0.mk (Kd.C_below HK10.out hb)
  clear hb HL10 HK10
  go_wp2_with fail
  have hC := Holds_L 1 HL11.out
  rw [told1] at hC
  refine hC.mono ?_
  clear hC
  rintro e w12 ⟨rfl, hL, hb⟩
  have HL12 := Aside0.mk hL
  have HK12 := Aside0.mk (Kd.C_below HK11.out hb)
  clear hL hb HL11 HK11
  obtain ⟨ad, rfl, q0, q1⟩ := at_T67 HK12.out 0 (by decide) (by simp)
  simp only [Int.toNat_zero, Nat.zero_mul, Addr.add_zero'] at q0 q1
  replace q0 : w12.cell? ad = some (.int .i64 3) := q0
  replace q1 : w12.cell? ⟨ad.block, ad.off + 1, none⟩ = some (.int .i64 5) := q1
  simp only [List.length_cons, List.length_nil] at *
  go_wp2
  go_ret
  exact ⟨rfl, HL12.out.2.2⟩
set_option maxHeartbeats 8000000 in
set_option maxRecDepth 100000 in
theorem turns_b (a b m T : Int) (w : World) (ha : 1 ≤ a ∧ a ≤ 5) (hb : 1 ≤ b ∧ b ≤ 5) (hm : 1 ≤ m ∧ m ≤ 5) (hT : supM a m = T) (hF : fitsM a b = true)
    (x1 : askIn [] [] 1 a = (1, [⟨1, a⟩], [])) (x2 : askIn [⟨1, a⟩] [] 2 b = (1, [⟨1, a⟩, ⟨2, b⟩], [])) (x3 : askIn [⟨1, a⟩, ⟨2, b⟩] [] 3 5 = (2, [⟨1, a⟩, ⟨2, b⟩], [⟨3, 5⟩])) (x4 : askIn [⟨1, a⟩, ⟨2, b⟩] [⟨3, 5⟩] 1 m = (1, [⟨1, T⟩, ⟨2, b⟩], [⟨3, 5⟩])) (hTa : (T == a) = false) (hTb : fitsM T b = true) :
    Calls Try.prog 8 #[.int .i64 a, .int .i64 b, .int .i64 m] w fun e w' => e = .returned (.bool true) ∧ Below w.heap.size w w' := by
  have p1 : decide (a < 1) = false := decide_eq_false (by omega)
  have p2 : decide (a > 5) = false := decide_eq_false (by omega)
  have p3 : decide (b < 1) = false := decide_eq_false (by omega)
  have p4 : decide (b > 5) = false := decide_eq_false (by omega)
  have p5 : decide (m < 1) = false := decide_eq_false (by omega)
  have p6 : decide (m > 5) = false := decide_eq_false (by omega)
  have s1 : (T == T) = true := beq_self_eq_true T
  have s2 : (a == a) = true := beq_self_eq_true a
  have HX := Aside0.mk (And.intro x1 (And.intro x2 (And.intro x3 x4)))
  clear x1 x2 x3 x4 ha hb hm
  go_enter Try.func8, Try.ntmps8
  go_wp2_with fail
  refine (first_ w w (Below.refl _ _)).mono ?_
  rintro e w1 ⟨rfl, hb⟩
  have HB := Aside0.mk hb
  clear hb
  go_wp2_with fail
  refine (New_L w w1 HB.out).mono ?_
  rintro e w2 ⟨rfl, hL, _⟩
  have HL2 := Aside0.mk hL
  clear hL HB
  generalize hB : w1.heap.size = B at HL2 ⊢
  clear hB
  go_wp2_with fail
  have hA := Ask_L 1 a HL2.out (by simp) (by simp)
  rw [HX.out.1] at hA
  refine hA.mono ?_
  clear hA
  rintro e w3 ⟨rfl, hL⟩
  have HL3 := Aside0.mk hL
  clear hL HL2
  go_wp2_with fail
  have hA := Ask_L 2 b HL3.out (by simp) (by simp)
  rw [HX.out.2.1] at hA
  refine hA.mono ?_
  clear hA
  rintro e w4 ⟨rfl, hL⟩
  have HL4 := Aside0.mk hL
  clear hL HL3
  go_wp2_with fail
  have hC := Fits_ a b w4
  rw [hF] at hC
  refine hC.mono ?_
  clear hC
  rintro e w5 ⟨rfl, hd⟩
  obtain ⟨n5, rfl⟩ := hd
  have HL5 := Aside0.mk (HL4.out.below (pw_below_drewN (Below.refl _ _) n5))
  clear HL4
  go_wp2_with fail
  have hA := Ask_L 3 5 HL5.out (by simp) (by simp)
  rw [HX.out.2.2.1] at hA
  refine hA.mono ?_
  clear hA
  rintro e w6 ⟨rfl, hL⟩
  have HL6 := Aside0.mk hL
  clear hL HL5
  go_wp2_with fail
  have hC := Sup_ a m _ 2 (w6.alloc (.cells #[.int .i64 a, .int .i64 m] 3)) (slice_two a m) (Nat.le_refl _)
  rw [hT] at hC
  refine hC.mono ?_
  clear hC
  rintro e w7 ⟨rfl, hd⟩
  obtain ⟨n7, rfl⟩ := hd
  have HL7 := Aside0.mk ((HL6.out.alloc (.cells #[.int .i64 a, .int .i64 m] 3)).below (pw_below_drewN (Below.refl _ _) n7))
  clear HL6
  generalize (w6.alloc (.cells #[.int .i64 a, .int .i64 m] 3)).drewN n7 = w7 at HL7 ⊢
  go_wp2_with fail
  have hA := Ask_L 1 m HL7.out (by simp) (by simp)
  rw [HX.out.2.2.2] at hA
  refine hA.mono ?_
  clear hA
  rintro e w8 ⟨rfl, hL⟩
  have HL8 := Aside0.mk hL
  clear hL HL7
  go_wp2_with fail
  have hC := Fits_ T b w8
  rw [hTb] at hC
  refine hC.mono ?_
  clear hC
  rintro e w9 ⟨rfl, hd⟩
  obtain ⟨n9, rfl⟩ := hd
  have HL9 := Aside0.mk (HL8.out.below (pw_below_drewN (Below.refl _ _) n9))
  clear HL8
  go_wp2_with fail
  have HQ := Aside0.mk (Queue_L HL9.out (by simp))
  refine HQ.out.mono ?_
  rintro e w10 ⟨A10, c10, rfl, hK, hc, hL, _⟩
  have HL10 := Aside0.mk hL
  have HK10 := Aside0.mk hK
  clear hL hK HQ HL9
  go_wp2_with fail
  refine (first_ w w10 HL10.out.2.2).mono ?_
  rintro e w11 ⟨rfl, hb⟩
  have HL11 := Aside0.mk (HL10.out.below hb)
  have HK11 := Aside0.mk (Kd.C_below HK10.out hb)
  clear hb HL10 HK10
  go_wp2_with fail
  have hC := Holds_L 1 HL11.out
  rw [told1] at hC
  refine hC.mono ?_
  clear hC
  rintro e w12 ⟨rfl, hL, hb⟩
  have HL12 := Aside0.mk hL
  have HK12 := Aside0.mk (Kd.C_below HK11.out hb)
  clear hL hb HL11 HK11
  obtain ⟨ad, rfl, q0, q1⟩ := at_T67 HK12.out 0 (by decide) (by simp)
  simp only [Int.toNat_zero, Nat.zero_mul, Addr.add_zero'] at q0 q1
  replace q0 : w12.cell? ad = some (.int .i64 3) := q0
  replace q1 : w12.cell? ⟨ad.block, ad.off + 1, none⟩ = some (.int .i64 5) := q1
  simp only [List.length_cons, List.length_nil] at *
  go_wp2
  go_ret
  exact ⟨rfl, HL12.out.2.2⟩
set_option maxHeartbeats 8000000 in
set_option maxRecDepth 100000 in
theorem turns_c (a b m T : Int) (w : World) (ha : 1 ≤ a ∧ a ≤ 5) (hb : 1 ≤ b ∧ b ≤ 5) (hm : 1 ≤ m ∧ m ≤ 5) (hT : supM a m = T) (hF : fitsM a b = true)
    (x1 : askIn [] [] 1 a = (1, [⟨1, a⟩], [])) (x2 : askIn [⟨1, a⟩] [] 2 b = (1, [⟨1, a⟩, ⟨2, b⟩], [])) (x3 : askIn [⟨1, a⟩, ⟨2, b⟩] [] 3 5 = (2, [⟨1, a⟩, ⟨2, b⟩], [⟨3, 5⟩])) (x4 : askIn [⟨1, a⟩, ⟨2, b⟩] [⟨3, 5⟩] 1 m = (2, [⟨1, a⟩, ⟨2, b⟩], [⟨1, T⟩, ⟨3, 5⟩])) (hTa : (T == a) = false) (hTb : fitsM T b = false) (HV : Aside0 (leaveIn [⟨1, a⟩, ⟨2, b⟩] [⟨1, T⟩, ⟨3, 5⟩] 2 = ([1], [⟨1, T⟩], [⟨3, 5⟩]))) :
    Calls Try.prog 8 #[.int .i64 a, .int .i64 b, .int .i64 m] w fun e w' => e = .returned (.bool true) ∧ Below w.heap.size w w' := by
  have p1 : decide (a < 1) = false := decide_eq_false (by omega)
  have p2 : decide (a > 5) = false := decide_eq_false (by omega)
  have p3 : decide (b < 1) = false := decide_eq_false (by omega)
  have p4 : decide (b > 5) = false := decide_eq_false (by omega)
  have p5 : decide (m < 1) = false := decide_eq_false (by omega)
  have p6 : decide (m > 5) = false := decide_eq_false (by omega)
  have s1 : (T == T) = true := beq_self_eq_true T
  have s2 : (a == a) = true := beq_self_eq_true a
  have HX := Aside0.mk (And.intro x1 (And.intro x2 (And.intro x3 x4)))
  clear x1 x2 x3 x4 ha hb hm
  go_enter Try.func8, Try.ntmps8
  go_wp2_with fail
  refine (first_ w w (Below.refl _ _)).mono ?_
  rintro e w1 ⟨rfl, hb⟩
  have HB := Aside0.mk hb
  clear hb
  go_wp2_with fail
  refine (New_L w w1 HB.out).mono ?_
  rintro e w2 ⟨rfl, hL, _⟩
  have HL2 := Aside0.mk hL
  clear hL HB
  generalize hB : w1.heap.size = B at HL2 ⊢
  clear hB
  go_wp2_with fail
  have hA := Ask_L 1 a HL2.out (by simp) (by simp)
  rw [HX.out.1] at hA
  refine hA.mono ?_
  clear hA
  rintro e w3 ⟨rfl, hL⟩
  have HL3 := Aside0.mk hL
  clear hL HL2
  go_wp2_with fail
  have hA := Ask_L 2 b HL3.out (by simp) (by simp)
  rw [HX.out.2.1] at hA
  refine hA.mono ?_
  clear hA
  rintro e w4 ⟨rfl, hL⟩
  have HL4 := Aside0.mk hL
  clear hL HL3
  go_wp2_with fail
  have hC := Fits_ a b w4
  rw [hF] at hC
  refine hC.mono ?_
  clear hC
  rintro e w5 ⟨rfl, hd⟩
  obtain ⟨n5, rfl⟩ := hd
  have HL5 := Aside0.mk (HL4.out.below (pw_below_drewN (Below.refl _ _) n5))
  clear HL4
  go_wp2_with fail
  have hA := Ask_L 3 5 HL5.out (by simp) (by simp)
  rw [HX.out.2.2.1] at hA
  refine hA.mono ?_
  clear hA
  rintro e w6 ⟨rfl, hL⟩
  have HL6 := Aside0.mk hL
  clear hL HL5
  go_wp2_with fail
  have hC := Sup_ a m _ 2 (w6.alloc (.cells #[.int .i64 a, .int .i64 m] 3)) (slice_two a m) (Nat.le_refl _)
  rw [hT] at hC
  refine hC.mono ?_
  clear hC
  rintro e w7 ⟨rfl, hd⟩
  obtain ⟨n7, rfl⟩ := hd
  have HL7 := Aside0.mk ((HL6.out.alloc (.cells #[.int .i64 a, .int .i64 m] 3)).below (pw_below_drewN (Below.refl _ _) n7))
  clear HL6
  generalize (w6.alloc (.cells #[.int .i64 a, .int .i64 m] 3)).drewN n7 = w7 at HL7 ⊢
  go_wp2_with fail
  have hA := Ask_L 1 m HL7.out (by simp) (by simp)
  rw [HX.out.2.2.2] at hA
  refine hA.mono ?_
  clear hA
  rintro e w8 ⟨rfl, hL⟩
  have HL8 := Aside0.mk hL
  clear hL HL7
  go_wp2_with fail
  have hC := Fits_ T b w8
  rw [hTb] at hC
  refine hC.mono ?_
  clear hC
  rintro e w9 ⟨rfl, hd⟩
  obtain ⟨n9, rfl⟩ := hd
  have HL9 := Aside0.mk (HL8.out.below (pw_below_drewN (Below.refl _ _) n9))
  clear HL8
  go_wp2_with fail
  have HQ := Aside0.mk (Queue_L HL9.out (by simp))
  refine HQ.out.mono ?_
  rintro e w10 ⟨A10, c10, rfl, hK, hc, hL, _⟩
  have HL10 := Aside0.mk hL
  have HK10 := Aside0.mk hK
  clear hL hK HQ HL9
  go_wp2_with fail
  refine (first_ w w10 HL10.out.2.2).mono ?_
  rintro e w11 ⟨rfl, hb⟩
  have HL11 := Aside0.mk (HL10.out.below hb)
  have HK11 := Aside0.mk (Kd.C_below HK10.out hb)
  clear hb HL10 HK10
  go_wp2_with fail
  have hC := Holds_L 1 HL11.out
  rw [told1] at hC
  refine hC.mono ?_
  clear hC
  rintro e w12 ⟨rfl, hL, hb⟩
  have HL12 := Aside0.mk hL
  have HK12 := Aside0.mk (Kd.C_below HK11.out hb)
  clear hL hb HL11 HK11
  obtain ⟨ad, rfl, q0, q1⟩ := at_T67 HK12.out 0 (by decide) (by simp)
  simp only [Int.toNat_zero, Nat.zero_mul, Addr.add_zero'] at q0 q1
  replace q0 : w12.cell? ad = some (.int .i64 1) := q0
  replace q1 : w12.cell? ⟨ad.block, ad.off + 1, none⟩ = some (.int .i64 T) := q1
  simp only [List.length_cons, List.length_nil] at *
  go_wp2_with fail
  have hC := Leave_L 2 HL12.out (by simp)
  rw [HV.out] at hC
  refine hC.mono ?_
  clear hC
  rintro e w13 ⟨A13, c13, rfl, hK, hc, hL⟩
  have HL13 := Aside0.mk (hL.alloc (.cells #[.int .i64 1] 3))
  have HI := Aside0.mk (Ints_same A13 c13 [1] (some ⟨w13.heap.size, 0, none⟩) 1 (w13.alloc (.cells #[.int .i64 1] 3)) (Kd.C_alloc hK _) hc (slice_one 1) (Nat.le_refl _) (by simp))
  clear hK hc hL q0 q1 HL12 HK12
  go_wp2_with fail
  refine HI.out.mono ?_
  rintro e w14 ⟨rfl, hd⟩
  obtain ⟨n14, rfl⟩ := hd.out
  have HL14 := Aside0.mk (HL13.out.below (pw_below_drewN (Below.refl _ _) n14))
  clear HI HL13 hd
  go_wp2_with fail
  have hC := Holds_L 1 HL14.out
  rw [told1] at hC
  refine hC.mono ?_
  clear hC
  rintro e w15 ⟨rfl, hL, hb⟩
  have HL15 := Aside0.mk hL
  clear hL hb HL14
  go_wp2
  go_ret
  exact ⟨rfl, HL15.out.2.2⟩
set_option maxHeartbeats 8000000 in
set_option maxRecDepth 100000 in
theorem turns_d (a b m T : Int) (w : World) (ha : 1 ≤ a ∧ a ≤ 5) (hb : 1 ≤ b ∧ b ≤ 5) (hm : 1 ≤ m ∧ m ≤ 5) (hT : supM a m = T) (hF : fitsM a b = false)
    (x1 : askIn [] [] 1 a = (1, [⟨1, a⟩], [])) (x2 : askIn [⟨1, a⟩] [] 2 b = (2, [⟨1, a⟩], [⟨2, b⟩])) (x3 : askIn [⟨1, a⟩] [⟨2, b⟩] 3 5 = (2, [⟨1, a⟩], [⟨2, b⟩, ⟨3, 5⟩])) (x4 : askIn [⟨1, a⟩] [⟨2, b⟩, ⟨3, 5⟩] 1 m = (1, [⟨1, T⟩], [⟨2, b⟩, ⟨3, 5⟩])) (hTa : (T == a) = true) :
    Calls Try.prog 8 #[.int .i64 a, .int .i64 b, .int .i64 m] w fun e w' => e = .returned (.bool true) ∧ Below w.heap.size w w' := by
  have p1 : decide (a < 1) = false := decide_eq_false (by omega)
  have p2 : decide (a > 5) = false := decide_eq_false (by omega)
  have p3 : decide (b < 1) = false := decide_eq_false (by omega)
  have p4 : decide (b > 5) = false := decide_eq_false (by omega)
  have p5 : decide (m < 1) = false := decide_eq_false (by omega)
  have p6 : decide (m > 5) = false := decide_eq_false (by omega)
  have s1 : (T == T) = true := beq_self_eq_true T
  have s2 : (a == a) = true := beq_self_eq_true a
  have HX := Aside0.mk (And.intro x1 (And.intro x2 (And.intro x3 x4)))
  clear x1 x2 x3 x4 ha hb hm
  go_enter Try.func8, Try.ntmps8
  go_wp2_with fail
  refine (first_ w w (Below.refl _ _)).mono ?_
  rintro e w1 ⟨rfl, hb⟩
  have HB := Aside0.mk hb
  clear hb
  go_wp2_with fail
  refine (New_L w w1 HB.out).mono ?_
  rintro e w2 ⟨rfl, hL, _⟩
  have HL2 := Aside0.mk hL
  clear hL HB
  generalize hB : w1.heap.size = B at HL2 ⊢
  clear hB
  go_wp2_with fail
  have hA := Ask_L 1 a HL2.out (by simp) (by simp)
  rw [HX.out.1] at hA
  refine hA.mono ?_
  clear hA
  rintro e w3 ⟨rfl, hL⟩
  have HL3 := Aside0.mk hL
  clear hL HL2
  go_wp2_with fail
  have hA := Ask_L 2 b HL3.out (by simp) (by simp)
  rw [HX.out.2.1] at hA
  refine hA.mono ?_
  clear hA
  rintro e w4 ⟨rfl, hL⟩
  have HL4 := Aside0.mk hL
  clear hL HL3
  go_wp2_with fail
  have hC := Fits_ a b w4
  rw [hF] at hC
  refine hC.mono ?_
  clear hC
  rintro e w5 ⟨rfl, hd⟩
  obtain ⟨n5, rfl⟩ := hd
  have HL5 := Aside0.mk (HL4.out.below (pw_below_drewN (Below.refl _ _) n5))
  clear HL4
  go_wp2_with fail
  have hA := Ask_L 3 5 HL5.out (by simp) (by simp)
  rw [HX.out.2.2.1] at hA
  refine hA.mono ?_
  clear hA
  rintro e w6 ⟨rfl, hL⟩
  have HL6 := Aside0.mk hL
  clear hL HL5
  go_wp2_with fail
  have hC := Sup_ a m _ 2 (w6.alloc (.cells #[.int .i64 a, .int .i64 m] 3)) (slice_two a m) (Nat.le_refl _)
  rw [hT] at hC
  refine hC.mono ?_
  clear hC
  rintro e w7 ⟨rfl, hd⟩
  obtain ⟨n7, rfl⟩ := hd
  have HL7 := Aside0.mk ((HL6.out.alloc (.cells #[.int .i64 a, .int .i64 m] 3)).below (pw_below_drewN (Below.refl _ _) n7))
  clear HL6
  generalize (w6.alloc (.cells #[.int .i64 a, .int .i64 m] 3)).drewN n7 = w7 at HL7 ⊢
  go_wp2_with fail
  have hA := Ask_L 1 m HL7.out (by simp) (by simp)
  rw [HX.out.2.2.2] at hA
  refine hA.mono ?_
  clear hA
  rintro e w8 ⟨rfl, hL⟩
  have HL8 := Aside0.mk hL
  clear hL HL7
  go_wp2_with fail
  have HQ := Aside0.mk (Queue_L HL8.out (by simp))
  refine HQ.out.mono ?_
  rintro e w10 ⟨A10, c10, rfl, hK, hc, hL, _⟩
  have HL10 := Aside0.mk hL
  have HK10 := Aside0.mk hK
  clear hL hK HQ HL8
  go_wp2_with fail
  refine (first_ w w10 HL10.out.2.2).mono ?_
  rintro e w11 ⟨rfl, hb⟩
  have HL11 := Aside0.mk (HL10.out.below hb)
  have HK11 := Aside0.mk (Kd.C_below HK10.out hb)
  clear hb HL10 HK10
  go_wp2_with fail
  have hC := Holds_L 1 HL11.out
  rw [told1] at hC
  refine hC.mono ?_
  clear hC
  rintro e w12 ⟨rfl, hL, hb⟩
  have HL12 := Aside0.mk hL
  have HK12 := Aside0.mk (Kd.C_below HK11.out hb)
  clear hL hb HL11 HK11
  obtain ⟨ad, rfl, q0, q1⟩ := at_T67 HK12.out 0 (by decide) (by simp)
  simp only [Int.toNat_zero, Nat.zero_mul, Addr.add_zero'] at q0 q1
  replace q0 : w12.cell? ad = some (.int .i64 2) := q0
  replace q1 : w12.cell? ⟨ad.block, ad.off + 1, none⟩ = some (.int .i64 b) := q1
  simp only [List.length_cons, List.length_nil] at *
  go_wp2
  go_ret
  exact ⟨rfl, HL12.out.2.2⟩
set_option maxHeartbeats 8000000 in
set_option maxRecDepth 100000 in
theorem turns_e (a b m T : Int) (w : World) (ha : 1 ≤ a ∧ a ≤ 5) (hb : 1 ≤ b ∧ b ≤ 5) (hm : 1 ≤ m ∧ m ≤ 5) (hT : supM a m = T) (hF : fitsM a b = false)
    (x1 : askIn [] [] 1 a = (1, [⟨1, a⟩], [])) (x2 : askIn [⟨1, a⟩] [] 2 b = (2, [⟨1, a⟩], [⟨2, b⟩])) (x3 : askIn [⟨1, a⟩] [⟨2, b⟩] 3 5 = (2, [⟨1, a⟩], [⟨2, b⟩, ⟨3, 5⟩])) (x4 : askIn [⟨1, a⟩] [⟨2, b⟩, ⟨3, 5⟩] 1 m = (1, [⟨1, T⟩], [⟨2, b⟩, ⟨3, 5⟩])) (hTa : (T == a) = false) :
    Calls Try.prog 8 #[.int .i64 a, .int .i64 b, .int .i64 m] w fun e w' => e = .returned (.bool true) ∧ Below w.heap.size w w' := by
  have p1 : decide (a < 1) = false := decide_eq_false (by omega)
  have p2 : decide (a > 5) = false := decide_eq_false (by omega)
  have p3 : decide (b < 1) = false := decide_eq_false (by omega)
  have p4 : decide (b > 5) = false := decide_eq_false (by omega)
  have p5 : decide (m < 1) = false := decide_eq_false (by omega)
  have p6 : decide (m > 5) = false := decide_eq_false (by omega)
  have s1 : (T == T) = true := beq_self_eq_true T
  have s2 : (a == a) = true := beq_self_eq_true a
  have HX := Aside0.mk (And.intro x1 (And.intro x2 (And.intro x3 x4)))
  clear x1 x2 x3 x4 ha hb hm
  go_enter Try.func8, Try.ntmps8
  go_wp2_with fail
  refine (first_ w w (Below.refl _ _)).mono ?_
  rintro e w1 ⟨rfl, hb⟩
  have HB := Aside0.mk hb
  clear hb
  go_wp2_with fail
  refine (New_L w w1 HB.out).mono ?_
  rintro e w2 ⟨rfl, hL, _⟩
  have HL2 := Aside0.mk hL
  clear hL HB
  generalize hB : w1.heap.size = B at HL2 ⊢
  clear hB
  go_wp2_with fail
  have hA := Ask_L 1 a HL2.out (by simp) (by simp)
  rw [HX.out.1] at hA
  refine hA.mono ?_
  clear hA
  rintro e w3 ⟨rfl, hL⟩
  have HL3 := Aside0.mk hL
  clear hL HL2
  go_wp2_with fail
  have hA := Ask_L 2 b HL3.out (by simp) (by simp)
  rw [HX.out.2.1] at hA
  refine hA.mono ?_
  clear hA
  rintro e w4 ⟨rfl, hL⟩
  have HL4 := Aside0.mk hL
  clear hL HL3
  go_wp2_with fail
  have hC := Fits_ a b w4
  rw [hF] at hC
  refine hC.mono ?_
  clear hC
  rintro e w5 ⟨rfl, hd⟩
  obtain ⟨n5, rfl⟩ := hd
  have HL5 := Aside0.mk (HL4.out.below (pw_below_drewN (Below.refl _ _) n5))
  clear HL4
  go_wp2_with fail
  have hA := Ask_L 3 5 HL5.out (by simp) (by simp)
  rw [HX.out.2.2.1] at hA
  refine hA.mono ?_
  clear hA
  rintro e w6 ⟨rfl, hL⟩
  have HL6 := Aside0.mk hL
  clear hL HL5
  go_wp2_with fail
  have hC := Sup_ a m _ 2 (w6.alloc (.cells #[.int .i64 a, .int .i64 m] 3)) (slice_two a m) (Nat.le_refl _)
  rw [hT] at hC
  refine hC.mono ?_
  clear hC
  rintro e w7 ⟨rfl, hd⟩
  obtain ⟨n7, rfl⟩ := hd
  have HL7 := Aside0.mk ((HL6.out.alloc (.cells #[.int .i64 a, .int .i64 m] 3)).below (pw_below_drewN (Below.refl _ _) n7))
  clear HL6
  generalize (w6.alloc (.cells #[.int .i64 a, .int .i64 m] 3)).drewN n7 = w7 at HL7 ⊢
  go_wp2_with fail
  have hA := Ask_L 1 m HL7.out (by simp) (by simp)
  rw [HX.out.2.2.2] at hA
  refine hA.mono ?_
  clear hA
  rintro e w8 ⟨rfl, hL⟩
  have HL8 := Aside0.mk hL
  clear hL HL7
  go_wp2_with fail
  have HQ := Aside0.mk (Queue_L HL8.out (by simp))
  refine HQ.out.mono ?_
  rintro e w10 ⟨A10, c10, rfl, hK, hc, hL, _⟩
  have HL10 := Aside0.mk hL
  have HK10 := Aside0.mk hK
  clear hL hK HQ HL8
  go_wp2_with fail
  refine (first_ w w10 HL10.out.2.2).mono ?_
  rintro e w11 ⟨rfl, hb⟩
  have HL11 := Aside0.mk (HL10.out.below hb)
  have HK11 := Aside0.mk (Kd.C_below HK10.out hb)
  clear hb HL10 HK10
  go_wp2_with fail
  have hC := Holds_L 1 HL11.out
  rw [told1] at hC
  refine hC.mono ?_
  clear hC
  rintro e w12 ⟨rfl, hL, hb⟩
  have HL12 := Aside0.mk hL
  have HK12 := Aside0.mk (Kd.C_below HK11.out hb)
  clear hL hb HL11 HK11
  obtain ⟨ad, rfl, q0, q1⟩ := at_T67 HK12.out 0 (by decide) (by simp)
  simp only [Int.toNat_zero, Nat.zero_mul, Addr.add_zero'] at q0 q1
  replace q0 : w12.cell? ad = some (.int .i64 2) := q0
  replace q1 : w12.cell? ⟨ad.block, ad.off + 1, none⟩ = some (.int .i64 b) := q1
  simp only [List.length_cons, List.length_nil] at *
  go_wp2
  go_ret
  exact ⟨rfl, HL12.out.2.2⟩
theorem up_of {a : Int} (h : 1 ≤ a ∧ a ≤ 5) : ∃ n : Fin 5, a = up n := ⟨⟨(a - 1).toNat, by omega⟩, by unfold up; simp; omega⟩
theorem turns_walk (a0 a1 a2 : Int) (w : World) : Calls Try.prog 8 #[.int .i64 a0, .int .i64 a1, .int .i64 a2] w fun e w' => e = .returned (.bool true) ∧ Below w.heap.size w w' := by
  by_cases h : a0 < 1 ∨ 5 < a0 ∨ a1 < 1 ∨ 5 < a1 ∨ a2 < 1 ∨ 5 < a2
  · exact turns_out a0 a1 a2 w h
  · have h0 : 1 ≤ a0 ∧ a0 ≤ 5 := by omega
    have h1 : 1 ≤ a1 ∧ a1 ≤ 5 := by omega
    have h2 : 1 ≤ a2 ∧ a2 ≤ 5 := by omega
    clear h
    obtain ⟨a, ea⟩ := up_of h0
    obtain ⟨b, eb⟩ := up_of h1
    obtain ⟨m, em⟩ := up_of h2
    have x1 := t1f a
    rcases hF : fitsM (up a) (up b) with _ | _
    · have x2 := t3f a b hF
      have x4 := t6f a b m hF
      rw [← ea, ← eb] at hF x2
      rw [← ea] at x1
      rw [← ea, ← eb, ← em] at x4
      rcases hTa : (supM a0 a2 == a0) with _ | _
      · exact turns_e a0 a1 a2 _ w h0 h1 h2 rfl hF x1 x2.1 x2.2 x4 hTa
      · exact turns_d a0 a1 a2 _ w h0 h1 h2 rfl hF x1 x2.1 x2.2 x4 hTa
    · have x2 := t2f a b hF
      have x4 := t4f a b m hF
      have x5 := t5f a b m hF
      have x7 := t7f a b m hF
      rw [← ea, ← eb] at hF x2
      rw [← ea] at x1
      rw [← ea, ← eb, ← em] at x4 x5 x7
      rcases hTa : (supM a0 a2 == a0) with _ | _
      · rw [hTa, Bool.false_or] at x4 x5 x7
        rcases hTb : fitsM (supM a0 a2) a1 with _ | _
        · exact turns_c a0 a1 a2 _ w h0 h1 h2 rfl hF x1 x2.1 x2.2 (x5 hTb) hTa hTb ⟨x7 hTb⟩
        · exact turns_b a0 a1 a2 _ w h0 h1 h2 rfl hF x1 x2.1 x2.2 (x4 hTb) hTa hTb
      · exact turns_a a0 a1 a2 _ w h0 h1 h2 rfl hF x1 x2.1 x2.2 (x4 (by rw [hTa]; rfl)) hTa (by rw [eq_of_beq hTa]; exact hF)
end Go.Proofs.Ytagdgkimjgomlaa.Ln
