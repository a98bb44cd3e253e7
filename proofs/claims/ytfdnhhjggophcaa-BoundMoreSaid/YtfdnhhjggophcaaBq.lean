/- BoundPolicies: its walk. -/
import Derived.Test.YtfdnhhjggophcaaBp
import Derived.Outline
namespace Go.Proofs.Ytfdnhhjggophcaa.Bo
open Go.RowKit Go.Proofs.Ytfdnhhjggophcaa.PAb Go.Proofs.YtfdnhhjggophcaaW.PrintWords Go.Proofs.YtfdnhhjggophcaaW.PrintLast Go.Proofs.YtfdnhhjggophcaaW.PrintMore
set_option linter.unusedVariables false
set_option linter.unusedSimpArgs false
/-- THE ONE PURE STATEMENT. -/
def ltklaw21_BoundPolicies.Pure : Prop := (∃ k, ltklaw21_first.f k = some true) ∧ ∀ (a0 : Int) (l1 : List S54), 2 ≤ a0 → a0 ≤ 16 → l1.length ≤ 60 → ∃ k d v m, bound_Windows.f k 1 1 1 1 a0 0 1 9 1 0 9 0 [[l1]] = some d ∧ bound_Windows.f k 1 1 1 1 a0 0 1 9 1 0 9 1 [[l1]] = some v ∧ bound_Windows.f k 1 1 1 1 a0 0 1 9 1 0 9 2 [[l1]] = some d ∧ bound_Windows.f k 1 1 1 1 (a0 + 1) 0 1 9 1 0 9 1 [[l1]] = some m ∧ v ≤ d ∧ m > v ∧ v > 0 ∧ d ≤ 1099511627776
theorem ltklaw21_BoundPolicies.one {α : Type} {d : Kd α} (hsz : d.sz = 1) {w : World} {b : Nat} {v : Value} {x : α} (hc : w.cell? ⟨b, 0, none⟩ = some v) (hK : d.K w x [v]) : Kd.C d w (some ⟨b, 0, none⟩) 1 [x] := by
  refine ⟨rfl, by omega, fun _ => ⟨_, rfl, fun j p hj => ?_⟩⟩
  cases j with
  | succ j => simp at hj
  | zero =>
    obtain rfl : x = p := by simpa using hj
    refine ⟨[v], by rw [hsz]; rfl, hK, fun i u hu => ?_⟩
    cases i with
    | succ i => simp at hu
    | zero =>
      obtain rfl : v = u := by simpa using hu
      rw [hsz]
      exact hc
theorem ltklaw21_BoundPolicies.arg {A1 : Option Addr} {c1 : Nat} {l1 : List S54} {W : World} {g gn : Nat} (hg : W.heap.size = gn) (BL : W.heap[g]? = some (.cells #[.slice A1 l1.length c1] 22 (0, 0))) (HR : Kd.C k54 W A1 l1.length l1) (hc1 : l1.length ≤ c1) :
    Kd.C (Kd.slice 22 (Kd.slice 54 k54)) (W.alloc (.cells #[.slice (some ⟨g, 0, none⟩) 1 1] 26)) (some ⟨gn, 0, none⟩) 1 [[l1]] := by
  subst hg
  refine ltklaw21_BoundPolicies.one rfl ((blk_cell (blk_new W _) 0).trans rfl) ⟨some ⟨g, 0, none⟩, 1, rfl, Nat.le_refl _, ?_⟩
  exact ltklaw21_BoundPolicies.one rfl ((blk_cell (blk_alloc BL _) 0).trans rfl) ⟨A1, c1, rfl, hc1, Kd.C_alloc HR _⟩
set_option maxHeartbeats 8000000 in
set_option maxRecDepth 100000 in
theorem ltklaw21_BoundPolicies.walk (P : ltklaw21_BoundPolicies.Pure) (a0 : Int) (A1 : Option Addr) (c1 : Nat) (l1 : List S54) (w : World) (hr1 : Kd.C k54 w A1 l1.length l1) (hc1 : l1.length ≤ c1) :
    Calls Try.prog 3 #[.int .i64 a0, .slice A1 l1.length c1] w fun e w' => e = .returned (.bool true) ∧ Below w.heap.size w w' := by
  obtain ⟨⟨k1, hf⟩, P2⟩ := P
  have HF := Aside0.mk (fun W => ltklaw21_first.calls k1 true W hf)
  clear hf
  by_cases g : 2 ≤ a0
  · by_cases g2 : a0 ≤ 16
    · by_cases g3 : l1.length ≤ 60
      · have hu50 := Try.underlying25
        obtain ⟨k, d, v, m, hd, hv, he, hm, q1, q2, q3, q4⟩ := P2 a0 l1 g g2 g3
        have e1 : wrap64 (a0 + 1) = a0 + 1 := by unfold wrap64; omega
        have HR1 := Aside0.mk hr1
        have HC1 := Aside0.mk hc1
        have t1 : decide (a0 < 2) = false := decide_eq_false (by omega)
        have t2 : decide (a0 > 16) = false := decide_eq_false (by omega)
        have t3 : decide ((l1.length : Int) > 60) = false := decide_eq_false (by omega)
        have t4 : decide (60 < l1.length) = false := decide_eq_false (by omega)
        have HD := Aside0.mk (fun W A hr => bound_Windows.calls k 1 1 1 1 a0 0 1 9 1 0 9 0 A 1 [[l1]] d W hr (Nat.le_refl _) hd)
        have HV := Aside0.mk (fun W A hr => bound_Windows.calls k 1 1 1 1 a0 0 1 9 1 0 9 1 A 1 [[l1]] v W hr (Nat.le_refl _) hv)
        have HE := Aside0.mk (fun W A hr => bound_Windows.calls k 1 1 1 1 a0 0 1 9 1 0 9 2 A 1 [[l1]] d W hr (Nat.le_refl _) he)
        have HM := Aside0.mk (fun W A hr => bound_Windows.calls k 1 1 1 1 (a0 + 1) 0 1 9 1 0 9 1 A 1 [[l1]] m W hr (Nat.le_refl _) hm)
        clear hr1 hc1 hd hv he hm P2 g g2 g3
        have E1 := Aside0.mk e1
        clear e1
        go_enter Try.func3, Try.ntmps3
        go_wp2_with fail
        refine (HF.out _).mono ?_
        rintro e w1 ⟨rfl, hb⟩
        have HB := Aside0.mk hb
        clear hb
        go_wp2_with fail
        have HG := Aside0.mk HB.out.size
        have BK0 := Aside0.mk (show ((w1.alloc (.cells #[.int .i64 1, .int .i64 1, .int .i64 1, .int .i64 1, .int .i64 a0, .int .i64 0, .int .i64 1, .int .i64 9, .int .i64 1, .int .i64 0, .int .i64 9, .int .i64 0] 25)).alloc (.cells #[.slice A1 l1.length c1] 22)).heap[w1.heap.size]? = some (.cells #[.int .i64 1, .int .i64 1, .int .i64 1, .int .i64 1, .int .i64 a0, .int .i64 0, .int .i64 1, .int .i64 9, .int .i64 1, .int .i64 0, .int .i64 9, .int .i64 0] 25 (0, 0)) from blk_alloc (blk_new w1 _) _)
        have BL0 := Aside0.mk (show ((w1.alloc (.cells #[.int .i64 1, .int .i64 1, .int .i64 1, .int .i64 1, .int .i64 a0, .int .i64 0, .int .i64 1, .int .i64 9, .int .i64 1, .int .i64 0, .int .i64 9, .int .i64 0] 25)).alloc (.cells #[.slice A1 l1.length c1] 22)).heap[w1.heap.size + 1]? = some (.cells #[.slice A1 l1.length c1] 22 (0, 0)) from by have := blk_new (w1.alloc (.cells #[.int .i64 1, .int .i64 1, .int .i64 1, .int .i64 1, .int .i64 a0, .int .i64 0, .int .i64 1, .int .i64 9, .int .i64 1, .int .i64 0, .int .i64 9, .int .i64 0] 25)) (.cells #[.slice A1 l1.length c1] 22); rwa [show (w1.alloc (.cells #[.int .i64 1, .int .i64 1, .int .i64 1, .int .i64 1, .int .i64 a0, .int .i64 0, .int .i64 1, .int .i64 9, .int .i64 1, .int .i64 0, .int .i64 9, .int .i64 0] 25)).heap.size = w1.heap.size + 1 from by simp] at this)
        have HB0 := Aside0.mk (below_alloc (below_alloc HB.out (.cells #[.int .i64 1, .int .i64 1, .int .i64 1, .int .i64 1, .int .i64 a0, .int .i64 0, .int .i64 1, .int .i64 9, .int .i64 1, .int .i64 0, .int .i64 9, .int .i64 0] 25)) (.cells #[.slice A1 l1.length c1] 22))
        refine (HD.out _ _ (ltklaw21_BoundPolicies.arg (by simp) BL0.out (Kd.C_below HR1.out HB0.out) HC1.out)).mono ?_
        rintro e w2 ⟨rfl, hb⟩
        have BK2 := Aside0.mk (blk_below (blk_alloc BK0.out _) hb)
        have BL2 := Aside0.mk (blk_below (blk_alloc BL0.out _) hb)
        have HB2 := Aside0.mk (below_then (below_alloc HB0.out _) (below_alloc HB0.out _).size hb)
        clear hb BK0 BL0 HB0
        have hz0 : w2.cell? ⟨w1.heap.size, 0, none⟩ = some (.int .i64 1) := (blk_cell BK2.out 0).trans rfl
        have hf0 : w2.frozen? ⟨w1.heap.size, 0, none⟩ = false := blk_frozen BK2.out 0
        have hz1 : w2.cell? ⟨w1.heap.size, 1, none⟩ = some (.int .i64 1) := (blk_cell BK2.out 1).trans rfl
        have hf1 : w2.frozen? ⟨w1.heap.size, 1, none⟩ = false := blk_frozen BK2.out 1
        have hz2 : w2.cell? ⟨w1.heap.size, 2, none⟩ = some (.int .i64 1) := (blk_cell BK2.out 2).trans rfl
        have hf2 : w2.frozen? ⟨w1.heap.size, 2, none⟩ = false := blk_frozen BK2.out 2
        have hz3 : w2.cell? ⟨w1.heap.size, 3, none⟩ = some (.int .i64 1) := (blk_cell BK2.out 3).trans rfl
        have hf3 : w2.frozen? ⟨w1.heap.size, 3, none⟩ = false := blk_frozen BK2.out 3
        have hz4 : w2.cell? ⟨w1.heap.size, 4, none⟩ = some (.int .i64 a0) := (blk_cell BK2.out 4).trans rfl
        have hf4 : w2.frozen? ⟨w1.heap.size, 4, none⟩ = false := blk_frozen BK2.out 4
        have hz5 : w2.cell? ⟨w1.heap.size, 5, none⟩ = some (.int .i64 0) := (blk_cell BK2.out 5).trans rfl
        have hf5 : w2.frozen? ⟨w1.heap.size, 5, none⟩ = false := blk_frozen BK2.out 5
        have hz6 : w2.cell? ⟨w1.heap.size, 6, none⟩ = some (.int .i64 1) := (blk_cell BK2.out 6).trans rfl
        have hf6 : w2.frozen? ⟨w1.heap.size, 6, none⟩ = false := blk_frozen BK2.out 6
        have hz7 : w2.cell? ⟨w1.heap.size, 7, none⟩ = some (.int .i64 9) := (blk_cell BK2.out 7).trans rfl
        have hf7 : w2.frozen? ⟨w1.heap.size, 7, none⟩ = false := blk_frozen BK2.out 7
        have hz8 : w2.cell? ⟨w1.heap.size, 8, none⟩ = some (.int .i64 1) := (blk_cell BK2.out 8).trans rfl
        have hf8 : w2.frozen? ⟨w1.heap.size, 8, none⟩ = false := blk_frozen BK2.out 8
        have hz9 : w2.cell? ⟨w1.heap.size, 9, none⟩ = some (.int .i64 0) := (blk_cell BK2.out 9).trans rfl
        have hf9 : w2.frozen? ⟨w1.heap.size, 9, none⟩ = false := blk_frozen BK2.out 9
        have hz10 : w2.cell? ⟨w1.heap.size, 10, none⟩ = some (.int .i64 9) := (blk_cell BK2.out 10).trans rfl
        have hf10 : w2.frozen? ⟨w1.heap.size, 10, none⟩ = false := blk_frozen BK2.out 10
        have hz11 : w2.cell? ⟨w1.heap.size, 11, none⟩ = some (.int .i64 0) := (blk_cell BK2.out 11).trans rfl
        have hf11 : w2.frozen? ⟨w1.heap.size, 11, none⟩ = false := blk_frozen BK2.out 11
        go_wp2_with fail
        have BK2_1 := Aside0.mk (show (w2.setCell ⟨w1.heap.size, 11, none⟩ (.int .i64 1)).heap[w1.heap.size]? = some (.cells #[.int .i64 1, .int .i64 1, .int .i64 1, .int .i64 1, .int .i64 a0, .int .i64 0, .int .i64 1, .int .i64 9, .int .i64 1, .int .i64 0, .int .i64 9, .int .i64 1] 25 (0, 0)) from blk_put BK2.out 11 (.int .i64 1) rfl)
        have BL2_1 := Aside0.mk (show (w2.setCell ⟨w1.heap.size, 11, none⟩ (.int .i64 1)).heap[w1.heap.size + 1]? = some (.cells #[.slice A1 l1.length c1] 22 (0, 0)) from blk_far BL2.out (p := ⟨w1.heap.size, 11, none⟩) (by simp) (.int .i64 1))
        have HB2_1 := Aside0.mk (show Below w.heap.size w (w2.setCell ⟨w1.heap.size, 11, none⟩ (.int .i64 1)) from HB2.out.setCell (p := ⟨w1.heap.size, 11, none⟩) HG.out (.int .i64 1))
        refine (HV.out _ _ (ltklaw21_BoundPolicies.arg (by simp) BL2_1.out (Kd.C_below HR1.out HB2_1.out) HC1.out)).mono ?_
        rintro e w3 ⟨rfl, hb⟩
        clear hz0 hf0 hz1 hf1 hz2 hf2 hz3 hf3 hz4 hf4 hz5 hf5 hz6 hf6 hz7 hf7 hz8 hf8 hz9 hf9 hz10 hf10 hz11 hf11
        have BK3 := Aside0.mk (blk_below (blk_alloc BK2_1.out _) hb)
        have BL3 := Aside0.mk (blk_below (blk_alloc BL2_1.out _) hb)
        have HB3 := Aside0.mk (below_then (below_alloc HB2_1.out _) (below_alloc HB2_1.out _).size hb)
        clear hb BK2_1 BL2_1 HB2_1
        have hz0 : w3.cell? ⟨w1.heap.size, 0, none⟩ = some (.int .i64 1) := (blk_cell BK3.out 0).trans rfl
        have hf0 : w3.frozen? ⟨w1.heap.size, 0, none⟩ = false := blk_frozen BK3.out 0
        have hz1 : w3.cell? ⟨w1.heap.size, 1, none⟩ = some (.int .i64 1) := (blk_cell BK3.out 1).trans rfl
        have hf1 : w3.frozen? ⟨w1.heap.size, 1, none⟩ = false := blk_frozen BK3.out 1
        have hz2 : w3.cell? ⟨w1.heap.size, 2, none⟩ = some (.int .i64 1) := (blk_cell BK3.out 2).trans rfl
        have hf2 : w3.frozen? ⟨w1.heap.size, 2, none⟩ = false := blk_frozen BK3.out 2
        have hz3 : w3.cell? ⟨w1.heap.size, 3, none⟩ = some (.int .i64 1) := (blk_cell BK3.out 3).trans rfl
        have hf3 : w3.frozen? ⟨w1.heap.size, 3, none⟩ = false := blk_frozen BK3.out 3
        have hz4 : w3.cell? ⟨w1.heap.size, 4, none⟩ = some (.int .i64 a0) := (blk_cell BK3.out 4).trans rfl
        have hf4 : w3.frozen? ⟨w1.heap.size, 4, none⟩ = false := blk_frozen BK3.out 4
        have hz5 : w3.cell? ⟨w1.heap.size, 5, none⟩ = some (.int .i64 0) := (blk_cell BK3.out 5).trans rfl
        have hf5 : w3.frozen? ⟨w1.heap.size, 5, none⟩ = false := blk_frozen BK3.out 5
        have hz6 : w3.cell? ⟨w1.heap.size, 6, none⟩ = some (.int .i64 1) := (blk_cell BK3.out 6).trans rfl
        have hf6 : w3.frozen? ⟨w1.heap.size, 6, none⟩ = false := blk_frozen BK3.out 6
        have hz7 : w3.cell? ⟨w1.heap.size, 7, none⟩ = some (.int .i64 9) := (blk_cell BK3.out 7).trans rfl
        have hf7 : w3.frozen? ⟨w1.heap.size, 7, none⟩ = false := blk_frozen BK3.out 7
        have hz8 : w3.cell? ⟨w1.heap.size, 8, none⟩ = some (.int .i64 1) := (blk_cell BK3.out 8).trans rfl
        have hf8 : w3.frozen? ⟨w1.heap.size, 8, none⟩ = false := blk_frozen BK3.out 8
        have hz9 : w3.cell? ⟨w1.heap.size, 9, none⟩ = some (.int .i64 0) := (blk_cell BK3.out 9).trans rfl
        have hf9 : w3.frozen? ⟨w1.heap.size, 9, none⟩ = false := blk_frozen BK3.out 9
        have hz10 : w3.cell? ⟨w1.heap.size, 10, none⟩ = some (.int .i64 9) := (blk_cell BK3.out 10).trans rfl
        have hf10 : w3.frozen? ⟨w1.heap.size, 10, none⟩ = false := blk_frozen BK3.out 10
        have hz11 : w3.cell? ⟨w1.heap.size, 11, none⟩ = some (.int .i64 1) := (blk_cell BK3.out 11).trans rfl
        have hf11 : w3.frozen? ⟨w1.heap.size, 11, none⟩ = false := blk_frozen BK3.out 11
        go_wp2_with fail
        have BK3_1 := Aside0.mk (show (w3.setCell ⟨w1.heap.size, 11, none⟩ (.int .i64 2)).heap[w1.heap.size]? = some (.cells #[.int .i64 1, .int .i64 1, .int .i64 1, .int .i64 1, .int .i64 a0, .int .i64 0, .int .i64 1, .int .i64 9, .int .i64 1, .int .i64 0, .int .i64 9, .int .i64 2] 25 (0, 0)) from blk_put BK3.out 11 (.int .i64 2) rfl)
        have BL3_1 := Aside0.mk (show (w3.setCell ⟨w1.heap.size, 11, none⟩ (.int .i64 2)).heap[w1.heap.size + 1]? = some (.cells #[.slice A1 l1.length c1] 22 (0, 0)) from blk_far BL3.out (p := ⟨w1.heap.size, 11, none⟩) (by simp) (.int .i64 2))
        have HB3_1 := Aside0.mk (show Below w.heap.size w (w3.setCell ⟨w1.heap.size, 11, none⟩ (.int .i64 2)) from HB3.out.setCell (p := ⟨w1.heap.size, 11, none⟩) HG.out (.int .i64 2))
        refine (HE.out _ _ (ltklaw21_BoundPolicies.arg (by simp) BL3_1.out (Kd.C_below HR1.out HB3_1.out) HC1.out)).mono ?_
        rintro e w4 ⟨rfl, hb⟩
        clear hz0 hf0 hz1 hf1 hz2 hf2 hz3 hf3 hz4 hf4 hz5 hf5 hz6 hf6 hz7 hf7 hz8 hf8 hz9 hf9 hz10 hf10 hz11 hf11
        have BK4 := Aside0.mk (blk_below (blk_alloc BK3_1.out _) hb)
        have BL4 := Aside0.mk (blk_below (blk_alloc BL3_1.out _) hb)
        have HB4 := Aside0.mk (below_then (below_alloc HB3_1.out _) (below_alloc HB3_1.out _).size hb)
        clear hb BK3_1 BL3_1 HB3_1
        have hz0 : w4.cell? ⟨w1.heap.size, 0, none⟩ = some (.int .i64 1) := (blk_cell BK4.out 0).trans rfl
        have hf0 : w4.frozen? ⟨w1.heap.size, 0, none⟩ = false := blk_frozen BK4.out 0
        have hz1 : w4.cell? ⟨w1.heap.size, 1, none⟩ = some (.int .i64 1) := (blk_cell BK4.out 1).trans rfl
        have hf1 : w4.frozen? ⟨w1.heap.size, 1, none⟩ = false := blk_frozen BK4.out 1
        have hz2 : w4.cell? ⟨w1.heap.size, 2, none⟩ = some (.int .i64 1) := (blk_cell BK4.out 2).trans rfl
        have hf2 : w4.frozen? ⟨w1.heap.size, 2, none⟩ = false := blk_frozen BK4.out 2
        have hz3 : w4.cell? ⟨w1.heap.size, 3, none⟩ = some (.int .i64 1) := (blk_cell BK4.out 3).trans rfl
        have hf3 : w4.frozen? ⟨w1.heap.size, 3, none⟩ = false := blk_frozen BK4.out 3
        have hz4 : w4.cell? ⟨w1.heap.size, 4, none⟩ = some (.int .i64 a0) := (blk_cell BK4.out 4).trans rfl
        have hf4 : w4.frozen? ⟨w1.heap.size, 4, none⟩ = false := blk_frozen BK4.out 4
        have hz5 : w4.cell? ⟨w1.heap.size, 5, none⟩ = some (.int .i64 0) := (blk_cell BK4.out 5).trans rfl
        have hf5 : w4.frozen? ⟨w1.heap.size, 5, none⟩ = false := blk_frozen BK4.out 5
        have hz6 : w4.cell? ⟨w1.heap.size, 6, none⟩ = some (.int .i64 1) := (blk_cell BK4.out 6).trans rfl
        have hf6 : w4.frozen? ⟨w1.heap.size, 6, none⟩ = false := blk_frozen BK4.out 6
        have hz7 : w4.cell? ⟨w1.heap.size, 7, none⟩ = some (.int .i64 9) := (blk_cell BK4.out 7).trans rfl
        have hf7 : w4.frozen? ⟨w1.heap.size, 7, none⟩ = false := blk_frozen BK4.out 7
        have hz8 : w4.cell? ⟨w1.heap.size, 8, none⟩ = some (.int .i64 1) := (blk_cell BK4.out 8).trans rfl
        have hf8 : w4.frozen? ⟨w1.heap.size, 8, none⟩ = false := blk_frozen BK4.out 8
        have hz9 : w4.cell? ⟨w1.heap.size, 9, none⟩ = some (.int .i64 0) := (blk_cell BK4.out 9).trans rfl
        have hf9 : w4.frozen? ⟨w1.heap.size, 9, none⟩ = false := blk_frozen BK4.out 9
        have hz10 : w4.cell? ⟨w1.heap.size, 10, none⟩ = some (.int .i64 9) := (blk_cell BK4.out 10).trans rfl
        have hf10 : w4.frozen? ⟨w1.heap.size, 10, none⟩ = false := blk_frozen BK4.out 10
        have hz11 : w4.cell? ⟨w1.heap.size, 11, none⟩ = some (.int .i64 2) := (blk_cell BK4.out 11).trans rfl
        have hf11 : w4.frozen? ⟨w1.heap.size, 11, none⟩ = false := blk_frozen BK4.out 11
        go_wp2_with fail
        rw [E1.out]
        have BK4_1 := Aside0.mk (show (w4.setCell ⟨w1.heap.size, 11, none⟩ (.int .i64 1)).heap[w1.heap.size]? = some (.cells #[.int .i64 1, .int .i64 1, .int .i64 1, .int .i64 1, .int .i64 a0, .int .i64 0, .int .i64 1, .int .i64 9, .int .i64 1, .int .i64 0, .int .i64 9, .int .i64 1] 25 (0, 0)) from blk_put BK4.out 11 (.int .i64 1) rfl)
        have BL4_1 := Aside0.mk (show (w4.setCell ⟨w1.heap.size, 11, none⟩ (.int .i64 1)).heap[w1.heap.size + 1]? = some (.cells #[.slice A1 l1.length c1] 22 (0, 0)) from blk_far BL4.out (p := ⟨w1.heap.size, 11, none⟩) (by simp) (.int .i64 1))
        have HB4_1 := Aside0.mk (show Below w.heap.size w (w4.setCell ⟨w1.heap.size, 11, none⟩ (.int .i64 1)) from HB4.out.setCell (p := ⟨w1.heap.size, 11, none⟩) HG.out (.int .i64 1))
        have BK4_2 := Aside0.mk (show ((w4.setCell ⟨w1.heap.size, 11, none⟩ (.int .i64 1)).setCell ⟨w1.heap.size, 4, none⟩ (.int .i64 (a0 + 1))).heap[w1.heap.size]? = some (.cells #[.int .i64 1, .int .i64 1, .int .i64 1, .int .i64 1, .int .i64 (a0 + 1), .int .i64 0, .int .i64 1, .int .i64 9, .int .i64 1, .int .i64 0, .int .i64 9, .int .i64 1] 25 (0, 0)) from blk_put BK4_1.out 4 (.int .i64 (a0 + 1)) rfl)
        have BL4_2 := Aside0.mk (show ((w4.setCell ⟨w1.heap.size, 11, none⟩ (.int .i64 1)).setCell ⟨w1.heap.size, 4, none⟩ (.int .i64 (a0 + 1))).heap[w1.heap.size + 1]? = some (.cells #[.slice A1 l1.length c1] 22 (0, 0)) from blk_far BL4_1.out (p := ⟨w1.heap.size, 4, none⟩) (by simp) (.int .i64 (a0 + 1)))
        have HB4_2 := Aside0.mk (show Below w.heap.size w ((w4.setCell ⟨w1.heap.size, 11, none⟩ (.int .i64 1)).setCell ⟨w1.heap.size, 4, none⟩ (.int .i64 (a0 + 1))) from HB4_1.out.setCell (p := ⟨w1.heap.size, 4, none⟩) HG.out (.int .i64 (a0 + 1)))
        refine (HM.out _ _ (ltklaw21_BoundPolicies.arg (by simp) BL4_2.out (Kd.C_below HR1.out HB4_2.out) HC1.out)).mono ?_
        rintro e w5 ⟨rfl, hb⟩
        clear hz0 hf0 hz1 hf1 hz2 hf2 hz3 hf3 hz4 hf4 hz5 hf5 hz6 hf6 hz7 hf7 hz8 hf8 hz9 hf9 hz10 hf10 hz11 hf11
        have BK5 := Aside0.mk (blk_below (blk_alloc BK4_2.out _) hb)
        have BL5 := Aside0.mk (blk_below (blk_alloc BL4_2.out _) hb)
        have HB5 := Aside0.mk (below_then (below_alloc HB4_2.out _) (below_alloc HB4_2.out _).size hb)
        clear hb BK4_2 BL4_2 HB4_2
        have x1 : decide (v ≤ d) = true := decide_eq_true q1
        have x2 : decide (m > v) = true := decide_eq_true q2
        have x3 : decide (v > 0) = true := decide_eq_true q3
        have x4 : decide (d ≤ 1099511627776) = true := decide_eq_true q4
        go_wp2_with fail
        refine (HF.out _).mono ?_
        rintro e w6 ⟨rfl, hb⟩
        have HB6 := Aside0.mk (below_then HB5.out HB5.out.size hb)
        clear hb
        go_wp2
        go_ret
        exact ⟨rfl, HB6.out⟩
      · have t1 : decide (a0 < 2) = false := decide_eq_false (by omega)
        have t2 : decide (a0 > 16) = false := decide_eq_false (by omega)
        have t3 : decide ((l1.length : Int) > 60) = true := decide_eq_true (by omega)
        have t4 : decide (60 < l1.length) = true := decide_eq_true (by omega)
        clear g g2 g3
        go_enter Try.func3, Try.ntmps3
        go_wp2_with fail
        refine (HF.out _).mono ?_
        rintro e w1 ⟨rfl, hb⟩
        have HB := Aside0.mk hb
        clear hb
        go_wp2_with fail
        refine (HF.out _).mono ?_
        rintro e w2 ⟨rfl, hb⟩
        have HB2 := Aside0.mk (below_then HB.out HB.out.size hb)
        clear hb
        go_wp2
        go_ret
        exact ⟨rfl, HB2.out⟩
    · have t1 : decide (a0 < 2) = false := decide_eq_false (by omega)
      have t2 : decide (a0 > 16) = true := decide_eq_true (by omega)
      clear g g2
      go_enter Try.func3, Try.ntmps3
      go_wp2_with fail
      refine (HF.out _).mono ?_
      rintro e w1 ⟨rfl, hb⟩
      have HB := Aside0.mk hb
      clear hb
      go_wp2_with fail
      refine (HF.out _).mono ?_
      rintro e w2 ⟨rfl, hb⟩
      have HB2 := Aside0.mk (below_then HB.out HB.out.size hb)
      clear hb
      go_wp2
      go_ret
      exact ⟨rfl, HB2.out⟩
  · have t1 : decide (a0 < 2) = true := decide_eq_true (by omega)
    clear g
    go_enter Try.func3, Try.ntmps3
    go_wp2_with fail
    refine (HF.out _).mono ?_
    rintro e w1 ⟨rfl, hb⟩
    have HB := Aside0.mk hb
    clear hb
    go_wp2_with fail
    refine (HF.out _).mono ?_
    rintro e w2 ⟨rfl, hb⟩
    have HB2 := Aside0.mk (below_then HB.out HB.out.size hb)
    clear hb
    go_wp2
    go_ret
    exact ⟨rfl, HB2.out⟩
theorem pol_pure : ltklaw21_BoundPolicies.Pure := by
  refine ⟨⟨60, first_at⟩, fun a0 l1 h1 h2 h3 => ?_⟩
  have hs := sumS_in l1
  obtain ⟨p1, p2, p3, p4, p5⟩ := pol_law (stS l1) a0 (by unfold stS; omega) (by unfold stS; omega) h1 h2
  have hx : maxS [l1] 8 = stS l1 := by
    show mx 8 (stS l1) = stS l1
    have := mx_ge 8 (stS l1)
    unfold stS at *
    omega
  have key : ∀ t p : Int, 1 ≤ t → t ≤ 64 → 0 ≤ p → p ≤ 2 → bound_Windows.f 4000 1 1 1 1 t 0 1 9 1 0 9 p [[l1]] = some (winS (stS l1) 1 t p) := by
    intro t p t1 t2 p1 p2
    have hc : shape_Check.f 1 1 1 1 t 0 1 9 1 0 9 p = some 0 := by
      unfold shape_Check.f
      refine congrArg some (shape_Check.good_of ?_)
      simp [shape_Check.chkAll, shape_Check.chkN, shape_Check.chkLo, shape_Check.chkHi, t1, t2, p1, p2]
    have := win_f 1 1 1 1 t 0 1 9 1 0 9 p [l1] (by simp; omega) (by simp) t1 t2 hc (k := 4000) (by omega)
    rw [hx] at this
    exact this
  refine ⟨4000, winS (stS l1) 1 a0 0, winS (stS l1) 1 a0 1, winS (stS l1) 1 (a0 + 1) 1, key _ _ (by omega) (by omega) (by omega) (by omega), key _ _ (by omega) (by omega) (by omega) (by omega), ?_, key _ _ (by omega) (by omega) (by omega) (by omega), p1, p3, p4, p5⟩
  rw [p2]
  exact key _ _ (by omega) (by omega) (by omega) (by omega)
theorem pol_walk (a0 : Int) (A1 : Option Addr) (c1 : Nat) (l1 : List S54) (w : World) (hr1 : Kd.C k54 w A1 l1.length l1) (hc1 : l1.length ≤ c1) (hm : l1.length ≤ maxLen) :
    Calls Try.prog 3 #[.int .i64 a0, .slice A1 l1.length c1] w fun e w' => e = .returned (.bool true) ∧ Below w.heap.size w w' :=
  ltklaw21_BoundPolicies.walk pol_pure a0 A1 c1 l1 w hr1 hc1
end Go.Proofs.Ytfdnhhjggophcaa.Bo
