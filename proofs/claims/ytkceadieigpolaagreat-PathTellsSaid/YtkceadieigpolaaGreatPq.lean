import Derived.Test.YtkceadieigpolaaGreatPs
namespace Go.Proofs.YtkceadieigpolaaGreat.Ln
open Go.RowKit Go.Proofs.YtkceadieigpolaaGreatW.PrintWords Go.Proofs.YtkceadieigpolaaGreatW.PrintLast Go.Proofs.YtkceadieigpolaaGreatW.PrintMore Go.Proofs.YtkceadieigpolaaGreat.PMd
open Go.Sort (grow)
set_option linter.unusedVariables false
set_option linter.unusedSimpArgs false
def CfAt (c : Cf) (g : Nat) (W : World) : Prop := W.cell? ⟨g, 0, none⟩ = some (.int .i64 c.f0) ∧ W.cell? ⟨g, 1, none⟩ = some (.int .i64 c.f1) ∧ W.cell? ⟨g, 2, none⟩ = some (.int .i64 c.f2) ∧ W.cell? ⟨g, 3, none⟩ = some (.int .i64 c.f3) ∧ W.cell? ⟨g, 4, none⟩ = some (.int .i64 c.f4) ∧ W.cell? ⟨g, 5, none⟩ = some (.int .i64 c.f5) ∧ W.cell? ⟨g, 6, none⟩ = some (.int .i64 c.f6) ∧ W.cell? ⟨g, 7, none⟩ = some (.int .i64 c.f7) ∧ W.cell? ⟨g, 8, none⟩ = some (.int .i64 c.f8) ∧ W.cell? ⟨g, 9, none⟩ = some (.int .i64 c.f9) ∧ W.cell? ⟨g, 10, none⟩ = some (.int .i64 c.f10) ∧ W.cell? ⟨g, 11, none⟩ = some (.int .i64 c.f11)
theorem cf_at {c : Cf} {g : Nat} {w : World} (hz : w.heap[g]? = some (.cells #[.int .i64 c.f0, .int .i64 c.f1, .int .i64 c.f2, .int .i64 c.f3, .int .i64 c.f4, .int .i64 c.f5, .int .i64 c.f6, .int .i64 c.f7, .int .i64 c.f8, .int .i64 c.f9, .int .i64 c.f10, .int .i64 c.f11] 23 (0, 0))) : CfAt c g w := ⟨(blk_cell hz 0).trans rfl, (blk_cell hz 1).trans rfl, (blk_cell hz 2).trans rfl, (blk_cell hz 3).trans rfl, (blk_cell hz 4).trans rfl, (blk_cell hz 5).trans rfl, (blk_cell hz 6).trans rfl, (blk_cell hz 7).trans rfl, (blk_cell hz 8).trans rfl, (blk_cell hz 9).trans rfl, (blk_cell hz 10).trans rfl, (blk_cell hz 11).trans rfl⟩
theorem objs_calls (c : Cf) (w : World) : Calls Tryz.prog 35 #[.agg #[.int .i64 c.f0, .int .i64 c.f1, .int .i64 c.f2, .int .i64 c.f3, .int .i64 c.f4, .int .i64 c.f5, .int .i64 c.f6, .int .i64 c.f7, .int .i64 c.f8, .int .i64 c.f9, .int .i64 c.f10, .int .i64 c.f11]] w fun e w' => e = .returned (.int .i64 (wrap64 (c.f0 * c.f1))) ∧ Below w.heap.size w w' :=
  (ltkref1_objects.calls c.f0 c.f1 c.f2 c.f3 c.f4 c.f5 c.f6 c.f7 c.f8 c.f9 c.f10 c.f11 _ w rfl).mono fun _ _ ⟨h1, h2⟩ => ⟨h1,  h2⟩
theorem strs_calls (c : Cf) (w : World) : Calls Tryz.prog 36 #[.agg #[.int .i64 c.f0, .int .i64 c.f1, .int .i64 c.f2, .int .i64 c.f3, .int .i64 c.f4, .int .i64 c.f5, .int .i64 c.f6, .int .i64 c.f7, .int .i64 c.f8, .int .i64 c.f9, .int .i64 c.f10, .int .i64 c.f11]] w fun e w' => e = .returned (.int .i64 (wrap64 (wrap64 (c.f0 * c.f1) * c.f2))) ∧ Below w.heap.size w w' :=
  (ltkref1_stripes.calls c.f0 c.f1 c.f2 c.f3 c.f4 c.f5 c.f6 c.f7 c.f8 c.f9 c.f10 c.f11 _ w rfl).mono fun _ _ ⟨h1, h2⟩ => ⟨h1,  h2⟩
def nodX (c : Cf) : Int := (ltkref1_Nodes.f 20 c.f0 c.f1 c.f2 c.f3 c.f4 c.f5 c.f6 c.f7 c.f8 c.f9 c.f10 c.f11).getD 0
def wdX (c : Cf) : Int := (ltkref1_Words.f 20 c.f0 c.f1 c.f2 c.f3 c.f4 c.f5 c.f6 c.f7 c.f8 c.f9 c.f10 c.f11).getD 0
set_option maxHeartbeats 8000000 in
set_option maxRecDepth 100000 in
theorem nodes_calls (c : Cf) (w : World) : Calls Tryz.prog 6 #[.agg #[.int .i64 c.f0, .int .i64 c.f1, .int .i64 c.f2, .int .i64 c.f3, .int .i64 c.f4, .int .i64 c.f5, .int .i64 c.f6, .int .i64 c.f7, .int .i64 c.f8, .int .i64 c.f9, .int .i64 c.f10, .int .i64 c.f11]] w fun e w' => e = .returned (.int .i64 (nodX c)) ∧ Below w.heap.size w w' := by
  have mixed : Tryz.prog.follows Departure.mixedOrders = true := by kernel_rfl
  have hu41 := Tryz.underlying23
  have HB0 := Aside0.mk (below_alloc (Below.refl w.heap.size w) (.cells #[.int .i64 c.f0, .int .i64 c.f1, .int .i64 c.f2, .int .i64 c.f3, .int .i64 c.f4, .int .i64 c.f5, .int .i64 c.f6, .int .i64 c.f7, .int .i64 c.f8, .int .i64 c.f9, .int .i64 c.f10, .int .i64 c.f11] 23))
  have HZ := Aside0.mk (blk_new w (.cells #[.int .i64 c.f0, .int .i64 c.f1, .int .i64 c.f2, .int .i64 c.f3, .int .i64 c.f4, .int .i64 c.f5, .int .i64 c.f6, .int .i64 c.f7, .int .i64 c.f8, .int .i64 c.f9, .int .i64 c.f10, .int .i64 c.f11] 23))
  have X := Aside0.mk (fun W (hb : Below (w.alloc (.cells #[.int .i64 c.f0, .int .i64 c.f1, .int .i64 c.f2, .int .i64 c.f3, .int .i64 c.f4, .int .i64 c.f5, .int .i64 c.f6, .int .i64 c.f7, .int .i64 c.f8, .int .i64 c.f9, .int .i64 c.f10, .int .i64 c.f11] 23)).heap.size (w.alloc (.cells #[.int .i64 c.f0, .int .i64 c.f1, .int .i64 c.f2, .int .i64 c.f3, .int .i64 c.f4, .int .i64 c.f5, .int .i64 c.f6, .int .i64 c.f7, .int .i64 c.f8, .int .i64 c.f9, .int .i64 c.f10, .int .i64 c.f11] 23)) W) => (show CfAt c w.heap.size W from cf_at ((hb.block w.heap.size (by simp)).trans HZ.out)))
  have HOb := Aside0.mk (fun W => objs_calls c W)
  have HSt := Aside0.mk (fun W => strs_calls c W)
  obtain ⟨x0, x1, x2, x3, x4, x5, x6, x7, x8, x9, x10, x11⟩ := X.out _ (Below.refl _ _)
  rcases both_chk c with ⟨ok, _, hr⟩ | ⟨_, _, r, hr, h0⟩
  · have HCk := Aside0.mk (fun W => ltkref1_Check.calls 20 c.f0 c.f1 c.f2 c.f3 c.f4 c.f5 c.f6 c.f7 c.f8 c.f9 c.f10 c.f11 0 W hr)
    have HV := Aside0.mk (show nodX c = _ from congrArg (fun q => q.getD 0) (nodes_yes hr))
    clear ok hr
    go_enter Tryz.func6, Tryz.ntmps6
    go_wp2_with fail
    refine (HCk.out _).mono ?_
    rintro e w2 ⟨rfl, hb⟩
    have HB2 := Aside0.mk (below_then HB0.out (by simp) ( hb))
    clear x0 x1 x2 x3 x4 x5 x6 x7 x8 x9 x10 x11
    obtain ⟨x0, x1, x2, x3, x4, x5, x6, x7, x8, x9, x10, x11⟩ := X.out _ ( hb)
    clear hb
    have g0 := fun d os => cell_gr x0 d os
    have g1 := fun d os => cell_gr x1 d os
    have g2 := fun d os => cell_gr x2 d os
    have g3 := fun d os => cell_gr x3 d os
    have g4 := fun d os => cell_gr x4 d os
    have g5 := fun d os => cell_gr x5 d os
    have g6 := fun d os => cell_gr x6 d os
    have g7 := fun d os => cell_gr x7 d os
    have g8 := fun d os => cell_gr x8 d os
    have g9 := fun d os => cell_gr x9 d os
    have g10 := fun d os => cell_gr x10 d os
    have g11 := fun d os => cell_gr x11 d os
    go_wp2_with fail
    refine wp_region_gr mixed (by kernel_rfl) ?_
    repeat (go_big_quiet_step (first | exact Calls.gr_of (HOb.out _) | exact Calls.gr_of (HSt.out _)))
    refine wpQuiet_nil ?_
    intro _ hw'
    obtain ⟨⟨d, os⟩, rfl⟩ := hw'
    have HB3 := Aside0.mk (below_then HB2.out HB2.out.size (below_gr w2 d os))
    clear x0 x1 x2 x3 x4 x5 x6 x7 x8 x9 x10 x11 g0 g1 g2 g3 g4 g5 g6 g7 g8 g9 g10 g11
    generalize grow (wat w2 d) os = wq at HB3 ⊢
    go_wp2
    go_ret
    exact ⟨by rw [HV.out]; rfl, HB3.out⟩
  · have HCk := Aside0.mk (fun W => ltkref1_Check.calls 20 c.f0 c.f1 c.f2 c.f3 c.f4 c.f5 c.f6 c.f7 c.f8 c.f9 c.f10 c.f11 r W hr)
    have HV := Aside0.mk (show nodX c = _ from congrArg (fun q => q.getD 0) (nodes_no hr h0))
    have hb0 : (r != 0) = true := bne_iff_ne.2 h0
    clear hr h0
    go_enter Tryz.func6, Tryz.ntmps6
    go_wp2_with fail
    refine (HCk.out _).mono ?_
    rintro e w2 ⟨rfl, hb⟩
    have HB2 := Aside0.mk (below_then HB0.out (by simp) ( hb))
    clear x0 x1 x2 x3 x4 x5 x6 x7 x8 x9 x10 x11 hb
    go_wp2
    go_ret
    exact ⟨by rw [HV.out]; rfl, HB2.out⟩
theorem words_yes {c : Cf} (h : ltkref1_Check.f 20 c.f0 c.f1 c.f2 c.f3 c.f4 c.f5 c.f6 c.f7 c.f8 c.f9 c.f10 c.f11 = some 0) : ltkref1_Words.f 20 c.f0 c.f1 c.f2 c.f3 c.f4 c.f5 c.f6 c.f7 c.f8 c.f9 c.f10 c.f11 = some (wrap64 (wrap64 (wrap64 (c.f0 * c.f1) * c.f2) * c.f3)) := by
  unfold ltkref1_Words.f; rw [h]; rfl
theorem words_no {c : Cf} {r : Int} (h : ltkref1_Check.f 20 c.f0 c.f1 c.f2 c.f3 c.f4 c.f5 c.f6 c.f7 c.f8 c.f9 c.f10 c.f11 = some r) (hr : r ≠ 0) : ltkref1_Words.f 20 c.f0 c.f1 c.f2 c.f3 c.f4 c.f5 c.f6 c.f7 c.f8 c.f9 c.f10 c.f11 = some 0 := by
  unfold ltkref1_Words.f; rw [h]
  show (if r = 0 then _ else _) = _
  rw [if_neg hr]
set_option maxHeartbeats 8000000 in
set_option maxRecDepth 100000 in
theorem words_calls (c : Cf) (w : World) : Calls Tryz.prog 88 #[.agg #[.int .i64 c.f0, .int .i64 c.f1, .int .i64 c.f2, .int .i64 c.f3, .int .i64 c.f4, .int .i64 c.f5, .int .i64 c.f6, .int .i64 c.f7, .int .i64 c.f8, .int .i64 c.f9, .int .i64 c.f10, .int .i64 c.f11]] w fun e w' => e = .returned (.int .i64 (wdX c)) ∧ Below w.heap.size w w' := by
  have mixed : Tryz.prog.follows Departure.mixedOrders = true := by kernel_rfl
  have hu41 := Tryz.underlying23
  have HB0 := Aside0.mk (below_alloc (Below.refl w.heap.size w) (.cells #[.int .i64 c.f0, .int .i64 c.f1, .int .i64 c.f2, .int .i64 c.f3, .int .i64 c.f4, .int .i64 c.f5, .int .i64 c.f6, .int .i64 c.f7, .int .i64 c.f8, .int .i64 c.f9, .int .i64 c.f10, .int .i64 c.f11] 23))
  have HZ := Aside0.mk (blk_new w (.cells #[.int .i64 c.f0, .int .i64 c.f1, .int .i64 c.f2, .int .i64 c.f3, .int .i64 c.f4, .int .i64 c.f5, .int .i64 c.f6, .int .i64 c.f7, .int .i64 c.f8, .int .i64 c.f9, .int .i64 c.f10, .int .i64 c.f11] 23))
  have X := Aside0.mk (fun W (hb : Below (w.alloc (.cells #[.int .i64 c.f0, .int .i64 c.f1, .int .i64 c.f2, .int .i64 c.f3, .int .i64 c.f4, .int .i64 c.f5, .int .i64 c.f6, .int .i64 c.f7, .int .i64 c.f8, .int .i64 c.f9, .int .i64 c.f10, .int .i64 c.f11] 23)).heap.size (w.alloc (.cells #[.int .i64 c.f0, .int .i64 c.f1, .int .i64 c.f2, .int .i64 c.f3, .int .i64 c.f4, .int .i64 c.f5, .int .i64 c.f6, .int .i64 c.f7, .int .i64 c.f8, .int .i64 c.f9, .int .i64 c.f10, .int .i64 c.f11] 23)) W) => (show CfAt c w.heap.size W from cf_at ((hb.block w.heap.size (by simp)).trans HZ.out)))
  have HOb := Aside0.mk (fun W => objs_calls c W)
  have HSt := Aside0.mk (fun W => strs_calls c W)
  obtain ⟨x0, x1, x2, x3, x4, x5, x6, x7, x8, x9, x10, x11⟩ := X.out _ (Below.refl _ _)
  rcases both_chk c with ⟨ok, _, hr⟩ | ⟨_, _, r, hr, h0⟩
  · have HCk := Aside0.mk (fun W => ltkref1_Check.calls 20 c.f0 c.f1 c.f2 c.f3 c.f4 c.f5 c.f6 c.f7 c.f8 c.f9 c.f10 c.f11 0 W hr)
    have HV := Aside0.mk (show wdX c = _ from congrArg (fun q => q.getD 0) (words_yes hr))
    clear ok hr
    go_enter Tryz.func88, Tryz.ntmps88
    go_wp2_with fail
    refine (HCk.out _).mono ?_
    rintro e w2 ⟨rfl, hb⟩
    have HB2 := Aside0.mk (below_then HB0.out (by simp) ( hb))
    clear x0 x1 x2 x3 x4 x5 x6 x7 x8 x9 x10 x11
    obtain ⟨x0, x1, x2, x3, x4, x5, x6, x7, x8, x9, x10, x11⟩ := X.out _ ( hb)
    clear hb
    have g0 := fun d os => cell_gr x0 d os
    have g1 := fun d os => cell_gr x1 d os
    have g2 := fun d os => cell_gr x2 d os
    have g3 := fun d os => cell_gr x3 d os
    have g4 := fun d os => cell_gr x4 d os
    have g5 := fun d os => cell_gr x5 d os
    have g6 := fun d os => cell_gr x6 d os
    have g7 := fun d os => cell_gr x7 d os
    have g8 := fun d os => cell_gr x8 d os
    have g9 := fun d os => cell_gr x9 d os
    have g10 := fun d os => cell_gr x10 d os
    have g11 := fun d os => cell_gr x11 d os
    go_wp2_with fail
    refine wp_region_gr mixed (by kernel_rfl) ?_
    repeat (go_big_quiet_step (first | exact Calls.gr_of (HSt.out _)))
    refine wpQuiet_nil ?_
    intro _ hw'
    obtain ⟨⟨d, os⟩, rfl⟩ := hw'
    have HB3 := Aside0.mk (below_then HB2.out HB2.out.size (below_gr w2 d os))
    clear x0 x1 x2 x3 x4 x5 x6 x7 x8 x9 x10 x11 g0 g1 g2 g3 g4 g5 g6 g7 g8 g9 g10 g11
    generalize grow (wat w2 d) os = wq at HB3 ⊢
    go_wp2
    go_ret
    exact ⟨by rw [HV.out]; rfl, HB3.out⟩
  · have HCk := Aside0.mk (fun W => ltkref1_Check.calls 20 c.f0 c.f1 c.f2 c.f3 c.f4 c.f5 c.f6 c.f7 c.f8 c.f9 c.f10 c.f11 r W hr)
    have HV := Aside0.mk (show wdX c = _ from congrArg (fun q => q.getD 0) (words_no hr h0))
    have hb0 : (r != 0) = true := bne_iff_ne.2 h0
    clear hr h0
    go_enter Tryz.func88, Tryz.ntmps88
    go_wp2_with fail
    refine (HCk.out _).mono ?_
    rintro e w2 ⟨rfl, hb⟩
    have HB2 := Aside0.mk (below_then HB0.out (by simp) ( hb))
    clear x0 x1 x2 x3 x4 x5 x6 x7 x8 x9 x10 x11 hb
    go_wp2
    go_ret
    exact ⟨by rw [HV.out]; rfl, HB2.out⟩
theorem lvX_n (c : Cf) (j : Int) : lvX c j = if j < 0 then -1 else if j ≥ nodX c then -1 else if j < c.f0 then 0 else if j < wrap64 (c.f0 + wrap64 (c.f0 * c.f1)) then 1 else 2 := rfl
set_option maxHeartbeats 8000000 in
set_option maxRecDepth 100000 in
theorem level_calls (c : Cf) (j : Int) (w : World) : Calls Tryz.prog 59 #[.agg #[.int .i64 c.f0, .int .i64 c.f1, .int .i64 c.f2, .int .i64 c.f3, .int .i64 c.f4, .int .i64 c.f5, .int .i64 c.f6, .int .i64 c.f7, .int .i64 c.f8, .int .i64 c.f9, .int .i64 c.f10, .int .i64 c.f11], .int .i64 j] w fun e w' => e = .returned (.int .i64 (lvX c j)) ∧ Below w.heap.size w w' := by
  have mixed : Tryz.prog.follows Departure.mixedOrders = true := by kernel_rfl
  have hu41 := Tryz.underlying23
  have HB0 := Aside0.mk (below_alloc (Below.refl w.heap.size w) (.cells #[.int .i64 c.f0, .int .i64 c.f1, .int .i64 c.f2, .int .i64 c.f3, .int .i64 c.f4, .int .i64 c.f5, .int .i64 c.f6, .int .i64 c.f7, .int .i64 c.f8, .int .i64 c.f9, .int .i64 c.f10, .int .i64 c.f11] 23))
  have HZ := Aside0.mk (blk_new w (.cells #[.int .i64 c.f0, .int .i64 c.f1, .int .i64 c.f2, .int .i64 c.f3, .int .i64 c.f4, .int .i64 c.f5, .int .i64 c.f6, .int .i64 c.f7, .int .i64 c.f8, .int .i64 c.f9, .int .i64 c.f10, .int .i64 c.f11] 23))
  have X := Aside0.mk (fun W (hb : Below (w.alloc (.cells #[.int .i64 c.f0, .int .i64 c.f1, .int .i64 c.f2, .int .i64 c.f3, .int .i64 c.f4, .int .i64 c.f5, .int .i64 c.f6, .int .i64 c.f7, .int .i64 c.f8, .int .i64 c.f9, .int .i64 c.f10, .int .i64 c.f11] 23)).heap.size (w.alloc (.cells #[.int .i64 c.f0, .int .i64 c.f1, .int .i64 c.f2, .int .i64 c.f3, .int .i64 c.f4, .int .i64 c.f5, .int .i64 c.f6, .int .i64 c.f7, .int .i64 c.f8, .int .i64 c.f9, .int .i64 c.f10, .int .i64 c.f11] 23)) W) => (show CfAt c w.heap.size W from cf_at ((hb.block w.heap.size (by simp)).trans HZ.out)))
  have HOb := Aside0.mk (fun W => objs_calls c W)
  have HSt := Aside0.mk (fun W => strs_calls c W)
  obtain ⟨x0, x1, x2, x3, x4, x5, x6, x7, x8, x9, x10, x11⟩ := X.out _ (Below.refl _ _)
  have HNo := Aside0.mk (fun W => nodes_calls c W)
  by_cases h0 : j < 0
  · have b0 : decide (j < 0) = true := decide_eq_true h0
    have HV := Aside0.mk (show lvX c j = -1 by rw [lvX_n, if_pos h0])
    clear h0
    go_enter Tryz.func59, Tryz.ntmps59
    go_wp2
    go_ret
    exact ⟨by rw [HV.out]; rfl, HB0.out⟩
  · have b0 : decide (j < 0) = false := decide_eq_false h0
    by_cases h1 : j ≥ nodX c
    · have b1 : decide (j ≥ nodX c) = true := decide_eq_true h1
      have b1' : decide (nodX c ≤ j) = true := b1
      have HV := Aside0.mk (show lvX c j = -1 by rw [lvX_n, if_neg h0, if_pos h1])
      generalize nodX c = nn at HNo b1 b1'
      clear h0 h1
      go_enter Tryz.func59, Tryz.ntmps59
      go_wp2_with fail
      refine (HNo.out _).mono ?_
      rintro e w2 ⟨rfl, hb⟩
      have HB2 := Aside0.mk (below_then HB0.out (by simp) hb)
      clear x0 x1 x2 x3 x4 x5 x6 x7 x8 x9 x10 x11 hb
      go_wp2
      go_ret
      exact ⟨by rw [HV.out]; rfl, HB2.out⟩
    · have b1 : decide (j ≥ nodX c) = false := decide_eq_false h1
      have b1' : decide (nodX c ≤ j) = false := b1
      by_cases h2 : j < c.f0
      · have b2 : decide (j < c.f0) = true := decide_eq_true h2
        have HV := Aside0.mk (show lvX c j = 0 by rw [lvX_n, if_neg h0, if_neg h1, if_pos h2])
        generalize nodX c = nn at HNo b1 b1'
        clear h0 h1 h2
        go_enter Tryz.func59, Tryz.ntmps59
        go_wp2_with fail
        refine (HNo.out _).mono ?_
        rintro e w2 ⟨rfl, hb⟩
        have HB2 := Aside0.mk (below_then HB0.out (by simp) hb)
        clear x0 x1 x2 x3 x4 x5 x6 x7 x8 x9 x10 x11
        obtain ⟨x0, x1, x2, x3, x4, x5, x6, x7, x8, x9, x10, x11⟩ := X.out _ hb
        clear hb
        go_wp2
        go_ret
        exact ⟨by rw [HV.out]; rfl, HB2.out⟩
      · have b2 : decide (j < c.f0) = false := decide_eq_false h2
        have HV := Aside0.mk (show lvX c j = if j < wrap64 (c.f0 + wrap64 (c.f0 * c.f1)) then 1 else 2 by rw [lvX_n, if_neg h0, if_neg h1, if_neg h2])
        generalize nodX c = nn at HNo b1 b1'
        generalize hob : wrap64 (c.f0 * c.f1) = ob at HOb HV
        clear h0 h1 h2 hob
        by_cases h3 : j < wrap64 (c.f0 + ob)
        · have b3 : decide (j < wrap64 (c.f0 + ob)) = true := decide_eq_true h3
          rw [if_pos h3] at HV
          clear h3
          go_enter Tryz.func59, Tryz.ntmps59
          go_wp2_with fail
          refine (HNo.out _).mono ?_
          rintro e w2 ⟨rfl, hb⟩
          have HB2 := Aside0.mk (below_then HB0.out (by simp) hb)
          clear x0 x1 x2 x3 x4 x5 x6 x7 x8 x9 x10 x11
          obtain ⟨x0, x1, x2, x3, x4, x5, x6, x7, x8, x9, x10, x11⟩ := X.out _ hb
          clear hb
          have g0 := fun d os => cell_gr x0 d os
          have g1 := fun d os => cell_gr x1 d os
          have g2 := fun d os => cell_gr x2 d os
          have g3 := fun d os => cell_gr x3 d os
          have g4 := fun d os => cell_gr x4 d os
          have g5 := fun d os => cell_gr x5 d os
          have g6 := fun d os => cell_gr x6 d os
          have g7 := fun d os => cell_gr x7 d os
          have g8 := fun d os => cell_gr x8 d os
          have g9 := fun d os => cell_gr x9 d os
          have g10 := fun d os => cell_gr x10 d os
          have g11 := fun d os => cell_gr x11 d os
          go_wp2_with fail
          refine wp_region_gr mixed (by kernel_rfl) ?_
          repeat (go_big_quiet_step (first | exact Calls.gr_of (HOb.out _)))
          refine wpQuiet_nil ?_
          intro _ hw'
          obtain ⟨⟨d, os⟩, rfl⟩ := hw'
          have HB3 := Aside0.mk (below_then HB2.out HB2.out.size (below_gr w2 d os))
          clear x0 x1 x2 x3 x4 x5 x6 x7 x8 x9 x10 x11 g0 g1 g2 g3 g4 g5 g6 g7 g8 g9 g10 g11
          generalize grow (wat w2 d) os = wq at HB3 ⊢
          go_wp2
          go_ret
          exact ⟨by rw [HV.out]; rfl, HB3.out⟩
        · have b3 : decide (j < wrap64 (c.f0 + ob)) = false := decide_eq_false h3
          rw [if_neg h3] at HV
          clear h3
          go_enter Tryz.func59, Tryz.ntmps59
          go_wp2_with fail
          refine (HNo.out _).mono ?_
          rintro e w2 ⟨rfl, hb⟩
          have HB2 := Aside0.mk (below_then HB0.out (by simp) hb)
          clear x0 x1 x2 x3 x4 x5 x6 x7 x8 x9 x10 x11
          obtain ⟨x0, x1, x2, x3, x4, x5, x6, x7, x8, x9, x10, x11⟩ := X.out _ hb
          clear hb
          have g0 := fun d os => cell_gr x0 d os
          have g1 := fun d os => cell_gr x1 d os
          have g2 := fun d os => cell_gr x2 d os
          have g3 := fun d os => cell_gr x3 d os
          have g4 := fun d os => cell_gr x4 d os
          have g5 := fun d os => cell_gr x5 d os
          have g6 := fun d os => cell_gr x6 d os
          have g7 := fun d os => cell_gr x7 d os
          have g8 := fun d os => cell_gr x8 d os
          have g9 := fun d os => cell_gr x9 d os
          have g10 := fun d os => cell_gr x10 d os
          have g11 := fun d os => cell_gr x11 d os
          go_wp2_with fail
          refine wp_region_gr mixed (by kernel_rfl) ?_
          repeat (go_big_quiet_step (first | exact Calls.gr_of (HOb.out _)))
          refine wpQuiet_nil ?_
          intro _ hw'
          obtain ⟨⟨d, os⟩, rfl⟩ := hw'
          have HB3 := Aside0.mk (below_then HB2.out HB2.out.size (below_gr w2 d os))
          clear x0 x1 x2 x3 x4 x5 x6 x7 x8 x9 x10 x11 g0 g1 g2 g3 g4 g5 g6 g7 g8 g9 g10 g11
          generalize grow (wat w2 d) os = wq at HB3 ⊢
          go_wp2
          go_ret
          exact ⟨by rw [HV.out]; rfl, HB3.out⟩
set_option maxHeartbeats 8000000 in
set_option maxRecDepth 100000 in
theorem parent_calls (c : Cf) (j : Int) (w : World) : Calls Tryz.prog 60 #[.agg #[.int .i64 c.f0, .int .i64 c.f1, .int .i64 c.f2, .int .i64 c.f3, .int .i64 c.f4, .int .i64 c.f5, .int .i64 c.f6, .int .i64 c.f7, .int .i64 c.f8, .int .i64 c.f9, .int .i64 c.f10, .int .i64 c.f11], .int .i64 j] w fun e w' => e = .returned (.int .i64 (paX c j)) ∧ Below w.heap.size w w' := by
  have mixed : Tryz.prog.follows Departure.mixedOrders = true := by kernel_rfl
  have hu41 := Tryz.underlying23
  have HB0 := Aside0.mk (below_alloc (Below.refl w.heap.size w) (.cells #[.int .i64 c.f0, .int .i64 c.f1, .int .i64 c.f2, .int .i64 c.f3, .int .i64 c.f4, .int .i64 c.f5, .int .i64 c.f6, .int .i64 c.f7, .int .i64 c.f8, .int .i64 c.f9, .int .i64 c.f10, .int .i64 c.f11] 23))
  have HZ := Aside0.mk (blk_new w (.cells #[.int .i64 c.f0, .int .i64 c.f1, .int .i64 c.f2, .int .i64 c.f3, .int .i64 c.f4, .int .i64 c.f5, .int .i64 c.f6, .int .i64 c.f7, .int .i64 c.f8, .int .i64 c.f9, .int .i64 c.f10, .int .i64 c.f11] 23))
  have X := Aside0.mk (fun W (hb : Below (w.alloc (.cells #[.int .i64 c.f0, .int .i64 c.f1, .int .i64 c.f2, .int .i64 c.f3, .int .i64 c.f4, .int .i64 c.f5, .int .i64 c.f6, .int .i64 c.f7, .int .i64 c.f8, .int .i64 c.f9, .int .i64 c.f10, .int .i64 c.f11] 23)).heap.size (w.alloc (.cells #[.int .i64 c.f0, .int .i64 c.f1, .int .i64 c.f2, .int .i64 c.f3, .int .i64 c.f4, .int .i64 c.f5, .int .i64 c.f6, .int .i64 c.f7, .int .i64 c.f8, .int .i64 c.f9, .int .i64 c.f10, .int .i64 c.f11] 23)) W) => (show CfAt c w.heap.size W from cf_at ((hb.block w.heap.size (by simp)).trans HZ.out)))
  have HOb := Aside0.mk (fun W => objs_calls c W)
  have HSt := Aside0.mk (fun W => strs_calls c W)
  obtain ⟨x0, x1, x2, x3, x4, x5, x6, x7, x8, x9, x10, x11⟩ := X.out _ (Below.refl _ _)
  have HLv := Aside0.mk (fun W => level_calls c j W)
  have hz : lvX c j = 1 ∨ lvX c j = 2 → (¬ c.f1 = 0 ∧ ¬ c.f2 = 0) := fun h => by
    rcases both_chk c with ⟨ok, _, _⟩ | ⟨_, _, r, hr, h0⟩
    · exact ⟨fun e => by have := ok.b1; omega, fun e => by have := ok.b2; omega⟩
    · rw [lv_bad hr h0] at h; omega
  by_cases h1 : lvX c j = 1
  · obtain ⟨z1, z2⟩ := hz (.inl h1)
    have b1 : (lvX c j == 1) = true := beq_iff_eq.2 h1
    have HV := Aside0.mk (show paX c j = _ from if_pos h1)
    generalize lvX c j = lv at HLv b1
    clear hz h1 z2
    go_enter Tryz.func60, Tryz.ntmps60
    go_wp2_with fail
    refine (HLv.out _).mono ?_
    rintro e w2 ⟨rfl, hb⟩
    have HB2 := Aside0.mk (below_then HB0.out (by simp) hb)
    clear x0 x1 x2 x3 x4 x5 x6 x7 x8 x9 x10 x11
    obtain ⟨x0, x1, x2, x3, x4, x5, x6, x7, x8, x9, x10, x11⟩ := X.out _ hb
    clear hb
    go_wp2
    go_ret
    exact ⟨by rw [HV.out]; rfl, HB2.out⟩
  · by_cases h2 : lvX c j = 2
    · obtain ⟨z1, z2⟩ := hz (.inr h2)
      have b1 : (lvX c j == 1) = false := beq_eq_false_iff_ne.2 h1
      have b2 : (lvX c j == 2) = true := beq_iff_eq.2 h2
      have HV := Aside0.mk (show paX c j = _ from (if_neg h1).trans (if_pos h2))
      generalize lvX c j = lv at HLv b1 b2
      clear hz h1 h2 z1
      go_enter Tryz.func60, Tryz.ntmps60
      go_wp2_with fail
      refine (HLv.out _).mono ?_
      rintro e w2 ⟨rfl, hb⟩
      have HB2 := Aside0.mk (below_then HB0.out (by simp) hb)
      clear x0 x1 x2 x3 x4 x5 x6 x7 x8 x9 x10 x11
      obtain ⟨x0, x1, x2, x3, x4, x5, x6, x7, x8, x9, x10, x11⟩ := X.out _ hb
      clear hb
      have g0 := fun d os => cell_gr x0 d os
      have g1 := fun d os => cell_gr x1 d os
      have g2 := fun d os => cell_gr x2 d os
      have g3 := fun d os => cell_gr x3 d os
      have g4 := fun d os => cell_gr x4 d os
      have g5 := fun d os => cell_gr x5 d os
      have g6 := fun d os => cell_gr x6 d os
      have g7 := fun d os => cell_gr x7 d os
      have g8 := fun d os => cell_gr x8 d os
      have g9 := fun d os => cell_gr x9 d os
      have g10 := fun d os => cell_gr x10 d os
      have g11 := fun d os => cell_gr x11 d os
      go_wp2_with fail
      refine wp_region_gr mixed (by kernel_rfl) ?_
      repeat (go_big_quiet_step (first | exact Calls.gr_of (HOb.out _)))
      refine wpQuiet_nil ?_
      intro _ hw'
      obtain ⟨⟨d, os⟩, rfl⟩ := hw'
      have HB3 := Aside0.mk (below_then HB2.out HB2.out.size (below_gr w2 d os))
      clear x0 x1 x2 x3 x4 x5 x6 x7 x8 x9 x10 x11 g0 g1 g2 g3 g4 g5 g6 g7 g8 g9 g10 g11
      generalize grow (wat w2 d) os = wq at HB3 ⊢
      go_wp2
      go_ret
      exact ⟨by rw [HV.out]; rfl, HB3.out⟩
    · have b1 : (lvX c j == 1) = false := beq_eq_false_iff_ne.2 h1
      have b2 : (lvX c j == 2) = false := beq_eq_false_iff_ne.2 h2
      have HV := Aside0.mk (show paX c j = _ from (if_neg h1).trans (if_neg h2))
      generalize lvX c j = lv at HLv b1 b2
      clear hz h1 h2
      go_enter Tryz.func60, Tryz.ntmps60
      go_wp2_with fail
      refine (HLv.out _).mono ?_
      rintro e w2 ⟨rfl, hb⟩
      have HB2 := Aside0.mk (below_then HB0.out (by simp) hb)
      clear x0 x1 x2 x3 x4 x5 x6 x7 x8 x9 x10 x11 hb
      go_wp2
      go_ret
      exact ⟨by rw [HV.out]; rfl, HB2.out⟩
theorem path_cases {c : Cf} {a r o s e : Int} (hp : ltkref1_Path.f 20 c.f0 c.f1 c.f2 c.f3 c.f4 c.f5 c.f6 c.f7 c.f8 c.f9 c.f10 c.f11 a = some (r, o, s, e)) : (((a < 0 ∨ (¬ a < 0 ∧ a ≥ wdX c)) ∧ (r, o, s, e) = (0, 0, 0, 1)) ∨
    (¬ a < 0 ∧ ¬ a ≥ wdX c ∧ (¬ c.f1 = 0 ∧ ¬ c.f2 = 0 ∧ ¬ c.f3 = 0) ∧ (r, o, s, e) = (wrap64 (Int.tdiv (wrap64 (Int.tdiv (wrap64 (Int.tdiv a c.f3)) c.f2)) c.f1), wrap64 (c.f0 + wrap64 (Int.tdiv (wrap64 (Int.tdiv a c.f3)) c.f2)), wrap64 (wrap64 (c.f0 + wrap64 (c.f0 * c.f1)) + wrap64 (Int.tdiv a c.f3)), 0))) := by
  unfold ltkref1_Path.f at hp
  by_cases h0 : a < 0
  · rw [if_pos h0] at hp
    injection hp with hp
    exact .inl ⟨.inl h0, hp.symm⟩
  · rw [if_neg h0] at hp
    have hw : ltkref1_Words.f 20 c.f0 c.f1 c.f2 c.f3 c.f4 c.f5 c.f6 c.f7 c.f8 c.f9 c.f10 c.f11 = some (wdX c) := by
      unfold wdX
      rcases both_chk c with ⟨_, _, h⟩ | ⟨_, _, r, h, hr⟩
      · rw [words_yes h]; rfl
      · rw [words_no h hr]; rfl
    rw [hw] at hp
    simp only [Option.bind_some] at hp
    by_cases h1 : a ≥ wdX c
    · rw [if_pos h1] at hp
      injection hp with hp
      exact .inl ⟨.inr ⟨h0, h1⟩, hp.symm⟩
    · rw [if_neg h1] at hp
      by_cases z3 : c.f3 = 0
      · rw [if_pos z3] at hp; cases hp
      · rw [if_neg z3] at hp
        by_cases z2 : c.f2 = 0
        · rw [if_pos z2] at hp; cases hp
        · rw [if_neg z2] at hp
          by_cases z1 : c.f1 = 0
          · rw [if_pos z1] at hp; cases hp
          · rw [if_neg z1] at hp
            refine .inr ⟨h0, h1, ⟨z1, z2, z3⟩, ?_⟩
            have hp2 : some (wrap64 (Int.tdiv (wrap64 (Int.tdiv (wrap64 (Int.tdiv a c.f3)) c.f2)) c.f1), wrap64 (c.f0 + wrap64 (Int.tdiv (wrap64 (Int.tdiv a c.f3)) c.f2)), wrap64 (wrap64 (c.f0 + wrap64 (c.f0 * c.f1)) + wrap64 (Int.tdiv a c.f3)), (0 : Int)) = some (r, o, s, e) := hp
            injection hp2 with hp2
            exact hp2.symm
set_option maxHeartbeats 8000000 in
set_option maxRecDepth 100000 in
theorem path_calls (c : Cf) (a r o s q : Int) (w : World) (hp : ltkref1_Path.f 20 c.f0 c.f1 c.f2 c.f3 c.f4 c.f5 c.f6 c.f7 c.f8 c.f9 c.f10 c.f11 a = some (r, o, s, q)) : Calls Tryz.prog 52 #[.agg #[.int .i64 c.f0, .int .i64 c.f1, .int .i64 c.f2, .int .i64 c.f3, .int .i64 c.f4, .int .i64 c.f5, .int .i64 c.f6, .int .i64 c.f7, .int .i64 c.f8, .int .i64 c.f9, .int .i64 c.f10, .int .i64 c.f11], .int .i64 a] w fun e w' => e = .returned (.tuple #[.int .i64 r, .int .i64 o, .int .i64 s, .int .i64 q]) ∧ Below w.heap.size w w' := by
  have mixed : Tryz.prog.follows Departure.mixedOrders = true := by kernel_rfl
  have hu41 := Tryz.underlying23
  have HB0 := Aside0.mk (below_alloc (Below.refl w.heap.size w) (.cells #[.int .i64 c.f0, .int .i64 c.f1, .int .i64 c.f2, .int .i64 c.f3, .int .i64 c.f4, .int .i64 c.f5, .int .i64 c.f6, .int .i64 c.f7, .int .i64 c.f8, .int .i64 c.f9, .int .i64 c.f10, .int .i64 c.f11] 23))
  have HZ := Aside0.mk (blk_new w (.cells #[.int .i64 c.f0, .int .i64 c.f1, .int .i64 c.f2, .int .i64 c.f3, .int .i64 c.f4, .int .i64 c.f5, .int .i64 c.f6, .int .i64 c.f7, .int .i64 c.f8, .int .i64 c.f9, .int .i64 c.f10, .int .i64 c.f11] 23))
  have X := Aside0.mk (fun W (hb : Below (w.alloc (.cells #[.int .i64 c.f0, .int .i64 c.f1, .int .i64 c.f2, .int .i64 c.f3, .int .i64 c.f4, .int .i64 c.f5, .int .i64 c.f6, .int .i64 c.f7, .int .i64 c.f8, .int .i64 c.f9, .int .i64 c.f10, .int .i64 c.f11] 23)).heap.size (w.alloc (.cells #[.int .i64 c.f0, .int .i64 c.f1, .int .i64 c.f2, .int .i64 c.f3, .int .i64 c.f4, .int .i64 c.f5, .int .i64 c.f6, .int .i64 c.f7, .int .i64 c.f8, .int .i64 c.f9, .int .i64 c.f10, .int .i64 c.f11] 23)) W) => (show CfAt c w.heap.size W from cf_at ((hb.block w.heap.size (by simp)).trans HZ.out)))
  have HOb := Aside0.mk (fun W => objs_calls c W)
  have HSt := Aside0.mk (fun W => strs_calls c W)
  obtain ⟨x0, x1, x2, x3, x4, x5, x6, x7, x8, x9, x10, x11⟩ := X.out _ (Below.refl _ _)
  have HWd := Aside0.mk (fun W => words_calls c W)
  rcases path_cases hp with ⟨h0 | ⟨h0, h1⟩, he⟩ | ⟨h0, h1, ⟨z1, z2, z3⟩, he⟩
  · have b0 : decide (a < 0) = true := decide_eq_true h0
    cases he
    clear h0 hp
    go_enter Tryz.func52, Tryz.ntmps52
    go_wp2
    refine bodyPost_ret (results_list (rs := [.tmp 4, .tmp 5, .tmp 6, .tmp 7]) rfl (by simp) (.tmp (.tmp (.tmp (.tmp .nil))))) rfl ?_
    exact ⟨rfl, HB0.out⟩
  · have b0 : decide (a < 0) = false := decide_eq_false h0
    have b1 : decide (a ≥ wdX c) = true := decide_eq_true h1
    have b1' : decide (wdX c ≤ a) = true := b1
    cases he
    generalize wdX c = nn at HWd b1 b1'
    clear h0 h1 hp
    go_enter Tryz.func52, Tryz.ntmps52
    go_wp2_with fail
    refine (HWd.out _).mono ?_
    rintro e w2 ⟨rfl, hb⟩
    have HB2 := Aside0.mk (below_then HB0.out (by simp) hb)
    clear x0 x1 x2 x3 x4 x5 x6 x7 x8 x9 x10 x11 hb
    go_wp2
    refine bodyPost_ret (results_list (rs := [.tmp 4, .tmp 5, .tmp 6, .tmp 7]) rfl (by simp) (.tmp (.tmp (.tmp (.tmp .nil))))) rfl ?_
    exact ⟨rfl, HB2.out⟩
  · have b0 : decide (a < 0) = false := decide_eq_false h0
    have b1 : decide (a ≥ wdX c) = false := decide_eq_false h1
    have b1' : decide (wdX c ≤ a) = false := b1
    cases he
    generalize wdX c = nn at HWd b1 b1'
    clear h0 h1 hp
    go_enter Tryz.func52, Tryz.ntmps52
    go_wp2_with fail
    refine (HWd.out _).mono ?_
    rintro e w2 ⟨rfl, hb⟩
    have HB2 := Aside0.mk (below_then HB0.out (by simp) hb)
    clear x0 x1 x2 x3 x4 x5 x6 x7 x8 x9 x10 x11
    obtain ⟨x0, x1, x2, x3, x4, x5, x6, x7, x8, x9, x10, x11⟩ := X.out _ hb
    clear hb
    have g0 := fun d os => cell_gr x0 d os
    have g1 := fun d os => cell_gr x1 d os
    have g2 := fun d os => cell_gr x2 d os
    have g3 := fun d os => cell_gr x3 d os
    have g4 := fun d os => cell_gr x4 d os
    have g5 := fun d os => cell_gr x5 d os
    have g6 := fun d os => cell_gr x6 d os
    have g7 := fun d os => cell_gr x7 d os
    have g8 := fun d os => cell_gr x8 d os
    have g9 := fun d os => cell_gr x9 d os
    have g10 := fun d os => cell_gr x10 d os
    have g11 := fun d os => cell_gr x11 d os
    go_wp2_with fail
    refine wp_region_gr mixed (by kernel_rfl) ?_
    repeat (go_big_quiet_step (first | exact Calls.gr_of (HOb.out _)))
    refine wpQuiet_nil ?_
    intro _ hw'
    obtain ⟨⟨d, os⟩, rfl⟩ := hw'
    have HB3 := Aside0.mk (below_then HB2.out HB2.out.size (below_gr w2 d os))
    clear x0 x1 x2 x3 x4 x5 x6 x7 x8 x9 x10 x11 g0 g1 g2 g3 g4 g5 g6 g7 g8 g9 g10 g11
    generalize grow (wat w2 d) os = wq at HB3 ⊢
    go_wp2
    refine bodyPost_ret (results_list (rs := [.tmp 4, .tmp 5, .tmp 6, .tmp 7]) rfl (by simp) (.tmp (.tmp (.tmp (.tmp .nil))))) rfl ?_
    exact ⟨rfl, HB3.out⟩
theorem level_at (c : Cf) (j r : Int) (w : World) (h : ltkref1_Level.f 20 c.f0 c.f1 c.f2 c.f3 c.f4 c.f5 c.f6 c.f7 c.f8 c.f9 c.f10 c.f11 j = some r) : Calls Tryz.prog 59 #[.agg #[.int .i64 c.f0, .int .i64 c.f1, .int .i64 c.f2, .int .i64 c.f3, .int .i64 c.f4, .int .i64 c.f5, .int .i64 c.f6, .int .i64 c.f7, .int .i64 c.f8, .int .i64 c.f9, .int .i64 c.f10, .int .i64 c.f11], .int .i64 j] w fun e w' => e = .returned (.int .i64 r) ∧ Below w.heap.size w w' := by
  rw [lv_ref] at h
  injection h with h
  subst h
  exact level_calls c j w
theorem parent_at (c : Cf) (j r : Int) (w : World) (h : ltkref1_Parent.f 20 c.f0 c.f1 c.f2 c.f3 c.f4 c.f5 c.f6 c.f7 c.f8 c.f9 c.f10 c.f11 j = some r) : Calls Tryz.prog 60 #[.agg #[.int .i64 c.f0, .int .i64 c.f1, .int .i64 c.f2, .int .i64 c.f3, .int .i64 c.f4, .int .i64 c.f5, .int .i64 c.f6, .int .i64 c.f7, .int .i64 c.f8, .int .i64 c.f9, .int .i64 c.f10, .int .i64 c.f11], .int .i64 j] w fun e w' => e = .returned (.int .i64 r) ∧ Below w.heap.size w w' := by
  rw [pa_ref] at h
  injection h with h
  subst h
  exact parent_calls c j w
theorem nodes_at (c : Cf) (r : Int) (w : World) (h : ltkref1_Nodes.f 20 c.f0 c.f1 c.f2 c.f3 c.f4 c.f5 c.f6 c.f7 c.f8 c.f9 c.f10 c.f11 = some r) : Calls Tryz.prog 6 #[.agg #[.int .i64 c.f0, .int .i64 c.f1, .int .i64 c.f2, .int .i64 c.f3, .int .i64 c.f4, .int .i64 c.f5, .int .i64 c.f6, .int .i64 c.f7, .int .i64 c.f8, .int .i64 c.f9, .int .i64 c.f10, .int .i64 c.f11]] w fun e w' => e = .returned (.int .i64 r) ∧ Below w.heap.size w w' := by
  have e : nodX c = r := by unfold nodX; rw [h]; rfl
  rw [← e]
  exact nodes_calls c w
end Go.Proofs.YtkceadieigpolaaGreat.Ln
