import Derived.Test.YtaaekmcmpjljgaaGreatK20
/- CoreTwo: the walk (printed by gentwo.py). -/
namespace Go.Proofs.YtaaekmcmpjljgaaGreat.Co
open Go.RowKit Go.Proofs.YtaaekmcmpjljgaaGreatW.PrintWords Go.Proofs.YtaaekmcmpjljgaaGreatW.PrintLast Go.Proofs.YtaaekmcmpjljgaaGreatW.PrintMore Go.Proofs.YtaaekmcmpjljgaaGreat.PMd Go.Proofs.YtaaekmcmpjljgaaGreat.Ln Go.Proofs.YtaaekmcmpjljgaaGreat.Gr
open Go.Maps
set_option linter.unusedVariables false
set_option linter.unusedSimpArgs false
theorem chk1_0 : shape_Check.f 2 1 1 1 2 0 1 9 1 0 9 1 = some 0 ∧ shape_Words.f 2 1 1 1 2 0 1 9 1 0 9 1 = some 2 ∧ shape_Cells.f 2 1 1 1 2 0 1 9 1 0 9 1 = some 18 ∧ shape_Nodes.f 2 1 1 1 2 0 1 9 1 0 9 1 = some 6 := by decide +kernel
theorem val1_0 : Good (t5 1 0 1) 2 ∧ Good (t7 1 0 1) 2 ∧ Good (t8 1 0 1) 2 ∧ doomOf (t6 1 0 1).s 1 = 0 ∧ (t8 1 0 1).told 2 = [] ∧ doomOf (t9 1 0 1).s 1 = 7 ∧ doomOf (t10 1 0 1).s 1 = 7 ∧ doomOf (t11 1 0 1).s 1 = 0 ∧ doomOf (t11 1 0 1).s 0 = 0 := by decide +kernel
theorem len1_0 : Lens (t0 1).s ∧ Lens (t1 1 0 1).s ∧ Lens (t6 1 0 1).s ∧ Lens (t9 1 0 1).s ∧ Lens (t10 1 0 1).s ∧ Lens (t11 1 0 1).s ∧ Small (t2 1 0 1).ls ∧ Small (t3 1 0 1).ls ∧ Small (t4 1 0 1).ls ∧ Small (t6 1 0 1).ls := by decide +kernel
set_option maxHeartbeats 16000000 in
set_option maxRecDepth 100000 in
theorem two1_0 (w : World) : Calls Tryz.prog 4 #[.int .i64 1, .bool false] w fun e w' => e = .returned (.bool true) ∧ Below w.heap.size w w' := by
  have hu := Tryz.underlying24
  have hu2 := Tryz.underlying36
  have hu3 := Tryz.underlying73
  have HF := Aside0.mk (coreFirst_ w)
  have HN := Aside0.mk (fun W (A : Option Addr) (hr : Kd.C (Kd.int .i64) W A 2 [0, 0]) => (show Calls Tryz.prog 8 #[.agg #[.int .i64 2, .int .i64 1, .int .i64 1, .int .i64 1, .int .i64 2, .int .i64 0, .int .i64 1, .int .i64 9, .int .i64 1, .int .i64 0, .int .i64 9, .int .i64 1], .slice A 2 2] W (Made (fun W tb FT => IsTab W tb FT (List.replicate 6 zL) 9 0 (fun _ => none)) W (c2 1) [0, 0] 18 2) from coreNew_ (movesT 6 9) (c2 1) A 2 [0, 0] W 18 6 hr (Nat.le_refl _) chk1_0.1 chk1_0.2.1 chk1_0.2.2.1 chk1_0.2.2.2 (by simp) (by simp) (by omega) (newsT 6 9 (by omega) (by omega) (by omega) (by omega)) (by decide) (by decide) (by decide) (by decide)))
  obtain ⟨g5, g7, g8, v6, v8, v9, v10, v11, v12⟩ := val1_0
  obtain ⟨l0, l1, l6, l9, l10, l11, m2, m3, m4, m6⟩ := len1_0
  have HG := Aside0.mk (And.intro g5 (And.intro g7 g8))
  have HM := Aside0.mk (And.intro m2 (And.intro m3 (And.intro m4 m6)))
  have HL := Aside0.mk (And.intro l0 (And.intro l1 (And.intro l6 (And.intro l9 (And.intro l10 l11)))))
  have HV := Aside0.mk (And.intro v6 (And.intro v8 (And.intro v9 (And.intro v10 (And.intro v11 v12)))))
  clear g5 g7 g8 v6 v8 v9 v10 v11 v12 l0 l1 l6 l9 l10 l11 m2 m3 m4 m6
  go_enter Tryz.func4, Tryz.ntmps4
  go_wp2_with fail
  refine HF.out.mono ?_
  rintro e w1 ⟨rfl, hb1⟩
  have HB1 := Aside0.mk hb1
  clear hb1 HF
  go_wp2_with fail
  refine (HN.out _ _ (by
    have := slice_two0 (w := w1.alloc (.cells #[.int .i64 2, .int .i64 1, .int .i64 1, .int .i64 1, .int .i64 2, .int .i64 0, .int .i64 1, .int .i64 9, .int .i64 1, .int .i64 0, .int .i64 9, .int .i64 1] 24)) 0 0
    rwa [show (w1.alloc (.cells #[.int .i64 2, .int .i64 1, .int .i64 1, .int .i64 1, .int .i64 2, .int .i64 0, .int .i64 1, .int .i64 9, .int .i64 1, .int .i64 0, .int .i64 9, .int .i64 1] 24)).heap.size = w1.heap.size + 1 from by simp] at this)).mono ?_
  intro e w2 hmade
  obtain ⟨b, P, rfl, hk⟩ := kl_made hmade
  have HB2 := Aside0.mk (below_then HB1.out HB1.out.size (below_alloc (below_alloc (Below.refl w1.heap.size w1) (.cells #[.int .i64 2, .int .i64 1, .int .i64 1, .int .i64 1, .int .i64 2, .int .i64 0, .int .i64 1, .int .i64 9, .int .i64 1, .int .i64 0, .int .i64 9, .int .i64 1] 24)) (.cells #[.int .i64 0, .int .i64 0] 3)))
  have HK := Aside0.mk (show Kl _ w2 b P 9 0 (t0 1) from hk)
  clear hmade hk HN
  have z0 := HK.out.at0
  go_wp2_with fail
  refine (kl_table HK.out).mono ?_
  rintro e w3 ⟨rfl, rfl⟩
  clear z0
  go_wp2_with fail
  refine (kl_live HK.out HL.out.1 0 1).mono ?_
  rintro e wn ⟨rfl, hk⟩
  replace HK := Aside0.mk (show Kl _ wn b P 9 0 (t1 1 0 1) from hk)
  clear hk
  have z0 := HK.out.at0
  clear z0
  go_wp2_with fail
  refine (kl_live HK.out HL.out.2.1 1 2).mono ?_
  rintro e wn ⟨rfl, hk⟩
  replace HK := Aside0.mk (show Kl _ wn b P 9 0 (t2 1 0 1) from hk)
  clear hk
  have z0 := HK.out.at0
  go_wp2_with fail
  refine (kl_table HK.out).mono ?_
  rintro e wt ⟨rfl, rfl⟩
  go_wp2_with fail
  clear z0
  refine (kl_ask HK.out HM.out.1 (by omega) 0 0 5 (by decide)).mono ?_
  rintro e wn ⟨⟨ra, ga, rfl⟩, hk⟩
  replace HK := Aside0.mk (show Kl _ wn b P 9 1 (t3 1 0 1) from hk)
  clear hk
  have z0 := HK.out.at0
  go_wp2_with fail
  refine (kl_table HK.out).mono ?_
  rintro e wt ⟨rfl, rfl⟩
  go_wp2_with fail
  clear z0
  refine (kl_ask HK.out HM.out.2.1 (by omega) 1 1 5 (by decide)).mono ?_
  rintro e wn ⟨⟨ra, ga, rfl⟩, hk⟩
  replace HK := Aside0.mk (show Kl _ wn b P 9 2 (t4 1 0 1) from hk)
  clear hk
  have z0 := HK.out.at0
  go_wp2_with fail
  refine (kl_table HK.out).mono ?_
  rintro e wt ⟨rfl, rfl⟩
  go_wp2_with fail
  clear z0
  refine (kl_ask HK.out HM.out.2.2.1 (by omega) 1 0 5 (by decide)).mono ?_
  rintro e wn ⟨⟨ra, ga, rfl⟩, hk⟩
  replace HK := Aside0.mk (show Kl _ wn b P 9 3 (t5 1 0 1) from hk)
  clear hk
  have z0 := HK.out.at0
  go_wp2_with fail
  clear z0
  refine (kl_marks HK.out (by omega) HG.out.1 (fi5 1 0 1 (by decide) (by decide) (by decide) (by decide))).mono ?_
  rintro e wn ⟨rfl, hk⟩
  replace HK := Aside0.mk (show Kl _ wn b P 9 3 (t6 1 0 1) from hk)
  clear hk
  have z0 := HK.out.at0
  go_wp2_with fail
  refine (kl_doom HK.out HL.out.2.2.1 1).mono ?_
  rintro e wd ⟨rfl, rfl⟩
  rw [HV.out.1]
  go_wp2_with fail
  refine (kl_table HK.out).mono ?_
  rintro e wt ⟨rfl, rfl⟩
  go_wp2_with fail
  clear z0
  refine (kl_ask HK.out HM.out.2.2.2 (by omega) 0 1 5 (by decide)).mono ?_
  rintro e wn ⟨⟨ra, ga, rfl⟩, hk⟩
  replace HK := Aside0.mk (show Kl _ wn b P 9 4 (t7 1 0 1) from hk)
  clear hk
  have z0 := HK.out.at0
  go_wp2_with fail
  clear z0
  refine (kl_marks HK.out (by omega) HG.out.2.1 (fi7 1 0 1 (by decide) (by decide) (by decide) (by decide))).mono ?_
  rintro e wn ⟨rfl, hk⟩
  replace HK := Aside0.mk (show Kl _ wn b P 9 4 (t8 1 0 1) from hk)
  clear hk
  have z0 := HK.out.at0
  go_wp2_with fail
  clear z0
  refine (kl_tick HK.out (by omega) HG.out.2.2 (fi8 1 0 1 (by decide) (by decide) (by decide) (by decide))).mono ?_
  rintro e wn ⟨⟨At, ct, rfl, hrt⟩, hk⟩
  replace HK := Aside0.mk (show Kl _ wn b P 9 4 (t9 1 0 1) from hk)
  rw [HV.out.2.1] at hrt ⊢
  have hbs := blk_new wn (.cells #[.int .i64 9, .int .i64 7, .int .i64 8] 26)
  have HK2 := Aside0.mk (HK.out.below (below_alloc (Below.refl wn.heap.size wn) (.cells #[.int .i64 9, .int .i64 7, .int .i64 8] 26)))
  have y0 : (wn.alloc (.cells #[.int .i64 9, .int .i64 7, .int .i64 8] 26)).cell? ⟨wn.heap.size, 1, none⟩ = some (.int .i64 7) := (blk_cell hbs 1).trans rfl
  clear hk hrt hbs
  have HKx := HK
  replace HK := HK2
  clear HK2
  have z0 := HK.out.at0
  go_wp2_with fail
  refine (kl_doom HK.out HL.out.2.2.2.1 1).mono ?_
  rintro e wd ⟨rfl, rfl⟩
  rw [HV.out.2.2.1]
  go_wp2_with fail
  clear z0
  refine (kl_ends HK.out HL.out.2.2.2.1 1).mono ?_
  rintro e we ⟨rfl, hk⟩
  replace HK := Aside0.mk (show Kl _ we b P 9 4 (t10 1 0 1) from hk)
  clear hk
  have z0 := HK.out.at0
  go_wp2_with fail
  refine (kl_doom HK.out HL.out.2.2.2.2.1 1).mono ?_
  rintro e wd ⟨rfl, rfl⟩
  rw [HV.out.2.2.2.1]
  clear z0
  go_wp2_with fail
  refine (kl_live HK.out HL.out.2.2.2.2.1 1 2).mono ?_
  rintro e wn ⟨rfl, hk⟩
  replace HK := Aside0.mk (show Kl _ wn b P 9 4 (t11 1 0 1) from hk)
  clear hk
  have z0 := HK.out.at0
  go_wp2_with fail
  refine (coreFirst_ _).mono ?_
  rintro e wf ⟨rfl, hbf⟩
  replace HK := Aside0.mk (HK.out.below hbf)
  clear hbf z0
  have z0 := HK.out.at0
  go_wp2_with fail
  refine (kl_doom HK.out HL.out.2.2.2.2.2 1).mono ?_
  rintro e wd ⟨rfl, rfl⟩
  rw [HV.out.2.2.2.2.1]
  go_wp2_with fail
  refine (kl_doom HK.out HL.out.2.2.2.2.2 0).mono ?_
  rintro e wd ⟨rfl, rfl⟩
  rw [HV.out.2.2.2.2.2]
  go_wp2_with fail
  go_ret
  exact ⟨rfl, below_then HB2.out HB2.out.size HK.out.base⟩
theorem chk1_1 : shape_Check.f 2 1 1 1 2 0 1 9 1 0 9 1 = some 0 ∧ shape_Words.f 2 1 1 1 2 0 1 9 1 0 9 1 = some 2 ∧ shape_Cells.f 2 1 1 1 2 0 1 9 1 0 9 1 = some 18 ∧ shape_Nodes.f 2 1 1 1 2 0 1 9 1 0 9 1 = some 6 := by decide +kernel
theorem val1_1 : Good (t5 1 1 0) 2 ∧ Good (t7 1 1 0) 2 ∧ Good (t8 1 1 0) 2 ∧ doomOf (t6 1 1 0).s 0 = 0 ∧ (t8 1 1 0).told 2 = [] ∧ doomOf (t9 1 1 0).s 0 = 7 ∧ doomOf (t10 1 1 0).s 0 = 7 ∧ doomOf (t11 1 1 0).s 0 = 0 ∧ doomOf (t11 1 1 0).s 1 = 0 := by decide +kernel
theorem len1_1 : Lens (t0 1).s ∧ Lens (t1 1 1 0).s ∧ Lens (t6 1 1 0).s ∧ Lens (t9 1 1 0).s ∧ Lens (t10 1 1 0).s ∧ Lens (t11 1 1 0).s ∧ Small (t2 1 1 0).ls ∧ Small (t3 1 1 0).ls ∧ Small (t4 1 1 0).ls ∧ Small (t6 1 1 0).ls := by decide +kernel
set_option maxHeartbeats 16000000 in
set_option maxRecDepth 100000 in
theorem two1_1 (w : World) : Calls Tryz.prog 4 #[.int .i64 1, .bool true] w fun e w' => e = .returned (.bool true) ∧ Below w.heap.size w w' := by
  have hu := Tryz.underlying24
  have hu2 := Tryz.underlying36
  have hu3 := Tryz.underlying73
  have HF := Aside0.mk (coreFirst_ w)
  have HN := Aside0.mk (fun W (A : Option Addr) (hr : Kd.C (Kd.int .i64) W A 2 [0, 0]) => (show Calls Tryz.prog 8 #[.agg #[.int .i64 2, .int .i64 1, .int .i64 1, .int .i64 1, .int .i64 2, .int .i64 0, .int .i64 1, .int .i64 9, .int .i64 1, .int .i64 0, .int .i64 9, .int .i64 1], .slice A 2 2] W (Made (fun W tb FT => IsTab W tb FT (List.replicate 6 zL) 9 0 (fun _ => none)) W (c2 1) [0, 0] 18 2) from coreNew_ (movesT 6 9) (c2 1) A 2 [0, 0] W 18 6 hr (Nat.le_refl _) chk1_1.1 chk1_1.2.1 chk1_1.2.2.1 chk1_1.2.2.2 (by simp) (by simp) (by omega) (newsT 6 9 (by omega) (by omega) (by omega) (by omega)) (by decide) (by decide) (by decide) (by decide)))
  obtain ⟨g5, g7, g8, v6, v8, v9, v10, v11, v12⟩ := val1_1
  obtain ⟨l0, l1, l6, l9, l10, l11, m2, m3, m4, m6⟩ := len1_1
  have HG := Aside0.mk (And.intro g5 (And.intro g7 g8))
  have HM := Aside0.mk (And.intro m2 (And.intro m3 (And.intro m4 m6)))
  have HL := Aside0.mk (And.intro l0 (And.intro l1 (And.intro l6 (And.intro l9 (And.intro l10 l11)))))
  have HV := Aside0.mk (And.intro v6 (And.intro v8 (And.intro v9 (And.intro v10 (And.intro v11 v12)))))
  clear g5 g7 g8 v6 v8 v9 v10 v11 v12 l0 l1 l6 l9 l10 l11 m2 m3 m4 m6
  go_enter Tryz.func4, Tryz.ntmps4
  go_wp2_with fail
  refine HF.out.mono ?_
  rintro e w1 ⟨rfl, hb1⟩
  have HB1 := Aside0.mk hb1
  clear hb1 HF
  go_wp2_with fail
  refine (HN.out _ _ (by
    have := slice_two0 (w := w1.alloc (.cells #[.int .i64 2, .int .i64 1, .int .i64 1, .int .i64 1, .int .i64 2, .int .i64 0, .int .i64 1, .int .i64 9, .int .i64 1, .int .i64 0, .int .i64 9, .int .i64 1] 24)) 0 0
    rwa [show (w1.alloc (.cells #[.int .i64 2, .int .i64 1, .int .i64 1, .int .i64 1, .int .i64 2, .int .i64 0, .int .i64 1, .int .i64 9, .int .i64 1, .int .i64 0, .int .i64 9, .int .i64 1] 24)).heap.size = w1.heap.size + 1 from by simp] at this)).mono ?_
  intro e w2 hmade
  obtain ⟨b, P, rfl, hk⟩ := kl_made hmade
  have HB2 := Aside0.mk (below_then HB1.out HB1.out.size (below_alloc (below_alloc (Below.refl w1.heap.size w1) (.cells #[.int .i64 2, .int .i64 1, .int .i64 1, .int .i64 1, .int .i64 2, .int .i64 0, .int .i64 1, .int .i64 9, .int .i64 1, .int .i64 0, .int .i64 9, .int .i64 1] 24)) (.cells #[.int .i64 0, .int .i64 0] 3)))
  have HK := Aside0.mk (show Kl _ w2 b P 9 0 (t0 1) from hk)
  clear hmade hk HN
  have z0 := HK.out.at0
  go_wp2_with fail
  refine (kl_table HK.out).mono ?_
  rintro e w3 ⟨rfl, rfl⟩
  clear z0
  go_wp2_with fail
  refine (kl_live HK.out HL.out.1 1 1).mono ?_
  rintro e wn ⟨rfl, hk⟩
  replace HK := Aside0.mk (show Kl _ wn b P 9 0 (t1 1 1 0) from hk)
  clear hk
  have z0 := HK.out.at0
  clear z0
  go_wp2_with fail
  refine (kl_live HK.out HL.out.2.1 0 2).mono ?_
  rintro e wn ⟨rfl, hk⟩
  replace HK := Aside0.mk (show Kl _ wn b P 9 0 (t2 1 1 0) from hk)
  clear hk
  have z0 := HK.out.at0
  go_wp2_with fail
  refine (kl_table HK.out).mono ?_
  rintro e wt ⟨rfl, rfl⟩
  go_wp2_with fail
  clear z0
  refine (kl_ask HK.out HM.out.1 (by omega) 1 0 5 (by decide)).mono ?_
  rintro e wn ⟨⟨ra, ga, rfl⟩, hk⟩
  replace HK := Aside0.mk (show Kl _ wn b P 9 1 (t3 1 1 0) from hk)
  clear hk
  have z0 := HK.out.at0
  go_wp2_with fail
  refine (kl_table HK.out).mono ?_
  rintro e wt ⟨rfl, rfl⟩
  go_wp2_with fail
  clear z0
  refine (kl_ask HK.out HM.out.2.1 (by omega) 0 1 5 (by decide)).mono ?_
  rintro e wn ⟨⟨ra, ga, rfl⟩, hk⟩
  replace HK := Aside0.mk (show Kl _ wn b P 9 2 (t4 1 1 0) from hk)
  clear hk
  have z0 := HK.out.at0
  go_wp2_with fail
  refine (kl_table HK.out).mono ?_
  rintro e wt ⟨rfl, rfl⟩
  go_wp2_with fail
  clear z0
  refine (kl_ask HK.out HM.out.2.2.1 (by omega) 0 0 5 (by decide)).mono ?_
  rintro e wn ⟨⟨ra, ga, rfl⟩, hk⟩
  replace HK := Aside0.mk (show Kl _ wn b P 9 3 (t5 1 1 0) from hk)
  clear hk
  have z0 := HK.out.at0
  go_wp2_with fail
  clear z0
  refine (kl_marks HK.out (by omega) HG.out.1 (fi5 1 1 0 (by decide) (by decide) (by decide) (by decide))).mono ?_
  rintro e wn ⟨rfl, hk⟩
  replace HK := Aside0.mk (show Kl _ wn b P 9 3 (t6 1 1 0) from hk)
  clear hk
  have z0 := HK.out.at0
  go_wp2_with fail
  refine (kl_doom HK.out HL.out.2.2.1 0).mono ?_
  rintro e wd ⟨rfl, rfl⟩
  rw [HV.out.1]
  go_wp2_with fail
  refine (kl_table HK.out).mono ?_
  rintro e wt ⟨rfl, rfl⟩
  go_wp2_with fail
  clear z0
  refine (kl_ask HK.out HM.out.2.2.2 (by omega) 1 1 5 (by decide)).mono ?_
  rintro e wn ⟨⟨ra, ga, rfl⟩, hk⟩
  replace HK := Aside0.mk (show Kl _ wn b P 9 4 (t7 1 1 0) from hk)
  clear hk
  have z0 := HK.out.at0
  go_wp2_with fail
  clear z0
  refine (kl_marks HK.out (by omega) HG.out.2.1 (fi7 1 1 0 (by decide) (by decide) (by decide) (by decide))).mono ?_
  rintro e wn ⟨rfl, hk⟩
  replace HK := Aside0.mk (show Kl _ wn b P 9 4 (t8 1 1 0) from hk)
  clear hk
  have z0 := HK.out.at0
  go_wp2_with fail
  clear z0
  refine (kl_tick HK.out (by omega) HG.out.2.2 (fi8 1 1 0 (by decide) (by decide) (by decide) (by decide))).mono ?_
  rintro e wn ⟨⟨At, ct, rfl, hrt⟩, hk⟩
  replace HK := Aside0.mk (show Kl _ wn b P 9 4 (t9 1 1 0) from hk)
  rw [HV.out.2.1] at hrt ⊢
  have hbs := blk_new wn (.cells #[.int .i64 9, .int .i64 7, .int .i64 8] 26)
  have HK2 := Aside0.mk (HK.out.below (below_alloc (Below.refl wn.heap.size wn) (.cells #[.int .i64 9, .int .i64 7, .int .i64 8] 26)))
  have y0 : (wn.alloc (.cells #[.int .i64 9, .int .i64 7, .int .i64 8] 26)).cell? ⟨wn.heap.size, 1, none⟩ = some (.int .i64 7) := (blk_cell hbs 1).trans rfl
  clear hk hrt hbs
  have HKx := HK
  replace HK := HK2
  clear HK2
  have z0 := HK.out.at0
  go_wp2_with fail
  refine (kl_doom HK.out HL.out.2.2.2.1 0).mono ?_
  rintro e wd ⟨rfl, rfl⟩
  rw [HV.out.2.2.1]
  go_wp2_with fail
  clear z0
  refine (kl_ends HK.out HL.out.2.2.2.1 0).mono ?_
  rintro e we ⟨rfl, hk⟩
  replace HK := Aside0.mk (show Kl _ we b P 9 4 (t10 1 1 0) from hk)
  clear hk
  have z0 := HK.out.at0
  go_wp2_with fail
  refine (kl_doom HK.out HL.out.2.2.2.2.1 0).mono ?_
  rintro e wd ⟨rfl, rfl⟩
  rw [HV.out.2.2.2.1]
  clear z0
  go_wp2_with fail
  refine (kl_live HK.out HL.out.2.2.2.2.1 0 2).mono ?_
  rintro e wn ⟨rfl, hk⟩
  replace HK := Aside0.mk (show Kl _ wn b P 9 4 (t11 1 1 0) from hk)
  clear hk
  have z0 := HK.out.at0
  go_wp2_with fail
  refine (coreFirst_ _).mono ?_
  rintro e wf ⟨rfl, hbf⟩
  replace HK := Aside0.mk (HK.out.below hbf)
  clear hbf z0
  have z0 := HK.out.at0
  go_wp2_with fail
  refine (kl_doom HK.out HL.out.2.2.2.2.2 0).mono ?_
  rintro e wd ⟨rfl, rfl⟩
  rw [HV.out.2.2.2.2.1]
  go_wp2_with fail
  refine (kl_doom HK.out HL.out.2.2.2.2.2 1).mono ?_
  rintro e wd ⟨rfl, rfl⟩
  rw [HV.out.2.2.2.2.2]
  go_wp2_with fail
  go_ret
  exact ⟨rfl, below_then HB2.out HB2.out.size HK.out.base⟩
end Go.Proofs.YtaaekmcmpjljgaaGreat.Co
