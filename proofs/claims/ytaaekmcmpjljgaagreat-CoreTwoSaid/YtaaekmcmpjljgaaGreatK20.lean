import Derived.Test.YtaaekmcmpjljgaaGreatKA
/- CoreTwo: the walk (printed by gentwo.py). -/
namespace Go.Proofs.YtaaekmcmpjljgaaGreat.Co
open Go.RowKit Go.Proofs.YtaaekmcmpjljgaaGreatW.PrintWords Go.Proofs.YtaaekmcmpjljgaaGreatW.PrintLast Go.Proofs.YtaaekmcmpjljgaaGreatW.PrintMore Go.Proofs.YtaaekmcmpjljgaaGreat.PMd Go.Proofs.YtaaekmcmpjljgaaGreat.Ln Go.Proofs.YtaaekmcmpjljgaaGreat.Gr
open Go.Maps
set_option linter.unusedVariables false
set_option linter.unusedSimpArgs false
theorem slice_two0 {w : World} (x y : Int) : Kd.C (Kd.int .i64) (w.alloc (.cells #[.int .i64 x, .int .i64 y] 3)) (some ⟨w.heap.size, 0, none⟩) 2 [x, y] := (two_row w x y).readsI
def c2 (pol : Int) : Cf := ⟨2, 1, 1, 1, 2, 0, 1, 9, 1, 0, 9, pol⟩
def t0 (pol : Int) : KT := fresh (c2 pol) [0, 0] 18 2 6
def t1 (pol el yo : Int) : KT := (t0 pol).live el 1
def t2 (pol el yo : Int) : KT := (t1 pol el yo).live yo 2
def t3 (pol el yo : Int) : KT := (t2 pol el yo).ask 9 el 0 5
def t4 (pol el yo : Int) : KT := (t3 pol el yo).ask 9 yo 1 5
def t5 (pol el yo : Int) : KT := (t4 pol el yo).ask 9 yo 0 5
def t6 (pol el yo : Int) : KT := (t5 pol el yo).marks 2
def t7 (pol el yo : Int) : KT := (t6 pol el yo).ask 9 el 1 5
def t8 (pol el yo : Int) : KT := (t7 pol el yo).marks 2
def t9 (pol el yo : Int) : KT := (t8 pol el yo).tick 2
def t10 (pol el yo : Int) : KT := (t9 pol el yo).ends yo
def t11 (pol el yo : Int) : KT := (t10 pol el yo).live yo 2
theorem fi0 (pol : Int) : FInv (t0 pol) 2 := fresh_finv _ _ _ _ _ _ (by omega)
theorem fi5 (pol el yo : Int) (h1 : 0 ≤ el) (h2 : el < 2) (h3 : 0 ≤ yo) (h4 : yo < 2) : FInv (t5 pol el yo) 2 := by
  have h := fi0 pol
  have a2 : FInv (t2 pol el yo) 2 := h
  exact finv_ask (finv_ask (finv_ask a2 9 el 0 5 h1 h2) 9 yo 1 5 h3 h4) 9 yo 0 5 h3 h4
theorem fi7 (pol el yo : Int) (h1 : 0 ≤ el) (h2 : el < 2) (h3 : 0 ≤ yo) (h4 : yo < 2) : FInv (t7 pol el yo) 2 := by
  have a6 : FInv (t6 pol el yo) 2 := fi5 pol el yo h1 h2 h3 h4
  exact finv_ask a6 9 el 1 5 h1 h2
theorem fi8 (pol el yo : Int) (h1 : 0 ≤ el) (h2 : el < 2) (h3 : 0 ≤ yo) (h4 : yo < 2) : FInv (t8 pol el yo) 2 := fi7 pol el yo h1 h2 h3 h4
theorem chk0_0 : shape_Check.f 2 1 1 1 2 0 1 9 1 0 9 0 = some 0 ∧ shape_Words.f 2 1 1 1 2 0 1 9 1 0 9 0 = some 2 ∧ shape_Cells.f 2 1 1 1 2 0 1 9 1 0 9 0 = some 18 ∧ shape_Nodes.f 2 1 1 1 2 0 1 9 1 0 9 0 = some 6 := by decide +kernel
theorem val0_0 : Good (t5 0 0 1) 2 ∧ Good (t7 0 0 1) 2 ∧ Good (t8 0 0 1) 2 ∧ doomOf (t6 0 0 1).s 1 = 0 ∧ (t8 0 0 1).told 2 = [1] ∧ doomOf (t9 0 0 1).s 1 = 9 ∧ doomOf (t10 0 0 1).s 1 = 9 ∧ doomOf (t11 0 0 1).s 1 = 0 ∧ doomOf (t11 0 0 1).s 0 = 0 := by decide +kernel
theorem len0_0 : Lens (t0 0).s ∧ Lens (t1 0 0 1).s ∧ Lens (t6 0 0 1).s ∧ Lens (t9 0 0 1).s ∧ Lens (t10 0 0 1).s ∧ Lens (t11 0 0 1).s ∧ Small (t2 0 0 1).ls ∧ Small (t3 0 0 1).ls ∧ Small (t4 0 0 1).ls ∧ Small (t6 0 0 1).ls := by decide +kernel
set_option maxHeartbeats 16000000 in
set_option maxRecDepth 100000 in
theorem two0_0 (w : World) : Calls Tryz.prog 4 #[.int .i64 0, .bool false] w fun e w' => e = .returned (.bool true) ∧ Below w.heap.size w w' := by
  have hu := Tryz.underlying24
  have hu2 := Tryz.underlying36
  have hu3 := Tryz.underlying73
  have HF := Aside0.mk (coreFirst_ w)
  have HN := Aside0.mk (fun W (A : Option Addr) (hr : Kd.C (Kd.int .i64) W A 2 [0, 0]) => (show Calls Tryz.prog 8 #[.agg #[.int .i64 2, .int .i64 1, .int .i64 1, .int .i64 1, .int .i64 2, .int .i64 0, .int .i64 1, .int .i64 9, .int .i64 1, .int .i64 0, .int .i64 9, .int .i64 0], .slice A 2 2] W (Made (fun W tb FT => IsTab W tb FT (List.replicate 6 zL) 9 0 (fun _ => none)) W (c2 0) [0, 0] 18 2) from coreNew_ (movesT 6 9) (c2 0) A 2 [0, 0] W 18 6 hr (Nat.le_refl _) chk0_0.1 chk0_0.2.1 chk0_0.2.2.1 chk0_0.2.2.2 (by simp) (by simp) (by omega) (newsT 6 9 (by omega) (by omega) (by omega) (by omega)) (by decide) (by decide) (by decide) (by decide)))
  obtain ⟨g5, g7, g8, v6, v8, v9, v10, v11, v12⟩ := val0_0
  obtain ⟨l0, l1, l6, l9, l10, l11, m2, m3, m4, m6⟩ := len0_0
  have HG := Aside0.mk (And.intro g5 (And.intro g7 g8))
  have HM := Aside0.mk (And.intro m2 (And.intro m3 (And.intro m4 m6)))
  have HL := Aside0.mk (And.intro l0 (And.intro l1 (And.intro l6 (And.intro l9 (And.intro l10 l11)))))
  have HV := Aside0.mk (And.intro v6 (And.intro v8 (And.intro v9 (And.intro v10 (And.intro v11 v12)))))
  clear g5 g7 g8 v6 v8 v9 v10 v11 v12 l0 l1 l6 l9 l10 l11 m2 m3 m4 m6
  go_enter Tryz.func4, Tryz.ntmps4
  go_wp2_with fail
  refine HF.out.mono ?_
  rintro e w1 ⟨rfl, hb1⟩
  have HB1 := Aside0.mk hb1
  clear hb1 HF
  go_wp2_with fail
  refine (HN.out _ _ (by
    have := slice_two0 (w := w1.alloc (.cells #[.int .i64 2, .int .i64 1, .int .i64 1, .int .i64 1, .int .i64 2, .int .i64 0, .int .i64 1, .int .i64 9, .int .i64 1, .int .i64 0, .int .i64 9, .int .i64 0] 24)) 0 0
    rwa [show (w1.alloc (.cells #[.int .i64 2, .int .i64 1, .int .i64 1, .int .i64 1, .int .i64 2, .int .i64 0, .int .i64 1, .int .i64 9, .int .i64 1, .int .i64 0, .int .i64 9, .int .i64 0] 24)).heap.size = w1.heap.size + 1 from by simp] at this)).mono ?_
  intro e w2 hmade
  obtain ⟨b, P, rfl, hk⟩ := kl_made hmade
  have HB2 := Aside0.mk (below_then HB1.out HB1.out.size (below_alloc (below_alloc (Below.refl w1.heap.size w1) (.cells #[.int .i64 2, .int .i64 1, .int .i64 1, .int .i64 1, .int .i64 2, .int .i64 0, .int .i64 1, .int .i64 9, .int .i64 1, .int .i64 0, .int .i64 9, .int .i64 0] 24)) (.cells #[.int .i64 0, .int .i64 0] 3)))
  have HK := Aside0.mk (show Kl _ w2 b P 9 0 (t0 0) from hk)
  clear hmade hk HN
  have z0 := HK.out.at0
  go_wp2_with fail
  refine (kl_table HK.out).mono ?_
  rintro e w3 ⟨rfl, rfl⟩
  clear z0
  go_wp2_with fail
  refine (kl_live HK.out HL.out.1 0 1).mono ?_
  rintro e wn ⟨rfl, hk⟩
  replace HK := Aside0.mk (show Kl _ wn b P 9 0 (t1 0 0 1) from hk)
  clear hk
  have z0 := HK.out.at0
  clear z0
  go_wp2_with fail
  refine (kl_live HK.out HL.out.2.1 1 2).mono ?_
  rintro e wn ⟨rfl, hk⟩
  replace HK := Aside0.mk (show Kl _ wn b P 9 0 (t2 0 0 1) from hk)
  clear hk
  have z0 := HK.out.at0
  go_wp2_with fail
  refine (kl_table HK.out).mono ?_
  rintro e wt ⟨rfl, rfl⟩
  go_wp2_with fail
  clear z0
  refine (kl_ask HK.out HM.out.1 (by omega) 0 0 5 (by decide)).mono ?_
  rintro e wn ⟨⟨ra, ga, rfl⟩, hk⟩
  replace HK := Aside0.mk (show Kl _ wn b P 9 1 (t3 0 0 1) from hk)
  clear hk
  have z0 := HK.out.at0
  go_wp2_with fail
  refine (kl_table HK.out).mono ?_
  rintro e wt ⟨rfl, rfl⟩
  go_wp2_with fail
  clear z0
  refine (kl_ask HK.out HM.out.2.1 (by omega) 1 1 5 (by decide)).mono ?_
  rintro e wn ⟨⟨ra, ga, rfl⟩, hk⟩
  replace HK := Aside0.mk (show Kl _ wn b P 9 2 (t4 0 0 1) from hk)
  clear hk
  have z0 := HK.out.at0
  go_wp2_with fail
  refine (kl_table HK.out).mono ?_
  rintro e wt ⟨rfl, rfl⟩
  go_wp2_with fail
  clear z0
  refine (kl_ask HK.out HM.out.2.2.1 (by omega) 1 0 5 (by decide)).mono ?_
  rintro e wn ⟨⟨ra, ga, rfl⟩, hk⟩
  replace HK := Aside0.mk (show Kl _ wn b P 9 3 (t5 0 0 1) from hk)
  clear hk
  have z0 := HK.out.at0
  go_wp2_with fail
  clear z0
  refine (kl_marks HK.out (by omega) HG.out.1 (fi5 0 0 1 (by decide) (by decide) (by decide) (by decide))).mono ?_
  rintro e wn ⟨rfl, hk⟩
  replace HK := Aside0.mk (show Kl _ wn b P 9 3 (t6 0 0 1) from hk)
  clear hk
  have z0 := HK.out.at0
  go_wp2_with fail
  refine (kl_doom HK.out HL.out.2.2.1 1).mono ?_
  rintro e wd ⟨rfl, rfl⟩
  rw [HV.out.1]
  go_wp2_with fail
  refine (kl_table HK.out).mono ?_
  rintro e wt ⟨rfl, rfl⟩
  go_wp2_with fail
  clear z0
  refine (kl_ask HK.out HM.out.2.2.2 (by omega) 0 1 5 (by decide)).mono ?_
  rintro e wn ⟨⟨ra, ga, rfl⟩, hk⟩
  replace HK := Aside0.mk (show Kl _ wn b P 9 4 (t7 0 0 1) from hk)
  clear hk
  have z0 := HK.out.at0
  go_wp2_with fail
  clear z0
  refine (kl_marks HK.out (by omega) HG.out.2.1 (fi7 0 0 1 (by decide) (by decide) (by decide) (by decide))).mono ?_
  rintro e wn ⟨rfl, hk⟩
  replace HK := Aside0.mk (show Kl _ wn b P 9 4 (t8 0 0 1) from hk)
  clear hk
  have z0 := HK.out.at0
  go_wp2_with fail
  clear z0
  refine (kl_tick HK.out (by omega) HG.out.2.2 (fi8 0 0 1 (by decide) (by decide) (by decide) (by decide))).mono ?_
  rintro e wn ⟨⟨At, ct, rfl, hrt⟩, hk⟩
  replace HK := Aside0.mk (show Kl _ wn b P 9 4 (t9 0 0 1) from hk)
  rw [HV.out.2.1] at hrt ⊢
  obtain ⟨ad, hA, q0⟩ := Kd.at_int hrt.readsI (0 : Int) (by omega) (by simp)
  subst hA
  rw [show ad.add (Int.toNat 0) = ad from by cases ad; simp [Addr.add]] at q0
  have q1 := cell_al0 q0 (.cells #[.int .i64 9, .int .i64 7, .int .i64 8] 26)
  have hbs := blk_new wn (.cells #[.int .i64 9, .int .i64 7, .int .i64 8] 26)
  have HK2 := Aside0.mk (HK.out.below (below_alloc (Below.refl wn.heap.size wn) (.cells #[.int .i64 9, .int .i64 7, .int .i64 8] 26)))
  have y0 : (wn.alloc (.cells #[.int .i64 9, .int .i64 7, .int .i64 8] 26)).cell? ⟨wn.heap.size, 0, none⟩ = some (.int .i64 9) := (blk_cell hbs 0).trans rfl
  clear hk hrt hbs
  have HKx := HK
  replace HK := HK2
  clear HK2
  have z0 := HK.out.at0
  go_wp2_with fail
  refine (kl_doom HK.out HL.out.2.2.2.1 1).mono ?_
  rintro e wd ⟨rfl, rfl⟩
  rw [HV.out.2.2.1]
  go_wp2_with fail
  clear z0
  refine (kl_ends HK.out HL.out.2.2.2.1 1).mono ?_
  rintro e we ⟨rfl, hk⟩
  replace HK := Aside0.mk (show Kl _ we b P 9 4 (t10 0 0 1) from hk)
  clear hk
  have z0 := HK.out.at0
  go_wp2_with fail
  refine (kl_doom HK.out HL.out.2.2.2.2.1 1).mono ?_
  rintro e wd ⟨rfl, rfl⟩
  rw [HV.out.2.2.2.1]
  clear z0
  go_wp2_with fail
  refine (kl_live HK.out HL.out.2.2.2.2.1 1 2).mono ?_
  rintro e wn ⟨rfl, hk⟩
  replace HK := Aside0.mk (show Kl _ wn b P 9 4 (t11 0 0 1) from hk)
  clear hk
  have z0 := HK.out.at0
  go_wp2_with fail
  refine (coreFirst_ _).mono ?_
  rintro e wf ⟨rfl, hbf⟩
  replace HK := Aside0.mk (HK.out.below hbf)
  clear hbf z0
  have z0 := HK.out.at0
  go_wp2_with fail
  refine (kl_doom HK.out HL.out.2.2.2.2.2 1).mono ?_
  rintro e wd ⟨rfl, rfl⟩
  rw [HV.out.2.2.2.2.1]
  go_wp2_with fail
  refine (kl_doom HK.out HL.out.2.2.2.2.2 0).mono ?_
  rintro e wd ⟨rfl, rfl⟩
  rw [HV.out.2.2.2.2.2]
  go_wp2_with fail
  go_ret
  exact ⟨rfl, below_then HB2.out HB2.out.size HK.out.base⟩
theorem chk0_1 : shape_Check.f 2 1 1 1 2 0 1 9 1 0 9 0 = some 0 ∧ shape_Words.f 2 1 1 1 2 0 1 9 1 0 9 0 = some 2 ∧ shape_Cells.f 2 1 1 1 2 0 1 9 1 0 9 0 = some 18 ∧ shape_Nodes.f 2 1 1 1 2 0 1 9 1 0 9 0 = some 6 := by decide +kernel
theorem val0_1 : Good (t5 0 1 0) 2 ∧ Good (t7 0 1 0) 2 ∧ Good (t8 0 1 0) 2 ∧ doomOf (t6 0 1 0).s 0 = 0 ∧ (t8 0 1 0).told 2 = [0] ∧ doomOf (t9 0 1 0).s 0 = 9 ∧ doomOf (t10 0 1 0).s 0 = 9 ∧ doomOf (t11 0 1 0).s 0 = 0 ∧ doomOf (t11 0 1 0).s 1 = 0 := by decide +kernel
theorem len0_1 : Lens (t0 0).s ∧ Lens (t1 0 1 0).s ∧ Lens (t6 0 1 0).s ∧ Lens (t9 0 1 0).s ∧ Lens (t10 0 1 0).s ∧ Lens (t11 0 1 0).s ∧ Small (t2 0 1 0).ls ∧ Small (t3 0 1 0).ls ∧ Small (t4 0 1 0).ls ∧ Small (t6 0 1 0).ls := by decide +kernel
set_option maxHeartbeats 16000000 in
set_option maxRecDepth 100000 in
theorem two0_1 (w : World) : Calls Tryz.prog 4 #[.int .i64 0, .bool true] w fun e w' => e = .returned (.bool true) ∧ Below w.heap.size w w' := by
  have hu := Tryz.underlying24
  have hu2 := Tryz.underlying36
  have hu3 := Tryz.underlying73
  have HF := Aside0.mk (coreFirst_ w)
  have HN := Aside0.mk (fun W (A : Option Addr) (hr : Kd.C (Kd.int .i64) W A 2 [0, 0]) => (show Calls Tryz.prog 8 #[.agg #[.int .i64 2, .int .i64 1, .int .i64 1, .int .i64 1, .int .i64 2, .int .i64 0, .int .i64 1, .int .i64 9, .int .i64 1, .int .i64 0, .int .i64 9, .int .i64 0], .slice A 2 2] W (Made (fun W tb FT => IsTab W tb FT (List.replicate 6 zL) 9 0 (fun _ => none)) W (c2 0) [0, 0] 18 2) from coreNew_ (movesT 6 9) (c2 0) A 2 [0, 0] W 18 6 hr (Nat.le_refl _) chk0_1.1 chk0_1.2.1 chk0_1.2.2.1 chk0_1.2.2.2 (by simp) (by simp) (by omega) (newsT 6 9 (by omega) (by omega) (by omega) (by omega)) (by decide) (by decide) (by decide) (by decide)))
  obtain ⟨g5, g7, g8, v6, v8, v9, v10, v11, v12⟩ := val0_1
  obtain ⟨l0, l1, l6, l9, l10, l11, m2, m3, m4, m6⟩ := len0_1
  have HG := Aside0.mk (And.intro g5 (And.intro g7 g8))
  have HM := Aside0.mk (And.intro m2 (And.intro m3 (And.intro m4 m6)))
  have HL := Aside0.mk (And.intro l0 (And.intro l1 (And.intro l6 (And.intro l9 (And.intro l10 l11)))))
  have HV := Aside0.mk (And.intro v6 (And.intro v8 (And.intro v9 (And.intro v10 (And.intro v11 v12)))))
  clear g5 g7 g8 v6 v8 v9 v10 v11 v12 l0 l1 l6 l9 l10 l11 m2 m3 m4 m6
  go_enter Tryz.func4, Tryz.ntmps4
  go_wp2_with fail
  refine HF.out.mono ?_
  rintro e w1 ⟨rfl, hb1⟩
  have HB1 := Aside0.mk hb1
  clear hb1 HF
  go_wp2_with fail
  refine (HN.out _ _ (by
    have := slice_two0 (w := w1.alloc (.cells #[.int .i64 2, .int .i64 1, .int .i64 1, .int .i64 1, .int .i64 2, .int .i64 0, .int .i64 1, .int .i64 9, .int .i64 1, .int .i64 0, .int .i64 9, .int .i64 0] 24)) 0 0
    rwa [show (w1.alloc (.cells #[.int .i64 2, .int .i64 1, .int .i64 1, .int .i64 1, .int .i64 2, .int .i64 0, .int .i64 1, .int .i64 9, .int .i64 1, .int .i64 0, .int .i64 9, .int .i64 0] 24)).heap.size = w1.heap.size + 1 from by simp] at this)).mono ?_
  intro e w2 hmade
  obtain ⟨b, P, rfl, hk⟩ := kl_made hmade
  have HB2 := Aside0.mk (below_then HB1.out HB1.out.size (below_alloc (below_alloc (Below.refl w1.heap.size w1) (.cells #[.int .i64 2, .int .i64 1, .int .i64 1, .int .i64 1, .int .i64 2, .int .i64 0, .int .i64 1, .int .i64 9, .int .i64 1, .int .i64 0, .int .i64 9, .int .i64 0] 24)) (.cells #[.int .i64 0, .int .i64 0] 3)))
  have HK := Aside0.mk (show Kl _ w2 b P 9 0 (t0 0) from hk)
  clear hmade hk HN
  have z0 := HK.out.at0
  go_wp2_with fail
  refine (kl_table HK.out).mono ?_
  rintro e w3 ⟨rfl, rfl⟩
  clear z0
  go_wp2_with fail
  refine (kl_live HK.out HL.out.1 1 1).mono ?_
  rintro e wn ⟨rfl, hk⟩
  replace HK := Aside0.mk (show Kl _ wn b P 9 0 (t1 0 1 0) from hk)
  clear hk
  have z0 := HK.out.at0
  clear z0
  go_wp2_with fail
  refine (kl_live HK.out HL.out.2.1 0 2).mono ?_
  rintro e wn ⟨rfl, hk⟩
  replace HK := Aside0.mk (show Kl _ wn b P 9 0 (t2 0 1 0) from hk)
  clear hk
  have z0 := HK.out.at0
  go_wp2_with fail
  refine (kl_table HK.out).mono ?_
  rintro e wt ⟨rfl, rfl⟩
  go_wp2_with fail
  clear z0
  refine (kl_ask HK.out HM.out.1 (by omega) 1 0 5 (by decide)).mono ?_
  rintro e wn ⟨⟨ra, ga, rfl⟩, hk⟩
  replace HK := Aside0.mk (show Kl _ wn b P 9 1 (t3 0 1 0) from hk)
  clear hk
  have z0 := HK.out.at0
  go_wp2_with fail
  refine (kl_table HK.out).mono ?_
  rintro e wt ⟨rfl, rfl⟩
  go_wp2_with fail
  clear z0
  refine (kl_ask HK.out HM.out.2.1 (by omega) 0 1 5 (by decide)).mono ?_
  rintro e wn ⟨⟨ra, ga, rfl⟩, hk⟩
  replace HK := Aside0.mk (show Kl _ wn b P 9 2 (t4 0 1 0) from hk)
  clear hk
  have z0 := HK.out.at0
  go_wp2_with fail
  refine (kl_table HK.out).mono ?_
  rintro e wt ⟨rfl, rfl⟩
  go_wp2_with fail
  clear z0
  refine (kl_ask HK.out HM.out.2.2.1 (by omega) 0 0 5 (by decide)).mono ?_
  rintro e wn ⟨⟨ra, ga, rfl⟩, hk⟩
  replace HK := Aside0.mk (show Kl _ wn b P 9 3 (t5 0 1 0) from hk)
  clear hk
  have z0 := HK.out.at0
  go_wp2_with fail
  clear z0
  refine (kl_marks HK.out (by omega) HG.out.1 (fi5 0 1 0 (by decide) (by decide) (by decide) (by decide))).mono ?_
  rintro e wn ⟨rfl, hk⟩
  replace HK := Aside0.mk (show Kl _ wn b P 9 3 (t6 0 1 0) from hk)
  clear hk
  have z0 := HK.out.at0
  go_wp2_with fail
  refine (kl_doom HK.out HL.out.2.2.1 0).mono ?_
  rintro e wd ⟨rfl, rfl⟩
  rw [HV.out.1]
  go_wp2_with fail
  refine (kl_table HK.out).mono ?_
  rintro e wt ⟨rfl, rfl⟩
  go_wp2_with fail
  clear z0
  refine (kl_ask HK.out HM.out.2.2.2 (by omega) 1 1 5 (by decide)).mono ?_
  rintro e wn ⟨⟨ra, ga, rfl⟩, hk⟩
  replace HK := Aside0.mk (show Kl _ wn b P 9 4 (t7 0 1 0) from hk)
  clear hk
  have z0 := HK.out.at0
  go_wp2_with fail
  clear z0
  refine (kl_marks HK.out (by omega) HG.out.2.1 (fi7 0 1 0 (by decide) (by decide) (by decide) (by decide))).mono ?_
  rintro e wn ⟨rfl, hk⟩
  replace HK := Aside0.mk (show Kl _ wn b P 9 4 (t8 0 1 0) from hk)
  clear hk
  have z0 := HK.out.at0
  go_wp2_with fail
  clear z0
  refine (kl_tick HK.out (by omega) HG.out.2.2 (fi8 0 1 0 (by decide) (by decide) (by decide) (by decide))).mono ?_
  rintro e wn ⟨⟨At, ct, rfl, hrt⟩, hk⟩
  replace HK := Aside0.mk (show Kl _ wn b P 9 4 (t9 0 1 0) from hk)
  rw [HV.out.2.1] at hrt ⊢
  obtain ⟨ad, hA, q0⟩ := Kd.at_int hrt.readsI (0 : Int) (by omega) (by simp)
  subst hA
  rw [show ad.add (Int.toNat 0) = ad from by cases ad; simp [Addr.add]] at q0
  have q1 := cell_al0 q0 (.cells #[.int .i64 9, .int .i64 7, .int .i64 8] 26)
  have hbs := blk_new wn (.cells #[.int .i64 9, .int .i64 7, .int .i64 8] 26)
  have HK2 := Aside0.mk (HK.out.below (below_alloc (Below.refl wn.heap.size wn) (.cells #[.int .i64 9, .int .i64 7, .int .i64 8] 26)))
  have y0 : (wn.alloc (.cells #[.int .i64 9, .int .i64 7, .int .i64 8] 26)).cell? ⟨wn.heap.size, 0, none⟩ = some (.int .i64 9) := (blk_cell hbs 0).trans rfl
  clear hk hrt hbs
  have HKx := HK
  replace HK := HK2
  clear HK2
  have z0 := HK.out.at0
  go_wp2_with fail
  refine (kl_doom HK.out HL.out.2.2.2.1 0).mono ?_
  rintro e wd ⟨rfl, rfl⟩
  rw [HV.out.2.2.1]
  go_wp2_with fail
  clear z0
  refine (kl_ends HK.out HL.out.2.2.2.1 0).mono ?_
  rintro e we ⟨rfl, hk⟩
  replace HK := Aside0.mk (show Kl _ we b P 9 4 (t10 0 1 0) from hk)
  clear hk
  have z0 := HK.out.at0
  go_wp2_with fail
  refine (kl_doom HK.out HL.out.2.2.2.2.1 0).mono ?_
  rintro e wd ⟨rfl, rfl⟩
  rw [HV.out.2.2.2.1]
  clear z0
  go_wp2_with fail
  refine (kl_live HK.out HL.out.2.2.2.2.1 0 2).mono ?_
  rintro e wn ⟨rfl, hk⟩
  replace HK := Aside0.mk (show Kl _ wn b P 9 4 (t11 0 1 0) from hk)
  clear hk
  have z0 := HK.out.at0
  go_wp2_with fail
  refine (coreFirst_ _).mono ?_
  rintro e wf ⟨rfl, hbf⟩
  replace HK := Aside0.mk (HK.out.below hbf)
  clear hbf z0
  have z0 := HK.out.at0
  go_wp2_with fail
  refine (kl_doom HK.out HL.out.2.2.2.2.2 0).mono ?_
  rintro e wd ⟨rfl, rfl⟩
  rw [HV.out.2.2.2.2.1]
  go_wp2_with fail
  refine (kl_doom HK.out HL.out.2.2.2.2.2 1).mono ?_
  rintro e wd ⟨rfl, rfl⟩
  rw [HV.out.2.2.2.2.2]
  go_wp2_with fail
  go_ret
  exact ⟨rfl, below_then HB2.out HB2.out.size HK.out.base⟩
end Go.Proofs.YtaaekmcmpjljgaaGreat.Co
