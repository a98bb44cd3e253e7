import Derived.Test.YtaaekmcmpjljgaaGreatKA
/- CoreBack: the walk. -/
namespace Go.Proofs.YtaaekmcmpjljgaaGreat.Co
open Go.RowKit Go.Proofs.YtaaekmcmpjljgaaGreatW.PrintWords Go.Proofs.YtaaekmcmpjljgaaGreatW.PrintLast Go.Proofs.YtaaekmcmpjljgaaGreatW.PrintMore Go.Proofs.YtaaekmcmpjljgaaGreat.PMd Go.Proofs.YtaaekmcmpjljgaaGreat.Ln Go.Proofs.YtaaekmcmpjljgaaGreat.Gr
open Go.Maps
set_option linter.unusedVariables false
set_option linter.unusedSimpArgs false
theorem okw {x : Int} (h0 : -9223372036854775808 ≤ x) (h1 : x ≤ 9223372036854775807) : ok64 x := ok64_to (by unfold wrap64; omega)
theorem finv_ends {k : KT} {n : Nat} (h : FInv k n) (t : Int) : FInv (k.ends t) n := h
theorem finv_marks {k : KT} {n : Nat} (h : FInv k n) (q : Nat) : FInv (k.marks q) n := h
theorem finv_tick {k : KT} {n : Nat} (h : FInv k n) (q : Nat) : FInv (k.tick q) n := h
theorem finv_live {k : KT} {n : Nat} (h : FInv k n) (t q : Int) : FInv (k.live t q) n := h
theorem kl_edgesN {w0 w : World} {b : Nat} {P : Pl} {most : Int} {nb : Nat} {k : KT} (h : Kl w0 w b P most nb k) (hn : nb ≤ 1000000) {n : Nat} (hg : Good k n) (hf : FInv k n) (m : Nat) (hm : (liveE k.s (k.ed n)).length = m) :
    Calls Tryz.prog 16 #[.pointer (some ⟨b, 0, none⟩)] w fun e w' => (∃ A c, e = .returned (.slice A m c)) ∧ Kl w0 w' b P most nb k :=
  (kl_edges h hn hg hf).mono fun e w' ⟨⟨A, c, e1⟩, e2⟩ => ⟨⟨A, c, by rw [e1, hm]⟩, e2⟩
theorem ws3 {t : Nat} (h : t < 3) : wrap64 (3 - (t : Int)) = 3 - (t : Int) := by unfold wrap64; omega
theorem wi3 {t : Nat} (h : t < 3) : wrap64 ((t : Int) + 1) = ((t + 1 : Nat) : Int) := by unfold wrap64; omega
theorem le3 {t : Nat} (h : t < 3) : t ≤ 1000000 := by omega
theorem okt {t : Nat} (h : t < 3) : ok64 (t : Int) := okw (by omega) (by omega)
theorem eq3 {t : Nat} (h : ¬ t < 3) (h2 : t ≤ 3) : t = 3 := by omega
def c3 (pol : Int) : Cf := ⟨1, 1, 1, 1, 3, 0, 1, 9, 1, 0, 9, pol⟩
def bt (pol : Int) : Nat → KT
  | 0 => fresh (c3 pol) [0] 9 3 3
  | t + 1 => ((bt pol t).live t (3 - (t : Int))).ask 9 t 0 5
def b4 (pol : Int) : KT := (bt pol 3).ends 0
def b5 (pol : Int) : KT := (b4 pol).ends 1
def b6 (pol : Int) : KT := (b5 pol).marks 3
def b7 (pol : Int) : KT := (b6 pol).tick 3
theorem bfi (pol : Int) : ∀ t : Nat, t ≤ 3 → FInv (bt pol t) 3
  | 0, _ => fresh_finv _ _ _ _ _ _ (by omega)
  | t + 1, h => by
    have a : FInv ((bt pol t).live t (3 - (t : Int))) 3 := bfi pol t (by omega)
    exact finv_ask a 9 t 0 5 (by omega) (by omega)
theorem bfi4 (pol : Int) : FInv (b4 pol) 3 := finv_ends (bfi pol 3 (Nat.le_refl _)) 0
theorem bfi5 (pol : Int) : FInv (b5 pol) 3 := finv_ends (bfi4 pol) 1
theorem bfi6 (pol : Int) : FInv (b6 pol) 3 := finv_marks (bfi5 pol) 3
def BackV (pol : Int) : Prop :=
  (shape_Check.f 1 1 1 1 3 0 1 9 1 0 9 pol = some 0 ∧ shape_Words.f 1 1 1 1 3 0 1 9 1 0 9 pol = some 1 ∧ shape_Cells.f 1 1 1 1 3 0 1 9 1 0 9 pol = some 9 ∧ shape_Nodes.f 1 1 1 1 3 0 1 9 1 0 9 pol = some 3) ∧
  (∀ t, t < 3 → Lens (bt pol t).s ∧ Small ((bt pol t).live t (3 - (t : Int))).ls) ∧
  (Good (bt pol 3) 3 ∧ Good (b4 pol) 3 ∧ Good (b5 pol) 3 ∧ Good (b6 pol) 3 ∧ Lens (b7 pol).s) ∧
  ((liveE (bt pol 3).s ((bt pol 3).ed 3)).length = 3 ∧ (liveE (b4 pol).s ((b4 pol).ed 3)).length = 1 ∧ (liveE (b5 pol).s ((b5 pol).ed 3)).length = 0) ∧
  (∀ t : Nat, t < 3 → doomOf (b7 pol).s (t : Int) = 0) ∧ (tickOf (b7 pol).s 0 = 3 ∧ actOf (b7 pol).s 0 = false ∧ actOf (b7 pol).s 2 = true ∧ actOf (b7 pol).s 9 = false)
instance (pol : Int) : Decidable (BackV pol) := inferInstanceAs (Decidable (_ ∧ _))
theorem backV0 : BackV 0 := by decide +kernel
theorem backV1 : BackV 1 := by decide +kernel
theorem backV2 : BackV 2 := by decide +kernel
set_option maxHeartbeats 16000000 in
set_option maxRecDepth 100000 in
theorem back_in (pol : Int) (h0 : 0 ≤ pol) (h2 : pol ≤ 2) (hv : BackV pol) (w : World) : Calls Tryz.prog 5 #[.int .i64 pol] w fun e w' => e = .returned (.bool true) ∧ Below w.heap.size w w' := by
  have hu := Tryz.underlying24
  have hu2 := Tryz.underlying36
  have hu3 := Tryz.underlying73
  have HF := Aside0.mk (coreFirst_ w)
  have HN := Aside0.mk (fun W (A : Option Addr) (hr : Kd.C (Kd.int .i64) W A 1 [0]) => (show Calls Tryz.prog 8 #[.agg #[.int .i64 1, .int .i64 1, .int .i64 1, .int .i64 1, .int .i64 3, .int .i64 0, .int .i64 1, .int .i64 9, .int .i64 1, .int .i64 0, .int .i64 9, .int .i64 pol], .slice A 1 1] W (Made (fun W tb FT => IsTab W tb FT (List.replicate 3 zL) 9 0 (fun _ => none)) W (c3 pol) [0] 9 3) from coreNew_ (movesT 3 9) (c3 pol) A 1 [0] W 9 3 hr (Nat.le_refl _) hv.1.1 hv.1.2.1 hv.1.2.2.1 hv.1.2.2.2 (by simp) (by simp) (by omega) (newsT 3 9 (by omega) (by omega) (by omega) (by omega)) (show (1 : Int) ≤ 9 by decide) (show (9 : Int) ≤ 10000 by decide) (show (0 : Int) ≤ 3 by decide) (show (3 : Int) ≤ 64 by decide)))
  have HV := Aside0.mk hv
  have p1 : ¬ (pol < 0) := by omega
  have p2 : ¬ (pol > 2) := by omega
  clear hv h0 h2
  go_enter Tryz.func5, Tryz.ntmps5
  go_wp2_with fail
  refine HF.out.mono ?_
  rintro e w1 ⟨rfl, hb1⟩
  have HB1 := Aside0.mk hb1
  clear hb1 HF
  go_wp2_with fail
  refine (HN.out _ _ (by
    have := slice_one0 (w := w1.alloc (.cells #[.int .i64 1, .int .i64 1, .int .i64 1, .int .i64 1, .int .i64 3, .int .i64 0, .int .i64 1, .int .i64 9, .int .i64 1, .int .i64 0, .int .i64 9, .int .i64 pol] 24)) 0
    rwa [show (w1.alloc (.cells #[.int .i64 1, .int .i64 1, .int .i64 1, .int .i64 1, .int .i64 3, .int .i64 0, .int .i64 1, .int .i64 9, .int .i64 1, .int .i64 0, .int .i64 9, .int .i64 pol] 24)).heap.size = w1.heap.size + 1 from by simp] at this)).mono ?_
  intro e w2 hmade
  obtain ⟨b, P, rfl, hk⟩ := kl_made hmade
  have HB2 := Aside0.mk (below_then HB1.out HB1.out.size (below_alloc (below_alloc (Below.refl w1.heap.size w1) (.cells #[.int .i64 1, .int .i64 1, .int .i64 1, .int .i64 1, .int .i64 3, .int .i64 0, .int .i64 1, .int .i64 9, .int .i64 1, .int .i64 0, .int .i64 9, .int .i64 pol] 24)) (.cells #[.int .i64 0] 3)))
  generalize (w1.alloc (.cells #[.int .i64 1, .int .i64 1, .int .i64 1, .int .i64 1, .int .i64 3, .int .i64 0, .int .i64 1, .int .i64 9, .int .i64 1, .int .i64 0, .int .i64 9, .int .i64 pol] 24)).alloc (.cells #[.int .i64 0] 3) = wN at hk HB2
  have HK := Aside0.mk (show Kl wN w2 b P 9 0 (bt pol 0) from hk)
  clear hmade hk HN
  have z0 := HK.out.at0
  go_wp2_with fail
  refine (kl_table HK.out).mono ?_
  rintro e w3 ⟨rfl, rfl⟩
  clear z0 p1 p2
  go_wp2_with fail
  go_loopg [6] 3 (fun gg v wr => ∃ t : Nat, t ≤ 3 ∧ 3 - t ≤ gg ∧ v = .int .i64 t ∧ Aside0 (Kl wN wr b P 9 t (bt pol t)))
  case atStart => exact ⟨0, Nat.zero_le _, Nat.le_refl _, rfl, HK⟩
  case round =>
    obtain ⟨t, ht, hgg, rfl, HKt⟩ := hrel
    have HGG := Aside0.mk hgg
    have HLE := Aside0.mk ht
    clear hgg ht
    by_cases hlt : t < 3
    · have t1 : (t : Int) < 3 := Int.ofNat_lt.2 hlt
      have ws : wrap64 (3 - (t : Int)) = 3 - (t : Int) := ws3 hlt
      have WI := Aside0.mk (wi3 hlt)
      have HT := Aside0.mk hlt
      clear hlt
      go_wp2_with fail
      clear t1
      refine (kl_live HKt.out (HV.out.2.1 t HT.out).1 t (3 - (t : Int))).mono ?_
      rintro e wn ⟨rfl, hk⟩
      have HKa := Aside0.mk hk
      clear hk ws
      have z1 := HKa.out.at0
      go_wp2_with fail
      refine (kl_table HKa.out).mono ?_
      rintro e wt ⟨rfl, rfl⟩
      go_wp2_with fail
      clear z1
      refine (kl_ask HKa.out (HV.out.2.1 t HT.out).2 (le3 HT.out) t 0 5 (okt HT.out)).mono ?_
      rintro e wn ⟨⟨ra, ga, rfl⟩, hk⟩
      have HKb := Aside0.mk (show Kl wN wn b P 9 (t + 1) (bt pol (t + 1)) from hk)
      clear hk
      go_wp2_with fail
      go_roundg (3 - (t + 1))
      case measure => have h1 := HT.out; have h2 := HGG.out; clear HKa HKb HKt HV HK; omega
      case rel => exact ⟨t + 1, Nat.succ_le_of_lt HT.out, Nat.le_refl _, by first | rw [WI.out] | simp, HKb⟩
    · obtain rfl : t = 3 := eq3 hlt HLE.out
      have t1 : ¬ (((3 : Nat) : Int) < 3) := by decide
      clear hlt HGG HLE
      obtain ⟨HS, HT, HG, HE, HD, HX⟩ : Aside0 True ∧ Aside0 True ∧ Aside0 (Good (bt pol 3) 3 ∧ Good (b4 pol) 3 ∧ Good (b5 pol) 3 ∧ Good (b6 pol) 3 ∧ Lens (b7 pol).s) ∧ Aside0 ((liveE (bt pol 3).s ((bt pol 3).ed 3)).length = 3 ∧ (liveE (b4 pol).s ((b4 pol).ed 3)).length = 1 ∧ (liveE (b5 pol).s ((b5 pol).ed 3)).length = 0) ∧
        Aside0 (∀ t : Nat, t < 3 → doomOf (b7 pol).s (t : Int) = 0) ∧ Aside0 (tickOf (b7 pol).s 0 = 3 ∧ actOf (b7 pol).s 0 = false ∧ actOf (b7 pol).s 2 = true ∧ actOf (b7 pol).s 9 = false) := ⟨⟨trivial⟩, ⟨trivial⟩, ⟨HV.out.2.2.1⟩, ⟨HV.out.2.2.2.1⟩, ⟨HV.out.2.2.2.2.1⟩, ⟨HV.out.2.2.2.2.2⟩⟩
      have F3 := Aside0.mk (bfi pol 3 (Nat.le_refl _))
      go_wp2_with fail
      clear t1
      refine (kl_edgesN HKt.out (by decide) HG.out.1 F3.out 3 HE.out.1).mono ?_
      rintro e wa ⟨⟨Aa, ca, rfl⟩, hk⟩
      have HKa := Aside0.mk hk
      clear hk
      go_wp2_with fail
      refine (kl_ends HKa.out HG.out.1.1 0).mono ?_
      rintro e wb ⟨rfl, hk⟩
      have HK4 := Aside0.mk (show Kl wN wb b P 9 3 (b4 pol) from hk)
      have F4 := Aside0.mk (bfi4 pol)
      clear hk
      go_wp2_with fail
      refine (kl_edgesN HK4.out (by decide) HG.out.2.1 F4.out 1 HE.out.2.1).mono ?_
      rintro e wc ⟨⟨Ac, cc, rfl⟩, hk⟩
      have HK4b := Aside0.mk hk
      clear hk
      go_wp2_with fail
      refine (kl_ends HK4b.out HG.out.2.1.1 1).mono ?_
      rintro e wd ⟨rfl, hk⟩
      have HK5 := Aside0.mk (show Kl wN wd b P 9 3 (b5 pol) from hk)
      have F5 := Aside0.mk (bfi5 pol)
      clear hk
      go_wp2_with fail
      refine (kl_edgesN HK5.out (by decide) HG.out.2.2.1 F5.out 0 HE.out.2.2).mono ?_
      rintro e we ⟨⟨Ae, ce, rfl⟩, hk⟩
      have HK5b := Aside0.mk hk
      clear hk
      go_wp2_with fail
      refine (kl_marks HK5b.out (by decide) HG.out.2.2.1 F5.out).mono ?_
      rintro e wf ⟨rfl, hk⟩
      have HK6 := Aside0.mk (show Kl wN wf b P 9 3 (b6 pol) from hk)
      have F6 := Aside0.mk (bfi6 pol)
      clear hk
      go_wp2_with fail
      refine (kl_tick HK6.out (by decide) HG.out.2.2.2.1 F6.out).mono ?_
      rintro e wg ⟨⟨Ag, cg, rfl, -⟩, hk⟩
      have HK7 := Aside0.mk (show Kl wN wg b P 9 3 (b7 pol) from hk)
      clear hk
      go_wp2_with fail
      go_loopg [10] 3 (fun gg v wr => ∃ t : Nat, t ≤ 3 ∧ 3 - t ≤ gg ∧ v = .int .i64 t ∧ wr = wg)
      case atStart => exact ⟨0, Nat.zero_le _, Nat.le_refl _, rfl, rfl⟩
      case round =>
        obtain ⟨t, ht, hgg, rfl, rfl⟩ := hrel
        have HGG := Aside0.mk hgg
        have HLE := Aside0.mk ht
        clear hgg ht
        by_cases hlt : t < 3
        · have t1 : (t : Int) < 3 := Int.ofNat_lt.2 hlt
          have WI := Aside0.mk (wi3 hlt)
          have HT := Aside0.mk hlt
          clear hlt
          go_wp2_with fail
          refine (kl_doom HK7.out HG.out.2.2.2.2 t).mono ?_
          rintro e wd ⟨rfl, rfl⟩
          rw [HD.out t HT.out]
          go_wp2_with fail
          go_roundg (3 - (t + 1))
          case measure => have h1 := HT.out; have h2 := HGG.out; clear HK7 HK6 HK5b HK5 HK4b HK4 HKa HKt HV HK; omega
          case rel => exact ⟨t + 1, Nat.succ_le_of_lt HT.out, Nat.le_refl _, by first | rw [WI.out] | simp, rfl⟩
        · obtain rfl : t = 3 := eq3 hlt HLE.out
          have t1 : ¬ (((3 : Nat) : Int) < 3) := by decide
          go_wp2_with fail
          clear t1
          refine (coreFirst_ _).mono ?_
          rintro e wh ⟨rfl, hbf⟩
          have HK8 := Aside0.mk (HK7.out.below hbf)
          clear hbf
          go_wp2_with fail
          refine (kl_ticket HK8.out HG.out.2.2.2.2 0).mono ?_
          rintro e wd ⟨rfl, rfl⟩
          rw [HX.out.1]
          go_wp2_with fail
          refine (kl_active HK8.out HG.out.2.2.2.2 0).mono ?_
          rintro e wd ⟨rfl, rfl⟩
          rw [HX.out.2.1]
          go_wp2_with fail
          refine (kl_active HK8.out HG.out.2.2.2.2 2).mono ?_
          rintro e wd ⟨rfl, rfl⟩
          rw [HX.out.2.2.1]
          go_wp2_with fail
          refine (kl_active HK8.out HG.out.2.2.2.2 9).mono ?_
          rintro e wd ⟨rfl, rfl⟩
          rw [HX.out.2.2.2]
          go_wp2_with fail
          go_ret
          exact ⟨rfl, below_then HB2.out HB2.out.size HK8.out.base⟩
set_option maxHeartbeats 16000000 in
set_option maxRecDepth 100000 in
theorem back_walk (pol : Int) (w : World) : Calls Tryz.prog 5 #[.int .i64 pol] w fun e w' => e = .returned (.bool true) ∧ Below w.heap.size w w' := by
  by_cases h0 : pol < 0
  · have HF := Aside0.mk (coreFirst_ w)
    go_enter Tryz.func5, Tryz.ntmps5
    go_wp2_with fail
    refine HF.out.mono ?_
    rintro e w1 ⟨rfl, hb1⟩
    have HB1 := Aside0.mk hb1
    clear hb1
    go_wp2_with fail
    refine (coreFirst_ w1).mono ?_
    rintro e w2 ⟨rfl, hb2⟩
    have HB2 := Aside0.mk (below_then HB1.out HB1.out.size hb2)
    clear hb2
    go_wp2_with fail
    go_ret
    exact ⟨rfl, HB2.out⟩
  · by_cases h2 : pol > 2
    · have HF := Aside0.mk (coreFirst_ w)
      go_enter Tryz.func5, Tryz.ntmps5
      go_wp2_with fail
      refine HF.out.mono ?_
      rintro e w1 ⟨rfl, hb1⟩
      have HB1 := Aside0.mk hb1
      clear hb1
      go_wp2_with fail
      refine (coreFirst_ w1).mono ?_
      rintro e w2 ⟨rfl, hb2⟩
      have HB2 := Aside0.mk (below_then HB1.out HB1.out.size hb2)
      clear hb2
      go_wp2_with fail
      go_ret
      exact ⟨rfl, HB2.out⟩
    · have h3 : pol = 0 ∨ pol = 1 ∨ pol = 2 := by omega
      have hv : BackV pol := by
        rcases h3 with rfl | rfl | rfl
        · exact backV0
        · exact backV1
        · exact backV2
      exact back_in pol (by omega) (by omega) hv w
end Go.Proofs.YtaaekmcmpjljgaaGreat.Co
