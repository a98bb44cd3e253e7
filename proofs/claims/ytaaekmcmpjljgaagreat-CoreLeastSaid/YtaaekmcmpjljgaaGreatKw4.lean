import Derived.Test.YtaaekmcmpjljgaaGreatKw3
/- CoreLeast: the walk. -/
namespace Go.Proofs.YtaaekmcmpjljgaaGreat.Co
open Go.RowKit Go.Proofs.YtaaekmcmpjljgaaGreatW.PrintWords Go.Proofs.YtaaekmcmpjljgaaGreatW.PrintLast Go.Proofs.YtaaekmcmpjljgaaGreatW.PrintMore Go.Proofs.YtaaekmcmpjljgaaGreat.PMd Go.Proofs.YtaaekmcmpjljgaaGreat.Ln Go.Proofs.YtaaekmcmpjljgaaGreat.Gr
open Go.Maps
set_option linter.unusedVariables false
set_option linter.unusedSimpArgs false
def c4 (pol : Int) (n : Nat) : Cf := ⟨1, 1, 1, 1, n, 0, 1, 99, 1, 0, 9, pol⟩
def lt_ (pol : Int) (n : Nat) : Nat → KT
  | 0 => fresh (c4 pol n) [0] 9 n 3
  | t + 1 => (lt_ pol n t).live t ((t : Int) + 1)
def dn_ (pol : Int) (n h : Nat) : Nat → KT
  | 0 => (lt_ pol n n).ask 99 h 0 5
  | j + 1 => if n - 1 - j = h then dn_ pol n h j else (dn_ pol n h j).ask 99 ((n - 1 - j : Nat) : Int) 0 5
def mk_ (pol : Int) (n h : Nat) : KT := (dn_ pol n h n).marks n
def tk_ (pol : Int) (n h : Nat) : KT := (mk_ pol n h).tick n
theorem lfi (pol : Int) (n : Nat) (hn : n ≤ 10) : ∀ t : Nat, FInv (lt_ pol n t) n
  | 0 => fresh_finv _ _ _ _ _ _ (by omega)
  | t + 1 => lfi pol n hn t
theorem dfi (pol : Int) (n h : Nat) (hn : n ≤ 10) (hh : h < n) : ∀ j : Nat, FInv (dn_ pol n h j) n
  | 0 => finv_ask (lfi pol n hn n) 99 h 0 5 (by omega) (by omega)
  | j + 1 => by
    unfold dn_
    by_cases e : n - 1 - j = h
    · rw [if_pos e]; exact dfi pol n h hn hh j
    · rw [if_neg e]; exact finv_ask (dfi pol n h hn hh j) 99 _ 0 5 (by omega) (by omega)
def wantF (pol : Int) (h t : Nat) : Int :=
  if pol = 1 ∧ (t = h ∧ 0 < h ∨ t ≠ h ∧ 0 < t ∧ ¬ (t = 1 ∧ h = 0)) then 7 else if pol = 2 ∧ h < t then 8 else 0
def LeastV (pol : Int) (n h : Nat) : Prop :=
  (shape_Check.f 1 1 1 1 n 0 1 99 1 0 9 pol = some 0 ∧ shape_Words.f 1 1 1 1 n 0 1 99 1 0 9 pol = some 1 ∧ shape_Cells.f 1 1 1 1 n 0 1 99 1 0 9 pol = some 9 ∧ shape_Nodes.f 1 1 1 1 n 0 1 99 1 0 9 pol = some 3) ∧
  (∀ t, t < n → Lens (lt_ pol n t).s) ∧ (Small (lt_ pol n n).ls ∧ ∀ j, j < n → Small (dn_ pol n h j).ls) ∧
  (Good (dn_ pol n h n) n ∧ Good (mk_ pol n h) n ∧ (mk_ pol n h).told n = [] ∧ Lens (tk_ pol n h).s) ∧
  (∀ t : Nat, t < n → doomOf (tk_ pol n h).s (t : Int) = wantF pol h t)
instance (pol : Int) (n h : Nat) : Decidable (LeastV pol n h) := inferInstanceAs (Decidable (_ ∧ _))
theorem leastV0 : ∀ n, n ≤ 10 → 2 ≤ n → ∀ h, h < n → LeastV 0 n h := by decide +kernel
theorem leastV1 : ∀ n, n ≤ 10 → 2 ≤ n → ∀ h, h < n → LeastV 1 n h := by decide +kernel
theorem leastV2 : ∀ n, n ≤ 10 → 2 ≤ n → ∀ h, h < n → LeastV 2 n h := by decide +kernel
theorem Kl.more {w0 w : World} {b : Nat} {P : Pl} {most : Int} {nb nb' : Nat} {k : KT} (h : Kl w0 w b P most nb k) (hn : nb ≤ nb') : Kl w0 w b P most nb' k := by
  obtain ⟨F, FT, N, h1, h2, h3, h4, h5, h6⟩ := h
  exact ⟨F, FT, N, h1, h2, by omega, h4, h5, h6⟩
theorem kl_tickN {w0 w : World} {b : Nat} {P : Pl} {most : Int} {nb : Nat} {k : KT} (h : Kl w0 w b P most nb k) (hn : nb ≤ 1000000) {n : Nat} (hg : Good k n) (hf : FInv k n) (m : Nat) (hm : (k.told n).length = m) :
    Calls Tryz.prog 13 #[.pointer (some ⟨b, 0, none⟩)] w fun e w' => (∃ A c, e = .returned (.slice A m c)) ∧ Kl w0 w' b P most nb (k.tick n) :=
  (kl_tick h hn hg hf).mono fun e w' ⟨⟨A, c, e1, _⟩, e2⟩ => ⟨⟨A, c, by rw [e1, hm]⟩, e2⟩
theorem meas {t n g : Nat} (h : t < n) (h2 : n - t ≤ g) : n - (t + 1) < g := by omega
theorem wiN {t n : Nat} (h : t < n) (hn : n ≤ 10) : wrap64 ((t : Int) + 1) = ((t + 1 : Nat) : Int) := by unfold wrap64; omega
theorem wiN1 {t n : Nat} (h : t < n) (hn : n ≤ 10) : wrap64 ((t : Int) + 1) = (t : Int) + 1 := by unfold wrap64; omega
theorem eqN {t n : Nat} (h : ¬ t < n) (h2 : t ≤ n) : t = n := by omega
theorem wdN {n : Nat} (h : 2 ≤ n) (hn : n ≤ 10) : wrap64 ((n : Int) - 1) = (n : Int) - 1 - (0 : Nat) := by unfold wrap64; omega
theorem dnv {n j : Nat} (h : j < n) : (n : Int) - 1 - (j : Int) = ((n - 1 - j : Nat) : Int) := by omega
theorem wdJ {n j : Nat} (h : j < n) (hn : n ≤ 10) : wrap64 (((n - 1 - j : Nat) : Int) - 1) = (n : Int) - 1 - ((j + 1 : Nat) : Int) := by unfold wrap64; omega
theorem dJ {n j : Nat} (h : j < n) : ((n - 1 - j : Nat) : Int) - 1 = (n : Int) - 1 - ((j : Int) + 1) := by omega
theorem okN {t n : Nat} (h : t < n) (hn : n ≤ 10) : ok64 (t : Int) := okw (by omega) (by omega)
theorem mfi {pol : Int} {n h : Nat} (hn : n ≤ 10) (hh : h < n) : FInv (mk_ pol n h) n := finv_marks (dfi pol n h hn hh n) n
theorem dn_skip {pol : Int} {n h j : Nat} (e : n - 1 - j = h) : dn_ pol n h (j + 1) = dn_ pol n h j := by
  conv => lhs; unfold dn_
  rw [if_pos e]
theorem dn_ask {pol : Int} {n h j : Nat} (e : ¬ n - 1 - j = h) : dn_ pol n h (j + 1) = (dn_ pol n h j).ask 99 ((n - 1 - j : Nat) : Int) 0 5 := by
  conv => lhs; unfold dn_
  rw [if_neg e]
set_option maxHeartbeats 16000000 in
set_option maxRecDepth 100000 in
theorem least_in (pol : Int) (n h : Nat) (h0 : 0 ≤ pol) (h2 : pol ≤ 2) (n2 : 2 ≤ n) (n10 : n ≤ 10) (hh : h < n) (hv : LeastV pol n h) (w : World) :
    Calls Tryz.prog 3 #[.int .i64 pol, .int .i64 (n : Int), .int .i64 (h : Int)] w fun e w' => e = .returned (.bool true) ∧ Below w.heap.size w w' := by
  have hu := Tryz.underlying24
  have hu2 := Tryz.underlying36
  have hu3 := Tryz.underlying73
  have HF := Aside0.mk (coreFirst_ w)
  have HN := Aside0.mk (fun W (A : Option Addr) (hr : Kd.C (Kd.int .i64) W A 1 [0]) => (show Calls Tryz.prog 8 #[.agg #[.int .i64 1, .int .i64 1, .int .i64 1, .int .i64 1, .int .i64 (n : Int), .int .i64 0, .int .i64 1, .int .i64 99, .int .i64 1, .int .i64 0, .int .i64 9, .int .i64 pol], .slice A 1 1] W (Made (fun W tb FT => IsTab W tb FT (List.replicate 3 zL) 99 0 (fun _ => none)) W (c4 pol n) [0] 9 n) from coreNew_ (movesT 3 99) (c4 pol n) A 1 [0] W 9 3 hr (Nat.le_refl _) hv.1.1 hv.1.2.1 hv.1.2.2.1 hv.1.2.2.2 (by simp) (by simp) (by omega) (newsT 3 99 (by omega) (by omega) (by omega) (by omega)) (show (1 : Int) ≤ 9 by decide) (show (9 : Int) ≤ 10000 by decide) (show (0 : Int) ≤ (n : Int) by omega) (show (n : Int) ≤ 64 by omega)))
  have HV := Aside0.mk hv
  have HX := Aside0.mk (And.intro n2 (And.intro n10 hh))
  have p1 : ¬ (pol < 0) := by omega
  have p2 : ¬ (pol > 2) := by omega
  have p3 : ¬ ((n : Int) < 2) := by omega
  have p4 : ¬ ((n : Int) > 10) := by omega
  have p5 : ¬ ((h : Int) < 0) := by omega
  have p6 : ¬ ((h : Int) ≥ (n : Int)) := by omega
  clear hv h0 h2 n2 n10 hh
  go_enter Tryz.func3, Tryz.ntmps3
  go_wp2_with fail
  refine HF.out.mono ?_
  rintro e w1 ⟨rfl, hb1⟩
  have HB1 := Aside0.mk hb1
  clear hb1 HF
  go_wp2_with fail
  clear p1 p2 p3 p4 p5 p6
  refine (HN.out _ _ (by
    have := slice_one0 (w := w1.alloc (.cells #[.int .i64 1, .int .i64 1, .int .i64 1, .int .i64 1, .int .i64 (n : Int), .int .i64 0, .int .i64 1, .int .i64 99, .int .i64 1, .int .i64 0, .int .i64 9, .int .i64 pol] 24)) 0
    rwa [show (w1.alloc (.cells #[.int .i64 1, .int .i64 1, .int .i64 1, .int .i64 1, .int .i64 (n : Int), .int .i64 0, .int .i64 1, .int .i64 99, .int .i64 1, .int .i64 0, .int .i64 9, .int .i64 pol] 24)).heap.size = w1.heap.size + 1 from by simp] at this)).mono ?_
  intro e w2 hmade
  obtain ⟨b, P, rfl, hk⟩ := kl_made hmade
  have HB2 := Aside0.mk (below_then HB1.out HB1.out.size (below_alloc (below_alloc (Below.refl w1.heap.size w1) (.cells #[.int .i64 1, .int .i64 1, .int .i64 1, .int .i64 1, .int .i64 (n : Int), .int .i64 0, .int .i64 1, .int .i64 99, .int .i64 1, .int .i64 0, .int .i64 9, .int .i64 pol] 24)) (.cells #[.int .i64 0] 3)))
  generalize (w1.alloc (.cells #[.int .i64 1, .int .i64 1, .int .i64 1, .int .i64 1, .int .i64 (n : Int), .int .i64 0, .int .i64 1, .int .i64 99, .int .i64 1, .int .i64 0, .int .i64 9, .int .i64 pol] 24)).alloc (.cells #[.int .i64 0] 3) = wN at hk HB2
  have HK := Aside0.mk (show Kl wN w2 b P 99 0 (lt_ pol n 0) from hk)
  clear hmade hk HN
  have z0 := HK.out.at0
  go_wp2_with fail
  refine (kl_table HK.out).mono ?_
  rintro e w3 ⟨rfl, rfl⟩
  clear z0
  go_wp2_with fail
  go_loopg [10] n (fun gg v wr => ∃ t : Nat, t ≤ n ∧ n - t ≤ gg ∧ v = .int .i64 t ∧ Aside0 (Kl wN wr b P 99 0 (lt_ pol n t)))
  case atStart => exact ⟨0, Nat.zero_le _, Nat.le_refl _, rfl, HK⟩
  case round =>
    obtain ⟨t, ht, hgg, rfl, HKt⟩ := hrel
    have HGG := Aside0.mk hgg
    have HLE := Aside0.mk ht
    clear hgg ht
    by_cases hlt : t < n
    · have t1 : (t : Int) < (n : Int) := Int.ofNat_lt.2 hlt
      have ws := wiN1 hlt HX.out.2.1
      have WI := Aside0.mk (wiN hlt HX.out.2.1)
      have HT := Aside0.mk hlt
      clear hlt
      go_wp2_with fail
      clear t1
      refine (kl_live HKt.out (HV.out.2.1 t HT.out) t ((t : Int) + 1)).mono ?_
      rintro e wn ⟨rfl, hk⟩
      have HKa := Aside0.mk (show Kl wN wn b P 99 0 (lt_ pol n (t + 1)) from hk)
      clear hk
      go_wp2_with fail
      clear ws
      go_roundg (n - (t + 1))
      case measure => exact meas HT.out HGG.out
      case rel => exact ⟨t + 1, Nat.succ_le_of_lt HT.out, Nat.le_refl _, by first | rw [WI.out] | simp, HKa⟩
    · have te : t = n := eqN hlt HLE.out
      rw [te] at HKt
      have HK1 := HKt
      have t1 : ¬ ((t : Int) < (n : Int)) := by rw [te]; exact Int.lt_irrefl _
      have z1 := HK1.out.at0
      have ws := wdN HX.out.1 HX.out.2.1
      clear hlt HGG HLE HKt te
      go_wp2_with fail
      clear t1
      refine (kl_table HK1.out).mono ?_
      rintro e wt ⟨rfl, rfl⟩
      go_wp2_with fail
      clear z1
      refine (kl_ask HK1.out HV.out.2.2.1.1 (by decide) h 0 5 (okN HX.out.2.2 HX.out.2.1)).mono ?_
      rintro e wn ⟨⟨ra, ga, rfl⟩, hk⟩
      have HK2 := Aside0.mk (show Kl wN wn b P 99 1 (dn_ pol n h 0) from hk)
      clear hk
      go_wp2_with fail
      clear ws
      go_loopg [11] n (fun gg v wr => ∃ j : Nat, j ≤ n ∧ n - j ≤ gg ∧ v = .int .i64 ((n : Int) - 1 - (j : Int)) ∧ Aside0 (Kl wN wr b P 99 (1 + j) (dn_ pol n h j)))
      case atStart => exact ⟨0, Nat.zero_le _, Nat.le_refl _, by first | rfl | simp, HK2⟩
      case round =>
        obtain ⟨j, hj, hgg, rfl, HKj⟩ := hrel
        have HGG := Aside0.mk hgg
        have HLE := Aside0.mk hj
        clear hgg hj
        by_cases hlt : j < n
        · rw [dnv hlt]
          have ws := wdJ hlt HX.out.2.1
          have WI := Aside0.mk ws
          have HT := Aside0.mk hlt
          have t1 : (((n - 1 - j : Nat) : Int)) ≥ 0 := Int.natCast_nonneg _
          clear hlt
          by_cases e1 : n - 1 - j = h
          · have b1 : (((n - 1 - j : Nat) : Int) == (h : Int)) = true := by rw [e1]; simp
            have HKb := Aside0.mk (show Kl wN wr b P 99 (1 + (j + 1)) (dn_ pol n h (j + 1)) from by rw [dn_skip e1]; exact HKj.out.more (by omega))
            clear e1
            go_wp2_with fail
            go_roundg (n - (j + 1))
            case measure => exact meas HT.out HGG.out
            case rel => exact ⟨j + 1, Nat.succ_le_of_lt HT.out, Nat.le_refl _, by first | rw [WI.out] | (simp; exact dJ HT.out), HKb⟩
          · have b1 : (((n - 1 - j : Nat) : Int) == (h : Int)) = false := beq_eq_false_iff_ne.2 (by omega)
            have HE1 := Aside0.mk e1
            have HKx := Aside0.mk (show Kl wN wr b P 99 (1 + j) (dn_ pol n h j) from HKj.out)
            have z1 := HKx.out.at0
            clear e1
            go_wp2_with fail
            refine (kl_table HKx.out).mono ?_
            rintro e wt ⟨rfl, rfl⟩
            go_wp2_with fail
            clear z1
            refine (kl_ask HKx.out (HV.out.2.2.1.2 j HT.out) (by have := HT.out; have := HX.out.2.1; omega) ((n - 1 - j : Nat) : Int) 0 5 (by have h1 := HT.out; have h2 := HX.out.2.1; exact okw (by omega) (by omega))).mono ?_
            rintro e wn ⟨⟨ra, ga, rfl⟩, hk⟩
            have HKb := Aside0.mk (show Kl wN wn b P 99 (1 + (j + 1)) (dn_ pol n h (j + 1)) from by rw [dn_ask HE1.out]; exact hk)
            clear hk
            go_wp2_with fail
            go_roundg (n - (j + 1))
            case measure => exact meas HT.out HGG.out
            case rel => exact ⟨j + 1, Nat.succ_le_of_lt HT.out, Nat.le_refl _, by first | rw [WI.out] | (simp; exact dJ HT.out), HKb⟩
        · have te : j = n := eqN hlt HLE.out
          rw [te] at HKj
          have t1 : ¬ ((n : Int) - 1 - (j : Int) ≥ 0) := by rw [te]; omega
          clear hlt HGG HLE te
          have HK5 := HKj
          clear HKj
          have HG := Aside0.mk HV.out.2.2.2.1
          have HD := Aside0.mk HV.out.2.2.2.2
          have F5 := Aside0.mk (dfi pol n h HX.out.2.1 HX.out.2.2 n)
          have F6 := Aside0.mk (mfi (pol := pol) HX.out.2.1 HX.out.2.2)
          have HNB := Aside0.mk (show 1 + n ≤ 1000000 by have := HX.out.2.1; omega)
          go_wp2_with fail
          clear t1
          refine (kl_marks HK5.out HNB.out HG.out.1 F5.out).mono ?_
          rintro e wf ⟨rfl, hk⟩
          have HK6 := Aside0.mk (show Kl wN wf b P 99 (1 + n) (mk_ pol n h) from hk)
          clear hk
          go_wp2_with fail
          refine (kl_tickN HK6.out HNB.out HG.out.2.1 F6.out 0 (by rw [HG.out.2.2.1]; rfl)).mono ?_
          rintro e wg ⟨⟨Ag, cg, rfl⟩, hk⟩
          have HK7 := Aside0.mk (show Kl wN wg b P 99 (1 + n) (tk_ pol n h) from hk)
          clear hk
          go_wp2_with fail
          go_loopg [12] n (fun gg v wr => ∃ t : Nat, t ≤ n ∧ n - t ≤ gg ∧ v = .int .i64 t ∧ wr = wg)
          case atStart => exact ⟨0, Nat.zero_le _, Nat.le_refl _, rfl, rfl⟩
          case round =>
            obtain ⟨t, ht, hgg, rfl, rfl⟩ := hrel
            have HGG := Aside0.mk hgg
            have HLE := Aside0.mk ht
            clear hgg ht
            by_cases hlt : t < n
            · have t1 : (t : Int) < (n : Int) := Int.ofNat_lt.2 hlt
              have WI := Aside0.mk (wiN hlt HX.out.2.1)
              have HT := Aside0.mk hlt
              clear hlt
              by_cases e1 : pol = 1
              · have b1 : (pol == 1) = true := beq_iff_eq.2 (by omega)
                have b2 : (pol == 2) = false := by rw [e1]; decide
                by_cases e2 : t = h
                · have b3 : ((t : Int) == (h : Int)) = true := beq_iff_eq.2 (by omega)
                  have b3n : ((t : Int) != (h : Int)) = false := bne_eq_false_iff_eq.2 (by omega)
                  by_cases e3 : 0 < h
                  · have b4 : decide (0 < h) = true := decide_eq_true (by omega)
                    have HW := Aside0.mk (show doomOf (tk_ pol n h).s (t : Int) = 7 from (HD.out t HT.out).trans (by unfold wantF; rw [if_pos ⟨e1, .inl ⟨e2, e3⟩⟩]))
                    clear e1 e2 e3
                    go_wp2_with fail
                    refine (kl_doom HK7.out HG.out.2.2.2 t).mono ?_
                    rintro e wd ⟨rfl, rfl⟩
                    rw [HW.out]
                    go_wp2_with fail
                    go_roundg (n - (t + 1))
                    case measure => exact meas HT.out HGG.out
                    case rel => exact ⟨t + 1, Nat.succ_le_of_lt HT.out, Nat.le_refl _, by first | rw [WI.out] | simp, rfl⟩
                  · have b4 : decide (0 < h) = false := decide_eq_false (by omega)
                    have HW := Aside0.mk (show doomOf (tk_ pol n h).s (t : Int) = 0 from (HD.out t HT.out).trans (by unfold wantF; rw [if_neg (fun q => q.2.elim (fun r => e3 r.2) (fun r => r.1 e2)), if_neg (fun q => by omega)]))
                    clear e1 e2 e3
                    go_wp2_with fail
                    refine (kl_doom HK7.out HG.out.2.2.2 t).mono ?_
                    rintro e wd ⟨rfl, rfl⟩
                    rw [HW.out]
                    go_wp2_with fail
                    go_roundg (n - (t + 1))
                    case measure => exact meas HT.out HGG.out
                    case rel => exact ⟨t + 1, Nat.succ_le_of_lt HT.out, Nat.le_refl _, by first | rw [WI.out] | simp, rfl⟩
                · have b3 : ((t : Int) == (h : Int)) = false := beq_eq_false_iff_ne.2 (by omega)
                  have b3n : ((t : Int) != (h : Int)) = true := bne_iff_ne.2 (by omega)
                  by_cases e3 : 0 < t
                  · have b4 : decide (0 < t) = true := decide_eq_true (by omega)
                    by_cases e4 : t = 1
                    · have b5 : ((t : Int) == 1) = true := by simp [e4]
                      by_cases e5 : h = 0
                      · have b6 : ((h : Int) == 0) = true := by simp [e5]
                        have HW := Aside0.mk (show doomOf (tk_ pol n h).s (t : Int) = 0 from (HD.out t HT.out).trans (by unfold wantF; rw [if_neg (fun q => q.2.elim (fun r => e2 r.1) (fun r => r.2.2 ⟨e4, e5⟩)), if_neg (fun q => by omega)]))
                        clear e1 e2 e3 e4 e5
                        go_wp2_with fail
                        refine (kl_doom HK7.out HG.out.2.2.2 t).mono ?_
                        rintro e wd ⟨rfl, rfl⟩
                        rw [HW.out]
                        go_wp2_with fail
                        go_roundg (n - (t + 1))
                        case measure => exact meas HT.out HGG.out
                        case rel => exact ⟨t + 1, Nat.succ_le_of_lt HT.out, Nat.le_refl _, by first | rw [WI.out] | simp, rfl⟩
                      · have b6 : ((h : Int) == 0) = false := beq_eq_false_iff_ne.2 (by omega)
                        have HW := Aside0.mk (show doomOf (tk_ pol n h).s (t : Int) = 7 from (HD.out t HT.out).trans (by unfold wantF; rw [if_pos ⟨e1, .inr ⟨e2, e3, fun r => e5 r.2⟩⟩]))
                        clear e1 e2 e3 e4 e5
                        go_wp2_with fail
                        refine (kl_doom HK7.out HG.out.2.2.2 t).mono ?_
                        rintro e wd ⟨rfl, rfl⟩
                        rw [HW.out]
                        go_wp2_with fail
                        go_roundg (n - (t + 1))
                        case measure => exact meas HT.out HGG.out
                        case rel => exact ⟨t + 1, Nat.succ_le_of_lt HT.out, Nat.le_refl _, by first | rw [WI.out] | simp, rfl⟩
                    · have b5 : ((t : Int) == 1) = false := beq_eq_false_iff_ne.2 (by omega)
                      have HW := Aside0.mk (show doomOf (tk_ pol n h).s (t : Int) = 7 from (HD.out t HT.out).trans (by unfold wantF; rw [if_pos ⟨e1, .inr ⟨e2, e3, fun r => e4 r.1⟩⟩]))
                      clear e1 e2 e3 e4
                      go_wp2_with fail
                      refine (kl_doom HK7.out HG.out.2.2.2 t).mono ?_
                      rintro e wd ⟨rfl, rfl⟩
                      rw [HW.out]
                      go_wp2_with fail
                      go_roundg (n - (t + 1))
                      case measure => exact meas HT.out HGG.out
                      case rel => exact ⟨t + 1, Nat.succ_le_of_lt HT.out, Nat.le_refl _, by first | rw [WI.out] | simp, rfl⟩
                  · have b4 : decide (0 < t) = false := decide_eq_false (by omega)
                    have HW := Aside0.mk (show doomOf (tk_ pol n h).s (t : Int) = 0 from (HD.out t HT.out).trans (by unfold wantF; rw [if_neg (fun q => q.2.elim (fun r => e2 r.1) (fun r => e3 r.2.1)), if_neg (fun q => by omega)]))
                    clear e1 e2 e3
                    go_wp2_with fail
                    refine (kl_doom HK7.out HG.out.2.2.2 t).mono ?_
                    rintro e wd ⟨rfl, rfl⟩
                    rw [HW.out]
                    go_wp2_with fail
                    go_roundg (n - (t + 1))
                    case measure => exact meas HT.out HGG.out
                    case rel => exact ⟨t + 1, Nat.succ_le_of_lt HT.out, Nat.le_refl _, by first | rw [WI.out] | simp, rfl⟩
              · have b1 : (pol == 1) = false := beq_eq_false_iff_ne.2 (by omega)
                by_cases e2 : pol = 2
                · have b2 : (pol == 2) = true := beq_iff_eq.2 (by omega)
                  by_cases e3 : h < t
                  · have b4 : decide (h < t) = true := decide_eq_true (by omega)
                    have HW := Aside0.mk (show doomOf (tk_ pol n h).s (t : Int) = 8 from (HD.out t HT.out).trans (by unfold wantF; rw [if_neg (fun q => e1 q.1), if_pos ⟨e2, e3⟩]))
                    clear e1 e2 e3
                    go_wp2_with fail
                    refine (kl_doom HK7.out HG.out.2.2.2 t).mono ?_
                    rintro e wd ⟨rfl, rfl⟩
                    rw [HW.out]
                    go_wp2_with fail
                    go_roundg (n - (t + 1))
                    case measure => exact meas HT.out HGG.out
                    case rel => exact ⟨t + 1, Nat.succ_le_of_lt HT.out, Nat.le_refl _, by first | rw [WI.out] | simp, rfl⟩
                  · have b4 : decide (h < t) = false := decide_eq_false (by omega)
                    have HW := Aside0.mk (show doomOf (tk_ pol n h).s (t : Int) = 0 from (HD.out t HT.out).trans (by unfold wantF; rw [if_neg (fun q => e1 q.1), if_neg (fun q => e3 q.2)]))
                    clear e1 e2 e3
                    go_wp2_with fail
                    refine (kl_doom HK7.out HG.out.2.2.2 t).mono ?_
                    rintro e wd ⟨rfl, rfl⟩
                    rw [HW.out]
                    go_wp2_with fail
                    go_roundg (n - (t + 1))
                    case measure => exact meas HT.out HGG.out
                    case rel => exact ⟨t + 1, Nat.succ_le_of_lt HT.out, Nat.le_refl _, by first | rw [WI.out] | simp, rfl⟩
                · have b2 : (pol == 2) = false := beq_eq_false_iff_ne.2 (by omega)
                  have HW := Aside0.mk (show doomOf (tk_ pol n h).s (t : Int) = 0 from (HD.out t HT.out).trans (by unfold wantF; rw [if_neg (fun q => e1 q.1), if_neg (fun q => e2 q.1)]))
                  clear e1 e2
                  go_wp2_with fail
                  refine (kl_doom HK7.out HG.out.2.2.2 t).mono ?_
                  rintro e wd ⟨rfl, rfl⟩
                  rw [HW.out]
                  go_wp2_with fail
                  go_roundg (n - (t + 1))
                  case measure => exact meas HT.out HGG.out
                  case rel => exact ⟨t + 1, Nat.succ_le_of_lt HT.out, Nat.le_refl _, by first | rw [WI.out] | simp, rfl⟩
            · have te : t = n := eqN hlt HLE.out
              have t1 : ¬ ((t : Int) < (n : Int)) := by rw [te]; exact Int.lt_irrefl _
              clear hlt HGG HLE te
              go_wp2_with fail
              clear t1
              refine (coreFirst_ _).mono ?_
              rintro e wh ⟨rfl, hbf⟩
              have HK8 := Aside0.mk (HK7.out.below hbf)
              clear hbf
              go_wp2_with fail
              go_ret
              exact ⟨rfl, below_then HB2.out HB2.out.size HK8.out.base⟩
set_option maxHeartbeats 16000000 in
set_option maxRecDepth 100000 in
theorem least_bad (pol n h : Int) (w : World) (hb : pol < 0 ∨ pol > 2 ∨ n < 2 ∨ n > 10 ∨ h < 0 ∨ h ≥ n) :
    Calls Tryz.prog 3 #[.int .i64 pol, .int .i64 n, .int .i64 h] w fun e w' => e = .returned (.bool true) ∧ Below w.heap.size w w' := by
  have key : ∀ a b c d f g : Bool, decide (pol < 0) = a → decide (pol > 2) = b → decide (n < 2) = c → decide (n > 10) = d → decide (h < 0) = f → decide (h ≥ n) = g → (a || b || c || d || f || g) = true →
      Calls Tryz.prog 3 #[.int .i64 pol, .int .i64 n, .int .i64 h] w fun e w' => e = .returned (.bool true) ∧ Below w.heap.size w w' := by
    intro a b c d f g ha hb hc hd hf hg h
    cases a with
    | true =>
      go_enter Tryz.func3, Tryz.ntmps3
      go_wp2_with fail
      refine (coreFirst_ w).mono ?_
      rintro e w1 ⟨rfl, hb1⟩
      have HB1 := Aside0.mk hb1
      clear hb1
      go_wp2_with fail
      refine (coreFirst_ w1).mono ?_
      rintro e w2 ⟨rfl, hb2⟩
      have HB2 := Aside0.mk (below_then HB1.out HB1.out.size hb2)
      clear hb2
      go_wp2_with fail
      go_ret
      exact ⟨rfl, HB2.out⟩
    | false =>
    cases b with
    | true =>
      go_enter Tryz.func3, Tryz.ntmps3
      go_wp2_with fail
      refine (coreFirst_ w).mono ?_
      rintro e w1 ⟨rfl, hb1⟩
      have HB1 := Aside0.mk hb1
      clear hb1
      go_wp2_with fail
      refine (coreFirst_ w1).mono ?_
      rintro e w2 ⟨rfl, hb2⟩
      have HB2 := Aside0.mk (below_then HB1.out HB1.out.size hb2)
      clear hb2
      go_wp2_with fail
      go_ret
      exact ⟨rfl, HB2.out⟩
    | false =>
    cases c with
    | true =>
      go_enter Tryz.func3, Tryz.ntmps3
      go_wp2_with fail
      refine (coreFirst_ w).mono ?_
      rintro e w1 ⟨rfl, hb1⟩
      have HB1 := Aside0.mk hb1
      clear hb1
      go_wp2_with fail
      refine (coreFirst_ w1).mono ?_
      rintro e w2 ⟨rfl, hb2⟩
      have HB2 := Aside0.mk (below_then HB1.out HB1.out.size hb2)
      clear hb2
      go_wp2_with fail
      go_ret
      exact ⟨rfl, HB2.out⟩
    | false =>
    cases d with
    | true =>
      go_enter Tryz.func3, Tryz.ntmps3
      go_wp2_with fail
      refine (coreFirst_ w).mono ?_
      rintro e w1 ⟨rfl, hb1⟩
      have HB1 := Aside0.mk hb1
      clear hb1
      go_wp2_with fail
      refine (coreFirst_ w1).mono ?_
      rintro e w2 ⟨rfl, hb2⟩
      have HB2 := Aside0.mk (below_then HB1.out HB1.out.size hb2)
      clear hb2
      go_wp2_with fail
      go_ret
      exact ⟨rfl, HB2.out⟩
    | false =>
    cases f with
    | true =>
      go_enter Tryz.func3, Tryz.ntmps3
      go_wp2_with fail
      refine (coreFirst_ w).mono ?_
      rintro e w1 ⟨rfl, hb1⟩
      have HB1 := Aside0.mk hb1
      clear hb1
      go_wp2_with fail
      refine (coreFirst_ w1).mono ?_
      rintro e w2 ⟨rfl, hb2⟩
      have HB2 := Aside0.mk (below_then HB1.out HB1.out.size hb2)
      clear hb2
      go_wp2_with fail
      go_ret
      exact ⟨rfl, HB2.out⟩
    | false =>
    cases g with
    | true =>
      go_enter Tryz.func3, Tryz.ntmps3
      go_wp2_with fail
      refine (coreFirst_ w).mono ?_
      rintro e w1 ⟨rfl, hb1⟩
      have HB1 := Aside0.mk hb1
      clear hb1
      go_wp2_with fail
      refine (coreFirst_ w1).mono ?_
      rintro e w2 ⟨rfl, hb2⟩
      have HB2 := Aside0.mk (below_then HB1.out HB1.out.size hb2)
      clear hb2
      go_wp2_with fail
      go_ret
      exact ⟨rfl, HB2.out⟩
    | false => cases h
  refine key _ _ _ _ _ _ rfl rfl rfl rfl rfl rfl ?_
  simp only [Bool.or_eq_true, decide_eq_true_eq]
  omega
theorem least_walk (pol n h : Int) (w : World) : Calls Tryz.prog 3 #[.int .i64 pol, .int .i64 n, .int .i64 h] w fun e w' => e = .returned (.bool true) ∧ Below w.heap.size w w' := by
  by_cases hb : pol < 0 ∨ pol > 2 ∨ n < 2 ∨ n > 10 ∨ h < 0 ∨ h ≥ n
  · exact least_bad pol n h w hb
  · obtain ⟨n, rfl⟩ : ∃ k : Nat, n = k := ⟨n.toNat, by omega⟩
    obtain ⟨h, rfl⟩ : ∃ k : Nat, h = k := ⟨h.toNat, by omega⟩
    have h3 : pol = 0 ∨ pol = 1 ∨ pol = 2 := by omega
    have hv : LeastV pol n h := by
      rcases h3 with rfl | rfl | rfl
      · exact leastV0 n (by omega) (by omega) h (by omega)
      · exact leastV1 n (by omega) (by omega) h (by omega)
      · exact leastV2 n (by omega) (by omega) h (by omega)
    exact least_in pol n h (by omega) (by omega) (by omega) (by omega) (by omega) hv w
end Go.Proofs.YtaaekmcmpjljgaaGreat.Co
