/- LaneFits: the walk. -/
import Derived.Test.YtagdgkimjgomlaaFitsP
set_option maxHeartbeats 8000000
namespace Go.Proofs.Ytagdgkimjgomlaa.Ln
open Go.RowKit Go.Proofs.YtagdgkimjgomlaaW.PrintWords Go.Proofs.YtagdgkimjgomlaaW.PrintLast Go.Proofs.YtagdgkimjgomlaaW.PrintMore Go.Proofs.Ytagdgkimjgomlaa.PMd
open Go.Sort (grow)
set_option linter.unusedVariables false
set_option linter.unusedSimpArgs false
theorem blocks_len (hs qs : List E) (who : Int) : (blocksIn hs qs who).length ≤ hs.length + qs.length := by
  unfold blocksIn
  split
  · simp
  · refine Nat.le_trans (compact_le _) ?_
    unfold sortedI blocksAt
    rw [List.length_mergeSort, List.length_append, List.length_map, List.length_map, List.length_take]
    have := List.length_filter_le (inWay who (qs.getD (ix (fun x => x.f0 == who) qs).toNat z67).f1) hs
    omega
set_option maxHeartbeats 8000000 in
set_option maxRecDepth 100000 in
theorem fits_long (A : Option Addr) (c : Nat) (l : List Op3) (w : World) (h1 : 300 < l.length) :
    Calls Try.prog 14 #[.slice A l.length c] w fun e w' => e = .returned (.bool true) ∧ Below w.heap.size w w' := by
  go_enter Try.func14, Try.ntmps14
  go_wp2_with fail
  refine (first_ w w (Below.refl _ _)).mono ?_
  rintro e w1 ⟨rfl, hb⟩
  have HB := Aside0.mk hb
  clear hb
  go_wp2_with fail
  refine (New_L w w1 HB.out).mono ?_
  rintro e w2 ⟨rfl, hL, _⟩
  have HL := Aside0.mk hL
  clear hL
  go_wp2_with fail
  refine (first_ w w2 HL.out.2.2).mono ?_
  rintro e w3 ⟨rfl, hb3⟩
  have HB3 := Aside0.mk (below_then HL.out.2.2 HL.out.2.2.size hb3)
  clear hb3
  go_wp2
  go_ret
  exact ⟨rfl, HB3.out⟩
set_option maxHeartbeats 8000000 in
set_option maxRecDepth 100000 in
theorem fits_in (A : Option Addr) (c : Nat) (l : List Op3) (w : World) (hr : Kd.C kOp w A l.length l) (hc : l.length ≤ c) (h1 : l.length ≤ 300) :
    Calls Try.prog 14 #[.slice A l.length c] w fun e w' => e = .returned (.bool true) ∧ Below w.heap.size w w' := by
  have mixed : Try.prog.follows Departure.mixedOrders = true := by kernel_rfl
  have hu73 := Try.underlying73
  have HR := Aside0.mk hr
  clear hr
  go_enter Try.func14, Try.ntmps14
  go_wp2_with fail
  refine (first_ w w (Below.refl _ _)).mono ?_
  rintro e w1 ⟨rfl, hb⟩
  have HB := Aside0.mk hb
  clear hb
  go_wp2_with fail
  refine (New_L w w1 HB.out).mono ?_
  rintro e w2 ⟨rfl, hL, _⟩
  have HL := Aside0.mk hL
  clear hL HB
  generalize hB : w1.heap.size = B at HL ⊢
  clear hB
  go_wp2_with fail
  go_loopg [4] l.length (fun gg v wr => ∃ (i : Nat) (hs qs : List E), i ≤ l.length ∧ l.length - i ≤ gg ∧ v = .int .i64 i ∧ Aside0 (Live w wr B hs qs) ∧ Aside0 (Inv hs qs ∧ hs.length + qs.length ≤ i))
  case atStart => exact ⟨0, [], [], by omega, by omega, rfl, HL, ⟨inv_nil, Nat.le_refl _⟩⟩
  case round =>
    clear HL
    obtain ⟨i, hs, qs, hi, hgg, rfl, HLi, HVi⟩ := hrel
    by_cases hlt : i < l.length
    · have t1 : (i : Int) < l.length := by omega
      have t0 : 0 ≤ (i : Int) := by omega
      have HI := Aside0.mk (And.intro hlt h1)
      obtain ⟨ad, rfl, q0, q1, q2⟩ := at_Op (Kd.C_below HR.out HLi.out.2.2) i hlt
      generalize l.getD i zOp = o at q0 q1 q2
      have HBX := Aside0.mk (blk_new wr (.cells #[.int .i64 o.f0, .int .i64 o.f1, .int .i64 o.f2] 73))
      have HLX := Aside0.mk (HLi.out.keep (X := fun k => k = wr.heap.size) (below_alloc (Below.refl wr.heap.size wr) (.cells #[.int .i64 o.f0, .int .i64 o.f1, .int .i64 o.f2] 73)) (fun k hk => by subst hk; exact ⟨Nat.le_refl _, by simp⟩))
      have x0 : (wr.alloc (.cells #[.int .i64 o.f0, .int .i64 o.f1, .int .i64 o.f2] 73)).cell? ⟨wr.heap.size, 0, none⟩ = some (.int .i64 o.f0) := (blk_cell HBX.out 0).trans rfl
      have x1 : (wr.alloc (.cells #[.int .i64 o.f0, .int .i64 o.f1, .int .i64 o.f2] 73)).cell? ⟨wr.heap.size, 1, none⟩ = some (.int .i64 o.f1) := (blk_cell HBX.out 1).trans rfl
      have x2 : (wr.alloc (.cells #[.int .i64 o.f0, .int .i64 o.f1, .int .i64 o.f2] 73)).cell? ⟨wr.heap.size, 2, none⟩ = some (.int .i64 o.f2) := (blk_cell HBX.out 2).trans rfl
      have HX1 := Aside0.mk x1
      have HX2 := Aside0.mk x2
      clear x1 x2 HBX
      by_cases hkd : o.f0 = 0
      · have k0 : (o.f0 == 0) = true := beq_iff_eq.2 hkd
        clear hkd
        have x1 := HX1.out
        have HHo := Aside0.mk (Holds_L o.f1 HLX.out.live)
        go_wp2_with fail
        refine HHo.out.mono ?_
        rintro e w3 ⟨rfl, hL, hb⟩
        have HL3 := Aside0.mk (HLX.out.below hb)
        have y1 := cell_be HX1.out hb
        have y2 := cell_be HX2.out hb
        have HX1' := Aside0.mk y1
        have HX2' := Aside0.mk y2
        clear hL hb HHo HLX HX1 HX2 x0 x1 k0 q0 q1 q2 HLi
        have HAx := Aside0.mk (Ask_X o.f1 o.f2 HL3.out (by have := HVi.out.2; omega) (by have := HVi.out.2; omega))
        have hV2 : Inv (askIn hs qs o.f1 o.f2).2.1 (askIn hs qs o.f1 o.f2).2.2 ∧ (askIn hs qs o.f1 o.f2).2.1.length + (askIn hs qs o.f1 o.f2).2.2.length ≤ i + 1 := ⟨inv_ask HVi.out.1 _ _, by have := ask_len hs qs o.f1 o.f2; have := HVi.out.2; omega⟩
        have HVt := Aside0.mk hV2
        have HTm := Aside0.mk (And.intro ((inv_ask HVi.out.1 o.f1 o.f2).toInvS.told_md o.f1) (HVi.out.1.toInvS.told_md o.f1))
        have hAF := ask_facts HVi.out.1 o.f1 o.f2
        generalize hs0 : toldIn hs o.f1 = was at hAF HTm ⊢
        clear hs0 hV2
        generalize (askIn hs qs o.f1 o.f2).2.1 = hs2 at HAx HVt HTm hAF ⊢
        generalize (askIn hs qs o.f1 o.f2).2.2 = qs2 at HAx HVt hAF ⊢
        generalize (askIn hs qs o.f1 o.f2).1 = r at HAx hAF ⊢
        go_wp2_with fail
        refine HAx.out.mono ?_
        rintro e w4 ⟨rfl, hL, hG⟩
        have z1 := hG.cell HX1'.out (fun h => h.2 rfl)
        have z2 := hG.cell HX2'.out (fun h => h.2 rfl)
        have HL4 := Aside0.mk hL.live
        clear hL hG HAx HL3 HX1' HX2' y1 y2
        have HHo := Aside0.mk (Holds_L o.f1 HL4.out)
        generalize hs0 : toldIn hs2 o.f1 = now at hAF HHo HTm
        clear hs0
        go_wp2_with fail
        refine HHo.out.mono ?_
        rintro e w5 ⟨rfl, hL, hb⟩
        have HL5 := Aside0.mk hL
        have z2' := cell_be z2 hb
        clear hL hb HHo HL4 z1 z2
        rcases hAF with ⟨rfl, hm, c1, c2⟩ | ⟨e1, rfl⟩
        · have HC1 := Aside0.mk (Covers_ now o.f2 w5 HTm.out.1 hm c1)
          have HC2 := Aside0.mk (fun W => Covers_ now was W HTm.out.1 HTm.out.2 c2)
          clear c1 c2 hm HTm
          go_wp2_with fail
          refine HC1.out.mono ?_
          rintro e w6 ⟨rfl, hb⟩
          have HL6 := Aside0.mk (HL5.out.below hb)
          clear hb HC1 HL5 z2'
          go_wp2_with fail
          refine (HC2.out w6).mono ?_
          rintro e wt ⟨rfl, hb⟩
          have HLt := Aside0.mk (HL6.out.below hb)
          clear hb HC2 HL6
          go_wp2_with fail
          have hi3 := HI.out
          have HN2 := Aside0.mk (show hs2.length ≤ 301 ∧ qs2.length ≤ 301 by have := HVt.out.2; omega)
          have HH := Aside0.mk (Holders_L HLt.out (by have := HN2.out.1; omega))
          refine HH.out.mono ?_
          rintro e w7 ⟨A7, c7, rfl, hK, hc7, hL, _⟩
          have HQ := Aside0.mk (Queue_L hL (by have := HN2.out.2; omega))
          have HK7 := Aside0.mk hK
          clear hL hK HH HLt
          go_wp2_with fail
          refine HQ.out.mono ?_
          rintro e w8 ⟨A8, c8, rfl, hK, hc8, hL, hb⟩
          have HK7' := Aside0.mk (Kd.C_below HK7.out hb)
          have HK8 := Aside0.mk hK
          have HL8 := Aside0.mk hL
          clear hL hK hb HQ HK7
          have hn1 := HN2.out.1
          have hn2 := HN2.out.2
          go_wp2_with fail
          go_loopg [11] hs2.length (fun gg v wr => ∃ x : Nat, x ≤ hs2.length ∧ hs2.length - x ≤ gg ∧ v = .int .i64 x ∧ Aside0 (Live w wr B hs2 qs2) ∧ Aside0 (Kd.C k67 wr A7 hs2.length hs2) ∧ Aside0 (Kd.C k67 wr A8 qs2.length qs2))
          case atStart => exact ⟨0, by omega, by omega, rfl, HL8, HK7', HK8⟩
          case round => as_aux_lemma =>
            clear HL8 HK7' HK8
            obtain ⟨x, hx, hgg, rfl, HLx, HKx, HKq⟩ := hrel
            by_cases hlt : x < hs2.length
            · have t1 : (x : Int) < hs2.length := by omega
              go_wp2_with fail
              go_loopg [12] x (fun gg v wr => ∃ y : Nat, y ≤ x ∧ x - y ≤ gg ∧ v = .int .i64 y ∧ Aside0 (Live w wr B hs2 qs2) ∧ Aside0 (Kd.C k67 wr A7 hs2.length hs2) ∧ Aside0 (Kd.C k67 wr A8 qs2.length qs2))
              case atStart => exact ⟨0, by omega, by omega, rfl, HLx, HKx, HKq⟩
              case round => as_aux_lemma =>
                clear HLx HKx HKq
                obtain ⟨y, hy, hgg2, rfl, HLx, HKx, HKq⟩ := hrel
                by_cases hyx : y < x
                · have t2 : (y : Int) < x := by omega
                  have t3 : (y : Int) < hs2.length := by omega
                  have t4 : 0 ≤ (x : Int) := by omega
                  have t5 : 0 ≤ (y : Int) := by omega
                  obtain ⟨ad, rfl, q0, q1⟩ := at_T67 HKx.out (x : Int) t4 (by omega)
                  obtain ⟨ad2, e2, r0, r1⟩ := at_T67 HKx.out (y : Int) t5 (by omega)
                  obtain rfl : ad = ad2 := by injection e2
                  clear e2
                  rw [rdT_getD] at q0 q1 r0 r1
                  simp only [Int.toNat_natCast] at q0 q1 r0 r1
                  have hord : (hs2.getD y z67).f0 < (hs2.getD x z67).f0 := by
                    have h3 := List.pairwise_iff_getElem.1 HVt.out.1.asc y x (by omega) hlt hyx
                    simpa [List.getD_eq_getElem?_getD, List.getElem?_eq_getElem hlt, List.getElem?_eq_getElem (show y < hs2.length by omega)] using h3
                  have hft := HVt.out.1.fit _ (getD_mem' hlt) _ (getD_mem' (show y < hs2.length by omega)) (by omega)
                  have HFT := Aside0.mk (fun W => Fits_B (hs2.getD x z67).f1 (hs2.getD y z67).f1 W)
                  rw [hft] at HFT
                  generalize hs2.getD x z67 = X at q0 q1 hord HFT
                  generalize hs2.getD y z67 = Y at r0 r1 hord HFT
                  have s1 : decide (X.f0 ≤ Y.f0) = false := decide_eq_false (by omega)
                  have s2 : decide (Y.f0 ≥ X.f0) = false := decide_eq_false (by omega)
                  have s3 : ¬ X.f0 ≤ Y.f0 := by omega
                  have c0 := fun d os => cell_gr q0 d os
                  have c1 := fun d os => cell_gr q1 d os
                  have d0 := fun d os => cell_gr r0 d os
                  have d1 := fun d os => cell_gr r1 d os
                  clear hft hord
                  go_wp2_with fail
                  refine wp_region_gr mixed (by kernel_rfl) ?_
                  repeat (go_big_quiet_step (exact Calls.gr_of (HFT.out _)))
                  refine wpQuiet_nil ?_
                  intro _ hw'
                  obtain ⟨⟨d, os⟩, rfl⟩ := hw'
                  have hgr := below_gr wr d os
                  have HL9 := Aside0.mk (HLx.out.below hgr)
                  have HK9 := Aside0.mk (Kd.C_below HKx.out hgr)
                  have HQ9 := Aside0.mk (Kd.C_below HKq.out hgr)
                  generalize grow (wat wr d) os = w9 at HL9 HK9 HQ9 ⊢
                  clear c0 c1 d0 d1 q0 q1 r0 r1 s1 s2 s3 hgr HFT HLx HKx HKq
                  go_wp2
                  go_roundg (x - (y + 1))
                  case measure => omega
                  case rel => exact ⟨y + 1, by omega, by omega, by go_num, HL9, HK9, HQ9⟩
                · have ey : y = x := by omega
                  subst ey
                  clear hy hgg2 hyx
                  have hlt4 : ¬ y < y := Nat.lt_irrefl _
                  go_wp2
                  go_roundg (hs2.length - (y + 1))
                  case measure => omega
                  case rel => exact ⟨y + 1, by omega, by omega, by go_num, HLx, HKx, HKq⟩
            · have ex : ¬ x < hs2.length := hlt
              have ex2 : x = hs2.length := by omega
              subst ex2
              clear hx hgg hlt HKx
              go_wp2_with fail
              go_loopg [13] qs2.length (fun gg v wr => ∃ x : Nat, x ≤ qs2.length ∧ qs2.length - x ≤ gg ∧ v = .int .i64 x ∧ Aside0 (Live w wr B hs2 qs2) ∧ Aside0 (Kd.C k67 wr A8 qs2.length qs2))
              case atStart => exact ⟨0, by omega, by omega, rfl, HLx, HKq⟩
              case round => as_aux_lemma =>
                clear HLx HKq
                obtain ⟨x, hx, hgg, rfl, HLx, HKq⟩ := hrel
                by_cases hlt : x < qs2.length
                · have t1 : (x : Int) < qs2.length := by omega
                  have t0 : 0 ≤ (x : Int) := by omega
                  have HWF := Aside0.mk (waits_facts HVt.out.1 hlt)
                  obtain ⟨ad, rfl, q0, q1⟩ := at_T67 HKq.out (x : Int) t0 (by omega)
                  rw [rdT_getD] at q0 q1
                  simp only [Int.toNat_natCast] at q0 q1
                  have HM := Aside0.mk (And.intro (HVt.out.1.mq _ (getD_mem' hlt)).1 (HVt.out.1.cov _ (getD_mem' hlt)))
                  have HKq0 := HKq
                  generalize hX : qs2.getD x z67 = X at q0 q1 HWF HM
                  have HBl := Aside0.mk (Blocks_L X.f0 HLx.out (by omega) (by omega))
                  have HBN0 := Aside0.mk (show (blocksIn hs2 qs2 X.f0).length ≤ 1000000 by have := blocks_len hs2 qs2 X.f0; omega)
                  generalize blocksIn hs2 qs2 X.f0 = b at HBl HWF HBN0
                  go_wp2_with fail
                  refine HBl.out.mono ?_
                  rintro e w9 ⟨A9, c9, rfl, hK9, hc9, hL, hb⟩
                  have HL9 := Aside0.mk hL
                  have HB9 := Aside0.mk hK9
                  have HQ9 := Aside0.mk (Kd.C_below HKq.out hb)
                  have u0 := cell_be q0 hb
                  have u1 := cell_be q1 hb
                  have HBN := HBN0
                  clear hL hK9 hb HBl HLx HKq HKq0 q0 q1
                  have s0 : ((b.length : Int) == 0) = false := beq_eq_false_iff_ne.2 (fun h => HWF.out.1 (List.eq_nil_of_length_eq_zero (by omega)))
                  have s0b : (b.length == 0) = false := beq_eq_false_iff_ne.2 (fun h => HWF.out.1 (List.eq_nil_of_length_eq_zero (by omega)))
                  have s1 : (X.f1 != X.f1) = false := by simp
                  have K1 := Aside0.mk (fun (W : World) (hb : Below w9.heap.size w9 W) => Has_ A9 c9 b X.f0 W (Kd.C_below HB9.out hb) hc9 HBN.out)
                  rw [decide_eq_false HWF.out.2.1] at K1
                  have K2 := Aside0.mk (fun (W : World) (hb : Below w9.heap.size w9 W) => Waits_ W B _ hs2 qs2 X.f0 (HL9.out.1.below hb))
                  rw [HWF.out.2.2.1] at K2
                  have K3 := Aside0.mk (fun (W : World) (hb : Below w9.heap.size w9 W) => Holds_ W B _ hs2 qs2 X.f0 (HL9.out.1.below hb))
                  have K4 := Aside0.mk (fun (W : World) => Covers_ X.f1 (toldIn hs2 X.f0) W HM.out.1 (HVt.out.1.toInvS.told_md _) HM.out.2)
                  have c0 := fun d os => cell_gr u0 d os
                  have c1 := fun d os => cell_gr u1 d os
                  go_wp2_with fail
                  refine wp_region_gr mixed (by kernel_rfl) ?_
                  repeat (go_big_quiet_step (first | exact Calls.gr_of (K1.out _ (below_gr _ _ _)) | exact Calls.gr_of (K2.out _ (below_gr _ _ _)) | exact Calls.gr_of (K3.out _ (below_gr _ _ _)) | exact Calls.gr_of (K4.out _)))
                  refine wpQuiet_nil ?_
                  intro _ hw'
                  obtain ⟨⟨d, os⟩, rfl⟩ := hw'
                  have hgr := below_gr w9 d os
                  have HL10 := Aside0.mk (HL9.out.below hgr)
                  have HB10 := Aside0.mk (Kd.C_below HB9.out hgr)
                  have HQ10 := Aside0.mk (Kd.C_below HQ9.out hgr)
                  generalize grow (wat w9 d) os = w10 at HL10 HB10 HQ10 ⊢
                  clear c0 c1 u0 u1 s0 s0b s1 hgr K1 K2 K3 K4 HL9 HB9 HQ9
                  go_wp2_with fail
                  go_loopg [15] x (fun gg v wr => ∃ y : Nat, y ≤ x ∧ x - y ≤ gg ∧ v = .int .i64 y ∧ Aside0 (Live w wr B hs2 qs2) ∧ Aside0 (Kd.C (Kd.int .i64) wr A9 b.length b) ∧ Aside0 (Kd.C k67 wr (some ad) qs2.length qs2))
                  case atStart => exact ⟨0, by omega, by omega, rfl, HL10, HB10, HQ10⟩
                  case round => as_aux_lemma =>
                    clear HL10 HB10 HQ10
                    obtain ⟨y, hy, hgg2, rfl, HLy, HBy, HQy⟩ := hrel
                    by_cases hyx : y < x
                    · have t2 : (y : Int) < x := by omega
                      have t3 : (y : Int) < qs2.length := by omega
                      have t5 : 0 ≤ (y : Int) := by omega
                      obtain ⟨ad1, e1, q0, q1⟩ := at_T67 HQy.out (x : Int) t0 (by omega)
                      obtain rfl : ad = ad1 := by injection e1
                      obtain ⟨ad2, e2, r0, r1⟩ := at_T67 HQy.out (y : Int) t5 (by omega)
                      obtain rfl : ad = ad2 := by injection e2
                      clear e1 e2 q1 r1
                      rw [rdT_getD] at q0 r0
                      rw [hX] at q0
                      simp only [Int.toNat_natCast] at q0 r0
                      have hin := HWF.out.2.2.2.1 y hyx
                      have hcv := HWF.out.2.2.2.2 y hyx
                      generalize qs2.getD y z67 = Y at r0 hin hcv
                      have hC := Has_ A9 c9 b Y.f0 wr HBy.out hc9 HBN.out
                      rw [decide_eq_true hin] at hC
                      have K1 := Aside0.mk hC
                      clear hC hin
                      go_wp2_with fail
                      refine K1.out.mono ?_
                      rintro e w11 ⟨rfl, hb⟩
                      have HL11 := Aside0.mk (HLy.out.below hb)
                      have HB11 := Aside0.mk (Kd.C_below HBy.out hb)
                      have HQ11 := Aside0.mk (Kd.C_below HQy.out hb)
                      have q0' := cell_be q0 hb
                      have r0' := cell_be r0 hb
                      have HRr := Aside0.mk r0'
                      clear hb K1 HLy HBy HQy q0 r0
                      have K2 := Aside0.mk (Holds_L X.f0 HL11.out)
                      by_cases hz : toldIn hs2 X.f0 = 0
                      · rw [hz] at K2
                        clear hz hcv
                        go_wp2_with fail
                        refine K2.out.mono ?_
                        rintro e w12 ⟨rfl, hL, hb⟩
                        have HL12 := Aside0.mk hL
                        have HB12 := Aside0.mk (Kd.C_below HB11.out hb)
                        have HQ12 := Aside0.mk (Kd.C_below HQ11.out hb)
                        clear hL hb K2 HL11 HB11 HQ11 q0' r0' HRr
                        go_wp2
                        go_roundg (x - (y + 1))
                        case measure => omega
                        case rel => exact ⟨y + 1, by omega, by omega, by go_num, HL12, HB12, HQ12⟩
                      · have hz2 := hcv hz
                        clear hcv
                        obtain ⟨h3, e3⟩ : ∃ h3, toldIn hs2 X.f0 = h3 := ⟨_, rfl⟩
                        rw [e3] at K2 hz
                        clear e3
                        have s1 : (h3 != 0) = true := bne_iff_ne.2 hz
                        go_wp2_with fail
                        refine K2.out.mono ?_
                        rintro e w12 ⟨rfl, hL, hb⟩
                        have K3 := Aside0.mk (Holds_L Y.f0 hL)
                        have HB12 := Aside0.mk (Kd.C_below HB11.out hb)
                        have HQ12 := Aside0.mk (Kd.C_below HQ11.out hb)
                        have r2 := cell_be HRr.out hb
                        obtain ⟨h4, e4⟩ : ∃ h4, toldIn hs2 Y.f0 = h4 := ⟨_, rfl⟩
                        rw [e4] at K3 hz2
                        clear e4
                        have s2 : (h4 == 0) = false := beq_eq_false_iff_ne.2 hz2
                        clear hz hz2
                        clear hL hb K2 HL11 HB11 HQ11 q0' r0' HRr
                        go_wp2_with fail
                        refine K3.out.mono ?_
                        rintro e w13 ⟨rfl, hL, hb⟩
                        have HL13 := Aside0.mk hL
                        have HB13 := Aside0.mk (Kd.C_below HB12.out hb)
                        have HQ13 := Aside0.mk (Kd.C_below HQ12.out hb)
                        clear hL hb K3 HB12 HQ12 r2
                        go_wp2
                        go_roundg (x - (y + 1))
                        case measure => omega
                        case rel => exact ⟨y + 1, by omega, by omega, by go_num, HL13, HB13, HQ13⟩
                    · have ey : y = x := by omega
                      subst ey
                      clear hy hgg2 hyx
                      have hlt4 : ¬ y < y := Nat.lt_irrefl _
                      go_wp2
                      go_roundg (qs2.length - (y + 1))
                      case measure => omega
                      case rel => exact ⟨y + 1, by omega, by omega, by go_num, HLy, HQy⟩
                · have ex2 : x = qs2.length := by omega
                  subst ex2
                  clear hx hgg hlt
                  have hlt5 : ¬ qs2.length < qs2.length := Nat.lt_irrefl _
                  go_wp2
                  go_roundg (l.length - (i + 1))
                  case measure => omega
                  case rel => exact ⟨i + 1, hs2, qs2, by omega, by omega, by go_num, HLx, HVt⟩
        · have s1 : (now != now) = false := by simp
          have HLt := HL5
          clear HL5 HTm z2'
          rcases e1 with rfl | rfl
          all_goals
            go_wp2_with fail
            have hi3 := HI.out
            have HN2 := Aside0.mk (show hs2.length ≤ 301 ∧ qs2.length ≤ 301 by have := HVt.out.2; omega)
            have HH := Aside0.mk (Holders_L HLt.out (by have := HN2.out.1; omega))
            refine HH.out.mono ?_
            rintro e w7 ⟨A7, c7, rfl, hK, hc7, hL, _⟩
            have HQ := Aside0.mk (Queue_L hL (by have := HN2.out.2; omega))
            have HK7 := Aside0.mk hK
            clear hL hK HH HLt
            go_wp2_with fail
            refine HQ.out.mono ?_
            rintro e w8 ⟨A8, c8, rfl, hK, hc8, hL, hb⟩
            have HK7' := Aside0.mk (Kd.C_below HK7.out hb)
            have HK8 := Aside0.mk hK
            have HL8 := Aside0.mk hL
            clear hL hK hb HQ HK7
            have hn1 := HN2.out.1
            have hn2 := HN2.out.2
            go_wp2_with fail
            go_loopg [11] hs2.length (fun gg v wr => ∃ x : Nat, x ≤ hs2.length ∧ hs2.length - x ≤ gg ∧ v = .int .i64 x ∧ Aside0 (Live w wr B hs2 qs2) ∧ Aside0 (Kd.C k67 wr A7 hs2.length hs2) ∧ Aside0 (Kd.C k67 wr A8 qs2.length qs2))
            case atStart => exact ⟨0, by omega, by omega, rfl, HL8, HK7', HK8⟩
            case round => as_aux_lemma =>
              clear HL8 HK7' HK8
              obtain ⟨x, hx, hgg, rfl, HLx, HKx, HKq⟩ := hrel
              by_cases hlt : x < hs2.length
              · have t1 : (x : Int) < hs2.length := by omega
                go_wp2_with fail
                go_loopg [12] x (fun gg v wr => ∃ y : Nat, y ≤ x ∧ x - y ≤ gg ∧ v = .int .i64 y ∧ Aside0 (Live w wr B hs2 qs2) ∧ Aside0 (Kd.C k67 wr A7 hs2.length hs2) ∧ Aside0 (Kd.C k67 wr A8 qs2.length qs2))
                case atStart => exact ⟨0, by omega, by omega, rfl, HLx, HKx, HKq⟩
                case round => as_aux_lemma =>
                  clear HLx HKx HKq
                  obtain ⟨y, hy, hgg2, rfl, HLx, HKx, HKq⟩ := hrel
                  by_cases hyx : y < x
                  · have t2 : (y : Int) < x := by omega
                    have t3 : (y : Int) < hs2.length := by omega
                    have t4 : 0 ≤ (x : Int) := by omega
                    have t5 : 0 ≤ (y : Int) := by omega
                    obtain ⟨ad, rfl, q0, q1⟩ := at_T67 HKx.out (x : Int) t4 (by omega)
                    obtain ⟨ad2, e2, r0, r1⟩ := at_T67 HKx.out (y : Int) t5 (by omega)
                    obtain rfl : ad = ad2 := by injection e2
                    clear e2
                    rw [rdT_getD] at q0 q1 r0 r1
                    simp only [Int.toNat_natCast] at q0 q1 r0 r1
                    have hord : (hs2.getD y z67).f0 < (hs2.getD x z67).f0 := by
                      have h3 := List.pairwise_iff_getElem.1 HVt.out.1.asc y x (by omega) hlt hyx
                      simpa [List.getD_eq_getElem?_getD, List.getElem?_eq_getElem hlt, List.getElem?_eq_getElem (show y < hs2.length by omega)] using h3
                    have hft := HVt.out.1.fit _ (getD_mem' hlt) _ (getD_mem' (show y < hs2.length by omega)) (by omega)
                    have HFT := Aside0.mk (fun W => Fits_B (hs2.getD x z67).f1 (hs2.getD y z67).f1 W)
                    rw [hft] at HFT
                    generalize hs2.getD x z67 = X at q0 q1 hord HFT
                    generalize hs2.getD y z67 = Y at r0 r1 hord HFT
                    have s1 : decide (X.f0 ≤ Y.f0) = false := decide_eq_false (by omega)
                    have s2 : decide (Y.f0 ≥ X.f0) = false := decide_eq_false (by omega)
                    have s3 : ¬ X.f0 ≤ Y.f0 := by omega
                    have c0 := fun d os => cell_gr q0 d os
                    have c1 := fun d os => cell_gr q1 d os
                    have d0 := fun d os => cell_gr r0 d os
                    have d1 := fun d os => cell_gr r1 d os
                    clear hft hord
                    go_wp2_with fail
                    refine wp_region_gr mixed (by kernel_rfl) ?_
                    repeat (go_big_quiet_step (exact Calls.gr_of (HFT.out _)))
                    refine wpQuiet_nil ?_
                    intro _ hw'
                    obtain ⟨⟨d, os⟩, rfl⟩ := hw'
                    have hgr := below_gr wr d os
                    have HL9 := Aside0.mk (HLx.out.below hgr)
                    have HK9 := Aside0.mk (Kd.C_below HKx.out hgr)
                    have HQ9 := Aside0.mk (Kd.C_below HKq.out hgr)
                    generalize grow (wat wr d) os = w9 at HL9 HK9 HQ9 ⊢
                    clear c0 c1 d0 d1 q0 q1 r0 r1 s1 s2 s3 hgr HFT HLx HKx HKq
                    go_wp2
                    go_roundg (x - (y + 1))
                    case measure => omega
                    case rel => exact ⟨y + 1, by omega, by omega, by go_num, HL9, HK9, HQ9⟩
                  · have ey : y = x := by omega
                    subst ey
                    clear hy hgg2 hyx
                    have hlt4 : ¬ y < y := Nat.lt_irrefl _
                    go_wp2
                    go_roundg (hs2.length - (y + 1))
                    case measure => omega
                    case rel => exact ⟨y + 1, by omega, by omega, by go_num, HLx, HKx, HKq⟩
              · have ex : ¬ x < hs2.length := hlt
                have ex2 : x = hs2.length := by omega
                subst ex2
                clear hx hgg hlt HKx
                go_wp2_with fail
                go_loopg [13] qs2.length (fun gg v wr => ∃ x : Nat, x ≤ qs2.length ∧ qs2.length - x ≤ gg ∧ v = .int .i64 x ∧ Aside0 (Live w wr B hs2 qs2) ∧ Aside0 (Kd.C k67 wr A8 qs2.length qs2))
                case atStart => exact ⟨0, by omega, by omega, rfl, HLx, HKq⟩
                case round => as_aux_lemma =>
                  clear HLx HKq
                  obtain ⟨x, hx, hgg, rfl, HLx, HKq⟩ := hrel
                  by_cases hlt : x < qs2.length
                  · have t1 : (x : Int) < qs2.length := by omega
                    have t0 : 0 ≤ (x : Int) := by omega
                    have HWF := Aside0.mk (waits_facts HVt.out.1 hlt)
                    obtain ⟨ad, rfl, q0, q1⟩ := at_T67 HKq.out (x : Int) t0 (by omega)
                    rw [rdT_getD] at q0 q1
                    simp only [Int.toNat_natCast] at q0 q1
                    have HM := Aside0.mk (And.intro (HVt.out.1.mq _ (getD_mem' hlt)).1 (HVt.out.1.cov _ (getD_mem' hlt)))
                    have HKq0 := HKq
                    generalize hX : qs2.getD x z67 = X at q0 q1 HWF HM
                    have HBl := Aside0.mk (Blocks_L X.f0 HLx.out (by omega) (by omega))
                    have HBN0 := Aside0.mk (show (blocksIn hs2 qs2 X.f0).length ≤ 1000000 by have := blocks_len hs2 qs2 X.f0; omega)
                    generalize blocksIn hs2 qs2 X.f0 = b at HBl HWF HBN0
                    go_wp2_with fail
                    refine HBl.out.mono ?_
                    rintro e w9 ⟨A9, c9, rfl, hK9, hc9, hL, hb⟩
                    have HL9 := Aside0.mk hL
                    have HB9 := Aside0.mk hK9
                    have HQ9 := Aside0.mk (Kd.C_below HKq.out hb)
                    have u0 := cell_be q0 hb
                    have u1 := cell_be q1 hb
                    have HBN := HBN0
                    clear hL hK9 hb HBl HLx HKq HKq0 q0 q1
                    have s0 : ((b.length : Int) == 0) = false := beq_eq_false_iff_ne.2 (fun h => HWF.out.1 (List.eq_nil_of_length_eq_zero (by omega)))
                    have s0b : (b.length == 0) = false := beq_eq_false_iff_ne.2 (fun h => HWF.out.1 (List.eq_nil_of_length_eq_zero (by omega)))
                    have s1 : (X.f1 != X.f1) = false := by simp
                    have K1 := Aside0.mk (fun (W : World) (hb : Below w9.heap.size w9 W) => Has_ A9 c9 b X.f0 W (Kd.C_below HB9.out hb) hc9 HBN.out)
                    rw [decide_eq_false HWF.out.2.1] at K1
                    have K2 := Aside0.mk (fun (W : World) (hb : Below w9.heap.size w9 W) => Waits_ W B _ hs2 qs2 X.f0 (HL9.out.1.below hb))
                    rw [HWF.out.2.2.1] at K2
                    have K3 := Aside0.mk (fun (W : World) (hb : Below w9.heap.size w9 W) => Holds_ W B _ hs2 qs2 X.f0 (HL9.out.1.below hb))
                    have K4 := Aside0.mk (fun (W : World) => Covers_ X.f1 (toldIn hs2 X.f0) W HM.out.1 (HVt.out.1.toInvS.told_md _) HM.out.2)
                    have c0 := fun d os => cell_gr u0 d os
                    have c1 := fun d os => cell_gr u1 d os
                    go_wp2_with fail
                    refine wp_region_gr mixed (by kernel_rfl) ?_
                    repeat (go_big_quiet_step (first | exact Calls.gr_of (K1.out _ (below_gr _ _ _)) | exact Calls.gr_of (K2.out _ (below_gr _ _ _)) | exact Calls.gr_of (K3.out _ (below_gr _ _ _)) | exact Calls.gr_of (K4.out _)))
                    refine wpQuiet_nil ?_
                    intro _ hw'
                    obtain ⟨⟨d, os⟩, rfl⟩ := hw'
                    have hgr := below_gr w9 d os
                    have HL10 := Aside0.mk (HL9.out.below hgr)
                    have HB10 := Aside0.mk (Kd.C_below HB9.out hgr)
                    have HQ10 := Aside0.mk (Kd.C_below HQ9.out hgr)
                    generalize grow (wat w9 d) os = w10 at HL10 HB10 HQ10 ⊢
                    clear c0 c1 u0 u1 s0 s0b s1 hgr K1 K2 K3 K4 HL9 HB9 HQ9
                    go_wp2_with fail
                    go_loopg [15] x (fun gg v wr => ∃ y : Nat, y ≤ x ∧ x - y ≤ gg ∧ v = .int .i64 y ∧ Aside0 (Live w wr B hs2 qs2) ∧ Aside0 (Kd.C (Kd.int .i64) wr A9 b.length b) ∧ Aside0 (Kd.C k67 wr (some ad) qs2.length qs2))
                    case atStart => exact ⟨0, by omega, by omega, rfl, HL10, HB10, HQ10⟩
                    case round => as_aux_lemma =>
                      clear HL10 HB10 HQ10
                      obtain ⟨y, hy, hgg2, rfl, HLy, HBy, HQy⟩ := hrel
                      by_cases hyx : y < x
                      · have t2 : (y : Int) < x := by omega
                        have t3 : (y : Int) < qs2.length := by omega
                        have t5 : 0 ≤ (y : Int) := by omega
                        obtain ⟨ad1, e1, q0, q1⟩ := at_T67 HQy.out (x : Int) t0 (by omega)
                        obtain rfl : ad = ad1 := by injection e1
                        obtain ⟨ad2, e2, r0, r1⟩ := at_T67 HQy.out (y : Int) t5 (by omega)
                        obtain rfl : ad = ad2 := by injection e2
                        clear e1 e2 q1 r1
                        rw [rdT_getD] at q0 r0
                        rw [hX] at q0
                        simp only [Int.toNat_natCast] at q0 r0
                        have hin := HWF.out.2.2.2.1 y hyx
                        have hcv := HWF.out.2.2.2.2 y hyx
                        generalize qs2.getD y z67 = Y at r0 hin hcv
                        have hC := Has_ A9 c9 b Y.f0 wr HBy.out hc9 HBN.out
                        rw [decide_eq_true hin] at hC
                        have K1 := Aside0.mk hC
                        clear hC hin
                        go_wp2_with fail
                        refine K1.out.mono ?_
                        rintro e w11 ⟨rfl, hb⟩
                        have HL11 := Aside0.mk (HLy.out.below hb)
                        have HB11 := Aside0.mk (Kd.C_below HBy.out hb)
                        have HQ11 := Aside0.mk (Kd.C_below HQy.out hb)
                        have q0' := cell_be q0 hb
                        have r0' := cell_be r0 hb
                        have HRr := Aside0.mk r0'
                        clear hb K1 HLy HBy HQy q0 r0
                        have K2 := Aside0.mk (Holds_L X.f0 HL11.out)
                        by_cases hz : toldIn hs2 X.f0 = 0
                        · rw [hz] at K2
                          clear hz hcv
                          go_wp2_with fail
                          refine K2.out.mono ?_
                          rintro e w12 ⟨rfl, hL, hb⟩
                          have HL12 := Aside0.mk hL
                          have HB12 := Aside0.mk (Kd.C_below HB11.out hb)
                          have HQ12 := Aside0.mk (Kd.C_below HQ11.out hb)
                          clear hL hb K2 HL11 HB11 HQ11 q0' r0' HRr
                          go_wp2
                          go_roundg (x - (y + 1))
                          case measure => omega
                          case rel => exact ⟨y + 1, by omega, by omega, by go_num, HL12, HB12, HQ12⟩
                        · have hz2 := hcv hz
                          clear hcv
                          obtain ⟨h3, e3⟩ : ∃ h3, toldIn hs2 X.f0 = h3 := ⟨_, rfl⟩
                          rw [e3] at K2 hz
                          clear e3
                          have s1 : (h3 != 0) = true := bne_iff_ne.2 hz
                          go_wp2_with fail
                          refine K2.out.mono ?_
                          rintro e w12 ⟨rfl, hL, hb⟩
                          have K3 := Aside0.mk (Holds_L Y.f0 hL)
                          have HB12 := Aside0.mk (Kd.C_below HB11.out hb)
                          have HQ12 := Aside0.mk (Kd.C_below HQ11.out hb)
                          have r2 := cell_be HRr.out hb
                          obtain ⟨h4, e4⟩ : ∃ h4, toldIn hs2 Y.f0 = h4 := ⟨_, rfl⟩
                          rw [e4] at K3 hz2
                          clear e4
                          have s2 : (h4 == 0) = false := beq_eq_false_iff_ne.2 hz2
                          clear hz hz2
                          clear hL hb K2 HL11 HB11 HQ11 q0' r0' HRr
                          go_wp2_with fail
                          refine K3.out.mono ?_
                          rintro e w13 ⟨rfl, hL, hb⟩
                          have HL13 := Aside0.mk hL
                          have HB13 := Aside0.mk (Kd.C_below HB12.out hb)
                          have HQ13 := Aside0.mk (Kd.C_below HQ12.out hb)
                          clear hL hb K3 HB12 HQ12 r2
                          go_wp2
                          go_roundg (x - (y + 1))
                          case measure => omega
                          case rel => exact ⟨y + 1, by omega, by omega, by go_num, HL13, HB13, HQ13⟩
                      · have ey : y = x := by omega
                        subst ey
                        clear hy hgg2 hyx
                        have hlt4 : ¬ y < y := Nat.lt_irrefl _
                        go_wp2
                        go_roundg (qs2.length - (y + 1))
                        case measure => omega
                        case rel => exact ⟨y + 1, by omega, by omega, by go_num, HLy, HQy⟩
                  · have ex2 : x = qs2.length := by omega
                    subst ex2
                    clear hx hgg hlt
                    have hlt5 : ¬ qs2.length < qs2.length := Nat.lt_irrefl _
                    go_wp2
                    go_roundg (l.length - (i + 1))
                    case measure => omega
                    case rel => exact ⟨i + 1, hs2, qs2, by omega, by omega, by go_num, HLx, HVt⟩
      · have k0 : (o.f0 == 0) = false := beq_eq_false_iff_ne.2 hkd
        clear hkd
        have x1 := HX1.out
        have HLv := Aside0.mk (Leave_X o.f1 HLX.out (by have := HVi.out.2; omega))
        have hV2 : Inv (leaveIn hs qs o.f1).2.1 (leaveIn hs qs o.f1).2.2 ∧ (leaveIn hs qs o.f1).2.1.length + (leaveIn hs qs o.f1).2.2.length ≤ i + 1 := by
          obtain ⟨_, _, _, _, h3, _⟩ := leave_spec HVi.out.1 o.f1
          have h4 := leave_len HVi.out.1 o.f1
          have h5 := HVi.out.2
          have h6 := fl_len hs o.f1
          have h7 := fl_len qs o.f1
          exact ⟨h3, by omega⟩
        have HVt := Aside0.mk hV2
        have hLG := leave_gone HVi.out.1 o.f1
        clear hV2
        generalize (leaveIn hs qs o.f1).2.1 = hs2 at HLv HVt hLG ⊢
        generalize (leaveIn hs qs o.f1).2.2 = qs2 at HLv HVt hLG ⊢
        go_wp2_with fail
        refine HLv.out.mono ?_
        rintro e w4 ⟨A3, c3, rfl, _, _, hL, hG⟩
        have z1 := hG.cell HX1.out (fun h => h.2 rfl)
        have HL4 := Aside0.mk hL.live
        have HZ1 := Aside0.mk z1
        clear hL hG HLv HLX HX1 HX2 x0 x1 k0 q0 q1 q2 HLi
        have hC := Holds_L o.f1 HL4.out
        rw [hLG.1] at hC
        have HHo := Aside0.mk hC
        clear hC
        go_wp2_with fail
        refine HHo.out.mono ?_
        rintro e w5 ⟨rfl, hL, hb⟩
        have z1' := cell_be HZ1.out hb
        have hC := Waits_L o.f1 hL
        rw [hLG.2] at hC
        have HWa := Aside0.mk hC
        clear hC hL hb HHo HL4 z1 HZ1 hLG
        go_wp2_with fail
        refine HWa.out.mono ?_
        rintro e wt ⟨rfl, hL, hb⟩
        have HLt := Aside0.mk hL
        clear hL hb HWa z1'
        go_wp2_with fail
        have hi3 := HI.out
        have HN2 := Aside0.mk (show hs2.length ≤ 301 ∧ qs2.length ≤ 301 by have := HVt.out.2; omega)
        have HH := Aside0.mk (Holders_L HLt.out (by have := HN2.out.1; omega))
        refine HH.out.mono ?_
        rintro e w7 ⟨A7, c7, rfl, hK, hc7, hL, _⟩
        have HQ := Aside0.mk (Queue_L hL (by have := HN2.out.2; omega))
        have HK7 := Aside0.mk hK
        clear hL hK HH HLt
        go_wp2_with fail
        refine HQ.out.mono ?_
        rintro e w8 ⟨A8, c8, rfl, hK, hc8, hL, hb⟩
        have HK7' := Aside0.mk (Kd.C_below HK7.out hb)
        have HK8 := Aside0.mk hK
        have HL8 := Aside0.mk hL
        clear hL hK hb HQ HK7
        have hn1 := HN2.out.1
        have hn2 := HN2.out.2
        go_wp2_with fail
        go_loopg [11] hs2.length (fun gg v wr => ∃ x : Nat, x ≤ hs2.length ∧ hs2.length - x ≤ gg ∧ v = .int .i64 x ∧ Aside0 (Live w wr B hs2 qs2) ∧ Aside0 (Kd.C k67 wr A7 hs2.length hs2) ∧ Aside0 (Kd.C k67 wr A8 qs2.length qs2))
        case atStart => exact ⟨0, by omega, by omega, rfl, HL8, HK7', HK8⟩
        case round => as_aux_lemma =>
          clear HL8 HK7' HK8
          obtain ⟨x, hx, hgg, rfl, HLx, HKx, HKq⟩ := hrel
          by_cases hlt : x < hs2.length
          · have t1 : (x : Int) < hs2.length := by omega
            go_wp2_with fail
            go_loopg [12] x (fun gg v wr => ∃ y : Nat, y ≤ x ∧ x - y ≤ gg ∧ v = .int .i64 y ∧ Aside0 (Live w wr B hs2 qs2) ∧ Aside0 (Kd.C k67 wr A7 hs2.length hs2) ∧ Aside0 (Kd.C k67 wr A8 qs2.length qs2))
            case atStart => exact ⟨0, by omega, by omega, rfl, HLx, HKx, HKq⟩
            case round => as_aux_lemma =>
              clear HLx HKx HKq
              obtain ⟨y, hy, hgg2, rfl, HLx, HKx, HKq⟩ := hrel
              by_cases hyx : y < x
              · have t2 : (y : Int) < x := by omega
                have t3 : (y : Int) < hs2.length := by omega
                have t4 : 0 ≤ (x : Int) := by omega
                have t5 : 0 ≤ (y : Int) := by omega
                obtain ⟨ad, rfl, q0, q1⟩ := at_T67 HKx.out (x : Int) t4 (by omega)
                obtain ⟨ad2, e2, r0, r1⟩ := at_T67 HKx.out (y : Int) t5 (by omega)
                obtain rfl : ad = ad2 := by injection e2
                clear e2
                rw [rdT_getD] at q0 q1 r0 r1
                simp only [Int.toNat_natCast] at q0 q1 r0 r1
                have hord : (hs2.getD y z67).f0 < (hs2.getD x z67).f0 := by
                  have h3 := List.pairwise_iff_getElem.1 HVt.out.1.asc y x (by omega) hlt hyx
                  simpa [List.getD_eq_getElem?_getD, List.getElem?_eq_getElem hlt, List.getElem?_eq_getElem (show y < hs2.length by omega)] using h3
                have hft := HVt.out.1.fit _ (getD_mem' hlt) _ (getD_mem' (show y < hs2.length by omega)) (by omega)
                have HFT := Aside0.mk (fun W => Fits_B (hs2.getD x z67).f1 (hs2.getD y z67).f1 W)
                rw [hft] at HFT
                generalize hs2.getD x z67 = X at q0 q1 hord HFT
                generalize hs2.getD y z67 = Y at r0 r1 hord HFT
                have s1 : decide (X.f0 ≤ Y.f0) = false := decide_eq_false (by omega)
                have s2 : decide (Y.f0 ≥ X.f0) = false := decide_eq_false (by omega)
                have s3 : ¬ X.f0 ≤ Y.f0 := by omega
                have c0 := fun d os => cell_gr q0 d os
                have c1 := fun d os => cell_gr q1 d os
                have d0 := fun d os => cell_gr r0 d os
                have d1 := fun d os => cell_gr r1 d os
                clear hft hord
                go_wp2_with fail
                refine wp_region_gr mixed (by kernel_rfl) ?_
                repeat (go_big_quiet_step (exact Calls.gr_of (HFT.out _)))
                refine wpQuiet_nil ?_
                intro _ hw'
                obtain ⟨⟨d, os⟩, rfl⟩ := hw'
                have hgr := below_gr wr d os
                have HL9 := Aside0.mk (HLx.out.below hgr)
                have HK9 := Aside0.mk (Kd.C_below HKx.out hgr)
                have HQ9 := Aside0.mk (Kd.C_below HKq.out hgr)
                generalize grow (wat wr d) os = w9 at HL9 HK9 HQ9 ⊢
                clear c0 c1 d0 d1 q0 q1 r0 r1 s1 s2 s3 hgr HFT HLx HKx HKq
                go_wp2
                go_roundg (x - (y + 1))
                case measure => omega
                case rel => exact ⟨y + 1, by omega, by omega, by go_num, HL9, HK9, HQ9⟩
              · have ey : y = x := by omega
                subst ey
                clear hy hgg2 hyx
                have hlt4 : ¬ y < y := Nat.lt_irrefl _
                go_wp2
                go_roundg (hs2.length - (y + 1))
                case measure => omega
                case rel => exact ⟨y + 1, by omega, by omega, by go_num, HLx, HKx, HKq⟩
          · have ex : ¬ x < hs2.length := hlt
            have ex2 : x = hs2.length := by omega
            subst ex2
            clear hx hgg hlt HKx
            go_wp2_with fail
            go_loopg [13] qs2.length (fun gg v wr => ∃ x : Nat, x ≤ qs2.length ∧ qs2.length - x ≤ gg ∧ v = .int .i64 x ∧ Aside0 (Live w wr B hs2 qs2) ∧ Aside0 (Kd.C k67 wr A8 qs2.length qs2))
            case atStart => exact ⟨0, by omega, by omega, rfl, HLx, HKq⟩
            case round => as_aux_lemma =>
              clear HLx HKq
              obtain ⟨x, hx, hgg, rfl, HLx, HKq⟩ := hrel
              by_cases hlt : x < qs2.length
              · have t1 : (x : Int) < qs2.length := by omega
                have t0 : 0 ≤ (x : Int) := by omega
                have HWF := Aside0.mk (waits_facts HVt.out.1 hlt)
                obtain ⟨ad, rfl, q0, q1⟩ := at_T67 HKq.out (x : Int) t0 (by omega)
                rw [rdT_getD] at q0 q1
                simp only [Int.toNat_natCast] at q0 q1
                have HM := Aside0.mk (And.intro (HVt.out.1.mq _ (getD_mem' hlt)).1 (HVt.out.1.cov _ (getD_mem' hlt)))
                have HKq0 := HKq
                generalize hX : qs2.getD x z67 = X at q0 q1 HWF HM
                have HBl := Aside0.mk (Blocks_L X.f0 HLx.out (by omega) (by omega))
                have HBN0 := Aside0.mk (show (blocksIn hs2 qs2 X.f0).length ≤ 1000000 by have := blocks_len hs2 qs2 X.f0; omega)
                generalize blocksIn hs2 qs2 X.f0 = b at HBl HWF HBN0
                go_wp2_with fail
                refine HBl.out.mono ?_
                rintro e w9 ⟨A9, c9, rfl, hK9, hc9, hL, hb⟩
                have HL9 := Aside0.mk hL
                have HB9 := Aside0.mk hK9
                have HQ9 := Aside0.mk (Kd.C_below HKq.out hb)
                have u0 := cell_be q0 hb
                have u1 := cell_be q1 hb
                have HBN := HBN0
                clear hL hK9 hb HBl HLx HKq HKq0 q0 q1
                have s0 : ((b.length : Int) == 0) = false := beq_eq_false_iff_ne.2 (fun h => HWF.out.1 (List.eq_nil_of_length_eq_zero (by omega)))
                have s0b : (b.length == 0) = false := beq_eq_false_iff_ne.2 (fun h => HWF.out.1 (List.eq_nil_of_length_eq_zero (by omega)))
                have s1 : (X.f1 != X.f1) = false := by simp
                have K1 := Aside0.mk (fun (W : World) (hb : Below w9.heap.size w9 W) => Has_ A9 c9 b X.f0 W (Kd.C_below HB9.out hb) hc9 HBN.out)
                rw [decide_eq_false HWF.out.2.1] at K1
                have K2 := Aside0.mk (fun (W : World) (hb : Below w9.heap.size w9 W) => Waits_ W B _ hs2 qs2 X.f0 (HL9.out.1.below hb))
                rw [HWF.out.2.2.1] at K2
                have K3 := Aside0.mk (fun (W : World) (hb : Below w9.heap.size w9 W) => Holds_ W B _ hs2 qs2 X.f0 (HL9.out.1.below hb))
                have K4 := Aside0.mk (fun (W : World) => Covers_ X.f1 (toldIn hs2 X.f0) W HM.out.1 (HVt.out.1.toInvS.told_md _) HM.out.2)
                have c0 := fun d os => cell_gr u0 d os
                have c1 := fun d os => cell_gr u1 d os
                go_wp2_with fail
                refine wp_region_gr mixed (by kernel_rfl) ?_
                repeat (go_big_quiet_step (first | exact Calls.gr_of (K1.out _ (below_gr _ _ _)) | exact Calls.gr_of (K2.out _ (below_gr _ _ _)) | exact Calls.gr_of (K3.out _ (below_gr _ _ _)) | exact Calls.gr_of (K4.out _)))
                refine wpQuiet_nil ?_
                intro _ hw'
                obtain ⟨⟨d, os⟩, rfl⟩ := hw'
                have hgr := below_gr w9 d os
                have HL10 := Aside0.mk (HL9.out.below hgr)
                have HB10 := Aside0.mk (Kd.C_below HB9.out hgr)
                have HQ10 := Aside0.mk (Kd.C_below HQ9.out hgr)
                generalize grow (wat w9 d) os = w10 at HL10 HB10 HQ10 ⊢
                clear c0 c1 u0 u1 s0 s0b s1 hgr K1 K2 K3 K4 HL9 HB9 HQ9
                go_wp2_with fail
                go_loopg [15] x (fun gg v wr => ∃ y : Nat, y ≤ x ∧ x - y ≤ gg ∧ v = .int .i64 y ∧ Aside0 (Live w wr B hs2 qs2) ∧ Aside0 (Kd.C (Kd.int .i64) wr A9 b.length b) ∧ Aside0 (Kd.C k67 wr (some ad) qs2.length qs2))
                case atStart => exact ⟨0, by omega, by omega, rfl, HL10, HB10, HQ10⟩
                case round => as_aux_lemma =>
                  clear HL10 HB10 HQ10
                  obtain ⟨y, hy, hgg2, rfl, HLy, HBy, HQy⟩ := hrel
                  by_cases hyx : y < x
                  · have t2 : (y : Int) < x := by omega
                    have t3 : (y : Int) < qs2.length := by omega
                    have t5 : 0 ≤ (y : Int) := by omega
                    obtain ⟨ad1, e1, q0, q1⟩ := at_T67 HQy.out (x : Int) t0 (by omega)
                    obtain rfl : ad = ad1 := by injection e1
                    obtain ⟨ad2, e2, r0, r1⟩ := at_T67 HQy.out (y : Int) t5 (by omega)
                    obtain rfl : ad = ad2 := by injection e2
                    clear e1 e2 q1 r1
                    rw [rdT_getD] at q0 r0
                    rw [hX] at q0
                    simp only [Int.toNat_natCast] at q0 r0
                    have hin := HWF.out.2.2.2.1 y hyx
                    have hcv := HWF.out.2.2.2.2 y hyx
                    generalize qs2.getD y z67 = Y at r0 hin hcv
                    have hC := Has_ A9 c9 b Y.f0 wr HBy.out hc9 HBN.out
                    rw [decide_eq_true hin] at hC
                    have K1 := Aside0.mk hC
                    clear hC hin
                    go_wp2_with fail
                    refine K1.out.mono ?_
                    rintro e w11 ⟨rfl, hb⟩
                    have HL11 := Aside0.mk (HLy.out.below hb)
                    have HB11 := Aside0.mk (Kd.C_below HBy.out hb)
                    have HQ11 := Aside0.mk (Kd.C_below HQy.out hb)
                    have q0' := cell_be q0 hb
                    have r0' := cell_be r0 hb
                    have HRr := Aside0.mk r0'
                    clear hb K1 HLy HBy HQy q0 r0
                    have K2 := Aside0.mk (Holds_L X.f0 HL11.out)
                    by_cases hz : toldIn hs2 X.f0 = 0
                    · rw [hz] at K2
                      clear hz hcv
                      go_wp2_with fail
                      refine K2.out.mono ?_
                      rintro e w12 ⟨rfl, hL, hb⟩
                      have HL12 := Aside0.mk hL
                      have HB12 := Aside0.mk (Kd.C_below HB11.out hb)
                      have HQ12 := Aside0.mk (Kd.C_below HQ11.out hb)
                      clear hL hb K2 HL11 HB11 HQ11 q0' r0' HRr
                      go_wp2
                      go_roundg (x - (y + 1))
                      case measure => omega
                      case rel => exact ⟨y + 1, by omega, by omega, by go_num, HL12, HB12, HQ12⟩
                    · have hz2 := hcv hz
                      clear hcv
                      obtain ⟨h3, e3⟩ : ∃ h3, toldIn hs2 X.f0 = h3 := ⟨_, rfl⟩
                      rw [e3] at K2 hz
                      clear e3
                      have s1 : (h3 != 0) = true := bne_iff_ne.2 hz
                      go_wp2_with fail
                      refine K2.out.mono ?_
                      rintro e w12 ⟨rfl, hL, hb⟩
                      have K3 := Aside0.mk (Holds_L Y.f0 hL)
                      have HB12 := Aside0.mk (Kd.C_below HB11.out hb)
                      have HQ12 := Aside0.mk (Kd.C_below HQ11.out hb)
                      have r2 := cell_be HRr.out hb
                      obtain ⟨h4, e4⟩ : ∃ h4, toldIn hs2 Y.f0 = h4 := ⟨_, rfl⟩
                      rw [e4] at K3 hz2
                      clear e4
                      have s2 : (h4 == 0) = false := beq_eq_false_iff_ne.2 hz2
                      clear hz hz2
                      clear hL hb K2 HL11 HB11 HQ11 q0' r0' HRr
                      go_wp2_with fail
                      refine K3.out.mono ?_
                      rintro e w13 ⟨rfl, hL, hb⟩
                      have HL13 := Aside0.mk hL
                      have HB13 := Aside0.mk (Kd.C_below HB12.out hb)
                      have HQ13 := Aside0.mk (Kd.C_below HQ12.out hb)
                      clear hL hb K3 HB12 HQ12 r2
                      go_wp2
                      go_roundg (x - (y + 1))
                      case measure => omega
                      case rel => exact ⟨y + 1, by omega, by omega, by go_num, HL13, HB13, HQ13⟩
                  · have ey : y = x := by omega
                    subst ey
                    clear hy hgg2 hyx
                    have hlt4 : ¬ y < y := Nat.lt_irrefl _
                    go_wp2
                    go_roundg (qs2.length - (y + 1))
                    case measure => omega
                    case rel => exact ⟨y + 1, by omega, by omega, by go_num, HLy, HQy⟩
              · have ex2 : x = qs2.length := by omega
                subst ex2
                clear hx hgg hlt
                have hlt5 : ¬ qs2.length < qs2.length := Nat.lt_irrefl _
                go_wp2
                go_roundg (l.length - (i + 1))
                case measure => omega
                case rel => exact ⟨i + 1, hs2, qs2, by omega, by omega, by go_num, HLx, HVt⟩
    · have ei : i = l.length := by omega
      subst ei
      clear hi hgg hlt
      have hlt2 : ¬ l.length < l.length := Nat.lt_irrefl _
      go_wp2_with fail
      refine (first_ w wr HLi.out.2.2).mono ?_
      rintro e w12 ⟨rfl, hb⟩
      have HB12 := Aside0.mk (below_then HLi.out.2.2 HLi.out.2.2.size hb)
      clear hb
      go_wp2
      go_ret
      exact ⟨rfl, HB12.out⟩
theorem fits_walk (A : Option Addr) (c : Nat) (l : List Op3) (w : World) (hr : Kd.C kOp w A l.length l) (hc : l.length ≤ c) (hw : l.length ≤ maxLen) :
    Calls Try.prog 14 #[.slice A l.length c] w fun e w' => e = .returned (.bool true) ∧ Below w.heap.size w w' := by
  by_cases h : 300 < l.length
  · exact fits_long A c l w h
  · exact fits_in A c l w hr hc (by omega)
end Go.Proofs.Ytagdgkimjgomlaa.Ln
