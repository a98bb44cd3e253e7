import Derived.Test.YtfpnadalfopmcaaSo1
import Derived.Test.YtfpnadalfopmcaaLr7
/- The document's Blocks. -/
namespace Go.Proofs.Ytfpnadalfopmcaa.Ln
open Go.RowKit Go.Proofs.YtfpnadalfopmcaaW.PrintWords Go.Proofs.YtfpnadalfopmcaaW.PrintWords.Kd Go.Proofs.YtfpnadalfopmcaaW.PrintLast Go.Proofs.YtfpnadalfopmcaaW.PrintMore Go.Proofs.Ytfpnadalfopmcaa.PMd Go.Proofs.Ytfpnadalfopmcaa
open Go.Sort (grow)
set_option linter.unusedVariables false
set_option linter.unusedSimpArgs false
theorem compact_ris {zs : List Int} (h : zs.Pairwise (· ≤ ·)) : Ris (Lib.compact zs) := by
  unfold Lib.compact Lib.compactUpTo Ris
  rw [List.pairwise_map]
  refine List.Pairwise.imp_of_mem (R := fun a b => a < b) (fun {a b} ha hb hab => ?_) (List.Pairwise.filter _ List.pairwise_lt_range)
  have hb1 := List.mem_filter.1 hb
  have hbl : b < zs.length := by simpa using List.mem_range.1 hb1.1
  have hkeep := hb1.2
  have hne : zs.toArray[b]! ≠ zs.toArray[b - 1]! := by
    unfold Lib.keeps at hkeep
    rcases of_decide_eq_true hkeep with h0 | h0
    · omega
    · exact h0
  have hab2 := List.pairwise_iff_getElem.1 h
  simp only [List.getElem!_toArray, getElem!_pos zs b hbl, getElem!_pos zs (b - 1) (by omega), getElem!_pos zs a (by omega)] at hne ⊢
  have h1 : zs[b - 1] ≤ zs[b] := hab2 (b - 1) b (by omega) hbl (by omega)
  have h2 : zs[a] ≤ zs[b - 1] := by
    by_cases e : a = b - 1
    · subst e; exact Int.le_refl _
    · exact hab2 a (b - 1) (by omega) (by omega) (by omega)
  omega
theorem sortR_compact (l : List Int) : sortR l = Lib.compact (sortedI l) := by
  refine sortR_is (compact_ris ?_) (fun y => ?_)
  · have := List.pairwise_mergeSort (le := fun x y : Int => decide (x ≤ y)) (fun a b c h1 h2 => by simp at h1 h2 ⊢; omega) (fun a b => by simp; omega) l
    exact this.imp (fun h => by simpa using h)
  · rw [compact_mem]; unfold sortedI; rw [List.mem_mergeSort]
/-- Those ahead, and those in the way. -/
def blocksD (hs qs : List E) (who : Int) (i : Nat) : List Int := (qs.take i).map (·.f0) ++ (hs.filter fun y => !(y.f0 == who) && !fitsD (qs.getD i zE).f1 y.f1).map (·.f0)
theorem blocksD_is {hs qs : List E} (hv : InvS hs qs) (who : Int) {i : Nat} (hi : i < qs.length) : blocksD hs qs who i = blocksAt hs qs who i := by
  unfold blocksD blocksAt
  congr 2
  refine List.filter_congr (fun y hy => ?_)
  unfold inWay
  have hq : qs.getD i zE ∈ qs := by rw [List.getD_eq_getElem?_getD, List.getElem?_eq_getElem hi]; exact List.getElem_mem hi
  rw [fitsD_is (hv.mq _ hq).1 (hv.mh y hy).1]
theorem out_push {w wr w6 : World} {O : List Int} {A2 A3 : Option Addr} {c2 : Nat} {y : Int} (hk : ∀ k, blk A2 k → w.heap.size ≤ k) (hb : Below w.heap.size w wr) (hR : Row w6 3 1 A3 (O.length + 1) c2 (ints O ++ [.int .i64 y])) (hG : Grew (blk A2) wr w6) (hk6 : ∀ k, blk A3 k → blk A2 k ∨ wr.heap.size ≤ k) :
    Out1 w (O ++ [y]) (.slice A3 (O.length + 1) c2) w6 :=
  ⟨A3, c2, by simp, by simpa [ints] using hR, fun k h => (hk6 k h).elim (hk k) (fun h2 => Nat.le_trans hb.size h2), hG.to_below hb hb.size hk⟩
set_option maxHeartbeats 8000000 in
set_option maxRecDepth 100000 in
theorem Blocks_R (w : World) (b : Nat) (F : Nat → Prop) (hs qs : List E) (who : Int) (hI : IsLR w b F hs qs) (hv : InvS hs qs) (hl : hs.length ≤ 400000) (hl2 : qs.length ≤ 400000) :
    Calls Try.prog 16 #[.pointer (some ⟨b, 0, none⟩), .int .i64 who] w (BlPost w (blocksIn hs qs who)) := by
  have hu := Try.underlying29
  have hu2 := Try.underlying50
  have HWa := Aside0.mk (Waits_R w b F hs qs who hI)
  have HTW := Aside0.mk (told_waits hv who)
  obtain ⟨hA, hc, qA, qc, c0, c1, l0, l1, r0, r1⟩ := hI.open_
  have HR0 := Aside0.mk r0
  have HR1 := Aside0.mk r1
  have HC0 := Aside0.mk c0
  have HC1 := Aside0.mk c1
  have HL0 := Aside0.mk l0
  have HL := Aside0.mk (And.intro hl hl2)
  have HV := Aside0.mk hv
  clear hI r0 r1 l0 l1 c0 c1 hl hl2 hv
  by_cases hx : ix (fun x => x.f0 == who) qs < 0
  · have HZ := Aside0.mk (show blocksIn hs qs who = [] from if_pos hx)
    have hT : toldIn qs who = 0 := by
      have := HTW.out
      rw [decide_eq_false (by omega)] at this
      simpa using this.symm
    rw [hT] at HWa
    clear hx hT HTW
    go_enter Try.func16, Try.ntmps16
    go_wp2_with fail
    refine HWa.out.mono ?_
    rintro e w3 ⟨rfl, rfl⟩
    go_wp2_with fail
    go_ret
    rw [HZ.out]
    exact ⟨none, 0, rfl, Row.zero _ _ _, fun k h => (blk_none h).elim, Below.refl _ _⟩
  · obtain ⟨n, hn⟩ : ∃ n : Nat, ix (fun x => x.f0 == who) qs = (n : Int) := ⟨_, (Int.toNat_of_nonneg (by omega)).symm⟩
    obtain ⟨h1, h2, h3⟩ := ix_hit' hn
    have hT : (toldIn qs who == 0) = false := by
      have := HTW.out
      rw [decide_eq_true (by omega)] at this
      simpa using this.symm
    have hTM : toldIn qs who = (qs.getD n zE).f1 := by
      unfold toldIn
      rw [hn, if_pos (by omega)]
      simp [rd_T50, zE]
    have HZ := Aside0.mk (show blocksIn hs qs who = sortR (blocksD hs qs who n) by
      rw [sortR_compact, blocksD_is HV.out who h1]
      unfold blocksIn
      rw [hn, if_neg (by omega), Int.toNat_natCast])
    have HN := Aside0.mk (And.intro h1 (And.intro (show (qs.getD n zE).f0 = who by simpa using h2) (show ∀ q, q < n → (qs.getD q zE).f0 ≠ who from fun q hq => by simpa using h3 q hq)))
    have HD := Aside0.mk (show blocksD hs qs who n = (qs.take n).map (·.f0) ++ (hs.filter fun y => !(y.f0 == who) && !fitsD (toldIn qs who) y.f1).map (·.f0) by unfold blocksD; rw [hTM])
    generalize toldIn qs who = T at HWa hT HD
    have HT := Aside0.mk hT
    clear hx hn h1 h2 h3 hTM HTW HV hT
    have hT := HT.out
    go_enter Try.func16, Try.ntmps16
    go_wp2_with fail
    refine HWa.out.mono ?_
    rintro e w3 ⟨rfl, rfl⟩
    go_wp2_with fail
    clear hT
    go_loopg [6, 7] qs.length (fun gg v6 v7 wr => ∃ i : Nat, i ≤ n ∧ qs.length - i ≤ gg ∧ v7 = .int .i64 i ∧ Aside0 (Out1 w3 ((qs.take i).map (·.f0)) v6 wr))
    case atStart => exact ⟨0, by omega, by omega, rfl, ⟨none, 0, rfl, Row.zero _ _ _, fun k h => (blk_none h).elim, Below.refl _ _⟩⟩
    case round =>
      obtain ⟨i, hi, hgg, rfl, HO1⟩ := hrel
      obtain ⟨A', c', rfl, hR1, hk1, hb1⟩ := HO1.out
      have hn := HN.out.1
      have hiq : i < qs.length := by omega
      have hm : qs.length ≤ 9223372036854775807 := by have := HL.out; omega
      have z1 := cell_be HC1.out hb1
      obtain ⟨ad, e4, q0, q1⟩ := at_T50 (C_below HR1.out hb1) (i : Int) (by omega) (by omega)
      subst e4
      have p1 : 0 ≤ (i : Int) := by omega
      have p2 : (i : Int) < qs.length := by omega
      have hrd : rd_T50 qs (i : Int) = qs.getD i zE := by simp [rd_T50, zE]
      rw [hrd] at q0
      simp only [Int.toNat_natCast] at q0
      have HK1 := Aside0.mk hk1
      have HB1 := Aside0.mk hb1
      have W3 := Aside0.mk (show wrap64 ((i : Int) + 1) = ((i + 1 : Nat) : Int) by unfold wrap64; omega)
      by_cases hin : i = n
      · subst hin
        have hw := HN.out.2.1
        rw [hw] at q0
        have HLE := Aside0.mk (show ((qs.take i).map (·.f0)).length = i by rw [List.length_map, List.length_take]; omega)
        have z0 := cell_be HC0.out hb1
        have HBD := Aside0.mk HD.out
        generalize (qs.take i).map (·.f0) = L at hR1 HLE HBD HO1
        have HR1' := Aside0.mk hR1
        rw [HLE.out] at HR1'
        rw [HLE.out]
        have HIL := Aside0.mk (show i ≤ 400000 by have := HL.out; omega)
        clear hR1 hk1 hb1 hrd q1 hw hgg hi hn hiq HO1
        go_wp2_with fail
        clear q0 p1 p2 z1
        go_loopg [6, 8] hs.length (fun gg v6 v8 wr => ∃ q : Nat, q ≤ hs.length ∧ hs.length - q ≤ gg ∧ v8 = .int .i64 q ∧ Aside0 (Out1 w3 (L ++ ((hs.take q).filter fun y => !(y.f0 == who) && !fitsD T y.f1).map (·.f0)) v6 wr))
        case atStart => exact ⟨0, by omega, by omega, rfl, ⟨A', c', by simp [HLE.out], by simpa [HLE.out] using HR1'.out, HK1.out, HB1.out⟩⟩
        case round =>
          clear HR1' HK1 HB1 z0
          obtain ⟨q, hq, hgg, rfl, HO1⟩ := hrel
          obtain ⟨A2, c2, rfl, hR1, hk1, hb1⟩ := HO1.out
          by_cases hlt : q < hs.length
          · have hmh : hs.length ≤ 9223372036854775807 := by have := HL.out; omega
            have z0 := cell_be HC0.out hb1
            obtain ⟨ad2, e5, q0, q1⟩ := at_T50 (C_below HR0.out hb1) (q : Int) (by omega) (by omega)
            subst e5
            have t4 : 0 ≤ (q : Int) := by omega
            have t3 : (q : Int) < hs.length := by omega
            have hrd : rd_T50 hs (q : Int) = hs.getD q zE := by simp [rd_T50, zE]
            simp only [Int.toNat_natCast, hrd] at q0 q1
            have HF := Aside0.mk (filter_step hs q (fun y => !(y.f0 == who) && !fitsD T y.f1) hlt)
            have HOL := Aside0.mk (show (L ++ ((hs.take q).filter fun y => !(y.f0 == who) && !fitsD T y.f1).map (·.f0)).length ≤ 800000 from by
              have h1 := List.length_filter_le (fun y : E => !(y.f0 == who) && !fitsD T y.f1) (hs.take q)
              rw [List.length_take] at h1
              rw [List.length_append, HLE.out, List.length_map]
              have := HIL.out
              have := HL.out
              omega)
            have HJ := Aside0.mk (And.intro hlt hgg)
            have W4 := Aside0.mk (show wrap64 ((q : Int) + 1) = ((q + 1 : Nat) : Int) by unfold wrap64; omega)
            generalize hOL : L ++ ((hs.take q).filter fun y => !(y.f0 == who) && !fitsD T y.f1).map (·.f0) = O at hR1 HOL HO1 ⊢
            have HOE := Aside0.mk hOL
            rw [show hs.getD q z50 = hs.getD q zE from rfl] at HF
            generalize hs.getD q zE = y at q0 q1 HF
            have HK1 := Aside0.mk hk1
            have HB1 := Aside0.mk hb1
            have HRO := Aside0.mk hR1
            have HFC := Aside0.mk (fun W => ltkref1_Fits.calls T y.f1 (fitsD T y.f1) W (fitsD_f T y.f1))
            have q0' := q0
            have HQ0 := Aside0.mk q0'
            have HZ0 := Aside0.mk z0
            clear hOL hR1 hk1 hb1 hrd hlt hgg hq q0'
            by_cases hw : y.f0 = who
            · have w1 : (y.f0 != who) = false := by simp [hw]
              have HP := Aside0.mk (show (!(y.f0 == who) && !fitsD T y.f1) = false by simp [hw])
              clear hw
              go_wp2_with fail
              go_roundg (hs.length - (q + 1))
              case measure => have := HJ.out; omega
              case rel => exact ⟨q + 1, by have := HJ.out; omega, by have := HJ.out; omega, by first | rw [W4.out] | simp, ⟨by rw [HF.out, HP.out, if_neg (by decide), List.append_nil, HOE.out]; exact HO1.out⟩⟩
            · have w1 : (y.f0 != who) = true := by simpa using hw
              have w2 : (y.f0 == who) = false := by simpa using hw
              cases hf : fitsD T y.f1 with
              | true =>
                have HP := Aside0.mk (show (!(y.f0 == who) && !fitsD T y.f1) = false by simp [hf])
                rw [hf] at HFC
                clear hw hf
                go_wp2_with fail
                refine (HFC.out _).mono ?_
                rintro e w5 ⟨rfl, hb5⟩
                have HB5 := Aside0.mk (below_then HB1.out HB1.out.size hb5)
                have HR5 := Aside0.mk (HRO.out.below hb5)
                clear hb5 q0 q1 z0
                go_wp2_with fail
                go_roundg (hs.length - (q + 1))
                case measure => have := HJ.out; omega
                case rel => exact ⟨q + 1, by have := HJ.out; omega, by have := HJ.out; omega, by first | rw [W4.out] | simp, ⟨by rw [HF.out, HP.out, if_neg (by decide), List.append_nil, HOE.out]; exact ⟨A2, c2, rfl, HR5.out, HK1.out, HB5.out⟩⟩⟩
              | false =>
                have HP := Aside0.mk (show (!(y.f0 == who) && !fitsD T y.f1) = true by simp [hf, hw])
                rw [hf] at HFC
                clear hw hf
                go_wp2_with fail
                refine (HFC.out _).mono ?_
                rintro e w5 ⟨rfl, hb5⟩
                have HB5 := Aside0.mk (below_then HB1.out HB1.out.size hb5)
                have HR5 := Aside0.mk ((HRO.out.below hb5).alloc (.cells #[.int .i64 y.f0] 3))
                have x0 := cell_be HQ0.out hb5
                have x1 := cell_be HZ0.out hb5
                have BS := Aside0.mk (blk_new w5 (.cells #[.int .i64 y.f0] 3))
                clear hb5 q0 q1 z0
                go_wp2_with (at_builtin; refine wpList_append_info rfl _ _ 34 rfl 3 _ 1 8 Try.underlying34 info3 rfl A2 O.length c2 (ints O) (by simp [Act.eval, Act.put]) HR5.out ⟨w5.heap.size, 0, none⟩ 1 1 [.int .i64 y.f0] (by simp [Act.eval, Act.put]) rfl (one_at BS.out) (one_one _) (by have := HOL.out; unfold maxLen; omega) (by have := HOL.out; omega) ?_)
                intro A3 c3 w6 hR6 hG6 hk6
                have HO6 := Aside0.mk (out_push HK1.out (below_alloc HB5.out (.cells #[.int .i64 y.f0] 3)) hR6 hG6 (by simpa using hk6))
                clear hR6 hG6 hk6 x0 x1
                go_wp2
                go_roundg (hs.length - (q + 1))
                case measure => have := HJ.out; omega
                case rel => exact ⟨q + 1, by have := HJ.out; omega, by have := HJ.out; omega, by first | rw [W4.out] | simp, ⟨by rw [HF.out, HP.out, if_pos rfl, List.map_append, ← List.append_assoc, HOE.out]; exact HO6.out⟩⟩
          · have eq : q = hs.length := by omega
            subst eq
            have z0 := cell_be HC0.out hb1
            rw [List.take_length] at hR1
            rw [List.take_length, ← HBD.out]
            rw [← HBD.out] at hR1
            have hbl : (blocksD hs qs who i).length ≤ 1000000 := by
              have h1 := List.length_filter_le (fun y : E => !(y.f0 == who) && !fitsD T y.f1) hs
              rw [HBD.out, List.length_append, HLE.out, List.length_map]
              have := HIL.out
              have := HL.out
              omega
            generalize blocksD hs qs who i = O at hR1 hbl HZ ⊢
            have HS := Aside0.mk (Sorted_ A2 c2 O wr hR1.readsI hbl)
            have HB1 := Aside0.mk hb1
            have hlt2 : ¬ (hs.length : Int) < (hs.length : Int) := by omega
            clear hR1 hk1 hb1 hbl hlt HO1 hgg hq
            go_wp2_with fail
            refine HS.out.mono ?_
            rintro e w5 ⟨A5, c5, rfl, h5, h6, h7⟩
            have H5 := Aside0.mk (And.intro h5 (And.intro h6 h7))
            clear h5 h6 h7
            go_wp2_with fail
            go_ret
            rw [HZ.out]
            exact ⟨A5, c5, rfl, H5.out.1, fun k h => Nat.le_trans HB1.out.size (H5.out.2.1 k h), below_then HB1.out HB1.out.size H5.out.2.2⟩
      · have hw := HN.out.2.2 i (by omega)
        have w1 : ((qs.getD i zE).f0 != who) = true := by simpa using hw
        have HE := Aside0.mk (show (qs.take (i + 1)).map (·.f0) = (qs.take i).map (·.f0) ++ [(qs.getD i zE).f0] from by
          rw [List.take_add_one, get_getD hiq, List.map_append]; rfl)
        have HLE := Aside0.mk (show ((qs.take i).map (·.f0)).length = i by rw [List.length_map, List.length_take]; omega)
        have HJ := Aside0.mk (And.intro hin (And.intro hi hgg))
        have HIL := Aside0.mk (show i ≤ 400000 by have := HL.out; omega)
        generalize (qs.take i).map (·.f0) = L at hR1 HE HLE HO1
        rw [HLE.out] at hR1
        rw [HLE.out]
        generalize (qs.getD i zE).f0 = y at q0 w1 HE
        have HR1' := Aside0.mk (hR1.alloc (.cells #[.int .i64 y] 3))
        have BS := Aside0.mk (blk_new wr (.cells #[.int .i64 y] 3))
        clear hR1 hk1 hb1 hrd q1 hw hgg hi hn hiq HO1 hin
        go_wp2_with (at_builtin; refine wpList_append_info rfl _ _ 34 rfl 3 _ 1 8 Try.underlying34 info3 rfl A' i c' (ints L) (by simp [Act.eval, Act.put]) HR1'.out ⟨wr.heap.size, 0, none⟩ 1 1 [.int .i64 y] (by simp [Act.eval, Act.put]) rfl (one_at BS.out) (one_one _) (by have := HIL.out; unfold maxLen; omega) (by have := HIL.out; omega) ?_)
        intro A3 c3 w6 hR6 hG6 hk6
        have HO6 := Aside0.mk (out_push (O := L) HK1.out (below_alloc HB1.out (.cells #[.int .i64 y] 3)) (by rw [HLE.out]; exact hR6) hG6 (by simpa using hk6))
        clear hR6 hG6 hk6 q0
        go_wp2
        go_roundg (qs.length - (i + 1))
        case measure => have := HJ.out; have := HN.out.1; omega
        case rel => exact ⟨i + 1, by have := HJ.out; omega, by have := HJ.out; omega, by first | rw [W3.out] | simp, ⟨by rw [HE.out]; have := HO6.out; rw [HLE.out] at this; exact this⟩⟩
end Go.Proofs.Ytfpnadalfopmcaa.Ln
