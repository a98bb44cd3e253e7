import Derived.Test.YtkceadieigpolaaGreatRA
import Derived.Test.YtkceadieigpolaaGreatLC
import Derived.BigQuiet
namespace Go.Proofs.YtkceadieigpolaaGreat.Ln
open Go.RowKit Go.Proofs.YtkceadieigpolaaGreatW.PrintWords Go.Proofs.YtkceadieigpolaaGreatW.PrintWords.Kd Go.Proofs.YtkceadieigpolaaGreatW.PrintLast Go.Proofs.YtkceadieigpolaaGreatW.PrintMore Go.Proofs.YtkceadieigpolaaGreat.PMd Go.Proofs.YtkceadieigpolaaGreat
set_option linter.unusedVariables false
set_option linter.unusedSimpArgs false
def AskRP (b : Nat) (F : Nat → Prop) (hs qs : List E) (who m : Int) (w : World) (e : Ending) (w' : World) : Prop :=
 e = .returned (.int .i64 (askIn hs qs who m).1) ∧ IsLR w' b (fun j => F j ∨ w.heap.size ≤ j) (askIn hs qs who m).2.1 (askIn hs qs who m).2.2 ∧ Grew F w w'
set_option maxHeartbeats 8000000 in
set_option maxRecDepth 100000 in
theorem Ask_R (w : World) (b : Nat) (F : Nat → Prop) (hs qs : List E) (who m : Int) (hI : IsLR w b F hs qs) (hv : InvS hs qs) (hbh : hs.length < 1000000000) (hbq : qs.length < 1000000000) :
  Calls Tryz.prog 43 #[.pointer (some ⟨b, 0, none⟩), .int .i64 who, .int .i64 m] w (AskRP b F hs qs who m w) := by
 have hu := Tryz.underlying65
 have hu2 := Tryz.underlying94
 have HI := Aside0.mk hI
 have HV := Aside0.mk hv
 have HBH := Aside0.mk hbh
 have HB := Aside0.mk hbq
 have HMo := Aside0.mk (fun W => ltkref1_Mode.calls m (knownM m) W (modeR_f m))
 have HWa := Aside0.mk (fun W (hb : Below w.heap.size w W) => Waits_R W b F hs qs who (HI.out.below hb))
 have HHo := Aside0.mk (fun W (hb : Below w.heap.size w W) => Holds_R W b F hs qs who (HI.out.below hb))
 have HCo := Aside0.mk (fun W (hb : Below w.heap.size w W) => convs_R W b F hs qs (HI.out.below hb))
 have HFi := Aside0.mk (fun W (hb : Below w.heap.size w W) (t : Int) => fits_R W b F hs qs who t (HI.out.below hb))
 have HPu := Aside0.mk (fun W (hb : Below w.heap.size w W) (t : Int) => put_R W b F hs qs who t (HI.out.below hb) hv.asc (by omega))
 obtain ⟨hA, hc, qA, qc, h1, h2, h3, h4, h5, h6, h7⟩ := hI
 have HBW := Aside0.mk (Array.getElem?_eq_some_iff.1 h1).1
 have HX := Aside0.mk (fun (W : World) (hb : Below w.heap.size w W) => (show W.cell? ⟨b, 1, none⟩ = some (.slice qA qs.length qc) ∧ W.frozen? ⟨b, 1, none⟩ = false from
  have hW := (hb.block b HBW.out).trans h1
  ⟨(blk_cell hW 1).trans rfl, blk_frozen hW 1⟩))
 have HW := Aside0.mk h5
 have HQL := Aside0.mk h5.2.1
 obtain ⟨g, hg⟩ : ∃ g, askBad qs who m = g := ⟨_, rfl⟩
 have HG := Aside0.mk hg
 have FIN := Aside0.mk (show ∀ w', Below w.heap.size w w' → askBad qs who m = true → AskRP b F hs qs who m w (.returned (.int .i64 0)) w' from fun w' hb h => by
  have hp : askIn hs qs who m = (0, hs, qs) := if_pos h
  unfold AskRP
  rw [hp]
  exact ⟨rfl, (HI.out.below hb).mono' (fun k h => .inl h), Grew.of_below hb⟩)
 clear h1 h2 h3 h4 h5 h6 h7 hv hbh hbq
 go_enter Tryz.func43, Tryz.ntmps43
 go_upto_region 1 with fail
 go_cut [22] (fun v wx => v = .bool g ∧ Aside0 (Below w.heap.size w wx))
 case first =>
  have HBD := Aside0.mk (show (!knownM m || m == 0 || (toldIn qs who != 0)) = g by rw [← HG.out]; unfold askBad; rw [told_waits HV.out])
  cases hk : knownM m with
  | false =>
   rw [hk] at HMo
   have hgt : g = true := by rw [← HBD.out, hk]; rfl
   subst hgt
   clear hk hg
   go_wp2_with fail
   refine (HMo.out _).mono ?_
   rintro e w3 ⟨rfl, hd⟩
   obtain ⟨n, rfl⟩ := hd.out
   go_wp2_with fail
   go_meet
   case rel => exact ⟨rfl, ⟨pw_below_drewN (Below.refl _ _) _⟩⟩
  | true =>
   rw [hk] at HMo
   by_cases hm : m = 0
   ·have m1 : (m == 0) = true := beq_iff_eq.2 hm
    have hgt : g = true := by rw [← HBD.out, m1]; simp
    subst hgt
    clear hk hm hg
    go_wp2_with fail
    refine (HMo.out _).mono ?_
    rintro e w3 ⟨rfl, hd⟩
    obtain ⟨n, rfl⟩ := hd.out
    go_wp2_with fail
    go_meet
    case rel => exact ⟨rfl, ⟨pw_below_drewN (Below.refl _ _) _⟩⟩
   ·have m1 : (m == 0) = false := beq_eq_false_iff_ne.2 hm
    have hgt : (toldIn qs who != 0) = g := by rw [← HBD.out, m1, hk]; simp
    generalize toldIn qs who = tq at HWa hgt
    clear hk hm hg HBD
    go_wp2_with fail
    refine (HMo.out _).mono ?_
    rintro e w3 ⟨rfl, hd⟩
    obtain ⟨n, rfl⟩ := hd.out
    go_wp2_with fail
    refine (HWa.out _ (pw_below_drewN (Below.refl _ _) _)).mono ?_
    rintro e w4 ⟨rfl, rfl⟩
    go_wp2_with fail
    go_meet
    case rel => exact ⟨by first | (rw [hgt]; done) | (simp [hgt]; done) | rfl, ⟨pw_below_drewN (Below.refl _ _) _⟩⟩
 case rest =>
  obtain ⟨rfl, HBc⟩ := hcut
  cases g with
  | true =>
   clear hg
   go_wp2_with fail
   go_ret
   exact FIN.out _ HBc.out HG.out
  | false =>
   clear FIN hg HMo HWa
   have hbf := HG.out
   have HKM := Aside0.mk (show md m ∧ m ≠ 0 from by
    unfold askBad at hbf
    simp only [Bool.or_eq_false_iff, Bool.not_eq_false', beq_eq_false_iff_ne] at hbf
    exact ⟨by have := hbf.1.1; unfold knownM at this; simpa using this, hbf.1.2⟩)
   have HTM := Aside0.mk (HV.out.told_md who)
   have HSU := Aside0.mk (supR_is HTM.out HKM.out.1)
   have HFD := Aside0.mk (show fitsDA hs who (supM (toldIn hs who) m) = fitsAll hs who (supM (toldIn hs who) m) from fitsDA_is (sup_md HTM.out HKM.out.1) (fun x hx => (HV.out.mh x hx).1))
   have HCV := Aside0.mk (show (qs.countP fun x => toldIn hs x.f0 != 0) = convs hs qs from count_front (HV.out.conv.imp (fun h h2 => by simpa using h (by simpa using h2))))
   have HCL := Aside0.mk (show convs hs qs ≤ qs.length from by unfold convs; exact (List.takeWhile_sublist _).length_le)
   have HAN := Aside0.mk (show askIn hs qs who m = if (supM (toldIn hs who) m == toldIn hs who || aheadOf hs qs who == 0 && fitsAll hs who (supM (toldIn hs who) m)) then (1, grantsIn hs who (supM (toldIn hs who) m), qs) else (2, hs, insAt qs (aheadOf hs qs who) ⟨who, supM (toldIn hs who) m⟩) from by
    unfold askIn askGo
    rw [if_neg (by rw [hbf]; decide)])
   have HAH := Aside0.mk (show aheadOf hs qs who = if toldIn hs who = 0 then qs.length else convs hs qs from rfl)
   have HUN := Aside0.mk (show toldIn hs who = 0 → (supM (toldIn hs who) m == toldIn hs who) = false from fun h => by
    have := sup_nz' HTM.out HKM.out.1 HKM.out.2
    rw [h] at this ⊢
    simpa using this)
   have HSA := Aside0.mk (show toldIn hs who ≠ 0 → supM (toldIn hs who) m = toldIn hs who → grantsIn hs who (supM (toldIn hs who) m) = hs from fun h1 h2 => by rw [h2]; exact grants_same HV.out.asc h1)
   clear hbf
   rw [HCV.out] at HCo
   generalize aheadOf hs qs who = ah at HAN HAH
   generalize convs hs qs = cv at HCo HCL HAH
   generalize hT : toldIn hs who = T at HHo HSU HAN HAH HUN HSA HFi HFD
   generalize hU : supM T m = U at HSU HAN HUN HSA HFD
   clear hT hU HTM
   have HFX := HFD
   clear HFD
   go_wp2_with fail
   refine (HHo.out _ HBc.out).mono ?_
   rintro e w3 ⟨rfl, rfl⟩
   clear HHo
   go_wp2_with fail
   refine (ltkref1_Sup.calls 20 (some ⟨w3.heap.size, 0, none⟩) 2 [T, m] U _ (slice_two _ _) (Nat.le_refl _) HSU.out).mono ?_
   rintro e w4 ⟨rfl, hb4⟩
   have HB4 := Aside0.mk (below_then (below_alloc HBc.out _) (below_alloc HBc.out _).size hb4)
   clear hb4 HBc HSU
   by_cases h0 : T = 0
   ·have t0 : (T != 0) = false := by simp [h0]
    have un := HUN.out h0
    have ea : ah = qs.length := by rw [HAH.out, if_pos h0]
    subst ea
    obtain ⟨g2, hg2⟩ : ∃ g2, (qs.length == 0 && fitsAll hs who U) = g2 := ⟨_, rfl⟩
    have HG2 := Aside0.mk hg2
    obtain ⟨x1, x2⟩ := HX.out _ HB4.out
    have HE0 := Aside0.mk (show askIn hs qs who m = if g2 then (1, grantsIn hs who U, qs) else (2, hs, insAt qs qs.length ⟨who, U⟩) by rw [HAN.out, un, Bool.false_or, hg2])
    clear HAN HAH HUN HSA hg2 h0
    go_upto_region 10 with fail
    go_cut [53] (fun v wx => v = .bool g2 ∧ Aside0 (Below w.heap.size w wx))
    case first =>
     by_cases ha : qs.length = 0
     ·have a1 : (((qs.length : Nat) : Int) == 0) = true := by simp [ha]
      have a2 : (qs.length == 0) = true := by simp [ha]
      have a3 : fitsAll hs who U = g2 := by rw [← HG2.out, a2, Bool.true_and]
      have HF := Aside0.mk (HFi.out _ HB4.out U)
      rw [HFX.out, a3] at HF
      clear ha
      go_wp2_with fail
      refine HF.out.mono ?_
      rintro e w6 ⟨rfl, hb6⟩
      have HB6 := Aside0.mk (below_then HB4.out HB4.out.size hb6)
      clear hb6
      go_wp2_with fail
      go_meet
      case rel => exact ⟨rfl, HB6⟩
     ·have a1 : (((qs.length : Nat) : Int) == 0) = false := by simpa using ha
      have a2 : (qs.length == 0) = false := by simpa using ha
      have a3 : false = g2 := by rw [← HG2.out, a2, Bool.false_and]
      subst a3
      clear ha
      go_wp2_with fail
      go_meet
      case rel => exact ⟨rfl, HB4⟩
    case rest =>
     clear x1 x2 HG2
     obtain ⟨rfl, HB7⟩ := hcut
     cases g2 with
     | true =>
      have HE := Aside0.mk (show askIn hs qs who m = (1, grantsIn hs who U, qs) from HE0.out)
      go_wp2_with fail
      refine (HPu.out _ HB7.out U).mono ?_
      rintro e w8 ⟨rfl, hI8, hG8⟩
      have HI8 := Aside0.mk hI8
      have HG8 := Aside0.mk hG8
      clear hI8 hG8
      go_wp2_with fail
      go_ret
      unfold AskRP
      rw [HE.out]
      exact ⟨rfl, HI8.out.mono' (fun k h => h.elim .inl (fun h => .inr (Nat.le_trans HB7.out.size h))), (Grew.of_below HB7.out).trans HG8.out (fun i h => .inl h)⟩
     | false =>
      have HE := Aside0.mk (show askIn hs qs who m = (2, hs, insAt qs qs.length ⟨who, U⟩) from HE0.out)
      have HKL := Aside0.mk (show qs.length ≤ qs.length from Nat.le_refl _)
      obtain ⟨ah, hah⟩ : ∃ a, a = qs.length := ⟨_, rfl⟩
      rw [← hah] at HE
      replace HKL := Aside0.mk (show ah ≤ qs.length by omega)
      have HAX := Aside0.mk hah
      have HF := Aside0.mk (HW.out.upto ah HKL.out)
      have HBK := Aside0.mk (HW.out.from_ ah HKL.out)
      have HO1 := Aside0.mk (show ∀ u ∈ (flat qs).take (ah * 2), u.oneCell' = true from fun u hu => flat_one qs u (List.mem_of_mem_take hu))
      have HO2 := Aside0.mk (show ∀ u ∈ (flat qs).drop (ah * 2), u.oneCell' = true from fun u hu => flat_one qs u (List.mem_of_mem_drop hu))
      have HFL := Aside0.mk (show [] ++ (flat qs).take (ah * 2) ++ [Value.int .i64 who, Value.int .i64 U] ++ (flat qs).drop (ah * 2) = flat (insAt qs ah ⟨who, U⟩) by unfold insAt; rw [flat_take', flat_drop']; simp [flat, encE])
      have HNL := Aside0.mk (show 0 + ah + 1 + (qs.length - ah) = (insAt qs ah ⟨who, U⟩).length by have := HKL.out; unfold insAt; simp; omega)
      have HBd := Aside0.mk (below_then HB7.out HB7.out.size (below_drew (Below.refl _ _)))
      have p3 : (ah : Int) ≤ qs.length := by have := HKL.out; omega
      have p4 : (ah : Int) ≤ qc := by have := HKL.out; have := HQL.out; omega
      have p5 : (0 : Int) ≤ ah := by omega
      clear HE0
      rw [← hah]
      clear hah
      go_wp2_with fail
      refine Up.Till.region [23] (fun W => W.cell? ⟨b, 1, none⟩ = some (.slice qA qs.length qc) ∧ W.frozen? ⟨b, 1, none⟩ = false) (by kernel_rfl) ?_ (fun hH => ?_)
      ·exact HX.out _ HBd.out
      refine Up.Till.takeY 0 (oi := ⟨some 58, .move (.tmp 0), 66, "ref.go:88", #[], none⟩) (v := ?va1) rfl (by rfl) (by kernel_rfl) (by kernel_rfl) (by kernel_rfl) (fun _ _ _ h => h) (Or.inl ⟨by rfl, ?ya1⟩) (fun _ => by assumption) ?ra1
      case ya1 => (intro w hSw; clear hSw; go_simp; (try with_reducible rfl))
      (try simp only [Act.put, List.setIfInBounds_toArray, List.set_cons_zero, List.set_cons_succ])
      refine Up.Till.takeY 2 (oi := ⟨some 60, .move (.tmp 0), 66, "ref.go:88", #[], none⟩) (v := ?va2) rfl (by rfl) (by kernel_rfl) (by kernel_rfl) (by kernel_rfl) (fun _ _ _ h => h) (Or.inl ⟨by rfl, ?ya2⟩) (fun _ => by assumption) ?ra2
      case ya2 => (intro w hSw; clear hSw; go_simp; (try with_reducible rfl))
      (try simp only [Act.put, List.setIfInBounds_toArray, List.set_cons_zero, List.set_cons_succ])
      refine Up.Till.takeY 3 (oi := ⟨some 61, .nilCheck (.tmp 60), 0, "ref.go:88", #[⟨2, .data⟩], none⟩) (v := ?va3) rfl (by rfl) (by kernel_rfl) (by kernel_rfl) (by kernel_rfl) (fun _ _ _ h => h) (Or.inl ⟨by rfl, ?ya3⟩) (fun _ => by assumption) ?ra3
      case ya3 => (intro w hSw; clear hSw; go_simp; (try with_reducible rfl))
      (try simp only [Act.put, List.setIfInBounds_toArray, List.set_cons_zero, List.set_cons_succ])
      refine Up.Till.takeY 4 (oi := ⟨some 62, .fieldAddr 65 (.tmp 61) 1, 0, "ref.go:88", #[⟨3, .data⟩], none⟩) (v := ?va4) rfl (by rfl) (by kernel_rfl) (by kernel_rfl) (by kernel_rfl) (fun _ _ _ h => h) (Or.inl ⟨by rfl, ?ya4⟩) (fun _ => by assumption) ?ra4
      case ya4 => (intro w hSw; clear hSw; go_simp; (try with_reducible rfl))
      (try simp only [Act.put, List.setIfInBounds_toArray, List.set_cons_zero, List.set_cons_succ])
      refine Up.Till.take 5 5 (oi := ⟨some 63, .load 62 (.tmp 62), 62, "ref.go:88", #[⟨4, .data⟩], none⟩) (v := ?va5) rfl (by rfl) (by kernel_rfl) (by kernel_rfl) (by kernel_rfl) (fun _ _ _ h => h) (by kernel_rfl) (by kernel_rfl) (by kernel_rfl) (Or.inl ⟨by rfl, ?ya5⟩) (by assumption) ?ra5
      case ya5 => (intro w hSw; (try dsimp only at hSw); go_simp; (try with_reducible rfl))
      (try simp only [Act.put, List.setIfInBounds_toArray, List.set_cons_zero, List.set_cons_succ])
      refine Up.Till.takeY 6 (oi := ⟨some 64, .move (.tmp 9), 3, "ref.go:88", #[], none⟩) (v := ?va6) rfl (by rfl) (by kernel_rfl) (by kernel_rfl) (by kernel_rfl) (fun _ _ _ h => h) (Or.inl ⟨by rfl, ?ya6⟩) (fun _ => by assumption) ?ra6
      case ya6 => (intro w hSw; clear hSw; go_simp; (try with_reducible rfl))
      (try simp only [Act.put, List.setIfInBounds_toArray, List.set_cons_zero, List.set_cons_succ])
      refine Up.Till.takeY 7 (oi := ⟨some 65, .slice 62 (.tmp 63) none (some (.tmp 64)) none, 62, "ref.go:88", #[⟨5, .data⟩, ⟨6, .data⟩], none⟩) (v := ?va7) rfl (by rfl) (by kernel_rfl) (by kernel_rfl) (by kernel_rfl) (fun _ _ _ h => h) (Or.inl ⟨by rfl, ?ya7⟩) (fun _ => by assumption) ?ra7
      case ya7 => (intro w hSw; clear hSw; go_simp; (try with_reducible rfl))
      (try simp only [Act.put, List.setIfInBounds_toArray, List.set_cons_zero, List.set_cons_succ])
      refine Up.Till.takeY 9 (oi := ⟨some 67, .move (.tmp 1), 3, "ref.go:88", #[], none⟩) (v := ?va8) rfl (by rfl) (by kernel_rfl) (by kernel_rfl) (by kernel_rfl) (fun _ _ _ h => h) (Or.inl ⟨by rfl, ?ya8⟩) (fun _ => by assumption) ?ra8
      case ya8 => (intro w hSw; clear hSw; go_simp; (try with_reducible rfl))
      (try simp only [Act.put, List.setIfInBounds_toArray, List.set_cons_zero, List.set_cons_succ])
      refine Up.Till.takeY 10 (oi := ⟨some 68, .move (.tmp 8), 3, "ref.go:88", #[], none⟩) (v := ?va9) rfl (by rfl) (by kernel_rfl) (by kernel_rfl) (by kernel_rfl) (fun _ _ _ h => h) (Or.inl ⟨by rfl, ?ya9⟩) (fun _ => by assumption) ?ra9
      case ya9 => (intro w hSw; clear hSw; go_simp; (try with_reducible rfl))
      (try simp only [Act.put, List.setIfInBounds_toArray, List.set_cons_zero, List.set_cons_succ])
      refine Up.Till.takeY 11 (oi := ⟨some 69, .build 94 #[(0, .tmp 67), (1, .tmp 68)], 94, "ref.go:88", #[⟨9, .data⟩, ⟨10, .data⟩], none⟩) (v := ?va10) rfl (by rfl) (by kernel_rfl) (by kernel_rfl) (by kernel_rfl) (fun _ _ _ h => h) (Or.inl ⟨by rfl, ?ya10⟩) (fun _ => by assumption) ?ra10
      case ya10 => (intro w hSw; clear hSw; go_simp; (try with_reducible rfl))
      (try simp only [Act.put, List.setIfInBounds_toArray, List.set_cons_zero, List.set_cons_succ])
      refine Up.Till.takeY 14 (oi := ⟨some 72, .move (.tmp 0), 66, "ref.go:88", #[], none⟩) (v := ?va11) rfl (by rfl) (by kernel_rfl) (by kernel_rfl) (by kernel_rfl) (fun _ _ _ h => h) (Or.inl ⟨by rfl, ?ya11⟩) (fun _ => by assumption) ?ra11
      case ya11 => (intro w hSw; clear hSw; go_simp; (try with_reducible rfl))
      (try simp only [Act.put, List.setIfInBounds_toArray, List.set_cons_zero, List.set_cons_succ])
      refine Up.Till.takeY 15 (oi := ⟨some 73, .nilCheck (.tmp 72), 0, "ref.go:88", #[⟨14, .data⟩], none⟩) (v := ?va12) rfl (by rfl) (by kernel_rfl) (by kernel_rfl) (by kernel_rfl) (fun _ _ _ h => h) (Or.inl ⟨by rfl, ?ya12⟩) (fun _ => by assumption) ?ra12
      case ya12 => (intro w hSw; clear hSw; go_simp; (try with_reducible rfl))
      (try simp only [Act.put, List.setIfInBounds_toArray, List.set_cons_zero, List.set_cons_succ])
      refine Up.Till.takeY 16 (oi := ⟨some 74, .fieldAddr 65 (.tmp 73) 1, 0, "ref.go:88", #[⟨15, .data⟩], none⟩) (v := ?va13) rfl (by rfl) (by kernel_rfl) (by kernel_rfl) (by kernel_rfl) (fun _ _ _ h => h) (Or.inl ⟨by rfl, ?ya13⟩) (fun _ => by assumption) ?ra13
      case ya13 => (intro w hSw; clear hSw; go_simp; (try with_reducible rfl))
      (try simp only [Act.put, List.setIfInBounds_toArray, List.set_cons_zero, List.set_cons_succ])
      refine Up.Till.take 17 17 (oi := ⟨some 75, .load 62 (.tmp 74), 62, "ref.go:88", #[⟨16, .data⟩], none⟩) (v := ?va14) rfl (by rfl) (by kernel_rfl) (by kernel_rfl) (by kernel_rfl) (fun _ _ _ h => h) (by kernel_rfl) (by kernel_rfl) (by kernel_rfl) (Or.inl ⟨by rfl, ?ya14⟩) (by assumption) ?ra14
      case ya14 => (intro w hSw; (try dsimp only at hSw); go_simp; (try with_reducible rfl))
      (try simp only [Act.put, List.setIfInBounds_toArray, List.set_cons_zero, List.set_cons_succ])
      refine Up.Till.takeY 18 (oi := ⟨some 76, .move (.tmp 9), 3, "ref.go:88", #[], none⟩) (v := ?va15) rfl (by rfl) (by kernel_rfl) (by kernel_rfl) (by kernel_rfl) (fun _ _ _ h => h) (Or.inl ⟨by rfl, ?ya15⟩) (fun _ => by assumption) ?ra15
      case ya15 => (intro w hSw; clear hSw; go_simp; (try with_reducible rfl))
      (try simp only [Act.put, List.setIfInBounds_toArray, List.set_cons_zero, List.set_cons_succ])
      refine Up.Till.takeY 19 (oi := ⟨some 77, .slice 62 (.tmp 75) (some (.tmp 76)) none none, 62, "ref.go:88", #[⟨17, .data⟩, ⟨18, .data⟩], none⟩) (v := ?va16) rfl (by rfl) (by kernel_rfl) (by kernel_rfl) (by kernel_rfl) (fun _ _ _ h => h) (Or.inl ⟨by rfl, ?ya16⟩) (fun _ => by assumption) ?ra16
      case ya16 => (intro w hSw; clear hSw; go_simp; (try with_reducible rfl))
      (try simp only [Act.put, List.setIfInBounds_toArray, List.set_cons_zero, List.set_cons_succ])
      refine Up.Till.ready (rs := [1, 12]) (by kernel_rfl) (by simp) ?_
      refine Up.TillAll.cons (o := ⟨some 59, .buildSlice 62 0 #[], 62, "ref.go:88", #[], none⟩) rfl (fun K hK => ?_) ?_
      ·go_simp
       have B_1 := Aside0.mk (below_alloc HBd.out (.cells #[] 94))
       have E_1 := Aside0.mk (lit_be HBd.out 94 2 0 #[] rfl (by decide))
       have LE := Aside0.mk (HBd.out.size)
       refine hK.out _ _ (fun _ => ?_) (fun hHa16 => ?_)
       ·(try dsimp only)
        exact HX.out _ B_1.out
       replace hHa16 := hHa16 (by rfl)
       clear hK K hH
       (try simp only [Act.put, List.setIfInBounds_toArray, List.set_cons_zero, List.set_cons_succ])
       refine Up.Till.ready (rs := [8, 12]) (by kernel_rfl) (by simp) ?_
       refine Up.TillAll.cons (o := ⟨some 66, .call { callee := Callee.builtin Builtin.append, args := #[.tmp 59, .tmp 65], argTypes := #[62, 62] }, 62, "ref.go:88", #[⟨1, .data⟩, ⟨7, .data⟩], none⟩) rfl (fun K hK => ?_) ?_
       ·refine step_append_rows (by rfl) (.tmp 59) (.tmp 65) 62 (by rfl) 94 (.agg #[.int .i64 0, .int .i64 0]) 2 16 Tryz.underlying62 infoE0 rfl _ 0 0 [] (by simp [Act.eval, Act.put]) E_1.out qA ah qc _ (by simp [Act.eval, Act.put]) (HF.out.below B_1.out) HO1.out (by have := HB.out; have := HKL.out; unfold maxLen; omega) (by have := HB.out; have := HKL.out; omega) ?_
        intro A_1_8 c_1_8 w_1_8 hR6 hG6 hk6
        have B_1_8 := Aside0.mk (hG6.to_below B_1.out B_1.out.size (blk_le (by have := LE.out; first | omega | (simp; done) | (simp; omega) | (simp at this ⊢; omega))))
        have R_1_8 := Aside0.mk hR6
        have K_1_8 := Aside0.mk (show ∀ k, blk A_1_8 k → w.heap.size ≤ k from fun k h => (hk6 k h).elim (blk_le (by have := LE.out; first | omega | (simp; done) | (simp; omega) | (simp at this ⊢; omega)) k) (fun h2 => Nat.le_trans B_1.out.size h2))
        clear hR6 hG6 hk6
        refine hK.out _ _ (fun _ => ?_) (fun hHa17 => ?_)
        ·(try dsimp only)
         exact HX.out _ B_1_8.out
        replace hHa17 := hHa17 (by rfl)
        clear hK K hHa16
        (try simp only [Act.put, List.setIfInBounds_toArray, List.set_cons_zero, List.set_cons_succ])
        refine Up.Till.ready (rs := [12]) (by kernel_rfl) (by simp) ?_
        refine Up.TillAll.cons (o := ⟨some 70, .buildSlice 62 1 #[(0, .tmp 69)], 62, "ref.go:88", #[⟨11, .data⟩], none⟩) rfl (fun K hK => ?_) Up.TillAll.nil
        go_simp
        have B_1_8_12 := Aside0.mk (below_alloc B_1_8.out (.cells #[.int .i64 who, .int .i64 U] 94))
        have N_1_8_12 := Aside0.mk (lit_be B_1_8.out 94 2 1 #[.int .i64 who, .int .i64 U] rfl (by decide))
        have R_1_8_12 := Aside0.mk (R_1_8.out.alloc (.cells #[.int .i64 who, .int .i64 U] 94))
        have K_1_8_12 := K_1_8
        refine hK.out _ _ (fun _ => ?_) (fun hHa18 => ?_)
        ·(try dsimp only)
         exact HX.out _ B_1_8_12.out
        replace hHa18 := hHa18 (by rfl)
        clear hK K hHa17
        (try simp only [Act.put, List.setIfInBounds_toArray, List.set_cons_zero, List.set_cons_succ])
        refine Up.Till.ready (rs := [13]) (by kernel_rfl) (by simp) ?_
        refine Up.TillAll.cons (o := ⟨some 71, .call { callee := Callee.builtin Builtin.append, args := #[.tmp 66, .tmp 70], argTypes := #[62, 62] }, 62, "ref.go:88", #[⟨8, .data⟩, ⟨12, .data⟩, ⟨8, .chain⟩], none⟩) rfl (fun K hK => ?_) Up.TillAll.nil
        refine step_append_rows (by rfl) (.tmp 66) (.tmp 70) 62 (by rfl) 94 (.agg #[.int .i64 0, .int .i64 0]) 2 16 Tryz.underlying62 infoE0 rfl _ _ _ _ (by simp [Act.eval, Act.put]) R_1_8_12.out _ 1 1 _ (by simp [Act.eval, Act.put]) N_1_8_12.out (by simp [Value.oneCell']) (by have := HB.out; have := HKL.out; unfold maxLen; omega) (by have := HB.out; have := HKL.out; omega) ?_
        intro A_1_8_12_13 c_1_8_12_13 w_1_8_12_13 hR6 hG6 hk6
        have B_1_8_12_13 := Aside0.mk (hG6.to_below B_1_8_12.out B_1_8_12.out.size K_1_8_12.out)
        have R_1_8_12_13 := Aside0.mk hR6
        have K_1_8_12_13 := Aside0.mk (show ∀ k, blk A_1_8_12_13 k → w.heap.size ≤ k from fun k h => (hk6 k h).elim (K_1_8_12.out k) (fun h2 => Nat.le_trans B_1_8_12.out.size h2))
        clear hR6 hG6 hk6
        refine hK.out _ _ (fun _ => ?_) (fun hHa19 => ?_)
        ·(try dsimp only)
         exact HX.out _ B_1_8_12_13.out
        replace hHa19 := hHa19 (by rfl)
        clear hK K hHa18
        (try simp only [Act.put, List.setIfInBounds_toArray, List.set_cons_zero, List.set_cons_succ])
        refine Up.Till.ready (rs := [20]) (by kernel_rfl) (by simp) ?_
        refine Up.TillAll.cons (o := ⟨some 78, .call { callee := Callee.builtin Builtin.append, args := #[.tmp 71, .tmp 77], argTypes := #[62, 62] }, 62, "ref.go:88", #[⟨13, .data⟩, ⟨19, .data⟩, ⟨13, .chain⟩], none⟩) rfl (fun K hK => ?_) Up.TillAll.nil
        refine step_append_rows (by rfl) (.tmp 71) (.tmp 77) 62 (by rfl) 94 (.agg #[.int .i64 0, .int .i64 0]) 2 16 Tryz.underlying62 infoE0 rfl _ _ _ _ (by simp [Act.eval, Act.put]) R_1_8_12_13.out (if qc = ah then qA else qA.map (·.add (ah * 2))) (qs.length - ah) (qc - ah) _ (by simp [Act.eval, Act.put]) (HBK.out.below B_1_8_12_13.out) HO2.out (by have := HB.out; have := HKL.out; unfold maxLen; omega) (by have := HB.out; have := HKL.out; omega) ?_
        intro A_1_8_12_13_20 c_1_8_12_13_20 w_1_8_12_13_20 hR6 hG6 hk6
        have B_1_8_12_13_20 := Aside0.mk (hG6.to_below B_1_8_12_13.out B_1_8_12_13.out.size K_1_8_12_13.out)
        have R_1_8_12_13_20 := Aside0.mk hR6
        have K_1_8_12_13_20 := Aside0.mk (show ∀ k, blk A_1_8_12_13_20 k → w.heap.size ≤ k from fun k h => (hk6 k h).elim (K_1_8_12_13.out k) (fun h2 => Nat.le_trans B_1_8_12_13.out.size h2))
        clear hR6 hG6 hk6
        refine hK.out _ _ (fun _ => ?_) (fun hHa20 => ?_)
        ·(try dsimp only)
         exact HX.out _ B_1_8_12_13_20.out
        replace hHa20 := hHa20 (by rfl)
        clear hK K hHa19
        (try simp only [Act.put, List.setIfInBounds_toArray, List.set_cons_zero, List.set_cons_succ])
        refine Up.Till.takeY 21 (oi := ⟨some 79, .nilCheck (.tmp 58), 0, "ref.go:88", #[⟨0, .data⟩, ⟨0, .phase⟩, ⟨1, .phase⟩, ⟨2, .phase⟩, ⟨3, .phase⟩, ⟨4, .phase⟩, ⟨5, .phase⟩, ⟨6, .phase⟩, ⟨7, .phase⟩, ⟨8, .phase⟩, ⟨9, .phase⟩, ⟨10, .phase⟩, ⟨11, .phase⟩, ⟨12, .phase⟩, ⟨13, .phase⟩, ⟨14, .phase⟩, ⟨15, .phase⟩, ⟨16, .phase⟩, ⟨17, .phase⟩, ⟨18, .phase⟩, ⟨19, .phase⟩, ⟨20, .phase⟩], none⟩) (v := ?va22) rfl (by rfl) (by kernel_rfl) (by kernel_rfl) (by kernel_rfl) (fun _ _ _ h => h) (Or.inl ⟨by rfl, ?ya22⟩) (fun _ => by assumption) ?ra22
        case ya22 => (intro w hSw; clear hSw; go_simp; (try with_reducible rfl))
        (try simp only [Act.put, List.setIfInBounds_toArray, List.set_cons_zero, List.set_cons_succ])
        refine Up.Till.takeY 22 (oi := ⟨some 80, .fieldAddr 65 (.tmp 79) 1, 0, "ref.go:88", #[⟨21, .data⟩, ⟨0, .phase⟩, ⟨1, .phase⟩, ⟨2, .phase⟩, ⟨3, .phase⟩, ⟨4, .phase⟩, ⟨5, .phase⟩, ⟨6, .phase⟩, ⟨7, .phase⟩, ⟨8, .phase⟩, ⟨9, .phase⟩, ⟨10, .phase⟩, ⟨11, .phase⟩, ⟨12, .phase⟩, ⟨13, .phase⟩, ⟨14, .phase⟩, ⟨15, .phase⟩, ⟨16, .phase⟩, ⟨17, .phase⟩, ⟨18, .phase⟩, ⟨19, .phase⟩, ⟨20, .phase⟩], none⟩) (v := ?va23) rfl (by rfl) (by kernel_rfl) (by kernel_rfl) (by kernel_rfl) (fun _ _ _ h => h) (Or.inl ⟨by rfl, ?ya23⟩) (fun _ => by assumption) ?ra23
        case ya23 => (intro w hSw; clear hSw; go_simp; (try with_reducible rfl))
        (try simp only [Act.put, List.setIfInBounds_toArray, List.set_cons_zero, List.set_cons_succ])
        refine Up.Till.ready (rs := [23]) (by kernel_rfl) (by simp) ?_
        refine Up.TillAll.cons (o := ⟨none, .store 62 (.tmp 80) (.tmp 78), 0, "ref.go:88", #[⟨22, .data⟩, ⟨20, .data⟩, ⟨20, .chain⟩, ⟨0, .phase⟩, ⟨1, .phase⟩, ⟨2, .phase⟩, ⟨3, .phase⟩, ⟨4, .phase⟩, ⟨5, .phase⟩, ⟨6, .phase⟩, ⟨7, .phase⟩, ⟨8, .phase⟩, ⟨9, .phase⟩, ⟨10, .phase⟩, ⟨11, .phase⟩, ⟨12, .phase⟩, ⟨13, .phase⟩, ⟨14, .phase⟩, ⟨15, .phase⟩, ⟨16, .phase⟩, ⟨17, .phase⟩, ⟨18, .phase⟩, ⟨19, .phase⟩, ⟨20, .phase⟩], none⟩) rfl (fun K hK => ?_) Up.TillAll.nil
        obtain ⟨z0, z1⟩ := HX.out _ B_1_8_12_13_20.out
        go_simp
        refine hK.out _ _ (fun h => absurd h (by decide)) (fun hzz => ?_)
        clear hK K hzz hHa20
        (try simp only [Act.put, List.setIfInBounds_toArray, List.set_cons_zero, List.set_cons_succ])
        refine Up.Till.done (by kernel_rfl) ?_ _
        go_wp2
        all_goals (go_ret; have hE := HI.out.setQ B_1_8_12_13_20.out R_1_8_12_13_20.out K_1_8_12_13_20.out HFL.out HNL.out; simp only [Nat.zero_add, Nat.sub_self, Nat.add_zero] at hE; unfold AskRP; rw [HE.out]; exact ⟨rfl, hE.1, hE.2⟩)
       refine Up.TillAll.cons (o := ⟨some 70, .buildSlice 62 1 #[(0, .tmp 69)], 62, "ref.go:88", #[⟨11, .data⟩], none⟩) rfl (fun K hK => ?_) ?_
       ·go_simp
        have B_1_12 := Aside0.mk (below_alloc B_1.out (.cells #[.int .i64 who, .int .i64 U] 94))
        have N_1_12 := Aside0.mk (lit_be B_1.out 94 2 1 #[.int .i64 who, .int .i64 U] rfl (by decide))
        have E_1_12 := Aside0.mk (E_1.out.alloc (.cells #[.int .i64 who, .int .i64 U] 94))
        refine hK.out _ _ (fun _ => ?_) (fun hHa24 => ?_)
        ·(try dsimp only)
         exact HX.out _ B_1_12.out
        replace hHa24 := hHa24 (by rfl)
        clear hK K hHa16
        (try simp only [Act.put, List.setIfInBounds_toArray, List.set_cons_zero, List.set_cons_succ])
        refine Up.Till.ready (rs := [8]) (by kernel_rfl) (by simp) ?_
        refine Up.TillAll.cons (o := ⟨some 66, .call { callee := Callee.builtin Builtin.append, args := #[.tmp 59, .tmp 65], argTypes := #[62, 62] }, 62, "ref.go:88", #[⟨1, .data⟩, ⟨7, .data⟩], none⟩) rfl (fun K hK => ?_) Up.TillAll.nil
        refine step_append_rows (by rfl) (.tmp 59) (.tmp 65) 62 (by rfl) 94 (.agg #[.int .i64 0, .int .i64 0]) 2 16 Tryz.underlying62 infoE0 rfl _ 0 0 [] (by simp [Act.eval, Act.put]) E_1_12.out qA ah qc _ (by simp [Act.eval, Act.put]) (HF.out.below B_1_12.out) HO1.out (by have := HB.out; have := HKL.out; unfold maxLen; omega) (by have := HB.out; have := HKL.out; omega) ?_
        intro A_1_12_8 c_1_12_8 w_1_12_8 hR6 hG6 hk6
        have B_1_12_8 := Aside0.mk (hG6.to_below B_1_12.out B_1_12.out.size (blk_le (by have := LE.out; first | omega | (simp; done) | (simp; omega) | (simp at this ⊢; omega))))
        have R_1_12_8 := Aside0.mk hR6
        have K_1_12_8 := Aside0.mk (show ∀ k, blk A_1_12_8 k → w.heap.size ≤ k from fun k h => (hk6 k h).elim (blk_le (by have := LE.out; first | omega | (simp; done) | (simp; omega) | (simp at this ⊢; omega)) k) (fun h2 => Nat.le_trans B_1_12.out.size h2))
        have N_1_12_8 := Aside0.mk (N_1_12.out.grew hG6 (blk_ne (by first | omega | (simp; done) | (simp; omega))))
        clear hR6 hG6 hk6
        refine hK.out _ _ (fun _ => ?_) (fun hHa25 => ?_)
        ·(try dsimp only)
         exact HX.out _ B_1_12_8.out
        replace hHa25 := hHa25 (by rfl)
        clear hK K hHa24
        (try simp only [Act.put, List.setIfInBounds_toArray, List.set_cons_zero, List.set_cons_succ])
        refine Up.Till.ready (rs := [13]) (by kernel_rfl) (by simp) ?_
        refine Up.TillAll.cons (o := ⟨some 71, .call { callee := Callee.builtin Builtin.append, args := #[.tmp 66, .tmp 70], argTypes := #[62, 62] }, 62, "ref.go:88", #[⟨8, .data⟩, ⟨12, .data⟩, ⟨8, .chain⟩], none⟩) rfl (fun K hK => ?_) Up.TillAll.nil
        refine step_append_rows (by rfl) (.tmp 66) (.tmp 70) 62 (by rfl) 94 (.agg #[.int .i64 0, .int .i64 0]) 2 16 Tryz.underlying62 infoE0 rfl _ _ _ _ (by simp [Act.eval, Act.put]) R_1_12_8.out _ 1 1 _ (by simp [Act.eval, Act.put]) N_1_12_8.out (by simp [Value.oneCell']) (by have := HB.out; have := HKL.out; unfold maxLen; omega) (by have := HB.out; have := HKL.out; omega) ?_
        intro A_1_12_8_13 c_1_12_8_13 w_1_12_8_13 hR6 hG6 hk6
        have B_1_12_8_13 := Aside0.mk (hG6.to_below B_1_12_8.out B_1_12_8.out.size K_1_12_8.out)
        have R_1_12_8_13 := Aside0.mk hR6
        have K_1_12_8_13 := Aside0.mk (show ∀ k, blk A_1_12_8_13 k → w.heap.size ≤ k from fun k h => (hk6 k h).elim (K_1_12_8.out k) (fun h2 => Nat.le_trans B_1_12_8.out.size h2))
        clear hR6 hG6 hk6
        refine hK.out _ _ (fun _ => ?_) (fun hHa26 => ?_)
        ·(try dsimp only)
         exact HX.out _ B_1_12_8_13.out
        replace hHa26 := hHa26 (by rfl)
        clear hK K hHa25
        (try simp only [Act.put, List.setIfInBounds_toArray, List.set_cons_zero, List.set_cons_succ])
        refine Up.Till.ready (rs := [20]) (by kernel_rfl) (by simp) ?_
        refine Up.TillAll.cons (o := ⟨some 78, .call { callee := Callee.builtin Builtin.append, args := #[.tmp 71, .tmp 77], argTypes := #[62, 62] }, 62, "ref.go:88", #[⟨13, .data⟩, ⟨19, .data⟩, ⟨13, .chain⟩], none⟩) rfl (fun K hK => ?_) Up.TillAll.nil
        refine step_append_rows (by rfl) (.tmp 71) (.tmp 77) 62 (by rfl) 94 (.agg #[.int .i64 0, .int .i64 0]) 2 16 Tryz.underlying62 infoE0 rfl _ _ _ _ (by simp [Act.eval, Act.put]) R_1_12_8_13.out (if qc = ah then qA else qA.map (·.add (ah * 2))) (qs.length - ah) (qc - ah) _ (by simp [Act.eval, Act.put]) (HBK.out.below B_1_12_8_13.out) HO2.out (by have := HB.out; have := HKL.out; unfold maxLen; omega) (by have := HB.out; have := HKL.out; omega) ?_
        intro A_1_12_8_13_20 c_1_12_8_13_20 w_1_12_8_13_20 hR6 hG6 hk6
        have B_1_12_8_13_20 := Aside0.mk (hG6.to_below B_1_12_8_13.out B_1_12_8_13.out.size K_1_12_8_13.out)
        have R_1_12_8_13_20 := Aside0.mk hR6
        have K_1_12_8_13_20 := Aside0.mk (show ∀ k, blk A_1_12_8_13_20 k → w.heap.size ≤ k from fun k h => (hk6 k h).elim (K_1_12_8_13.out k) (fun h2 => Nat.le_trans B_1_12_8_13.out.size h2))
        clear hR6 hG6 hk6
        refine hK.out _ _ (fun _ => ?_) (fun hHa27 => ?_)
        ·(try dsimp only)
         exact HX.out _ B_1_12_8_13_20.out
        replace hHa27 := hHa27 (by rfl)
        clear hK K hHa26
        (try simp only [Act.put, List.setIfInBounds_toArray, List.set_cons_zero, List.set_cons_succ])
        refine Up.Till.takeY 21 (oi := ⟨some 79, .nilCheck (.tmp 58), 0, "ref.go:88", #[⟨0, .data⟩, ⟨0, .phase⟩, ⟨1, .phase⟩, ⟨2, .phase⟩, ⟨3, .phase⟩, ⟨4, .phase⟩, ⟨5, .phase⟩, ⟨6, .phase⟩, ⟨7, .phase⟩, ⟨8, .phase⟩, ⟨9, .phase⟩, ⟨10, .phase⟩, ⟨11, .phase⟩, ⟨12, .phase⟩, ⟨13, .phase⟩, ⟨14, .phase⟩, ⟨15, .phase⟩, ⟨16, .phase⟩, ⟨17, .phase⟩, ⟨18, .phase⟩, ⟨19, .phase⟩, ⟨20, .phase⟩], none⟩) (v := ?va29) rfl (by rfl) (by kernel_rfl) (by kernel_rfl) (by kernel_rfl) (fun _ _ _ h => h) (Or.inl ⟨by rfl, ?ya29⟩) (fun _ => by assumption) ?ra29
        case ya29 => (intro w hSw; clear hSw; go_simp; (try with_reducible rfl))
        (try simp only [Act.put, List.setIfInBounds_toArray, List.set_cons_zero, List.set_cons_succ])
        refine Up.Till.takeY 22 (oi := ⟨some 80, .fieldAddr 65 (.tmp 79) 1, 0, "ref.go:88", #[⟨21, .data⟩, ⟨0, .phase⟩, ⟨1, .phase⟩, ⟨2, .phase⟩, ⟨3, .phase⟩, ⟨4, .phase⟩, ⟨5, .phase⟩, ⟨6, .phase⟩, ⟨7, .phase⟩, ⟨8, .phase⟩, ⟨9, .phase⟩, ⟨10, .phase⟩, ⟨11, .phase⟩, ⟨12, .phase⟩, ⟨13, .phase⟩, ⟨14, .phase⟩, ⟨15, .phase⟩, ⟨16, .phase⟩, ⟨17, .phase⟩, ⟨18, .phase⟩, ⟨19, .phase⟩, ⟨20, .phase⟩], none⟩) (v := ?va30) rfl (by rfl) (by kernel_rfl) (by kernel_rfl) (by kernel_rfl) (fun _ _ _ h => h) (Or.inl ⟨by rfl, ?ya30⟩) (fun _ => by assumption) ?ra30
        case ya30 => (intro w hSw; clear hSw; go_simp; (try with_reducible rfl))
        (try simp only [Act.put, List.setIfInBounds_toArray, List.set_cons_zero, List.set_cons_succ])
        refine Up.Till.ready (rs := [23]) (by kernel_rfl) (by simp) ?_
        refine Up.TillAll.cons (o := ⟨none, .store 62 (.tmp 80) (.tmp 78), 0, "ref.go:88", #[⟨22, .data⟩, ⟨20, .data⟩, ⟨20, .chain⟩, ⟨0, .phase⟩, ⟨1, .phase⟩, ⟨2, .phase⟩, ⟨3, .phase⟩, ⟨4, .phase⟩, ⟨5, .phase⟩, ⟨6, .phase⟩, ⟨7, .phase⟩, ⟨8, .phase⟩, ⟨9, .phase⟩, ⟨10, .phase⟩, ⟨11, .phase⟩, ⟨12, .phase⟩, ⟨13, .phase⟩, ⟨14, .phase⟩, ⟨15, .phase⟩, ⟨16, .phase⟩, ⟨17, .phase⟩, ⟨18, .phase⟩, ⟨19, .phase⟩, ⟨20, .phase⟩], none⟩) rfl (fun K hK => ?_) Up.TillAll.nil
        obtain ⟨z0, z1⟩ := HX.out _ B_1_12_8_13_20.out
        go_simp
        refine hK.out _ _ (fun h => absurd h (by decide)) (fun hzz => ?_)
        clear hK K hzz hHa27
        (try simp only [Act.put, List.setIfInBounds_toArray, List.set_cons_zero, List.set_cons_succ])
        refine Up.Till.done (by kernel_rfl) ?_ _
        go_wp2
        all_goals (go_ret; have hE := HI.out.setQ B_1_12_8_13_20.out R_1_12_8_13_20.out K_1_12_8_13_20.out HFL.out HNL.out; simp only [Nat.zero_add, Nat.sub_self, Nat.add_zero] at hE; unfold AskRP; rw [HE.out]; exact ⟨rfl, hE.1, hE.2⟩)
       exact Up.TillAll.nil
      refine Up.TillAll.cons (o := ⟨some 70, .buildSlice 62 1 #[(0, .tmp 69)], 62, "ref.go:88", #[⟨11, .data⟩], none⟩) rfl (fun K hK => ?_) ?_
      ·go_simp
       have B_12 := Aside0.mk (below_alloc HBd.out (.cells #[.int .i64 who, .int .i64 U] 94))
       have N_12 := Aside0.mk (lit_be HBd.out 94 2 1 #[.int .i64 who, .int .i64 U] rfl (by decide))
       refine hK.out _ _ (fun _ => ?_) (fun hHa31 => ?_)
       ·(try dsimp only)
        exact HX.out _ B_12.out
       replace hHa31 := hHa31 (by rfl)
       clear hK K hH
       (try simp only [Act.put, List.setIfInBounds_toArray, List.set_cons_zero, List.set_cons_succ])
       refine Up.Till.ready (rs := [1]) (by kernel_rfl) (by simp) ?_
       refine Up.TillAll.cons (o := ⟨some 59, .buildSlice 62 0 #[], 62, "ref.go:88", #[], none⟩) rfl (fun K hK => ?_) Up.TillAll.nil
       go_simp
       have B_12_1 := Aside0.mk (below_alloc B_12.out (.cells #[] 94))
       have E_12_1 := Aside0.mk (lit_be B_12.out 94 2 0 #[] rfl (by decide))
       have LE := Aside0.mk (B_12.out.size)
       have N_12_1 := Aside0.mk (N_12.out.alloc (.cells #[] 94))
       refine hK.out _ _ (fun _ => ?_) (fun hHa32 => ?_)
       ·(try dsimp only)
        exact HX.out _ B_12_1.out
       replace hHa32 := hHa32 (by rfl)
       clear hK K hHa31
       (try simp only [Act.put, List.setIfInBounds_toArray, List.set_cons_zero, List.set_cons_succ])
       refine Up.Till.ready (rs := [8]) (by kernel_rfl) (by simp) ?_
       refine Up.TillAll.cons (o := ⟨some 66, .call { callee := Callee.builtin Builtin.append, args := #[.tmp 59, .tmp 65], argTypes := #[62, 62] }, 62, "ref.go:88", #[⟨1, .data⟩, ⟨7, .data⟩], none⟩) rfl (fun K hK => ?_) Up.TillAll.nil
       refine step_append_rows (by rfl) (.tmp 59) (.tmp 65) 62 (by rfl) 94 (.agg #[.int .i64 0, .int .i64 0]) 2 16 Tryz.underlying62 infoE0 rfl _ 0 0 [] (by simp [Act.eval, Act.put]) E_12_1.out qA ah qc _ (by simp [Act.eval, Act.put]) (HF.out.below B_12_1.out) HO1.out (by have := HB.out; have := HKL.out; unfold maxLen; omega) (by have := HB.out; have := HKL.out; omega) ?_
       intro A_12_1_8 c_12_1_8 w_12_1_8 hR6 hG6 hk6
       have B_12_1_8 := Aside0.mk (hG6.to_below B_12_1.out B_12_1.out.size (blk_le (by have := LE.out; first | omega | (simp; done) | (simp; omega) | (simp at this ⊢; omega))))
       have R_12_1_8 := Aside0.mk hR6
       have K_12_1_8 := Aside0.mk (show ∀ k, blk A_12_1_8 k → w.heap.size ≤ k from fun k h => (hk6 k h).elim (blk_le (by have := LE.out; first | omega | (simp; done) | (simp; omega) | (simp at this ⊢; omega)) k) (fun h2 => Nat.le_trans B_12_1.out.size h2))
       have N_12_1_8 := Aside0.mk (N_12_1.out.grew hG6 (blk_ne (by first | omega | (simp; done) | (simp; omega))))
       clear hR6 hG6 hk6
       refine hK.out _ _ (fun _ => ?_) (fun hHa33 => ?_)
       ·(try dsimp only)
        exact HX.out _ B_12_1_8.out
       replace hHa33 := hHa33 (by rfl)
       clear hK K hHa32
       (try simp only [Act.put, List.setIfInBounds_toArray, List.set_cons_zero, List.set_cons_succ])
       refine Up.Till.ready (rs := [13]) (by kernel_rfl) (by simp) ?_
       refine Up.TillAll.cons (o := ⟨some 71, .call { callee := Callee.builtin Builtin.append, args := #[.tmp 66, .tmp 70], argTypes := #[62, 62] }, 62, "ref.go:88", #[⟨8, .data⟩, ⟨12, .data⟩, ⟨8, .chain⟩], none⟩) rfl (fun K hK => ?_) Up.TillAll.nil
       refine step_append_rows (by rfl) (.tmp 66) (.tmp 70) 62 (by rfl) 94 (.agg #[.int .i64 0, .int .i64 0]) 2 16 Tryz.underlying62 infoE0 rfl _ _ _ _ (by simp [Act.eval, Act.put]) R_12_1_8.out _ 1 1 _ (by simp [Act.eval, Act.put]) N_12_1_8.out (by simp [Value.oneCell']) (by have := HB.out; have := HKL.out; unfold maxLen; omega) (by have := HB.out; have := HKL.out; omega) ?_
       intro A_12_1_8_13 c_12_1_8_13 w_12_1_8_13 hR6 hG6 hk6
       have B_12_1_8_13 := Aside0.mk (hG6.to_below B_12_1_8.out B_12_1_8.out.size K_12_1_8.out)
       have R_12_1_8_13 := Aside0.mk hR6
       have K_12_1_8_13 := Aside0.mk (show ∀ k, blk A_12_1_8_13 k → w.heap.size ≤ k from fun k h => (hk6 k h).elim (K_12_1_8.out k) (fun h2 => Nat.le_trans B_12_1_8.out.size h2))
       clear hR6 hG6 hk6
       refine hK.out _ _ (fun _ => ?_) (fun hHa34 => ?_)
       ·(try dsimp only)
        exact HX.out _ B_12_1_8_13.out
       replace hHa34 := hHa34 (by rfl)
       clear hK K hHa33
       (try simp only [Act.put, List.setIfInBounds_toArray, List.set_cons_zero, List.set_cons_succ])
       refine Up.Till.ready (rs := [20]) (by kernel_rfl) (by simp) ?_
       refine Up.TillAll.cons (o := ⟨some 78, .call { callee := Callee.builtin Builtin.append, args := #[.tmp 71, .tmp 77], argTypes := #[62, 62] }, 62, "ref.go:88", #[⟨13, .data⟩, ⟨19, .data⟩, ⟨13, .chain⟩], none⟩) rfl (fun K hK => ?_) Up.TillAll.nil
       refine step_append_rows (by rfl) (.tmp 71) (.tmp 77) 62 (by rfl) 94 (.agg #[.int .i64 0, .int .i64 0]) 2 16 Tryz.underlying62 infoE0 rfl _ _ _ _ (by simp [Act.eval, Act.put]) R_12_1_8_13.out (if qc = ah then qA else qA.map (·.add (ah * 2))) (qs.length - ah) (qc - ah) _ (by simp [Act.eval, Act.put]) (HBK.out.below B_12_1_8_13.out) HO2.out (by have := HB.out; have := HKL.out; unfold maxLen; omega) (by have := HB.out; have := HKL.out; omega) ?_
       intro A_12_1_8_13_20 c_12_1_8_13_20 w_12_1_8_13_20 hR6 hG6 hk6
       have B_12_1_8_13_20 := Aside0.mk (hG6.to_below B_12_1_8_13.out B_12_1_8_13.out.size K_12_1_8_13.out)
       have R_12_1_8_13_20 := Aside0.mk hR6
       have K_12_1_8_13_20 := Aside0.mk (show ∀ k, blk A_12_1_8_13_20 k → w.heap.size ≤ k from fun k h => (hk6 k h).elim (K_12_1_8_13.out k) (fun h2 => Nat.le_trans B_12_1_8_13.out.size h2))
       clear hR6 hG6 hk6
       refine hK.out _ _ (fun _ => ?_) (fun hHa35 => ?_)
       ·(try dsimp only)
        exact HX.out _ B_12_1_8_13_20.out
       replace hHa35 := hHa35 (by rfl)
       clear hK K hHa34
       (try simp only [Act.put, List.setIfInBounds_toArray, List.set_cons_zero, List.set_cons_succ])
       refine Up.Till.takeY 21 (oi := ⟨some 79, .nilCheck (.tmp 58), 0, "ref.go:88", #[⟨0, .data⟩, ⟨0, .phase⟩, ⟨1, .phase⟩, ⟨2, .phase⟩, ⟨3, .phase⟩, ⟨4, .phase⟩, ⟨5, .phase⟩, ⟨6, .phase⟩, ⟨7, .phase⟩, ⟨8, .phase⟩, ⟨9, .phase⟩, ⟨10, .phase⟩, ⟨11, .phase⟩, ⟨12, .phase⟩, ⟨13, .phase⟩, ⟨14, .phase⟩, ⟨15, .phase⟩, ⟨16, .phase⟩, ⟨17, .phase⟩, ⟨18, .phase⟩, ⟨19, .phase⟩, ⟨20, .phase⟩], none⟩) (v := ?va37) rfl (by rfl) (by kernel_rfl) (by kernel_rfl) (by kernel_rfl) (fun _ _ _ h => h) (Or.inl ⟨by rfl, ?ya37⟩) (fun _ => by assumption) ?ra37
       case ya37 => (intro w hSw; clear hSw; go_simp; (try with_reducible rfl))
       (try simp only [Act.put, List.setIfInBounds_toArray, List.set_cons_zero, List.set_cons_succ])
       refine Up.Till.takeY 22 (oi := ⟨some 80, .fieldAddr 65 (.tmp 79) 1, 0, "ref.go:88", #[⟨21, .data⟩, ⟨0, .phase⟩, ⟨1, .phase⟩, ⟨2, .phase⟩, ⟨3, .phase⟩, ⟨4, .phase⟩, ⟨5, .phase⟩, ⟨6, .phase⟩, ⟨7, .phase⟩, ⟨8, .phase⟩, ⟨9, .phase⟩, ⟨10, .phase⟩, ⟨11, .phase⟩, ⟨12, .phase⟩, ⟨13, .phase⟩, ⟨14, .phase⟩, ⟨15, .phase⟩, ⟨16, .phase⟩, ⟨17, .phase⟩, ⟨18, .phase⟩, ⟨19, .phase⟩, ⟨20, .phase⟩], none⟩) (v := ?va38) rfl (by rfl) (by kernel_rfl) (by kernel_rfl) (by kernel_rfl) (fun _ _ _ h => h) (Or.inl ⟨by rfl, ?ya38⟩) (fun _ => by assumption) ?ra38
       case ya38 => (intro w hSw; clear hSw; go_simp; (try with_reducible rfl))
       (try simp only [Act.put, List.setIfInBounds_toArray, List.set_cons_zero, List.set_cons_succ])
       refine Up.Till.ready (rs := [23]) (by kernel_rfl) (by simp) ?_
       refine Up.TillAll.cons (o := ⟨none, .store 62 (.tmp 80) (.tmp 78), 0, "ref.go:88", #[⟨22, .data⟩, ⟨20, .data⟩, ⟨20, .chain⟩, ⟨0, .phase⟩, ⟨1, .phase⟩, ⟨2, .phase⟩, ⟨3, .phase⟩, ⟨4, .phase⟩, ⟨5, .phase⟩, ⟨6, .phase⟩, ⟨7, .phase⟩, ⟨8, .phase⟩, ⟨9, .phase⟩, ⟨10, .phase⟩, ⟨11, .phase⟩, ⟨12, .phase⟩, ⟨13, .phase⟩, ⟨14, .phase⟩, ⟨15, .phase⟩, ⟨16, .phase⟩, ⟨17, .phase⟩, ⟨18, .phase⟩, ⟨19, .phase⟩, ⟨20, .phase⟩], none⟩) rfl (fun K hK => ?_) Up.TillAll.nil
       obtain ⟨z0, z1⟩ := HX.out _ B_12_1_8_13_20.out
       go_simp
       refine hK.out _ _ (fun h => absurd h (by decide)) (fun hzz => ?_)
       clear hK K hzz hHa35
       (try simp only [Act.put, List.setIfInBounds_toArray, List.set_cons_zero, List.set_cons_succ])
       refine Up.Till.done (by kernel_rfl) ?_ _
       go_wp2
       all_goals (go_ret; have hE := HI.out.setQ B_12_1_8_13_20.out R_12_1_8_13_20.out K_12_1_8_13_20.out HFL.out HNL.out; simp only [Nat.zero_add, Nat.sub_self, Nat.add_zero] at hE; unfold AskRP; rw [HE.out]; exact ⟨rfl, hE.1, hE.2⟩)
      exact Up.TillAll.nil
   ·have t0 : (T != 0) = true := by simp [h0]
    have ea : ah = cv := by rw [HAH.out, if_neg h0]
    subst ea
    by_cases h9 : U = T
    ·have t9 : (U == T) = true := by simp [h9]
     have HE := Aside0.mk (show askIn hs qs who m = (1, hs, qs) by rw [HAN.out, t9, Bool.true_or, if_pos rfl, HSA.out h0 h9])
     clear h0 h9
     go_wp2_with fail
     go_ret
     unfold AskRP
     rw [HE.out]
     exact ⟨rfl, (HI.out.below HB4.out).mono' (fun k h => .inl h), Grew.of_below HB4.out⟩
    ·have un : (U == T) = false := by simp [h9]
     obtain ⟨g2, hg2⟩ : ∃ g2, (ah == 0 && fitsAll hs who U) = g2 := ⟨_, rfl⟩
     have HG2 := Aside0.mk hg2
     obtain ⟨x1, x2⟩ := HX.out _ HB4.out
     have HE0 := Aside0.mk (show askIn hs qs who m = if g2 then (1, grantsIn hs who U, qs) else (2, hs, insAt qs ah ⟨who, U⟩) by rw [HAN.out, un, Bool.false_or, hg2])
     clear HAN HAH HUN HSA hg2 h0 h9
     go_upto_region 9 with fail
     go_cut [9] (fun v wx => v = .int .i64 (ah : Nat) ∧ Aside0 (wx = w4))
     case first =>
      go_wp2_with fail
      refine (HCo.out _ HB4.out).mono ?_
      rintro e w5 ⟨rfl, rfl⟩
      go_wp2_with fail
      go_meet
      case rel => exact ⟨rfl, ⟨rfl⟩⟩
     case rest =>
      obtain ⟨rfl, HWC⟩ := hcut
      obtain rfl := HWC.out
      go_upto_region 10 with fail
      go_cut [53] (fun v wx => v = .bool g2 ∧ Aside0 (Below w.heap.size w wx))
      case first =>
       by_cases ha : ah = 0
       ·have a1 : (((ah : Nat) : Int) == 0) = true := by simp [ha]
        have a2 : (ah == 0) = true := by simp [ha]
        have a3 : fitsAll hs who U = g2 := by rw [← HG2.out, a2, Bool.true_and]
        have HF := Aside0.mk (HFi.out _ HB4.out U)
        rw [HFX.out, a3] at HF
        clear ha
        go_wp2_with fail
        refine HF.out.mono ?_
        rintro e w6 ⟨rfl, hb6⟩
        have HB6 := Aside0.mk (below_then HB4.out HB4.out.size hb6)
        clear hb6
        go_wp2_with fail
        go_meet
        case rel => exact ⟨rfl, HB6⟩
       ·have a1 : (((ah : Nat) : Int) == 0) = false := by simpa using ha
        have a2 : (ah == 0) = false := by simpa using ha
        have a3 : false = g2 := by rw [← HG2.out, a2, Bool.false_and]
        subst a3
        clear ha
        go_wp2_with fail
        go_meet
        case rel => exact ⟨rfl, HB4⟩
      case rest =>
       clear x1 x2 HG2 HWC
       obtain ⟨rfl, HB7⟩ := hcut
       cases g2 with
       | true =>
        have HE := Aside0.mk (show askIn hs qs who m = (1, grantsIn hs who U, qs) from HE0.out)
        go_wp2_with fail
        refine (HPu.out _ HB7.out U).mono ?_
        rintro e w8 ⟨rfl, hI8, hG8⟩
        have HI8 := Aside0.mk hI8
        have HG8 := Aside0.mk hG8
        clear hI8 hG8
        go_wp2_with fail
        go_ret
        unfold AskRP
        rw [HE.out]
        exact ⟨rfl, HI8.out.mono' (fun k h => h.elim .inl (fun h => .inr (Nat.le_trans HB7.out.size h))), (Grew.of_below HB7.out).trans HG8.out (fun i h => .inl h)⟩
       | false =>
        have HE := Aside0.mk (show askIn hs qs who m = (2, hs, insAt qs ah ⟨who, U⟩) from HE0.out)
        have HKL := Aside0.mk (show ah ≤ qs.length from HCL.out)
        have HF := Aside0.mk (HW.out.upto ah HKL.out)
        have HBK := Aside0.mk (HW.out.from_ ah HKL.out)
        have HO1 := Aside0.mk (show ∀ u ∈ (flat qs).take (ah * 2), u.oneCell' = true from fun u hu => flat_one qs u (List.mem_of_mem_take hu))
        have HO2 := Aside0.mk (show ∀ u ∈ (flat qs).drop (ah * 2), u.oneCell' = true from fun u hu => flat_one qs u (List.mem_of_mem_drop hu))
        have HFL := Aside0.mk (show [] ++ (flat qs).take (ah * 2) ++ [Value.int .i64 who, Value.int .i64 U] ++ (flat qs).drop (ah * 2) = flat (insAt qs ah ⟨who, U⟩) by unfold insAt; rw [flat_take', flat_drop']; simp [flat, encE])
        have HNL := Aside0.mk (show 0 + ah + 1 + (qs.length - ah) = (insAt qs ah ⟨who, U⟩).length by have := HKL.out; unfold insAt; simp; omega)
        have HBd := Aside0.mk (below_then HB7.out HB7.out.size (below_drew (Below.refl _ _)))
        have p3 : (ah : Int) ≤ qs.length := by have := HKL.out; omega
        have p4 : (ah : Int) ≤ qc := by have := HKL.out; have := HQL.out; omega
        have p5 : (0 : Int) ≤ ah := by omega
        clear HE0
        go_wp2_with fail
        refine Up.Till.region [23] (fun W => W.cell? ⟨b, 1, none⟩ = some (.slice qA qs.length qc) ∧ W.frozen? ⟨b, 1, none⟩ = false) (by kernel_rfl) ?_ (fun hH => ?_)
        ·exact HX.out _ HBd.out
        refine Up.Till.takeY 0 (oi := ⟨some 58, .move (.tmp 0), 66, "ref.go:88", #[], none⟩) (v := ?vb1) rfl (by rfl) (by kernel_rfl) (by kernel_rfl) (by kernel_rfl) (fun _ _ _ h => h) (Or.inl ⟨by rfl, ?yb1⟩) (fun _ => by assumption) ?rb1
        case yb1 => (intro w hSw; clear hSw; go_simp; (try with_reducible rfl))
        (try simp only [Act.put, List.setIfInBounds_toArray, List.set_cons_zero, List.set_cons_succ])
        refine Up.Till.takeY 2 (oi := ⟨some 60, .move (.tmp 0), 66, "ref.go:88", #[], none⟩) (v := ?vb2) rfl (by rfl) (by kernel_rfl) (by kernel_rfl) (by kernel_rfl) (fun _ _ _ h => h) (Or.inl ⟨by rfl, ?yb2⟩) (fun _ => by assumption) ?rb2
        case yb2 => (intro w hSw; clear hSw; go_simp; (try with_reducible rfl))
        (try simp only [Act.put, List.setIfInBounds_toArray, List.set_cons_zero, List.set_cons_succ])
        refine Up.Till.takeY 3 (oi := ⟨some 61, .nilCheck (.tmp 60), 0, "ref.go:88", #[⟨2, .data⟩], none⟩) (v := ?vb3) rfl (by rfl) (by kernel_rfl) (by kernel_rfl) (by kernel_rfl) (fun _ _ _ h => h) (Or.inl ⟨by rfl, ?yb3⟩) (fun _ => by assumption) ?rb3
        case yb3 => (intro w hSw; clear hSw; go_simp; (try with_reducible rfl))
        (try simp only [Act.put, List.setIfInBounds_toArray, List.set_cons_zero, List.set_cons_succ])
        refine Up.Till.takeY 4 (oi := ⟨some 62, .fieldAddr 65 (.tmp 61) 1, 0, "ref.go:88", #[⟨3, .data⟩], none⟩) (v := ?vb4) rfl (by rfl) (by kernel_rfl) (by kernel_rfl) (by kernel_rfl) (fun _ _ _ h => h) (Or.inl ⟨by rfl, ?yb4⟩) (fun _ => by assumption) ?rb4
        case yb4 => (intro w hSw; clear hSw; go_simp; (try with_reducible rfl))
        (try simp only [Act.put, List.setIfInBounds_toArray, List.set_cons_zero, List.set_cons_succ])
        refine Up.Till.take 5 5 (oi := ⟨some 63, .load 62 (.tmp 62), 62, "ref.go:88", #[⟨4, .data⟩], none⟩) (v := ?vb5) rfl (by rfl) (by kernel_rfl) (by kernel_rfl) (by kernel_rfl) (fun _ _ _ h => h) (by kernel_rfl) (by kernel_rfl) (by kernel_rfl) (Or.inl ⟨by rfl, ?yb5⟩) (by assumption) ?rb5
        case yb5 => (intro w hSw; (try dsimp only at hSw); go_simp; (try with_reducible rfl))
        (try simp only [Act.put, List.setIfInBounds_toArray, List.set_cons_zero, List.set_cons_succ])
        refine Up.Till.takeY 6 (oi := ⟨some 64, .move (.tmp 9), 3, "ref.go:88", #[], none⟩) (v := ?vb6) rfl (by rfl) (by kernel_rfl) (by kernel_rfl) (by kernel_rfl) (fun _ _ _ h => h) (Or.inl ⟨by rfl, ?yb6⟩) (fun _ => by assumption) ?rb6
        case yb6 => (intro w hSw; clear hSw; go_simp; (try with_reducible rfl))
        (try simp only [Act.put, List.setIfInBounds_toArray, List.set_cons_zero, List.set_cons_succ])
        refine Up.Till.takeY 7 (oi := ⟨some 65, .slice 62 (.tmp 63) none (some (.tmp 64)) none, 62, "ref.go:88", #[⟨5, .data⟩, ⟨6, .data⟩], none⟩) (v := ?vb7) rfl (by rfl) (by kernel_rfl) (by kernel_rfl) (by kernel_rfl) (fun _ _ _ h => h) (Or.inl ⟨by rfl, ?yb7⟩) (fun _ => by assumption) ?rb7
        case yb7 => (intro w hSw; clear hSw; go_simp; (try with_reducible rfl))
        (try simp only [Act.put, List.setIfInBounds_toArray, List.set_cons_zero, List.set_cons_succ])
        refine Up.Till.takeY 9 (oi := ⟨some 67, .move (.tmp 1), 3, "ref.go:88", #[], none⟩) (v := ?vb8) rfl (by rfl) (by kernel_rfl) (by kernel_rfl) (by kernel_rfl) (fun _ _ _ h => h) (Or.inl ⟨by rfl, ?yb8⟩) (fun _ => by assumption) ?rb8
        case yb8 => (intro w hSw; clear hSw; go_simp; (try with_reducible rfl))
        (try simp only [Act.put, List.setIfInBounds_toArray, List.set_cons_zero, List.set_cons_succ])
        refine Up.Till.takeY 10 (oi := ⟨some 68, .move (.tmp 8), 3, "ref.go:88", #[], none⟩) (v := ?vb9) rfl (by rfl) (by kernel_rfl) (by kernel_rfl) (by kernel_rfl) (fun _ _ _ h => h) (Or.inl ⟨by rfl, ?yb9⟩) (fun _ => by assumption) ?rb9
        case yb9 => (intro w hSw; clear hSw; go_simp; (try with_reducible rfl))
        (try simp only [Act.put, List.setIfInBounds_toArray, List.set_cons_zero, List.set_cons_succ])
        refine Up.Till.takeY 11 (oi := ⟨some 69, .build 94 #[(0, .tmp 67), (1, .tmp 68)], 94, "ref.go:88", #[⟨9, .data⟩, ⟨10, .data⟩], none⟩) (v := ?vb10) rfl (by rfl) (by kernel_rfl) (by kernel_rfl) (by kernel_rfl) (fun _ _ _ h => h) (Or.inl ⟨by rfl, ?yb10⟩) (fun _ => by assumption) ?rb10
        case yb10 => (intro w hSw; clear hSw; go_simp; (try with_reducible rfl))
        (try simp only [Act.put, List.setIfInBounds_toArray, List.set_cons_zero, List.set_cons_succ])
        refine Up.Till.takeY 14 (oi := ⟨some 72, .move (.tmp 0), 66, "ref.go:88", #[], none⟩) (v := ?vb11) rfl (by rfl) (by kernel_rfl) (by kernel_rfl) (by kernel_rfl) (fun _ _ _ h => h) (Or.inl ⟨by rfl, ?yb11⟩) (fun _ => by assumption) ?rb11
        case yb11 => (intro w hSw; clear hSw; go_simp; (try with_reducible rfl))
        (try simp only [Act.put, List.setIfInBounds_toArray, List.set_cons_zero, List.set_cons_succ])
        refine Up.Till.takeY 15 (oi := ⟨some 73, .nilCheck (.tmp 72), 0, "ref.go:88", #[⟨14, .data⟩], none⟩) (v := ?vb12) rfl (by rfl) (by kernel_rfl) (by kernel_rfl) (by kernel_rfl) (fun _ _ _ h => h) (Or.inl ⟨by rfl, ?yb12⟩) (fun _ => by assumption) ?rb12
        case yb12 => (intro w hSw; clear hSw; go_simp; (try with_reducible rfl))
        (try simp only [Act.put, List.setIfInBounds_toArray, List.set_cons_zero, List.set_cons_succ])
        refine Up.Till.takeY 16 (oi := ⟨some 74, .fieldAddr 65 (.tmp 73) 1, 0, "ref.go:88", #[⟨15, .data⟩], none⟩) (v := ?vb13) rfl (by rfl) (by kernel_rfl) (by kernel_rfl) (by kernel_rfl) (fun _ _ _ h => h) (Or.inl ⟨by rfl, ?yb13⟩) (fun _ => by assumption) ?rb13
        case yb13 => (intro w hSw; clear hSw; go_simp; (try with_reducible rfl))
        (try simp only [Act.put, List.setIfInBounds_toArray, List.set_cons_zero, List.set_cons_succ])
        refine Up.Till.take 17 17 (oi := ⟨some 75, .load 62 (.tmp 74), 62, "ref.go:88", #[⟨16, .data⟩], none⟩) (v := ?vb14) rfl (by rfl) (by kernel_rfl) (by kernel_rfl) (by kernel_rfl) (fun _ _ _ h => h) (by kernel_rfl) (by kernel_rfl) (by kernel_rfl) (Or.inl ⟨by rfl, ?yb14⟩) (by assumption) ?rb14
        case yb14 => (intro w hSw; (try dsimp only at hSw); go_simp; (try with_reducible rfl))
        (try simp only [Act.put, List.setIfInBounds_toArray, List.set_cons_zero, List.set_cons_succ])
        refine Up.Till.takeY 18 (oi := ⟨some 76, .move (.tmp 9), 3, "ref.go:88", #[], none⟩) (v := ?vb15) rfl (by rfl) (by kernel_rfl) (by kernel_rfl) (by kernel_rfl) (fun _ _ _ h => h) (Or.inl ⟨by rfl, ?yb15⟩) (fun _ => by assumption) ?rb15
        case yb15 => (intro w hSw; clear hSw; go_simp; (try with_reducible rfl))
        (try simp only [Act.put, List.setIfInBounds_toArray, List.set_cons_zero, List.set_cons_succ])
        refine Up.Till.takeY 19 (oi := ⟨some 77, .slice 62 (.tmp 75) (some (.tmp 76)) none none, 62, "ref.go:88", #[⟨17, .data⟩, ⟨18, .data⟩], none⟩) (v := ?vb16) rfl (by rfl) (by kernel_rfl) (by kernel_rfl) (by kernel_rfl) (fun _ _ _ h => h) (Or.inl ⟨by rfl, ?yb16⟩) (fun _ => by assumption) ?rb16
        case yb16 => (intro w hSw; clear hSw; go_simp; (try with_reducible rfl))
        (try simp only [Act.put, List.setIfInBounds_toArray, List.set_cons_zero, List.set_cons_succ])
        refine Up.Till.ready (rs := [1, 12]) (by kernel_rfl) (by simp) ?_
        refine Up.TillAll.cons (o := ⟨some 59, .buildSlice 62 0 #[], 62, "ref.go:88", #[], none⟩) rfl (fun K hK => ?_) ?_
        ·go_simp
         have B_1 := Aside0.mk (below_alloc HBd.out (.cells #[] 94))
         have E_1 := Aside0.mk (lit_be HBd.out 94 2 0 #[] rfl (by decide))
         have LE := Aside0.mk (HBd.out.size)
         refine hK.out _ _ (fun _ => ?_) (fun hHb16 => ?_)
         ·(try dsimp only)
          exact HX.out _ B_1.out
         replace hHb16 := hHb16 (by rfl)
         clear hK K hH
         (try simp only [Act.put, List.setIfInBounds_toArray, List.set_cons_zero, List.set_cons_succ])
         refine Up.Till.ready (rs := [8, 12]) (by kernel_rfl) (by simp) ?_
         refine Up.TillAll.cons (o := ⟨some 66, .call { callee := Callee.builtin Builtin.append, args := #[.tmp 59, .tmp 65], argTypes := #[62, 62] }, 62, "ref.go:88", #[⟨1, .data⟩, ⟨7, .data⟩], none⟩) rfl (fun K hK => ?_) ?_
         ·refine step_append_rows (by rfl) (.tmp 59) (.tmp 65) 62 (by rfl) 94 (.agg #[.int .i64 0, .int .i64 0]) 2 16 Tryz.underlying62 infoE0 rfl _ 0 0 [] (by simp [Act.eval, Act.put]) E_1.out qA ah qc _ (by simp [Act.eval, Act.put]) (HF.out.below B_1.out) HO1.out (by have := HB.out; have := HKL.out; unfold maxLen; omega) (by have := HB.out; have := HKL.out; omega) ?_
          intro A_1_8 c_1_8 w_1_8 hR6 hG6 hk6
          have B_1_8 := Aside0.mk (hG6.to_below B_1.out B_1.out.size (blk_le (by have := LE.out; first | omega | (simp; done) | (simp; omega) | (simp at this ⊢; omega))))
          have R_1_8 := Aside0.mk hR6
          have K_1_8 := Aside0.mk (show ∀ k, blk A_1_8 k → w.heap.size ≤ k from fun k h => (hk6 k h).elim (blk_le (by have := LE.out; first | omega | (simp; done) | (simp; omega) | (simp at this ⊢; omega)) k) (fun h2 => Nat.le_trans B_1.out.size h2))
          clear hR6 hG6 hk6
          refine hK.out _ _ (fun _ => ?_) (fun hHb17 => ?_)
          ·(try dsimp only)
           exact HX.out _ B_1_8.out
          replace hHb17 := hHb17 (by rfl)
          clear hK K hHb16
          (try simp only [Act.put, List.setIfInBounds_toArray, List.set_cons_zero, List.set_cons_succ])
          refine Up.Till.ready (rs := [12]) (by kernel_rfl) (by simp) ?_
          refine Up.TillAll.cons (o := ⟨some 70, .buildSlice 62 1 #[(0, .tmp 69)], 62, "ref.go:88", #[⟨11, .data⟩], none⟩) rfl (fun K hK => ?_) Up.TillAll.nil
          go_simp
          have B_1_8_12 := Aside0.mk (below_alloc B_1_8.out (.cells #[.int .i64 who, .int .i64 U] 94))
          have N_1_8_12 := Aside0.mk (lit_be B_1_8.out 94 2 1 #[.int .i64 who, .int .i64 U] rfl (by decide))
          have R_1_8_12 := Aside0.mk (R_1_8.out.alloc (.cells #[.int .i64 who, .int .i64 U] 94))
          have K_1_8_12 := K_1_8
          refine hK.out _ _ (fun _ => ?_) (fun hHb18 => ?_)
          ·(try dsimp only)
           exact HX.out _ B_1_8_12.out
          replace hHb18 := hHb18 (by rfl)
          clear hK K hHb17
          (try simp only [Act.put, List.setIfInBounds_toArray, List.set_cons_zero, List.set_cons_succ])
          refine Up.Till.ready (rs := [13]) (by kernel_rfl) (by simp) ?_
          refine Up.TillAll.cons (o := ⟨some 71, .call { callee := Callee.builtin Builtin.append, args := #[.tmp 66, .tmp 70], argTypes := #[62, 62] }, 62, "ref.go:88", #[⟨8, .data⟩, ⟨12, .data⟩, ⟨8, .chain⟩], none⟩) rfl (fun K hK => ?_) Up.TillAll.nil
          refine step_append_rows (by rfl) (.tmp 66) (.tmp 70) 62 (by rfl) 94 (.agg #[.int .i64 0, .int .i64 0]) 2 16 Tryz.underlying62 infoE0 rfl _ _ _ _ (by simp [Act.eval, Act.put]) R_1_8_12.out _ 1 1 _ (by simp [Act.eval, Act.put]) N_1_8_12.out (by simp [Value.oneCell']) (by have := HB.out; have := HKL.out; unfold maxLen; omega) (by have := HB.out; have := HKL.out; omega) ?_
          intro A_1_8_12_13 c_1_8_12_13 w_1_8_12_13 hR6 hG6 hk6
          have B_1_8_12_13 := Aside0.mk (hG6.to_below B_1_8_12.out B_1_8_12.out.size K_1_8_12.out)
          have R_1_8_12_13 := Aside0.mk hR6
          have K_1_8_12_13 := Aside0.mk (show ∀ k, blk A_1_8_12_13 k → w.heap.size ≤ k from fun k h => (hk6 k h).elim (K_1_8_12.out k) (fun h2 => Nat.le_trans B_1_8_12.out.size h2))
          clear hR6 hG6 hk6
          refine hK.out _ _ (fun _ => ?_) (fun hHb19 => ?_)
          ·(try dsimp only)
           exact HX.out _ B_1_8_12_13.out
          replace hHb19 := hHb19 (by rfl)
          clear hK K hHb18
          (try simp only [Act.put, List.setIfInBounds_toArray, List.set_cons_zero, List.set_cons_succ])
          refine Up.Till.ready (rs := [20]) (by kernel_rfl) (by simp) ?_
          refine Up.TillAll.cons (o := ⟨some 78, .call { callee := Callee.builtin Builtin.append, args := #[.tmp 71, .tmp 77], argTypes := #[62, 62] }, 62, "ref.go:88", #[⟨13, .data⟩, ⟨19, .data⟩, ⟨13, .chain⟩], none⟩) rfl (fun K hK => ?_) Up.TillAll.nil
          refine step_append_rows (by rfl) (.tmp 71) (.tmp 77) 62 (by rfl) 94 (.agg #[.int .i64 0, .int .i64 0]) 2 16 Tryz.underlying62 infoE0 rfl _ _ _ _ (by simp [Act.eval, Act.put]) R_1_8_12_13.out (if qc = ah then qA else qA.map (·.add (ah * 2))) (qs.length - ah) (qc - ah) _ (by simp [Act.eval, Act.put]) (HBK.out.below B_1_8_12_13.out) HO2.out (by have := HB.out; have := HKL.out; unfold maxLen; omega) (by have := HB.out; have := HKL.out; omega) ?_
          intro A_1_8_12_13_20 c_1_8_12_13_20 w_1_8_12_13_20 hR6 hG6 hk6
          have B_1_8_12_13_20 := Aside0.mk (hG6.to_below B_1_8_12_13.out B_1_8_12_13.out.size K_1_8_12_13.out)
          have R_1_8_12_13_20 := Aside0.mk hR6
          have K_1_8_12_13_20 := Aside0.mk (show ∀ k, blk A_1_8_12_13_20 k → w.heap.size ≤ k from fun k h => (hk6 k h).elim (K_1_8_12_13.out k) (fun h2 => Nat.le_trans B_1_8_12_13.out.size h2))
          clear hR6 hG6 hk6
          refine hK.out _ _ (fun _ => ?_) (fun hHb20 => ?_)
          ·(try dsimp only)
           exact HX.out _ B_1_8_12_13_20.out
          replace hHb20 := hHb20 (by rfl)
          clear hK K hHb19
          (try simp only [Act.put, List.setIfInBounds_toArray, List.set_cons_zero, List.set_cons_succ])
          refine Up.Till.takeY 21 (oi := ⟨some 79, .nilCheck (.tmp 58), 0, "ref.go:88", #[⟨0, .data⟩, ⟨0, .phase⟩, ⟨1, .phase⟩, ⟨2, .phase⟩, ⟨3, .phase⟩, ⟨4, .phase⟩, ⟨5, .phase⟩, ⟨6, .phase⟩, ⟨7, .phase⟩, ⟨8, .phase⟩, ⟨9, .phase⟩, ⟨10, .phase⟩, ⟨11, .phase⟩, ⟨12, .phase⟩, ⟨13, .phase⟩, ⟨14, .phase⟩, ⟨15, .phase⟩, ⟨16, .phase⟩, ⟨17, .phase⟩, ⟨18, .phase⟩, ⟨19, .phase⟩, ⟨20, .phase⟩], none⟩) (v := ?vb22) rfl (by rfl) (by kernel_rfl) (by kernel_rfl) (by kernel_rfl) (fun _ _ _ h => h) (Or.inl ⟨by rfl, ?yb22⟩) (fun _ => by assumption) ?rb22
          case yb22 => (intro w hSw; clear hSw; go_simp; (try with_reducible rfl))
          (try simp only [Act.put, List.setIfInBounds_toArray, List.set_cons_zero, List.set_cons_succ])
          refine Up.Till.takeY 22 (oi := ⟨some 80, .fieldAddr 65 (.tmp 79) 1, 0, "ref.go:88", #[⟨21, .data⟩, ⟨0, .phase⟩, ⟨1, .phase⟩, ⟨2, .phase⟩, ⟨3, .phase⟩, ⟨4, .phase⟩, ⟨5, .phase⟩, ⟨6, .phase⟩, ⟨7, .phase⟩, ⟨8, .phase⟩, ⟨9, .phase⟩, ⟨10, .phase⟩, ⟨11, .phase⟩, ⟨12, .phase⟩, ⟨13, .phase⟩, ⟨14, .phase⟩, ⟨15, .phase⟩, ⟨16, .phase⟩, ⟨17, .phase⟩, ⟨18, .phase⟩, ⟨19, .phase⟩, ⟨20, .phase⟩], none⟩) (v := ?vb23) rfl (by rfl) (by kernel_rfl) (by kernel_rfl) (by kernel_rfl) (fun _ _ _ h => h) (Or.inl ⟨by rfl, ?yb23⟩) (fun _ => by assumption) ?rb23
          case yb23 => (intro w hSw; clear hSw; go_simp; (try with_reducible rfl))
          (try simp only [Act.put, List.setIfInBounds_toArray, List.set_cons_zero, List.set_cons_succ])
          refine Up.Till.ready (rs := [23]) (by kernel_rfl) (by simp) ?_
          refine Up.TillAll.cons (o := ⟨none, .store 62 (.tmp 80) (.tmp 78), 0, "ref.go:88", #[⟨22, .data⟩, ⟨20, .data⟩, ⟨20, .chain⟩, ⟨0, .phase⟩, ⟨1, .phase⟩, ⟨2, .phase⟩, ⟨3, .phase⟩, ⟨4, .phase⟩, ⟨5, .phase⟩, ⟨6, .phase⟩, ⟨7, .phase⟩, ⟨8, .phase⟩, ⟨9, .phase⟩, ⟨10, .phase⟩, ⟨11, .phase⟩, ⟨12, .phase⟩, ⟨13, .phase⟩, ⟨14, .phase⟩, ⟨15, .phase⟩, ⟨16, .phase⟩, ⟨17, .phase⟩, ⟨18, .phase⟩, ⟨19, .phase⟩, ⟨20, .phase⟩], none⟩) rfl (fun K hK => ?_) Up.TillAll.nil
          obtain ⟨z0, z1⟩ := HX.out _ B_1_8_12_13_20.out
          go_simp
          refine hK.out _ _ (fun h => absurd h (by decide)) (fun hzz => ?_)
          clear hK K hzz hHb20
          (try simp only [Act.put, List.setIfInBounds_toArray, List.set_cons_zero, List.set_cons_succ])
          refine Up.Till.done (by kernel_rfl) ?_ _
          go_wp2
          all_goals (go_ret; have hE := HI.out.setQ B_1_8_12_13_20.out R_1_8_12_13_20.out K_1_8_12_13_20.out HFL.out HNL.out; simp only [Nat.zero_add, Nat.sub_self, Nat.add_zero] at hE; unfold AskRP; rw [HE.out]; exact ⟨rfl, hE.1, hE.2⟩)
         refine Up.TillAll.cons (o := ⟨some 70, .buildSlice 62 1 #[(0, .tmp 69)], 62, "ref.go:88", #[⟨11, .data⟩], none⟩) rfl (fun K hK => ?_) ?_
         ·go_simp
          have B_1_12 := Aside0.mk (below_alloc B_1.out (.cells #[.int .i64 who, .int .i64 U] 94))
          have N_1_12 := Aside0.mk (lit_be B_1.out 94 2 1 #[.int .i64 who, .int .i64 U] rfl (by decide))
          have E_1_12 := Aside0.mk (E_1.out.alloc (.cells #[.int .i64 who, .int .i64 U] 94))
          refine hK.out _ _ (fun _ => ?_) (fun hHb24 => ?_)
          ·(try dsimp only)
           exact HX.out _ B_1_12.out
          replace hHb24 := hHb24 (by rfl)
          clear hK K hHb16
          (try simp only [Act.put, List.setIfInBounds_toArray, List.set_cons_zero, List.set_cons_succ])
          refine Up.Till.ready (rs := [8]) (by kernel_rfl) (by simp) ?_
          refine Up.TillAll.cons (o := ⟨some 66, .call { callee := Callee.builtin Builtin.append, args := #[.tmp 59, .tmp 65], argTypes := #[62, 62] }, 62, "ref.go:88", #[⟨1, .data⟩, ⟨7, .data⟩], none⟩) rfl (fun K hK => ?_) Up.TillAll.nil
          refine step_append_rows (by rfl) (.tmp 59) (.tmp 65) 62 (by rfl) 94 (.agg #[.int .i64 0, .int .i64 0]) 2 16 Tryz.underlying62 infoE0 rfl _ 0 0 [] (by simp [Act.eval, Act.put]) E_1_12.out qA ah qc _ (by simp [Act.eval, Act.put]) (HF.out.below B_1_12.out) HO1.out (by have := HB.out; have := HKL.out; unfold maxLen; omega) (by have := HB.out; have := HKL.out; omega) ?_
          intro A_1_12_8 c_1_12_8 w_1_12_8 hR6 hG6 hk6
          have B_1_12_8 := Aside0.mk (hG6.to_below B_1_12.out B_1_12.out.size (blk_le (by have := LE.out; first | omega | (simp; done) | (simp; omega) | (simp at this ⊢; omega))))
          have R_1_12_8 := Aside0.mk hR6
          have K_1_12_8 := Aside0.mk (show ∀ k, blk A_1_12_8 k → w.heap.size ≤ k from fun k h => (hk6 k h).elim (blk_le (by have := LE.out; first | omega | (simp; done) | (simp; omega) | (simp at this ⊢; omega)) k) (fun h2 => Nat.le_trans B_1_12.out.size h2))
          have N_1_12_8 := Aside0.mk (N_1_12.out.grew hG6 (blk_ne (by first | omega | (simp; done) | (simp; omega))))
          clear hR6 hG6 hk6
          refine hK.out _ _ (fun _ => ?_) (fun hHb25 => ?_)
          ·(try dsimp only)
           exact HX.out _ B_1_12_8.out
          replace hHb25 := hHb25 (by rfl)
          clear hK K hHb24
          (try simp only [Act.put, List.setIfInBounds_toArray, List.set_cons_zero, List.set_cons_succ])
          refine Up.Till.ready (rs := [13]) (by kernel_rfl) (by simp) ?_
          refine Up.TillAll.cons (o := ⟨some 71, .call { callee := Callee.builtin Builtin.append, args := #[.tmp 66, .tmp 70], argTypes := #[62, 62] }, 62, "ref.go:88", #[⟨8, .data⟩, ⟨12, .data⟩, ⟨8, .chain⟩], none⟩) rfl (fun K hK => ?_) Up.TillAll.nil
          refine step_append_rows (by rfl) (.tmp 66) (.tmp 70) 62 (by rfl) 94 (.agg #[.int .i64 0, .int .i64 0]) 2 16 Tryz.underlying62 infoE0 rfl _ _ _ _ (by simp [Act.eval, Act.put]) R_1_12_8.out _ 1 1 _ (by simp [Act.eval, Act.put]) N_1_12_8.out (by simp [Value.oneCell']) (by have := HB.out; have := HKL.out; unfold maxLen; omega) (by have := HB.out; have := HKL.out; omega) ?_
          intro A_1_12_8_13 c_1_12_8_13 w_1_12_8_13 hR6 hG6 hk6
          have B_1_12_8_13 := Aside0.mk (hG6.to_below B_1_12_8.out B_1_12_8.out.size K_1_12_8.out)
          have R_1_12_8_13 := Aside0.mk hR6
          have K_1_12_8_13 := Aside0.mk (show ∀ k, blk A_1_12_8_13 k → w.heap.size ≤ k from fun k h => (hk6 k h).elim (K_1_12_8.out k) (fun h2 => Nat.le_trans B_1_12_8.out.size h2))
          clear hR6 hG6 hk6
          refine hK.out _ _ (fun _ => ?_) (fun hHb26 => ?_)
          ·(try dsimp only)
           exact HX.out _ B_1_12_8_13.out
          replace hHb26 := hHb26 (by rfl)
          clear hK K hHb25
          (try simp only [Act.put, List.setIfInBounds_toArray, List.set_cons_zero, List.set_cons_succ])
          refine Up.Till.ready (rs := [20]) (by kernel_rfl) (by simp) ?_
          refine Up.TillAll.cons (o := ⟨some 78, .call { callee := Callee.builtin Builtin.append, args := #[.tmp 71, .tmp 77], argTypes := #[62, 62] }, 62, "ref.go:88", #[⟨13, .data⟩, ⟨19, .data⟩, ⟨13, .chain⟩], none⟩) rfl (fun K hK => ?_) Up.TillAll.nil
          refine step_append_rows (by rfl) (.tmp 71) (.tmp 77) 62 (by rfl) 94 (.agg #[.int .i64 0, .int .i64 0]) 2 16 Tryz.underlying62 infoE0 rfl _ _ _ _ (by simp [Act.eval, Act.put]) R_1_12_8_13.out (if qc = ah then qA else qA.map (·.add (ah * 2))) (qs.length - ah) (qc - ah) _ (by simp [Act.eval, Act.put]) (HBK.out.below B_1_12_8_13.out) HO2.out (by have := HB.out; have := HKL.out; unfold maxLen; omega) (by have := HB.out; have := HKL.out; omega) ?_
          intro A_1_12_8_13_20 c_1_12_8_13_20 w_1_12_8_13_20 hR6 hG6 hk6
          have B_1_12_8_13_20 := Aside0.mk (hG6.to_below B_1_12_8_13.out B_1_12_8_13.out.size K_1_12_8_13.out)
          have R_1_12_8_13_20 := Aside0.mk hR6
          have K_1_12_8_13_20 := Aside0.mk (show ∀ k, blk A_1_12_8_13_20 k → w.heap.size ≤ k from fun k h => (hk6 k h).elim (K_1_12_8_13.out k) (fun h2 => Nat.le_trans B_1_12_8_13.out.size h2))
          clear hR6 hG6 hk6
          refine hK.out _ _ (fun _ => ?_) (fun hHb27 => ?_)
          ·(try dsimp only)
           exact HX.out _ B_1_12_8_13_20.out
          replace hHb27 := hHb27 (by rfl)
          clear hK K hHb26
          (try simp only [Act.put, List.setIfInBounds_toArray, List.set_cons_zero, List.set_cons_succ])
          refine Up.Till.takeY 21 (oi := ⟨some 79, .nilCheck (.tmp 58), 0, "ref.go:88", #[⟨0, .data⟩, ⟨0, .phase⟩, ⟨1, .phase⟩, ⟨2, .phase⟩, ⟨3, .phase⟩, ⟨4, .phase⟩, ⟨5, .phase⟩, ⟨6, .phase⟩, ⟨7, .phase⟩, ⟨8, .phase⟩, ⟨9, .phase⟩, ⟨10, .phase⟩, ⟨11, .phase⟩, ⟨12, .phase⟩, ⟨13, .phase⟩, ⟨14, .phase⟩, ⟨15, .phase⟩, ⟨16, .phase⟩, ⟨17, .phase⟩, ⟨18, .phase⟩, ⟨19, .phase⟩, ⟨20, .phase⟩], none⟩) (v := ?vb29) rfl (by rfl) (by kernel_rfl) (by kernel_rfl) (by kernel_rfl) (fun _ _ _ h => h) (Or.inl ⟨by rfl, ?yb29⟩) (fun _ => by assumption) ?rb29
          case yb29 => (intro w hSw; clear hSw; go_simp; (try with_reducible rfl))
          (try simp only [Act.put, List.setIfInBounds_toArray, List.set_cons_zero, List.set_cons_succ])
          refine Up.Till.takeY 22 (oi := ⟨some 80, .fieldAddr 65 (.tmp 79) 1, 0, "ref.go:88", #[⟨21, .data⟩, ⟨0, .phase⟩, ⟨1, .phase⟩, ⟨2, .phase⟩, ⟨3, .phase⟩, ⟨4, .phase⟩, ⟨5, .phase⟩, ⟨6, .phase⟩, ⟨7, .phase⟩, ⟨8, .phase⟩, ⟨9, .phase⟩, ⟨10, .phase⟩, ⟨11, .phase⟩, ⟨12, .phase⟩, ⟨13, .phase⟩, ⟨14, .phase⟩, ⟨15, .phase⟩, ⟨16, .phase⟩, ⟨17, .phase⟩, ⟨18, .phase⟩, ⟨19, .phase⟩, ⟨20, .phase⟩], none⟩) (v := ?vb30) rfl (by rfl) (by kernel_rfl) (by kernel_rfl) (by kernel_rfl) (fun _ _ _ h => h) (Or.inl ⟨by rfl, ?yb30⟩) (fun _ => by assumption) ?rb30
          case yb30 => (intro w hSw; clear hSw; go_simp; (try with_reducible rfl))
          (try simp only [Act.put, List.setIfInBounds_toArray, List.set_cons_zero, List.set_cons_succ])
          refine Up.Till.ready (rs := [23]) (by kernel_rfl) (by simp) ?_
          refine Up.TillAll.cons (o := ⟨none, .store 62 (.tmp 80) (.tmp 78), 0, "ref.go:88", #[⟨22, .data⟩, ⟨20, .data⟩, ⟨20, .chain⟩, ⟨0, .phase⟩, ⟨1, .phase⟩, ⟨2, .phase⟩, ⟨3, .phase⟩, ⟨4, .phase⟩, ⟨5, .phase⟩, ⟨6, .phase⟩, ⟨7, .phase⟩, ⟨8, .phase⟩, ⟨9, .phase⟩, ⟨10, .phase⟩, ⟨11, .phase⟩, ⟨12, .phase⟩, ⟨13, .phase⟩, ⟨14, .phase⟩, ⟨15, .phase⟩, ⟨16, .phase⟩, ⟨17, .phase⟩, ⟨18, .phase⟩, ⟨19, .phase⟩, ⟨20, .phase⟩], none⟩) rfl (fun K hK => ?_) Up.TillAll.nil
          obtain ⟨z0, z1⟩ := HX.out _ B_1_12_8_13_20.out
          go_simp
          refine hK.out _ _ (fun h => absurd h (by decide)) (fun hzz => ?_)
          clear hK K hzz hHb27
          (try simp only [Act.put, List.setIfInBounds_toArray, List.set_cons_zero, List.set_cons_succ])
          refine Up.Till.done (by kernel_rfl) ?_ _
          go_wp2
          all_goals (go_ret; have hE := HI.out.setQ B_1_12_8_13_20.out R_1_12_8_13_20.out K_1_12_8_13_20.out HFL.out HNL.out; simp only [Nat.zero_add, Nat.sub_self, Nat.add_zero] at hE; unfold AskRP; rw [HE.out]; exact ⟨rfl, hE.1, hE.2⟩)
         exact Up.TillAll.nil
        refine Up.TillAll.cons (o := ⟨some 70, .buildSlice 62 1 #[(0, .tmp 69)], 62, "ref.go:88", #[⟨11, .data⟩], none⟩) rfl (fun K hK => ?_) ?_
        ·go_simp
         have B_12 := Aside0.mk (below_alloc HBd.out (.cells #[.int .i64 who, .int .i64 U] 94))
         have N_12 := Aside0.mk (lit_be HBd.out 94 2 1 #[.int .i64 who, .int .i64 U] rfl (by decide))
         refine hK.out _ _ (fun _ => ?_) (fun hHb31 => ?_)
         ·(try dsimp only)
          exact HX.out _ B_12.out
         replace hHb31 := hHb31 (by rfl)
         clear hK K hH
         (try simp only [Act.put, List.setIfInBounds_toArray, List.set_cons_zero, List.set_cons_succ])
         refine Up.Till.ready (rs := [1]) (by kernel_rfl) (by simp) ?_
         refine Up.TillAll.cons (o := ⟨some 59, .buildSlice 62 0 #[], 62, "ref.go:88", #[], none⟩) rfl (fun K hK => ?_) Up.TillAll.nil
         go_simp
         have B_12_1 := Aside0.mk (below_alloc B_12.out (.cells #[] 94))
         have E_12_1 := Aside0.mk (lit_be B_12.out 94 2 0 #[] rfl (by decide))
         have LE := Aside0.mk (B_12.out.size)
         have N_12_1 := Aside0.mk (N_12.out.alloc (.cells #[] 94))
         refine hK.out _ _ (fun _ => ?_) (fun hHb32 => ?_)
         ·(try dsimp only)
          exact HX.out _ B_12_1.out
         replace hHb32 := hHb32 (by rfl)
         clear hK K hHb31
         (try simp only [Act.put, List.setIfInBounds_toArray, List.set_cons_zero, List.set_cons_succ])
         refine Up.Till.ready (rs := [8]) (by kernel_rfl) (by simp) ?_
         refine Up.TillAll.cons (o := ⟨some 66, .call { callee := Callee.builtin Builtin.append, args := #[.tmp 59, .tmp 65], argTypes := #[62, 62] }, 62, "ref.go:88", #[⟨1, .data⟩, ⟨7, .data⟩], none⟩) rfl (fun K hK => ?_) Up.TillAll.nil
         refine step_append_rows (by rfl) (.tmp 59) (.tmp 65) 62 (by rfl) 94 (.agg #[.int .i64 0, .int .i64 0]) 2 16 Tryz.underlying62 infoE0 rfl _ 0 0 [] (by simp [Act.eval, Act.put]) E_12_1.out qA ah qc _ (by simp [Act.eval, Act.put]) (HF.out.below B_12_1.out) HO1.out (by have := HB.out; have := HKL.out; unfold maxLen; omega) (by have := HB.out; have := HKL.out; omega) ?_
         intro A_12_1_8 c_12_1_8 w_12_1_8 hR6 hG6 hk6
         have B_12_1_8 := Aside0.mk (hG6.to_below B_12_1.out B_12_1.out.size (blk_le (by have := LE.out; first | omega | (simp; done) | (simp; omega) | (simp at this ⊢; omega))))
         have R_12_1_8 := Aside0.mk hR6
         have K_12_1_8 := Aside0.mk (show ∀ k, blk A_12_1_8 k → w.heap.size ≤ k from fun k h => (hk6 k h).elim (blk_le (by have := LE.out; first | omega | (simp; done) | (simp; omega) | (simp at this ⊢; omega)) k) (fun h2 => Nat.le_trans B_12_1.out.size h2))
         have N_12_1_8 := Aside0.mk (N_12_1.out.grew hG6 (blk_ne (by first | omega | (simp; done) | (simp; omega))))
         clear hR6 hG6 hk6
         refine hK.out _ _ (fun _ => ?_) (fun hHb33 => ?_)
         ·(try dsimp only)
          exact HX.out _ B_12_1_8.out
         replace hHb33 := hHb33 (by rfl)
         clear hK K hHb32
         (try simp only [Act.put, List.setIfInBounds_toArray, List.set_cons_zero, List.set_cons_succ])
         refine Up.Till.ready (rs := [13]) (by kernel_rfl) (by simp) ?_
         refine Up.TillAll.cons (o := ⟨some 71, .call { callee := Callee.builtin Builtin.append, args := #[.tmp 66, .tmp 70], argTypes := #[62, 62] }, 62, "ref.go:88", #[⟨8, .data⟩, ⟨12, .data⟩, ⟨8, .chain⟩], none⟩) rfl (fun K hK => ?_) Up.TillAll.nil
         refine step_append_rows (by rfl) (.tmp 66) (.tmp 70) 62 (by rfl) 94 (.agg #[.int .i64 0, .int .i64 0]) 2 16 Tryz.underlying62 infoE0 rfl _ _ _ _ (by simp [Act.eval, Act.put]) R_12_1_8.out _ 1 1 _ (by simp [Act.eval, Act.put]) N_12_1_8.out (by simp [Value.oneCell']) (by have := HB.out; have := HKL.out; unfold maxLen; omega) (by have := HB.out; have := HKL.out; omega) ?_
         intro A_12_1_8_13 c_12_1_8_13 w_12_1_8_13 hR6 hG6 hk6
         have B_12_1_8_13 := Aside0.mk (hG6.to_below B_12_1_8.out B_12_1_8.out.size K_12_1_8.out)
         have R_12_1_8_13 := Aside0.mk hR6
         have K_12_1_8_13 := Aside0.mk (show ∀ k, blk A_12_1_8_13 k → w.heap.size ≤ k from fun k h => (hk6 k h).elim (K_12_1_8.out k) (fun h2 => Nat.le_trans B_12_1_8.out.size h2))
         clear hR6 hG6 hk6
         refine hK.out _ _ (fun _ => ?_) (fun hHb34 => ?_)
         ·(try dsimp only)
          exact HX.out _ B_12_1_8_13.out
         replace hHb34 := hHb34 (by rfl)
         clear hK K hHb33
         (try simp only [Act.put, List.setIfInBounds_toArray, List.set_cons_zero, List.set_cons_succ])
         refine Up.Till.ready (rs := [20]) (by kernel_rfl) (by simp) ?_
         refine Up.TillAll.cons (o := ⟨some 78, .call { callee := Callee.builtin Builtin.append, args := #[.tmp 71, .tmp 77], argTypes := #[62, 62] }, 62, "ref.go:88", #[⟨13, .data⟩, ⟨19, .data⟩, ⟨13, .chain⟩], none⟩) rfl (fun K hK => ?_) Up.TillAll.nil
         refine step_append_rows (by rfl) (.tmp 71) (.tmp 77) 62 (by rfl) 94 (.agg #[.int .i64 0, .int .i64 0]) 2 16 Tryz.underlying62 infoE0 rfl _ _ _ _ (by simp [Act.eval, Act.put]) R_12_1_8_13.out (if qc = ah then qA else qA.map (·.add (ah * 2))) (qs.length - ah) (qc - ah) _ (by simp [Act.eval, Act.put]) (HBK.out.below B_12_1_8_13.out) HO2.out (by have := HB.out; have := HKL.out; unfold maxLen; omega) (by have := HB.out; have := HKL.out; omega) ?_
         intro A_12_1_8_13_20 c_12_1_8_13_20 w_12_1_8_13_20 hR6 hG6 hk6
         have B_12_1_8_13_20 := Aside0.mk (hG6.to_below B_12_1_8_13.out B_12_1_8_13.out.size K_12_1_8_13.out)
         have R_12_1_8_13_20 := Aside0.mk hR6
         have K_12_1_8_13_20 := Aside0.mk (show ∀ k, blk A_12_1_8_13_20 k → w.heap.size ≤ k from fun k h => (hk6 k h).elim (K_12_1_8_13.out k) (fun h2 => Nat.le_trans B_12_1_8_13.out.size h2))
         clear hR6 hG6 hk6
         refine hK.out _ _ (fun _ => ?_) (fun hHb35 => ?_)
         ·(try dsimp only)
          exact HX.out _ B_12_1_8_13_20.out
         replace hHb35 := hHb35 (by rfl)
         clear hK K hHb34
         (try simp only [Act.put, List.setIfInBounds_toArray, List.set_cons_zero, List.set_cons_succ])
         refine Up.Till.takeY 21 (oi := ⟨some 79, .nilCheck (.tmp 58), 0, "ref.go:88", #[⟨0, .data⟩, ⟨0, .phase⟩, ⟨1, .phase⟩, ⟨2, .phase⟩, ⟨3, .phase⟩, ⟨4, .phase⟩, ⟨5, .phase⟩, ⟨6, .phase⟩, ⟨7, .phase⟩, ⟨8, .phase⟩, ⟨9, .phase⟩, ⟨10, .phase⟩, ⟨11, .phase⟩, ⟨12, .phase⟩, ⟨13, .phase⟩, ⟨14, .phase⟩, ⟨15, .phase⟩, ⟨16, .phase⟩, ⟨17, .phase⟩, ⟨18, .phase⟩, ⟨19, .phase⟩, ⟨20, .phase⟩], none⟩) (v := ?vb37) rfl (by rfl) (by kernel_rfl) (by kernel_rfl) (by kernel_rfl) (fun _ _ _ h => h) (Or.inl ⟨by rfl, ?yb37⟩) (fun _ => by assumption) ?rb37
         case yb37 => (intro w hSw; clear hSw; go_simp; (try with_reducible rfl))
         (try simp only [Act.put, List.setIfInBounds_toArray, List.set_cons_zero, List.set_cons_succ])
         refine Up.Till.takeY 22 (oi := ⟨some 80, .fieldAddr 65 (.tmp 79) 1, 0, "ref.go:88", #[⟨21, .data⟩, ⟨0, .phase⟩, ⟨1, .phase⟩, ⟨2, .phase⟩, ⟨3, .phase⟩, ⟨4, .phase⟩, ⟨5, .phase⟩, ⟨6, .phase⟩, ⟨7, .phase⟩, ⟨8, .phase⟩, ⟨9, .phase⟩, ⟨10, .phase⟩, ⟨11, .phase⟩, ⟨12, .phase⟩, ⟨13, .phase⟩, ⟨14, .phase⟩, ⟨15, .phase⟩, ⟨16, .phase⟩, ⟨17, .phase⟩, ⟨18, .phase⟩, ⟨19, .phase⟩, ⟨20, .phase⟩], none⟩) (v := ?vb38) rfl (by rfl) (by kernel_rfl) (by kernel_rfl) (by kernel_rfl) (fun _ _ _ h => h) (Or.inl ⟨by rfl, ?yb38⟩) (fun _ => by assumption) ?rb38
         case yb38 => (intro w hSw; clear hSw; go_simp; (try with_reducible rfl))
         (try simp only [Act.put, List.setIfInBounds_toArray, List.set_cons_zero, List.set_cons_succ])
         refine Up.Till.ready (rs := [23]) (by kernel_rfl) (by simp) ?_
         refine Up.TillAll.cons (o := ⟨none, .store 62 (.tmp 80) (.tmp 78), 0, "ref.go:88", #[⟨22, .data⟩, ⟨20, .data⟩, ⟨20, .chain⟩, ⟨0, .phase⟩, ⟨1, .phase⟩, ⟨2, .phase⟩, ⟨3, .phase⟩, ⟨4, .phase⟩, ⟨5, .phase⟩, ⟨6, .phase⟩, ⟨7, .phase⟩, ⟨8, .phase⟩, ⟨9, .phase⟩, ⟨10, .phase⟩, ⟨11, .phase⟩, ⟨12, .phase⟩, ⟨13, .phase⟩, ⟨14, .phase⟩, ⟨15, .phase⟩, ⟨16, .phase⟩, ⟨17, .phase⟩, ⟨18, .phase⟩, ⟨19, .phase⟩, ⟨20, .phase⟩], none⟩) rfl (fun K hK => ?_) Up.TillAll.nil
         obtain ⟨z0, z1⟩ := HX.out _ B_12_1_8_13_20.out
         go_simp
         refine hK.out _ _ (fun h => absurd h (by decide)) (fun hzz => ?_)
         clear hK K hzz hHb35
         (try simp only [Act.put, List.setIfInBounds_toArray, List.set_cons_zero, List.set_cons_succ])
         refine Up.Till.done (by kernel_rfl) ?_ _
         go_wp2
         all_goals (go_ret; have hE := HI.out.setQ B_12_1_8_13_20.out R_12_1_8_13_20.out K_12_1_8_13_20.out HFL.out HNL.out; simp only [Nat.zero_add, Nat.sub_self, Nat.add_zero] at hE; unfold AskRP; rw [HE.out]; exact ⟨rfl, hE.1, hE.2⟩)
        exact Up.TillAll.nil
end Go.Proofs.YtkceadieigpolaaGreat.Ln
namespace Go.Proofs.YtkceadieigpolaaGreat.Ln
open Go.RowKit Go.Proofs.YtkceadieigpolaaGreatW.PrintWords Go.Proofs.YtkceadieigpolaaGreatW.PrintWords.Kd Go.Proofs.YtkceadieigpolaaGreatW.PrintLast Go.Proofs.YtkceadieigpolaaGreatW.PrintMore Go.Proofs.YtkceadieigpolaaGreat.PMd Go.Proofs.YtkceadieigpolaaGreat
open Go.Sort (grow)
set_option linter.unusedVariables false
set_option linter.unusedSimpArgs false
theorem IsLR.exact_ {w : World} {b : Nat} {F : Nat → Prop} {hs qs : List E} (h : IsLR w b F hs qs) : ∃ F0 : Nat → Prop, IsLR w b F0 hs qs ∧ (∀ k, F0 k → F k ∧ k < w.heap.size) := by
 obtain ⟨hA, hc, qA, qc, h1, h2, h3, h4, h5, h6, h7⟩ := h
 refine ⟨fun k => k = b ∨ blk hA k ∨ blk qA k, ⟨hA, hc, qA, qc, h1, .inl rfl, h3, fun k hk => .inr (.inl hk), h5, fun k hk => .inr (.inr hk), h7⟩, fun k hk => ?_⟩
 rcases hk with rfl | hk | hk
 ·exact ⟨h2, (Array.getElem?_eq_some_iff.1 h1).1⟩
 ·exact ⟨h4 k hk, h3.lt hk⟩
 ·exact ⟨h6 k hk, h5.lt hk⟩
theorem IsLR.setHQ {w W : World} {b : Nat} {F : Nat → Prop} {hs qs : List E} (h : IsLR w b F hs qs) (hb : Below w.heap.size w W) {A1 A2 : Option Addr} {c1 c2 : Nat} {l1 l2 : List E}
  (hR1 : Row W 94 2 A1 l1.length c1 (flat l1)) (hk1 : ∀ k, blk A1 k → w.heap.size ≤ k) (hR2 : Row W 94 2 A2 l2.length c2 (flat l2)) (hk2 : ∀ k, blk A2 k → w.heap.size ≤ k) (hd : ∀ k, blk A1 k → blk A2 k → False) :
  IsLR ((W.setCell ⟨b, 0, none⟩ (.slice A1 l1.length c1)).setCell ⟨b, 1, none⟩ (.slice A2 l2.length c2)) b (fun j => j = b ∨ blk A1 j ∨ blk A2 j) l1 l2 ∧ Grew F w ((W.setCell ⟨b, 0, none⟩ (.slice A1 l1.length c1)).setCell ⟨b, 1, none⟩ (.slice A2 l2.length c2)) := by
 obtain ⟨hA, hc, qA, qc, h1, h2, h3, h4, h5, h6, h7⟩ := h
 have hbl := (Array.getElem?_eq_some_iff.1 h1).1
 have hW : W.heap[b]? = _ := (hb.block b hbl).trans h1
 have n1 : ¬ blk A1 b := fun h => by have := hk1 _ h; omega
 have n2 : ¬ blk A2 b := fun h => by have := hk2 _ h; omega
 have e1 := heap_setCell_same W b 0 _ _ (.slice A1 l1.length c1) hW
 have e2 := heap_setCell_same _ b 1 _ _ (.slice A2 l2.length c2) e1
 exact ⟨⟨A1, c1, A2, c2, e2, .inl rfl, (hR1.set (p := ⟨b, 0, none⟩) n1 _).set (p := ⟨b, 1, none⟩) n1 _, fun k h => .inr (.inl h), (hR2.set (p := ⟨b, 0, none⟩) n2 _).set (p := ⟨b, 1, none⟩) n2 _, fun k h => .inr (.inr h), hd⟩, ((Grew.of_below hb).setCell (.inl h2) _).setCell (.inl h2) _⟩
def LoopR (b : Nat) (F : Nat → Prop) (w : World) (R : List Int × List E × List E) (N : Nat) (v : Value) (gg : Nat) (wr : World) : Prop :=
 ∃ (hs qs : List E) (out : List Int) (A' : Option Addr) (c' : Nat) (F0 : Nat → Prop), v = .slice A' out.length c' ∧ qs.length ≤ gg ∧ IsLR wr b F0 hs qs ∧ Row wr 3 1 A' out.length c' (ints out) ∧ (∀ k, blk A' k → w.heap.size ≤ k) ∧
  (∀ k, F0 k → (F k ∨ w.heap.size ≤ k) ∧ ¬ blk A' k ∧ k < wr.heap.size) ∧ Grew F w wr ∧ (Asc hs ∧ (∀ x ∈ hs, md x.f1) ∧ ∀ x ∈ qs, md x.f1) ∧ (out ++ (serveQ hs qs).1, (serveQ hs qs).2) = R ∧ out.length + hs.length + 2 * qs.length ≤ N
theorem grants_md {hs : List E} {who m : Int} (ha : Asc hs) (h : ∀ x ∈ hs, md x.f1) (hm : md m) : ∀ x ∈ grantsIn hs who m, md x.f1 := fun x hx => by
 rcases (grants_mem ha).1 hx with rfl | ⟨hx, _⟩
 ·exact hm
 ·exact h x hx
def LeaveRP (b : Nat) (F : Nat → Prop) (hs qs : List E) (who : Int) (w : World) (e : Ending) (w' : World) : Prop :=
 ∃ A' c', e = .returned (.slice A' (leaveIn hs qs who).1.length c') ∧ Row w' 3 1 A' (leaveIn hs qs who).1.length c' (ints (leaveIn hs qs who).1) ∧
   (∀ k, blk A' k → w.heap.size ≤ k) ∧ IsLR w' b (fun k => (F k ∨ w.heap.size ≤ k) ∧ ¬ blk A' k) (leaveIn hs qs who).2.1 (leaveIn hs qs who).2.2 ∧ Grew F w w'
set_option maxHeartbeats 16000000 in
set_option maxRecDepth 100000 in
theorem Leave_R (w : World) (b : Nat) (F : Nat → Prop) (hs qs : List E) (who : Int) (hI : IsLR w b F hs qs) (ha : Asc hs) (hm1 : ∀ x ∈ hs, md x.f1) (hm2 : ∀ x ∈ qs, md x.f1) (hl : hs.length + 2 * qs.length ≤ 900000) (hF : ∀ k, F k → k < w.heap.size) :
  Calls Tryz.prog 47 #[.pointer (some ⟨b, 0, none⟩), .int .i64 who] w (LeaveRP b F hs qs who w) := by
 have hu := Tryz.underlying65
 have hu67 := Tryz.underlying94
 have HI := Aside0.mk hI
 have HA := Aside0.mk (And.intro ha (And.intro hm1 hm2))
 have HL := Aside0.mk hl
 have HFF := Aside0.mk hF
 obtain ⟨hA, hc, qA, qc, h1, h2, h3, h4, h5, h6, h7⟩ := hI
 have HBW := Aside0.mk (Array.getElem?_eq_some_iff.1 h1).1
 have HX := Aside0.mk (fun (W : World) (hb : Below w.heap.size w W) => (show W.cell? ⟨b, 0, none⟩ = some (.slice hA hs.length hc) ∧ W.cell? ⟨b, 1, none⟩ = some (.slice qA qs.length qc) from
  have hW := (hb.block b HBW.out).trans h1
  ⟨(blk_cell hW 0).trans rfl, (blk_cell hW 1).trans rfl⟩))
 have HZ := Aside0.mk (fun (W : World) (hb : Below w.heap.size w W) => (hb.block b HBW.out).trans h1)
 have HW1 := Aside0.mk (fun (W : World) (hb : Below w.heap.size w W) => without_R hA hc hs who W (h3.below hb).reads (by omega))
 have HW2 := Aside0.mk (fun (W : World) (hb : Below w.heap.size w W) => without_R qA qc qs who W (h5.below hb).reads (by omega))
 have HBd := Aside0.mk (below_drew (Below.refl w.heap.size w))
 clear h1 h2 h3 h4 h5 h6 h7 ha hm1 hm2 hl hF
 go_enter Tryz.func47, Tryz.ntmps47
 go_wp2_with fail
 refine Up.Till.region [16, 19] (fun W => W.cell? ⟨b, 0, none⟩ = some (.slice hA hs.length hc) ∧ W.cell? ⟨b, 1, none⟩ = some (.slice qA qs.length qc)) (by kernel_rfl) ?_ (fun hH => ?_)
 ·exact HX.out _ HBd.out
 refine Up.Till.takeY 0 (oi := ⟨some 7, .move (.tmp 0), 66, "ref.go:105", #[], none⟩) (v := ?vq1) rfl (by rfl) (by kernel_rfl) (by kernel_rfl) (by kernel_rfl) (fun _ _ _ h => h) (Or.inl ⟨by rfl, ?yq1⟩) (fun _ => by assumption) ?rq1
 case yq1 => (intro w hSw; clear hSw; go_simp; (try with_reducible rfl))
 (try simp only [Act.put, List.setIfInBounds_toArray, List.set_cons_zero, List.set_cons_succ])
 refine Up.Till.takeY 1 (oi := ⟨some 8, .move (.tmp 0), 66, "ref.go:105", #[{ on := 16, ground := Ground.gcOnly Departure.lateStores }], none⟩) (v := ?vq2) rfl (by rfl) (by kernel_rfl) (by kernel_rfl) (by kernel_rfl) (fun _ _ _ h => h) (Or.inl ⟨by rfl, ?yq2⟩) (fun _ => by assumption) ?rq2
 case yq2 => (intro w hSw; clear hSw; go_simp; (try with_reducible rfl))
 (try simp only [Act.put, List.setIfInBounds_toArray, List.set_cons_zero, List.set_cons_succ])
 refine Up.Till.takeY 2 (oi := ⟨some 9, .move (.tmp 0), 66, "ref.go:105", #[], none⟩) (v := ?vq3) rfl (by rfl) (by kernel_rfl) (by kernel_rfl) (by kernel_rfl) (fun _ _ _ h => h) (Or.inl ⟨by rfl, ?yq3⟩) (fun _ => by assumption) ?rq3
 case yq3 => (intro w hSw; clear hSw; go_simp; (try with_reducible rfl))
 (try simp only [Act.put, List.setIfInBounds_toArray, List.set_cons_zero, List.set_cons_succ])
 refine Up.Till.takeY 3 (oi := ⟨some 10, .nilCheck (.tmp 9), 0, "ref.go:105", #[⟨2, .data⟩], none⟩) (v := ?vq4) rfl (by rfl) (by kernel_rfl) (by kernel_rfl) (by kernel_rfl) (fun _ _ _ h => h) (Or.inl ⟨by rfl, ?yq4⟩) (fun _ => by assumption) ?rq4
 case yq4 => (intro w hSw; clear hSw; go_simp; (try with_reducible rfl))
 (try simp only [Act.put, List.setIfInBounds_toArray, List.set_cons_zero, List.set_cons_succ])
 refine Up.Till.takeY 4 (oi := ⟨some 11, .fieldAddr 65 (.tmp 10) 0, 0, "ref.go:105", #[⟨3, .data⟩], none⟩) (v := ?vq5) rfl (by rfl) (by kernel_rfl) (by kernel_rfl) (by kernel_rfl) (fun _ _ _ h => h) (Or.inl ⟨by rfl, ?yq5⟩) (fun _ => by assumption) ?rq5
 case yq5 => (intro w hSw; clear hSw; go_simp; (try with_reducible rfl))
 (try simp only [Act.put, List.setIfInBounds_toArray, List.set_cons_zero, List.set_cons_succ])
 refine Up.Till.take 5 5 (oi := ⟨some 12, .load 62 (.tmp 11), 62, "ref.go:105", #[⟨4, .data⟩], none⟩) (v := ?vq6) rfl (by rfl) (by kernel_rfl) (by kernel_rfl) (by kernel_rfl) (fun _ _ _ h => h) (by kernel_rfl) (by kernel_rfl) (by kernel_rfl) (Or.inl ⟨by rfl, ?yq6⟩) (by assumption) ?rq6
 case yq6 => (intro w hSw; (try dsimp only at hSw); go_simp; (try with_reducible rfl))
 (try simp only [Act.put, List.setIfInBounds_toArray, List.set_cons_zero, List.set_cons_succ])
 refine Up.Till.takeY 6 (oi := ⟨some 13, .move (.tmp 1), 3, "ref.go:105", #[], none⟩) (v := ?vq7) rfl (by rfl) (by kernel_rfl) (by kernel_rfl) (by kernel_rfl) (fun _ _ _ h => h) (Or.inl ⟨by rfl, ?yq7⟩) (fun _ => by assumption) ?rq7
 case yq7 => (intro w hSw; clear hSw; go_simp; (try with_reducible rfl))
 (try simp only [Act.put, List.setIfInBounds_toArray, List.set_cons_zero, List.set_cons_succ])
 refine Up.Till.takeY 8 (oi := ⟨some 15, .move (.tmp 0), 66, "ref.go:105", #[], none⟩) (v := ?vq8) rfl (by rfl) (by kernel_rfl) (by kernel_rfl) (by kernel_rfl) (fun _ _ _ h => h) (Or.inl ⟨by rfl, ?yq8⟩) (fun _ => by assumption) ?rq8
 case yq8 => (intro w hSw; clear hSw; go_simp; (try with_reducible rfl))
 (try simp only [Act.put, List.setIfInBounds_toArray, List.set_cons_zero, List.set_cons_succ])
 refine Up.Till.takeY 9 (oi := ⟨some 16, .nilCheck (.tmp 15), 0, "ref.go:105", #[⟨8, .data⟩], none⟩) (v := ?vq9) rfl (by rfl) (by kernel_rfl) (by kernel_rfl) (by kernel_rfl) (fun _ _ _ h => h) (Or.inl ⟨by rfl, ?yq9⟩) (fun _ => by assumption) ?rq9
 case yq9 => (intro w hSw; clear hSw; go_simp; (try with_reducible rfl))
 (try simp only [Act.put, List.setIfInBounds_toArray, List.set_cons_zero, List.set_cons_succ])
 refine Up.Till.takeY 10 (oi := ⟨some 17, .fieldAddr 65 (.tmp 16) 1, 0, "ref.go:105", #[⟨9, .data⟩], none⟩) (v := ?vq10) rfl (by rfl) (by kernel_rfl) (by kernel_rfl) (by kernel_rfl) (fun _ _ _ h => h) (Or.inl ⟨by rfl, ?yq10⟩) (fun _ => by assumption) ?rq10
 case yq10 => (intro w hSw; clear hSw; go_simp; (try with_reducible rfl))
 (try simp only [Act.put, List.setIfInBounds_toArray, List.set_cons_zero, List.set_cons_succ])
 refine Up.Till.take 11 11 (oi := ⟨some 18, .load 62 (.tmp 17), 62, "ref.go:105", #[⟨10, .data⟩], none⟩) (v := ?vq11) rfl (by rfl) (by kernel_rfl) (by kernel_rfl) (by kernel_rfl) (fun _ _ _ h => h) (by kernel_rfl) (by kernel_rfl) (by kernel_rfl) (Or.inl ⟨by rfl, ?yq11⟩) (by assumption) ?rq11
 case yq11 => (intro w hSw; (try dsimp only at hSw); go_simp; (try with_reducible rfl))
 (try simp only [Act.put, List.setIfInBounds_toArray, List.set_cons_zero, List.set_cons_succ])
 refine Up.Till.takeY 12 (oi := ⟨some 19, .move (.tmp 1), 3, "ref.go:105", #[], none⟩) (v := ?vq12) rfl (by rfl) (by kernel_rfl) (by kernel_rfl) (by kernel_rfl) (fun _ _ _ h => h) (Or.inl ⟨by rfl, ?yq12⟩) (fun _ => by assumption) ?rq12
 case yq12 => (intro w hSw; clear hSw; go_simp; (try with_reducible rfl))
 (try simp only [Act.put, List.setIfInBounds_toArray, List.set_cons_zero, List.set_cons_succ])
 refine Up.Till.ready (rs := [7]) (by kernel_rfl) (by simp) ?_
 refine Up.TillAll.cons (o := ⟨some 14, .call { callee := Callee.value (.func 82), args := #[.tmp 12, .tmp 13], argTypes := #[62, 3] }, 62, "ref.go:105", #[⟨5, .data⟩, ⟨6, .data⟩], none⟩) rfl (fun K hK => ?_) Up.TillAll.nil
 go_simp
 (go_at_call 82; (with_reducible refine (HW1.out _ HBd.out).mono ?_); rintro e w5 ⟨v5, rfl, ho5⟩; have O5 := Aside0.mk ho5; clear ho5)
 obtain ⟨A5, c5, rfl, r5, k5, b5⟩ := O5.out
 have R5 := Aside0.mk r5
 have B5 := Aside0.mk (below_then HBd.out HBd.out.size b5)
 have K5 := Aside0.mk (show ∀ k, blk A5 k → w.heap.size ≤ k from fun k h => Nat.le_trans HBd.out.size (k5 k h))
 clear r5 k5 b5 O5
 go_wp2_with fail
 refine hK.out _ _ (fun _ => ?_) (fun hHq12 => ?_)
 ·(try dsimp only)
  exact HX.out _ B5.out
 replace hHq12 := hHq12 (by rfl)
 clear hK K hH
 (try simp only [Act.put, List.setIfInBounds_toArray, List.set_cons_zero, List.set_cons_succ])
 refine Up.Till.ready (rs := [13]) (by kernel_rfl) (by simp) ?_
 refine Up.TillAll.cons (o := ⟨some 20, .call { callee := Callee.value (.func 82), args := #[.tmp 18, .tmp 19], argTypes := #[62, 3] }, 62, "ref.go:105", #[⟨11, .data⟩, ⟨12, .data⟩, ⟨7, .chain⟩], none⟩) rfl (fun K hK => ?_) Up.TillAll.nil
 go_simp
 (go_at_call 82; (with_reducible refine (HW2.out _ B5.out).mono ?_); rintro e w6 ⟨v6, rfl, ho6⟩; have O6 := Aside0.mk ho6; clear ho6)
 obtain ⟨A6, c6, rfl, r6, k6, b6⟩ := O6.out
 have R6 := Aside0.mk r6
 have B6 := Aside0.mk (below_then B5.out B5.out.size b6)
 have K6 := Aside0.mk (show ∀ k, blk A6 k → w.heap.size ≤ k from fun k h => Nat.le_trans B5.out.size (k6 k h))
 have D6 := Aside0.mk (show ∀ k, blk A5 k → blk A6 k → False from fun k h h2 => by have := k6 k h2; have := R5.out.lt h; omega)
 have R56 := Aside0.mk (R5.out.below b6)
 clear r6 k6 b6 O6
 go_wp2_with fail
 refine hK.out _ _ (fun _ => ?_) (fun hHq13 => ?_)
 ·(try dsimp only)
  exact HX.out _ B6.out
 replace hHq13 := hHq13 (by rfl)
 clear hK K hHq12
 (try simp only [Act.put, List.setIfInBounds_toArray, List.set_cons_zero, List.set_cons_succ])
 refine Up.Till.takeY 14 (oi := ⟨some 21, .nilCheck (.tmp 7), 0, "ref.go:105", #[⟨0, .data⟩, ⟨0, .phase⟩, { on := 1, ground := Ground.textOnly Departure.lateStores }, ⟨2, .phase⟩, ⟨3, .phase⟩, ⟨4, .phase⟩, ⟨5, .phase⟩, ⟨6, .phase⟩, ⟨7, .phase⟩, { on := 8, ground := Ground.textOnly Departure.lateStores }, { on := 9, ground := Ground.textOnly Departure.lateStoresUnsure }, { on := 10, ground := Ground.textOnly Departure.lateStoresUnsure }, ⟨11, .phase⟩, { on := 12, ground := Ground.textOnly Departure.lateStores }, ⟨13, .phase⟩], none⟩) (v := ?vq15) rfl (by rfl) (by kernel_rfl) (by kernel_rfl) (by kernel_rfl) (fun _ _ _ h => h) (Or.inl ⟨by rfl, ?yq15⟩) (fun _ => by assumption) ?rq15
 case yq15 => (intro w hSw; clear hSw; go_simp; (try with_reducible rfl))
 (try simp only [Act.put, List.setIfInBounds_toArray, List.set_cons_zero, List.set_cons_succ])
 refine Up.Till.takeY 15 (oi := ⟨some 22, .fieldAddr 65 (.tmp 21) 0, 0, "ref.go:105", #[⟨14, .data⟩, ⟨0, .phase⟩, { on := 1, ground := Ground.textOnly Departure.lateStores }, ⟨2, .phase⟩, ⟨3, .phase⟩, ⟨4, .phase⟩, ⟨5, .phase⟩, ⟨6, .phase⟩, ⟨7, .phase⟩, { on := 8, ground := Ground.textOnly Departure.lateStores }, { on := 9, ground := Ground.textOnly Departure.lateStoresUnsure }, { on := 10, ground := Ground.textOnly Departure.lateStoresUnsure }, ⟨11, .phase⟩, { on := 12, ground := Ground.textOnly Departure.lateStores }, ⟨13, .phase⟩], none⟩) (v := ?vq16) rfl (by rfl) (by kernel_rfl) (by kernel_rfl) (by kernel_rfl) (fun _ _ _ h => h) (Or.inl ⟨by rfl, ?yq16⟩) (fun _ => by assumption) ?rq16
 case yq16 => (intro w hSw; clear hSw; go_simp; (try with_reducible rfl))
 (try simp only [Act.put, List.setIfInBounds_toArray, List.set_cons_zero, List.set_cons_succ])
 refine Up.Till.ready (rs := [16]) (by kernel_rfl) (by simp) ?_
 refine Up.TillAll.cons (o := ⟨none, .store 62 (.tmp 22) (.tmp 14), 0, "ref.go:105", #[⟨15, .data⟩, ⟨7, .data⟩, ⟨13, .chain⟩, ⟨0, .phase⟩, { on := 1, ground := Ground.textOnly Departure.lateStores }, ⟨2, .phase⟩, ⟨3, .phase⟩, ⟨4, .phase⟩, ⟨5, .phase⟩, ⟨6, .phase⟩, ⟨7, .phase⟩, { on := 8, ground := Ground.textOnly Departure.lateStores }, { on := 9, ground := Ground.textOnly Departure.lateStoresUnsure }, { on := 10, ground := Ground.textOnly Departure.lateStoresUnsure }, ⟨11, .phase⟩, { on := 12, ground := Ground.textOnly Departure.lateStores }, ⟨13, .phase⟩], none⟩) rfl (fun K hK => ?_) Up.TillAll.nil
 have z6 := HZ.out _ B6.out
 have c0 : w6.cell? ⟨b, 0, none⟩ = some (.slice hA hs.length hc) := (blk_cell z6 0).trans rfl
 have f0 := blk_frozen z6 0
 have c1 : w6.cell? ⟨b, 1, none⟩ = some (.slice qA qs.length qc) := (blk_cell z6 1).trans rfl
 have f1 := blk_frozen z6 1
 have HE := Aside0.mk (HI.out.setHQ B6.out R56.out K5.out R6.out K6.out D6.out)
 have S7 := Aside0.mk (show w6.heap.size ≤ ((w6.setCell ⟨b, 0, none⟩ (.slice A5 (List.filter (fun x => !x.f0 == who) hs).length c5)).setCell ⟨b, 1, none⟩ (.slice A6 (List.filter (fun x => !x.f0 == who) qs).length c6)).heap.size by simp)
 clear z6
 go_simp
 refine hK.out _ _ (fun h => absurd h (by decide)) (fun hzz => ?_)
 clear hK K hzz hHq13
 (try simp only [Act.put, List.setIfInBounds_toArray, List.set_cons_zero, List.set_cons_succ])
 refine Up.Till.takeY 17 (oi := ⟨some 23, .nilCheck (.tmp 8), 0, "ref.go:105", #[⟨1, .data⟩, ⟨0, .phase⟩, ⟨1, .phase⟩, ⟨2, .phase⟩, ⟨3, .phase⟩, ⟨4, .phase⟩, ⟨5, .phase⟩, ⟨6, .phase⟩, ⟨7, .phase⟩, ⟨8, .phase⟩, ⟨9, .phase⟩, ⟨10, .phase⟩, ⟨11, .phase⟩, ⟨12, .phase⟩, ⟨13, .phase⟩, ⟨14, .phase⟩, ⟨15, .phase⟩, ⟨16, .phase⟩], none⟩) (v := ?vq18) rfl (by rfl) (by kernel_rfl) (by kernel_rfl) (by kernel_rfl) (fun _ _ _ h => h) (Or.inl ⟨by rfl, ?yq18⟩) (fun h => absurd h (by decide)) ?rq18
 case yq18 => (intro w hSw; clear hSw; go_simp; (try with_reducible rfl))
 (try simp only [Act.put, List.setIfInBounds_toArray, List.set_cons_zero, List.set_cons_succ])
 refine Up.Till.takeY 18 (oi := ⟨some 24, .fieldAddr 65 (.tmp 23) 1, 0, "ref.go:105", #[⟨17, .data⟩, ⟨0, .phase⟩, ⟨1, .phase⟩, ⟨2, .phase⟩, ⟨3, .phase⟩, ⟨4, .phase⟩, ⟨5, .phase⟩, ⟨6, .phase⟩, ⟨7, .phase⟩, ⟨8, .phase⟩, ⟨9, .phase⟩, ⟨10, .phase⟩, ⟨11, .phase⟩, ⟨12, .phase⟩, ⟨13, .phase⟩, ⟨14, .phase⟩, ⟨15, .phase⟩, ⟨16, .phase⟩], none⟩) (v := ?vq19) rfl (by rfl) (by kernel_rfl) (by kernel_rfl) (by kernel_rfl) (fun _ _ _ h => h) (Or.inl ⟨by rfl, ?yq19⟩) (fun h => absurd h (by decide)) ?rq19
 case yq19 => (intro w hSw; clear hSw; go_simp; (try with_reducible rfl))
 (try simp only [Act.put, List.setIfInBounds_toArray, List.set_cons_zero, List.set_cons_succ])
 refine Up.Till.ready (rs := [19]) (by kernel_rfl) (by simp) ?_
 refine Up.TillAll.cons (o := ⟨none, .store 62 (.tmp 24) (.tmp 20), 0, "ref.go:105", #[⟨18, .data⟩, ⟨13, .data⟩, ⟨16, .chain⟩, ⟨0, .phase⟩, ⟨1, .phase⟩, ⟨2, .phase⟩, ⟨3, .phase⟩, ⟨4, .phase⟩, ⟨5, .phase⟩, ⟨6, .phase⟩, ⟨7, .phase⟩, ⟨8, .phase⟩, ⟨9, .phase⟩, ⟨10, .phase⟩, ⟨11, .phase⟩, ⟨12, .phase⟩, ⟨13, .phase⟩, ⟨14, .phase⟩, ⟨15, .phase⟩, ⟨16, .phase⟩], none⟩) rfl (fun K hK => ?_) Up.TillAll.nil
 go_simp
 refine hK.out _ _ (fun h => absurd h (by decide)) (fun hzz => ?_)
 clear hK K hzz
 (try simp only [Act.put, List.setIfInBounds_toArray, List.set_cons_zero, List.set_cons_succ])
 refine Up.Till.done (by kernel_rfl) ?_ _
 clear c0 c1 f0 f1
 go_wp2_with fail
 generalize hw6 : (w6.setCell ⟨b, 0, none⟩ (.slice A5 (List.filter (fun x => !x.f0 == who) hs).length c5)).setCell ⟨b, 1, none⟩ (.slice A6 (List.filter (fun x => !x.f0 == who) qs).length c6) = w7 at HE S7 ⊢
 clear hw6
 have HE1 := Aside0.mk (show IsLR w7 b (fun j => j = b ∨ blk A5 j ∨ blk A6 j) (fl hs who) (fl qs who) from HE.out.1)
 have HG1 := Aside0.mk HE.out.2
 have HZ7 := Aside0.mk (show ∀ k, (k = b ∨ blk A5 k ∨ blk A6 k) → (F k ∨ w.heap.size ≤ k) ∧ ¬ blk none k ∧ k < w7.heap.size from fun k hk => by
  obtain ⟨F9, h9, h10⟩ := HE1.out.exact_
  refine ⟨?_, fun h => blk_none h, ?_⟩
  ·rcases hk with rfl | h | h
   ·obtain ⟨_, _, _, _, _, h2, _⟩ := HI.out; exact .inl h2
   ·exact .inr (K5.out k h)
   ·exact .inr (K6.out k h)
  ·rcases hk with rfl | h | h
   ·exact Nat.lt_of_lt_of_le HBW.out HG1.out.size
   ·exact Nat.lt_of_lt_of_le (R56.out.lt h) S7.out
   ·exact Nat.lt_of_lt_of_le (R6.out.lt h) S7.out)
 have HA6 := Aside0.mk (show Asc (fl hs who) ∧ (∀ x ∈ fl hs who, md x.f1) ∧ ∀ x ∈ fl qs who, md x.f1 from ⟨List.Pairwise.filter _ HA.out.1, fun x hx => HA.out.2.1 x (List.mem_filter.1 hx).1, fun x hx => HA.out.2.2 x (List.mem_filter.1 hx).1⟩)
 have HL6 := Aside0.mk (show ([] : List Int).length + (fl hs who).length + 2 * (fl qs who).length ≤ 900000 from by
  have h1 : (fl hs who).length ≤ hs.length := List.length_filter_le _ _
  have h2 : (fl qs who).length ≤ qs.length := List.length_filter_le _ _
  have := HL.out
  simp only [List.length_nil]
  omega)
 clear HX HZ HW1 HW2 HBd
 go_loopg [5] (fl qs who).length (fun gg v wr => LoopR b F w (leaveIn hs qs who) 900000 v gg wr)
 case atStart => exact ⟨fl hs who, fl qs who, [], none, 0, _, rfl, Nat.le_refl _, HE1.out, Row.zero _ _ _, fun k h => (blk_none h).elim, HZ7.out, HG1.out, HA6.out, rfl, HL6.out⟩
 case round =>
  clear HE HE1 HG1 HZ7 HA6 HL6 R56 R6 S7 K5 K6 HI
  obtain ⟨hs1, qs1, out, A', c', F0, rfl, hgg, hI1, hRo, hko, hF0, hG1, ha1, hRes, hN⟩ := hrel
  have HI1 := Aside0.mk hI1
  have HRo := Aside0.mk hRo
  have HKo := Aside0.mk hko
  have HF0 := Aside0.mk hF0
  have HG1 := Aside0.mk hG1
  have HRes := Aside0.mk hRes
  have HN := Aside0.mk hN
  have HGG := Aside0.mk hgg
  have HA1 := Aside0.mk ha1
  clear hRo hko hF0 hG1 hRes ha1 hN hgg
  have mixed : Tryz.prog.follows Departure.mixedOrders = true := by kernel_rfl
  cases qs1 with
  | nil =>
   obtain ⟨hA1, hc1, qA1, qc1, x0, x1, y0, y1, z0, z1⟩ := hI1.open_
   have cg := fun d os => cell_gr x1 d os
   clear hI1 x0 y0 y1 z0 z1
   go_wp2_with fail
   refine wp_region_gr mixed (by kernel_rfl) ?_
   repeat (go_big_quiet_step (fail))
   refine wpQuiet_nil ?_
   intro _ hw'
   obtain ⟨⟨d, os⟩, rfl⟩ := hw'
   go_wp2_with fail
   go_ret
   have hb := below_gr wr d os
   have hr : leaveIn hs qs who = (out, hs1, []) := by rw [← HRes.out]; simp [serveQ]
   unfold LeaveRP
   rw [hr]
   exact ⟨A', c', rfl, HRo.out.below hb, HKo.out, (HI1.out.below hb).mono' (fun k h => ⟨(HF0.out k h).1, (HF0.out k h).2.1⟩), HG1.out.below hb⟩
  | cons x qs1 =>
   obtain ⟨hA1, hc1, qA1, qc1, h1, h2, h3, h4, h5, h6, h7⟩ := hI1
   obtain ⟨gq, oq, cur, rfl, _, _, hcq⟩ := h5.at_ (by simp)
   have x1 : wr.cell? ⟨b, 1, none⟩ = some (.slice (some ⟨gq, oq, none⟩) (x :: qs1).length qc1) := (blk_cell h1 1).trans rfl
   have q0 : wr.cell? ⟨gq, oq, none⟩ = some (.int .i64 x.f0) := (hcq 0 _ rfl).1
   have q1 : wr.cell? ⟨gq, oq + 1, none⟩ = some (.int .i64 x.f1) := (hcq 1 _ rfl).1
   have cg := fun d os => cell_gr x1 d os
   have cq0 := fun d os => cell_gr q0 d os
   have cq1 := fun d os => cell_gr q1 d os
   have HMX := Aside0.mk (show md x.f1 from HA1.out.2.2 x (by simp))
   have HFT := Aside0.mk (fun d os => fits_R (grow (wat wr d) os) b F0 hs1 (x :: qs1) x.f0 x.f1 (HI1.out.below (below_gr wr d os)))
   rw [fitsDA_is HMX.out HA1.out.2.1] at HFT
   have p1 : decide (0 < (x :: qs1).length) = true := decide_eq_true (by simp)
   have p2 : (0 : Int) < ((x :: qs1).length : Int) := by rw [List.length_cons]; omega
   have HFS := Aside0.mk h2
   clear h1 h2 h3 h4 h5 h6 h7 hcq
   generalize hqn : (x :: qs1).length = qn at p1 p2 cg x1
   have HQN := Aside0.mk hqn
   clear hqn
   cases hfit : fitsAll hs1 x.f0 x.f1 with
   | false =>
    rw [hfit] at HFT
    have HFIT := Aside0.mk hfit
    clear hfit
    go_wp2_with fail
    refine wp_region_gr mixed (by kernel_rfl) ?_
    repeat (go_big_quiet_step (exact Calls.gr_of (HFT.out _ _)))
    refine wpQuiet_nil ?_
    intro _ hw'
    obtain ⟨⟨d, os⟩, rfl⟩ := hw'
    go_wp2_with fail
    go_ret
    have hb := below_gr wr d os
    have hr : leaveIn hs qs who = (out, hs1, x :: qs1) := by rw [← HRes.out]; simp [serveQ, HFIT.out]
    unfold LeaveRP
    rw [hr]
    exact ⟨A', c', rfl, HRo.out.below hb, HKo.out, (HI1.out.below hb).mono' (fun k h => ⟨(HF0.out k h).1, (HF0.out k h).2.1⟩), HG1.out.below hb⟩
   | true =>
    rw [hfit] at HFT
    have HFIT := Aside0.mk hfit
    clear hfit
    go_wp2_with fail
    refine wp_region_gr mixed (by kernel_rfl) ?_
    repeat (go_big_quiet_step (exact Calls.gr_of (HFT.out _ _)))
    refine wpQuiet_nil ?_
    intro _ hw'
    obtain ⟨⟨d, os⟩, rfl⟩ := hw'
    have HB2 := Aside0.mk (below_gr wr d os)
    generalize grow (wat wr d) os = w2 at HB2 ⊢
    clear cg cq0 cq1 HFT d os
    have y0 := cell_be q0 HB2.out
    have y1 := cell_be q1 HB2.out
    have z1 := cell_be x1 HB2.out
    have bx := blk_new w2 (.cells #[.int .i64 x.f0, .int .i64 x.f1] 94)
    have BX := Aside0.mk bx
    have g0 : (w2.alloc (.cells #[.int .i64 x.f0, .int .i64 x.f1] 94)).cell? ⟨w2.heap.size, 0, none⟩ = some (.int .i64 x.f0) := (blk_cell bx 0).trans rfl
    have g1 : (w2.alloc (.cells #[.int .i64 x.f0, .int .i64 x.f1] 94)).cell? ⟨w2.heap.size, 1, none⟩ = some (.int .i64 x.f1) := (blk_cell bx 1).trans rfl
    have HIA := Aside0.mk (HI1.out.below (below_alloc HB2.out (.cells #[.int .i64 x.f0, .int .i64 x.f1] 94)))
    have HGR := Aside0.mk (put_R _ b F0 hs1 (x :: qs1) x.f0 x.f1 HIA.out HA1.out.1 (by have := HN.out; omega))
    have HRoA := Aside0.mk (HRo.out.below (below_alloc HB2.out (.cells #[.int .i64 x.f0, .int .i64 x.f1] 94)))
    have HSA := Aside0.mk (show wr.heap.size ≤ w2.heap.size from HB2.out.size)
    have HBA := Aside0.mk (below_alloc HB2.out (.cells #[.int .i64 x.f0, .int .i64 x.f1] 94))
    clear q0 q1 x1 bx
    go_wp2_with fail
    refine HGR.out.mono ?_
    rintro e w4 ⟨rfl, hI4, hG4⟩
    have HI4 := Aside0.mk hI4
    have HG4 := Aside0.mk hG4
    have hZ4 : ¬ F0 w2.heap.size := fun h => by have := (HF0.out _ h).2.2; have := HSA.out; omega
    have bx4 := (hG4.block w2.heap.size (by simp) hZ4).trans BX.out
    have BX4 := Aside0.mk bx4
    have HRo4 := Aside0.mk (HRoA.out.grew hG4 (fun k hk h => (HF0.out k h).2.1 hk))
    obtain ⟨hA4, hc4, qA4, qc4, k1, k2, k3, k4, k5, k6, k7⟩ := hI4
    have HK1 := Aside0.mk k1
    have t1 : w4.cell? ⟨b, 1, none⟩ = some (.slice qA4 (x :: qs1).length qc4) := (blk_cell k1 1).trans rfl
    have t2 := cell_al t1 (.cells #[] 94)
    have HK5 := Aside0.mk k5
    have p3 : (1 : Int) ≤ ((x :: qs1).length : Int) := by rw [List.length_cons]; omega
    have p4 : (1 : Int) ≤ (qc4 : Int) := by have := k5.2.1; rw [List.length_cons] at this; omega
    have p5 : ((x :: qs1).length : Int) ≤ (qc4 : Int) := by have := k5.2.1; omega
    rw [HQN.out] at t1 t2 p3 p5
    have hR5 := k5.from_ 1 (by simp)
    have HR5 := Aside0.mk (hR5.alloc (.cells #[] 94))
    rw [HQN.out] at HR5
    have HE0 := Aside0.mk (lit_be (Below.refl w4.heap.size w4) 94 2 0 #[] rfl (by decide))
    have HB40 := Aside0.mk (below_alloc (Below.refl w4.heap.size w4) (.cells #[] 94))
    have HO1 := Aside0.mk (show ∀ u ∈ (flat (x :: qs1)).drop (1 * 2), u.oneCell' = true from fun u hu => flat_one _ u (List.mem_of_mem_drop hu))
    clear g0 g1 y0 y1 z1 hG4 hZ4 bx4 k1 k2 k3 k4 k5 k6 k7 hR5
    by_cases hq1 : qc4 = 1
    all_goals
     go_wp2_with (at_builtin; refine wpList_append_rows rfl _ _ 62 rfl 94 _ 2 16 Tryz.underlying62 infoE0 rfl _ 0 0 [] (by simp [Act.eval, Act.put]) HE0.out (if qc4 = 1 then qA4 else qA4.map (·.add (1 * 2))) (qn - 1) (qc4 - 1) _ (by first | (simp [Act.eval, Act.put, hq1]; done) | (simp [Act.eval, Act.put, Addr.add, hq1]; done) | (simp [Act.eval, Act.put, hq1]; rfl)) HR5.out HO1.out (by have := HN.out; have := HQN.out; unfold maxLen; omega) (by have := HN.out; have := HQN.out; omega) ?_)
     intro A8 c8 w8 hR8 hG8 hk8
     have HB8 := Aside0.mk (hG8.to_below HB40.out HB40.out.size (blk_le (Nat.le_refl _)))
     have HR8 := Aside0.mk hR8
     have HK8 := Aside0.mk (show ∀ k, blk A8 k → w4.heap.size ≤ k from fun k h => (hk8 k h).elim (blk_le (Nat.le_refl _) k) (fun h2 => by first | exact Nat.le_trans HB40.out.size h2 | (have h3 : w4.heap.size + 1 ≤ k := h2; omega)))
     have hW8 := (HB8.out.block b (Array.getElem?_eq_some_iff.1 HK1.out).1).trans HK1.out
     have t3 : w8.cell? ⟨b, 1, none⟩ = some (.slice qA4 (x :: qs1).length qc4) := (blk_cell hW8 1).trans rfl
     have t4 : w8.frozen? ⟨b, 1, none⟩ = false := blk_frozen hW8 1
     have HI9 := Aside0.mk (HI4.out.setQ HB8.out HR8.out HK8.out (l := qs1) (show [] ++ (flat (x :: qs1)).drop (1 * 2) = flat qs1 from rfl) (by have := HQN.out; simp at this; omega))
     have HRo8 := Aside0.mk ((HRo4.out.below HB8.out).set (p := ⟨b, 1, none⟩) ((HRo4.out.ne HK1.out (by decide))) (.slice A8 (0 + (qn - 1)) c8))
     have hx8 := (HB8.out.block w2.heap.size (Nat.lt_of_lt_of_le (by simp) HG4.out.size)).trans BX4.out
     have hne : b ≠ w2.heap.size := fun e => by have := (HF0.out b HFS.out).2.2; have := HSA.out; omega
     have hx9 := (Below.heap_setCell w8 ⟨b, 1, none⟩ (.slice A8 (0 + (qn - 1)) c8) w2.heap.size (fun e => hne e.symm)).trans hx8
     simp only [Nat.zero_add] at HI9 HRo8 hx9
     have g0 : (w8.setCell ⟨b, 1, none⟩ (.slice A8 (qn - 1) c8)).cell? ⟨w2.heap.size, 0, none⟩ = some (.int .i64 x.f0) := (blk_cell hx9 0).trans rfl
     have HRoL := Aside0.mk (HRo8.out.alloc (.cells #[.int .i64 x.f0] 3))
     clear t1 t2 hR8 hG8 hk8 hW8 hx8 hne hx9
     go_wp2_with (at_builtin; refine wpList_append_info rfl _ _ 38 rfl 3 _ 1 8 Tryz.underlying38 info3 rfl A' out.length c' (ints out) (by simp [Act.eval, Act.put]) HRoL.out ⟨(w8.setCell ⟨b, 1, none⟩ (.slice A8 (qn - 1) c8)).heap.size, 0, none⟩ 1 1 [.int .i64 x.f0] (by simp [Act.eval, Act.put]) rfl (one_at (blk_new _ _)) (one_one _) (by have := HN.out; unfold maxLen; omega) (by have := HN.out; omega) ?_)
     intro A2 c2 w9 hR9 hG9 hk9
     have HR9 := Aside0.mk hR9
     have HG9 := Aside0.mk hG9
     have HK9 := Aside0.mk hk9
     clear hR9 hG9 hk9 g0 t3 t4
     go_wp2
     go_roundg qs1.length
     case measure => have h := HGG.out; rw [List.length_cons] at h; omega
     case rel =>
      obtain ⟨F1, hI9, hF1⟩ := HI9.out.1.exact_
      have hG89 := HI9.out.2
      have e1 : ints out ++ [.int .i64 x.f0] = ints (out ++ [x.f0]) := by simp [ints]
      have e2 : (out ++ [x.f0]).length = out.length + 1 := by simp
      have sA : (w2.alloc (.cells #[.int .i64 x.f0, .int .i64 x.f1] 94)).heap.size = w2.heap.size + 1 := by simp
      have s12 : wr.heap.size ≤ w2.heap.size := HSA.out
      have s4 := HG4.out.size
      have s8 : w4.heap.size ≤ (w8.setCell ⟨b, 1, none⟩ (.slice A8 (qn - 1) c8)).heap.size := hG89.size
      have s01 : w.heap.size ≤ wr.heap.size := HG1.out.size
      have e8 : (w8.setCell ⟨b, 1, none⟩ (.slice A8 (qn - 1) c8)).heap.size = w8.heap.size := by simp
      generalize w8.setCell ⟨b, 1, none⟩ (.slice A8 (qn - 1) c8) = W8 at e8 hI9 hF1 hG89 s8 HR9 HG9 HK9
      have hsz8 : (W8.alloc (.cells #[.int .i64 x.f0] 3)).heap.size = W8.heap.size + 1 := by simp
      have s9 : W8.heap.size + 1 ≤ w9.heap.size := by have := HG9.out.size; rw [hsz8] at this; exact this
      rw [sA] at s4
      have hF1n : ∀ k, F1 k → ¬ blk A' k := fun k h hb => by
       have h3 := HRo.out.lt hb
       rcases (hF1 k h).1 with (h2 | h2) | h2
       ·exact (HF0.out k h2).2.1 hb
       ·rw [sA] at h2; omega
       ·omega
      refine ⟨grantsIn hs1 x.f0 x.f1, qs1, out ++ [x.f0], A2, c2, F1, by rw [e2], Nat.le_refl _, (hI9.below (below_alloc (Below.refl _ _) _)).grew HG9.out hF1n, by rw [e2, ← e1]; exact HR9.out, ?_, ?_, ?_, ⟨asc_grants HA1.out.1, grants_md HA1.out.1 HA1.out.2.1 HMX.out, fun y hy => HA1.out.2.2 y (by simp [hy])⟩, ?_, ?_⟩
      ·intro k hk
       rcases HK9.out k hk with h | h
       ·exact HKo.out k h
       ·first | omega | (rw [hsz8] at h; omega)
      ·intro k hk
       have h9 := hF1 k hk
       refine ⟨?_, fun hb => ?_, by omega⟩
       ·rcases h9.1 with (h2 | h2) | h2
        ·exact (HF0.out k h2).1
        ·rw [sA] at h2; exact .inr (by omega)
        ·exact .inr (by omega)
       ·rcases HK9.out k hb with h | h
        ·exact hF1n k hk h
        ·first | omega | (rw [hsz8] at h; omega)
      ·have g1 : Grew F w (w2.alloc (.cells #[.int .i64 x.f0, .int .i64 x.f1] 94)) := HG1.out.below HBA.out
       have g2 : Grew F w w4 := g1.trans HG4.out (fun k h => (HF0.out k h).1)
       have g3 : Grew F w W8 := g2.trans hG89 (fun k h => h.elim (fun h => (HF0.out k h).1) (fun h => .inr (by rw [sA] at h; omega)))
       exact (g3.alloc _).trans HG9.out (fun k h => .inr (HKo.out k h))
      ·rw [← HRes.out]
       simp [serveQ, HFIT.out]
      ·have hg := grants_len hs1 x.f0 x.f1
       have := HN.out
       simp only [List.length_append, List.length_cons, List.length_nil] at this ⊢
       omega
end Go.Proofs.YtkceadieigpolaaGreat.Ln
namespace Go.Proofs.YtkceadieigpolaaGreat.Ln
open Go.RowKit Go.Proofs.YtkceadieigpolaaGreatW.PrintWords Go.Proofs.YtkceadieigpolaaGreatW.PrintWords.Kd Go.Proofs.YtkceadieigpolaaGreatW.PrintLast Go.Proofs.YtkceadieigpolaaGreatW.PrintMore Go.Proofs.YtkceadieigpolaaGreat.PMd Go.Proofs.YtkceadieigpolaaGreat
open Go.Sort (grow)
set_option linter.unusedVariables false
set_option linter.unusedSimpArgs false
end Go.Proofs.YtkceadieigpolaaGreat.Ln
namespace Go.Proofs.YtkceadieigpolaaGreat.Ln
open Go.RowKit Go.Proofs.YtkceadieigpolaaGreatW.PrintWords Go.Proofs.YtkceadieigpolaaGreatW.PrintWords.Kd Go.Proofs.YtkceadieigpolaaGreatW.PrintLast Go.Proofs.YtkceadieigpolaaGreatW.PrintMore Go.Proofs.YtkceadieigpolaaGreat.PMd Go.Proofs.YtkceadieigpolaaGreat
open Go.Sort (grow)
set_option linter.unusedVariables false
set_option linter.unusedSimpArgs false
end Go.Proofs.YtkceadieigpolaaGreat.Ln
