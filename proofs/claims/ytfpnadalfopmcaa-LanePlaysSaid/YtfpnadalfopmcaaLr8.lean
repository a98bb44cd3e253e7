import Derived.Test.YtfpnadalfopmcaaLr7
/- The document's Ask. -/
namespace Go.Proofs.Ytfpnadalfopmcaa.Ln
open Go.RowKit Go.Proofs.YtfpnadalfopmcaaW.PrintWords Go.Proofs.YtfpnadalfopmcaaW.PrintWords.Kd Go.Proofs.YtfpnadalfopmcaaW.PrintLast Go.Proofs.YtfpnadalfopmcaaW.PrintMore Go.Proofs.Ytfpnadalfopmcaa.PMd Go.Proofs.Ytfpnadalfopmcaa
set_option linter.unusedVariables false
set_option linter.unusedSimpArgs false
def AskRP (b : Nat) (F : Nat → Prop) (hs qs : List E) (who m : Int) (w : World) (e : Ending) (w' : World) : Prop :=
  e = .returned (.int .i64 (askIn hs qs who m).1) ∧ IsLR w' b (fun j => F j ∨ w.heap.size ≤ j) (askIn hs qs who m).2.1 (askIn hs qs who m).2.2 ∧ Grew F w w'
set_option maxHeartbeats 8000000 in
set_option maxRecDepth 100000 in
theorem Ask_R (w : World) (b : Nat) (F : Nat → Prop) (hs qs : List E) (who m : Int) (hI : IsLR w b F hs qs) (hv : InvS hs qs) (hbh : hs.length < 1000000000) (hbq : qs.length < 1000000000) :
    Calls Try.prog 7 #[.pointer (some ⟨b, 0, none⟩), .int .i64 who, .int .i64 m] w (AskRP b F hs qs who m w) := by
  have hu := Try.underlying29
  have hu2 := Try.underlying50
  have HI := Aside0.mk hI
  have HV := Aside0.mk hv
  have HBH := Aside0.mk hbh
  have HB := Aside0.mk hbq
  have HMo := Aside0.mk (fun W => ltkref1_Mode.calls m (knownM m) W (modeR_f m))
  have HWa := Aside0.mk (fun W (hb : Below w.heap.size w W) => Waits_R W b F hs qs who (HI.out.below hb))
  have HHo := Aside0.mk (fun W (hb : Below w.heap.size w W) => Holds_R W b F hs qs who (HI.out.below hb))
  have HCo := Aside0.mk (fun W (hb : Below w.heap.size w W) => convs_R W b F hs qs (HI.out.below hb))
  have HFi := Aside0.mk (fun W (hb : Below w.heap.size w W) (t : Int) => fits_R W b F hs qs who t (HI.out.below hb))
  have HPu := Aside0.mk (fun W (hb : Below w.heap.size w W) (t : Int) => put_R W b F hs qs who t (HI.out.below hb) hv.asc (by omega))
  obtain ⟨hA, hc, qA, qc, h1, h2, h3, h4, h5, h6, h7⟩ := hI
  have HBW := Aside0.mk (Array.getElem?_eq_some_iff.1 h1).1
  have HX := Aside0.mk (fun (W : World) (hb : Below w.heap.size w W) => (show W.cell? ⟨b, 1, none⟩ = some (.slice qA qs.length qc) ∧ W.frozen? ⟨b, 1, none⟩ = false from
    have hW := (hb.block b HBW.out).trans h1
    ⟨(blk_cell hW 1).trans rfl, blk_frozen hW 1⟩))
  have HW := Aside0.mk h5
  have HQL := Aside0.mk h5.2.1
  obtain ⟨g, hg⟩ : ∃ g, askBad qs who m = g := ⟨_, rfl⟩
  have HG := Aside0.mk hg
  have FIN := Aside0.mk (show ∀ w', Below w.heap.size w w' → askBad qs who m = true → AskRP b F hs qs who m w (.returned (.int .i64 0)) w' from fun w' hb h => by
    have hp : askIn hs qs who m = (0, hs, qs) := if_pos h
    unfold AskRP
    rw [hp]
    exact ⟨rfl, (HI.out.below hb).mono' (fun k h => .inl h), Grew.of_below hb⟩)
  clear h1 h2 h3 h4 h5 h6 h7 hv hbh hbq
  go_enter Try.func7, Try.ntmps7
  go_upto_region 1 with fail
  go_cut [22] (fun v wx => v = .bool g ∧ Aside0 (Below w.heap.size w wx))
  case first =>
    have HBD := Aside0.mk (show (!knownM m || m == 0 || (toldIn qs who != 0)) = g by rw [← HG.out]; unfold askBad; rw [told_waits HV.out])
    cases hk : knownM m with
    | false =>
      rw [hk] at HMo
      have hgt : g = true := by rw [← HBD.out, hk]; rfl
      subst hgt
      clear hk hg
      go_wp2_with fail
      refine (HMo.out _).mono ?_
      rintro e w3 ⟨rfl, hd⟩
      obtain ⟨n, rfl⟩ := hd.out
      go_wp2_with fail
      go_meet
      case rel => exact ⟨rfl, ⟨pw_below_drewN (Below.refl _ _) _⟩⟩
    | true =>
      rw [hk] at HMo
      by_cases hm : m = 0
      · have m1 : (m == 0) = true := beq_iff_eq.2 hm
        have hgt : g = true := by rw [← HBD.out, m1]; simp
        subst hgt
        clear hk hm hg
        go_wp2_with fail
        refine (HMo.out _).mono ?_
        rintro e w3 ⟨rfl, hd⟩
        obtain ⟨n, rfl⟩ := hd.out
        go_wp2_with fail
        go_meet
        case rel => exact ⟨rfl, ⟨pw_below_drewN (Below.refl _ _) _⟩⟩
      · have m1 : (m == 0) = false := beq_eq_false_iff_ne.2 hm
        have hgt : (toldIn qs who != 0) = g := by rw [← HBD.out, m1, hk]; simp
        generalize toldIn qs who = tq at HWa hgt
        clear hk hm hg HBD
        go_wp2_with fail
        refine (HMo.out _).mono ?_
        rintro e w3 ⟨rfl, hd⟩
        obtain ⟨n, rfl⟩ := hd.out
        go_wp2_with fail
        refine (HWa.out _ (pw_below_drewN (Below.refl _ _) _)).mono ?_
        rintro e w4 ⟨rfl, rfl⟩
        go_wp2_with fail
        go_meet
        case rel => exact ⟨by first | (rw [hgt]; done) | (simp [hgt]; done) | rfl, ⟨pw_below_drewN (Below.refl _ _) _⟩⟩
  case rest =>
    obtain ⟨rfl, HBc⟩ := hcut
    cases g with
    | true =>
      clear hg
      go_wp2_with fail
      go_ret
      exact FIN.out _ HBc.out HG.out
    | false =>
      clear FIN hg HMo HWa
      have hbf := HG.out
      have HKM := Aside0.mk (show md m ∧ m ≠ 0 from by
        unfold askBad at hbf
        simp only [Bool.or_eq_false_iff, Bool.not_eq_false', beq_eq_false_iff_ne] at hbf
        exact ⟨by have := hbf.1.1; unfold knownM at this; simpa using this, hbf.1.2⟩)
      have HTM := Aside0.mk (HV.out.told_md who)
      have HSU := Aside0.mk (supR_is HTM.out HKM.out.1)
      have HFD := Aside0.mk (show fitsDA hs who (supM (toldIn hs who) m) = fitsAll hs who (supM (toldIn hs who) m) from fitsDA_is (sup_md HTM.out HKM.out.1) (fun x hx => (HV.out.mh x hx).1))
      have HCV := Aside0.mk (show (qs.countP fun x => toldIn hs x.f0 != 0) = convs hs qs from count_front (HV.out.conv.imp (fun h h2 => by simpa using h (by simpa using h2))))
      have HCL := Aside0.mk (show convs hs qs ≤ qs.length from by unfold convs; exact (List.takeWhile_sublist _).length_le)
      -- the answer, by what is known
      have HAN := Aside0.mk (show askIn hs qs who m = if (supM (toldIn hs who) m == toldIn hs who || aheadOf hs qs who == 0 && fitsAll hs who (supM (toldIn hs who) m)) then (1, grantsIn hs who (supM (toldIn hs who) m), qs) else (2, hs, insAt qs (aheadOf hs qs who) ⟨who, supM (toldIn hs who) m⟩) from by
        unfold askIn askGo
        rw [if_neg (by rw [hbf]; decide)])
      have HAH := Aside0.mk (show aheadOf hs qs who = if toldIn hs who = 0 then qs.length else convs hs qs from rfl)
      have HUN := Aside0.mk (show toldIn hs who = 0 → (supM (toldIn hs who) m == toldIn hs who) = false from fun h => by
        have := sup_nz' HTM.out HKM.out.1 HKM.out.2
        rw [h] at this ⊢
        simpa using this)
      have HSA := Aside0.mk (show toldIn hs who ≠ 0 → supM (toldIn hs who) m = toldIn hs who → grantsIn hs who (supM (toldIn hs who) m) = hs from fun h1 h2 => by rw [h2]; exact grants_same HV.out.asc h1)
      clear hbf
      rw [HCV.out] at HCo
      generalize aheadOf hs qs who = ah at HAN HAH
      generalize convs hs qs = cv at HCo HCL HAH
      generalize hT : toldIn hs who = T at HHo HSU HAN HAH HUN HSA HFi HFD
      generalize hU : supM T m = U at HSU HAN HUN HSA HFD
      clear hT hU HTM
      have HFX := HFD
      clear HFD
      go_wp2_with fail
      refine (HHo.out _ HBc.out).mono ?_
      rintro e w3 ⟨rfl, rfl⟩
      clear HHo
      go_wp2_with fail
      refine (ltkref1_Sup.calls 20 (some ⟨w3.heap.size, 0, none⟩) 2 [T, m] U _ (slice_two _ _) (Nat.le_refl _) HSU.out).mono ?_
      rintro e w4 ⟨rfl, hb4⟩
      have HB4 := Aside0.mk (below_then (below_alloc HBc.out _) (below_alloc HBc.out _).size hb4)
      clear hb4 HBc HSU
      by_cases h0 : T = 0
      · have t0 : (T != 0) = false := by simp [h0]
        have un := HUN.out h0
        have ea : ah = qs.length := by rw [HAH.out, if_pos h0]
        subst ea
        obtain ⟨g2, hg2⟩ : ∃ g2, (qs.length == 0 && fitsAll hs who U) = g2 := ⟨_, rfl⟩
        have HG2 := Aside0.mk hg2
        obtain ⟨x1, x2⟩ := HX.out _ HB4.out
        have HE0 := Aside0.mk (show askIn hs qs who m = if g2 then (1, grantsIn hs who U, qs) else (2, hs, insAt qs qs.length ⟨who, U⟩) by rw [HAN.out, un, Bool.false_or, hg2])
        clear HAN HAH HUN HSA hg2 h0
        go_upto_region 10 with fail
        go_cut [53] (fun v wx => v = .bool g2 ∧ Aside0 (Below w.heap.size w wx))
        case first =>
          by_cases ha : qs.length = 0
          · have a1 : (((qs.length : Nat) : Int) == 0) = true := by simp [ha]
            have a2 : (qs.length == 0) = true := by simp [ha]
            have a3 : fitsAll hs who U = g2 := by rw [← HG2.out, a2, Bool.true_and]
            have HF := Aside0.mk (HFi.out _ HB4.out U)
            rw [HFX.out, a3] at HF
            clear ha
            go_wp2_with fail
            refine HF.out.mono ?_
            rintro e w6 ⟨rfl, hb6⟩
            have HB6 := Aside0.mk (below_then HB4.out HB4.out.size hb6)
            clear hb6
            go_wp2_with fail
            go_meet
            case rel => exact ⟨rfl, HB6⟩
          · have a1 : (((qs.length : Nat) : Int) == 0) = false := by simpa using ha
            have a2 : (qs.length == 0) = false := by simpa using ha
            have a3 : false = g2 := by rw [← HG2.out, a2, Bool.false_and]
            subst a3
            clear ha
            go_wp2_with fail
            go_meet
            case rel => exact ⟨rfl, HB4⟩
        case rest =>
          clear x1 x2 HG2
          obtain ⟨rfl, HB7⟩ := hcut
          cases g2 with
          | true =>
            have HE := Aside0.mk (show askIn hs qs who m = (1, grantsIn hs who U, qs) from HE0.out)
            go_wp2_with fail
            refine (HPu.out _ HB7.out U).mono ?_
            rintro e w8 ⟨rfl, hI8, hG8⟩
            have HI8 := Aside0.mk hI8
            have HG8 := Aside0.mk hG8
            clear hI8 hG8
            go_wp2_with fail
            go_ret
            unfold AskRP
            rw [HE.out]
            exact ⟨rfl, HI8.out.mono' (fun k h => h.elim .inl (fun h => .inr (Nat.le_trans HB7.out.size h))), (Grew.of_below HB7.out).trans HG8.out (fun i h => .inl h)⟩
          | false =>
            have HE := Aside0.mk (show askIn hs qs who m = (2, hs, insAt qs qs.length ⟨who, U⟩) from HE0.out)
            have HKL := Aside0.mk (show qs.length ≤ qs.length from Nat.le_refl _)
            obtain ⟨ah, hah⟩ : ∃ a, a = qs.length := ⟨_, rfl⟩
            rw [← hah] at HE
            replace HKL := Aside0.mk (show ah ≤ qs.length by omega)
            have HAX := Aside0.mk hah
            have HF := Aside0.mk (HW.out.upto ah HKL.out)
            have HBK := Aside0.mk (HW.out.from_ ah HKL.out)
            have HO1 := Aside0.mk (show ∀ u ∈ (flat qs).take (ah * 2), u.oneCell' = true from fun u hu => flat_one qs u (List.mem_of_mem_take hu))
            have HO2 := Aside0.mk (show ∀ u ∈ (flat qs).drop (ah * 2), u.oneCell' = true from fun u hu => flat_one qs u (List.mem_of_mem_drop hu))
            have HFL := Aside0.mk (show [] ++ (flat qs).take (ah * 2) ++ [Value.int .i64 who, Value.int .i64 U] ++ (flat qs).drop (ah * 2) = flat (insAt qs ah ⟨who, U⟩) by unfold insAt; rw [flat_take', flat_drop']; simp [flat, encE])
            have HNL := Aside0.mk (show 0 + ah + 1 + (qs.length - ah) = (insAt qs ah ⟨who, U⟩).length by have := HKL.out; unfold insAt; simp; omega)
            have HBd := Aside0.mk (below_then HB7.out HB7.out.size (below_drew (Below.refl _ _)))
            have p3 : (ah : Int) ≤ qs.length := by have := HKL.out; omega
            have p4 : (ah : Int) ≤ qc := by have := HKL.out; have := HQL.out; omega
            have p5 : (0 : Int) ≤ ah := by omega
            clear HE0
            rw [← hah]
            clear hah
            go_wp2_with fail
            refine Up.Till.region [23] (fun W => W.cell? ⟨b, 1, none⟩ = some (.slice qA qs.length qc) ∧ W.frozen? ⟨b, 1, none⟩ = false) (by kernel_rfl) ?_ (fun hH => ?_)
            · exact HX.out _ HBd.out
            refine Up.Till.takeY 0 (oi := { dst := some 58, op := Op.move (Operand.tmp 0), type := 26, pos := "ref.go:88", after := #[], guard := none }) (v := ?va1) rfl (by rfl) (by kernel_rfl) (by kernel_rfl) (by kernel_rfl) (fun _ _ _ h => h) (Or.inl ⟨by rfl, ?ya1⟩) (fun _ => by assumption) ?ra1
            case ya1 => (intro w hSw; clear hSw; go_simp; (try with_reducible rfl))
            (try simp only [Act.put, List.setIfInBounds_toArray, List.set_cons_zero, List.set_cons_succ])
            refine Up.Till.takeY 2 (oi := { dst := some 60, op := Op.move (Operand.tmp 0), type := 26, pos := "ref.go:88", after := #[], guard := none }) (v := ?va2) rfl (by rfl) (by kernel_rfl) (by kernel_rfl) (by kernel_rfl) (fun _ _ _ h => h) (Or.inl ⟨by rfl, ?ya2⟩) (fun _ => by assumption) ?ra2
            case ya2 => (intro w hSw; clear hSw; go_simp; (try with_reducible rfl))
            (try simp only [Act.put, List.setIfInBounds_toArray, List.set_cons_zero, List.set_cons_succ])
            refine Up.Till.takeY 3 (oi := { dst := some 61, op := Op.nilCheck (Operand.tmp 60), type := 0, pos := "ref.go:88", after := #[{ on := 2, ground := Ground.data }], guard := none }) (v := ?va3) rfl (by rfl) (by kernel_rfl) (by kernel_rfl) (by kernel_rfl) (fun _ _ _ h => h) (Or.inl ⟨by rfl, ?ya3⟩) (fun _ => by assumption) ?ra3
            case ya3 => (intro w hSw; clear hSw; go_simp; (try with_reducible rfl))
            (try simp only [Act.put, List.setIfInBounds_toArray, List.set_cons_zero, List.set_cons_succ])
            refine Up.Till.takeY 4 (oi := { dst := some 62, op := Op.fieldAddr 29 (Operand.tmp 61) 1, type := 0, pos := "ref.go:88", after := #[{ on := 3, ground := Ground.data }], guard := none }) (v := ?va4) rfl (by rfl) (by kernel_rfl) (by kernel_rfl) (by kernel_rfl) (fun _ _ _ h => h) (Or.inl ⟨by rfl, ?ya4⟩) (fun _ => by assumption) ?ra4
            case ya4 => (intro w hSw; clear hSw; go_simp; (try with_reducible rfl))
            (try simp only [Act.put, List.setIfInBounds_toArray, List.set_cons_zero, List.set_cons_succ])
            refine Up.Till.take 5 5 (oi := { dst := some 63, op := Op.load 27 (Operand.tmp 62), type := 27, pos := "ref.go:88", after := #[{ on := 4, ground := Ground.data }], guard := none }) (v := ?va5) rfl (by rfl) (by kernel_rfl) (by kernel_rfl) (by kernel_rfl) (fun _ _ _ h => h) (by kernel_rfl) (by kernel_rfl) (by kernel_rfl) (Or.inl ⟨by rfl, ?ya5⟩) (by assumption) ?ra5
            case ya5 => (intro w hSw; (try dsimp only at hSw); go_simp; (try with_reducible rfl))
            (try simp only [Act.put, List.setIfInBounds_toArray, List.set_cons_zero, List.set_cons_succ])
            refine Up.Till.takeY 6 (oi := { dst := some 64, op := Op.move (Operand.tmp 9), type := 3, pos := "ref.go:88", after := #[], guard := none }) (v := ?va6) rfl (by rfl) (by kernel_rfl) (by kernel_rfl) (by kernel_rfl) (fun _ _ _ h => h) (Or.inl ⟨by rfl, ?ya6⟩) (fun _ => by assumption) ?ra6
            case ya6 => (intro w hSw; clear hSw; go_simp; (try with_reducible rfl))
            (try simp only [Act.put, List.setIfInBounds_toArray, List.set_cons_zero, List.set_cons_succ])
            refine Up.Till.takeY 7 (oi := { dst := some 65, op := Op.slice 27 (Operand.tmp 63) none (some (Operand.tmp 64)) none, type := 27, pos := "ref.go:88", after := #[{ on := 5, ground := Ground.data }, { on := 6, ground := Ground.data }], guard := none }) (v := ?va7) rfl (by rfl) (by kernel_rfl) (by kernel_rfl) (by kernel_rfl) (fun _ _ _ h => h) (Or.inl ⟨by rfl, ?ya7⟩) (fun _ => by assumption) ?ra7
            case ya7 => (intro w hSw; clear hSw; go_simp; (try with_reducible rfl))
            (try simp only [Act.put, List.setIfInBounds_toArray, List.set_cons_zero, List.set_cons_succ])
            refine Up.Till.takeY 9 (oi := { dst := some 67, op := Op.move (Operand.tmp 1), type := 3, pos := "ref.go:88", after := #[], guard := none }) (v := ?va8) rfl (by rfl) (by kernel_rfl) (by kernel_rfl) (by kernel_rfl) (fun _ _ _ h => h) (Or.inl ⟨by rfl, ?ya8⟩) (fun _ => by assumption) ?ra8
            case ya8 => (intro w hSw; clear hSw; go_simp; (try with_reducible rfl))
            (try simp only [Act.put, List.setIfInBounds_toArray, List.set_cons_zero, List.set_cons_succ])
            refine Up.Till.takeY 10 (oi := { dst := some 68, op := Op.move (Operand.tmp 8), type := 3, pos := "ref.go:88", after := #[], guard := none }) (v := ?va9) rfl (by rfl) (by kernel_rfl) (by kernel_rfl) (by kernel_rfl) (fun _ _ _ h => h) (Or.inl ⟨by rfl, ?ya9⟩) (fun _ => by assumption) ?ra9
            case ya9 => (intro w hSw; clear hSw; go_simp; (try with_reducible rfl))
            (try simp only [Act.put, List.setIfInBounds_toArray, List.set_cons_zero, List.set_cons_succ])
            refine Up.Till.takeY 11 (oi := { dst := some 69, op := Op.build 50 #[(0, Operand.tmp 67), (1, Operand.tmp 68)], type := 50, pos := "ref.go:88", after := #[{ on := 9, ground := Ground.data }, { on := 10, ground := Ground.data }], guard := none }) (v := ?va10) rfl (by rfl) (by kernel_rfl) (by kernel_rfl) (by kernel_rfl) (fun _ _ _ h => h) (Or.inl ⟨by rfl, ?ya10⟩) (fun _ => by assumption) ?ra10
            case ya10 => (intro w hSw; clear hSw; go_simp; (try with_reducible rfl))
            (try simp only [Act.put, List.setIfInBounds_toArray, List.set_cons_zero, List.set_cons_succ])
            refine Up.Till.takeY 14 (oi := { dst := some 72, op := Op.move (Operand.tmp 0), type := 26, pos := "ref.go:88", after := #[], guard := none }) (v := ?va11) rfl (by rfl) (by kernel_rfl) (by kernel_rfl) (by kernel_rfl) (fun _ _ _ h => h) (Or.inl ⟨by rfl, ?ya11⟩) (fun _ => by assumption) ?ra11
            case ya11 => (intro w hSw; clear hSw; go_simp; (try with_reducible rfl))
            (try simp only [Act.put, List.setIfInBounds_toArray, List.set_cons_zero, List.set_cons_succ])
            refine Up.Till.takeY 15 (oi := { dst := some 73, op := Op.nilCheck (Operand.tmp 72), type := 0, pos := "ref.go:88", after := #[{ on := 14, ground := Ground.data }], guard := none }) (v := ?va12) rfl (by rfl) (by kernel_rfl) (by kernel_rfl) (by kernel_rfl) (fun _ _ _ h => h) (Or.inl ⟨by rfl, ?ya12⟩) (fun _ => by assumption) ?ra12
            case ya12 => (intro w hSw; clear hSw; go_simp; (try with_reducible rfl))
            (try simp only [Act.put, List.setIfInBounds_toArray, List.set_cons_zero, List.set_cons_succ])
            refine Up.Till.takeY 16 (oi := { dst := some 74, op := Op.fieldAddr 29 (Operand.tmp 73) 1, type := 0, pos := "ref.go:88", after := #[{ on := 15, ground := Ground.data }], guard := none }) (v := ?va13) rfl (by rfl) (by kernel_rfl) (by kernel_rfl) (by kernel_rfl) (fun _ _ _ h => h) (Or.inl ⟨by rfl, ?ya13⟩) (fun _ => by assumption) ?ra13
            case ya13 => (intro w hSw; clear hSw; go_simp; (try with_reducible rfl))
            (try simp only [Act.put, List.setIfInBounds_toArray, List.set_cons_zero, List.set_cons_succ])
            refine Up.Till.take 17 17 (oi := { dst := some 75, op := Op.load 27 (Operand.tmp 74), type := 27, pos := "ref.go:88", after := #[{ on := 16, ground := Ground.data }], guard := none }) (v := ?va14) rfl (by rfl) (by kernel_rfl) (by kernel_rfl) (by kernel_rfl) (fun _ _ _ h => h) (by kernel_rfl) (by kernel_rfl) (by kernel_rfl) (Or.inl ⟨by rfl, ?ya14⟩) (by assumption) ?ra14
            case ya14 => (intro w hSw; (try dsimp only at hSw); go_simp; (try with_reducible rfl))
            (try simp only [Act.put, List.setIfInBounds_toArray, List.set_cons_zero, List.set_cons_succ])
            refine Up.Till.takeY 18 (oi := { dst := some 76, op := Op.move (Operand.tmp 9), type := 3, pos := "ref.go:88", after := #[], guard := none }) (v := ?va15) rfl (by rfl) (by kernel_rfl) (by kernel_rfl) (by kernel_rfl) (fun _ _ _ h => h) (Or.inl ⟨by rfl, ?ya15⟩) (fun _ => by assumption) ?ra15
            case ya15 => (intro w hSw; clear hSw; go_simp; (try with_reducible rfl))
            (try simp only [Act.put, List.setIfInBounds_toArray, List.set_cons_zero, List.set_cons_succ])
            refine Up.Till.takeY 19 (oi := { dst := some 77, op := Op.slice 27 (Operand.tmp 75) (some (Operand.tmp 76)) none none, type := 27, pos := "ref.go:88", after := #[{ on := 17, ground := Ground.data }, { on := 18, ground := Ground.data }], guard := none }) (v := ?va16) rfl (by rfl) (by kernel_rfl) (by kernel_rfl) (by kernel_rfl) (fun _ _ _ h => h) (Or.inl ⟨by rfl, ?ya16⟩) (fun _ => by assumption) ?ra16
            case ya16 => (intro w hSw; clear hSw; go_simp; (try with_reducible rfl))
            (try simp only [Act.put, List.setIfInBounds_toArray, List.set_cons_zero, List.set_cons_succ])
            refine Up.Till.ready (rs := [1, 12]) (by kernel_rfl) (by simp) ?_
            refine Up.TillAll.cons (o := { dst := some 59, op := Op.buildSlice 27 0 #[], type := 27, pos := "ref.go:88", after := #[], guard := none }) rfl (fun K hK => ?_) ?_
            · go_simp
              have B_1 := Aside0.mk (below_alloc HBd.out (.cells #[] 50))
              have E_1 := Aside0.mk (lit_be HBd.out 50 2 0 #[] rfl (by decide))
              have LE := Aside0.mk (HBd.out.size)
              refine hK.out _ _ (fun _ => ?_) (fun hHa16 => ?_)
              · (try dsimp only)
                exact HX.out _ B_1.out
              replace hHa16 := hHa16 (by rfl)
              clear hK K hH
              (try simp only [Act.put, List.setIfInBounds_toArray, List.set_cons_zero, List.set_cons_succ])
              refine Up.Till.ready (rs := [8, 12]) (by kernel_rfl) (by simp) ?_
              refine Up.TillAll.cons (o := { dst := some 66, op := Op.call { callee := Callee.builtin Builtin.append, args := #[Operand.tmp 59, Operand.tmp 65], argTypes := #[27, 27] }, type := 27, pos := "ref.go:88", after := #[{ on := 1, ground := Ground.data }, { on := 7, ground := Ground.data }], guard := none }) rfl (fun K hK => ?_) ?_
              · refine step_append_rows (by rfl) (.tmp 59) (.tmp 65) 27 (by rfl) 50 (.agg #[.int .i64 0, .int .i64 0]) 2 16 Try.underlying27 infoE0 rfl _ 0 0 [] (by simp [Act.eval, Act.put]) E_1.out qA ah qc _ (by simp [Act.eval, Act.put]) (HF.out.below B_1.out) HO1.out (by have := HB.out; have := HKL.out; unfold maxLen; omega) (by have := HB.out; have := HKL.out; omega) ?_
                intro A_1_8 c_1_8 w_1_8 hR6 hG6 hk6
                have B_1_8 := Aside0.mk (hG6.to_below B_1.out B_1.out.size (blk_le (by have := LE.out; first | omega | (simp; done) | (simp; omega) | (simp at this ⊢; omega))))
                have R_1_8 := Aside0.mk hR6
                have K_1_8 := Aside0.mk (show ∀ k, blk A_1_8 k → w.heap.size ≤ k from fun k h => (hk6 k h).elim (blk_le (by have := LE.out; first | omega | (simp; done) | (simp; omega) | (simp at this ⊢; omega)) k) (fun h2 => Nat.le_trans B_1.out.size h2))
                clear hR6 hG6 hk6
                refine hK.out _ _ (fun _ => ?_) (fun hHa17 => ?_)
                · (try dsimp only)
                  exact HX.out _ B_1_8.out
                replace hHa17 := hHa17 (by rfl)
                clear hK K hHa16
                (try simp only [Act.put, List.setIfInBounds_toArray, List.set_cons_zero, List.set_cons_succ])
                refine Up.Till.ready (rs := [12]) (by kernel_rfl) (by simp) ?_
                refine Up.TillAll.cons (o := { dst := some 70, op := Op.buildSlice 27 1 #[(0, Operand.tmp 69)], type := 27, pos := "ref.go:88", after := #[{ on := 11, ground := Ground.data }], guard := none }) rfl (fun K hK => ?_) Up.TillAll.nil
                go_simp
                have B_1_8_12 := Aside0.mk (below_alloc B_1_8.out (.cells #[.int .i64 who, .int .i64 U] 50))
                have N_1_8_12 := Aside0.mk (lit_be B_1_8.out 50 2 1 #[.int .i64 who, .int .i64 U] rfl (by decide))
                have R_1_8_12 := Aside0.mk (R_1_8.out.alloc (.cells #[.int .i64 who, .int .i64 U] 50))
                have K_1_8_12 := K_1_8
                refine hK.out _ _ (fun _ => ?_) (fun hHa18 => ?_)
                · (try dsimp only)
                  exact HX.out _ B_1_8_12.out
                replace hHa18 := hHa18 (by rfl)
                clear hK K hHa17
                (try simp only [Act.put, List.setIfInBounds_toArray, List.set_cons_zero, List.set_cons_succ])
                refine Up.Till.ready (rs := [13]) (by kernel_rfl) (by simp) ?_
                refine Up.TillAll.cons (o := { dst := some 71, op := Op.call { callee := Callee.builtin Builtin.append, args := #[Operand.tmp 66, Operand.tmp 70], argTypes := #[27, 27] }, type := 27, pos := "ref.go:88", after := #[{ on := 8, ground := Ground.data }, { on := 12, ground := Ground.data }, { on := 8, ground := Ground.chain }], guard := none }) rfl (fun K hK => ?_) Up.TillAll.nil
                refine step_append_rows (by rfl) (.tmp 66) (.tmp 70) 27 (by rfl) 50 (.agg #[.int .i64 0, .int .i64 0]) 2 16 Try.underlying27 infoE0 rfl _ _ _ _ (by simp [Act.eval, Act.put]) R_1_8_12.out _ 1 1 _ (by simp [Act.eval, Act.put]) N_1_8_12.out (by simp [Value.oneCell']) (by have := HB.out; have := HKL.out; unfold maxLen; omega) (by have := HB.out; have := HKL.out; omega) ?_
                intro A_1_8_12_13 c_1_8_12_13 w_1_8_12_13 hR6 hG6 hk6
                have B_1_8_12_13 := Aside0.mk (hG6.to_below B_1_8_12.out B_1_8_12.out.size K_1_8_12.out)
                have R_1_8_12_13 := Aside0.mk hR6
                have K_1_8_12_13 := Aside0.mk (show ∀ k, blk A_1_8_12_13 k → w.heap.size ≤ k from fun k h => (hk6 k h).elim (K_1_8_12.out k) (fun h2 => Nat.le_trans B_1_8_12.out.size h2))
                clear hR6 hG6 hk6
                refine hK.out _ _ (fun _ => ?_) (fun hHa19 => ?_)
                · (try dsimp only)
                  exact HX.out _ B_1_8_12_13.out
                replace hHa19 := hHa19 (by rfl)
                clear hK K hHa18
                (try simp only [Act.put, List.setIfInBounds_toArray, List.set_cons_zero, List.set_cons_succ])
                refine Up.Till.ready (rs := [20]) (by kernel_rfl) (by simp) ?_
                refine Up.TillAll.cons (o := { dst := some 78, op := Op.call { callee := Callee.builtin Builtin.append, args := #[Operand.tmp 71, Operand.tmp 77], argTypes := #[27, 27] }, type := 27, pos := "ref.go:88", after := #[{ on := 13, ground := Ground.data }, { on := 19, ground := Ground.data }, { on := 13, ground := Ground.chain }], guard := none }) rfl (fun K hK => ?_) Up.TillAll.nil
                refine step_append_rows (by rfl) (.tmp 71) (.tmp 77) 27 (by rfl) 50 (.agg #[.int .i64 0, .int .i64 0]) 2 16 Try.underlying27 infoE0 rfl _ _ _ _ (by simp [Act.eval, Act.put]) R_1_8_12_13.out (if qc = ah then qA else qA.map (·.add (ah * 2))) (qs.length - ah) (qc - ah) _ (by simp [Act.eval, Act.put]) (HBK.out.below B_1_8_12_13.out) HO2.out (by have := HB.out; have := HKL.out; unfold maxLen; omega) (by have := HB.out; have := HKL.out; omega) ?_
                intro A_1_8_12_13_20 c_1_8_12_13_20 w_1_8_12_13_20 hR6 hG6 hk6
                have B_1_8_12_13_20 := Aside0.mk (hG6.to_below B_1_8_12_13.out B_1_8_12_13.out.size K_1_8_12_13.out)
                have R_1_8_12_13_20 := Aside0.mk hR6
                have K_1_8_12_13_20 := Aside0.mk (show ∀ k, blk A_1_8_12_13_20 k → w.heap.size ≤ k from fun k h => (hk6 k h).elim (K_1_8_12_13.out k) (fun h2 => Nat.le_trans B_1_8_12_13.out.size h2))
                clear hR6 hG6 hk6
                refine hK.out _ _ (fun _ => ?_) (fun hHa20 => ?_)
                · (try dsimp only)
                  exact HX.out _ B_1_8_12_13_20.out
                replace hHa20 := hHa20 (by rfl)
                clear hK K hHa19
                (try simp only [Act.put, List.setIfInBounds_toArray, List.set_cons_zero, List.set_cons_succ])
                refine Up.Till.takeY 21 (oi := { dst := some 79, op := Op.nilCheck (Operand.tmp 58), type := 0, pos := "ref.go:88", after := #[{ on := 0, ground := Ground.data }, { on := 0, ground := Ground.phase }, { on := 1, ground := Ground.phase }, { on := 2, ground := Ground.phase }, { on := 3, ground := Ground.phase }, { on := 4, ground := Ground.phase }, { on := 5, ground := Ground.phase }, { on := 6, ground := Ground.phase }, { on := 7, ground := Ground.phase }, { on := 8, ground := Ground.phase }, { on := 9, ground := Ground.phase }, { on := 10, ground := Ground.phase }, { on := 11, ground := Ground.phase }, { on := 12, ground := Ground.phase }, { on := 13, ground := Ground.phase }, { on := 14, ground := Ground.phase }, { on := 15, ground := Ground.phase }, { on := 16, ground := Ground.phase }, { on := 17, ground := Ground.phase }, { on := 18, ground := Ground.phase }, { on := 19, ground := Ground.phase }, { on := 20, ground := Ground.phase }], guard := none }) (v := ?va22) rfl (by rfl) (by kernel_rfl) (by kernel_rfl) (by kernel_rfl) (fun _ _ _ h => h) (Or.inl ⟨by rfl, ?ya22⟩) (fun _ => by assumption) ?ra22
                case ya22 => (intro w hSw; clear hSw; go_simp; (try with_reducible rfl))
                (try simp only [Act.put, List.setIfInBounds_toArray, List.set_cons_zero, List.set_cons_succ])
                refine Up.Till.takeY 22 (oi := { dst := some 80, op := Op.fieldAddr 29 (Operand.tmp 79) 1, type := 0, pos := "ref.go:88", after := #[{ on := 21, ground := Ground.data }, { on := 0, ground := Ground.phase }, { on := 1, ground := Ground.phase }, { on := 2, ground := Ground.phase }, { on := 3, ground := Ground.phase }, { on := 4, ground := Ground.phase }, { on := 5, ground := Ground.phase }, { on := 6, ground := Ground.phase }, { on := 7, ground := Ground.phase }, { on := 8, ground := Ground.phase }, { on := 9, ground := Ground.phase }, { on := 10, ground := Ground.phase }, { on := 11, ground := Ground.phase }, { on := 12, ground := Ground.phase }, { on := 13, ground := Ground.phase }, { on := 14, ground := Ground.phase }, { on := 15, ground := Ground.phase }, { on := 16, ground := Ground.phase }, { on := 17, ground := Ground.phase }, { on := 18, ground := Ground.phase }, { on := 19, ground := Ground.phase }, { on := 20, ground := Ground.phase }], guard := none }) (v := ?va23) rfl (by rfl) (by kernel_rfl) (by kernel_rfl) (by kernel_rfl) (fun _ _ _ h => h) (Or.inl ⟨by rfl, ?ya23⟩) (fun _ => by assumption) ?ra23
                case ya23 => (intro w hSw; clear hSw; go_simp; (try with_reducible rfl))
                (try simp only [Act.put, List.setIfInBounds_toArray, List.set_cons_zero, List.set_cons_succ])
                refine Up.Till.ready (rs := [23]) (by kernel_rfl) (by simp) ?_
                refine Up.TillAll.cons (o := { dst := none, op := Op.store 27 (Operand.tmp 80) (Operand.tmp 78), type := 0, pos := "ref.go:88", after := #[{ on := 22, ground := Ground.data }, { on := 20, ground := Ground.data }, { on := 20, ground := Ground.chain }, { on := 0, ground := Ground.phase }, { on := 1, ground := Ground.phase }, { on := 2, ground := Ground.phase }, { on := 3, ground := Ground.phase }, { on := 4, ground := Ground.phase }, { on := 5, ground := Ground.phase }, { on := 6, ground := Ground.phase }, { on := 7, ground := Ground.phase }, { on := 8, ground := Ground.phase }, { on := 9, ground := Ground.phase }, { on := 10, ground := Ground.phase }, { on := 11, ground := Ground.phase }, { on := 12, ground := Ground.phase }, { on := 13, ground := Ground.phase }, { on := 14, ground := Ground.phase }, { on := 15, ground := Ground.phase }, { on := 16, ground := Ground.phase }, { on := 17, ground := Ground.phase }, { on := 18, ground := Ground.phase }, { on := 19, ground := Ground.phase }, { on := 20, ground := Ground.phase }], guard := none }) rfl (fun K hK => ?_) Up.TillAll.nil
                obtain ⟨z0, z1⟩ := HX.out _ B_1_8_12_13_20.out
                go_simp
                refine hK.out _ _ (fun h => absurd h (by decide)) (fun hzz => ?_)
                clear hK K hzz hHa20
                (try simp only [Act.put, List.setIfInBounds_toArray, List.set_cons_zero, List.set_cons_succ])
                refine Up.Till.done (by kernel_rfl) ?_ _
                go_wp2
                all_goals (go_ret; have hE := HI.out.setQ B_1_8_12_13_20.out R_1_8_12_13_20.out K_1_8_12_13_20.out HFL.out HNL.out; simp only [Nat.zero_add, Nat.sub_self, Nat.add_zero] at hE; unfold AskRP; rw [HE.out]; exact ⟨rfl, hE.1, hE.2⟩)
              refine Up.TillAll.cons (o := { dst := some 70, op := Op.buildSlice 27 1 #[(0, Operand.tmp 69)], type := 27, pos := "ref.go:88", after := #[{ on := 11, ground := Ground.data }], guard := none }) rfl (fun K hK => ?_) ?_
              · go_simp
                have B_1_12 := Aside0.mk (below_alloc B_1.out (.cells #[.int .i64 who, .int .i64 U] 50))
                have N_1_12 := Aside0.mk (lit_be B_1.out 50 2 1 #[.int .i64 who, .int .i64 U] rfl (by decide))
                have E_1_12 := Aside0.mk (E_1.out.alloc (.cells #[.int .i64 who, .int .i64 U] 50))
                refine hK.out _ _ (fun _ => ?_) (fun hHa24 => ?_)
                · (try dsimp only)
                  exact HX.out _ B_1_12.out
                replace hHa24 := hHa24 (by rfl)
                clear hK K hHa16
                (try simp only [Act.put, List.setIfInBounds_toArray, List.set_cons_zero, List.set_cons_succ])
                refine Up.Till.ready (rs := [8]) (by kernel_rfl) (by simp) ?_
                refine Up.TillAll.cons (o := { dst := some 66, op := Op.call { callee := Callee.builtin Builtin.append, args := #[Operand.tmp 59, Operand.tmp 65], argTypes := #[27, 27] }, type := 27, pos := "ref.go:88", after := #[{ on := 1, ground := Ground.data }, { on := 7, ground := Ground.data }], guard := none }) rfl (fun K hK => ?_) Up.TillAll.nil
                refine step_append_rows (by rfl) (.tmp 59) (.tmp 65) 27 (by rfl) 50 (.agg #[.int .i64 0, .int .i64 0]) 2 16 Try.underlying27 infoE0 rfl _ 0 0 [] (by simp [Act.eval, Act.put]) E_1_12.out qA ah qc _ (by simp [Act.eval, Act.put]) (HF.out.below B_1_12.out) HO1.out (by have := HB.out; have := HKL.out; unfold maxLen; omega) (by have := HB.out; have := HKL.out; omega) ?_
                intro A_1_12_8 c_1_12_8 w_1_12_8 hR6 hG6 hk6
                have B_1_12_8 := Aside0.mk (hG6.to_below B_1_12.out B_1_12.out.size (blk_le (by have := LE.out; first | omega | (simp; done) | (simp; omega) | (simp at this ⊢; omega))))
                have R_1_12_8 := Aside0.mk hR6
                have K_1_12_8 := Aside0.mk (show ∀ k, blk A_1_12_8 k → w.heap.size ≤ k from fun k h => (hk6 k h).elim (blk_le (by have := LE.out; first | omega | (simp; done) | (simp; omega) | (simp at this ⊢; omega)) k) (fun h2 => Nat.le_trans B_1_12.out.size h2))
                have N_1_12_8 := Aside0.mk (N_1_12.out.grew hG6 (blk_ne (by first | omega | (simp; done) | (simp; omega))))
                clear hR6 hG6 hk6
                refine hK.out _ _ (fun _ => ?_) (fun hHa25 => ?_)
                · (try dsimp only)
                  exact HX.out _ B_1_12_8.out
                replace hHa25 := hHa25 (by rfl)
                clear hK K hHa24
                (try simp only [Act.put, List.setIfInBounds_toArray, List.set_cons_zero, List.set_cons_succ])
                refine Up.Till.ready (rs := [13]) (by kernel_rfl) (by simp) ?_
                refine Up.TillAll.cons (o := { dst := some 71, op := Op.call { callee := Callee.builtin Builtin.append, args := #[Operand.tmp 66, Operand.tmp 70], argTypes := #[27, 27] }, type := 27, pos := "ref.go:88", after := #[{ on := 8, ground := Ground.data }, { on := 12, ground := Ground.data }, { on := 8, ground := Ground.chain }], guard := none }) rfl (fun K hK => ?_) Up.TillAll.nil
                refine step_append_rows (by rfl) (.tmp 66) (.tmp 70) 27 (by rfl) 50 (.agg #[.int .i64 0, .int .i64 0]) 2 16 Try.underlying27 infoE0 rfl _ _ _ _ (by simp [Act.eval, Act.put]) R_1_12_8.out _ 1 1 _ (by simp [Act.eval, Act.put]) N_1_12_8.out (by simp [Value.oneCell']) (by have := HB.out; have := HKL.out; unfold maxLen; omega) (by have := HB.out; have := HKL.out; omega) ?_
                intro A_1_12_8_13 c_1_12_8_13 w_1_12_8_13 hR6 hG6 hk6
                have B_1_12_8_13 := Aside0.mk (hG6.to_below B_1_12_8.out B_1_12_8.out.size K_1_12_8.out)
                have R_1_12_8_13 := Aside0.mk hR6
                have K_1_12_8_13 := Aside0.mk (show ∀ k, blk A_1_12_8_13 k → w.heap.size ≤ k from fun k h => (hk6 k h).elim (K_1_12_8.out k) (fun h2 => Nat.le_trans B_1_12_8.out.size h2))
                clear hR6 hG6 hk6
                refine hK.out _ _ (fun _ => ?_) (fun hHa26 => ?_)
                · (try dsimp only)
                  exact HX.out _ B_1_12_8_13.out
                replace hHa26 := hHa26 (by rfl)
                clear hK K hHa25
                (try simp only [Act.put, List.setIfInBounds_toArray, List.set_cons_zero, List.set_cons_succ])
                refine Up.Till.ready (rs := [20]) (by kernel_rfl) (by simp) ?_
                refine Up.TillAll.cons (o := { dst := some 78, op := Op.call { callee := Callee.builtin Builtin.append, args := #[Operand.tmp 71, Operand.tmp 77], argTypes := #[27, 27] }, type := 27, pos := "ref.go:88", after := #[{ on := 13, ground := Ground.data }, { on := 19, ground := Ground.data }, { on := 13, ground := Ground.chain }], guard := none }) rfl (fun K hK => ?_) Up.TillAll.nil
                refine step_append_rows (by rfl) (.tmp 71) (.tmp 77) 27 (by rfl) 50 (.agg #[.int .i64 0, .int .i64 0]) 2 16 Try.underlying27 infoE0 rfl _ _ _ _ (by simp [Act.eval, Act.put]) R_1_12_8_13.out (if qc = ah then qA else qA.map (·.add (ah * 2))) (qs.length - ah) (qc - ah) _ (by simp [Act.eval, Act.put]) (HBK.out.below B_1_12_8_13.out) HO2.out (by have := HB.out; have := HKL.out; unfold maxLen; omega) (by have := HB.out; have := HKL.out; omega) ?_
                intro A_1_12_8_13_20 c_1_12_8_13_20 w_1_12_8_13_20 hR6 hG6 hk6
                have B_1_12_8_13_20 := Aside0.mk (hG6.to_below B_1_12_8_13.out B_1_12_8_13.out.size K_1_12_8_13.out)
                have R_1_12_8_13_20 := Aside0.mk hR6
                have K_1_12_8_13_20 := Aside0.mk (show ∀ k, blk A_1_12_8_13_20 k → w.heap.size ≤ k from fun k h => (hk6 k h).elim (K_1_12_8_13.out k) (fun h2 => Nat.le_trans B_1_12_8_13.out.size h2))
                clear hR6 hG6 hk6
                refine hK.out _ _ (fun _ => ?_) (fun hHa27 => ?_)
                · (try dsimp only)
                  exact HX.out _ B_1_12_8_13_20.out
                replace hHa27 := hHa27 (by rfl)
                clear hK K hHa26
                (try simp only [Act.put, List.setIfInBounds_toArray, List.set_cons_zero, List.set_cons_succ])
                refine Up.Till.takeY 21 (oi := { dst := some 79, op := Op.nilCheck (Operand.tmp 58), type := 0, pos := "ref.go:88", after := #[{ on := 0, ground := Ground.data }, { on := 0, ground := Ground.phase }, { on := 1, ground := Ground.phase }, { on := 2, ground := Ground.phase }, { on := 3, ground := Ground.phase }, { on := 4, ground := Ground.phase }, { on := 5, ground := Ground.phase }, { on := 6, ground := Ground.phase }, { on := 7, ground := Ground.phase }, { on := 8, ground := Ground.phase }, { on := 9, ground := Ground.phase }, { on := 10, ground := Ground.phase }, { on := 11, ground := Ground.phase }, { on := 12, ground := Ground.phase }, { on := 13, ground := Ground.phase }, { on := 14, ground := Ground.phase }, { on := 15, ground := Ground.phase }, { on := 16, ground := Ground.phase }, { on := 17, ground := Ground.phase }, { on := 18, ground := Ground.phase }, { on := 19, ground := Ground.phase }, { on := 20, ground := Ground.phase }], guard := none }) (v := ?va29) rfl (by rfl) (by kernel_rfl) (by kernel_rfl) (by kernel_rfl) (fun _ _ _ h => h) (Or.inl ⟨by rfl, ?ya29⟩) (fun _ => by assumption) ?ra29
                case ya29 => (intro w hSw; clear hSw; go_simp; (try with_reducible rfl))
                (try simp only [Act.put, List.setIfInBounds_toArray, List.set_cons_zero, List.set_cons_succ])
                refine Up.Till.takeY 22 (oi := { dst := some 80, op := Op.fieldAddr 29 (Operand.tmp 79) 1, type := 0, pos := "ref.go:88", after := #[{ on := 21, ground := Ground.data }, { on := 0, ground := Ground.phase }, { on := 1, ground := Ground.phase }, { on := 2, ground := Ground.phase }, { on := 3, ground := Ground.phase }, { on := 4, ground := Ground.phase }, { on := 5, ground := Ground.phase }, { on := 6, ground := Ground.phase }, { on := 7, ground := Ground.phase }, { on := 8, ground := Ground.phase }, { on := 9, ground := Ground.phase }, { on := 10, ground := Ground.phase }, { on := 11, ground := Ground.phase }, { on := 12, ground := Ground.phase }, { on := 13, ground := Ground.phase }, { on := 14, ground := Ground.phase }, { on := 15, ground := Ground.phase }, { on := 16, ground := Ground.phase }, { on := 17, ground := Ground.phase }, { on := 18, ground := Ground.phase }, { on := 19, ground := Ground.phase }, { on := 20, ground := Ground.phase }], guard := none }) (v := ?va30) rfl (by rfl) (by kernel_rfl) (by kernel_rfl) (by kernel_rfl) (fun _ _ _ h => h) (Or.inl ⟨by rfl, ?ya30⟩) (fun _ => by assumption) ?ra30
                case ya30 => (intro w hSw; clear hSw; go_simp; (try with_reducible rfl))
                (try simp only [Act.put, List.setIfInBounds_toArray, List.set_cons_zero, List.set_cons_succ])
                refine Up.Till.ready (rs := [23]) (by kernel_rfl) (by simp) ?_
                refine Up.TillAll.cons (o := { dst := none, op := Op.store 27 (Operand.tmp 80) (Operand.tmp 78), type := 0, pos := "ref.go:88", after := #[{ on := 22, ground := Ground.data }, { on := 20, ground := Ground.data }, { on := 20, ground := Ground.chain }, { on := 0, ground := Ground.phase }, { on := 1, ground := Ground.phase }, { on := 2, ground := Ground.phase }, { on := 3, ground := Ground.phase }, { on := 4, ground := Ground.phase }, { on := 5, ground := Ground.phase }, { on := 6, ground := Ground.phase }, { on := 7, ground := Ground.phase }, { on := 8, ground := Ground.phase }, { on := 9, ground := Ground.phase }, { on := 10, ground := Ground.phase }, { on := 11, ground := Ground.phase }, { on := 12, ground := Ground.phase }, { on := 13, ground := Ground.phase }, { on := 14, ground := Ground.phase }, { on := 15, ground := Ground.phase }, { on := 16, ground := Ground.phase }, { on := 17, ground := Ground.phase }, { on := 18, ground := Ground.phase }, { on := 19, ground := Ground.phase }, { on := 20, ground := Ground.phase }], guard := none }) rfl (fun K hK => ?_) Up.TillAll.nil
                obtain ⟨z0, z1⟩ := HX.out _ B_1_12_8_13_20.out
                go_simp
                refine hK.out _ _ (fun h => absurd h (by decide)) (fun hzz => ?_)
                clear hK K hzz hHa27
                (try simp only [Act.put, List.setIfInBounds_toArray, List.set_cons_zero, List.set_cons_succ])
                refine Up.Till.done (by kernel_rfl) ?_ _
                go_wp2
                all_goals (go_ret; have hE := HI.out.setQ B_1_12_8_13_20.out R_1_12_8_13_20.out K_1_12_8_13_20.out HFL.out HNL.out; simp only [Nat.zero_add, Nat.sub_self, Nat.add_zero] at hE; unfold AskRP; rw [HE.out]; exact ⟨rfl, hE.1, hE.2⟩)
              exact Up.TillAll.nil
            refine Up.TillAll.cons (o := { dst := some 70, op := Op.buildSlice 27 1 #[(0, Operand.tmp 69)], type := 27, pos := "ref.go:88", after := #[{ on := 11, ground := Ground.data }], guard := none }) rfl (fun K hK => ?_) ?_
            · go_simp
              have B_12 := Aside0.mk (below_alloc HBd.out (.cells #[.int .i64 who, .int .i64 U] 50))
              have N_12 := Aside0.mk (lit_be HBd.out 50 2 1 #[.int .i64 who, .int .i64 U] rfl (by decide))
              refine hK.out _ _ (fun _ => ?_) (fun hHa31 => ?_)
              · (try dsimp only)
                exact HX.out _ B_12.out
              replace hHa31 := hHa31 (by rfl)
              clear hK K hH
              (try simp only [Act.put, List.setIfInBounds_toArray, List.set_cons_zero, List.set_cons_succ])
              refine Up.Till.ready (rs := [1]) (by kernel_rfl) (by simp) ?_
              refine Up.TillAll.cons (o := { dst := some 59, op := Op.buildSlice 27 0 #[], type := 27, pos := "ref.go:88", after := #[], guard := none }) rfl (fun K hK => ?_) Up.TillAll.nil
              go_simp
              have B_12_1 := Aside0.mk (below_alloc B_12.out (.cells #[] 50))
              have E_12_1 := Aside0.mk (lit_be B_12.out 50 2 0 #[] rfl (by decide))
              have LE := Aside0.mk (B_12.out.size)
              have N_12_1 := Aside0.mk (N_12.out.alloc (.cells #[] 50))
              refine hK.out _ _ (fun _ => ?_) (fun hHa32 => ?_)
              · (try dsimp only)
                exact HX.out _ B_12_1.out
              replace hHa32 := hHa32 (by rfl)
              clear hK K hHa31
              (try simp only [Act.put, List.setIfInBounds_toArray, List.set_cons_zero, List.set_cons_succ])
              refine Up.Till.ready (rs := [8]) (by kernel_rfl) (by simp) ?_
              refine Up.TillAll.cons (o := { dst := some 66, op := Op.call { callee := Callee.builtin Builtin.append, args := #[Operand.tmp 59, Operand.tmp 65], argTypes := #[27, 27] }, type := 27, pos := "ref.go:88", after := #[{ on := 1, ground := Ground.data }, { on := 7, ground := Ground.data }], guard := none }) rfl (fun K hK => ?_) Up.TillAll.nil
              refine step_append_rows (by rfl) (.tmp 59) (.tmp 65) 27 (by rfl) 50 (.agg #[.int .i64 0, .int .i64 0]) 2 16 Try.underlying27 infoE0 rfl _ 0 0 [] (by simp [Act.eval, Act.put]) E_12_1.out qA ah qc _ (by simp [Act.eval, Act.put]) (HF.out.below B_12_1.out) HO1.out (by have := HB.out; have := HKL.out; unfold maxLen; omega) (by have := HB.out; have := HKL.out; omega) ?_
              intro A_12_1_8 c_12_1_8 w_12_1_8 hR6 hG6 hk6
              have B_12_1_8 := Aside0.mk (hG6.to_below B_12_1.out B_12_1.out.size (blk_le (by have := LE.out; first | omega | (simp; done) | (simp; omega) | (simp at this ⊢; omega))))
              have R_12_1_8 := Aside0.mk hR6
              have K_12_1_8 := Aside0.mk (show ∀ k, blk A_12_1_8 k → w.heap.size ≤ k from fun k h => (hk6 k h).elim (blk_le (by have := LE.out; first | omega | (simp; done) | (simp; omega) | (simp at this ⊢; omega)) k) (fun h2 => Nat.le_trans B_12_1.out.size h2))
              have N_12_1_8 := Aside0.mk (N_12_1.out.grew hG6 (blk_ne (by first | omega | (simp; done) | (simp; omega))))
              clear hR6 hG6 hk6
              refine hK.out _ _ (fun _ => ?_) (fun hHa33 => ?_)
              · (try dsimp only)
                exact HX.out _ B_12_1_8.out
              replace hHa33 := hHa33 (by rfl)
              clear hK K hHa32
              (try simp only [Act.put, List.setIfInBounds_toArray, List.set_cons_zero, List.set_cons_succ])
              refine Up.Till.ready (rs := [13]) (by kernel_rfl) (by simp) ?_
              refine Up.TillAll.cons (o := { dst := some 71, op := Op.call { callee := Callee.builtin Builtin.append, args := #[Operand.tmp 66, Operand.tmp 70], argTypes := #[27, 27] }, type := 27, pos := "ref.go:88", after := #[{ on := 8, ground := Ground.data }, { on := 12, ground := Ground.data }, { on := 8, ground := Ground.chain }], guard := none }) rfl (fun K hK => ?_) Up.TillAll.nil
              refine step_append_rows (by rfl) (.tmp 66) (.tmp 70) 27 (by rfl) 50 (.agg #[.int .i64 0, .int .i64 0]) 2 16 Try.underlying27 infoE0 rfl _ _ _ _ (by simp [Act.eval, Act.put]) R_12_1_8.out _ 1 1 _ (by simp [Act.eval, Act.put]) N_12_1_8.out (by simp [Value.oneCell']) (by have := HB.out; have := HKL.out; unfold maxLen; omega) (by have := HB.out; have := HKL.out; omega) ?_
              intro A_12_1_8_13 c_12_1_8_13 w_12_1_8_13 hR6 hG6 hk6
              have B_12_1_8_13 := Aside0.mk (hG6.to_below B_12_1_8.out B_12_1_8.out.size K_12_1_8.out)
              have R_12_1_8_13 := Aside0.mk hR6
              have K_12_1_8_13 := Aside0.mk (show ∀ k, blk A_12_1_8_13 k → w.heap.size ≤ k from fun k h => (hk6 k h).elim (K_12_1_8.out k) (fun h2 => Nat.le_trans B_12_1_8.out.size h2))
              clear hR6 hG6 hk6
              refine hK.out _ _ (fun _ => ?_) (fun hHa34 => ?_)
              · (try dsimp only)
                exact HX.out _ B_12_1_8_13.out
              replace hHa34 := hHa34 (by rfl)
              clear hK K hHa33
              (try simp only [Act.put, List.setIfInBounds_toArray, List.set_cons_zero, List.set_cons_succ])
              refine Up.Till.ready (rs := [20]) (by kernel_rfl) (by simp) ?_
              refine Up.TillAll.cons (o := { dst := some 78, op := Op.call { callee := Callee.builtin Builtin.append, args := #[Operand.tmp 71, Operand.tmp 77], argTypes := #[27, 27] }, type := 27, pos := "ref.go:88", after := #[{ on := 13, ground := Ground.data }, { on := 19, ground := Ground.data }, { on := 13, ground := Ground.chain }], guard := none }) rfl (fun K hK => ?_) Up.TillAll.nil
              refine step_append_rows (by rfl) (.tmp 71) (.tmp 77) 27 (by rfl) 50 (.agg #[.int .i64 0, .int .i64 0]) 2 16 Try.underlying27 infoE0 rfl _ _ _ _ (by simp [Act.eval, Act.put]) R_12_1_8_13.out (if qc = ah then qA else qA.map (·.add (ah * 2))) (qs.length - ah) (qc - ah) _ (by simp [Act.eval, Act.put]) (HBK.out.below B_12_1_8_13.out) HO2.out (by have := HB.out; have := HKL.out; unfold maxLen; omega) (by have := HB.out; have := HKL.out; omega) ?_
              intro A_12_1_8_13_20 c_12_1_8_13_20 w_12_1_8_13_20 hR6 hG6 hk6
              have B_12_1_8_13_20 := Aside0.mk (hG6.to_below B_12_1_8_13.out B_12_1_8_13.out.size K_12_1_8_13.out)
              have R_12_1_8_13_20 := Aside0.mk hR6
              have K_12_1_8_13_20 := Aside0.mk (show ∀ k, blk A_12_1_8_13_20 k → w.heap.size ≤ k from fun k h => (hk6 k h).elim (K_12_1_8_13.out k) (fun h2 => Nat.le_trans B_12_1_8_13.out.size h2))
              clear hR6 hG6 hk6
              refine hK.out _ _ (fun _ => ?_) (fun hHa35 => ?_)
              · (try dsimp only)
                exact HX.out _ B_12_1_8_13_20.out
              replace hHa35 := hHa35 (by rfl)
              clear hK K hHa34
              (try simp only [Act.put, List.setIfInBounds_toArray, List.set_cons_zero, List.set_cons_succ])
              refine Up.Till.takeY 21 (oi := { dst := some 79, op := Op.nilCheck (Operand.tmp 58), type := 0, pos := "ref.go:88", after := #[{ on := 0, ground := Ground.data }, { on := 0, ground := Ground.phase }, { on := 1, ground := Ground.phase }, { on := 2, ground := Ground.phase }, { on := 3, ground := Ground.phase }, { on := 4, ground := Ground.phase }, { on := 5, ground := Ground.phase }, { on := 6, ground := Ground.phase }, { on := 7, ground := Ground.phase }, { on := 8, ground := Ground.phase }, { on := 9, ground := Ground.phase }, { on := 10, ground := Ground.phase }, { on := 11, ground := Ground.phase }, { on := 12, ground := Ground.phase }, { on := 13, ground := Ground.phase }, { on := 14, ground := Ground.phase }, { on := 15, ground := Ground.phase }, { on := 16, ground := Ground.phase }, { on := 17, ground := Ground.phase }, { on := 18, ground := Ground.phase }, { on := 19, ground := Ground.phase }, { on := 20, ground := Ground.phase }], guard := none }) (v := ?va37) rfl (by rfl) (by kernel_rfl) (by kernel_rfl) (by kernel_rfl) (fun _ _ _ h => h) (Or.inl ⟨by rfl, ?ya37⟩) (fun _ => by assumption) ?ra37
              case ya37 => (intro w hSw; clear hSw; go_simp; (try with_reducible rfl))
              (try simp only [Act.put, List.setIfInBounds_toArray, List.set_cons_zero, List.set_cons_succ])
              refine Up.Till.takeY 22 (oi := { dst := some 80, op := Op.fieldAddr 29 (Operand.tmp 79) 1, type := 0, pos := "ref.go:88", after := #[{ on := 21, ground := Ground.data }, { on := 0, ground := Ground.phase }, { on := 1, ground := Ground.phase }, { on := 2, ground := Ground.phase }, { on := 3, ground := Ground.phase }, { on := 4, ground := Ground.phase }, { on := 5, ground := Ground.phase }, { on := 6, ground := Ground.phase }, { on := 7, ground := Ground.phase }, { on := 8, ground := Ground.phase }, { on := 9, ground := Ground.phase }, { on := 10, ground := Ground.phase }, { on := 11, ground := Ground.phase }, { on := 12, ground := Ground.phase }, { on := 13, ground := Ground.phase }, { on := 14, ground := Ground.phase }, { on := 15, ground := Ground.phase }, { on := 16, ground := Ground.phase }, { on := 17, ground := Ground.phase }, { on := 18, ground := Ground.phase }, { on := 19, ground := Ground.phase }, { on := 20, ground := Ground.phase }], guard := none }) (v := ?va38) rfl (by rfl) (by kernel_rfl) (by kernel_rfl) (by kernel_rfl) (fun _ _ _ h => h) (Or.inl ⟨by rfl, ?ya38⟩) (fun _ => by assumption) ?ra38
              case ya38 => (intro w hSw; clear hSw; go_simp; (try with_reducible rfl))
              (try simp only [Act.put, List.setIfInBounds_toArray, List.set_cons_zero, List.set_cons_succ])
              refine Up.Till.ready (rs := [23]) (by kernel_rfl) (by simp) ?_
              refine Up.TillAll.cons (o := { dst := none, op := Op.store 27 (Operand.tmp 80) (Operand.tmp 78), type := 0, pos := "ref.go:88", after := #[{ on := 22, ground := Ground.data }, { on := 20, ground := Ground.data }, { on := 20, ground := Ground.chain }, { on := 0, ground := Ground.phase }, { on := 1, ground := Ground.phase }, { on := 2, ground := Ground.phase }, { on := 3, ground := Ground.phase }, { on := 4, ground := Ground.phase }, { on := 5, ground := Ground.phase }, { on := 6, ground := Ground.phase }, { on := 7, ground := Ground.phase }, { on := 8, ground := Ground.phase }, { on := 9, ground := Ground.phase }, { on := 10, ground := Ground.phase }, { on := 11, ground := Ground.phase }, { on := 12, ground := Ground.phase }, { on := 13, ground := Ground.phase }, { on := 14, ground := Ground.phase }, { on := 15, ground := Ground.phase }, { on := 16, ground := Ground.phase }, { on := 17, ground := Ground.phase }, { on := 18, ground := Ground.phase }, { on := 19, ground := Ground.phase }, { on := 20, ground := Ground.phase }], guard := none }) rfl (fun K hK => ?_) Up.TillAll.nil
              obtain ⟨z0, z1⟩ := HX.out _ B_12_1_8_13_20.out
              go_simp
              refine hK.out _ _ (fun h => absurd h (by decide)) (fun hzz => ?_)
              clear hK K hzz hHa35
              (try simp only [Act.put, List.setIfInBounds_toArray, List.set_cons_zero, List.set_cons_succ])
              refine Up.Till.done (by kernel_rfl) ?_ _
              go_wp2
              all_goals (go_ret; have hE := HI.out.setQ B_12_1_8_13_20.out R_12_1_8_13_20.out K_12_1_8_13_20.out HFL.out HNL.out; simp only [Nat.zero_add, Nat.sub_self, Nat.add_zero] at hE; unfold AskRP; rw [HE.out]; exact ⟨rfl, hE.1, hE.2⟩)
            exact Up.TillAll.nil

      · have t0 : (T != 0) = true := by simp [h0]
        have ea : ah = cv := by rw [HAH.out, if_neg h0]
        subst ea
        by_cases h9 : U = T
        · have t9 : (U == T) = true := by simp [h9]
          have HE := Aside0.mk (show askIn hs qs who m = (1, hs, qs) by rw [HAN.out, t9, Bool.true_or, if_pos rfl, HSA.out h0 h9])
          clear h0 h9
          go_wp2_with fail
          go_ret
          unfold AskRP
          rw [HE.out]
          exact ⟨rfl, (HI.out.below HB4.out).mono' (fun k h => .inl h), Grew.of_below HB4.out⟩
        · have un : (U == T) = false := by simp [h9]
          obtain ⟨g2, hg2⟩ : ∃ g2, (ah == 0 && fitsAll hs who U) = g2 := ⟨_, rfl⟩
          have HG2 := Aside0.mk hg2
          obtain ⟨x1, x2⟩ := HX.out _ HB4.out
          have HE0 := Aside0.mk (show askIn hs qs who m = if g2 then (1, grantsIn hs who U, qs) else (2, hs, insAt qs ah ⟨who, U⟩) by rw [HAN.out, un, Bool.false_or, hg2])
          clear HAN HAH HUN HSA hg2 h0 h9
          go_upto_region 9 with fail
          go_cut [9] (fun v wx => v = .int .i64 (ah : Nat) ∧ Aside0 (wx = w4))
          case first =>
            go_wp2_with fail
            refine (HCo.out _ HB4.out).mono ?_
            rintro e w5 ⟨rfl, rfl⟩
            go_wp2_with fail
            go_meet
            case rel => exact ⟨rfl, ⟨rfl⟩⟩
          case rest =>
            obtain ⟨rfl, HWC⟩ := hcut
            obtain rfl := HWC.out
            go_upto_region 10 with fail
            go_cut [53] (fun v wx => v = .bool g2 ∧ Aside0 (Below w.heap.size w wx))
            case first =>
              by_cases ha : ah = 0
              · have a1 : (((ah : Nat) : Int) == 0) = true := by simp [ha]
                have a2 : (ah == 0) = true := by simp [ha]
                have a3 : fitsAll hs who U = g2 := by rw [← HG2.out, a2, Bool.true_and]
                have HF := Aside0.mk (HFi.out _ HB4.out U)
                rw [HFX.out, a3] at HF
                clear ha
                go_wp2_with fail
                refine HF.out.mono ?_
                rintro e w6 ⟨rfl, hb6⟩
                have HB6 := Aside0.mk (below_then HB4.out HB4.out.size hb6)
                clear hb6
                go_wp2_with fail
                go_meet
                case rel => exact ⟨rfl, HB6⟩
              · have a1 : (((ah : Nat) : Int) == 0) = false := by simpa using ha
                have a2 : (ah == 0) = false := by simpa using ha
                have a3 : false = g2 := by rw [← HG2.out, a2, Bool.false_and]
                subst a3
                clear ha
                go_wp2_with fail
                go_meet
                case rel => exact ⟨rfl, HB4⟩
            case rest =>
              clear x1 x2 HG2 HWC
              obtain ⟨rfl, HB7⟩ := hcut
              cases g2 with
              | true =>
                have HE := Aside0.mk (show askIn hs qs who m = (1, grantsIn hs who U, qs) from HE0.out)
                go_wp2_with fail
                refine (HPu.out _ HB7.out U).mono ?_
                rintro e w8 ⟨rfl, hI8, hG8⟩
                have HI8 := Aside0.mk hI8
                have HG8 := Aside0.mk hG8
                clear hI8 hG8
                go_wp2_with fail
                go_ret
                unfold AskRP
                rw [HE.out]
                exact ⟨rfl, HI8.out.mono' (fun k h => h.elim .inl (fun h => .inr (Nat.le_trans HB7.out.size h))), (Grew.of_below HB7.out).trans HG8.out (fun i h => .inl h)⟩
              | false =>
                have HE := Aside0.mk (show askIn hs qs who m = (2, hs, insAt qs ah ⟨who, U⟩) from HE0.out)
                have HKL := Aside0.mk (show ah ≤ qs.length from HCL.out)
                have HF := Aside0.mk (HW.out.upto ah HKL.out)
                have HBK := Aside0.mk (HW.out.from_ ah HKL.out)
                have HO1 := Aside0.mk (show ∀ u ∈ (flat qs).take (ah * 2), u.oneCell' = true from fun u hu => flat_one qs u (List.mem_of_mem_take hu))
                have HO2 := Aside0.mk (show ∀ u ∈ (flat qs).drop (ah * 2), u.oneCell' = true from fun u hu => flat_one qs u (List.mem_of_mem_drop hu))
                have HFL := Aside0.mk (show [] ++ (flat qs).take (ah * 2) ++ [Value.int .i64 who, Value.int .i64 U] ++ (flat qs).drop (ah * 2) = flat (insAt qs ah ⟨who, U⟩) by unfold insAt; rw [flat_take', flat_drop']; simp [flat, encE])
                have HNL := Aside0.mk (show 0 + ah + 1 + (qs.length - ah) = (insAt qs ah ⟨who, U⟩).length by have := HKL.out; unfold insAt; simp; omega)
                have HBd := Aside0.mk (below_then HB7.out HB7.out.size (below_drew (Below.refl _ _)))
                have p3 : (ah : Int) ≤ qs.length := by have := HKL.out; omega
                have p4 : (ah : Int) ≤ qc := by have := HKL.out; have := HQL.out; omega
                have p5 : (0 : Int) ≤ ah := by omega
                clear HE0
                go_wp2_with fail
                refine Up.Till.region [23] (fun W => W.cell? ⟨b, 1, none⟩ = some (.slice qA qs.length qc) ∧ W.frozen? ⟨b, 1, none⟩ = false) (by kernel_rfl) ?_ (fun hH => ?_)
                · exact HX.out _ HBd.out
                refine Up.Till.takeY 0 (oi := { dst := some 58, op := Op.move (Operand.tmp 0), type := 26, pos := "ref.go:88", after := #[], guard := none }) (v := ?vb1) rfl (by rfl) (by kernel_rfl) (by kernel_rfl) (by kernel_rfl) (fun _ _ _ h => h) (Or.inl ⟨by rfl, ?yb1⟩) (fun _ => by assumption) ?rb1
                case yb1 => (intro w hSw; clear hSw; go_simp; (try with_reducible rfl))
                (try simp only [Act.put, List.setIfInBounds_toArray, List.set_cons_zero, List.set_cons_succ])
                refine Up.Till.takeY 2 (oi := { dst := some 60, op := Op.move (Operand.tmp 0), type := 26, pos := "ref.go:88", after := #[], guard := none }) (v := ?vb2) rfl (by rfl) (by kernel_rfl) (by kernel_rfl) (by kernel_rfl) (fun _ _ _ h => h) (Or.inl ⟨by rfl, ?yb2⟩) (fun _ => by assumption) ?rb2
                case yb2 => (intro w hSw; clear hSw; go_simp; (try with_reducible rfl))
                (try simp only [Act.put, List.setIfInBounds_toArray, List.set_cons_zero, List.set_cons_succ])
                refine Up.Till.takeY 3 (oi := { dst := some 61, op := Op.nilCheck (Operand.tmp 60), type := 0, pos := "ref.go:88", after := #[{ on := 2, ground := Ground.data }], guard := none }) (v := ?vb3) rfl (by rfl) (by kernel_rfl) (by kernel_rfl) (by kernel_rfl) (fun _ _ _ h => h) (Or.inl ⟨by rfl, ?yb3⟩) (fun _ => by assumption) ?rb3
                case yb3 => (intro w hSw; clear hSw; go_simp; (try with_reducible rfl))
                (try simp only [Act.put, List.setIfInBounds_toArray, List.set_cons_zero, List.set_cons_succ])
                refine Up.Till.takeY 4 (oi := { dst := some 62, op := Op.fieldAddr 29 (Operand.tmp 61) 1, type := 0, pos := "ref.go:88", after := #[{ on := 3, ground := Ground.data }], guard := none }) (v := ?vb4) rfl (by rfl) (by kernel_rfl) (by kernel_rfl) (by kernel_rfl) (fun _ _ _ h => h) (Or.inl ⟨by rfl, ?yb4⟩) (fun _ => by assumption) ?rb4
                case yb4 => (intro w hSw; clear hSw; go_simp; (try with_reducible rfl))
                (try simp only [Act.put, List.setIfInBounds_toArray, List.set_cons_zero, List.set_cons_succ])
                refine Up.Till.take 5 5 (oi := { dst := some 63, op := Op.load 27 (Operand.tmp 62), type := 27, pos := "ref.go:88", after := #[{ on := 4, ground := Ground.data }], guard := none }) (v := ?vb5) rfl (by rfl) (by kernel_rfl) (by kernel_rfl) (by kernel_rfl) (fun _ _ _ h => h) (by kernel_rfl) (by kernel_rfl) (by kernel_rfl) (Or.inl ⟨by rfl, ?yb5⟩) (by assumption) ?rb5
                case yb5 => (intro w hSw; (try dsimp only at hSw); go_simp; (try with_reducible rfl))
                (try simp only [Act.put, List.setIfInBounds_toArray, List.set_cons_zero, List.set_cons_succ])
                refine Up.Till.takeY 6 (oi := { dst := some 64, op := Op.move (Operand.tmp 9), type := 3, pos := "ref.go:88", after := #[], guard := none }) (v := ?vb6) rfl (by rfl) (by kernel_rfl) (by kernel_rfl) (by kernel_rfl) (fun _ _ _ h => h) (Or.inl ⟨by rfl, ?yb6⟩) (fun _ => by assumption) ?rb6
                case yb6 => (intro w hSw; clear hSw; go_simp; (try with_reducible rfl))
                (try simp only [Act.put, List.setIfInBounds_toArray, List.set_cons_zero, List.set_cons_succ])
                refine Up.Till.takeY 7 (oi := { dst := some 65, op := Op.slice 27 (Operand.tmp 63) none (some (Operand.tmp 64)) none, type := 27, pos := "ref.go:88", after := #[{ on := 5, ground := Ground.data }, { on := 6, ground := Ground.data }], guard := none }) (v := ?vb7) rfl (by rfl) (by kernel_rfl) (by kernel_rfl) (by kernel_rfl) (fun _ _ _ h => h) (Or.inl ⟨by rfl, ?yb7⟩) (fun _ => by assumption) ?rb7
                case yb7 => (intro w hSw; clear hSw; go_simp; (try with_reducible rfl))
                (try simp only [Act.put, List.setIfInBounds_toArray, List.set_cons_zero, List.set_cons_succ])
                refine Up.Till.takeY 9 (oi := { dst := some 67, op := Op.move (Operand.tmp 1), type := 3, pos := "ref.go:88", after := #[], guard := none }) (v := ?vb8) rfl (by rfl) (by kernel_rfl) (by kernel_rfl) (by kernel_rfl) (fun _ _ _ h => h) (Or.inl ⟨by rfl, ?yb8⟩) (fun _ => by assumption) ?rb8
                case yb8 => (intro w hSw; clear hSw; go_simp; (try with_reducible rfl))
                (try simp only [Act.put, List.setIfInBounds_toArray, List.set_cons_zero, List.set_cons_succ])
                refine Up.Till.takeY 10 (oi := { dst := some 68, op := Op.move (Operand.tmp 8), type := 3, pos := "ref.go:88", after := #[], guard := none }) (v := ?vb9) rfl (by rfl) (by kernel_rfl) (by kernel_rfl) (by kernel_rfl) (fun _ _ _ h => h) (Or.inl ⟨by rfl, ?yb9⟩) (fun _ => by assumption) ?rb9
                case yb9 => (intro w hSw; clear hSw; go_simp; (try with_reducible rfl))
                (try simp only [Act.put, List.setIfInBounds_toArray, List.set_cons_zero, List.set_cons_succ])
                refine Up.Till.takeY 11 (oi := { dst := some 69, op := Op.build 50 #[(0, Operand.tmp 67), (1, Operand.tmp 68)], type := 50, pos := "ref.go:88", after := #[{ on := 9, ground := Ground.data }, { on := 10, ground := Ground.data }], guard := none }) (v := ?vb10) rfl (by rfl) (by kernel_rfl) (by kernel_rfl) (by kernel_rfl) (fun _ _ _ h => h) (Or.inl ⟨by rfl, ?yb10⟩) (fun _ => by assumption) ?rb10
                case yb10 => (intro w hSw; clear hSw; go_simp; (try with_reducible rfl))
                (try simp only [Act.put, List.setIfInBounds_toArray, List.set_cons_zero, List.set_cons_succ])
                refine Up.Till.takeY 14 (oi := { dst := some 72, op := Op.move (Operand.tmp 0), type := 26, pos := "ref.go:88", after := #[], guard := none }) (v := ?vb11) rfl (by rfl) (by kernel_rfl) (by kernel_rfl) (by kernel_rfl) (fun _ _ _ h => h) (Or.inl ⟨by rfl, ?yb11⟩) (fun _ => by assumption) ?rb11
                case yb11 => (intro w hSw; clear hSw; go_simp; (try with_reducible rfl))
                (try simp only [Act.put, List.setIfInBounds_toArray, List.set_cons_zero, List.set_cons_succ])
                refine Up.Till.takeY 15 (oi := { dst := some 73, op := Op.nilCheck (Operand.tmp 72), type := 0, pos := "ref.go:88", after := #[{ on := 14, ground := Ground.data }], guard := none }) (v := ?vb12) rfl (by rfl) (by kernel_rfl) (by kernel_rfl) (by kernel_rfl) (fun _ _ _ h => h) (Or.inl ⟨by rfl, ?yb12⟩) (fun _ => by assumption) ?rb12
                case yb12 => (intro w hSw; clear hSw; go_simp; (try with_reducible rfl))
                (try simp only [Act.put, List.setIfInBounds_toArray, List.set_cons_zero, List.set_cons_succ])
                refine Up.Till.takeY 16 (oi := { dst := some 74, op := Op.fieldAddr 29 (Operand.tmp 73) 1, type := 0, pos := "ref.go:88", after := #[{ on := 15, ground := Ground.data }], guard := none }) (v := ?vb13) rfl (by rfl) (by kernel_rfl) (by kernel_rfl) (by kernel_rfl) (fun _ _ _ h => h) (Or.inl ⟨by rfl, ?yb13⟩) (fun _ => by assumption) ?rb13
                case yb13 => (intro w hSw; clear hSw; go_simp; (try with_reducible rfl))
                (try simp only [Act.put, List.setIfInBounds_toArray, List.set_cons_zero, List.set_cons_succ])
                refine Up.Till.take 17 17 (oi := { dst := some 75, op := Op.load 27 (Operand.tmp 74), type := 27, pos := "ref.go:88", after := #[{ on := 16, ground := Ground.data }], guard := none }) (v := ?vb14) rfl (by rfl) (by kernel_rfl) (by kernel_rfl) (by kernel_rfl) (fun _ _ _ h => h) (by kernel_rfl) (by kernel_rfl) (by kernel_rfl) (Or.inl ⟨by rfl, ?yb14⟩) (by assumption) ?rb14
                case yb14 => (intro w hSw; (try dsimp only at hSw); go_simp; (try with_reducible rfl))
                (try simp only [Act.put, List.setIfInBounds_toArray, List.set_cons_zero, List.set_cons_succ])
                refine Up.Till.takeY 18 (oi := { dst := some 76, op := Op.move (Operand.tmp 9), type := 3, pos := "ref.go:88", after := #[], guard := none }) (v := ?vb15) rfl (by rfl) (by kernel_rfl) (by kernel_rfl) (by kernel_rfl) (fun _ _ _ h => h) (Or.inl ⟨by rfl, ?yb15⟩) (fun _ => by assumption) ?rb15
                case yb15 => (intro w hSw; clear hSw; go_simp; (try with_reducible rfl))
                (try simp only [Act.put, List.setIfInBounds_toArray, List.set_cons_zero, List.set_cons_succ])
                refine Up.Till.takeY 19 (oi := { dst := some 77, op := Op.slice 27 (Operand.tmp 75) (some (Operand.tmp 76)) none none, type := 27, pos := "ref.go:88", after := #[{ on := 17, ground := Ground.data }, { on := 18, ground := Ground.data }], guard := none }) (v := ?vb16) rfl (by rfl) (by kernel_rfl) (by kernel_rfl) (by kernel_rfl) (fun _ _ _ h => h) (Or.inl ⟨by rfl, ?yb16⟩) (fun _ => by assumption) ?rb16
                case yb16 => (intro w hSw; clear hSw; go_simp; (try with_reducible rfl))
                (try simp only [Act.put, List.setIfInBounds_toArray, List.set_cons_zero, List.set_cons_succ])
                refine Up.Till.ready (rs := [1, 12]) (by kernel_rfl) (by simp) ?_
                refine Up.TillAll.cons (o := { dst := some 59, op := Op.buildSlice 27 0 #[], type := 27, pos := "ref.go:88", after := #[], guard := none }) rfl (fun K hK => ?_) ?_
                · go_simp
                  have B_1 := Aside0.mk (below_alloc HBd.out (.cells #[] 50))
                  have E_1 := Aside0.mk (lit_be HBd.out 50 2 0 #[] rfl (by decide))
                  have LE := Aside0.mk (HBd.out.size)
                  refine hK.out _ _ (fun _ => ?_) (fun hHb16 => ?_)
                  · (try dsimp only)
                    exact HX.out _ B_1.out
                  replace hHb16 := hHb16 (by rfl)
                  clear hK K hH
                  (try simp only [Act.put, List.setIfInBounds_toArray, List.set_cons_zero, List.set_cons_succ])
                  refine Up.Till.ready (rs := [8, 12]) (by kernel_rfl) (by simp) ?_
                  refine Up.TillAll.cons (o := { dst := some 66, op := Op.call { callee := Callee.builtin Builtin.append, args := #[Operand.tmp 59, Operand.tmp 65], argTypes := #[27, 27] }, type := 27, pos := "ref.go:88", after := #[{ on := 1, ground := Ground.data }, { on := 7, ground := Ground.data }], guard := none }) rfl (fun K hK => ?_) ?_
                  · refine step_append_rows (by rfl) (.tmp 59) (.tmp 65) 27 (by rfl) 50 (.agg #[.int .i64 0, .int .i64 0]) 2 16 Try.underlying27 infoE0 rfl _ 0 0 [] (by simp [Act.eval, Act.put]) E_1.out qA ah qc _ (by simp [Act.eval, Act.put]) (HF.out.below B_1.out) HO1.out (by have := HB.out; have := HKL.out; unfold maxLen; omega) (by have := HB.out; have := HKL.out; omega) ?_
                    intro A_1_8 c_1_8 w_1_8 hR6 hG6 hk6
                    have B_1_8 := Aside0.mk (hG6.to_below B_1.out B_1.out.size (blk_le (by have := LE.out; first | omega | (simp; done) | (simp; omega) | (simp at this ⊢; omega))))
                    have R_1_8 := Aside0.mk hR6
                    have K_1_8 := Aside0.mk (show ∀ k, blk A_1_8 k → w.heap.size ≤ k from fun k h => (hk6 k h).elim (blk_le (by have := LE.out; first | omega | (simp; done) | (simp; omega) | (simp at this ⊢; omega)) k) (fun h2 => Nat.le_trans B_1.out.size h2))
                    clear hR6 hG6 hk6
                    refine hK.out _ _ (fun _ => ?_) (fun hHb17 => ?_)
                    · (try dsimp only)
                      exact HX.out _ B_1_8.out
                    replace hHb17 := hHb17 (by rfl)
                    clear hK K hHb16
                    (try simp only [Act.put, List.setIfInBounds_toArray, List.set_cons_zero, List.set_cons_succ])
                    refine Up.Till.ready (rs := [12]) (by kernel_rfl) (by simp) ?_
                    refine Up.TillAll.cons (o := { dst := some 70, op := Op.buildSlice 27 1 #[(0, Operand.tmp 69)], type := 27, pos := "ref.go:88", after := #[{ on := 11, ground := Ground.data }], guard := none }) rfl (fun K hK => ?_) Up.TillAll.nil
                    go_simp
                    have B_1_8_12 := Aside0.mk (below_alloc B_1_8.out (.cells #[.int .i64 who, .int .i64 U] 50))
                    have N_1_8_12 := Aside0.mk (lit_be B_1_8.out 50 2 1 #[.int .i64 who, .int .i64 U] rfl (by decide))
                    have R_1_8_12 := Aside0.mk (R_1_8.out.alloc (.cells #[.int .i64 who, .int .i64 U] 50))
                    have K_1_8_12 := K_1_8
                    refine hK.out _ _ (fun _ => ?_) (fun hHb18 => ?_)
                    · (try dsimp only)
                      exact HX.out _ B_1_8_12.out
                    replace hHb18 := hHb18 (by rfl)
                    clear hK K hHb17
                    (try simp only [Act.put, List.setIfInBounds_toArray, List.set_cons_zero, List.set_cons_succ])
                    refine Up.Till.ready (rs := [13]) (by kernel_rfl) (by simp) ?_
                    refine Up.TillAll.cons (o := { dst := some 71, op := Op.call { callee := Callee.builtin Builtin.append, args := #[Operand.tmp 66, Operand.tmp 70], argTypes := #[27, 27] }, type := 27, pos := "ref.go:88", after := #[{ on := 8, ground := Ground.data }, { on := 12, ground := Ground.data }, { on := 8, ground := Ground.chain }], guard := none }) rfl (fun K hK => ?_) Up.TillAll.nil
                    refine step_append_rows (by rfl) (.tmp 66) (.tmp 70) 27 (by rfl) 50 (.agg #[.int .i64 0, .int .i64 0]) 2 16 Try.underlying27 infoE0 rfl _ _ _ _ (by simp [Act.eval, Act.put]) R_1_8_12.out _ 1 1 _ (by simp [Act.eval, Act.put]) N_1_8_12.out (by simp [Value.oneCell']) (by have := HB.out; have := HKL.out; unfold maxLen; omega) (by have := HB.out; have := HKL.out; omega) ?_
                    intro A_1_8_12_13 c_1_8_12_13 w_1_8_12_13 hR6 hG6 hk6
                    have B_1_8_12_13 := Aside0.mk (hG6.to_below B_1_8_12.out B_1_8_12.out.size K_1_8_12.out)
                    have R_1_8_12_13 := Aside0.mk hR6
                    have K_1_8_12_13 := Aside0.mk (show ∀ k, blk A_1_8_12_13 k → w.heap.size ≤ k from fun k h => (hk6 k h).elim (K_1_8_12.out k) (fun h2 => Nat.le_trans B_1_8_12.out.size h2))
                    clear hR6 hG6 hk6
                    refine hK.out _ _ (fun _ => ?_) (fun hHb19 => ?_)
                    · (try dsimp only)
                      exact HX.out _ B_1_8_12_13.out
                    replace hHb19 := hHb19 (by rfl)
                    clear hK K hHb18
                    (try simp only [Act.put, List.setIfInBounds_toArray, List.set_cons_zero, List.set_cons_succ])
                    refine Up.Till.ready (rs := [20]) (by kernel_rfl) (by simp) ?_
                    refine Up.TillAll.cons (o := { dst := some 78, op := Op.call { callee := Callee.builtin Builtin.append, args := #[Operand.tmp 71, Operand.tmp 77], argTypes := #[27, 27] }, type := 27, pos := "ref.go:88", after := #[{ on := 13, ground := Ground.data }, { on := 19, ground := Ground.data }, { on := 13, ground := Ground.chain }], guard := none }) rfl (fun K hK => ?_) Up.TillAll.nil
                    refine step_append_rows (by rfl) (.tmp 71) (.tmp 77) 27 (by rfl) 50 (.agg #[.int .i64 0, .int .i64 0]) 2 16 Try.underlying27 infoE0 rfl _ _ _ _ (by simp [Act.eval, Act.put]) R_1_8_12_13.out (if qc = ah then qA else qA.map (·.add (ah * 2))) (qs.length - ah) (qc - ah) _ (by simp [Act.eval, Act.put]) (HBK.out.below B_1_8_12_13.out) HO2.out (by have := HB.out; have := HKL.out; unfold maxLen; omega) (by have := HB.out; have := HKL.out; omega) ?_
                    intro A_1_8_12_13_20 c_1_8_12_13_20 w_1_8_12_13_20 hR6 hG6 hk6
                    have B_1_8_12_13_20 := Aside0.mk (hG6.to_below B_1_8_12_13.out B_1_8_12_13.out.size K_1_8_12_13.out)
                    have R_1_8_12_13_20 := Aside0.mk hR6
                    have K_1_8_12_13_20 := Aside0.mk (show ∀ k, blk A_1_8_12_13_20 k → w.heap.size ≤ k from fun k h => (hk6 k h).elim (K_1_8_12_13.out k) (fun h2 => Nat.le_trans B_1_8_12_13.out.size h2))
                    clear hR6 hG6 hk6
                    refine hK.out _ _ (fun _ => ?_) (fun hHb20 => ?_)
                    · (try dsimp only)
                      exact HX.out _ B_1_8_12_13_20.out
                    replace hHb20 := hHb20 (by rfl)
                    clear hK K hHb19
                    (try simp only [Act.put, List.setIfInBounds_toArray, List.set_cons_zero, List.set_cons_succ])
                    refine Up.Till.takeY 21 (oi := { dst := some 79, op := Op.nilCheck (Operand.tmp 58), type := 0, pos := "ref.go:88", after := #[{ on := 0, ground := Ground.data }, { on := 0, ground := Ground.phase }, { on := 1, ground := Ground.phase }, { on := 2, ground := Ground.phase }, { on := 3, ground := Ground.phase }, { on := 4, ground := Ground.phase }, { on := 5, ground := Ground.phase }, { on := 6, ground := Ground.phase }, { on := 7, ground := Ground.phase }, { on := 8, ground := Ground.phase }, { on := 9, ground := Ground.phase }, { on := 10, ground := Ground.phase }, { on := 11, ground := Ground.phase }, { on := 12, ground := Ground.phase }, { on := 13, ground := Ground.phase }, { on := 14, ground := Ground.phase }, { on := 15, ground := Ground.phase }, { on := 16, ground := Ground.phase }, { on := 17, ground := Ground.phase }, { on := 18, ground := Ground.phase }, { on := 19, ground := Ground.phase }, { on := 20, ground := Ground.phase }], guard := none }) (v := ?vb22) rfl (by rfl) (by kernel_rfl) (by kernel_rfl) (by kernel_rfl) (fun _ _ _ h => h) (Or.inl ⟨by rfl, ?yb22⟩) (fun _ => by assumption) ?rb22
                    case yb22 => (intro w hSw; clear hSw; go_simp; (try with_reducible rfl))
                    (try simp only [Act.put, List.setIfInBounds_toArray, List.set_cons_zero, List.set_cons_succ])
                    refine Up.Till.takeY 22 (oi := { dst := some 80, op := Op.fieldAddr 29 (Operand.tmp 79) 1, type := 0, pos := "ref.go:88", after := #[{ on := 21, ground := Ground.data }, { on := 0, ground := Ground.phase }, { on := 1, ground := Ground.phase }, { on := 2, ground := Ground.phase }, { on := 3, ground := Ground.phase }, { on := 4, ground := Ground.phase }, { on := 5, ground := Ground.phase }, { on := 6, ground := Ground.phase }, { on := 7, ground := Ground.phase }, { on := 8, ground := Ground.phase }, { on := 9, ground := Ground.phase }, { on := 10, ground := Ground.phase }, { on := 11, ground := Ground.phase }, { on := 12, ground := Ground.phase }, { on := 13, ground := Ground.phase }, { on := 14, ground := Ground.phase }, { on := 15, ground := Ground.phase }, { on := 16, ground := Ground.phase }, { on := 17, ground := Ground.phase }, { on := 18, ground := Ground.phase }, { on := 19, ground := Ground.phase }, { on := 20, ground := Ground.phase }], guard := none }) (v := ?vb23) rfl (by rfl) (by kernel_rfl) (by kernel_rfl) (by kernel_rfl) (fun _ _ _ h => h) (Or.inl ⟨by rfl, ?yb23⟩) (fun _ => by assumption) ?rb23
                    case yb23 => (intro w hSw; clear hSw; go_simp; (try with_reducible rfl))
                    (try simp only [Act.put, List.setIfInBounds_toArray, List.set_cons_zero, List.set_cons_succ])
                    refine Up.Till.ready (rs := [23]) (by kernel_rfl) (by simp) ?_
                    refine Up.TillAll.cons (o := { dst := none, op := Op.store 27 (Operand.tmp 80) (Operand.tmp 78), type := 0, pos := "ref.go:88", after := #[{ on := 22, ground := Ground.data }, { on := 20, ground := Ground.data }, { on := 20, ground := Ground.chain }, { on := 0, ground := Ground.phase }, { on := 1, ground := Ground.phase }, { on := 2, ground := Ground.phase }, { on := 3, ground := Ground.phase }, { on := 4, ground := Ground.phase }, { on := 5, ground := Ground.phase }, { on := 6, ground := Ground.phase }, { on := 7, ground := Ground.phase }, { on := 8, ground := Ground.phase }, { on := 9, ground := Ground.phase }, { on := 10, ground := Ground.phase }, { on := 11, ground := Ground.phase }, { on := 12, ground := Ground.phase }, { on := 13, ground := Ground.phase }, { on := 14, ground := Ground.phase }, { on := 15, ground := Ground.phase }, { on := 16, ground := Ground.phase }, { on := 17, ground := Ground.phase }, { on := 18, ground := Ground.phase }, { on := 19, ground := Ground.phase }, { on := 20, ground := Ground.phase }], guard := none }) rfl (fun K hK => ?_) Up.TillAll.nil
                    obtain ⟨z0, z1⟩ := HX.out _ B_1_8_12_13_20.out
                    go_simp
                    refine hK.out _ _ (fun h => absurd h (by decide)) (fun hzz => ?_)
                    clear hK K hzz hHb20
                    (try simp only [Act.put, List.setIfInBounds_toArray, List.set_cons_zero, List.set_cons_succ])
                    refine Up.Till.done (by kernel_rfl) ?_ _
                    go_wp2
                    all_goals (go_ret; have hE := HI.out.setQ B_1_8_12_13_20.out R_1_8_12_13_20.out K_1_8_12_13_20.out HFL.out HNL.out; simp only [Nat.zero_add, Nat.sub_self, Nat.add_zero] at hE; unfold AskRP; rw [HE.out]; exact ⟨rfl, hE.1, hE.2⟩)
                  refine Up.TillAll.cons (o := { dst := some 70, op := Op.buildSlice 27 1 #[(0, Operand.tmp 69)], type := 27, pos := "ref.go:88", after := #[{ on := 11, ground := Ground.data }], guard := none }) rfl (fun K hK => ?_) ?_
                  · go_simp
                    have B_1_12 := Aside0.mk (below_alloc B_1.out (.cells #[.int .i64 who, .int .i64 U] 50))
                    have N_1_12 := Aside0.mk (lit_be B_1.out 50 2 1 #[.int .i64 who, .int .i64 U] rfl (by decide))
                    have E_1_12 := Aside0.mk (E_1.out.alloc (.cells #[.int .i64 who, .int .i64 U] 50))
                    refine hK.out _ _ (fun _ => ?_) (fun hHb24 => ?_)
                    · (try dsimp only)
                      exact HX.out _ B_1_12.out
                    replace hHb24 := hHb24 (by rfl)
                    clear hK K hHb16
                    (try simp only [Act.put, List.setIfInBounds_toArray, List.set_cons_zero, List.set_cons_succ])
                    refine Up.Till.ready (rs := [8]) (by kernel_rfl) (by simp) ?_
                    refine Up.TillAll.cons (o := { dst := some 66, op := Op.call { callee := Callee.builtin Builtin.append, args := #[Operand.tmp 59, Operand.tmp 65], argTypes := #[27, 27] }, type := 27, pos := "ref.go:88", after := #[{ on := 1, ground := Ground.data }, { on := 7, ground := Ground.data }], guard := none }) rfl (fun K hK => ?_) Up.TillAll.nil
                    refine step_append_rows (by rfl) (.tmp 59) (.tmp 65) 27 (by rfl) 50 (.agg #[.int .i64 0, .int .i64 0]) 2 16 Try.underlying27 infoE0 rfl _ 0 0 [] (by simp [Act.eval, Act.put]) E_1_12.out qA ah qc _ (by simp [Act.eval, Act.put]) (HF.out.below B_1_12.out) HO1.out (by have := HB.out; have := HKL.out; unfold maxLen; omega) (by have := HB.out; have := HKL.out; omega) ?_
                    intro A_1_12_8 c_1_12_8 w_1_12_8 hR6 hG6 hk6
                    have B_1_12_8 := Aside0.mk (hG6.to_below B_1_12.out B_1_12.out.size (blk_le (by have := LE.out; first | omega | (simp; done) | (simp; omega) | (simp at this ⊢; omega))))
                    have R_1_12_8 := Aside0.mk hR6
                    have K_1_12_8 := Aside0.mk (show ∀ k, blk A_1_12_8 k → w.heap.size ≤ k from fun k h => (hk6 k h).elim (blk_le (by have := LE.out; first | omega | (simp; done) | (simp; omega) | (simp at this ⊢; omega)) k) (fun h2 => Nat.le_trans B_1_12.out.size h2))
                    have N_1_12_8 := Aside0.mk (N_1_12.out.grew hG6 (blk_ne (by first | omega | (simp; done) | (simp; omega))))
                    clear hR6 hG6 hk6
                    refine hK.out _ _ (fun _ => ?_) (fun hHb25 => ?_)
                    · (try dsimp only)
                      exact HX.out _ B_1_12_8.out
                    replace hHb25 := hHb25 (by rfl)
                    clear hK K hHb24
                    (try simp only [Act.put, List.setIfInBounds_toArray, List.set_cons_zero, List.set_cons_succ])
                    refine Up.Till.ready (rs := [13]) (by kernel_rfl) (by simp) ?_
                    refine Up.TillAll.cons (o := { dst := some 71, op := Op.call { callee := Callee.builtin Builtin.append, args := #[Operand.tmp 66, Operand.tmp 70], argTypes := #[27, 27] }, type := 27, pos := "ref.go:88", after := #[{ on := 8, ground := Ground.data }, { on := 12, ground := Ground.data }, { on := 8, ground := Ground.chain }], guard := none }) rfl (fun K hK => ?_) Up.TillAll.nil
                    refine step_append_rows (by rfl) (.tmp 66) (.tmp 70) 27 (by rfl) 50 (.agg #[.int .i64 0, .int .i64 0]) 2 16 Try.underlying27 infoE0 rfl _ _ _ _ (by simp [Act.eval, Act.put]) R_1_12_8.out _ 1 1 _ (by simp [Act.eval, Act.put]) N_1_12_8.out (by simp [Value.oneCell']) (by have := HB.out; have := HKL.out; unfold maxLen; omega) (by have := HB.out; have := HKL.out; omega) ?_
                    intro A_1_12_8_13 c_1_12_8_13 w_1_12_8_13 hR6 hG6 hk6
                    have B_1_12_8_13 := Aside0.mk (hG6.to_below B_1_12_8.out B_1_12_8.out.size K_1_12_8.out)
                    have R_1_12_8_13 := Aside0.mk hR6
                    have K_1_12_8_13 := Aside0.mk (show ∀ k, blk A_1_12_8_13 k → w.heap.size ≤ k from fun k h => (hk6 k h).elim (K_1_12_8.out k) (fun h2 => Nat.le_trans B_1_12_8.out.size h2))
                    clear hR6 hG6 hk6
                    refine hK.out _ _ (fun _ => ?_) (fun hHb26 => ?_)
                    · (try dsimp only)
                      exact HX.out _ B_1_12_8_13.out
                    replace hHb26 := hHb26 (by rfl)
                    clear hK K hHb25
                    (try simp only [Act.put, List.setIfInBounds_toArray, List.set_cons_zero, List.set_cons_succ])
                    refine Up.Till.ready (rs := [20]) (by kernel_rfl) (by simp) ?_
                    refine Up.TillAll.cons (o := { dst := some 78, op := Op.call { callee := Callee.builtin Builtin.append, args := #[Operand.tmp 71, Operand.tmp 77], argTypes := #[27, 27] }, type := 27, pos := "ref.go:88", after := #[{ on := 13, ground := Ground.data }, { on := 19, ground := Ground.data }, { on := 13, ground := Ground.chain }], guard := none }) rfl (fun K hK => ?_) Up.TillAll.nil
                    refine step_append_rows (by rfl) (.tmp 71) (.tmp 77) 27 (by rfl) 50 (.agg #[.int .i64 0, .int .i64 0]) 2 16 Try.underlying27 infoE0 rfl _ _ _ _ (by simp [Act.eval, Act.put]) R_1_12_8_13.out (if qc = ah then qA else qA.map (·.add (ah * 2))) (qs.length - ah) (qc - ah) _ (by simp [Act.eval, Act.put]) (HBK.out.below B_1_12_8_13.out) HO2.out (by have := HB.out; have := HKL.out; unfold maxLen; omega) (by have := HB.out; have := HKL.out; omega) ?_
                    intro A_1_12_8_13_20 c_1_12_8_13_20 w_1_12_8_13_20 hR6 hG6 hk6
                    have B_1_12_8_13_20 := Aside0.mk (hG6.to_below B_1_12_8_13.out B_1_12_8_13.out.size K_1_12_8_13.out)
                    have R_1_12_8_13_20 := Aside0.mk hR6
                    have K_1_12_8_13_20 := Aside0.mk (show ∀ k, blk A_1_12_8_13_20 k → w.heap.size ≤ k from fun k h => (hk6 k h).elim (K_1_12_8_13.out k) (fun h2 => Nat.le_trans B_1_12_8_13.out.size h2))
                    clear hR6 hG6 hk6
                    refine hK.out _ _ (fun _ => ?_) (fun hHb27 => ?_)
                    · (try dsimp only)
                      exact HX.out _ B_1_12_8_13_20.out
                    replace hHb27 := hHb27 (by rfl)
                    clear hK K hHb26
                    (try simp only [Act.put, List.setIfInBounds_toArray, List.set_cons_zero, List.set_cons_succ])
                    refine Up.Till.takeY 21 (oi := { dst := some 79, op := Op.nilCheck (Operand.tmp 58), type := 0, pos := "ref.go:88", after := #[{ on := 0, ground := Ground.data }, { on := 0, ground := Ground.phase }, { on := 1, ground := Ground.phase }, { on := 2, ground := Ground.phase }, { on := 3, ground := Ground.phase }, { on := 4, ground := Ground.phase }, { on := 5, ground := Ground.phase }, { on := 6, ground := Ground.phase }, { on := 7, ground := Ground.phase }, { on := 8, ground := Ground.phase }, { on := 9, ground := Ground.phase }, { on := 10, ground := Ground.phase }, { on := 11, ground := Ground.phase }, { on := 12, ground := Ground.phase }, { on := 13, ground := Ground.phase }, { on := 14, ground := Ground.phase }, { on := 15, ground := Ground.phase }, { on := 16, ground := Ground.phase }, { on := 17, ground := Ground.phase }, { on := 18, ground := Ground.phase }, { on := 19, ground := Ground.phase }, { on := 20, ground := Ground.phase }], guard := none }) (v := ?vb29) rfl (by rfl) (by kernel_rfl) (by kernel_rfl) (by kernel_rfl) (fun _ _ _ h => h) (Or.inl ⟨by rfl, ?yb29⟩) (fun _ => by assumption) ?rb29
                    case yb29 => (intro w hSw; clear hSw; go_simp; (try with_reducible rfl))
                    (try simp only [Act.put, List.setIfInBounds_toArray, List.set_cons_zero, List.set_cons_succ])
                    refine Up.Till.takeY 22 (oi := { dst := some 80, op := Op.fieldAddr 29 (Operand.tmp 79) 1, type := 0, pos := "ref.go:88", after := #[{ on := 21, ground := Ground.data }, { on := 0, ground := Ground.phase }, { on := 1, ground := Ground.phase }, { on := 2, ground := Ground.phase }, { on := 3, ground := Ground.phase }, { on := 4, ground := Ground.phase }, { on := 5, ground := Ground.phase }, { on := 6, ground := Ground.phase }, { on := 7, ground := Ground.phase }, { on := 8, ground := Ground.phase }, { on := 9, ground := Ground.phase }, { on := 10, ground := Ground.phase }, { on := 11, ground := Ground.phase }, { on := 12, ground := Ground.phase }, { on := 13, ground := Ground.phase }, { on := 14, ground := Ground.phase }, { on := 15, ground := Ground.phase }, { on := 16, ground := Ground.phase }, { on := 17, ground := Ground.phase }, { on := 18, ground := Ground.phase }, { on := 19, ground := Ground.phase }, { on := 20, ground := Ground.phase }], guard := none }) (v := ?vb30) rfl (by rfl) (by kernel_rfl) (by kernel_rfl) (by kernel_rfl) (fun _ _ _ h => h) (Or.inl ⟨by rfl, ?yb30⟩) (fun _ => by assumption) ?rb30
                    case yb30 => (intro w hSw; clear hSw; go_simp; (try with_reducible rfl))
                    (try simp only [Act.put, List.setIfInBounds_toArray, List.set_cons_zero, List.set_cons_succ])
                    refine Up.Till.ready (rs := [23]) (by kernel_rfl) (by simp) ?_
                    refine Up.TillAll.cons (o := { dst := none, op := Op.store 27 (Operand.tmp 80) (Operand.tmp 78), type := 0, pos := "ref.go:88", after := #[{ on := 22, ground := Ground.data }, { on := 20, ground := Ground.data }, { on := 20, ground := Ground.chain }, { on := 0, ground := Ground.phase }, { on := 1, ground := Ground.phase }, { on := 2, ground := Ground.phase }, { on := 3, ground := Ground.phase }, { on := 4, ground := Ground.phase }, { on := 5, ground := Ground.phase }, { on := 6, ground := Ground.phase }, { on := 7, ground := Ground.phase }, { on := 8, ground := Ground.phase }, { on := 9, ground := Ground.phase }, { on := 10, ground := Ground.phase }, { on := 11, ground := Ground.phase }, { on := 12, ground := Ground.phase }, { on := 13, ground := Ground.phase }, { on := 14, ground := Ground.phase }, { on := 15, ground := Ground.phase }, { on := 16, ground := Ground.phase }, { on := 17, ground := Ground.phase }, { on := 18, ground := Ground.phase }, { on := 19, ground := Ground.phase }, { on := 20, ground := Ground.phase }], guard := none }) rfl (fun K hK => ?_) Up.TillAll.nil
                    obtain ⟨z0, z1⟩ := HX.out _ B_1_12_8_13_20.out
                    go_simp
                    refine hK.out _ _ (fun h => absurd h (by decide)) (fun hzz => ?_)
                    clear hK K hzz hHb27
                    (try simp only [Act.put, List.setIfInBounds_toArray, List.set_cons_zero, List.set_cons_succ])
                    refine Up.Till.done (by kernel_rfl) ?_ _
                    go_wp2
                    all_goals (go_ret; have hE := HI.out.setQ B_1_12_8_13_20.out R_1_12_8_13_20.out K_1_12_8_13_20.out HFL.out HNL.out; simp only [Nat.zero_add, Nat.sub_self, Nat.add_zero] at hE; unfold AskRP; rw [HE.out]; exact ⟨rfl, hE.1, hE.2⟩)
                  exact Up.TillAll.nil
                refine Up.TillAll.cons (o := { dst := some 70, op := Op.buildSlice 27 1 #[(0, Operand.tmp 69)], type := 27, pos := "ref.go:88", after := #[{ on := 11, ground := Ground.data }], guard := none }) rfl (fun K hK => ?_) ?_
                · go_simp
                  have B_12 := Aside0.mk (below_alloc HBd.out (.cells #[.int .i64 who, .int .i64 U] 50))
                  have N_12 := Aside0.mk (lit_be HBd.out 50 2 1 #[.int .i64 who, .int .i64 U] rfl (by decide))
                  refine hK.out _ _ (fun _ => ?_) (fun hHb31 => ?_)
                  · (try dsimp only)
                    exact HX.out _ B_12.out
                  replace hHb31 := hHb31 (by rfl)
                  clear hK K hH
                  (try simp only [Act.put, List.setIfInBounds_toArray, List.set_cons_zero, List.set_cons_succ])
                  refine Up.Till.ready (rs := [1]) (by kernel_rfl) (by simp) ?_
                  refine Up.TillAll.cons (o := { dst := some 59, op := Op.buildSlice 27 0 #[], type := 27, pos := "ref.go:88", after := #[], guard := none }) rfl (fun K hK => ?_) Up.TillAll.nil
                  go_simp
                  have B_12_1 := Aside0.mk (below_alloc B_12.out (.cells #[] 50))
                  have E_12_1 := Aside0.mk (lit_be B_12.out 50 2 0 #[] rfl (by decide))
                  have LE := Aside0.mk (B_12.out.size)
                  have N_12_1 := Aside0.mk (N_12.out.alloc (.cells #[] 50))
                  refine hK.out _ _ (fun _ => ?_) (fun hHb32 => ?_)
                  · (try dsimp only)
                    exact HX.out _ B_12_1.out
                  replace hHb32 := hHb32 (by rfl)
                  clear hK K hHb31
                  (try simp only [Act.put, List.setIfInBounds_toArray, List.set_cons_zero, List.set_cons_succ])
                  refine Up.Till.ready (rs := [8]) (by kernel_rfl) (by simp) ?_
                  refine Up.TillAll.cons (o := { dst := some 66, op := Op.call { callee := Callee.builtin Builtin.append, args := #[Operand.tmp 59, Operand.tmp 65], argTypes := #[27, 27] }, type := 27, pos := "ref.go:88", after := #[{ on := 1, ground := Ground.data }, { on := 7, ground := Ground.data }], guard := none }) rfl (fun K hK => ?_) Up.TillAll.nil
                  refine step_append_rows (by rfl) (.tmp 59) (.tmp 65) 27 (by rfl) 50 (.agg #[.int .i64 0, .int .i64 0]) 2 16 Try.underlying27 infoE0 rfl _ 0 0 [] (by simp [Act.eval, Act.put]) E_12_1.out qA ah qc _ (by simp [Act.eval, Act.put]) (HF.out.below B_12_1.out) HO1.out (by have := HB.out; have := HKL.out; unfold maxLen; omega) (by have := HB.out; have := HKL.out; omega) ?_
                  intro A_12_1_8 c_12_1_8 w_12_1_8 hR6 hG6 hk6
                  have B_12_1_8 := Aside0.mk (hG6.to_below B_12_1.out B_12_1.out.size (blk_le (by have := LE.out; first | omega | (simp; done) | (simp; omega) | (simp at this ⊢; omega))))
                  have R_12_1_8 := Aside0.mk hR6
                  have K_12_1_8 := Aside0.mk (show ∀ k, blk A_12_1_8 k → w.heap.size ≤ k from fun k h => (hk6 k h).elim (blk_le (by have := LE.out; first | omega | (simp; done) | (simp; omega) | (simp at this ⊢; omega)) k) (fun h2 => Nat.le_trans B_12_1.out.size h2))
                  have N_12_1_8 := Aside0.mk (N_12_1.out.grew hG6 (blk_ne (by first | omega | (simp; done) | (simp; omega))))
                  clear hR6 hG6 hk6
                  refine hK.out _ _ (fun _ => ?_) (fun hHb33 => ?_)
                  · (try dsimp only)
                    exact HX.out _ B_12_1_8.out
                  replace hHb33 := hHb33 (by rfl)
                  clear hK K hHb32
                  (try simp only [Act.put, List.setIfInBounds_toArray, List.set_cons_zero, List.set_cons_succ])
                  refine Up.Till.ready (rs := [13]) (by kernel_rfl) (by simp) ?_
                  refine Up.TillAll.cons (o := { dst := some 71, op := Op.call { callee := Callee.builtin Builtin.append, args := #[Operand.tmp 66, Operand.tmp 70], argTypes := #[27, 27] }, type := 27, pos := "ref.go:88", after := #[{ on := 8, ground := Ground.data }, { on := 12, ground := Ground.data }, { on := 8, ground := Ground.chain }], guard := none }) rfl (fun K hK => ?_) Up.TillAll.nil
                  refine step_append_rows (by rfl) (.tmp 66) (.tmp 70) 27 (by rfl) 50 (.agg #[.int .i64 0, .int .i64 0]) 2 16 Try.underlying27 infoE0 rfl _ _ _ _ (by simp [Act.eval, Act.put]) R_12_1_8.out _ 1 1 _ (by simp [Act.eval, Act.put]) N_12_1_8.out (by simp [Value.oneCell']) (by have := HB.out; have := HKL.out; unfold maxLen; omega) (by have := HB.out; have := HKL.out; omega) ?_
                  intro A_12_1_8_13 c_12_1_8_13 w_12_1_8_13 hR6 hG6 hk6
                  have B_12_1_8_13 := Aside0.mk (hG6.to_below B_12_1_8.out B_12_1_8.out.size K_12_1_8.out)
                  have R_12_1_8_13 := Aside0.mk hR6
                  have K_12_1_8_13 := Aside0.mk (show ∀ k, blk A_12_1_8_13 k → w.heap.size ≤ k from fun k h => (hk6 k h).elim (K_12_1_8.out k) (fun h2 => Nat.le_trans B_12_1_8.out.size h2))
                  clear hR6 hG6 hk6
                  refine hK.out _ _ (fun _ => ?_) (fun hHb34 => ?_)
                  · (try dsimp only)
                    exact HX.out _ B_12_1_8_13.out
                  replace hHb34 := hHb34 (by rfl)
                  clear hK K hHb33
                  (try simp only [Act.put, List.setIfInBounds_toArray, List.set_cons_zero, List.set_cons_succ])
                  refine Up.Till.ready (rs := [20]) (by kernel_rfl) (by simp) ?_
                  refine Up.TillAll.cons (o := { dst := some 78, op := Op.call { callee := Callee.builtin Builtin.append, args := #[Operand.tmp 71, Operand.tmp 77], argTypes := #[27, 27] }, type := 27, pos := "ref.go:88", after := #[{ on := 13, ground := Ground.data }, { on := 19, ground := Ground.data }, { on := 13, ground := Ground.chain }], guard := none }) rfl (fun K hK => ?_) Up.TillAll.nil
                  refine step_append_rows (by rfl) (.tmp 71) (.tmp 77) 27 (by rfl) 50 (.agg #[.int .i64 0, .int .i64 0]) 2 16 Try.underlying27 infoE0 rfl _ _ _ _ (by simp [Act.eval, Act.put]) R_12_1_8_13.out (if qc = ah then qA else qA.map (·.add (ah * 2))) (qs.length - ah) (qc - ah) _ (by simp [Act.eval, Act.put]) (HBK.out.below B_12_1_8_13.out) HO2.out (by have := HB.out; have := HKL.out; unfold maxLen; omega) (by have := HB.out; have := HKL.out; omega) ?_
                  intro A_12_1_8_13_20 c_12_1_8_13_20 w_12_1_8_13_20 hR6 hG6 hk6
                  have B_12_1_8_13_20 := Aside0.mk (hG6.to_below B_12_1_8_13.out B_12_1_8_13.out.size K_12_1_8_13.out)
                  have R_12_1_8_13_20 := Aside0.mk hR6
                  have K_12_1_8_13_20 := Aside0.mk (show ∀ k, blk A_12_1_8_13_20 k → w.heap.size ≤ k from fun k h => (hk6 k h).elim (K_12_1_8_13.out k) (fun h2 => Nat.le_trans B_12_1_8_13.out.size h2))
                  clear hR6 hG6 hk6
                  refine hK.out _ _ (fun _ => ?_) (fun hHb35 => ?_)
                  · (try dsimp only)
                    exact HX.out _ B_12_1_8_13_20.out
                  replace hHb35 := hHb35 (by rfl)
                  clear hK K hHb34
                  (try simp only [Act.put, List.setIfInBounds_toArray, List.set_cons_zero, List.set_cons_succ])
                  refine Up.Till.takeY 21 (oi := { dst := some 79, op := Op.nilCheck (Operand.tmp 58), type := 0, pos := "ref.go:88", after := #[{ on := 0, ground := Ground.data }, { on := 0, ground := Ground.phase }, { on := 1, ground := Ground.phase }, { on := 2, ground := Ground.phase }, { on := 3, ground := Ground.phase }, { on := 4, ground := Ground.phase }, { on := 5, ground := Ground.phase }, { on := 6, ground := Ground.phase }, { on := 7, ground := Ground.phase }, { on := 8, ground := Ground.phase }, { on := 9, ground := Ground.phase }, { on := 10, ground := Ground.phase }, { on := 11, ground := Ground.phase }, { on := 12, ground := Ground.phase }, { on := 13, ground := Ground.phase }, { on := 14, ground := Ground.phase }, { on := 15, ground := Ground.phase }, { on := 16, ground := Ground.phase }, { on := 17, ground := Ground.phase }, { on := 18, ground := Ground.phase }, { on := 19, ground := Ground.phase }, { on := 20, ground := Ground.phase }], guard := none }) (v := ?vb37) rfl (by rfl) (by kernel_rfl) (by kernel_rfl) (by kernel_rfl) (fun _ _ _ h => h) (Or.inl ⟨by rfl, ?yb37⟩) (fun _ => by assumption) ?rb37
                  case yb37 => (intro w hSw; clear hSw; go_simp; (try with_reducible rfl))
                  (try simp only [Act.put, List.setIfInBounds_toArray, List.set_cons_zero, List.set_cons_succ])
                  refine Up.Till.takeY 22 (oi := { dst := some 80, op := Op.fieldAddr 29 (Operand.tmp 79) 1, type := 0, pos := "ref.go:88", after := #[{ on := 21, ground := Ground.data }, { on := 0, ground := Ground.phase }, { on := 1, ground := Ground.phase }, { on := 2, ground := Ground.phase }, { on := 3, ground := Ground.phase }, { on := 4, ground := Ground.phase }, { on := 5, ground := Ground.phase }, { on := 6, ground := Ground.phase }, { on := 7, ground := Ground.phase }, { on := 8, ground := Ground.phase }, { on := 9, ground := Ground.phase }, { on := 10, ground := Ground.phase }, { on := 11, ground := Ground.phase }, { on := 12, ground := Ground.phase }, { on := 13, ground := Ground.phase }, { on := 14, ground := Ground.phase }, { on := 15, ground := Ground.phase }, { on := 16, ground := Ground.phase }, { on := 17, ground := Ground.phase }, { on := 18, ground := Ground.phase }, { on := 19, ground := Ground.phase }, { on := 20, ground := Ground.phase }], guard := none }) (v := ?vb38) rfl (by rfl) (by kernel_rfl) (by kernel_rfl) (by kernel_rfl) (fun _ _ _ h => h) (Or.inl ⟨by rfl, ?yb38⟩) (fun _ => by assumption) ?rb38
                  case yb38 => (intro w hSw; clear hSw; go_simp; (try with_reducible rfl))
                  (try simp only [Act.put, List.setIfInBounds_toArray, List.set_cons_zero, List.set_cons_succ])
                  refine Up.Till.ready (rs := [23]) (by kernel_rfl) (by simp) ?_
                  refine Up.TillAll.cons (o := { dst := none, op := Op.store 27 (Operand.tmp 80) (Operand.tmp 78), type := 0, pos := "ref.go:88", after := #[{ on := 22, ground := Ground.data }, { on := 20, ground := Ground.data }, { on := 20, ground := Ground.chain }, { on := 0, ground := Ground.phase }, { on := 1, ground := Ground.phase }, { on := 2, ground := Ground.phase }, { on := 3, ground := Ground.phase }, { on := 4, ground := Ground.phase }, { on := 5, ground := Ground.phase }, { on := 6, ground := Ground.phase }, { on := 7, ground := Ground.phase }, { on := 8, ground := Ground.phase }, { on := 9, ground := Ground.phase }, { on := 10, ground := Ground.phase }, { on := 11, ground := Ground.phase }, { on := 12, ground := Ground.phase }, { on := 13, ground := Ground.phase }, { on := 14, ground := Ground.phase }, { on := 15, ground := Ground.phase }, { on := 16, ground := Ground.phase }, { on := 17, ground := Ground.phase }, { on := 18, ground := Ground.phase }, { on := 19, ground := Ground.phase }, { on := 20, ground := Ground.phase }], guard := none }) rfl (fun K hK => ?_) Up.TillAll.nil
                  obtain ⟨z0, z1⟩ := HX.out _ B_12_1_8_13_20.out
                  go_simp
                  refine hK.out _ _ (fun h => absurd h (by decide)) (fun hzz => ?_)
                  clear hK K hzz hHb35
                  (try simp only [Act.put, List.setIfInBounds_toArray, List.set_cons_zero, List.set_cons_succ])
                  refine Up.Till.done (by kernel_rfl) ?_ _
                  go_wp2
                  all_goals (go_ret; have hE := HI.out.setQ B_12_1_8_13_20.out R_12_1_8_13_20.out K_12_1_8_13_20.out HFL.out HNL.out; simp only [Nat.zero_add, Nat.sub_self, Nat.add_zero] at hE; unfold AskRP; rw [HE.out]; exact ⟨rfl, hE.1, hE.2⟩)
                exact Up.TillAll.nil

end Go.Proofs.Ytfpnadalfopmcaa.Ln
