import Derived.Test.YtfpnadalfopmcaaLr1
/- fits: the document's. -/
namespace Go.Proofs.Ytfpnadalfopmcaa.Ln
open Go.RowKit Go.Proofs.YtfpnadalfopmcaaW.PrintWords Go.Proofs.YtfpnadalfopmcaaW.PrintWords.Kd Go.Proofs.YtfpnadalfopmcaaW.PrintLast Go.Proofs.YtfpnadalfopmcaaW.PrintMore Go.Proofs.Ytfpnadalfopmcaa.PMd
set_option linter.unusedVariables false
set_option linter.unusedSimpArgs false
def fitsD (a b : Int) : Bool := decide (0 ≤ a ∧ a ≤ 5) && decide (0 ≤ b ∧ b ≤ 5) && ltkref1_Fits.g a b
theorem fitsD_f (a b : Int) : ltkref1_Fits.f a b = some (fitsD a b) := rfl
theorem fitsD_tab : ∀ a b : Fin 6, fitsD (a.val : Int) (b.val : Int) = fitsM (b.val : Int) (a.val : Int) := by decide +kernel
theorem fitsD_is {a b : Int} (ha : 0 ≤ a ∧ a ≤ 5) (hb : 0 ≤ b ∧ b ≤ 5) : fitsD a b = fitsM b a := by
  have h := fitsD_tab ⟨a.toNat, by omega⟩ ⟨b.toNat, by omega⟩
  simp only at h
  rwa [Int.toNat_of_nonneg ha.1, Int.toNat_of_nonneg hb.1] at h
def fitsDA (hs : List E) (who m : Int) : Bool := !hs.any fun x => !(x.f0 == who) && !fitsD m x.f1
theorem fitsDA_is {hs : List E} {who m : Int} (hm : 0 ≤ m ∧ m ≤ 5) (h : ∀ x ∈ hs, 0 ≤ x.f1 ∧ x.f1 ≤ 5) : fitsDA hs who m = fitsAll hs who m := by
  unfold fitsDA fitsAll
  congr 1
  induction hs with
  | nil => rfl
  | cons x l ih =>
    rw [List.any_cons, List.any_cons, ih (fun y hy => h y (by simp [hy])), fitsD_is hm (h x (by simp))]
set_option maxHeartbeats 8000000 in
set_option maxRecDepth 100000 in
theorem fits_R (w : World) (b : Nat) (F : Nat → Prop) (hs qs : List E) (who m : Int) (hI : IsLR w b F hs qs) :
    Calls Try.prog 31 #[.pointer (some ⟨b, 0, none⟩), .int .i64 who, .int .i64 m] w fun e w' => e = .returned (.bool (fitsDA hs who m)) ∧ Below w.heap.size w w' := by
  have hu := Try.underlying29
  have hu2 := Try.underlying50
  have HI := Aside0.mk hI
  have HM := Aside0.mk (show hs.length ≤ 9223372036854775807 by obtain ⟨hA, hc, qA, qc, c0, c1, l0, l1, r0, r1⟩ := hI.open_; exact r0.2.1)
  clear hI
  obtain ⟨hA, hc, qA, qc, c0, c1, l0, l1, r0, r1⟩ := HI.out.open_
  clear c1 l0 l1 r0 r1
  go_enter Try.func31, Try.ntmps31
  go_wp2_with fail
  go_loopg [7] hs.length (fun gg v7 wr => ∃ k : Nat, k ≤ hs.length ∧ hs.length - k ≤ gg ∧ v7 = .int .i64 k ∧ Aside0 ((hs.take k).any (fun x => !(x.f0 == who) && !fitsD m x.f1) = false) ∧ Aside0 (Below w.heap.size w wr))
  case atStart => exact ⟨0, by omega, by omega, rfl, ⟨rfl⟩, ⟨Below.refl _ _⟩⟩
  case round =>
    obtain ⟨k, hk, hgg, rfl, HA, HB⟩ := hrel
    have d0 := cell_be c0 HB.out
    by_cases hlt : k < hs.length
    · obtain ⟨_, _, _, _, d0', _, _, _, r0, _⟩ := (HI.out.below HB.out).open_
      rw [d0] at d0'
      injection d0' with d0'
      injection d0' with e1 _ e3
      subst e1; subst e3
      obtain ⟨ad, e4, q0, q1⟩ := at_T50 r0 (k : Int) (by omega) (by omega)
      cases e4
      have p1 : 0 ≤ (k : Int) := by omega
      have p2 : (k : Int) < hs.length := by omega
      have hrd : rd_T50 hs (k : Int) = hs[k] := by simp [rd_T50, List.getElem?_eq_getElem hlt]
      rw [hrd] at q0 q1
      simp only [Int.toNat_natCast] at q0 q1
      have hn : (hs.take (k + 1)).any (fun x => !(x.f0 == who) && !fitsD m x.f1) = (!(hs[k].f0 == who) && !fitsD m hs[k].f1) := by
        rw [List.take_succ_eq_append_getElem hlt, List.any_append, HA.out]; simp
      have hy : (!(hs[k].f0 == who) && !fitsD m hs[k].f1) = true → fitsDA hs who m = false := fun h => by
        unfold fitsDA
        rw [List.any_eq_true.2 ⟨hs[k], List.getElem_mem hlt, h⟩]; rfl
      have HN := Aside0.mk (And.intro hn hy)
      have HJ := Aside0.mk (And.intro hlt hgg)
      have W3 := Aside0.mk (show wrap64 ((k : Int) + 1) = ((k + 1 : Nat) : Int) by have := HM.out; unfold wrap64; omega)
      generalize hs[k].f0 = x at q0 HN
      generalize hs[k].f1 = y at q1 HN
      have HFC := Aside0.mk (fun W => ltkref1_Fits.calls m y (fitsD m y) W (fitsD_f m y))
      clear hrd hn hy hlt hgg hk r0
      by_cases ht : x = who
      · have hb : (x != who) = false := by simp [ht]
        have HN1 := Aside0.mk (show (hs.take (k + 1)).any (fun x => !(x.f0 == who) && !fitsD m x.f1) = false by rw [HN.out.1]; simp [ht])
        clear ht
        go_wp2_with fail
        go_roundg (hs.length - (k + 1))
        case measure => have := HJ.out; omega
        case rel => exact ⟨k + 1, by have := HJ.out; omega, by have := HJ.out; omega, by rw [W3.out], HN1, HB⟩
      · have hb : (x != who) = true := by simpa using ht
        have hb2 : (x == who) = false := by simpa using ht
        clear ht
        go_wp2_with fail
        refine (HFC.out _).mono ?_
        rintro e w3 ⟨rfl, hd⟩
        have HB3 := Aside0.mk (below_then HB.out HB.out.size hd)
        clear hd
        cases hf : fitsD m y with
        | true =>
          have HN1 := Aside0.mk (show (hs.take (k + 1)).any (fun x => !(x.f0 == who) && !fitsD m x.f1) = false by rw [HN.out.1, hf]; simp)
          clear hf
          go_wp2
          go_roundg (hs.length - (k + 1))
          case measure => have := HJ.out; omega
          case rel => exact ⟨k + 1, by have := HJ.out; omega, by have := HJ.out; omega, by rw [W3.out], HN1, HB3⟩
        | false =>
          have HN1 := Aside0.mk (HN.out.2 (by rw [hb2, hf]; rfl))
          clear hf
          go_wp2
          go_ret
          exact ⟨by rw [HN1.out]; first | done | rfl, HB3.out⟩
    · obtain rfl : k = hs.length := by omega
      have HF := Aside0.mk (show fitsDA hs who m = true by unfold fitsDA; have := HA.out; rw [List.take_length] at this; rw [this]; rfl)
      have t1 : ¬ ((hs.length : Int) < (hs.length : Int)) := by omega
      clear hk hgg hlt HA
      go_wp2
      go_ret
      exact ⟨by rw [HF.out]; first | done | rfl, HB.out⟩
end Go.Proofs.Ytfpnadalfopmcaa.Ln
