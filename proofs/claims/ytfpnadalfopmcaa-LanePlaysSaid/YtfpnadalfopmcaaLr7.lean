import Derived.Test.YtfpnadalfopmcaaLr6
import Derived.Test.YtfpnadalfopmcaaRp
import Derived.Test.YtfpnadalfopmcaaLC
/- The document's put and Ask, under the invariant. -/
namespace Go.Proofs.Ytfpnadalfopmcaa.Ln
open Go.RowKit Go.Proofs.YtfpnadalfopmcaaW.PrintWords Go.Proofs.YtfpnadalfopmcaaW.PrintWords.Kd Go.Proofs.YtfpnadalfopmcaaW.PrintLast Go.Proofs.YtfpnadalfopmcaaW.PrintMore Go.Proofs.Ytfpnadalfopmcaa.PMd
set_option linter.unusedVariables false
set_option linter.unusedSimpArgs false
theorem stop_ex (hs : List E) (who : Int) : ∃ k, stopAt hs who k := by
  induction hs with
  | nil => exact ⟨0, Nat.le_refl _, fun i hi => by omega, fun h => by simp at h⟩
  | cons x l ih =>
    by_cases h : x.f0 < who
    · obtain ⟨k, h1, h2, h3⟩ := ih
      refine ⟨k + 1, by simpa using h1, fun i hi => ?_, fun hk => by simpa using h3 (by simpa using hk)⟩
      cases i with
      | zero => simpa using h
      | succ i => simpa using h2 i (by omega)
    · exact ⟨0, Nat.zero_le _, fun i hi => by omega, fun _ => by simpa using h⟩
theorem put_R (w : World) (b : Nat) (F : Nat → Prop) (hs qs : List E) (who m : Int) (hI : IsLR w b F hs qs) (ha : Asc hs) (hbig : hs.length < 1000000000000) :
    Calls Try.prog 32 #[.pointer (some ⟨b, 0, none⟩), .int .i64 who, .int .i64 m] w fun e w' => e = .returned (.tuple #[]) ∧ IsLR w' b (fun j => F j ∨ w.heap.size ≤ j) (grantsIn hs who m) qs ∧ Grew F w w' := by
  obtain ⟨k, hk⟩ := stop_ex hs who
  have fin : ∀ e w', PutPost b F hs qs who m w e w' → e = .returned (.tuple #[]) ∧ IsLR w' b (fun j => F j ∨ w.heap.size ≤ j) (grantsIn hs who m) qs ∧ Grew F w w' := by
    rintro e w' ⟨j, hj, he, h1, h2⟩
    refine ⟨he, ?_, h2⟩
    by_cases hc : j < hs.length ∧ (hs.getD j zE).f0 = who
    · rw [if_pos hc] at h1
      rw [put_hit ha hc.1 hc.2]
      exact h1
    · rw [if_neg hc] at h1
      rw [put_miss ha hj.1 hj.2.1 (fun h => by have := hj.2.2 h; have h3 : (hs.getD j zE).f0 ≠ who := fun e => hc ⟨h, e⟩; omega)]
      exact h1
  by_cases hc : k < hs.length ∧ (hs.getD k zE).f0 = who
  · exact (putStore_R w b F hs qs who m k hI hk hc.1 hc.2).mono fin
  · exact (putMiss_R w b F hs qs who m k hI hk hc hbig).mono fin
theorem supR_f : ∀ a b : Fin 6, ltkref1_Sup.f 20 [(a.val : Int), (b.val : Int)] = some (supM (a.val : Int) (b.val : Int)) := by decide +kernel
theorem supR_is {a b : Int} (ha : md a) (hb : md b) : ltkref1_Sup.f 20 [a, b] = some (supM a b) := by
  obtain ⟨x, rfl⟩ := fin6 ha; obtain ⟨y, rfl⟩ := fin6 hb; exact supR_f x y
theorem modeR_f (m : Int) : ltkref1_Mode.f m = some (knownM m) := known_f m
theorem told_waits {hs qs : List E} (h : InvS hs qs) (who : Int) : decide (ix (fun x => x.f0 == who) qs ≥ 0) = (toldIn qs who != 0) := by
  rw [ix_any]
  rcases told_cases qs who with ⟨h1, h2⟩ | ⟨x, hx, h2, h1⟩
  · rw [h1, List.any_eq_false.2 (fun y hy => by simpa using h2 y hy)]; rfl
  · rw [h1, List.any_eq_true.2 ⟨x, hx, by simpa using h2⟩]
    have := (h.mq x hx).2
    simpa using this
theorem sup_nz' {a b : Int} (ha : md a) (hb : md b) (h : b ≠ 0) : supM a b ≠ 0 := by
  obtain ⟨x, rfl⟩ := fin6 ha; obtain ⟨y, rfl⟩ := fin6 hb; exact (sup_md_f x y).2 (by omega)
end Go.Proofs.Ytfpnadalfopmcaa.Ln
