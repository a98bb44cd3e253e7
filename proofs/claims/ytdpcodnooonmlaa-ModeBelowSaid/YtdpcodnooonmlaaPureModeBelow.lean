/- The statement ModeBelow: the intents of two modes that fit fit above; for all pairs of numbers. -/
import Derived.Test.YtdpcodnooonmlaaPModeBelowx2
namespace Go.Proofs.Ytdpcodnooonmlaa.Pure
open Go.RowKit Go.Proofs.Ytdpcodnooonmlaa.PModeBelow Go.Proofs.YtdpcodnooonmlaaW.PrintWords Go.Proofs.YtdpcodnooonmlaaW.PrintLast

theorem known_no {a : Int} (h : ¬ (0 ≤ a ∧ a ≤ 5)) : mode_Known.f a = some false := by
  unfold mode_Known.f
  by_cases h0 : a ≥ 0
  · rw [if_pos h0, decide_eq_false (by omega)]
  · rw [if_neg h0]

theorem known_yes {a : Int} (h : 0 ≤ a ∧ a ≤ 5) : mode_Known.f a = some true := by
  unfold mode_Known.f
  rw [if_pos h.1, decide_eq_true h.2]

theorem first_yes : ltklaw4_first.f 59 = some true := by decide +kernel

theorem first_yes' : ltklaw4_first.f 60 = some true := by decide +kernel

theorem all_six : ∀ a b : Fin 6, ltklaw4_ModeBelow.f 60 (a.val : Int) (b.val : Int) = some true := by decide +kernel

theorem fin_of {a : Int} (h : 0 ≤ a ∧ a ≤ 5) : ∃ n : Fin 6, (n.val : Int) = a := ⟨⟨a.toNat, by omega⟩, by simp; omega⟩

theorem out_yes (a b : Int) : ltklaw4_ModeBelow.j0 60 a b true = some true := by
  simp only [ltklaw4_ModeBelow.j0]
  rw [if_pos trivial, first_yes]
  rfl

/-- The pure statement. -/
theorem ModeBelow : ltklaw4_ModeBelow.Pure := by
  intro a b _ _
  refine ⟨60, ?_⟩
  by_cases ha : 0 ≤ a ∧ a ≤ 5
  · by_cases hb : 0 ≤ b ∧ b ≤ 5
    · obtain ⟨x, rfl⟩ := fin_of ha
      obtain ⟨y, rfl⟩ := fin_of hb
      exact all_six x y
    · unfold ltklaw4_ModeBelow.f
      rw [first_yes', known_yes ha, known_no hb]
      exact out_yes a b
  · unfold ltklaw4_ModeBelow.f
    rw [first_yes', known_no ha]
    exact out_yes a b

end Go.Proofs.Ytdpcodnooonmlaa.Pure
