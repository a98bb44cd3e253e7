/- The statement ModeOrder: modes are ordered by what they cover, and a stronger one fits with no more; for all triples of numbers. -/
import Derived.Test.YtdpcodnooonmlaaPModeOrderx2
namespace Go.Proofs.Ytdpcodnooonmlaa.Pure
open Go.RowKit Go.Proofs.Ytdpcodnooonmlaa.PModeOrder Go.Proofs.YtdpcodnooonmlaaW.PrintWords Go.Proofs.YtdpcodnooonmlaaW.PrintLast

theorem known_no {a : Int} (h : ¬ (0 ≤ a ∧ a ≤ 5)) : mode_Known.f a = some false := by
  unfold mode_Known.f
  by_cases h0 : a ≥ 0
  · rw [if_pos h0, decide_eq_false (by omega)]
  · rw [if_neg h0]

theorem known_yes {a : Int} (h : 0 ≤ a ∧ a ≤ 5) : mode_Known.f a = some true := by
  unfold mode_Known.f
  rw [if_pos h.1, decide_eq_true h.2]

theorem first_yes : ltklaw4_first.f 59 = some true := by decide +kernel

theorem first_yes' : ltklaw4_first.f 60 = some true := by decide +kernel

theorem all_six : ∀ a b c : Fin 6, ltklaw4_ModeOrder.f 60 (a.val : Int) (b.val : Int) (c.val : Int) = some true := by decide +kernel

theorem fin_of {a : Int} (h : 0 ≤ a ∧ a ≤ 5) : ∃ n : Fin 6, (n.val : Int) = a := ⟨⟨a.toNat, by omega⟩, by simp; omega⟩

theorem out_yes (a b c : Int) : ltklaw4_ModeOrder.j0 60 a b c true = some true := by
  simp only [ltklaw4_ModeOrder.j0]
  rw [if_pos trivial, first_yes]
  rfl

/-- The pure statement. -/
theorem ModeOrder : ltklaw4_ModeOrder.Pure := by
  intro a b c _ _ _
  refine ⟨60, ?_⟩
  by_cases ha : 0 ≤ a ∧ a ≤ 5
  · by_cases hb : 0 ≤ b ∧ b ≤ 5
    · by_cases hc : 0 ≤ c ∧ c ≤ 5
      · obtain ⟨x, rfl⟩ := fin_of ha
        obtain ⟨y, rfl⟩ := fin_of hb
        obtain ⟨z, rfl⟩ := fin_of hc
        exact all_six x y z
      · unfold ltklaw4_ModeOrder.f
        rw [first_yes', known_yes ha, known_yes hb, known_no hc]
        exact out_yes a b c
    · unfold ltklaw4_ModeOrder.f
      rw [first_yes', known_yes ha, known_no hb]
      exact out_yes a b c
  · unfold ltklaw4_ModeOrder.f
    rw [first_yes', known_no ha]
    exact out_yes a b c

end Go.Proofs.Ytdpcodnooonmlaa.Pure
