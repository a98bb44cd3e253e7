/- The statement ModeLaws: Fits goes both ways, Sup is the least above two, what fits with the Sup of two fits with both, intents of what is covered are covered; for all triples of numbers. -/
import Derived.Test.YtdpcodnooonmlaaPMox5
import Derived.Test.YtdpcodnooonmlaaMoSup
namespace Go.Proofs.Ytdpcodnooonmlaa.Pure
open Go.RowKit Go.Proofs.Ytdpcodnooonmlaa.PMo Go.Proofs.YtdpcodnooonmlaaW.PrintWords Go.Proofs.YtdpcodnooonmlaaW.PrintLast

theorem all_six : ∀ a b c : Fin 6, ltklaw4_ModeLaws.f 60 (a.val : Int) (b.val : Int) (c.val : Int) = some true := by decide +kernel

theorem out_yes (a b c : Int) : ltklaw4_ModeLaws.j0 60 a b c true = some true := by
  simp only [ltklaw4_ModeLaws.j0]
  rw [if_pos trivial, first_f (by omega)]
  rfl

/-- The pure statement. -/
theorem ModeLaws : ltklaw4_ModeLaws.Pure := by
  intro a b c _ _ _
  refine ⟨60, ?_⟩
  by_cases ha : ok a
  · by_cases hb : ok b
    · by_cases hc : ok c
      · obtain ⟨x, rfl⟩ := fin_of ha
        obtain ⟨y, rfl⟩ := fin_of hb
        obtain ⟨z, rfl⟩ := fin_of hc
        exact all_six x y z
      · unfold ltklaw4_ModeLaws.f
        rw [first_f (by omega), known_yes ha, known_yes hb, known_no hc]
        exact out_yes a b c
    · unfold ltklaw4_ModeLaws.f
      rw [first_f (by omega), known_yes ha, known_no hb]
      exact out_yes a b c
  · unfold ltklaw4_ModeLaws.f
    rw [first_f (by omega), known_no ha]
    exact out_yes a b c

end Go.Proofs.Ytdpcodnooonmlaa.Pure
