/- The statement BirthTells: the tickets, one by one, to the end, and the least of any numbers are as the document says; for all arguments. The walk is by hand (in the texts that are imported). -/
import Derived.Test.YtdpcodnooonmlaaPBtx1
namespace Go.Proofs.Ytdpcodnooonmlaa.Pure
open Go.RowKit Go.Proofs.Ytdpcodnooonmlaa.PBt Go.Proofs.YtdpcodnooonmlaaW.PrintWords Go.Proofs.YtdpcodnooonmlaaW.PrintLast
open Go.Proofs.YtdpcodnooonmlaaW.PrintMore

theorem wrap_up {i : Int} {n : Nat} (h0 : 0 ≤ i) (h : i < (n : Int)) (hn : n ≤ 100000) : wrap64 (i + 1) = i + 1 := by
  unfold wrap64
  omega

/-- Two loops, round by round: what one comes to the other one comes to. -/
theorem both (l : List Int) (hl : l.length ≤ 100000) (d : Nat) : ∀ (k i : Nat) (m : Int), i + d = l.length → d < k →
    ∃ n, slices_Min_int_int.l0 k l m (i : Int) = some n ∧ ltkref11_Least.l0 k l m (i : Int) = some (n, true) := by
  induction d with
  | zero =>
    intro k i m hi hk
    obtain ⟨k, rfl⟩ : ∃ z, k = z + 1 := ⟨k - 1, by omega⟩
    refine ⟨m, ?_, ?_⟩
    · simp only [slices_Min_int_int.l0]
      rw [if_neg (by omega)]
    · simp only [ltkref11_Least.l0]
      rw [if_neg (by omega)]
  | succ d ih =>
    intro k i m hi hk
    obtain ⟨k, rfl⟩ : ∃ z, k = z + 1 := ⟨k - 1, by omega⟩
    obtain ⟨n, h1, h2⟩ := ih k (i + 1) (mn m (rd l (i : Int))) (by omega) (by omega)
    have ew : wrap64 ((i : Int) + 1) = ((i + 1 : Nat) : Int) := by rw [wrap_up (n := l.length) (by omega) (by omega) hl]; omega
    refine ⟨n, ?_, ?_⟩
    · simp only [slices_Min_int_int.l0]
      rw [if_pos (by omega), if_pos (by omega), ew]
      exact h1
    · simp only [ltkref11_Least.l0]
      rw [if_pos (by omega), if_pos (by omega), ew]
      exact h2

/-- The pure statement. -/
theorem BirthTells : ltklaw13_BirthTells.Pure := by
  intro l hl
  by_cases h0 : (l.length : Int) = 0
  · refine ⟨1, 0, false, ?_, ?_⟩
    · unfold birth_Least.f
      rw [if_pos h0]
    · unfold ltkref11_Least.f
      rw [if_pos h0]
  · obtain ⟨n, h1, h2⟩ := both l (by omega) (l.length - 1) (l.length + 1) 1 (rd l 0) (by omega) (by omega)
    refine ⟨l.length + 1, n, true, ?_, ?_⟩
    · unfold birth_Least.f slices_Min_int_int.f
      rw [if_neg h0, if_neg (by omega), if_pos (by omega)]
      have : slices_Min_int_int.l0 (l.length + 1) l (rd l 0) 1 = some n := h1
      rw [this]
      rfl
    · unfold ltkref11_Least.f
      rw [if_neg h0, if_pos (by omega)]
      exact h2

end Go.Proofs.Ytdpcodnooonmlaa.Pure
