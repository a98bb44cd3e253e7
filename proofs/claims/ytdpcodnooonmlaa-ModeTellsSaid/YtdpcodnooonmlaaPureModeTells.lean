/- The statement ModeTells: what fits, what covers, the least mode above, the intent, who reads and writes are as the document says; for all numbers and lists. -/
import Derived.Test.YtdpcodnooonmlaaPMox4
import Derived.Test.YtdpcodnooonmlaaMoSup
namespace Go.Proofs.Ytdpcodnooonmlaa.Pure
open Go.RowKit Go.Proofs.Ytdpcodnooonmlaa.PMo Go.Proofs.YtdpcodnooonmlaaW.PrintWords Go.Proofs.YtdpcodnooonmlaaW.PrintLast
open Go.Proofs.YtdpcodnooonmlaaW.PrintMore

theorem rmode_f (a : Int) : ltkref1_Mode.f a = mode_Known.f a := rfl
theorem known_eq (a : Int) : mode_Known.f a = some (decide (ok a)) := by
  by_cases h : ok a
  · rw [known_yes h, decide_eq_true h]
  · rw [known_no h, decide_eq_false h]
theorem fits_fin : ∀ a b : Fin 6, mode_Fits.f (a.val : Int) (b.val : Int) = ltkref1_Fits.f (a.val : Int) (b.val : Int) := by decide +kernel
theorem fits_eq (a b : Int) : mode_Fits.f a b = ltkref1_Fits.f a b := by
  by_cases ha : ok a
  · by_cases hb : ok b
    · obtain ⟨x, rfl⟩ := fin_of ha
      obtain ⟨y, rfl⟩ := fin_of hb
      exact fits_fin x y
    · unfold mode_Fits.f ltkref1_Fits.f
      rw [known_yes ha, known_no hb, decide_eq_false hb]
      simp
  · unfold mode_Fits.f ltkref1_Fits.f
    rw [known_no ha, decide_eq_false ha]
    simp
theorem fits_some (a b : Int) : ∃ r, ltkref1_Fits.f a b = some r := ⟨_, rfl⟩

theorem jn_four {s x : Int} (h : (s = 2 ∧ x = 3) ∨ (s = 3 ∧ x = 2)) : jn s x = 4 := by unfold jn; rw [if_pos h]
theorem jn_mx {s x : Int} (h : ¬ ((s = 2 ∧ x = 3) ∨ (s = 3 ∧ x = 2))) : jn s x = mx s x := by unfold jn mx; rw [if_neg h]
theorem rstep {β : Type} (g : Int → β) (s x : Int) : (if s = 2 then (if x = 3 then g 4 else (if s = 3 then (if x = 2 then g 4 else g (mx s x)) else g (mx s x))) else (if s = 3 then (if x = 2 then g 4 else g (mx s x)) else g (mx s x))) = g (jn s x) := by
  by_cases h1 : s = 2
  · rw [if_pos h1]
    by_cases h2 : x = 3
    · rw [if_pos h2, jn_four (by omega)]
    · rw [if_neg h2, if_neg (by omega), jn_mx (by omega)]
  · rw [if_neg h1]
    by_cases h2 : s = 3
    · rw [if_pos h2]
      by_cases h3 : x = 2
      · rw [if_pos h3, jn_four (by omega)]
      · rw [if_neg h3, jn_mx (by omega)]
    · rw [if_neg h2, jn_mx (by omega)]

theorem rsup_loop (l : List Int) (hl : l.length ≤ 100000) (d : Nat) : ∀ (k i : Nat) (s : Int), i + d = l.length → d < k →
    ltkref1_Sup.l0 k l s (i : Int) = some ((l.drop i).foldl st s) := by
  induction d with
  | zero =>
    intro k i s hi hk
    obtain ⟨k, rfl⟩ : ∃ z, k = z + 1 := ⟨k - 1, by omega⟩
    simp only [ltkref1_Sup.l0]
    rw [if_neg (by omega), List.drop_eq_nil_of_le (by omega)]
    rfl
  | succ d ih =>
    intro k i s hi hk
    obtain ⟨k, rfl⟩ : ∃ z, k = z + 1 := ⟨k - 1, by omega⟩
    have hil : i < l.length := by omega
    simp only [ltkref1_Sup.l0]
    rw [if_pos (by omega), if_pos (by omega), rmode_f, rd_drop hil, List.foldl_cons]
    have ew : wrap64 ((i : Int) + 1) = ((i + 1 : Nat) : Int) := by rw [wrap_up (n := l.length) (by omega) (by omega) hl]; omega
    rw [ew]
    by_cases hx : ok (rd l (i : Int))
    · rw [known_yes hx]
      simp only [Option.bind_some, if_true]
      rw [rstep (fun z => ltkref1_Sup.l0 k l z ((i + 1 : Nat) : Int)) s (rd l (i : Int))]
      have e : st s (rd l (i : Int)) = jn s (rd l (i : Int)) := by unfold st; rw [if_pos hx]
      rw [e]
      exact ih k (i + 1) _ (by omega) (by omega)
    · rw [known_no hx]
      simp only [Option.bind_some, Bool.false_eq_true, if_false]
      have e : st s (rd l (i : Int)) = 5 := by unfold st; rw [if_neg hx]
      rw [e]
      exact ih k (i + 1) _ (by omega) (by omega)
theorem rsup_f (l : List Int) (hl : l.length ≤ 100000) {k : Nat} (hk : l.length < k) : ltkref1_Sup.f k l = some (sup l) := by
  unfold ltkref1_Sup.f
  have := rsup_loop l hl l.length k 0 0 (by omega) (by omega)
  simpa [sup] using this
theorem rcovers_f (a b : Int) {k : Nat} (hk : 12 < k) : ltkref1_Covers.f k a b = some (decide (ok a) && decide (ok b) && (jn a b == a)) := by
  unfold ltkref1_Covers.f
  rw [rmode_f, rmode_f]
  by_cases ha : ok a
  · rw [known_yes ha, decide_eq_true ha]
    by_cases hb : ok b
    · rw [known_yes hb, decide_eq_true hb, rsup_f _ (by simp) (by simp; omega), sup_two ha hb]
      rfl
    · rw [known_no hb, decide_eq_false hb]
      rfl
  · rw [known_no ha, decide_eq_false ha]
    rfl
theorem intent_fin : ∀ a : Fin 6, ltkref1_Intent.f 400 (a.val : Int) = mode_Intent.f 400 (a.val : Int) ∧ (mode_Intent.f 400 (a.val : Int)).isSome = true := by decide +kernel
theorem intent_eq (a : Int) : ∃ r, mode_Intent.f 400 a = some r ∧ ltkref1_Intent.f 400 a = some r := by
  by_cases h : ok a
  · obtain ⟨x, rfl⟩ := fin_of h
    obtain ⟨e, hs⟩ := intent_fin x
    obtain ⟨r, hr⟩ := Option.isSome_iff_exists.1 hs
    exact ⟨r, hr, e.trans hr⟩
  · refine ⟨0, ?_, ?_⟩
    · unfold mode_Intent.f
      rw [if_neg (by intro e; apply h; rw [e]; decide), known_no h]
      rfl
    · have n1 : a ≠ 1 := by intro e; apply h; rw [e]; decide
      have n2 : a ≠ 2 := by intro e; apply h; rw [e]; decide
      have n3 : a ≠ 3 := by intro e; apply h; rw [e]; decide
      have n4 : a ≠ 4 := by intro e; apply h; rw [e]; decide
      have n5 : a ≠ 5 := by intro e; apply h; rw [e]; decide
      unfold ltkref1_Intent.f
      rw [if_neg n1, show (a == 3) = false from beq_eq_false_iff_ne.mpr n3]
      simp only [ltkref1_Intent.j0]
      rw [if_neg (by decide), if_neg n2, if_neg n4, if_neg n5]
theorem reads_fin : ∀ a : Fin 6, ltkref1_Reads.f (a.val : Int) = mode_Reads.f (a.val : Int) := by decide +kernel
theorem writes_fin : ∀ a : Fin 6, ltkref1_Writes.f (a.val : Int) = mode_Writes.f (a.val : Int) := by decide +kernel
theorem reads_eq (a : Int) : mode_Reads.f a = ltkref1_Reads.f a := by
  by_cases h : ok a
  · obtain ⟨x, rfl⟩ := fin_of h
    exact (reads_fin x).symm
  · unfold mode_Reads.f ltkref1_Reads.f
    rw [known_no h]
    by_cases h3 : a ≥ 3
    · rw [if_pos h3, decide_eq_false (by intro h5; exact h ⟨by omega, h5⟩)]
      rfl
    · rw [if_neg h3]
      rfl
theorem reads_some (a : Int) : ∃ r, ltkref1_Reads.f a = some r := by
  unfold ltkref1_Reads.f
  split <;> exact ⟨_, rfl⟩
theorem writes_eq (a : Int) : mode_Writes.f a = ltkref1_Writes.f a := by
  by_cases h : ok a
  · obtain ⟨x, rfl⟩ := fin_of h
    exact (writes_fin x).symm
  · unfold mode_Writes.f ltkref1_Writes.f
    rw [known_no h, show (a == 5) = false from beq_eq_false_iff_ne.mpr (by intro e; apply h; rw [e]; decide)]
    rfl

/-- The pure statement. -/
theorem ModeTells : ltklaw4_ModeTells.Pure := by
  intro a b l _ _ _ _ _
  refine ⟨400, ?_⟩
  unfold ltklaw4_ModeTells.f
  rw [first_f (by omega)]
  simp only [Option.bind_some, if_true]
  by_cases hl : (l.length : Int) > 100
  · rw [if_pos hl]
  · rw [if_neg hl, rmode_f, known_eq]
    simp only [Option.bind_some, beq_self_eq_true, if_true]
    rw [fits_eq]
    obtain ⟨r1, e1⟩ := fits_some a b
    rw [e1]
    simp only [Option.bind_some, beq_self_eq_true, if_true]
    rw [covers_f a b (by omega), rcovers_f a b (by omega)]
    simp only [Option.bind_some, beq_self_eq_true, if_true]
    rw [sup_f l (by omega) (by omega), rsup_f l (by omega) (by omega)]
    simp only [Option.bind_some, if_true]
    obtain ⟨r2, e2, e3⟩ := intent_eq a
    rw [e2, e3]
    simp only [Option.bind_some, if_true]
    rw [reads_eq]
    obtain ⟨r4, e4⟩ := reads_some a
    rw [e4]
    simp only [Option.bind_some, beq_self_eq_true, if_true]
    rw [writes_eq]
    simp [ltkref1_Writes.f]

end Go.Proofs.Ytdpcodnooonmlaa.Pure
