/- The statement TaleParts: three bytes make one instruction, threads have two programs each, picks go byte by byte; for all bytes. -/
import Derived.Test.YtdpcodnooonmlaaPTax3
import Derived.Test.YtdpcodnooonmlaaTaBytes
namespace Go.Proofs.Ytdpcodnooonmlaa.Pure
open Go.RowKit Go.Proofs.Ytdpcodnooonmlaa.PTa Go.Proofs.YtdpcodnooonmlaaW.PrintWords Go.Proofs.YtdpcodnooonmlaaW.PrintLast
open Go.Proofs.YtdpcodnooonmlaaW.PrintMore

theorem first_at : ltklaw23_first.f 200 = some true := by decide +kernel
theorem first_f {k : Nat} (hk : 200 ≤ k) : ltklaw23_first.f k = some true := at_rounds ltklaw23_first.mono hk first_at

theorem insT_kind (b0 b1 b2 at_ many : Int) : 1 ≤ (insT b0 b1 b2 at_ many).1 ∧ (insT b0 b1 b2 at_ many).1 ≤ 7 ∧ 0 ≤ (insT b0 b1 b2 at_ many).2.1 ∧ (insT b0 b1 b2 at_ many).2.1 ≤ 3 ∧ ((insT b0 b1 b2 at_ many).1 = 5 → (insT b0 b1 b2 at_ many).2.2.1 = at_ + 2) := by
  unfold insT
  repeat' split
  all_goals (simp; try omega)
theorem rd_map {α : Type} (f : Nat → α) (z : α) (n i : Nat) (hi : i < n) : ((List.range n).map f).getD i z = f i := by
  simp [List.getD_eq_getElem?_getD, hi]
theorem prog_at (l : List Int) (i : Nat) (hi : i < manyS l) : rd_T59 (progS l) (i : Int) = insS l i := by
  unfold rd_T59 progS
  rw [Int.toNat_natCast]
  exact rd_map _ _ _ _ hi
theorem threads_at (l : List Int) (n i : Nat) (hi : i < n) : rd_L6 (threadsS l n) (i : Int) = twoS l (l.length / n) i := by
  unfold rd_L6 threadsS
  rw [Int.toNat_natCast]
  exact rd_map _ _ _ _ hi

section
variable (l : List Int) (n : Nat)
theorem last_yes (hl : l.length ≤ 3000) (hb : ∀ x ∈ l, byt x) (h1 : 1 ≤ n) {k : Nat} (hk : 10000 ≤ k) :
    ((tale_Picks.f k l (n : Int)).bind fun t190 => ((some (([] : List Int) : List Int)).bind fun y193 => (if y193.length + l.length < 140737488355328 then ((some (y193 ++ l : List Int)).bind fun y196 => (if y196.length < 140737488355328 then ((tale_Picks.f k (y196 ++ [7]) (n : Int)).bind fun t202 => ((ltklaw23_first.f k).bind fun t205 => (if t205 = true then (if ((threadsS l n).length : Int) = (n : Int) then (if (t202.length : Int) = (wrap64 ((t190.length : Int) + 1)) then (if 0 ≤ (t190.length : Int) then (if (t190.length : Int) ≤ (t202.length : Int) then ((ltkref_Ints.f k t190 (t202.take ((t190.length : Int) : Int).toNat)).bind fun t211 => (if t211 = true then ((tale_Threads.f k l 0).bind fun t212 => (if (t212.length : Int) = 0 then ((tale_Picks.f k l 0).bind fun t215 => (some ((t215.length : Int) == 0))) else (some false))) else (some false))) else (none)) else (none)) else (some false)) else (some false)) else (some false)))) else (none))) else (none)))) = some true := by
  have e1 := picks_f l (by omega) hb (n : Int) (k := k) (by omega)
  rw [if_neg (by omega)] at e1
  have hb7 : ∀ x ∈ ([] ++ l) ++ [7], byt x := by
    intro x hx
    rcases List.mem_append.1 hx with h | h
    · exact hb x (by simpa using h)
    · have : x = 7 := by simpa using h
      rw [this]; decide
  have hlen7 : (([] ++ l) ++ [(7 : Int)]).length = l.length + 1 := by simp
  have e2 := picks_f (([] ++ l) ++ [7]) (by omega) hb7 (n : Int) (k := k) (by omega)
  rw [if_neg (by omega)] at e2
  have p1 : (picksS l (n : Int)).length = l.length := by simp [picksS]
  have p2 : (picksS (([] ++ l) ++ [7]) (n : Int)).length = l.length + 1 := by simp [picksS]
  have p3 : (picksS (([] ++ l) ++ [7]) (n : Int)).take l.length = picksS l (n : Int) := by
    simp [picksS]
  have t0 := threads_f l (by omega) hb 0 (k := k) (by omega)
  rw [if_pos (by omega)] at t0
  have q0 := picks_f l (by omega) hb 0 (k := k) (by omega)
  rw [if_pos (by omega)] at q0
  have ti : (threadsS l n).length = n := by simp [threadsS]
  rw [e1]
  simp only [Option.bind_some, List.length_nil]
  rw [if_pos (by omega), if_pos (by simp; omega), e2, first_f (by omega)]
  simp only [Option.bind_some, if_true]
  rw [if_pos (by omega), p1, p2, wrap_in (by omega) (by omega), if_pos (by omega), if_pos (by omega), if_pos (by omega)]
  simp only [Int.toNat_natCast]
  rw [p3, ints_f _ (by omega) (by omega), t0, q0]
  rfl

theorem two_loop (hl : l.length ≤ 3000) (hb : ∀ x ∈ l, byt x) (h1 : 1 ≤ n) (h2 : n ≤ 64) (d : Nat) : ∀ (k i : Nat), i + d = n → 11000 + d ≤ k → ltklaw23_TaleParts.l1 k l (n : Int) (threadsS l n) (i : Int) = some true := by
  have ti : (threadsS l n).length = n := by simp [threadsS]
  induction d with
  | zero =>
    intro k i hi hk
    obtain ⟨k, rfl⟩ : ∃ z, k = z + 1 := ⟨k - 1, by omega⟩
    simp only [ltklaw23_TaleParts.l1]
    rw [if_neg (by omega)]
    exact last_yes l n hl hb h1 (by omega)
  | succ d ih =>
    intro k i hi hk
    obtain ⟨k, rfl⟩ : ∃ z, k = z + 1 := ⟨k - 1, by omega⟩
    simp only [ltklaw23_TaleParts.l1]
    rw [if_pos (by omega), if_pos (by omega), threads_at l n i (by omega)]
    rw [if_pos (by rfl), wrap_in (by omega) (by omega), show ((i : Int) + 1) = ((i + 1 : Nat) : Int) by omega]
    exact ih k (i + 1) (by omega) (by omega)

theorem ins_loop (hl : l.length ≤ 3000) (hb : ∀ x ∈ l, byt x) (h1 : 1 ≤ n) (h2 : n ≤ 64) (d : Nat) : ∀ (k i : Nat), i + d = manyS l → 12000 + d ≤ k → ltklaw23_TaleParts.l0 k l (n : Int) (progS l) (i : Int) = some true := by
  have hp := progS_len l
  have hm : manyS l ≤ 60 := by unfold manyS; omega
  induction d with
  | zero =>
    intro k i hi hk
    obtain ⟨k, rfl⟩ : ∃ z, k = z + 1 := ⟨k - 1, by omega⟩
    simp only [ltklaw23_TaleParts.l0]
    have := threads_f l (by omega) hb (n : Int) (k := k) (by omega)
    rw [if_neg (by omega), Int.toNat_natCast] at this
    rw [if_neg (by omega), this]
    exact two_loop l n hl hb h1 h2 n k 0 (by omega) (by omega)
  | succ d ih =>
    intro k i hi hk
    obtain ⟨k, rfl⟩ : ∃ z, k = z + 1 := ⟨k - 1, by omega⟩
    obtain ⟨q1, q2, q3, q4, q5⟩ := insT_kind (rd l ((3 * i : Nat) : Int)) (rd l ((3 * i + 1 : Nat) : Int)) (rd l ((3 * i + 2 : Nat) : Int)) (i : Int) (manyS l : Int)
    have s0 : (insS l i).f0 = (insT (rd l ((3 * i : Nat) : Int)) (rd l ((3 * i + 1 : Nat) : Int)) (rd l ((3 * i + 2 : Nat) : Int)) (i : Int) (manyS l : Int)).1 := rfl
    have s1 : (insS l i).f1 = (insT (rd l ((3 * i : Nat) : Int)) (rd l ((3 * i + 1 : Nat) : Int)) (rd l ((3 * i + 2 : Nat) : Int)) (i : Int) (manyS l : Int)).2.1 := rfl
    have s2 : (insS l i).f2 = (insT (rd l ((3 * i : Nat) : Int)) (rd l ((3 * i + 1 : Nat) : Int)) (rd l ((3 * i + 2 : Nat) : Int)) (i : Int) (manyS l : Int)).2.2.1 := rfl
    rw [← s0] at q1 q2 q5
    rw [← s1] at q3 q4
    rw [← s2] at q5
    simp only [ltklaw23_TaleParts.l0]
    rw [if_pos (by omega), if_pos (by omega), prog_at l i (by omega), if_neg (by omega), if_neg (by omega), if_neg (by omega), if_neg (by omega), wrap_in (i := (i : Int) + 2) (by omega) (by omega), wrap_in (i := (i : Int) + 1) (by omega) (by omega), show ((i : Int) + 1) = ((i + 1 : Nat) : Int) by omega]
    by_cases h5 : (insS l i).f0 = 5
    · rw [if_pos h5, if_pos (q5 h5)]
      exact ih k (i + 1) (by omega) (by omega)
    · rw [if_neg h5]
      exact ih k (i + 1) (by omega) (by omega)
end

theorem out_yes (l : List Int) (n : Int) : ltklaw23_TaleParts.j0 20000 l n true = some true := by
  simp only [ltklaw23_TaleParts.j0]
  rw [if_pos trivial, first_f (by omega)]
  rfl

/-- The pure statement. -/
theorem TaleParts : ltklaw23_TaleParts.Pure := by
  intro l n _ _ hw _
  have hb := bytes_of hw
  refine ⟨20000, ?_⟩
  unfold ltklaw23_TaleParts.f
  rw [first_f (by omega)]
  simp only [Option.bind_some, if_true]
  by_cases h1 : (l.length : Int) > 3000
  · rw [if_pos h1]; exact out_yes l n
  · rw [if_neg h1]
    by_cases h2 : n < 1
    · rw [if_pos h2]; exact out_yes l n
    · rw [if_neg h2]
      by_cases h3 : n > 64
      · rw [decide_eq_true h3]; exact out_yes l n
      · rw [decide_eq_false h3]
        obtain ⟨m, rfl⟩ := Int.eq_ofNat_of_zero_le (show 0 ≤ n by omega)
        simp only [ltklaw23_TaleParts.j0]
        rw [if_neg (by decide), prog_f l (by omega) hb (by omega), many_f l (by omega)]
        simp only [Option.bind_some]
        rw [if_pos (by rw [progS_len])]
        have hm : manyS l ≤ 60 := by unfold manyS; omega
        exact ins_loop l m (by omega) hb (by omega) (by omega) (manyS l) 19999 0 (by omega) (by omega)

end Go.Proofs.Ytdpcodnooonmlaa.Pure
