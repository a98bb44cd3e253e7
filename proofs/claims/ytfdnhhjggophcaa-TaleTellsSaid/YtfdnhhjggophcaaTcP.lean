/- The statement TaleChecks: programs, picks and heaps that come of any bytes pass all checks; for all bytes. -/
import Derived.Test.YtfdnhhjggophcaaPAbx12
import Derived.Test.YtfdnhhjggophcaaTcB
namespace Go.Proofs.Ytfdnhhjggophcaa.Tc
open Go.RowKit Go.Proofs.Ytfdnhhjggophcaa.PAb Go.Proofs.YtfdnhhjggophcaaW.PrintWords Go.Proofs.YtfdnhhjggophcaaW.PrintLast Go.Proofs.YtfdnhhjggophcaaW.PrintMore

theorem first_at : ltklaw23_first.f 200 = some true := by decide +kernel
theorem first_f {k : Nat} (hk : 200 ≤ k) : ltklaw23_first.f k = some true := at_rounds ltklaw23_first.mono hk first_at
theorem rd_map {α : Type} (f : Nat → α) (z : α) (n i : Nat) (hi : i < n) : ((List.range n).map f).getD i z = f i := by
  simp [List.getD_eq_getElem?_getD, hi]
theorem prog_at (l : List Int) (i : Nat) (hi : i < manyS l) : rd_T54 (progS l) (i : Int) = insS l i := by
  unfold rd_T54 progS
  rw [Int.toNat_natCast]
  exact rd_map _ _ _ _ hi
theorem threads_at (l : List Int) (n i : Nat) (hi : i < n) : rd_L5 (threadsS l n) (i : Int) = twoS l (l.length / n) i := by
  unfold rd_L5 threadsS
  rw [Int.toNat_natCast]
  exact rd_map _ _ _ _ hi

/-- The configuration's checks, at 1 to 64 threads and any policy of three. -/
theorem check_f (n p : Int) (h1 : 1 ≤ n) (h2 : n ≤ 64) (p0 : 0 ≤ p) (p2 : p ≤ 2) : shape_Check.f 2 2 2 2 n 2 4 200 20 2 200 p = some 0 := by
  unfold shape_Check.f
  refine congrArg some (shape_Check.good_of ?_)
  simp [shape_Check.chkAll, shape_Check.chkN, shape_Check.chkLo, shape_Check.chkHi, h1, h2, p0, p2]
theorem words_f (n p : Int) (h1 : 1 ≤ n) (h2 : n ≤ 64) (p0 : 0 ≤ p) (p2 : p ≤ 2) : shape_Words.f 2 2 2 2 n 2 4 200 20 2 200 p = some 16 := by
  unfold shape_Words.f shape_counts.f
  rw [check_f n p h1 h2 p0 p2]
  simp only [Option.bind_some, if_true]
  exact congrArg some (show wrap64 (wrap64 (wrap64 (2 * 2) * 2) * 2) = 16 by decide +kernel)
theorem ref_step (n p : Int) (k : Nat) (i : Int) (h : i = 0 ∨ i = 1 ∨ i = 2 ∨ i = 3) : ltkref1_Check.l0 (k + 1) [2, 2, 2, 2] i 2 2 2 2 n 2 4 200 20 2 200 p = ltkref1_Check.l0 k [2, 2, 2, 2] (i + 1) 2 2 2 2 n 2 4 200 20 2 200 p := by
  have e : wrap64 (i + 1) = i + 1 := wrap_in (by omega) (by omega)
  have d : rd [2, 2, 2, 2] i = 2 := by rcases h with rfl | rfl | rfl | rfl <;> rfl
  have hl : (([2, 2, 2, 2] : List Int).length : Int) = 4 := rfl
  simp only [ltkref1_Check.l0]
  rw [if_pos (by omega), if_pos (by omega), hl, if_pos (by omega), d, if_neg (by omega), if_neg (by omega), e]
theorem ref_f (n p : Int) (h1 : 1 ≤ n) (h2 : n ≤ 64) (p0 : 0 ≤ p) (p2 : p ≤ 2) {k : Nat} (hk : 10 ≤ k) : ltkref1_Check.f k 2 2 2 2 n 2 4 200 20 2 200 p = some 0 := by
  obtain ⟨k, rfl⟩ : ∃ z, k = z + 5 := ⟨k - 5, by omega⟩
  show ltkref1_Check.l0 (k + 4 + 1) [2, 2, 2, 2] 0 2 2 2 2 n 2 4 200 20 2 200 p = some 0
  rw [ref_step n p _ 0 (by omega), ref_step n p _ (0 + 1) (by omega), ref_step n p _ (0 + 1 + 1) (by omega), ref_step n p _ (0 + 1 + 1 + 1) (by omega)]
  simp only [ltkref1_Check.l0]
  rw [if_neg (by omega)]
  repeat rw [if_neg (by omega)]
theorem tmod_in (a : Int) : -3 < Int.tmod a 3 ∧ Int.tmod a 3 < 3 := by
  by_cases h : 0 ≤ a
  · rw [Int.tmod_eq_emod_of_nonneg h]; omega
  · have e : Int.tmod a 3 = -(Int.tmod (-a) 3) := by rw [Int.neg_tmod]; omega
    rw [e, Int.tmod_eq_emod_of_nonneg (by omega)]; omega
theorem small_f (n a : Int) (h1 : 1 ≤ n) (h2 : n ≤ 64) : ∃ p, 0 ≤ p ∧ p ≤ 2 ∧ tale_Small.f n a = some (2, 2, 2, 2, n, 2, 4, 200, 20, 2, 200, p) := by
  unfold tale_Small.f calc_Wrap.f
  rw [if_neg (by omega), if_neg (by omega)]
  have e : mn (mx n 1) 64 = n := by unfold mn mx; split <;> split <;> omega
  rw [e]
  obtain ⟨t1, t2⟩ := tmod_in a
  by_cases h : Int.tmod a 3 < 0
  · rw [if_pos h]
    refine ⟨wrap64 (Int.tmod a 3 + 3), ?_, ?_, rfl⟩
    · rw [wrap_in (by omega) (by omega)]; omega
    · rw [wrap_in (by omega) (by omega)]; omega
  · rw [if_neg h]
    exact ⟨Int.tmod a 3, by omega, by omega, rfl⟩

theorem bad_no {x : Int} (h0 : 0 ≤ x) (h1 : x < 4) : prog_may.bad 4 x = false := by
  unfold prog_may.bad
  rw [decide_eq_false (by omega), decide_eq_false (by omega)]
  rfl
theorem may_ins (b0 b1 b2 at_ many : Int) : prog_may.g 4 (insT b0 b1 b2 at_ many).1 (insT b0 b1 b2 at_ many).2.1 (insT b0 b1 b2 at_ many).2.2.1 (insT b0 b1 b2 at_ many).2.2.2.1 (insT b0 b1 b2 at_ many).2.2.2.2 at_ many = true := by
  have hA : prog_may.bad 4 (b1 % 4) = false := bad_no (by omega) (by omega)
  have hC : (decide (b2 / 16 % 5 - 1 = -1) || !prog_may.bad 4 (b2 / 16 % 5 - 1)) = true := by
    by_cases h : b2 / 16 % 5 - 1 = -1
    · rw [decide_eq_true h]; rfl
    · rw [bad_no (by omega) (by omega)]; simp
  have z0 : prog_may.bad 4 0 = false := bad_no (by omega) (by omega)
  have z1 : prog_may.bad 4 1 = false := bad_no (by omega) (by omega)
  unfold insT
  by_cases c0 : b0 % 8 = 0 ∨ b0 % 8 = 1
  · rw [if_pos c0]; simp [prog_may.g, hA]; simpa using hC
  · rw [if_neg c0]
    by_cases c1 : b0 % 8 = 2 ∨ b0 % 8 = 3
    · rw [if_pos c1]; simp [prog_may.g, hA]; simpa using hC
    · rw [if_neg c1]
      by_cases c5 : b0 % 8 = 5
      · rw [if_pos c5]; simp [prog_may.g, hA, z0, z1]; omega
      · rw [if_neg c5]
        by_cases c6 : b0 % 8 = 6
        · rw [if_pos c6]
          by_cases cm : at_ + 2 > many
          · rw [if_pos cm]; simp [prog_may.g, hA]
          · rw [if_neg cm]; simp [prog_may.g, hA]; omega
        · rw [if_neg c6]
          by_cases c7 : b0 % 8 = 7
          · rw [if_pos c7]
            by_cases d1 : b2 = 255
            · rw [if_pos d1]; simp [prog_may.g]
            · rw [if_neg d1]
              by_cases d2 : b2 = 254
              · rw [if_pos d2]; simp [prog_may.g]
              · rw [if_neg d2]; simp [prog_may.g, hA]
          · rw [if_neg c7]; simp [prog_may.g, hA]
theorem list_ins (b0 b1 b2 at_ many : Int) : (insT b0 b1 b2 at_ many).2.2.2.2.length ≤ 2 := by
  unfold insT
  repeat' split
  all_goals simp

theorem chk_loop (l : List Int) (n p : Int) (d : Nat) : ∀ (k i : Nat), i + d = manyS l → d < k →
    prog_Check.l0 k (progS l) (progS l) (manyS l : Int) (i : Int) 2 2 2 2 n 2 4 200 20 2 200 p = some 0 := by
  have hm : manyS l ≤ 60 := by unfold manyS; omega
  have hp := progS_len l
  induction d with
  | zero =>
    intro k i hi hk
    obtain ⟨k, rfl⟩ : ∃ z, k = z + 1 := ⟨k - 1, by omega⟩
    simp only [prog_Check.l0]
    rw [if_neg (by omega)]
  | succ d ih =>
    intro k i hi hk
    obtain ⟨k, rfl⟩ : ∃ z, k = z + 1 := ⟨k - 1, by omega⟩
    have hmay : prog_may.f 2 2 2 2 n 2 4 200 20 2 200 p (insS l i).f0 (insS l i).f1 (insS l i).f2 (insS l i).f3 (insS l i).f4 (i : Int) (manyS l : Int) = some true := congrArg some (may_ins _ _ _ (i : Int) (manyS l : Int))
    simp only [prog_Check.l0]
    rw [if_pos (by omega), if_pos (by omega), if_pos (by omega), prog_at l i (by omega), hp, hmay]
    simp only [Option.bind_some, if_true]
    rw [wrap_in (i := (i : Int) + 1) (by omega) (by omega), show ((i : Int) + 1) = ((i + 1 : Nat) : Int) by omega]
    exact ih k (i + 1) (by omega) (by omega)
theorem chk_f (l : List Int) (n p : Int) (h1 : 1 ≤ n) (h2 : n ≤ 64) (p0 : 0 ≤ p) (p2 : p ≤ 2) {k : Nat} (hk : 100 ≤ k) : prog_Check.f k 2 2 2 2 n 2 4 200 20 2 200 p (progS l) = some 0 := by
  obtain ⟨k, rfl⟩ : ∃ z, k = z + 1 := ⟨k - 1, by omega⟩
  have hm : manyS l ≤ 60 := by unfold manyS; omega
  have hp := progS_len l
  unfold prog_Check.f
  rw [check_f n p h1 h2 p0 p2]
  simp only [Option.bind_some, if_true]
  rw [decide_eq_false (by omega)]
  simp only [prog_Check.j0]
  rw [if_neg (by decide), hp]
  exact chk_loop l n p (manyS l) k 0 (by omega) (by omega)
theorem few_loop (l : List Int) (d : Nat) : ∀ (k i : Nat), i + d = manyS l → 2 * d + 2 ≤ k → ltklaw6_Few.l0 k (progS l) (i : Int) = some true := by
  have hm : manyS l ≤ 60 := by unfold manyS; omega
  have hp := progS_len l
  induction d with
  | zero =>
    intro k i hi hk
    obtain ⟨k, rfl⟩ : ∃ z, k = z + 2 := ⟨k - 2, by omega⟩
    simp only [ltklaw6_Few.l0]
    rw [if_neg (by omega)]
    simp only [ltklaw6_Few.j1]
    rw [if_neg (by decide), decide_eq_true (by omega)]
  | succ d ih =>
    intro k i hi hk
    obtain ⟨k, rfl⟩ : ∃ z, k = z + 2 := ⟨k - 2, by omega⟩
    have hl : (insS l i).f4.length ≤ 2 := list_ins _ _ _ _ _
    simp only [ltklaw6_Few.l0]
    rw [if_pos (by omega), decide_eq_true (by omega)]
    simp only [ltklaw6_Few.j1]
    rw [if_pos trivial, if_pos (by omega), if_pos (by omega), prog_at l i (by omega), if_neg (by omega)]
    rw [wrap_in (i := (i : Int) + 1) (by omega) (by omega), show ((i : Int) + 1) = ((i + 1 : Nat) : Int) by omega]
    exact ih k (i + 1) (by omega) (by omega)
theorem few_f (l : List Int) {k : Nat} (hk : 200 ≤ k) : ltklaw6_Few.f k (progS l) = some true := by
  have hm : manyS l ≤ 60 := by unfold manyS; omega
  exact few_loop l (manyS l) k 0 (by omega) (by omega)

theorem two_len (l : List Int) (size t : Nat) : (twoS l size t).length = 2 := rfl
theorem two_prog (l : List Int) (size t i : Nat) (hi : i < 2) : ∃ q, rd_L4 (twoS l size t) (i : Int) = progS q := by
  rcases (show i = 0 ∨ i = 1 by omega) with rfl | rfl
  · exact ⟨_, rfl⟩
  · exact ⟨_, rfl⟩
end Go.Proofs.Ytfdnhhjggophcaa.Tc
