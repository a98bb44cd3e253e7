import Derived.Test.YtefcjnnngaaihaaDoorPPgx
/- Addresses, in plain Lean. -/
namespace Go.Proofs.YtefcjnnngaaihaaDoor.Pg
open Go.RowKit Go.Proofs.YtefcjnnngaaihaaDoorW.PrintWords Go.Proofs.YtefcjnnngaaihaaDoor.PPg
set_option linter.unusedVariables false
theorem wrap_to (a n : Int) (h1 : 1 ≤ n) (h2 : n ≤ 1000000000) : ∃ r, calc_Wrap.f a n = some r ∧ 0 ≤ r ∧ r < n := by
  unfold calc_Wrap.f
  rw [if_neg (by omega), if_neg (by omega)]
  have hlt := Int.tmod_lt_of_pos a (b := n) (by omega)
  have hgt : -n < Int.tmod a n := by
    have := Int.lt_tmod_of_pos a (b := n) (by omega)
    omega
  generalize Int.tmod a n = t at hlt hgt
  by_cases ht : t < 0
  · rw [if_pos ht]
    refine ⟨_, rfl, ?_, ?_⟩ <;> (unfold wrap64; omega)
  · rw [if_neg ht]
    exact ⟨_, rfl, by omega, hlt⟩
theorem addr_plain (k : Nat) (f0 f1 f2 f3 f4 f5 f6 f7 f8 f9 f10 f11 n x0 x1 x2 : Int) (l regs : List Int) (h : shape_Words.f f0 f1 f2 f3 f4 f5 f6 f7 f8 f9 f10 f11 = some n) :
    prog_Addr.f k f0 f1 f2 f3 f4 f5 f6 f7 f8 f9 f10 f11 x0 x1 x2 (-1) l regs = calc_Wrap.f x2 n := by
  unfold prog_Addr.f; rw [if_pos rfl, h]; simp
theorem addr_far (k : Nat) (f0 f1 f2 f3 f4 f5 f6 f7 f8 f9 f10 f11 x0 x1 x2 x3 : Int) (l regs : List Int) (h0 : 0 ≤ x3) (h : (regs.length : Int) ≤ x3) :
    prog_Addr.f (k + 1) f0 f1 f2 f3 f4 f5 f6 f7 f8 f9 f10 f11 x0 x1 x2 x3 l regs = some 0 := by
  unfold prog_Addr.f; rw [if_neg (by omega), if_neg (by omega), decide_eq_true (by omega)]
  simp [prog_Addr.j0]
theorem addr_reg (k : Nat) (f0 f1 f2 f3 f4 f5 f6 f7 f8 f9 f10 f11 n x0 x1 x2 x3 : Int) (l regs : List Int) (hn : shape_Words.f f0 f1 f2 f3 f4 f5 f6 f7 f8 f9 f10 f11 = some n) (h0 : 0 ≤ x3) (h : x3 < regs.length) :
    prog_Addr.f (k + 1) f0 f1 f2 f3 f4 f5 f6 f7 f8 f9 f10 f11 x0 x1 x2 x3 l regs = calc_Wrap.f (wrap64 (x2 + rd regs x3)) n := by
  unfold prog_Addr.f; rw [if_neg (by omega), if_neg (by omega), decide_eq_false (by omega)]
  simp [prog_Addr.j0, hn, h0, h]
def InB (c0 c1 c2 c3 c4 c5 c6 c7 c8 c9 c10 c11 : Int) : Prop :=
  (1 ≤ c0 ∧ c0 ≤ 8) ∧ (1 ≤ c1 ∧ c1 ≤ 8) ∧ (1 ≤ c2 ∧ c2 ≤ 8) ∧ (1 ≤ c3 ∧ c3 ≤ 8) ∧ (1 ≤ c4 ∧ c4 ≤ 64) ∧ (0 ≤ c5 ∧ c5 ≤ 48) ∧ (1 ≤ c6 ∧ c6 ≤ 8) ∧ (1 ≤ c7 ∧ c7 ≤ 4096) ∧ (1 ≤ c8 ∧ c8 ≤ 1000) ∧ (0 ≤ c9 ∧ c9 ≤ 64) ∧ (1 ≤ c10 ∧ c10 ≤ 10000) ∧ (0 ≤ c11 ∧ c11 ≤ 2)
theorem chk_inb {c0 c1 c2 c3 c4 c5 c6 c7 c8 c9 c10 c11 : Int} : shape_Check.chkAll (shape_Check.chkN c0 c1 c2 c3 c4 c5 c6 c7 c8 c9 c10 c11) 12 = true ↔ InB c0 c1 c2 c3 c4 c5 c6 c7 c8 c9 c10 c11 := by
  simp only [shape_Check.chkAll, shape_Check.chkN, shape_Check.chkLo, shape_Check.chkHi, Bool.and_eq_true, Bool.not_eq_true', Bool.or_eq_false_iff, decide_eq_false_iff_not, Int.not_lt, InB, true_and]
  constructor
  · rintro ⟨⟨⟨⟨⟨⟨⟨⟨⟨⟨⟨h0, h1⟩, h2⟩, h3⟩, h4⟩, h5⟩, h6⟩, h7⟩, h8⟩, h9⟩, h10⟩, h11⟩
    exact ⟨h0, h1, h2, h3, h4, h5, h6, h7, h8, h9, h10, h11⟩
  · rintro ⟨h0, h1, h2, h3, h4, h5, h6, h7, h8, h9, h10, h11⟩
    exact ⟨⟨⟨⟨⟨⟨⟨⟨⟨⟨⟨h0, h1⟩, h2⟩, h3⟩, h4⟩, h5⟩, h6⟩, h7⟩, h8⟩, h9⟩, h10⟩, h11⟩
theorem chk_yes {c0 c1 c2 c3 c4 c5 c6 c7 c8 c9 c10 c11 : Int} (h : InB c0 c1 c2 c3 c4 c5 c6 c7 c8 c9 c10 c11) : shape_Check.f c0 c1 c2 c3 c4 c5 c6 c7 c8 c9 c10 c11 = some 0 := by
  unfold shape_Check.f shape_Check.g
  rw [if_pos (chk_inb.2 h)]
theorem chk_no {c0 c1 c2 c3 c4 c5 c6 c7 c8 c9 c10 c11 : Int} (h : ¬ InB c0 c1 c2 c3 c4 c5 c6 c7 c8 c9 c10 c11) : shape_Check.f c0 c1 c2 c3 c4 c5 c6 c7 c8 c9 c10 c11 = some 1 := by
  unfold shape_Check.f shape_Check.g
  rw [if_neg (fun h2 => h (chk_inb.1 h2))]
theorem mul8 {a b m : Int} (a0 : 1 ≤ a) (am : a ≤ m) (b0 : 1 ≤ b) (b8 : b ≤ 8) : 1 ≤ a * b ∧ a * b ≤ 8 * m := by
  have h1 : a * b ≤ a * 8 := Int.mul_le_mul_of_nonneg_left b8 (by omega)
  have h2 : a * 1 ≤ a * b := Int.mul_le_mul_of_nonneg_left b0 (by omega)
  omega
theorem w64 {x : Int} (h0 : 0 ≤ x) (h1 : x ≤ 1000000000) : wrap64 x = x := by unfold wrap64; omega
/-- Words of any configuration. -/
theorem words_small (c0 c1 c2 c3 c4 c5 c6 c7 c8 c9 c10 c11 : Int) : ∃ n : Int, 0 ≤ n ∧ n ≤ 65536 ∧ shape_Words.f c0 c1 c2 c3 c4 c5 c6 c7 c8 c9 c10 c11 = some n := by
  by_cases h : InB c0 c1 c2 c3 c4 c5 c6 c7 c8 c9 c10 c11
  · have s := chk_yes h
    obtain ⟨⟨a0, b0⟩, ⟨a1, b1⟩, ⟨a2, b2⟩, ⟨a3, b3⟩, _⟩ := h
    have m1 := mul8 a0 b0 a1 b1
    have m2 := mul8 m1.1 m1.2 a2 b2
    have m3 := mul8 m2.1 m2.2 a3 b3
    refine ⟨c0 * c1 * c2 * c3, by omega, by omega, ?_⟩
    unfold shape_Words.f shape_counts.f
    rw [s]
    simp only [Option.bind_some, if_true]
    rw [w64 (x := c0 * c1) (by omega) (by omega), w64 (x := c0 * c1 * c2) (by omega) (by omega), w64 (x := c0 * c1 * c2 * c3) (by omega) (by omega)]
  · refine ⟨0, by omega, by omega, ?_⟩
    unfold shape_Words.f shape_counts.f
    rw [chk_no h]
    simp only [Option.bind_some]
    rw [if_neg (by omega)]
    simp only [Option.bind_some, Int.zero_mul]
    rw [w64 (by omega) (by omega)]
end Go.Proofs.YtefcjnnngaaihaaDoor.Pg
