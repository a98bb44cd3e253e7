import Derived.Test.YtkfhnicojokafaaGreatCc7
/- Configurations in plain Lean. -/
namespace Go.Proofs.YtkfhnicojokafaaGreat.Co
open Go.RowKit Go.Proofs.YtkfhnicojokafaaGreatW.PrintWords Go.Proofs.YtkfhnicojokafaaGreatW.PrintLast Go.Proofs.YtkfhnicojokafaaGreatW.PrintMore Go.Proofs.YtkfhnicojokafaaGreat.PMd Go.Proofs.YtkfhnicojokafaaGreat.Ln
set_option linter.unusedVariables false
set_option linter.unusedSimpArgs false
def InB (c0 c1 c2 c3 c4 c5 c6 c7 c8 c9 c10 c11 : Int) : Prop :=
  (1 ≤ c0 ∧ c0 ≤ 8) ∧ (1 ≤ c1 ∧ c1 ≤ 8) ∧ (1 ≤ c2 ∧ c2 ≤ 8) ∧ (1 ≤ c3 ∧ c3 ≤ 8) ∧ (1 ≤ c4 ∧ c4 ≤ 64) ∧ (0 ≤ c5 ∧ c5 ≤ 48) ∧ (1 ≤ c6 ∧ c6 ≤ 8) ∧ (1 ≤ c7 ∧ c7 ≤ 4096) ∧ (1 ≤ c8 ∧ c8 ≤ 1000) ∧ (0 ≤ c9 ∧ c9 ≤ 64) ∧ (1 ≤ c10 ∧ c10 ≤ 10000) ∧ (0 ≤ c11 ∧ c11 ≤ 2)
theorem chk_inb {c0 c1 c2 c3 c4 c5 c6 c7 c8 c9 c10 c11 : Int} : shape_Check.chkAll (shape_Check.chkN c0 c1 c2 c3 c4 c5 c6 c7 c8 c9 c10 c11) 12 = true ↔ InB c0 c1 c2 c3 c4 c5 c6 c7 c8 c9 c10 c11 := by
  simp only [shape_Check.chkAll, shape_Check.chkN, shape_Check.chkLo, shape_Check.chkHi, Bool.and_eq_true, Bool.not_eq_true', Bool.or_eq_false_iff, decide_eq_false_iff_not, Int.not_lt, InB, true_and]
  constructor
  · rintro ⟨⟨⟨⟨⟨⟨⟨⟨⟨⟨⟨h0, h1⟩, h2⟩, h3⟩, h4⟩, h5⟩, h6⟩, h7⟩, h8⟩, h9⟩, h10⟩, h11⟩
    exact ⟨h0, h1, h2, h3, h4, h5, h6, h7, h8, h9, h10, h11⟩
  · rintro ⟨h0, h1, h2, h3, h4, h5, h6, h7, h8, h9, h10, h11⟩
    exact ⟨⟨⟨⟨⟨⟨⟨⟨⟨⟨⟨h0, h1⟩, h2⟩, h3⟩, h4⟩, h5⟩, h6⟩, h7⟩, h8⟩, h9⟩, h10⟩, h11⟩
theorem chk_yes {c0 c1 c2 c3 c4 c5 c6 c7 c8 c9 c10 c11 : Int} (h : InB c0 c1 c2 c3 c4 c5 c6 c7 c8 c9 c10 c11) : shape_Check.f c0 c1 c2 c3 c4 c5 c6 c7 c8 c9 c10 c11 = some 0 := by
  unfold shape_Check.f shape_Check.g
  rw [if_pos (chk_inb.2 h)]
theorem chk_no {c0 c1 c2 c3 c4 c5 c6 c7 c8 c9 c10 c11 : Int} (h : ¬ InB c0 c1 c2 c3 c4 c5 c6 c7 c8 c9 c10 c11) : shape_Check.f c0 c1 c2 c3 c4 c5 c6 c7 c8 c9 c10 c11 = some 1 := by
  unfold shape_Check.f shape_Check.g
  rw [if_neg (fun h2 => h (chk_inb.1 h2))]
theorem mul8 {a b m : Int} (a0 : 1 ≤ a) (am : a ≤ m) (b0 : 1 ≤ b) (b8 : b ≤ 8) : a ≤ a * b ∧ a * b ≤ 8 * m := by
  have h1 : a * b ≤ a * 8 := Int.mul_le_mul_of_nonneg_left b8 (by omega)
  have h2 : a * 1 ≤ a * b := Int.mul_le_mul_of_nonneg_left b0 (by omega)
  omega
/-- How large it is. -/
theorem conf_good {c0 c1 c2 c3 c4 c5 c6 c7 c8 c9 c10 c11 : Int} (h : InB c0 c1 c2 c3 c4 c5 c6 c7 c8 c9 c10 c11) : ∃ m sz nd : Nat, 1 ≤ m ∧ m ≤ sz ∧ sz ≤ 65536 ∧ 1 ≤ nd ∧ nd ≤ 10000 ∧
    shape_Words.f c0 c1 c2 c3 c4 c5 c6 c7 c8 c9 c10 c11 = some (m : Int) ∧ shape_Cells.f c0 c1 c2 c3 c4 c5 c6 c7 c8 c9 c10 c11 = some (sz : Int) ∧ shape_Nodes.f c0 c1 c2 c3 c4 c5 c6 c7 c8 c9 c10 c11 = some (nd : Int) := by
  have s := chk_yes h
  obtain ⟨⟨a0, b0⟩, ⟨a1, b1⟩, ⟨a2, b2⟩, ⟨a3, b3⟩, _⟩ := h
  have m1 := mul8 a0 b0 a1 b1
  have m2 := mul8 (a := c0 * c1) (m := 8 * 8) (by omega) m1.2 a2 b2
  have m3 := mul8 (a := c0 * c1 * c2) (m := 8 * (8 * 8)) (by omega) m2.2 a3 b3
  have w1 : wrap64 (c0 * c1) = c0 * c1 := wrap_in _ (by omega) (by omega)
  have w2 : wrap64 (c0 * c1 * c2) = c0 * c1 * c2 := wrap_in _ (by omega) (by omega)
  have w3 : wrap64 (c0 * c1 * c2 * c3) = c0 * c1 * c2 * c3 := wrap_in _ (by omega) (by omega)
  generalize hO : c0 * c1 = O at *
  generalize hS : O * c2 = S at *
  generalize hM : S * c3 = M at *
  have w4 : wrap64 (S * 8) = S * 8 := wrap_in _ (by omega) (by omega)
  have w5 : wrap64 (M + S * 8) = M + S * 8 := wrap_in _ (by omega) (by omega)
  have w6 : wrap64 (c0 + O) = c0 + O := wrap_in _ (by omega) (by omega)
  have w7 : wrap64 (c0 + O + S) = c0 + O + S := wrap_in _ (by omega) (by omega)
  refine ⟨M.toNat, (M + S * 8).toNat, (c0 + O + S).toNat, by omega, by omega, by omega, by omega, by omega, ?_, ?_, ?_⟩
  · unfold shape_Words.f shape_counts.f
    rw [s]
    simp only [Option.bind_some, if_true]
    rw [hO, w1, hS, w2, hM, w3, Int.toNat_of_nonneg (by omega)]
  · unfold shape_Cells.f shape_counts.f
    rw [s]
    simp only [Option.bind_some, if_true]
    rw [hO, w1, hS, w2, hM, w3, w4, w5, Int.toNat_of_nonneg (by omega)]
  · unfold shape_Nodes.f shape_counts.f
    rw [s]
    simp only [Option.bind_some, if_true]
    rw [hO, w1, hS, w2, w6, w7, Int.toNat_of_nonneg (by omega)]
theorem refstep (k : Nat) (L : List Int) (i c0 c1 c2 c3 c4 c5 c6 c7 c8 c9 c10 c11 x : Int) (h0 : 0 ≤ i) (h1 : i < 4) (hl : L.length = 4) (hx : rd L i = x) :
    ltkref1_Check.l0 (k + 1) L i c0 c1 c2 c3 c4 c5 c6 c7 c8 c9 c10 c11 = if x < 1 then some 1 else if x > 8 then some 1 else ltkref1_Check.l0 k L (i + 1) c0 c1 c2 c3 c4 c5 c6 c7 c8 c9 c10 c11 := by
  simp only [ltkref1_Check.l0]
  rw [if_pos h1, if_pos h0, if_pos (by omega), hx, wrap_in _ (by omega) (by omega)]
theorem ref_all (c0 c1 c2 c3 c4 c5 c6 c7 c8 c9 c10 c11 : Int) {k : Nat} (hk : 10 ≤ k) :
    (InB c0 c1 c2 c3 c4 c5 c6 c7 c8 c9 c10 c11 → ltkref1_Check.f k c0 c1 c2 c3 c4 c5 c6 c7 c8 c9 c10 c11 = some 0) ∧ (¬ InB c0 c1 c2 c3 c4 c5 c6 c7 c8 c9 c10 c11 → ltkref1_Check.f k c0 c1 c2 c3 c4 c5 c6 c7 c8 c9 c10 c11 = some 1) := by
  obtain ⟨k, rfl⟩ : ∃ z, k = z + 5 := ⟨k - 5, by omega⟩
  have e : ltkref1_Check.f (k + 5) c0 c1 c2 c3 c4 c5 c6 c7 c8 c9 c10 c11 = ltkref1_Check.l0 (k + 4 + 1) [c0, c1, c2, c3] 0 c0 c1 c2 c3 c4 c5 c6 c7 c8 c9 c10 c11 := rfl
  rw [e, refstep _ _ 0 _ _ _ _ _ _ _ _ _ _ _ _ c0 (by omega) (by omega) rfl rfl, refstep (k + 3) _ (0 + 1) _ _ _ _ _ _ _ _ _ _ _ _ c1 (by omega) (by omega) rfl rfl, refstep (k + 2) _ (0 + 1 + 1) _ _ _ _ _ _ _ _ _ _ _ _ c2 (by omega) (by omega) rfl rfl, refstep (k + 1) _ (0 + 1 + 1 + 1) _ _ _ _ _ _ _ _ _ _ _ _ c3 (by omega) (by omega) rfl rfl]
  have e2 : ltkref1_Check.l0 (k + 1) [c0, c1, c2, c3] (0 + 1 + 1 + 1 + 1) c0 c1 c2 c3 c4 c5 c6 c7 c8 c9 c10 c11 = if c4 < 1 then some 1 else if c4 > 64 then some 1 else if c5 < 0 then some 1 else if c5 > 48 then some 1 else if c6 < 1 then some 1 else if c6 > 8 then some 1 else if c7 < 1 then some 1 else if c7 > 4096 then some 1 else if c8 < 1 then some 1 else if c8 > 1000 then some 1 else if c9 < 0 then some 1 else if c9 > 64 then some 1 else if c10 < 1 then some 1 else if c10 > 10000 then some 1 else if c11 < 0 then some 1 else if c11 > 2 then some 1 else some 0 := by
    simp only [ltkref1_Check.l0]
    rw [if_neg (by omega)]
  rw [e2]
  clear e e2
  constructor
  · rintro ⟨⟨a0, b0⟩, ⟨a1, b1⟩, ⟨a2, b2⟩, ⟨a3, b3⟩, ⟨a4, b4⟩, ⟨a5, b5⟩, ⟨a6, b6⟩, ⟨a7, b7⟩, ⟨a8, b8⟩, ⟨a9, b9⟩, ⟨a10, b10⟩, ⟨a11, b11⟩⟩
    rw [if_neg (by omega), if_neg (by omega), if_neg (by omega), if_neg (by omega), if_neg (by omega), if_neg (by omega), if_neg (by omega), if_neg (by omega), if_neg (by omega), if_neg (by omega), if_neg (by omega), if_neg (by omega), if_neg (by omega), if_neg (by omega), if_neg (by omega), if_neg (by omega), if_neg (by omega), if_neg (by omega), if_neg (by omega), if_neg (by omega), if_neg (by omega), if_neg (by omega), if_neg (by omega), if_neg (by omega)]
  · intro h
    by_cases x0 : c0 < 1; · rw [if_pos x0]
    rw [if_neg x0]; by_cases y0 : c0 > 8; · rw [if_pos y0]
    rw [if_neg y0]; by_cases x1 : c1 < 1; · rw [if_pos x1]
    rw [if_neg x1]; by_cases y1 : c1 > 8; · rw [if_pos y1]
    rw [if_neg y1]; by_cases x2 : c2 < 1; · rw [if_pos x2]
    rw [if_neg x2]; by_cases y2 : c2 > 8; · rw [if_pos y2]
    rw [if_neg y2]; by_cases x3 : c3 < 1; · rw [if_pos x3]
    rw [if_neg x3]; by_cases y3 : c3 > 8; · rw [if_pos y3]
    rw [if_neg y3]; by_cases x4 : c4 < 1; · rw [if_pos x4]
    rw [if_neg x4]; by_cases y4 : c4 > 64; · rw [if_pos y4]
    rw [if_neg y4]; by_cases x5 : c5 < 0; · rw [if_pos x5]
    rw [if_neg x5]; by_cases y5 : c5 > 48; · rw [if_pos y5]
    rw [if_neg y5]; by_cases x6 : c6 < 1; · rw [if_pos x6]
    rw [if_neg x6]; by_cases y6 : c6 > 8; · rw [if_pos y6]
    rw [if_neg y6]; by_cases x7 : c7 < 1; · rw [if_pos x7]
    rw [if_neg x7]; by_cases y7 : c7 > 4096; · rw [if_pos y7]
    rw [if_neg y7]; by_cases x8 : c8 < 1; · rw [if_pos x8]
    rw [if_neg x8]; by_cases y8 : c8 > 1000; · rw [if_pos y8]
    rw [if_neg y8]; by_cases x9 : c9 < 0; · rw [if_pos x9]
    rw [if_neg x9]; by_cases y9 : c9 > 64; · rw [if_pos y9]
    rw [if_neg y9]; by_cases x10 : c10 < 1; · rw [if_pos x10]
    rw [if_neg x10]; by_cases y10 : c10 > 10000; · rw [if_pos y10]
    rw [if_neg y10]; by_cases x11 : c11 < 0; · rw [if_pos x11]
    rw [if_neg x11]; by_cases y11 : c11 > 2; · rw [if_pos y11]
    exact absurd ⟨⟨by omega, by omega⟩, ⟨by omega, by omega⟩, ⟨by omega, by omega⟩, ⟨by omega, by omega⟩, ⟨by omega, by omega⟩, ⟨by omega, by omega⟩, ⟨by omega, by omega⟩, ⟨by omega, by omega⟩, ⟨by omega, by omega⟩, ⟨by omega, by omega⟩, ⟨by omega, by omega⟩, ⟨by omega, by omega⟩⟩ h
theorem mul8b {a b m : Int} (a0 : 1 ≤ a) (am : a ≤ m) (b0 : 1 ≤ b) (b8 : b ≤ 8) : 1 ≤ a * b ∧ a * b ≤ 8 * m := by
  have h1 : a * b ≤ a * 8 := Int.mul_le_mul_of_nonneg_left b8 (by omega)
  have h2 : a * 1 ≤ a * b := Int.mul_le_mul_of_nonneg_left b0 (by omega)
  omega
theorem words_any (c0 c1 c2 c3 c4 c5 c6 c7 c8 c9 c10 c11 : Int) : ∃ n : Nat, n ≤ 65536 ∧ shape_Words.f c0 c1 c2 c3 c4 c5 c6 c7 c8 c9 c10 c11 = some (n : Int) ∧ ltkref1_Words.f 10 c0 c1 c2 c3 c4 c5 c6 c7 c8 c9 c10 c11 = some (n : Int) := by
  by_cases h : InB c0 c1 c2 c3 c4 c5 c6 c7 c8 c9 c10 c11
  · have r := (ref_all c0 c1 c2 c3 c4 c5 c6 c7 c8 c9 c10 c11 (k := 10) (by omega)).1 h
    have s := chk_yes h
    obtain ⟨⟨a0, b0⟩, ⟨a1, b1⟩, ⟨a2, b2⟩, ⟨a3, b3⟩, _⟩ := h
    have m1 := mul8b a0 b0 a1 b1
    have m2 := mul8b m1.1 m1.2 a2 b2
    have m3 := mul8b m2.1 m2.2 a3 b3
    have w1 : wrap64 (c0 * c1) = c0 * c1 := wrap_in _ (by omega) (by omega)
    have w2 : wrap64 (c0 * c1 * c2) = c0 * c1 * c2 := wrap_in _ (by omega) (by omega)
    have w3 : wrap64 (c0 * c1 * c2 * c3) = c0 * c1 * c2 * c3 := wrap_in _ (by omega) (by omega)
    refine ⟨(c0 * c1 * c2 * c3).toNat, by omega, ?_, ?_⟩
    · unfold shape_Words.f shape_counts.f
      rw [s]
      simp only [Option.bind_some, if_true]
      rw [w1, w2, w3, Int.toNat_of_nonneg (by omega)]
    · unfold ltkref1_Words.f ltkref1_stripes.f ltkref1_objects.f
      rw [r]
      simp only [Option.bind_some, if_true]
      rw [w1, w2, w3, Int.toNat_of_nonneg (by omega)]
  · refine ⟨0, by omega, ?_, ?_⟩
    · unfold shape_Words.f shape_counts.f
      rw [chk_no h]
      simp only [Option.bind_some]
      rw [if_neg (by omega)]
      simp only [Option.bind_some, Int.zero_mul]
      rw [wrap_in _ (by omega) (by omega)]
      rfl
    · unfold ltkref1_Words.f
      rw [(ref_all c0 c1 c2 c3 c4 c5 c6 c7 c8 c9 c10 c11 (k := 10) (by omega)).2 h]
      simp only [Option.bind_some]
      rw [if_neg (by omega)]
      rfl
theorem IsCore.bound {w : World} {b : Nat} {P : Pl} {F : Nat → Prop} {s : CoreS} (h : IsCore w b P F s) : IsCore w b P (fun k => F k ∧ k < w.heap.size) s := by
  obtain ⟨tA, tc, aA, ac, dA, dc, FC, h1, h2, h3, h4, h5, h6, h7, h8, h9, h10, h11, h12, h13⟩ := h
  exact ⟨tA, tc, aA, ac, dA, dc, fun k => FC k ∧ k < w.heap.size, h1, h2, ⟨h3, (Array.getElem?_eq_some_iff.1 h1).1⟩, ⟨h4, (Array.getElem?_eq_some_iff.1 h2).1⟩, h5, fun k hk => ⟨h6 k hk, h5.lt hk⟩, h7, fun k hk => ⟨h8 k hk, h7.lt hk⟩, h9, fun k hk => ⟨h10 k hk, h9.lt hk⟩,
    h11.mono (fun k hl hk => ⟨hk, hl⟩), fun k hk => ⟨h12 k hk.1, hk.2⟩, fun k hk => h13 k hk.1⟩
end Go.Proofs.YtkfhnicojokafaaGreat.Co
