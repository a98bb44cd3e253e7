import Derived.Test.YtkceadieigpolaaGreatPa2
namespace Go.Proofs.YtkceadieigpolaaGreat.Ln
open Go.RowKit Go.Proofs.YtkceadieigpolaaGreatW.PrintWords Go.Proofs.YtkceadieigpolaaGreatW.PrintLast Go.Proofs.YtkceadieigpolaaGreatW.PrintMore Go.Proofs.YtkceadieigpolaaGreat.PMd
set_option linter.unusedVariables false
set_option linter.unusedSimpArgs false
structure Okc (c : Cf) : Prop where
  b0 : 1 ≤ c.f0 ∧ c.f0 ≤ 8
  b1 : 1 ≤ c.f1 ∧ c.f1 ≤ 8
  b2 : 1 ≤ c.f2 ∧ c.f2 ≤ 8
  b3 : 1 ≤ c.f3 ∧ c.f3 ≤ 8
  b4 : 1 ≤ c.f4 ∧ c.f4 ≤ 64
  b5 : 0 ≤ c.f5 ∧ c.f5 ≤ 48
  b6 : 1 ≤ c.f6 ∧ c.f6 ≤ 8
  b7 : 1 ≤ c.f7 ∧ c.f7 ≤ 4096
  b8 : 1 ≤ c.f8 ∧ c.f8 ≤ 1000
  b9 : 0 ≤ c.f9 ∧ c.f9 ≤ 64
  b10 : 1 ≤ c.f10 ∧ c.f10 ≤ 10000
  b11 : 0 ≤ c.f11 ∧ c.f11 ≤ 2
set_option maxHeartbeats 8000000 in
theorem chk_l0 (c : Cf) (k : Nat) (hk : 5 < k) : ∃ r, ltkref1_Check.l0 k [c.f0, c.f1, c.f2, c.f3] 0 c.f0 c.f1 c.f2 c.f3 c.f4 c.f5 c.f6 c.f7 c.f8 c.f9 c.f10 c.f11 = some r ∧ (r = 0 ↔ Okc c) := by
  obtain ⟨k, rfl⟩ : ∃ m, k = m + 5 := ⟨k - 5, by omega⟩
  have r0 : rd [c.f0, c.f1, c.f2, c.f3] 0 = c.f0 := by simp [rd]
  have r1 : rd [c.f0, c.f1, c.f2, c.f3] 1 = c.f1 := by simp [rd]
  have r2 : rd [c.f0, c.f1, c.f2, c.f3] 2 = c.f2 := by simp [rd]
  have r3 : rd [c.f0, c.f1, c.f2, c.f3] 3 = c.f3 := by simp [rd]
  have w0 : wrap64 (0 + 1) = 1 := by unfold wrap64; omega
  have w1 : wrap64 (1 + 1) = 2 := by unfold wrap64; omega
  have w2 : wrap64 (2 + 1) = 3 := by unfold wrap64; omega
  have w3 : wrap64 (3 + 1) = 4 := by unfold wrap64; omega
  have ll : (([c.f0, c.f1, c.f2, c.f3] : List Int).length : Int) = 4 := rfl
  have i0 : (0 : Int) < 4 := by decide
  have i1 : (1 : Int) < 4 := by decide
  have i2 : (2 : Int) < 4 := by decide
  have i3 : (3 : Int) < 4 := by decide
  have i4 : ¬ (4 : Int) < 4 := by decide
  have j0 : (0 : Int) ≤ 0 := by decide
  have j1 : (0 : Int) ≤ 1 := by decide
  have j2 : (0 : Int) ≤ 2 := by decide
  have j3 : (0 : Int) ≤ 3 := by decide
  suffices hh : (Okc c ∧ ltkref1_Check.l0 (k + 5) [c.f0, c.f1, c.f2, c.f3] 0 c.f0 c.f1 c.f2 c.f3 c.f4 c.f5 c.f6 c.f7 c.f8 c.f9 c.f10 c.f11 = some 0) ∨ (¬ Okc c ∧ ltkref1_Check.l0 (k + 5) [c.f0, c.f1, c.f2, c.f3] 0 c.f0 c.f1 c.f2 c.f3 c.f4 c.f5 c.f6 c.f7 c.f8 c.f9 c.f10 c.f11 = some 1) by
    rcases hh with ⟨h1, h2⟩ | ⟨h1, h2⟩
    · exact ⟨0, h2, fun _ => h1, fun _ => rfl⟩
    · exact ⟨1, h2, fun h => by simp at h, fun h => absurd h h1⟩
  obtain ⟨X, hX⟩ : ∃ X, ltkref1_Check.l0 (k + 5) [c.f0, c.f1, c.f2, c.f3] 0 c.f0 c.f1 c.f2 c.f3 c.f4 c.f5 c.f6 c.f7 c.f8 c.f9 c.f10 c.f11 = X := ⟨_, rfl⟩
  rw [hX]
  simp only [ltkref1_Check.l0, ll, r0, r1, r2, r3, w0, w1, w2, w3, i0, i1, i2, i3, i4, j0, j1, j2, j3, if_true, if_false] at hX
  clear r0 r1 r2 r3 w0 w1 w2 w3 ll i0 i1 i2 i3 i4 j0 j1 j2 j3
  by_cases g0 : c.f0 < 1
  · rw [if_pos g0] at hX
    exact .inr ⟨fun h => by have := h.b0; omega, hX.symm⟩
  rw [if_neg g0] at hX
  by_cases k0 : c.f0 > 8
  · rw [if_pos k0] at hX
    exact .inr ⟨fun h => by have := h.b0; omega, hX.symm⟩
  rw [if_neg k0] at hX
  by_cases g1 : c.f1 < 1
  · rw [if_pos g1] at hX
    exact .inr ⟨fun h => by have := h.b1; omega, hX.symm⟩
  rw [if_neg g1] at hX
  by_cases k1 : c.f1 > 8
  · rw [if_pos k1] at hX
    exact .inr ⟨fun h => by have := h.b1; omega, hX.symm⟩
  rw [if_neg k1] at hX
  by_cases g2 : c.f2 < 1
  · rw [if_pos g2] at hX
    exact .inr ⟨fun h => by have := h.b2; omega, hX.symm⟩
  rw [if_neg g2] at hX
  by_cases k2 : c.f2 > 8
  · rw [if_pos k2] at hX
    exact .inr ⟨fun h => by have := h.b2; omega, hX.symm⟩
  rw [if_neg k2] at hX
  by_cases g3 : c.f3 < 1
  · rw [if_pos g3] at hX
    exact .inr ⟨fun h => by have := h.b3; omega, hX.symm⟩
  rw [if_neg g3] at hX
  by_cases k3 : c.f3 > 8
  · rw [if_pos k3] at hX
    exact .inr ⟨fun h => by have := h.b3; omega, hX.symm⟩
  rw [if_neg k3] at hX
  by_cases g4 : c.f4 < 1
  · rw [if_pos g4] at hX
    exact .inr ⟨fun h => by have := h.b4; omega, hX.symm⟩
  rw [if_neg g4] at hX
  by_cases k4 : c.f4 > 64
  · rw [if_pos k4] at hX
    exact .inr ⟨fun h => by have := h.b4; omega, hX.symm⟩
  rw [if_neg k4] at hX
  by_cases g5 : c.f5 < 0
  · rw [if_pos g5] at hX
    exact .inr ⟨fun h => by have := h.b5; omega, hX.symm⟩
  rw [if_neg g5] at hX
  by_cases k5 : c.f5 > 48
  · rw [if_pos k5] at hX
    exact .inr ⟨fun h => by have := h.b5; omega, hX.symm⟩
  rw [if_neg k5] at hX
  by_cases g6 : c.f6 < 1
  · rw [if_pos g6] at hX
    exact .inr ⟨fun h => by have := h.b6; omega, hX.symm⟩
  rw [if_neg g6] at hX
  by_cases k6 : c.f6 > 8
  · rw [if_pos k6] at hX
    exact .inr ⟨fun h => by have := h.b6; omega, hX.symm⟩
  rw [if_neg k6] at hX
  by_cases g7 : c.f7 < 1
  · rw [if_pos g7] at hX
    exact .inr ⟨fun h => by have := h.b7; omega, hX.symm⟩
  rw [if_neg g7] at hX
  by_cases k7 : c.f7 > 4096
  · rw [if_pos k7] at hX
    exact .inr ⟨fun h => by have := h.b7; omega, hX.symm⟩
  rw [if_neg k7] at hX
  by_cases g8 : c.f8 < 1
  · rw [if_pos g8] at hX
    exact .inr ⟨fun h => by have := h.b8; omega, hX.symm⟩
  rw [if_neg g8] at hX
  by_cases k8 : c.f8 > 1000
  · rw [if_pos k8] at hX
    exact .inr ⟨fun h => by have := h.b8; omega, hX.symm⟩
  rw [if_neg k8] at hX
  by_cases g9 : c.f9 < 0
  · rw [if_pos g9] at hX
    exact .inr ⟨fun h => by have := h.b9; omega, hX.symm⟩
  rw [if_neg g9] at hX
  by_cases k9 : c.f9 > 64
  · rw [if_pos k9] at hX
    exact .inr ⟨fun h => by have := h.b9; omega, hX.symm⟩
  rw [if_neg k9] at hX
  by_cases g10 : c.f10 < 1
  · rw [if_pos g10] at hX
    exact .inr ⟨fun h => by have := h.b10; omega, hX.symm⟩
  rw [if_neg g10] at hX
  by_cases k10 : c.f10 > 10000
  · rw [if_pos k10] at hX
    exact .inr ⟨fun h => by have := h.b10; omega, hX.symm⟩
  rw [if_neg k10] at hX
  by_cases g11 : c.f11 < 0
  · rw [if_pos g11] at hX
    exact .inr ⟨fun h => by have := h.b11; omega, hX.symm⟩
  rw [if_neg g11] at hX
  by_cases k11 : c.f11 > 2
  · rw [if_pos k11] at hX
    exact .inr ⟨fun h => by have := h.b11; omega, hX.symm⟩
  rw [if_neg k11] at hX
  exact .inl ⟨⟨⟨by omega, by omega⟩, ⟨by omega, by omega⟩, ⟨by omega, by omega⟩, ⟨by omega, by omega⟩, ⟨by omega, by omega⟩, ⟨by omega, by omega⟩, ⟨by omega, by omega⟩, ⟨by omega, by omega⟩, ⟨by omega, by omega⟩, ⟨by omega, by omega⟩, ⟨by omega, by omega⟩, ⟨by omega, by omega⟩⟩, hX.symm⟩
theorem chk_f (c : Cf) : ∃ r, ltkref1_Check.f 20 c.f0 c.f1 c.f2 c.f3 c.f4 c.f5 c.f6 c.f7 c.f8 c.f9 c.f10 c.f11 = some r ∧ (r = 0 ↔ Okc c) := chk_l0 c 20 (by omega)
theorem shape_ok {c : Cf} (h : Okc c) : shape_Check.f c.f0 c.f1 c.f2 c.f3 c.f4 c.f5 c.f6 c.f7 c.f8 c.f9 c.f10 c.f11 = some 0 := by
  unfold shape_Check.f
  refine congrArg some (shape_Check.good_of ?_)
  obtain ⟨q0, q1, q2, q3, q4, q5, q6, q7, q8, q9, q10, q11⟩ := h
  have h0 := shape_Check.chkAll_succ (n := shape_Check.chkN c.f0 c.f1 c.f2 c.f3 c.f4 c.f5 c.f6 c.f7 c.f8 c.f9 c.f10 c.f11) (k := 0) rfl (show ¬ c.f0 < 1 by omega) (show ¬ (8 : Int) < c.f0 by omega)
  have h1 := shape_Check.chkAll_succ (n := shape_Check.chkN c.f0 c.f1 c.f2 c.f3 c.f4 c.f5 c.f6 c.f7 c.f8 c.f9 c.f10 c.f11) (k := 1) h0 (show ¬ c.f1 < 1 by omega) (show ¬ (8 : Int) < c.f1 by omega)
  have h2 := shape_Check.chkAll_succ (n := shape_Check.chkN c.f0 c.f1 c.f2 c.f3 c.f4 c.f5 c.f6 c.f7 c.f8 c.f9 c.f10 c.f11) (k := 2) h1 (show ¬ c.f2 < 1 by omega) (show ¬ (8 : Int) < c.f2 by omega)
  have h3 := shape_Check.chkAll_succ (n := shape_Check.chkN c.f0 c.f1 c.f2 c.f3 c.f4 c.f5 c.f6 c.f7 c.f8 c.f9 c.f10 c.f11) (k := 3) h2 (show ¬ c.f3 < 1 by omega) (show ¬ (8 : Int) < c.f3 by omega)
  have h4 := shape_Check.chkAll_succ (n := shape_Check.chkN c.f0 c.f1 c.f2 c.f3 c.f4 c.f5 c.f6 c.f7 c.f8 c.f9 c.f10 c.f11) (k := 4) h3 (show ¬ c.f4 < 1 by omega) (show ¬ (64 : Int) < c.f4 by omega)
  have h5 := shape_Check.chkAll_succ (n := shape_Check.chkN c.f0 c.f1 c.f2 c.f3 c.f4 c.f5 c.f6 c.f7 c.f8 c.f9 c.f10 c.f11) (k := 5) h4 (show ¬ c.f5 < 0 by omega) (show ¬ (48 : Int) < c.f5 by omega)
  have h6 := shape_Check.chkAll_succ (n := shape_Check.chkN c.f0 c.f1 c.f2 c.f3 c.f4 c.f5 c.f6 c.f7 c.f8 c.f9 c.f10 c.f11) (k := 6) h5 (show ¬ c.f6 < 1 by omega) (show ¬ (8 : Int) < c.f6 by omega)
  have h7 := shape_Check.chkAll_succ (n := shape_Check.chkN c.f0 c.f1 c.f2 c.f3 c.f4 c.f5 c.f6 c.f7 c.f8 c.f9 c.f10 c.f11) (k := 7) h6 (show ¬ c.f7 < 1 by omega) (show ¬ (4096 : Int) < c.f7 by omega)
  have h8 := shape_Check.chkAll_succ (n := shape_Check.chkN c.f0 c.f1 c.f2 c.f3 c.f4 c.f5 c.f6 c.f7 c.f8 c.f9 c.f10 c.f11) (k := 8) h7 (show ¬ c.f8 < 1 by omega) (show ¬ (1000 : Int) < c.f8 by omega)
  have h9 := shape_Check.chkAll_succ (n := shape_Check.chkN c.f0 c.f1 c.f2 c.f3 c.f4 c.f5 c.f6 c.f7 c.f8 c.f9 c.f10 c.f11) (k := 9) h8 (show ¬ c.f9 < 0 by omega) (show ¬ (64 : Int) < c.f9 by omega)
  have h10 := shape_Check.chkAll_succ (n := shape_Check.chkN c.f0 c.f1 c.f2 c.f3 c.f4 c.f5 c.f6 c.f7 c.f8 c.f9 c.f10 c.f11) (k := 10) h9 (show ¬ c.f10 < 1 by omega) (show ¬ (10000 : Int) < c.f10 by omega)
  have h11 := shape_Check.chkAll_succ (n := shape_Check.chkN c.f0 c.f1 c.f2 c.f3 c.f4 c.f5 c.f6 c.f7 c.f8 c.f9 c.f10 c.f11) (k := 11) h10 (show ¬ c.f11 < 0 by omega) (show ¬ (2 : Int) < c.f11 by omega)
  exact h11
theorem wrap_id {x : Int} (h : 0 ≤ x ∧ x ≤ 1000000) : wrap64 x = x := by unfold wrap64; omega
def InB (c0 c1 c2 c3 c4 c5 c6 c7 c8 c9 c10 c11 : Int) : Prop :=
  (1 ≤ c0 ∧ c0 ≤ 8) ∧ (1 ≤ c1 ∧ c1 ≤ 8) ∧ (1 ≤ c2 ∧ c2 ≤ 8) ∧ (1 ≤ c3 ∧ c3 ≤ 8) ∧ (1 ≤ c4 ∧ c4 ≤ 64) ∧ (0 ≤ c5 ∧ c5 ≤ 48) ∧ (1 ≤ c6 ∧ c6 ≤ 8) ∧ (1 ≤ c7 ∧ c7 ≤ 4096) ∧ (1 ≤ c8 ∧ c8 ≤ 1000) ∧ (0 ≤ c9 ∧ c9 ≤ 64) ∧ (1 ≤ c10 ∧ c10 ≤ 10000) ∧ (0 ≤ c11 ∧ c11 ≤ 2)
theorem chk_inb {c0 c1 c2 c3 c4 c5 c6 c7 c8 c9 c10 c11 : Int} : shape_Check.chkAll (shape_Check.chkN c0 c1 c2 c3 c4 c5 c6 c7 c8 c9 c10 c11) 12 = true ↔ InB c0 c1 c2 c3 c4 c5 c6 c7 c8 c9 c10 c11 := by
  simp only [shape_Check.chkAll, shape_Check.chkN, shape_Check.chkLo, shape_Check.chkHi, Bool.and_eq_true, Bool.not_eq_true', Bool.or_eq_false_iff, decide_eq_false_iff_not, Int.not_lt, InB, true_and]
  constructor
  · rintro ⟨⟨⟨⟨⟨⟨⟨⟨⟨⟨⟨h0, h1⟩, h2⟩, h3⟩, h4⟩, h5⟩, h6⟩, h7⟩, h8⟩, h9⟩, h10⟩, h11⟩
    exact ⟨h0, h1, h2, h3, h4, h5, h6, h7, h8, h9, h10, h11⟩
  · rintro ⟨h0, h1, h2, h3, h4, h5, h6, h7, h8, h9, h10, h11⟩
    exact ⟨⟨⟨⟨⟨⟨⟨⟨⟨⟨⟨h0, h1⟩, h2⟩, h3⟩, h4⟩, h5⟩, h6⟩, h7⟩, h8⟩, h9⟩, h10⟩, h11⟩
theorem chk_no {c0 c1 c2 c3 c4 c5 c6 c7 c8 c9 c10 c11 : Int} (h : ¬ InB c0 c1 c2 c3 c4 c5 c6 c7 c8 c9 c10 c11) : shape_Check.f c0 c1 c2 c3 c4 c5 c6 c7 c8 c9 c10 c11 = some 1 := by
  unfold shape_Check.f shape_Check.g
  rw [if_neg (fun h2 => h (chk_inb.1 h2))]
theorem both_chk (c : Cf) : (Okc c ∧ shape_Check.f c.f0 c.f1 c.f2 c.f3 c.f4 c.f5 c.f6 c.f7 c.f8 c.f9 c.f10 c.f11 = some 0 ∧ ltkref1_Check.f 20 c.f0 c.f1 c.f2 c.f3 c.f4 c.f5 c.f6 c.f7 c.f8 c.f9 c.f10 c.f11 = some 0) ∨ (¬ Okc c ∧ shape_Check.f c.f0 c.f1 c.f2 c.f3 c.f4 c.f5 c.f6 c.f7 c.f8 c.f9 c.f10 c.f11 = some 1 ∧ ∃ r, ltkref1_Check.f 20 c.f0 c.f1 c.f2 c.f3 c.f4 c.f5 c.f6 c.f7 c.f8 c.f9 c.f10 c.f11 = some r ∧ r ≠ 0) := by
  obtain ⟨r, h1, h2⟩ := chk_f c
  by_cases h : Okc c
  · exact .inl ⟨h, shape_ok h, by rw [h1, h2.2 h]⟩
  · refine .inr ⟨h, chk_no (fun g => h ?_), r, h1, fun e => h (h2.1 e)⟩
    obtain ⟨g0, g1, g2, g3, g4, g5, g6, g7, g8, g9, g10, g11⟩ := g
    exact ⟨g0, g1, g2, g3, g4, g5, g6, g7, g8, g9, g10, g11⟩
theorem w00 : wrap64 (wrap64 (0 + 0) + 0) = 0 := by decide +kernel
theorem w0 : wrap64 0 = 0 := by decide +kernel
theorem slj (k : Nat) (x1 x5 x6 : Int) (x14 : Bool) : shape_Level.j0 (k + 1) x1 x5 x6 x14 = (if x14 = true then (some (-1)) else (if x1 < x5 then (some 0) else (if x1 < (wrap64 (x5 + x6)) then (some 1) else (some 2)))) := rfl
theorem rlj (k : Nat) (x1 : Int) (x5 : Bool) (c : Cf) : ltkref1_Level.j0 (k + 1) x1 x5 c.f0 c.f1 c.f2 c.f3 c.f4 c.f5 c.f6 c.f7 c.f8 c.f9 c.f10 c.f11 = (if x5 = true then (some (-1)) else (if x1 < c.f0 then (some 0) else (if x1 < (wrap64 (c.f0 + wrap64 (c.f0 * c.f1))) then (some 1) else (some 2)))) := rfl
theorem counts_yes {c : Cf} (h : shape_Check.f c.f0 c.f1 c.f2 c.f3 c.f4 c.f5 c.f6 c.f7 c.f8 c.f9 c.f10 c.f11 = some 0) : shape_counts.f c.f0 c.f1 c.f2 c.f3 c.f4 c.f5 c.f6 c.f7 c.f8 c.f9 c.f10 c.f11 = some (c.f0, wrap64 (c.f0 * c.f1), wrap64 (wrap64 (c.f0 * c.f1) * c.f2)) := by
  unfold shape_counts.f; rw [h]; rfl
theorem counts_no {c : Cf} (h : shape_Check.f c.f0 c.f1 c.f2 c.f3 c.f4 c.f5 c.f6 c.f7 c.f8 c.f9 c.f10 c.f11 = some 1) : shape_counts.f c.f0 c.f1 c.f2 c.f3 c.f4 c.f5 c.f6 c.f7 c.f8 c.f9 c.f10 c.f11 = some (0, 0, 0) := by
  unfold shape_counts.f; rw [h]; rfl
theorem nodes_yes {c : Cf} (h : ltkref1_Check.f 20 c.f0 c.f1 c.f2 c.f3 c.f4 c.f5 c.f6 c.f7 c.f8 c.f9 c.f10 c.f11 = some 0) : ltkref1_Nodes.f 20 c.f0 c.f1 c.f2 c.f3 c.f4 c.f5 c.f6 c.f7 c.f8 c.f9 c.f10 c.f11 = some (wrap64 (wrap64 (c.f0 + wrap64 (c.f0 * c.f1)) + wrap64 (wrap64 (c.f0 * c.f1) * c.f2))) := by
  unfold ltkref1_Nodes.f; rw [h]; rfl
theorem nodes_no {c : Cf} {r : Int} (h : ltkref1_Check.f 20 c.f0 c.f1 c.f2 c.f3 c.f4 c.f5 c.f6 c.f7 c.f8 c.f9 c.f10 c.f11 = some r) (hr : r ≠ 0) : ltkref1_Nodes.f 20 c.f0 c.f1 c.f2 c.f3 c.f4 c.f5 c.f6 c.f7 c.f8 c.f9 c.f10 c.f11 = some 0 := by
  unfold ltkref1_Nodes.f; rw [h]
  show (if r = 0 then _ else _) = _
  rw [if_neg hr]
def lvX (c : Cf) (j : Int) : Int := if j < 0 then -1 else if j ≥ (ltkref1_Nodes.f 20 c.f0 c.f1 c.f2 c.f3 c.f4 c.f5 c.f6 c.f7 c.f8 c.f9 c.f10 c.f11).getD 0 then -1 else if j < c.f0 then 0 else if j < wrap64 (c.f0 + wrap64 (c.f0 * c.f1)) then 1 else 2
theorem lv_ref (c : Cf) (j : Int) : ltkref1_Level.f 20 c.f0 c.f1 c.f2 c.f3 c.f4 c.f5 c.f6 c.f7 c.f8 c.f9 c.f10 c.f11 j = some (lvX c j) := by
  have hn : ∃ n, ltkref1_Nodes.f 20 c.f0 c.f1 c.f2 c.f3 c.f4 c.f5 c.f6 c.f7 c.f8 c.f9 c.f10 c.f11 = some n := by
    rcases both_chk c with ⟨_, _, h⟩ | ⟨_, _, r, h, hr⟩
    · exact ⟨_, nodes_yes h⟩
    · exact ⟨_, nodes_no h hr⟩
  obtain ⟨n, hn⟩ := hn
  unfold ltkref1_Level.f lvX
  rw [hn]
  by_cases h0 : j < 0
  · rw [if_pos h0, if_pos h0, rlj 19 j true c, if_pos rfl]
  · rw [if_neg h0, if_neg h0]
    show ltkref1_Level.j0 20 j (decide (j ≥ n)) c.f0 c.f1 c.f2 c.f3 c.f4 c.f5 c.f6 c.f7 c.f8 c.f9 c.f10 c.f11 = _
    rw [rlj 19 j _ c]
    show _ = some (if j ≥ n then -1 else _)
    by_cases h1 : j ≥ n
    · rw [if_pos (decide_eq_true h1), if_pos h1]
    · rw [if_neg (by simpa using h1), if_neg h1]
      split
      · rfl
      · split <;> rfl
theorem lv_prog (c : Cf) (j : Int) : shape_Level.f 20 c.f0 c.f1 c.f2 c.f3 c.f4 c.f5 c.f6 c.f7 c.f8 c.f9 c.f10 c.f11 j = some (lvX c j) := by
  unfold shape_Level.f lvX
  rcases both_chk c with ⟨_, hs, hr⟩ | ⟨_, hs, r, hr, h0⟩
  · rw [counts_yes hs, nodes_yes hr]
    show (if j < 0 then shape_Level.j0 20 j c.f0 (wrap64 (c.f0 * c.f1)) true else shape_Level.j0 20 j c.f0 (wrap64 (c.f0 * c.f1)) (decide (j ≥ wrap64 (wrap64 (c.f0 + wrap64 (c.f0 * c.f1)) + wrap64 (wrap64 (c.f0 * c.f1) * c.f2))))) = _
    by_cases h0 : j < 0
    · rw [if_pos h0, if_pos h0, slj 19, if_pos rfl]
    · rw [if_neg h0, if_neg h0, slj 19]
      show _ = some (if j ≥ wrap64 (wrap64 (c.f0 + wrap64 (c.f0 * c.f1)) + wrap64 (wrap64 (c.f0 * c.f1) * c.f2)) then -1 else _)
      by_cases h1 : j ≥ wrap64 (wrap64 (c.f0 + wrap64 (c.f0 * c.f1)) + wrap64 (wrap64 (c.f0 * c.f1) * c.f2))
      · rw [if_pos (decide_eq_true h1), if_pos h1]
      · rw [if_neg (by simpa using h1), if_neg h1]
        split
        · rfl
        · split <;> rfl
  · rw [counts_no hs, nodes_no hr h0]
    show (if j < 0 then shape_Level.j0 20 j 0 0 true else shape_Level.j0 20 j 0 0 (decide (j ≥ wrap64 (wrap64 (0 + 0) + 0)))) = _
    by_cases h0 : j < 0
    · rw [if_pos h0, if_pos h0, slj 19, if_pos rfl]
    · rw [if_neg h0, if_neg h0, slj 19]
      have h1 : j ≥ 0 := by omega
      rw [if_pos (decide_eq_true (show j ≥ wrap64 (wrap64 (0 + 0) + 0) by rw [w00]; exact h1))]
      show _ = some (if j ≥ 0 then -1 else _)
      rw [if_pos h1]
def paX (c : Cf) (j : Int) : Int := if lvX c j = 1 then wrap64 (Int.tdiv (wrap64 (j - c.f0)) c.f1) else if lvX c j = 2 then wrap64 (c.f0 + wrap64 (Int.tdiv (wrap64 (wrap64 (j - c.f0) - wrap64 (c.f0 * c.f1))) c.f2)) else -1
theorem lv_bad {c : Cf} {r : Int} (hr : ltkref1_Check.f 20 c.f0 c.f1 c.f2 c.f3 c.f4 c.f5 c.f6 c.f7 c.f8 c.f9 c.f10 c.f11 = some r) (h0 : r ≠ 0) (j : Int) : lvX c j = -1 := by
  unfold lvX
  rw [nodes_no hr h0]
  by_cases h : j < 0
  · rw [if_pos h]
  · rw [if_neg h]
    show (if j ≥ 0 then (-1 : Int) else _) = -1
    rw [if_pos (by omega)]
theorem pa_prog (c : Cf) (j : Int) : shape_Parent.f 20 c.f0 c.f1 c.f2 c.f3 c.f4 c.f5 c.f6 c.f7 c.f8 c.f9 c.f10 c.f11 j = some (paX c j) := by
  unfold shape_Parent.f paX
  rw [lv_prog]
  rcases both_chk c with ⟨ok, hs, hr⟩ | ⟨_, hs, r, hr, h0⟩
  · rw [counts_yes hs]
    simp only [Option.bind_some]
    have z1 : ¬ c.f1 = 0 := fun e => by have := ok.b1; omega
    have z2 : ¬ c.f2 = 0 := fun e => by have := ok.b2; omega
    by_cases e1 : lvX c j = 1
    · rw [if_pos e1, if_neg z1, if_pos e1]
    · rw [if_neg e1, if_neg e1]
      by_cases e2 : lvX c j = 2
      · rw [if_pos e2, if_neg z2, if_pos e2]
      · rw [if_neg e2, if_neg e2]
  · rw [counts_no hs, lv_bad hr h0]
    rfl
theorem pa_ref (c : Cf) (j : Int) : ltkref1_Parent.f 20 c.f0 c.f1 c.f2 c.f3 c.f4 c.f5 c.f6 c.f7 c.f8 c.f9 c.f10 c.f11 j = some (paX c j) := by
  unfold ltkref1_Parent.f paX
  rw [lv_ref]
  simp only [Option.bind_some]
  rcases both_chk c with ⟨ok, hs, hr⟩ | ⟨_, hs, r, hr, h0⟩
  · have z1 : ¬ c.f1 = 0 := fun e => by have := ok.b1; omega
    have z2 : ¬ c.f2 = 0 := fun e => by have := ok.b2; omega
    by_cases e1 : lvX c j = 1
    · rw [if_pos e1, if_neg z1, if_pos e1]
    · rw [if_neg e1, if_neg e1]
      by_cases e2 : lvX c j = 2
      · rw [if_pos e2, if_pos e2]
        show (if c.f2 = 0 then none else _) = _
        rw [if_neg z2]
      · rw [if_neg e2, if_neg e2]
  · rw [lv_bad hr h0]
    rfl
theorem path_both (c : Cf) (a : Int) : (shape_Path.f c.f0 c.f1 c.f2 c.f3 c.f4 c.f5 c.f6 c.f7 c.f8 c.f9 c.f10 c.f11 a = some (0, 0, 0, 1) ∧ ltkref1_Path.f 20 c.f0 c.f1 c.f2 c.f3 c.f4 c.f5 c.f6 c.f7 c.f8 c.f9 c.f10 c.f11 a = some (0, 0, 0, 1)) ∨ ∃ r o s, shape_Path.f c.f0 c.f1 c.f2 c.f3 c.f4 c.f5 c.f6 c.f7 c.f8 c.f9 c.f10 c.f11 a = some (r, o, s, 0) ∧ ltkref1_Path.f 20 c.f0 c.f1 c.f2 c.f3 c.f4 c.f5 c.f6 c.f7 c.f8 c.f9 c.f10 c.f11 a = some (r, o, s, 0) := by
  unfold shape_Path.f ltkref1_Path.f shape_Words.f ltkref1_Words.f
  by_cases h0 : a < 0
  · rw [if_pos h0, if_pos h0]
    exact .inl ⟨rfl, rfl⟩
  · rw [if_neg h0, if_neg h0]
    rcases both_chk c with ⟨ok, hs, hr⟩ | ⟨_, hs, r, hr, hn⟩
    · have z1 : ¬ c.f1 = 0 := fun e => by have := ok.b1; omega
      have z2 : ¬ c.f2 = 0 := fun e => by have := ok.b2; omega
      have z3 : ¬ c.f3 = 0 := fun e => by have := ok.b3; omega
      rw [counts_yes hs, hr]
      show ((if a ≥ wrap64 (wrap64 (wrap64 (c.f0 * c.f1) * c.f2) * c.f3) then _ else _) = _ ∧ (if a ≥ wrap64 (wrap64 (wrap64 (c.f0 * c.f1) * c.f2) * c.f3) then _ else _) = _) ∨ ∃ r o s, (if a ≥ wrap64 (wrap64 (wrap64 (c.f0 * c.f1) * c.f2) * c.f3) then _ else _) = _ ∧ (if a ≥ wrap64 (wrap64 (wrap64 (c.f0 * c.f1) * c.f2) * c.f3) then _ else _) = _
      by_cases h1 : a ≥ wrap64 (wrap64 (wrap64 (c.f0 * c.f1) * c.f2) * c.f3)
      · rw [if_pos h1, if_pos h1]
        exact .inl ⟨rfl, rfl⟩
      · rw [if_neg h1, if_neg h1]
        refine .inr ⟨wrap64 (Int.tdiv (wrap64 (Int.tdiv (wrap64 (Int.tdiv a c.f3)) c.f2)) c.f1), wrap64 (c.f0 + wrap64 (Int.tdiv (wrap64 (Int.tdiv a c.f3)) c.f2)), wrap64 (wrap64 (c.f0 + wrap64 (c.f0 * c.f1)) + wrap64 (Int.tdiv a c.f3)), ?_, ?_⟩
        · show (if c.f3 = 0 then _ else _) = _
          rw [if_neg z3, if_neg z2, if_neg z1]
        · rw [if_neg z3, if_neg z2, if_neg z1]
          rfl
    · rw [counts_no hs, hr]
      refine .inl ⟨?_, ?_⟩
      · show (if a ≥ wrap64 (0 * c.f3) then _ else _) = _
        rw [if_pos (by rw [Int.zero_mul, w0]; omega)]
      · show (Option.bind (if r = 0 then _ else some 0) _) = _
        rw [if_neg hn]
        show (if a ≥ 0 then _ else _) = _
        rw [if_pos (by omega)]
theorem mul8' {a b m : Int} (a0 : 1 ≤ a) (am : a ≤ m) (b0 : 1 ≤ b) (b8 : b ≤ 8) : a ≤ a * b ∧ a * b ≤ 8 * m := by
  have h1 : a * b ≤ a * 8 := Int.mul_le_mul_of_nonneg_left b8 (by omega)
  have h2 : a * 1 ≤ a * b := Int.mul_le_mul_of_nonneg_left b0 (by omega)
  omega
theorem nodes_num (c : Cf) : ∃ n : Nat, ltkref1_Nodes.f 20 c.f0 c.f1 c.f2 c.f3 c.f4 c.f5 c.f6 c.f7 c.f8 c.f9 c.f10 c.f11 = some (n : Int) ∧ n ≤ 1000 := by
  rcases both_chk c with ⟨ok, hs, hr⟩ | ⟨_, hs, r, hr, hn⟩
  · have b0 := ok.b0
    have b1 := ok.b1
    have b2 := ok.b2
    have m1 := mul8' b0.1 b0.2 b1.1 b1.2
    have m2 := mul8' (a := c.f0 * c.f1) (m := 8 * 8) (by omega) m1.2 b2.1 b2.2
    rw [nodes_yes hr]
    generalize c.f0 * c.f1 = O at *
    rw [wrap_id (x := O) ⟨by omega, by omega⟩]
    generalize O * c.f2 = S at *
    rw [wrap_id (x := S) ⟨by omega, by omega⟩, wrap_id (x := c.f0 + O) ⟨by omega, by omega⟩, wrap_id (x := c.f0 + O + S) ⟨by omega, by omega⟩]
    exact ⟨(c.f0 + O + S).toNat, by rw [Int.toNat_of_nonneg (by omega)], by omega⟩
  · exact ⟨0, nodes_no hr hn, by omega⟩
end Go.Proofs.YtkceadieigpolaaGreat.Ln
