/- Configurations: what passes, how many nodes and words there are, where a word lies. -/
import Derived.Test.YtagdgkimjgomlaaPa3
namespace Go.Proofs.Ytagdgkimjgomlaa.Ln
open Go.RowKit Go.Proofs.YtagdgkimjgomlaaW.PrintWords Go.Proofs.YtagdgkimjgomlaaW.PrintLast Go.Proofs.YtagdgkimjgomlaaW.PrintMore Go.Proofs.Ytagdgkimjgomlaa.PMd
set_option linter.unusedVariables false
set_option linter.unusedSimpArgs false
structure Okc (c : Cf) : Prop where
  b0 : 1 ≤ c.f0 ∧ c.f0 ≤ 8
  b1 : 1 ≤ c.f1 ∧ c.f1 ≤ 8
  b2 : 1 ≤ c.f2 ∧ c.f2 ≤ 8
  b3 : 1 ≤ c.f3 ∧ c.f3 ≤ 8
  b4 : 1 ≤ c.f4 ∧ c.f4 ≤ 64
  b5 : 0 ≤ c.f5 ∧ c.f5 ≤ 48
  b6 : 1 ≤ c.f6 ∧ c.f6 ≤ 8
  b7 : 1 ≤ c.f7 ∧ c.f7 ≤ 4096
  b8 : 1 ≤ c.f8 ∧ c.f8 ≤ 1000
  b9 : 0 ≤ c.f9 ∧ c.f9 ≤ 64
  b10 : 1 ≤ c.f10 ∧ c.f10 ≤ 10000
  b11 : 0 ≤ c.f11 ∧ c.f11 ≤ 2
set_option maxHeartbeats 8000000 in
theorem chk_l0 (c : Cf) (k : Nat) (hk : 5 < k) : ∃ r, ltkref1_Check.l0 k [c.f0, c.f1, c.f2, c.f3] 0 c.f0 c.f1 c.f2 c.f3 c.f4 c.f5 c.f6 c.f7 c.f8 c.f9 c.f10 c.f11 = some r ∧ (r = 0 ↔ Okc c) := by
  obtain ⟨k, rfl⟩ : ∃ m, k = m + 5 := ⟨k - 5, by omega⟩
  have r0 : rd [c.f0, c.f1, c.f2, c.f3] 0 = c.f0 := by simp [rd]
  have r1 : rd [c.f0, c.f1, c.f2, c.f3] 1 = c.f1 := by simp [rd]
  have r2 : rd [c.f0, c.f1, c.f2, c.f3] 2 = c.f2 := by simp [rd]
  have r3 : rd [c.f0, c.f1, c.f2, c.f3] 3 = c.f3 := by simp [rd]
  have w0 : wrap64 (0 + 1) = 1 := by unfold wrap64; omega
  have w1 : wrap64 (1 + 1) = 2 := by unfold wrap64; omega
  have w2 : wrap64 (2 + 1) = 3 := by unfold wrap64; omega
  have w3 : wrap64 (3 + 1) = 4 := by unfold wrap64; omega
  have ll : (([c.f0, c.f1, c.f2, c.f3] : List Int).length : Int) = 4 := rfl
  have i0 : (0 : Int) < 4 := by decide
  have i1 : (1 : Int) < 4 := by decide
  have i2 : (2 : Int) < 4 := by decide
  have i3 : (3 : Int) < 4 := by decide
  have i4 : ¬ (4 : Int) < 4 := by decide
  have j0 : (0 : Int) ≤ 0 := by decide
  have j1 : (0 : Int) ≤ 1 := by decide
  have j2 : (0 : Int) ≤ 2 := by decide
  have j3 : (0 : Int) ≤ 3 := by decide
  suffices hh : (Okc c ∧ ltkref1_Check.l0 (k + 5) [c.f0, c.f1, c.f2, c.f3] 0 c.f0 c.f1 c.f2 c.f3 c.f4 c.f5 c.f6 c.f7 c.f8 c.f9 c.f10 c.f11 = some 0) ∨ (¬ Okc c ∧ ltkref1_Check.l0 (k + 5) [c.f0, c.f1, c.f2, c.f3] 0 c.f0 c.f1 c.f2 c.f3 c.f4 c.f5 c.f6 c.f7 c.f8 c.f9 c.f10 c.f11 = some 1) by
    rcases hh with ⟨h1, h2⟩ | ⟨h1, h2⟩
    · exact ⟨0, h2, fun _ => h1, fun _ => rfl⟩
    · exact ⟨1, h2, fun h => by simp at h, fun h => absurd h h1⟩
  obtain ⟨X, hX⟩ : ∃ X, ltkref1_Check.l0 (k + 5) [c.f0, c.f1, c.f2, c.f3] 0 c.f0 c.f1 c.f2 c.f3 c.f4 c.f5 c.f6 c.f7 c.f8 c.f9 c.f10 c.f11 = X := ⟨_, rfl⟩
  rw [hX]
  simp only [ltkref1_Check.l0, ll, r0, r1, r2, r3, w0, w1, w2, w3, i0, i1, i2, i3, i4, j0, j1, j2, j3, if_true, if_false] at hX
  clear r0 r1 r2 r3 w0 w1 w2 w3 ll i0 i1 i2 i3 i4 j0 j1 j2 j3
  by_cases g0 : c.f0 < 1
  · rw [if_pos g0] at hX
    exact .inr ⟨fun h => by have := h.b0; omega, hX.symm⟩
  rw [if_neg g0] at hX
  by_cases k0 : c.f0 > 8
  · rw [if_pos k0] at hX
    exact .inr ⟨fun h => by have := h.b0; omega, hX.symm⟩
  rw [if_neg k0] at hX
  by_cases g1 : c.f1 < 1
  · rw [if_pos g1] at hX
    exact .inr ⟨fun h => by have := h.b1; omega, hX.symm⟩
  rw [if_neg g1] at hX
  by_cases k1 : c.f1 > 8
  · rw [if_pos k1] at hX
    exact .inr ⟨fun h => by have := h.b1; omega, hX.symm⟩
  rw [if_neg k1] at hX
  by_cases g2 : c.f2 < 1
  · rw [if_pos g2] at hX
    exact .inr ⟨fun h => by have := h.b2; omega, hX.symm⟩
  rw [if_neg g2] at hX
  by_cases k2 : c.f2 > 8
  · rw [if_pos k2] at hX
    exact .inr ⟨fun h => by have := h.b2; omega, hX.symm⟩
  rw [if_neg k2] at hX
  by_cases g3 : c.f3 < 1
  · rw [if_pos g3] at hX
    exact .inr ⟨fun h => by have := h.b3; omega, hX.symm⟩
  rw [if_neg g3] at hX
  by_cases k3 : c.f3 > 8
  · rw [if_pos k3] at hX
    exact .inr ⟨fun h => by have := h.b3; omega, hX.symm⟩
  rw [if_neg k3] at hX
  by_cases g4 : c.f4 < 1
  · rw [if_pos g4] at hX
    exact .inr ⟨fun h => by have := h.b4; omega, hX.symm⟩
  rw [if_neg g4] at hX
  by_cases k4 : c.f4 > 64
  · rw [if_pos k4] at hX
    exact .inr ⟨fun h => by have := h.b4; omega, hX.symm⟩
  rw [if_neg k4] at hX
  by_cases g5 : c.f5 < 0
  · rw [if_pos g5] at hX
    exact .inr ⟨fun h => by have := h.b5; omega, hX.symm⟩
  rw [if_neg g5] at hX
  by_cases k5 : c.f5 > 48
  · rw [if_pos k5] at hX
    exact .inr ⟨fun h => by have := h.b5; omega, hX.symm⟩
  rw [if_neg k5] at hX
  by_cases g6 : c.f6 < 1
  · rw [if_pos g6] at hX
    exact .inr ⟨fun h => by have := h.b6; omega, hX.symm⟩
  rw [if_neg g6] at hX
  by_cases k6 : c.f6 > 8
  · rw [if_pos k6] at hX
    exact .inr ⟨fun h => by have := h.b6; omega, hX.symm⟩
  rw [if_neg k6] at hX
  by_cases g7 : c.f7 < 1
  · rw [if_pos g7] at hX
    exact .inr ⟨fun h => by have := h.b7; omega, hX.symm⟩
  rw [if_neg g7] at hX
  by_cases k7 : c.f7 > 4096
  · rw [if_pos k7] at hX
    exact .inr ⟨fun h => by have := h.b7; omega, hX.symm⟩
  rw [if_neg k7] at hX
  by_cases g8 : c.f8 < 1
  · rw [if_pos g8] at hX
    exact .inr ⟨fun h => by have := h.b8; omega, hX.symm⟩
  rw [if_neg g8] at hX
  by_cases k8 : c.f8 > 1000
  · rw [if_pos k8] at hX
    exact .inr ⟨fun h => by have := h.b8; omega, hX.symm⟩
  rw [if_neg k8] at hX
  by_cases g9 : c.f9 < 0
  · rw [if_pos g9] at hX
    exact .inr ⟨fun h => by have := h.b9; omega, hX.symm⟩
  rw [if_neg g9] at hX
  by_cases k9 : c.f9 > 64
  · rw [if_pos k9] at hX
    exact .inr ⟨fun h => by have := h.b9; omega, hX.symm⟩
  rw [if_neg k9] at hX
  by_cases g10 : c.f10 < 1
  · rw [if_pos g10] at hX
    exact .inr ⟨fun h => by have := h.b10; omega, hX.symm⟩
  rw [if_neg g10] at hX
  by_cases k10 : c.f10 > 10000
  · rw [if_pos k10] at hX
    exact .inr ⟨fun h => by have := h.b10; omega, hX.symm⟩
  rw [if_neg k10] at hX
  by_cases g11 : c.f11 < 0
  · rw [if_pos g11] at hX
    exact .inr ⟨fun h => by have := h.b11; omega, hX.symm⟩
  rw [if_neg g11] at hX
  by_cases k11 : c.f11 > 2
  · rw [if_pos k11] at hX
    exact .inr ⟨fun h => by have := h.b11; omega, hX.symm⟩
  rw [if_neg k11] at hX
  exact .inl ⟨⟨⟨by omega, by omega⟩, ⟨by omega, by omega⟩, ⟨by omega, by omega⟩, ⟨by omega, by omega⟩, ⟨by omega, by omega⟩, ⟨by omega, by omega⟩, ⟨by omega, by omega⟩, ⟨by omega, by omega⟩, ⟨by omega, by omega⟩, ⟨by omega, by omega⟩, ⟨by omega, by omega⟩, ⟨by omega, by omega⟩⟩, hX.symm⟩
theorem chk_f (c : Cf) : ∃ r, ltkref1_Check.f 20 c.f0 c.f1 c.f2 c.f3 c.f4 c.f5 c.f6 c.f7 c.f8 c.f9 c.f10 c.f11 = some r ∧ (r = 0 ↔ Okc c) := chk_l0 c 20 (by omega)
theorem shape_ok {c : Cf} (h : Okc c) : shape_Check.f c.f0 c.f1 c.f2 c.f3 c.f4 c.f5 c.f6 c.f7 c.f8 c.f9 c.f10 c.f11 = some 0 := by
  unfold shape_Check.f
  refine congrArg some (shape_Check.good_of ?_)
  obtain ⟨q0, q1, q2, q3, q4, q5, q6, q7, q8, q9, q10, q11⟩ := h
  have h0 := shape_Check.chkAll_succ (n := shape_Check.chkN c.f0 c.f1 c.f2 c.f3 c.f4 c.f5 c.f6 c.f7 c.f8 c.f9 c.f10 c.f11) (k := 0) rfl (show ¬ c.f0 < 1 by omega) (show ¬ (8 : Int) < c.f0 by omega)
  have h1 := shape_Check.chkAll_succ (n := shape_Check.chkN c.f0 c.f1 c.f2 c.f3 c.f4 c.f5 c.f6 c.f7 c.f8 c.f9 c.f10 c.f11) (k := 1) h0 (show ¬ c.f1 < 1 by omega) (show ¬ (8 : Int) < c.f1 by omega)
  have h2 := shape_Check.chkAll_succ (n := shape_Check.chkN c.f0 c.f1 c.f2 c.f3 c.f4 c.f5 c.f6 c.f7 c.f8 c.f9 c.f10 c.f11) (k := 2) h1 (show ¬ c.f2 < 1 by omega) (show ¬ (8 : Int) < c.f2 by omega)
  have h3 := shape_Check.chkAll_succ (n := shape_Check.chkN c.f0 c.f1 c.f2 c.f3 c.f4 c.f5 c.f6 c.f7 c.f8 c.f9 c.f10 c.f11) (k := 3) h2 (show ¬ c.f3 < 1 by omega) (show ¬ (8 : Int) < c.f3 by omega)
  have h4 := shape_Check.chkAll_succ (n := shape_Check.chkN c.f0 c.f1 c.f2 c.f3 c.f4 c.f5 c.f6 c.f7 c.f8 c.f9 c.f10 c.f11) (k := 4) h3 (show ¬ c.f4 < 1 by omega) (show ¬ (64 : Int) < c.f4 by omega)
  have h5 := shape_Check.chkAll_succ (n := shape_Check.chkN c.f0 c.f1 c.f2 c.f3 c.f4 c.f5 c.f6 c.f7 c.f8 c.f9 c.f10 c.f11) (k := 5) h4 (show ¬ c.f5 < 0 by omega) (show ¬ (48 : Int) < c.f5 by omega)
  have h6 := shape_Check.chkAll_succ (n := shape_Check.chkN c.f0 c.f1 c.f2 c.f3 c.f4 c.f5 c.f6 c.f7 c.f8 c.f9 c.f10 c.f11) (k := 6) h5 (show ¬ c.f6 < 1 by omega) (show ¬ (8 : Int) < c.f6 by omega)
  have h7 := shape_Check.chkAll_succ (n := shape_Check.chkN c.f0 c.f1 c.f2 c.f3 c.f4 c.f5 c.f6 c.f7 c.f8 c.f9 c.f10 c.f11) (k := 7) h6 (show ¬ c.f7 < 1 by omega) (show ¬ (4096 : Int) < c.f7 by omega)
  have h8 := shape_Check.chkAll_succ (n := shape_Check.chkN c.f0 c.f1 c.f2 c.f3 c.f4 c.f5 c.f6 c.f7 c.f8 c.f9 c.f10 c.f11) (k := 8) h7 (show ¬ c.f8 < 1 by omega) (show ¬ (1000 : Int) < c.f8 by omega)
  have h9 := shape_Check.chkAll_succ (n := shape_Check.chkN c.f0 c.f1 c.f2 c.f3 c.f4 c.f5 c.f6 c.f7 c.f8 c.f9 c.f10 c.f11) (k := 9) h8 (show ¬ c.f9 < 0 by omega) (show ¬ (64 : Int) < c.f9 by omega)
  have h10 := shape_Check.chkAll_succ (n := shape_Check.chkN c.f0 c.f1 c.f2 c.f3 c.f4 c.f5 c.f6 c.f7 c.f8 c.f9 c.f10 c.f11) (k := 10) h9 (show ¬ c.f10 < 1 by omega) (show ¬ (10000 : Int) < c.f10 by omega)
  have h11 := shape_Check.chkAll_succ (n := shape_Check.chkN c.f0 c.f1 c.f2 c.f3 c.f4 c.f5 c.f6 c.f7 c.f8 c.f9 c.f10 c.f11) (k := 11) h10 (show ¬ c.f11 < 0 by omega) (show ¬ (2 : Int) < c.f11 by omega)
  exact h11
theorem wrap_id {x : Int} (h : 0 ≤ x ∧ x ≤ 1000000) : wrap64 x = x := by unfold wrap64; omega
theorem mul_bd {a b A B : Int} (ha : 1 ≤ a ∧ a ≤ A) (hb : 1 ≤ b ∧ b ≤ B) : 1 ≤ a * b ∧ a * b ≤ A * B :=
  ⟨by have := Int.mul_le_mul ha.1 hb.1 (by omega) (by omega); omega, Int.mul_le_mul ha.2 hb.2 (by omega) (by omega)⟩
/-- How many regions, objects, stripes, words. -/
structure Dim (c : Cf) (r o s n : Nat) : Prop where
  hr : c.f0 = r
  ho : c.f0 * c.f1 = o
  hs : c.f0 * c.f1 * c.f2 = s
  hn : c.f0 * c.f1 * c.f2 * c.f3 = n
  br : 1 ≤ r ∧ r ≤ 8
  bo : 1 ≤ o ∧ o ≤ 64
  bs : 1 ≤ s ∧ s ≤ 512
  bn : 1 ≤ n ∧ n ≤ 4096
theorem dim {c : Cf} (h : Okc c) : ∃ r o s n, Dim c r o s n := by
  have h1 := mul_bd h.b0 h.b1
  have h2 := mul_bd h1 h.b2
  have h3 := mul_bd h2 h.b3
  have h0 := h.b0
  exact ⟨c.f0.toNat, (c.f0 * c.f1).toNat, (c.f0 * c.f1 * c.f2).toNat, (c.f0 * c.f1 * c.f2 * c.f3).toNat, by omega, by omega, by omega, by omega, by omega, by omega, by omega, by omega⟩
theorem counts_ok {c : Cf} {r o s n : Nat} (h : Okc c) (d : Dim c r o s n) : shape_counts.f c.f0 c.f1 c.f2 c.f3 c.f4 c.f5 c.f6 c.f7 c.f8 c.f9 c.f10 c.f11 = some ((r : Int), (o : Int), (s : Int)) := by
  unfold shape_counts.f
  rw [shape_ok h]
  simp only [Option.bind_some, if_true]
  have := d.bo
  have := d.bs
  rw [d.ho, wrap_id (by omega), ← d.ho, d.hs, wrap_id (by omega), d.ho, d.hr]
theorem words_ok {c : Cf} {r o s n : Nat} (h : Okc c) (d : Dim c r o s n) : shape_Words.f c.f0 c.f1 c.f2 c.f3 c.f4 c.f5 c.f6 c.f7 c.f8 c.f9 c.f10 c.f11 = some (n : Int) := by
  unfold shape_Words.f
  rw [counts_ok h d]
  simp only [Option.bind_some]
  have := d.bn
  rw [← d.hs, d.hn, wrap_id (by omega)]
theorem words_ref {c : Cf} {r o s n : Nat} (h : Okc c) (d : Dim c r o s n) : ltkref1_Words.f 20 c.f0 c.f1 c.f2 c.f3 c.f4 c.f5 c.f6 c.f7 c.f8 c.f9 c.f10 c.f11 = some (n : Int) := by
  obtain ⟨x, hx, hi⟩ := chk_f c
  obtain rfl := hi.2 h
  unfold ltkref1_Words.f ltkref1_stripes.f ltkref1_objects.f
  rw [hx]
  simp only [Option.bind_some, if_true]
  have := d.bo
  have := d.bs
  have := d.bn
  rw [d.ho, wrap_id (x := (o : Int)) (by omega), ← d.ho, d.hs, wrap_id (x := (s : Int)) (by omega), ← d.hs, d.hn, wrap_id (x := (n : Int)) (by omega)]
theorem nodes_ok {c : Cf} {r o s n : Nat} (h : Okc c) (d : Dim c r o s n) : shape_Nodes.f c.f0 c.f1 c.f2 c.f3 c.f4 c.f5 c.f6 c.f7 c.f8 c.f9 c.f10 c.f11 = some ((r + o + s : Nat) : Int) := by
  unfold shape_Nodes.f
  rw [counts_ok h d]
  simp only [Option.bind_some]
  have := d.br
  have := d.bo
  have := d.bs
  rw [wrap_id (x := (r : Int) + (o : Int)) (by omega), wrap_id (x := (r : Int) + (o : Int) + (s : Int)) (by omega)]
  simp
/-- Where a word lies. -/
theorem path_ok {c : Cf} {r o s n : Nat} (h : Okc c) (d : Dim c r o s n) {a : Int} (h0 : 0 ≤ a) (h1 : a < n) : ∃ x y z : Nat, x < r ∧ r ≤ y ∧ y < r + o ∧ r + o ≤ z ∧ z < r + o + s ∧ shape_Path.f c.f0 c.f1 c.f2 c.f3 c.f4 c.f5 c.f6 c.f7 c.f8 c.f9 c.f10 c.f11 a = some ((x : Int), (y : Int), (z : Int), 0) := by
  have b1 := h.b1
  have b2 := h.b2
  have b3 := h.b3
  have br := d.br
  have bo := d.bo
  have bs := d.bs
  have bn := d.bn
  have e1 : Int.tdiv a c.f3 = a / c.f3 := Int.tdiv_eq_ediv_of_nonneg h0
  have s0 : 0 ≤ a / c.f3 := Int.ediv_nonneg h0 (by omega)
  have s1 : a / c.f3 < s := by
    refine Int.ediv_lt_of_lt_mul (by omega) ?_
    rw [← d.hs, d.hn]; exact h1
  have e2 : Int.tdiv (a / c.f3) c.f2 = a / c.f3 / c.f2 := Int.tdiv_eq_ediv_of_nonneg s0
  have o0 : 0 ≤ a / c.f3 / c.f2 := Int.ediv_nonneg s0 (by omega)
  have o1 : a / c.f3 / c.f2 < o := by
    refine Int.ediv_lt_of_lt_mul (by omega) ?_
    rw [← d.ho, d.hs]; exact s1
  have e3 : Int.tdiv (a / c.f3 / c.f2) c.f1 = a / c.f3 / c.f2 / c.f1 := Int.tdiv_eq_ediv_of_nonneg o0
  have r0 : 0 ≤ a / c.f3 / c.f2 / c.f1 := Int.ediv_nonneg o0 (by omega)
  have r1 : a / c.f3 / c.f2 / c.f1 < r := by
    refine Int.ediv_lt_of_lt_mul (by omega) ?_
    rw [← d.hr, d.ho]; exact o1
  generalize hS : a / c.f3 = S at *
  generalize hO : S / c.f2 = O at *
  generalize hR : O / c.f1 = Q at *
  refine ⟨Q.toNat, r + O.toNat, r + o + S.toNat, by omega, by omega, by omega, by omega, by omega, ?_⟩
  unfold shape_Path.f
  rw [words_ok h d, counts_ok h d, if_neg (by omega)]
  simp only [Option.bind_some]
  rw [if_neg (by omega), if_neg (by omega), if_neg (by omega), if_neg (by omega), e1, wrap_id (x := S) (by omega), e2, wrap_id (x := O) (by omega), e3, wrap_id (x := Q) (by omega), wrap_id (x := (r : Int) + O) (by omega), wrap_id (x := (r : Int) + (o : Int)) (by omega), wrap_id (x := (r : Int) + (o : Int) + S) (by omega)]
  congr 2 <;> first | omega | (congr 1 <;> first | omega | (congr 1; omega))
theorem level_ok {c : Cf} {r o s n : Nat} (h : Okc c) (d : Dim c r o s n) (j : Int) : ∃ x, shape_Level.f 20 c.f0 c.f1 c.f2 c.f3 c.f4 c.f5 c.f6 c.f7 c.f8 c.f9 c.f10 c.f11 j = some x := by
  unfold shape_Level.f
  rw [counts_ok h d]
  simp only [Option.bind_some, shape_Level.j0]
  repeat' split
  all_goals exact ⟨_, rfl⟩
theorem parent_ok {c : Cf} {r o s n : Nat} (h : Okc c) (d : Dim c r o s n) (j : Int) : ∃ x, shape_Parent.f 20 c.f0 c.f1 c.f2 c.f3 c.f4 c.f5 c.f6 c.f7 c.f8 c.f9 c.f10 c.f11 j = some x := by
  obtain ⟨x, hx⟩ := level_ok h d j
  have b1 := h.b1
  have b2 := h.b2
  unfold shape_Parent.f
  rw [counts_ok h d, hx]
  simp only [Option.bind_some]
  rw [if_neg (show ¬ c.f1 = 0 by omega), if_neg (show ¬ c.f2 = 0 by omega)]
  repeat' split
  all_goals exact ⟨_, rfl⟩
def lvC (c : Cf) (j : Int) : Int := (shape_Level.f 20 c.f0 c.f1 c.f2 c.f3 c.f4 c.f5 c.f6 c.f7 c.f8 c.f9 c.f10 c.f11 j).getD 0
def paC (c : Cf) (j : Int) : Int := (shape_Parent.f 20 c.f0 c.f1 c.f2 c.f3 c.f4 c.f5 c.f6 c.f7 c.f8 c.f9 c.f10 c.f11 j).getD 0
theorem lvC_ok {c : Cf} (h : Okc c) (j : Int) : shape_Level.f 20 c.f0 c.f1 c.f2 c.f3 c.f4 c.f5 c.f6 c.f7 c.f8 c.f9 c.f10 c.f11 j = some (lvC c j) := by
  obtain ⟨r, o, s, n, d⟩ := dim h
  obtain ⟨x, hx⟩ := level_ok h d j
  unfold lvC; rw [hx]; rfl
theorem paC_ok {c : Cf} (h : Okc c) (j : Int) : shape_Parent.f 20 c.f0 c.f1 c.f2 c.f3 c.f4 c.f5 c.f6 c.f7 c.f8 c.f9 c.f10 c.f11 j = some (paC c j) := by
  obtain ⟨r, o, s, n, d⟩ := dim h
  obtain ⟨x, hx⟩ := parent_ok h d j
  unfold paC; rw [hx]; rfl
end Go.Proofs.Ytagdgkimjgomlaa.Ln
