/- Plain facts for CoreCells: configurations; rows that were copied; what is kept. -/
import Derived.Test.YtodhanlbdbfieaaCc7
namespace Go.Proofs.Ytodhanlbdbfieaa.Co
open Go.RowKit Go.Proofs.YtodhanlbdbfieaaW.PrintWords Go.Proofs.YtodhanlbdbfieaaW.PrintLast Go.Proofs.YtodhanlbdbfieaaW.PrintMore Go.Proofs.Ytodhanlbdbfieaa.PMd Go.Proofs.Ytodhanlbdbfieaa.Ln
set_option linter.unusedVariables false
set_option linter.unusedSimpArgs false
/-- A configuration's bounds. -/
def InB (c0 c1 c2 c3 c4 c5 c6 c7 c8 c9 c10 c11 : Int) : Prop :=
  (1 ≤ c0 ∧ c0 ≤ 8) ∧ (1 ≤ c1 ∧ c1 ≤ 8) ∧ (1 ≤ c2 ∧ c2 ≤ 8) ∧ (1 ≤ c3 ∧ c3 ≤ 8) ∧ (1 ≤ c4 ∧ c4 ≤ 64) ∧ (0 ≤ c5 ∧ c5 ≤ 48) ∧ (1 ≤ c6 ∧ c6 ≤ 8) ∧ (1 ≤ c7 ∧ c7 ≤ 4096) ∧ (1 ≤ c8 ∧ c8 ≤ 1000) ∧ (0 ≤ c9 ∧ c9 ≤ 64) ∧ (1 ≤ c10 ∧ c10 ≤ 10000) ∧ (0 ≤ c11 ∧ c11 ≤ 2)
theorem chk_inb {c0 c1 c2 c3 c4 c5 c6 c7 c8 c9 c10 c11 : Int} : shape_Check.chkAll (shape_Check.chkN c0 c1 c2 c3 c4 c5 c6 c7 c8 c9 c10 c11) 12 = true ↔ InB c0 c1 c2 c3 c4 c5 c6 c7 c8 c9 c10 c11 := by
  simp only [shape_Check.chkAll, shape_Check.chkN, shape_Check.chkLo, shape_Check.chkHi, Bool.and_eq_true, Bool.not_eq_true', Bool.or_eq_false_iff, decide_eq_false_iff_not, Int.not_lt, InB, true_and]
  constructor
  · rintro ⟨⟨⟨⟨⟨⟨⟨⟨⟨⟨⟨h0, h1⟩, h2⟩, h3⟩, h4⟩, h5⟩, h6⟩, h7⟩, h8⟩, h9⟩, h10⟩, h11⟩
    exact ⟨h0, h1, h2, h3, h4, h5, h6, h7, h8, h9, h10, h11⟩
  · rintro ⟨h0, h1, h2, h3, h4, h5, h6, h7, h8, h9, h10, h11⟩
    exact ⟨⟨⟨⟨⟨⟨⟨⟨⟨⟨⟨h0, h1⟩, h2⟩, h3⟩, h4⟩, h5⟩, h6⟩, h7⟩, h8⟩, h9⟩, h10⟩, h11⟩
theorem chk_yes {c0 c1 c2 c3 c4 c5 c6 c7 c8 c9 c10 c11 : Int} (h : InB c0 c1 c2 c3 c4 c5 c6 c7 c8 c9 c10 c11) : shape_Check.f c0 c1 c2 c3 c4 c5 c6 c7 c8 c9 c10 c11 = some 0 := by
  unfold shape_Check.f shape_Check.g
  rw [if_pos (chk_inb.2 h)]
theorem chk_no {c0 c1 c2 c3 c4 c5 c6 c7 c8 c9 c10 c11 : Int} (h : ¬ InB c0 c1 c2 c3 c4 c5 c6 c7 c8 c9 c10 c11) : shape_Check.f c0 c1 c2 c3 c4 c5 c6 c7 c8 c9 c10 c11 = some 1 := by
  unfold shape_Check.f shape_Check.g
  rw [if_neg (fun h2 => h (chk_inb.1 h2))]
theorem mul8 {a b m : Int} (a0 : 1 ≤ a) (am : a ≤ m) (b0 : 1 ≤ b) (b8 : b ≤ 8) : a ≤ a * b ∧ a * b ≤ 8 * m := by
  have h1 : a * b ≤ a * 8 := Int.mul_le_mul_of_nonneg_left b8 (by omega)
  have h2 : a * 1 ≤ a * b := Int.mul_le_mul_of_nonneg_left b0 (by omega)
  omega
/-- How large it is. -/
theorem conf_good {c0 c1 c2 c3 c4 c5 c6 c7 c8 c9 c10 c11 : Int} (h : InB c0 c1 c2 c3 c4 c5 c6 c7 c8 c9 c10 c11) : ∃ m sz nd : Nat, 1 ≤ m ∧ m ≤ sz ∧ sz ≤ 65536 ∧ 1 ≤ nd ∧ nd ≤ 10000 ∧
    shape_Words.f c0 c1 c2 c3 c4 c5 c6 c7 c8 c9 c10 c11 = some (m : Int) ∧ shape_Cells.f c0 c1 c2 c3 c4 c5 c6 c7 c8 c9 c10 c11 = some (sz : Int) ∧ shape_Nodes.f c0 c1 c2 c3 c4 c5 c6 c7 c8 c9 c10 c11 = some (nd : Int) := by
  have s := chk_yes h
  obtain ⟨⟨a0, b0⟩, ⟨a1, b1⟩, ⟨a2, b2⟩, ⟨a3, b3⟩, _⟩ := h
  have m1 := mul8 a0 b0 a1 b1
  have m2 := mul8 (a := c0 * c1) (m := 8 * 8) (by omega) m1.2 a2 b2
  have m3 := mul8 (a := c0 * c1 * c2) (m := 8 * (8 * 8)) (by omega) m2.2 a3 b3
  have w1 : wrap64 (c0 * c1) = c0 * c1 := wrap_in _ (by omega) (by omega)
  have w2 : wrap64 (c0 * c1 * c2) = c0 * c1 * c2 := wrap_in _ (by omega) (by omega)
  have w3 : wrap64 (c0 * c1 * c2 * c3) = c0 * c1 * c2 * c3 := wrap_in _ (by omega) (by omega)
  generalize hO : c0 * c1 = O at *
  generalize hS : O * c2 = S at *
  generalize hM : S * c3 = M at *
  have w4 : wrap64 (S * 8) = S * 8 := wrap_in _ (by omega) (by omega)
  have w5 : wrap64 (M + S * 8) = M + S * 8 := wrap_in _ (by omega) (by omega)
  have w6 : wrap64 (c0 + O) = c0 + O := wrap_in _ (by omega) (by omega)
  have w7 : wrap64 (c0 + O + S) = c0 + O + S := wrap_in _ (by omega) (by omega)
  refine ⟨M.toNat, (M + S * 8).toNat, (c0 + O + S).toNat, by omega, by omega, by omega, by omega, by omega, ?_, ?_, ?_⟩
  · unfold shape_Words.f shape_counts.f
    rw [s]
    simp only [Option.bind_some, if_true]
    rw [hO, w1, hS, w2, hM, w3, Int.toNat_of_nonneg (by omega)]
  · unfold shape_Cells.f shape_counts.f
    rw [s]
    simp only [Option.bind_some, if_true]
    rw [hO, w1, hS, w2, hM, w3, w4, w5, Int.toNat_of_nonneg (by omega)]
  · unfold shape_Nodes.f shape_counts.f
    rw [s]
    simp only [Option.bind_some, if_true]
    rw [hO, w1, hS, w2, w6, w7, Int.toNat_of_nonneg (by omega)]
/-- A row that the print's words tell of, as a row here. -/
theorem row_of_R {w : World} {base : Nat} {ok : Nat → Prop} {v : Value} {xs : List Int} (h : Kd.R (Kd.int .i64) 3 w base ok v xs) : ∃ A c, v = .slice A xs.length c ∧ Row w 3 1 A xs.length c (vi xs) ∧ ∀ k, blk A k → base ≤ k := by
  obtain ⟨_, inner, hh0, hr⟩ := h
  have hz : (Kd.int .i64).sz = 1 := rfl
  rw [hz] at hh0 hr
  obtain ⟨hl, ho⟩ := hh0
  have hin : inner = vi xs := by
    have h1 : inner.length = xs.length := by simpa using hr.1
    apply List.ext_getElem?
    intro j
    by_cases hj : j < xs.length
    · have h2 := hr.2 j xs[j] (List.getElem?_eq_getElem hj)
      have h3 : (inner.drop (j * 1)).take 1 = [Value.int .i64 xs[j]] := h2
      rw [Nat.mul_one] at h3
      have h4 : inner[j]? = some (Value.int .i64 xs[j]) := by
        have := congrArg (fun l => l[0]?) h3
        simpa [List.getElem?_take, List.getElem?_drop] using this
      rw [h4]
      simp [vi, List.getElem?_eq_getElem hj]
    · rw [List.getElem?_eq_none (by omega), List.getElem?_eq_none (by rw [vi_len]; omega)]
  subst hin
  rcases ho with ⟨rfl, h0⟩ | ⟨g, cap, cur, rfl, hg, hh, hn, hm, hs, ht⟩
  · have : xs = [] := List.eq_nil_of_length_eq_zero h0
    subst this
    exact ⟨none, 0, rfl, Row.zero _ _ _, fun k ⟨a, h, _⟩ => by cases h⟩
  · refine ⟨some ⟨g, 0, none⟩, cap, rfl, ⟨hl, hn, hm, .inr ⟨g, 0, cur, rfl, hh, by omega, by simpa using ht⟩⟩, fun k ⟨a, h, h2⟩ => ?_⟩
    cases h
    exact h2 ▸ hg
/-- A core lies in blocks that are there. -/
theorem IsCore.bound {w : World} {b : Nat} {P : Pl} {F : Nat → Prop} {s : CoreS} (h : IsCore w b P F s) : IsCore w b P (fun k => F k ∧ k < w.heap.size) s := by
  obtain ⟨tA, tc, aA, ac, dA, dc, FC, h1, h2, h3, h4, h5, h6, h7, h8, h9, h10, h11, h12, h13⟩ := h
  exact ⟨tA, tc, aA, ac, dA, dc, fun k => FC k ∧ k < w.heap.size, h1, h2, ⟨h3, (Array.getElem?_eq_some_iff.1 h1).1⟩, ⟨h4, (Array.getElem?_eq_some_iff.1 h2).1⟩, h5, fun k hk => ⟨h6 k hk, h5.lt hk⟩, h7, fun k hk => ⟨h8 k hk, h7.lt hk⟩, h9, fun k hk => ⟨h10 k hk, h9.lt hk⟩,
    h11.mono (fun k hl hk => ⟨hk, hl⟩), fun k hk => ⟨h12 k hk.1, hk.2⟩, fun k hk => h13 k hk.1⟩
theorem IsCore.own {w : World} {b : Nat} {P : Pl} {F : Nat → Prop} {s : CoreS} (h : IsCore w b P F s) : F b := by
  obtain ⟨_, _, _, _, _, _, _, _, _, h3, _⟩ := h
  exact h3
/-! ### lists -/
theorem ints_l0 (l : List Int) (hl : l.length ≤ 1000000) (d : Nat) : ∀ i k : Nat, i + d = l.length → d < k → ltkref_Ints.l0 k l l (i : Int) = some true := by
  induction d with
  | zero =>
    intro i k hi hk
    obtain ⟨k, rfl⟩ : ∃ m, k = m + 1 := ⟨k - 1, by omega⟩
    simp only [ltkref_Ints.l0]
    rw [if_neg (by omega)]
  | succ d ih =>
    intro i k hi hk
    obtain ⟨k, rfl⟩ : ∃ m, k = m + 1 := ⟨k - 1, by omega⟩
    simp only [ltkref_Ints.l0]
    rw [if_pos (by omega), if_pos (by omega), if_pos (by omega), if_true, show wrap64 ((i : Int) + 1) = ((i + 1 : Nat) : Int) from by unfold wrap64; omega]
    exact ih (i + 1) k (by omega) (by omega)
theorem ints_f (l : List Int) (hl : l.length ≤ 1000000) : ltkref_Ints.f (l.length + 1) l l = some true := by
  unfold ltkref_Ints.f
  rw [if_pos rfl]
  exact ints_l0 l hl l.length 0 _ (by omega) (by omega)
theorem copy_f (l : List Int) (hl : l.length ≤ 5000) : ltkref_Copy.f l = some l := by
  unfold ltkref_Copy.f
  simp only [Option.bind_some]
  rw [if_pos (Nat.lt_of_le_of_lt (show ([] : List Int).length + l.length ≤ 5000 by simpa using hl) (Nat.le_of_ble_eq_true rfl))]
  rfl
/-- The heap, with v at a. -/
def wantS (heap : List Int) (a v : Int) : List Int := if 0 ≤ a ∧ a < heap.length then heap.set a.toNat v else heap
theorem want_len (heap : List Int) (a v : Int) : (wantS heap a v).length = heap.length := by unfold wantS; split <;> simp
end Go.Proofs.Ytodhanlbdbfieaa.Co
