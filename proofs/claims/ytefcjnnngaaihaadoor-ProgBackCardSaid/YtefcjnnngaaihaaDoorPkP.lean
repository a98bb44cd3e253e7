import Derived.Test.YtefcjnnngaaihaaDoorPaP
import Derived.Test.YtefcjnnngaaihaaDoorPr6
/- What Check tells, in plain Lean. -/
namespace Go.Proofs.YtefcjnnngaaihaaDoor.Pg
open Go.RowKit Go.Proofs.Pg Go.Proofs.YtefcjnnngaaihaaDoorW.PrintWords Go.Proofs.YtefcjnnngaaihaaDoor.PPg
set_option linter.unusedVariables false
def okAt (regs many : Int) (x : In) (i : Int) : Bool := prog_may.g regs x.k x.a x.b x.c x.l i many
def okFrom (regs many : Int) : List In → Nat → Bool
  | [], _ => true
  | x :: r, i => okAt regs many x i && okFrom regs many r (i + 1)
theorem rd_S (xs : List In) (i : Nat) (h : i < xs.length) : rd_T26 (xs.map toS) (i : Int) = toS xs[i] := by simp [rd_T26, List.getElem?_eq_getElem h]
theorem l0_run (c0 c1 c2 c3 c4 c5 c6 c7 c8 c9 c10 c11 : Int) (xs : List In) (hlen : xs.length ≤ 1000) : ∀ (k i : Nat), i ≤ xs.length → xs.length - i < k →
    prog_Check.l0 k (xs.map toS) (xs.map toS) (xs.length : Int) (i : Int) c0 c1 c2 c3 c4 c5 c6 c7 c8 c9 c10 c11 = some (cond (okFrom c6 xs.length (xs.drop i) i) 0 2)
  | 0, i, _, h => absurd h (by omega)
  | k + 1, i, hi, hk => by
    unfold prog_Check.l0
    by_cases h : i < xs.length
    · rw [if_pos (by omega), if_pos (by omega), if_pos (by rw [List.length_map]; omega), rd_S xs i h, List.length_map, List.drop_eq_getElem_cons h]
      simp only [prog_may.f, Option.bind_some, okFrom, okAt, toS]
      cases hg : prog_may.g c6 xs[i].k xs[i].a xs[i].b xs[i].c xs[i].l i xs.length
      · simp
      · rw [if_pos rfl, Bool.true_and, show wrap64 ((i : Int) + 1) = ((i + 1 : Nat) : Int) by unfold wrap64; omega]
        exact l0_run c0 c1 c2 c3 c4 c5 c6 c7 c8 c9 c10 c11 xs hlen k (i + 1) (by omega) (by omega)
    · rw [if_neg (by omega), List.drop_eq_nil_of_le (by omega)]; rfl
theorem check_in {c0 c1 c2 c3 c4 c5 c6 c7 c8 c9 c10 c11 : Int} (h : InB c0 c1 c2 c3 c4 c5 c6 c7 c8 c9 c10 c11) (xs : List In) (hl : xs.length ≤ 60) :
    prog_Check.f 70 c0 c1 c2 c3 c4 c5 c6 c7 c8 c9 c10 c11 (xs.map toS) = some (cond (okFrom c6 xs.length xs 0) 0 2) := by
  unfold prog_Check.f
  rw [chk_yes h, Option.bind_some, if_pos rfl, List.length_map, decide_eq_false (by omega), prog_Check.j0, if_neg (by decide), List.length_map]
  exact l0_run c0 c1 c2 c3 c4 c5 c6 c7 c8 c9 c10 c11 xs (by omega) 69 0 (by omega) (by omega)
theorem check_out {c0 c1 c2 c3 c4 c5 c6 c7 c8 c9 c10 c11 : Int} (xs : List In) (h : ¬ (InB c0 c1 c2 c3 c4 c5 c6 c7 c8 c9 c10 c11 ∧ xs.length ≤ 60)) :
    prog_Check.f 70 c0 c1 c2 c3 c4 c5 c6 c7 c8 c9 c10 c11 (xs.map toS) = some 2 := by
  unfold prog_Check.f
  by_cases hc : InB c0 c1 c2 c3 c4 c5 c6 c7 c8 c9 c10 c11
  · rw [chk_yes hc, Option.bind_some, if_pos rfl, List.length_map, decide_eq_true (by have h3 : ¬ xs.length ≤ 60 := fun h2 => h ⟨hc, h2⟩; omega), prog_Check.j0, if_pos rfl]
  · rw [chk_no hc, Option.bind_some, if_neg (by decide), prog_Check.j0, if_pos rfl]
theorem okFrom_iff (regs many : Int) : ∀ (xs : List In) (i : Nat), okFrom regs many xs i = true ↔ ∀ j (h : j < xs.length), okAt regs many xs[j] ((i + j : Nat) : Int) = true
  | [], i => by simp [okFrom]
  | x :: r, i => by
    simp only [okFrom, Bool.and_eq_true, okFrom_iff regs many r (i + 1)]
    constructor
    · rintro ⟨h0, h1⟩ j h
      cases j with
      | zero => rw [Nat.add_zero]; exact h0
      | succ j => have := h1 j (by simpa using h); rw [show i + 1 + j = i + (j + 1) by omega] at this; exact this
    · intro h
      refine ⟨by have h0 := h 0 (by simp); rw [Nat.add_zero] at h0; exact h0, fun j hj => ?_⟩
      have := h (j + 1) (by simpa using hj)
      rw [show i + 1 + j = i + (j + 1) by omega]; exact this
/-- What Check tells. -/
def chk (c0 c1 c2 c3 c4 c5 c6 c7 c8 c9 c10 c11 : Int) (xs : List In) : Prop :=
  InB c0 c1 c2 c3 c4 c5 c6 c7 c8 c9 c10 c11 ∧ xs.length ≤ 60 ∧ ∀ j (h : j < xs.length), okAt c6 xs.length xs[j] (j : Int) = true
theorem check_yes {c0 c1 c2 c3 c4 c5 c6 c7 c8 c9 c10 c11 : Int} {xs : List In} (h : chk c0 c1 c2 c3 c4 c5 c6 c7 c8 c9 c10 c11 xs) : prog_Check.f 70 c0 c1 c2 c3 c4 c5 c6 c7 c8 c9 c10 c11 (xs.map toS) = some 0 := by
  rw [check_in h.1 xs h.2.1, (okFrom_iff _ _ xs 0).2 (fun j hj => by rw [Nat.zero_add]; exact h.2.2 j hj)]; rfl
theorem check_no {c0 c1 c2 c3 c4 c5 c6 c7 c8 c9 c10 c11 : Int} {xs : List In} (h : ¬ chk c0 c1 c2 c3 c4 c5 c6 c7 c8 c9 c10 c11 xs) : prog_Check.f 70 c0 c1 c2 c3 c4 c5 c6 c7 c8 c9 c10 c11 (xs.map toS) = some 2 := by
  by_cases h2 : InB c0 c1 c2 c3 c4 c5 c6 c7 c8 c9 c10 c11 ∧ xs.length ≤ 60
  · rw [check_in h2.1 xs h2.2]
    cases h3 : okFrom c6 xs.length xs 0
    · rfl
    · exact absurd ⟨h2.1, h2.2, fun j hj => by have := (okFrom_iff _ _ xs 0).1 h3 j hj; rwa [Nat.zero_add] at this⟩ h
  · exact check_out xs h2
theorem ok_kind {regs many i : Int} {x : In} (h : okAt regs many x i = true) : 1 ≤ x.k ∧ x.k ≤ 7 := by
  unfold okAt prog_may.g at h
  split at h
  · omega
  split at h
  · omega
  split at h
  · omega
  split at h
  · omega
  split at h
  · omega
  · cases h
theorem ok_jump {regs many i : Int} {x : In} (h : okAt regs many x i = true) (hk : x.k = 5) : i < x.b ∧ x.b ≤ many := by
  unfold okAt prog_may.g at h
  rw [hk] at h
  simp at h
  exact ⟨h.1.2, h.2⟩
theorem ok_calc {regs many i : Int} {x : In} (h : okAt regs many x i = true) (hk : x.k = 4) : 0 ≤ x.b ∧ x.b ≤ 8 := by
  unfold okAt prog_may.g at h
  rw [hk] at h
  simp at h
  exact h.1.1.1.2
theorem ok_canon {regs many i : Int} {x : In} (h : okAt regs many x i = true) : okAt regs many (canon x) i = true := by
  have hk := ok_kind h
  obtain ⟨k, a, b, c, l⟩ := x
  simp only at hk
  unfold okAt at h ⊢
  unfold canon
  unfold prog_may.g at h ⊢
  simp only at h ⊢
  rcases kinds hk with e | e | e | e | e | e | e <;> subst e <;> simp [word] at h ⊢ <;> first | exact h | exact h.1 | omega | (simp_all)
theorem chk_canon {c0 c1 c2 c3 c4 c5 c6 c7 c8 c9 c10 c11 : Int} {xs : List In} (h : chk c0 c1 c2 c3 c4 c5 c6 c7 c8 c9 c10 c11 xs) : chk c0 c1 c2 c3 c4 c5 c6 c7 c8 c9 c10 c11 (xs.map canon) := by
  refine ⟨h.1, by simpa using h.2.1, fun j hj => ?_⟩
  have hj2 : j < xs.length := by simpa using hj
  have h2 := ok_canon (h.2.2 j hj2)
  simp only [List.getElem_map, List.length_map]
  exact h2
end Go.Proofs.YtefcjnnngaaihaaDoor.Pg
