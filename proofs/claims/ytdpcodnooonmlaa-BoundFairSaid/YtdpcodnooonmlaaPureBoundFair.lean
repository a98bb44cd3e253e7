/- The statement BoundFair: a script that goes round is fair in windows of one round and not in smaller ones; with one left out it is not fair; for all numbers. -/
import Derived.Test.YtdpcodnooonmlaaPBox3
import Derived.Test.YtdpcodnooonmlaaBoFair
namespace Go.Proofs.Ytdpcodnooonmlaa.Pure
open Go.RowKit Go.Proofs.Ytdpcodnooonmlaa.PBo Go.Proofs.YtdpcodnooonmlaaW.PrintWords Go.Proofs.YtdpcodnooonmlaaW.PrintLast
open Go.Proofs.YtdpcodnooonmlaaW.PrintMore

theorem first_at : ltklaw21_first.f 60 = some true := by decide +kernel
theorem first_f {k : Nat} (hk : 60 ≤ k) : ltklaw21_first.f k = some true := at_rounds ltklaw21_first.mono hk first_at

/-- Round and round. -/
def rnd (n r : Nat) : List Int := (List.range r).map fun i => ((i % n : Nat) : Int)
theorem rnd_len (n r : Nat) : (rnd n r).length = r := by simp [rnd]
theorem rnd_succ (n r : Nat) : rnd n (r + 1) = rnd n r ++ [((r % n : Nat) : Int)] := by simp [rnd, List.range_succ]
def left (n r : Nat) : List Int := (rnd n r).filter fun x => decide (x ≠ (n : Int) - 1)
theorem left_succ (n r : Nat) : left n (r + 1) = if ((r % n : Nat) : Int) = (n : Int) - 1 then left n r else left n r ++ [((r % n : Nat) : Int)] := by
  unfold left
  rw [rnd_succ, List.filter_append]
  by_cases h : ((r % n : Nat) : Int) = (n : Int) - 1
  · rw [if_pos h]; simp [h]
  · have h' : ¬ ((r : Int) % (n : Int) = (n : Int) - 1) := by rwa [← Int.natCast_emod]
    rw [if_neg h]; simp [h']
theorem left_len (n r : Nat) : (left n r).length ≤ r := by
  have := List.length_filter_le (fun x => decide (x ≠ (n : Int) - 1)) (rnd n r)
  rw [rnd_len] at this
  exact this
theorem left_mem (n r : Nat) (x : Int) (h : x ∈ left n r) : x ≠ (n : Int) - 1 := by
  unfold left at h
  simpa using (List.mem_filter.1 h).2
theorem rnd_win (n r j : Nat) (hj : j < r) (a : Nat) (ha : j < a) : ((j % n : Nat) : Int) ∈ (rnd n r).take a := by
  rw [List.mem_take_iff_getElem]
  refine ⟨j, by rw [rnd_len]; omega, ?_⟩
  simp [rnd]
theorem mem_window (l : List Int) (j w i : Nat) (hi : i < l.length) (h1 : j ≤ i) (h2 : i < j + w) : l[i] ∈ (l.take (j + w)).drop j := by
  rw [List.mem_iff_getElem]
  refine ⟨i - j, by simp; omega, ?_⟩
  simp [List.getElem_drop, show j + (i - j) = i by omega]
theorem window_mem (l : List Int) (j w : Nat) (x : Int) (h : x ∈ (l.take (j + w)).drop j) : ∃ i, j ≤ i ∧ i < j + w ∧ ∃ hi : i < l.length, l[i] = x := by
  rw [List.mem_iff_getElem] at h
  obtain ⟨i, hi, e⟩ := h
  simp at hi
  refine ⟨j + i, by omega, by omega, by omega, ?_⟩
  rw [← e]
  simp [List.getElem_drop]
theorem round_fair (n r : Nat) (hn : 0 < n) : fairB (rnd n r) n n 0 ((rnd n r).length + 1 - n) = true := by
  rw [fair_iff]
  intro j hj x h0 hx
  rw [rnd_len] at hj
  obtain ⟨y, rfl⟩ := Int.eq_ofNat_of_zero_le h0
  have hy : y < n := by omega
  -- the place in the window
  obtain ⟨q, hq⟩ : ∃ q, q = j % n := ⟨_, rfl⟩
  have hqn : q < n := by rw [hq]; exact Nat.mod_lt _ hn
  have hdiv : n * (j / n) + q = j := by rw [hq]; exact Nat.div_add_mod j n
  obtain ⟨z, hz⟩ : ∃ z, z = n * (j / n) := ⟨_, rfl⟩
  have key : ∃ i, j ≤ i ∧ i < j + n ∧ i % n = y := by
    by_cases h : q ≤ y
    · refine ⟨z + y, by omega, by omega, ?_⟩
      rw [hz, Nat.mul_add_mod]
      exact Nat.mod_eq_of_lt hy
    · refine ⟨z + n + y, by omega, by omega, ?_⟩
      rw [hz, show n * (j / n) + n + y = n * (j / n + 1) + y by rw [Nat.mul_add, Nat.mul_one], Nat.mul_add_mod]
      exact Nat.mod_eq_of_lt hy
  obtain ⟨i, h1, h2, h3⟩ := key
  have hi : i < (rnd n r).length := by rw [rnd_len]; omega
  have := mem_window (rnd n r) j n i hi h1 h2
  have e : (rnd n r)[i] = (y : Int) := by
    simp [rnd]
    rw [← Int.natCast_emod, h3]
  rwa [e] at this
theorem round_small (n r : Nat) (hn : 2 ≤ n) (hr : n ≤ r) : fairB (rnd n r) (n - 1) n 0 ((rnd n r).length + 1 - (n - 1)) = false := by
  rw [Bool.eq_false_iff]
  intro h
  rw [fair_iff] at h
  have h2 := h 0 (by rw [rnd_len]; omega) ((n : Int) - 1) (by omega) (by omega)
  obtain ⟨i, _, hi, hi2, e⟩ := window_mem _ _ _ _ h2
  simp [rnd] at e
  rw [← Int.natCast_emod, Nat.mod_eq_of_lt (by omega)] at e
  omega
theorem left_small (n r : Nat) (hn : 1 ≤ n) : fairB (left n r) (left n r).length n 0 ((left n r).length + 1 - (left n r).length) = false := by
  rw [Bool.eq_false_iff]
  intro h
  rw [fair_iff] at h
  have h2 := h 0 (by omega) ((n : Int) - 1) (by omega) (by omega)
  have h3 := List.mem_of_mem_drop h2
  exact left_mem n r _ (List.mem_of_mem_take h3) rfl

section
variable (a0 a1 a2 a3 a4 a5 a6 a7 a8 a9 a10 a11 : Int)
/-- The end: the four questions. -/
theorem four (n r : Nat) (hn : manyOf a4 a11 = n) (h4 : a4 ≤ 9223372036854775807) (hn1 : 1 ≤ n) (hn2 : n ≤ 61) (hr1 : n ≤ r) (hr2 : r ≤ 244) (k : Nat) (hk : 400000 ≤ k) :
    ((ltklaw21_first.f k).bind fun t139 => (if t139 = true then ((bound_Fair.f k a0 a1 a2 a3 a4 a5 a6 a7 a8 a9 a10 a11 (n : Int) (rnd n r)).bind fun t140 => (if t140 = true then ((bound_Fair.f k a0 a1 a2 a3 a4 a5 a6 a7 a8 a9 a10 a11 (wrap64 ((n : Int) - 1)) (rnd n r)).bind fun t141 => (if t141 = true then (some false) else (if ((left n r).length : Int) = 0 then ((bound_Fair.f k a0 a1 a2 a3 a4 a5 a6 a7 a8 a9 a10 a11 (wrap64 (((rnd n r).length : Int) + 1)) (left n r)).bind fun t142 => (some t142)) else ((bound_Fair.f k a0 a1 a2 a3 a4 a5 a6 a7 a8 a9 a10 a11 ((left n r).length : Int) (left n r)).bind fun t143 => (if t143 = true then (some false) else ((bound_Fair.f k a0 a1 a2 a3 a4 a5 a6 a7 a8 a9 a10 a11 (wrap64 (((rnd n r).length : Int) + 1)) (left n r)).bind fun t144 => (some t144))))))) else (some false))) else (some false))) = some true := by
  have hlen := rnd_len n r
  have hll := left_len n r
  have big : ∀ l : List Int, l.length ≤ 244 → (l.length + 3) * ((manyOf a4 a11).toNat + l.length + 10) < k := by
    intro l h
    have : (l.length + 3) * ((manyOf a4 a11).toNat + l.length + 10) ≤ 247 * 315 := Nat.mul_le_mul (by omega) (by rw [hn]; omega)
    omega
  have f1 := fair_f a0 a1 a2 a3 a4 a5 a6 a7 a8 a9 a10 a11 (n : Int) (rnd n r) (by omega) h4 (by omega) (big _ (by omega))
  have f2 := fair_f a0 a1 a2 a3 a4 a5 a6 a7 a8 a9 a10 a11 ((n : Int) - 1) (rnd n r) (by omega) h4 (by omega) (big _ (by omega))
  have f3 := fair_f a0 a1 a2 a3 a4 a5 a6 a7 a8 a9 a10 a11 ((left n r).length : Int) (left n r) (by omega) h4 (by omega) (big _ (by omega))
  have f4 := fair_f a0 a1 a2 a3 a4 a5 a6 a7 a8 a9 a10 a11 (((rnd n r).length : Int) + 1) (left n r) (by omega) h4 (by omega) (big _ (by omega))
  rw [hn] at f1 f2 f3 f4
  simp only [Int.toNat_natCast] at f1 f2 f3 f4
  rw [if_neg (by omega), round_fair n r (by omega)] at f1
  have g4 : bound_Fair.f k a0 a1 a2 a3 a4 a5 a6 a7 a8 a9 a10 a11 (((rnd n r).length : Int) + 1) (left n r) = some true := by
    rw [f4, if_neg (by omega), show (((rnd n r).length : Int) + 1).toNat = (rnd n r).length + 1 by omega, show (left n r).length + 1 - ((rnd n r).length + 1) = 0 by omega]
    rfl
  have g2 : bound_Fair.f k a0 a1 a2 a3 a4 a5 a6 a7 a8 a9 a10 a11 ((n : Int) - 1) (rnd n r) = some false := by
    rw [f2]
    by_cases h : (n : Int) - 1 < 1
    · rw [if_pos h]
    · rw [if_neg h, show ((n : Int) - 1).toNat = n - 1 by omega, round_small n r (by omega) hr1]
  rw [first_f (by omega), f1, wrap_in (i := (n : Int) - 1) (by omega) (by omega), g2, wrap_in (i := ((rnd n r).length : Int) + 1) (by omega) (by omega), g4]
  simp only [Option.bind_some, if_true, Bool.false_eq_true, if_false]
  by_cases h0 : ((left n r).length : Int) = 0
  · rw [if_pos h0]
  · have g3 : bound_Fair.f k a0 a1 a2 a3 a4 a5 a6 a7 a8 a9 a10 a11 ((left n r).length : Int) (left n r) = some false := by
      rw [f3, if_neg (by omega), left_small n r hn1]
    rw [if_neg h0, g3]
    simp

theorem build (n R : Nat) (rr : Int) (hn : manyOf a4 a11 = n) (h4 : a4 ≤ 9223372036854775807) (hn1 : 1 ≤ n) (hn2 : n ≤ 61) (hr1 : n ≤ R) (hr2 : R ≤ 244) (hR : wrap64 (rr * (n : Int)) = R) (d : Nat) : ∀ (k i : Nat), i + d = R → 500000 + d ≤ k →
    ltklaw21_BoundFair.l0 k rr (n : Int) (rnd n i) (left n i) (i : Int) a0 a1 a2 a3 a4 a5 a6 a7 a8 a9 a10 a11 = some true := by
  induction d with
  | zero =>
    intro k i hi hk
    obtain ⟨k, rfl⟩ : ∃ z, k = z + 1 := ⟨k - 1, by omega⟩
    obtain rfl : i = R := by omega
    simp only [ltklaw21_BoundFair.l0]
    rw [hR, if_neg (by omega)]
    exact four a0 a1 a2 a3 a4 a5 a6 a7 a8 a9 a10 a11 n i hn h4 hn1 hn2 hr1 hr2 k (by omega)
  | succ d ih =>
    intro k i hi hk
    obtain ⟨k, rfl⟩ : ∃ z, k = z + 1 := ⟨k - 1, by omega⟩
    have hlen := rnd_len n i
    have hll := left_len n i
    simp only [ltklaw21_BoundFair.l0]
    rw [hR, if_pos (by omega), if_neg (by omega), if_pos (by omega), ← Int.ofNat_tmod, wrap_in (i := (n : Int) - 1) (by omega) (by omega), wrap_in (i := (i : Int) + 1) (by omega) (by omega), ← rnd_succ, show ((i : Int) + 1) = ((i + 1 : Nat) : Int) by omega]
    simp only [Option.bind_some]
    have := left_succ n i
    by_cases h : ((i % n : Nat) : Int) = (n : Int) - 1
    · rw [if_pos h] at this ⊢
      rw [← this]
      exact ih k (i + 1) (by omega) (by omega)
    · rw [if_neg h] at this ⊢
      rw [if_pos (by omega), ← this]
      exact ih k (i + 1) (by omega) (by omega)
end

theorem out_yes (a b c : Int) : ltklaw21_BoundFair.j0 600000 a b c true = some true := by
  simp only [ltklaw21_BoundFair.j0]
  rw [if_pos trivial, first_f (by omega)]
  rfl

theorem rounds_in (n : Nat) (c : Int) (hn1 : 1 ≤ n) (hn2 : n ≤ 61) (h2 : 2 ≤ c) (h4 : c ≤ 4) : ∃ R : Nat, wrap64 (c * (n : Int)) = R ∧ n ≤ R ∧ R ≤ 244 := by
  have hc : c = 2 ∨ c = 3 ∨ c = 4 := by omega
  rcases hc with rfl | rfl | rfl
  · exact ⟨2 * n, by rw [wrap_in (by omega) (by omega)]; omega, by omega, by omega⟩
  · exact ⟨3 * n, by rw [wrap_in (by omega) (by omega)]; omega, by omega, by omega⟩
  · exact ⟨4 * n, by rw [wrap_in (by omega) (by omega)]; omega, by omega, by omega⟩

/-- The pure statement. -/
theorem BoundFair : ltklaw21_BoundFair.Pure := by
  intro a b c _ _ _
  refine ⟨600000, ?_⟩
  unfold ltklaw21_BoundFair.f
  rw [first_f (by omega)]
  simp only [Option.bind_some, if_true]
  by_cases h1 : a < 1
  · rw [if_pos h1]; exact out_yes a b c
  · rw [if_neg h1]
    by_cases h2 : a > 60
    · rw [if_pos h2]; exact out_yes a b c
    · rw [if_neg h2]
      by_cases h3 : b < 0
      · rw [if_pos h3]; exact out_yes a b c
      · rw [if_neg h3]
        by_cases h4 : b > 2
        · rw [if_pos h4]; exact out_yes a b c
        · rw [if_neg h4]
          by_cases h5 : c < 2
          · rw [if_pos h5]; exact out_yes a b c
          · rw [if_neg h5]
            by_cases h6 : c > 4
            · rw [decide_eq_true h6]; exact out_yes a b c
            · rw [decide_eq_false h6]
              obtain ⟨x, rfl⟩ := Int.eq_ofNat_of_zero_le (show 0 ≤ a by omega)
              simp only [ltklaw21_BoundFair.j0]
              rw [if_neg (by decide)]
              by_cases hp : b = 0
              · rw [if_pos hp, wrap_in (by omega) (by omega), show ((x : Int) + 1) = ((x + 1 : Nat) : Int) by omega]
                simp only [ltklaw21_BoundFair.j1]
                obtain ⟨R, hR, hR1, hR2⟩ := rounds_in (x + 1) c (by omega) (by omega) (by omega) (by omega)
                refine build 1 1 1 1 (x : Int) 0 1 9 1 0 9 b (x + 1) R c ?_ (by omega) (by omega) (by omega) hR1 hR2 hR R _ 0 (by omega) (by omega)
                unfold manyOf
                rw [if_pos hp, wrap_in (by omega) (by omega)]
                omega
              · rw [if_neg hp]
                simp only [ltklaw21_BoundFair.j1]
                obtain ⟨R, hR, hR1, hR2⟩ := rounds_in x c (by omega) (by omega) (by omega) (by omega)
                refine build 1 1 1 1 (x : Int) 0 1 9 1 0 9 b x R c ?_ (by omega) (by omega) (by omega) hR1 hR2 hR R _ 0 (by omega) (by omega)
                unfold manyOf
                rw [if_neg hp]

end Go.Proofs.Ytdpcodnooonmlaa.Pure
