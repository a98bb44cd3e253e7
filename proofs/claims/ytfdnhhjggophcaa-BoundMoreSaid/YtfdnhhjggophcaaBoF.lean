/- Plain facts on bound.Fair: what it comes to, for any list and any window; no program in sight. -/
import Derived.Test.YtfdnhhjggophcaaPAbx3
namespace Go.Proofs.Ytfdnhhjggophcaa.Bo
open Go.RowKit Go.Proofs.Ytfdnhhjggophcaa.PAb Go.Proofs.YtfdnhhjggophcaaW.PrintWords Go.Proofs.YtfdnhhjggophcaaW.PrintLast Go.Proofs.YtfdnhhjggophcaaW.PrintMore

theorem wrap_in {i : Int} (h0 : -9223372036854775808 ≤ i) (h : i ≤ 9223372036854775807) : wrap64 i = i := by
  unfold wrap64
  omega
theorem rd_get {l : List Int} {i : Nat} (h : i < l.length) : rd l (i : Int) = l[i] := by
  simp [rd, List.getD_eq_getElem?_getD, List.getElem?_eq_getElem h]
theorem rd_drop {l : List Int} {i : Nat} (h : i < l.length) : l.drop i = rd l (i : Int) :: l.drop (i + 1) := by
  rw [List.drop_eq_getElem_cons h, rd_get h]

theorem index_loop (l : List Int) (v : Int) (hl : l.length ≤ 1000000) (d : Nat) : ∀ (k i : Nat), i + d = l.length → d < k →
    ∃ r : Int, slices_Index_int_int.l0 k l v (l.length : Int) (i : Int) = some r ∧ (0 ≤ r ↔ v ∈ l.drop i) := by
  induction d with
  | zero =>
    intro k i hi hk
    obtain ⟨k, rfl⟩ : ∃ z, k = z + 1 := ⟨k - 1, by omega⟩
    refine ⟨-1, ?_, ?_⟩
    · simp only [slices_Index_int_int.l0]
      rw [if_neg (by omega)]
    · rw [List.drop_eq_nil_of_le (by omega)]
      simp
  | succ d ih =>
    intro k i hi hk
    obtain ⟨k, rfl⟩ : ∃ z, k = z + 1 := ⟨k - 1, by omega⟩
    have hil : i < l.length := by omega
    by_cases e : v = rd l (i : Int)
    · refine ⟨(i : Int), ?_, ?_⟩
      · simp only [slices_Index_int_int.l0]
        rw [if_pos (by omega), if_pos (by omega), if_pos (by omega), if_pos e]
      · rw [rd_drop hil, ← e]
        simp
    · obtain ⟨r, hr, hv⟩ := ih k (i + 1) (by omega) (by omega)
      refine ⟨r, ?_, ?_⟩
      · simp only [slices_Index_int_int.l0]
        rw [if_pos (by omega), if_pos (by omega), if_pos (by omega), if_neg e, wrap_in (by omega) (by omega), show ((i : Int) + 1) = ((i + 1 : Nat) : Int) by omega]
        exact hr
      · rw [hv, rd_drop hil, List.mem_cons]
        constructor
        · exact .inr
        · rintro (h | h)
          · exact absurd h e
          · exact h
theorem contains_f (l : List Int) (v : Int) (hl : l.length ≤ 1000000) {k : Nat} (hk : l.length < k) : slices_Contains_int_int.f k l v = some (decide (v ∈ l)) := by
  unfold slices_Contains_int_int.f slices_Index_int_int.f
  obtain ⟨r, hr, hv⟩ := index_loop l v hl l.length k 0 (by omega) hk
  have hr' : slices_Index_int_int.l0 k l v (l.length : Int) 0 = some r := hr
  rw [hr']
  simp only [Option.bind_some]
  congr 1
  rw [List.drop_zero] at hv
  by_cases h : v ∈ l
  · rw [decide_eq_true h, decide_eq_true (show r ≥ 0 from hv.2 h)]
  · rw [decide_eq_false h, decide_eq_false (show ¬ r ≥ 0 from fun h2 => h (hv.1 h2))]

/-- Does the window at i hold d numbers, from t on? -/
def winB (l : List Int) (w i : Nat) (t : Int) : Nat → Bool
  | 0 => true
  | d + 1 => decide (t ∈ (l.take (i + w)).drop i) && winB l w i (t + 1) d
/-- Does each of d windows, from i on, hold the numbers below many? -/
def fairB (l : List Int) (w many i : Nat) : Nat → Bool
  | 0 => true
  | d + 1 => winB l w i 0 many && fairB l w many (i + 1) d

theorem win_loop (l : List Int) (w i : Nat) (many n : Int) (hl : l.length ≤ 1000000) (hm : many ≤ 9223372036854775807) (hw : i + w ≤ l.length) (F : Nat) (b : Bool)
    (hnext : ∀ k, F ≤ k → bound_Fair.l0 k (w : Int) l many n (wrap64 ((i : Int) + 1)) = some b) (d : Nat) : ∀ (k : Nat) (t : Int), 0 ≤ t → t + d = many → F + d + l.length + 5 < k →
    bound_Fair.l1 k (w : Int) l many (i : Int) n (i : Int) many t = some (winB l w i t d && b) := by
  induction d with
  | zero =>
    intro k t h0 ht hk
    obtain ⟨k, rfl⟩ : ∃ z, k = z + 1 := ⟨k - 1, by omega⟩
    simp only [bound_Fair.l1]
    rw [if_neg (by omega), hnext k (by omega)]
    simp [winB]
  | succ d ih =>
    intro k t h0 ht hk
    obtain ⟨k, rfl⟩ : ∃ z, k = z + 1 := ⟨k - 1, by omega⟩
    have e1 : wrap64 ((i : Int) + (w : Int)) = ((i + w : Nat) : Int) := by rw [wrap_in (by omega) (by omega)]; omega
    simp only [bound_Fair.l1]
    rw [if_pos (by omega), if_pos (by omega), e1, if_pos (by omega), if_pos (by omega)]
    simp only [Int.toNat_natCast]
    rw [contains_f _ _ (by simp; omega) (by simp; omega), wrap_in (i := t + 1) (by omega) (by omega)]
    simp only [Option.bind_some]
    by_cases hc : t ∈ (l.take (i + w)).drop i
    · rw [if_pos (decide_eq_true hc), ih k (t + 1) (by omega) (by omega) (by omega)]
      simp only [winB, decide_eq_true hc, Bool.true_and]
    · rw [if_neg (by simpa using hc)]
      simp only [winB, decide_eq_false hc, Bool.false_and]

theorem fair_loop (l : List Int) (w : Nat) (many n : Int) (hl : l.length ≤ 1000000) (hm : many ≤ 9223372036854775807) (hn : n ≤ l.length + 1) (hnw : n + w ≤ l.length + 1 ∨ n ≤ 0) (d : Nat) : ∀ (k : Nat) (i : Nat), (i : Int) + d = n ∨ (n ≤ i ∧ d = 0) → (d + 1) * (many.toNat + l.length + 10) < k →
    bound_Fair.l0 k (w : Int) l many n (i : Int) = some (fairB l w many.toNat i d) := by
  induction d with
  | zero =>
    intro k i hi hk
    obtain ⟨k, rfl⟩ : ∃ z, k = z + 1 := ⟨k - 1, by omega⟩
    simp only [bound_Fair.l0]
    rw [if_neg (by omega)]
    rfl
  | succ d ih =>
    intro k i hi hk
    obtain ⟨k, rfl⟩ : ∃ z, k = z + 1 := ⟨k - 1, by omega⟩
    have hi' : (i : Int) + (d + 1 : Nat) = n := by omega
    have hmul : (d + 1 + 1) * (many.toNat + l.length + 10) = (d + 1) * (many.toNat + l.length + 10) + (many.toNat + l.length + 10) := by rw [Nat.succ_mul]
    have hnext : ∀ k, (d + 1) * (many.toNat + l.length + 10) + 1 ≤ k → bound_Fair.l0 k (w : Int) l many n (wrap64 ((i : Int) + 1)) = some (fairB l w many.toNat (i + 1) d) := by
      intro k hk2
      rw [wrap_in (by omega) (by omega), show ((i : Int) + 1) = ((i + 1 : Nat) : Int) by omega]
      exact ih k (i + 1) (by omega) (by omega)
    simp only [bound_Fair.l0]
    rw [if_pos (by omega)]
    by_cases h0 : 0 ≤ many
    · rw [win_loop l w i many n hl hm (by omega) _ _ hnext many.toNat k 0 (by omega) (by omega) (by omega)]
      rfl
    · obtain ⟨k, rfl⟩ : ∃ z, k = z + 1 := ⟨k - 1, by omega⟩
      simp only [bound_Fair.l1]
      rw [if_neg (by omega), hnext k (by omega)]
      rw [show many.toNat = 0 by omega]
      simp [fairB, winB]

/-- What Fair tells: threads or, with Detect, one more. -/
def manyOf (threads policy : Int) : Int := if policy = 0 then wrap64 (threads + 1) else threads
theorem wrap_le (x : Int) : wrap64 x ≤ 9223372036854775807 := by unfold wrap64; omega
theorem fair_f (a0 a1 a2 a3 a4 a5 a6 a7 a8 a9 a10 a11 : Int) (w : Int) (l : List Int) (hl : l.length ≤ 1000000) (h4 : a4 ≤ 9223372036854775807) (hw : w ≤ 1000000) {k : Nat}
    (hk : (l.length + 3) * ((manyOf a4 a11).toNat + l.length + 10) < k) :
    bound_Fair.f k a0 a1 a2 a3 a4 a5 a6 a7 a8 a9 a10 a11 w l = some (if w < 1 then false else fairB l w.toNat (manyOf a4 a11).toNat 0 (l.length + 1 - w.toNat)) := by
  unfold bound_Fair.f
  by_cases h1 : w < 1
  · rw [if_pos h1, if_pos h1]
  · rw [if_neg h1, if_neg h1]
    obtain ⟨u, rfl⟩ := Int.eq_ofNat_of_zero_le (show 0 ≤ w by omega)
    have hm : manyOf a4 a11 ≤ 9223372036854775807 := by
      unfold manyOf
      split
      · exact wrap_le _
      · exact h4
    have key : bound_Fair.j0 k (u : Int) l (manyOf a4 a11) = some (fairB l u (manyOf a4 a11).toNat 0 (l.length + 1 - u)) := by
      obtain ⟨k, rfl⟩ : ∃ z, k = z + 1 := ⟨k - 1, by omega⟩
      simp only [bound_Fair.j0]
      have e : wrap64 (wrap64 ((l.length : Int) - (u : Int)) + 1) = (l.length : Int) - u + 1 := by
        rw [wrap_in (i := (l.length : Int) - u) (by omega) (by omega), wrap_in (by omega) (by omega)]
      rw [e]
      refine fair_loop l u _ _ hl hm (by omega) (by omega) (l.length + 1 - u) k 0 (by omega) ?_
      have : (l.length + 1 - u + 1) * ((manyOf a4 a11).toNat + l.length + 10) ≤ (l.length + 2) * ((manyOf a4 a11).toNat + l.length + 10) := Nat.mul_le_mul_right _ (by omega)
      have h2 : (l.length + 3) * ((manyOf a4 a11).toNat + l.length + 10) = (l.length + 2) * ((manyOf a4 a11).toNat + l.length + 10) + ((manyOf a4 a11).toNat + l.length + 10) := by rw [Nat.succ_mul]
      omega
    have e2 : ((u : Int)).toNat = u := Int.toNat_natCast u
    rw [e2]
    by_cases hp : a11 = 0
    · rw [if_pos hp]
      have : manyOf a4 a11 = wrap64 (a4 + 1) := by unfold manyOf; rw [if_pos hp]
      rw [← this]
      exact key
    · rw [if_neg hp]
      have : manyOf a4 a11 = a4 := by unfold manyOf; rw [if_neg hp]
      rw [this] at key
      rw [this]
      exact key

theorem winB_iff (l : List Int) (w i : Nat) (d : Nat) : ∀ t : Int, winB l w i t d = true ↔ ∀ x : Int, t ≤ x → x < t + d → x ∈ (l.take (i + w)).drop i := by
  induction d with
  | zero => intro t; simp [winB]; intro x h1 h2; omega
  | succ d ih =>
    intro t
    simp only [winB, Bool.and_eq_true, decide_eq_true_eq]
    rw [ih (t + 1)]
    constructor
    · rintro ⟨h1, h2⟩ x hx1 hx2
      by_cases e : x = t
      · rw [e]; exact h1
      · exact h2 x (by omega) (by omega)
    · intro h
      exact ⟨h t (by omega) (by omega), fun x h1 h2 => h x (by omega) (by omega)⟩
theorem fairB_iff (l : List Int) (w many : Nat) (d : Nat) : ∀ i : Nat, fairB l w many i d = true ↔ ∀ j : Nat, i ≤ j → j < i + d → ∀ x : Int, 0 ≤ x → x < many → x ∈ (l.take (j + w)).drop j := by
  induction d with
  | zero => intro i; simp [fairB]; intro j h1 h2; omega
  | succ d ih =>
    intro i
    simp only [fairB, Bool.and_eq_true]
    rw [ih (i + 1), winB_iff]
    constructor
    · rintro ⟨h1, h2⟩ j hj1 hj2
      by_cases e : j = i
      · rw [e]; intro x hx1 hx2; exact h1 x hx1 (by omega)
      · exact h2 j (by omega) (by omega)
    · intro h
      exact ⟨fun x h1 h2 => h i (by omega) (by omega) x h1 (by omega), fun j h1 h2 => h j (by omega) (by omega)⟩
/-- Is each number below many in each window of w? -/
theorem fair_iff (l : List Int) (w many : Nat) : fairB l w many 0 (l.length + 1 - w) = true ↔ ∀ j : Nat, j + w ≤ l.length → ∀ x : Int, 0 ≤ x → x < many → x ∈ (l.take (j + w)).drop j := by
  rw [fairB_iff]
  constructor
  · intro h j hj; exact h j (by omega) (by omega)
  · intro h j _ hj; exact h j (by omega)

end Go.Proofs.Ytfdnhhjggophcaa.Bo
