/- Plain facts for TaleTells: the document's answers come to the same; no program in sight. -/
import Derived.Test.YtfdnhhjggophcaaPAbx
import Derived.Test.YtfdnhhjggophcaaTcB
namespace Go.Proofs.Ytfdnhhjggophcaa.Tc
open Go.RowKit Go.Proofs.Ytfdnhhjggophcaa.PAb Go.Proofs.YtfdnhhjggophcaaW.PrintWords Go.Proofs.YtfdnhhjggophcaaW.PrintLast Go.Proofs.YtfdnhhjggophcaaW.PrintMore
set_option maxHeartbeats 4000000 in
theorem ref_step1 (l : List Int) (hb : ∀ x ∈ l, byt x) (k i : Nat) (acc : List S54) (ha : acc.length ≤ 1000) (hi : i < manyS l) :
    ∃ k', k ≤ k' ∧ ltkref20_Prog.l0 (k + 3) l (manyS l : Int) acc (i : Int) = ltkref20_Prog.l0 k' l (manyS l : Int) (acc ++ [insS l i]) ((i + 1 : Nat) : Int) := by
  have hm1 : manyS l ≤ l.length / 3 := by unfold manyS; omega
  have hm2 : manyS l ≤ 60 := by unfold manyS; omega
  have e3 : wrap64 (3 * (i : Int)) = ((3 * i : Nat) : Int) := by rw [wrap_in (by omega) (by omega)]; omega
  have e31 : wrap64 (((3 * i : Nat) : Int) + 1) = ((3 * i + 1 : Nat) : Int) := by rw [wrap_in (by omega) (by omega)]; omega
  have e32 : wrap64 (((3 * i : Nat) : Int) + 2) = ((3 * i + 2 : Nat) : Int) := by rw [wrap_in (by omega) (by omega)]; omega
  have q0 := Aside0.mk (byt_rd hb (3 * i))
  have q1 := Aside0.mk (byt_rd hb (3 * i + 1))
  have q2 := Aside0.mk (byt_rd hb (3 * i + 2))
  have ei : wrap64 ((i : Int) + 1) = ((i + 1 : Nat) : Int) := by rw [wrap_in (by omega) (by omega)]; omega
  have e10 : wrap64 ((i : Int) + 2) = (i : Int) + 2 := wrap_in (by omega) (by omega)
  have c1 : (i : Int) < (manyS l : Int) := by omega
  have c2 : (0 : Int) ≤ ((3 * i : Nat) : Int) := by omega
  have c3 : ((3 * i : Nat) : Int) < (l.length : Int) := by omega
  have c4 : (0 : Int) ≤ ((3 * i + 1 : Nat) : Int) := by omega
  have c5 : ((3 * i + 1 : Nat) : Int) < (l.length : Int) := by omega
  have c6 : (0 : Int) ≤ ((3 * i + 2 : Nat) : Int) := by omega
  have c7 : ((3 * i + 2 : Nat) : Int) < (l.length : Int) := by omega
  have hlen : acc.length < 2513169434916 := Nat.lt_of_lt_of_le (show acc.length < 1001 by omega) (Nat.le_of_ble_eq_true rfl)
  simp only [ltkref20_Prog.l0]
  rw [if_pos c1, e3, if_pos c2, if_pos c3, e31, if_pos c4, if_pos c5, e32, if_pos c6, if_pos c7]
  unfold insS
  generalize rd l ((3 * i : Nat) : Int) = x at q0 ⊢
  generalize rd l ((3 * i + 1 : Nat) : Int) = y at q1 ⊢
  generalize rd l ((3 * i + 2 : Nat) : Int) = z at q2 ⊢
  replace q0 := q0.out
  replace q1 := q1.out
  replace q2 := q2.out
  have e1 : Int.tmod x 8 = x % 8 := Int.tmod_eq_emod_of_nonneg q0.1
  have f2 : wrap64 y = y := wrap_in (by omega) (by omega)
  have f3 : wrap64 z = z := wrap_in (by omega) (by omega)
  have f4 : Int.tmod y 4 = y % 4 := Int.tmod_eq_emod_of_nonneg q1.1
  have f5 : Int.tmod z 16 = z % 16 := Int.tmod_eq_emod_of_nonneg q2.1
  have f6 : Int.tdiv z 16 = z / 16 := Int.tdiv_eq_ediv_of_nonneg q2.1
  have f7 : wrap64 (z / 16) = z / 16 := wrap_in (by omega) (by omega)
  have f8 : Int.tmod (z / 16) 5 = z / 16 % 5 := Int.tmod_eq_emod_of_nonneg (by omega)
  have f9 : wrap64 (z / 16 % 5 - 1) = z / 16 % 5 - 1 := wrap_in (by omega) (by omega)
  have f11 : Int.tmod z 9 = z % 9 := Int.tmod_eq_emod_of_nonneg q2.1
  rw [e1, f2, f3]
  have hm : x % 8 = 0 ∨ x % 8 = 1 ∨ x % 8 = 2 ∨ x % 8 = 3 ∨ x % 8 = 4 ∨ x % 8 = 5 ∨ x % 8 = 6 ∨ x % 8 = 7 := by omega
  unfold insT
  generalize x % 8 = m at hm ⊢
  clear e1 q0 e3 e31 e32 c2 c3 c4 c5 c6 c7
  rcases hm with rfl | rfl | rfl | rfl | rfl | rfl | rfl | rfl
  · simp only [if_true, ltkref20_Prog.j1, beq_self_eq_true, true_or, toS, hlen, f4, f5, f6, f7, f8, f9, ei]
    exact ⟨k + 1, Nat.le_succ k, rfl⟩
  · simp only [if_neg (show ¬ (1 : Int) = 0 by decide), if_true, ltkref20_Prog.j1, beq_self_eq_true, or_true, toS, hlen, f4, f5, f6, f7, f8, f9, ei]
    exact ⟨k + 1, Nat.le_succ k, rfl⟩
  · simp only [if_neg (show ¬ (2 : Int) = 0 by decide), show ((2 : Int) == 1) = false from rfl, if_neg (show ¬ (false = true) by decide), if_neg (show ¬ ((2 : Int) = 0 ∨ (2 : Int) = 1) by decide), if_true, ltkref20_Prog.j1, ltkref20_Prog.j2, beq_self_eq_true, true_or, toS, hlen, f4, f5, f6, f7, f8, f9, ei]
    exact ⟨k, Nat.le_refl k, rfl⟩
  · simp only [if_neg (show ¬ (3 : Int) = 0 by decide), show ((3 : Int) == 1) = false from rfl, if_neg (show ¬ (false = true) by decide), if_neg (show ¬ ((3 : Int) = 0 ∨ (3 : Int) = 1) by decide), if_neg (show ¬ (3 : Int) = 2 by decide), if_true, ltkref20_Prog.j1, ltkref20_Prog.j2, beq_self_eq_true, or_true, toS, hlen, f4, f5, f6, f7, f8, f9, ei]
    exact ⟨k, Nat.le_refl k, rfl⟩
  · simp only [if_neg (show ¬ (4 : Int) = 0 by decide), show ((4 : Int) == 1) = false from rfl, show ((4 : Int) == 3) = false from rfl, if_neg (show ¬ (false = true) by decide), if_neg (show ¬ ((4 : Int) = 0 ∨ (4 : Int) = 1) by decide), if_neg (show ¬ ((4 : Int) = 2 ∨ (4 : Int) = 3) by decide), if_neg (show ¬ (4 : Int) = 2 by decide), if_neg (show ¬ (4 : Int) = 5 by decide), if_neg (show ¬ (4 : Int) = 6 by decide), if_neg (show ¬ (4 : Int) = 7 by decide), if_true, ltkref20_Prog.j1, ltkref20_Prog.j2, toS, hlen, f4, f5, f6, f7, f8, f9, ei]
    exact ⟨k, Nat.le_refl k, rfl⟩
  · simp only [if_neg (show ¬ (5 : Int) = 0 by decide), show ((5 : Int) == 1) = false from rfl, show ((5 : Int) == 3) = false from rfl, if_neg (show ¬ (false = true) by decide), if_neg (show ¬ ((5 : Int) = 0 ∨ (5 : Int) = 1) by decide), if_neg (show ¬ ((5 : Int) = 2 ∨ (5 : Int) = 3) by decide), if_neg (show ¬ (5 : Int) = 2 by decide), if_neg (show ¬ (5 : Int) = 4 by decide), if_true, ltkref20_Prog.j1, ltkref20_Prog.j2, toS, hlen, f4, f5, f6, f7, f8, f9, f11, ei]
    exact ⟨k, Nat.le_refl k, rfl⟩
  · simp only [if_neg (show ¬ (6 : Int) = 0 by decide), show ((6 : Int) == 1) = false from rfl, show ((6 : Int) == 3) = false from rfl, if_neg (show ¬ (false = true) by decide), if_neg (show ¬ ((6 : Int) = 0 ∨ (6 : Int) = 1) by decide), if_neg (show ¬ ((6 : Int) = 2 ∨ (6 : Int) = 3) by decide), if_neg (show ¬ (6 : Int) = 2 by decide), if_neg (show ¬ (6 : Int) = 4 by decide), if_neg (show ¬ (6 : Int) = 5 by decide), if_true, ltkref20_Prog.j1, ltkref20_Prog.j2, hlen, f4, ei, e10]
    by_cases hc : (i : Int) + 2 ≤ (manyS l : Int)
    · rw [if_pos hc, if_neg (show ¬ ((i : Int) + 2 > (manyS l : Int)) by omega)]
      exact ⟨k, Nat.le_refl k, rfl⟩
    · rw [if_neg hc, if_pos (show (i : Int) + 2 > (manyS l : Int) by omega)]
      exact ⟨k, Nat.le_refl k, rfl⟩
  · simp only [if_neg (show ¬ (7 : Int) = 0 by decide), show ((7 : Int) == 1) = false from rfl, show ((7 : Int) == 3) = false from rfl, if_neg (show ¬ (false = true) by decide), if_neg (show ¬ ((7 : Int) = 0 ∨ (7 : Int) = 1) by decide), if_neg (show ¬ ((7 : Int) = 2 ∨ (7 : Int) = 3) by decide), if_neg (show ¬ (7 : Int) = 2 by decide), if_neg (show ¬ (7 : Int) = 4 by decide), if_neg (show ¬ (7 : Int) = 5 by decide), if_neg (show ¬ (7 : Int) = 6 by decide), if_true, ltkref20_Prog.j1, ltkref20_Prog.j2, hlen, f4, ei]
    by_cases h1 : z = 255
    · rw [if_pos h1, if_pos h1]
      exact ⟨k, Nat.le_refl k, rfl⟩
    · rw [if_neg h1, if_neg h1]
      by_cases h2 : z = 254
      · rw [if_pos h2, if_pos h2]
        exact ⟨k, Nat.le_refl k, rfl⟩
      · rw [if_neg h2, if_neg h2]
        exact ⟨k, Nat.le_refl k, rfl⟩
theorem refprog_loop (l : List Int) (hb : ∀ x ∈ l, byt x) (d : Nat) : ∀ (k i : Nat), i + d = manyS l → 3 * d + 5 < k →
    ltkref20_Prog.l0 k l (manyS l : Int) ((List.range i).map (insS l)) (i : Int) = some (progS l) := by
  have hm2 : manyS l ≤ 60 := by unfold manyS; omega
  induction d with
  | zero =>
    intro k i hi hk
    obtain ⟨k, rfl⟩ : ∃ z, k = z + 1 := ⟨k - 1, by omega⟩
    simp only [ltkref20_Prog.l0]
    rw [if_neg (by omega), show i = manyS l by omega]
    rfl
  | succ d ih =>
    intro k i hi hk
    obtain ⟨k, rfl⟩ : ∃ z, k = z + 3 := ⟨k - 3, by omega⟩
    obtain ⟨k', hk', e⟩ := ref_step1 l hb k i ((List.range i).map (insS l)) (by simp; omega) (by omega)
    rw [e]
    have := ih k' (i + 1) (by omega) (by omega)
    rw [List.range_succ, List.map_append] at this
    exact this
theorem refprog_f (l : List Int) (hl : l.length ≤ 100000) (hb : ∀ x ∈ l, byt x) {k : Nat} (hk : 200 < k) : ltkref20_Prog.f k l = some (progS l) := by
  unfold ltkref20_Prog.f
  rw [many_f l hl]
  have hm2 : manyS l ≤ 60 := by unfold manyS; omega
  exact refprog_loop l hb (manyS l) k 0 (by omega) (by omega)
theorem small_same (n a : Int) : ltkref20_Small.f n a = tale_Small.f n a := rfl
theorem refpicks_loop (l : List Int) (hl : l.length ≤ 100000) (hb : ∀ x ∈ l, byt x) (n : Int) (hn : 1 ≤ n) (hw : n ≤ 9223372036854775807) (d : Nat) : ∀ (k i : Nat), i + d = l.length → d + 5 < k →
    ltkref20_Picks.l0 k l n ((l.take i).map fun c => c % topS n) (i : Int) = some (picksS l n) := by
  induction d with
  | zero =>
    intro k i hi hk
    obtain ⟨k, rfl⟩ : ∃ z, k = z + 1 := ⟨k - 1, by omega⟩
    simp only [ltkref20_Picks.l0]
    rw [if_neg (by omega), List.take_of_length_le (by omega)]
    rfl
  | succ d ih =>
    intro k i hi hk
    obtain ⟨k, rfl⟩ : ∃ z, k = z + 1 := ⟨k - 1, by omega⟩
    have hil : i < l.length := by omega
    have c1 : ((l.take i).map fun c => c % topS n).length < 17592186044416 := Nat.lt_of_lt_of_le (show _ < 100001 by simp; omega) (Nat.le_of_ble_eq_true rfl)
    have h2 := ih k (i + 1) (by omega) (by omega)
    rw [List.take_succ_eq_append_getElem hil, List.map_append, ← rd_get hil] at h2
    have hq := byt_rd hb i
    simp only [ltkref20_Picks.l0]
    rw [if_pos (by omega), wrap_in (i := (i : Int) + 1) (by omega) (by omega), show ((i : Int) + 1) = ((i + 1 : Nat) : Int) by omega, wrap_in (i := rd l (i : Int)) (by omega) (by omega)]
    by_cases h : n > 255
    · rw [if_pos h, if_pos (by omega), if_pos c1]
      have e : rd l (i : Int) % topS n = rd l (i : Int) := by
        have : n ≤ topS n := by unfold topS mx; split <;> omega
        exact Int.emod_eq_of_lt hq.1 (by omega)
      rw [List.map_singleton, e] at h2
      exact h2
    · have e1 : wrap64 (n + 1) = n + 1 := wrap_in (by omega) (by omega)
      have e2 : topS n = n + 1 := by unfold topS mx; rw [e1]; split <;> omega
      rw [if_neg h, if_pos (by omega), e1, if_neg (by omega), if_pos c1, Int.tmod_eq_emod_of_nonneg hq.1, ← e2]
      exact h2
theorem refpicks_f (l : List Int) (hl : l.length ≤ 100000) (hb : ∀ x ∈ l, byt x) (n : Int) (hw : n ≤ 9223372036854775807) {k : Nat} (hk : l.length + 10 < k) : ltkref20_Picks.f k l n = some (if n < 1 then [] else picksS l n) := by
  unfold ltkref20_Picks.f
  by_cases h : n < 1
  · rw [if_pos h, if_pos h]
  · rw [if_neg h, if_neg h]
    exact refpicks_loop l hl hb n (by omega) hw l.length k 0 (by omega) (by omega)
theorem ints_loop (l : List Int) (hl : l.length ≤ 1000000) (d : Nat) : ∀ (k i : Nat), i + d = l.length → d < k → ltkref_Ints.l0 k l l (i : Int) = some true := by
  induction d with
  | zero =>
    intro k i hi hk
    obtain ⟨k, rfl⟩ : ∃ z, k = z + 1 := ⟨k - 1, by omega⟩
    simp only [ltkref_Ints.l0]
    rw [if_neg (by omega)]
  | succ d ih =>
    intro k i hi hk
    obtain ⟨k, rfl⟩ : ∃ z, k = z + 1 := ⟨k - 1, by omega⟩
    simp only [ltkref_Ints.l0]
    rw [if_pos (by omega), if_pos (by omega), if_pos (by omega), wrap_in (i := (i : Int) + 1) (by omega) (by omega), show ((i : Int) + 1) = ((i + 1 : Nat) : Int) by omega]
    simp only [if_true]
    exact ih k (i + 1) (by omega) (by omega)
theorem ints_same (l : List Int) (hl : l.length ≤ 1000000) {k : Nat} (hk : l.length < k) : ltkref_Ints.f k l l = some true := by
  unfold ltkref_Ints.f
  rw [if_pos rfl]
  exact ints_loop l hl l.length k 0 (by omega) hk
theorem same_loop (l : List S54) (hl : l.length ≤ 1000000) (hL : ∀ x ∈ l, x.f4.length ≤ 100) (d : Nat) : ∀ (k i : Nat), i + d = l.length → d + 200 < k → ltkref5_Same.l0 k l l (i : Int) = some true := by
  induction d with
  | zero =>
    intro k i hi hk
    obtain ⟨k, rfl⟩ : ∃ z, k = z + 1 := ⟨k - 1, by omega⟩
    simp only [ltkref5_Same.l0]
    rw [if_neg (by omega)]
  | succ d ih =>
    intro k i hi hk
    obtain ⟨k, rfl⟩ : ∃ z, k = z + 1 := ⟨k - 1, by omega⟩
    have hm : rd_T54 l (i : Int) ∈ l := by
      simp only [rd_T54, Int.toNat_natCast, List.getD_eq_getElem?_getD, List.getElem?_eq_getElem (show i < l.length by omega)]
      exact List.getElem_mem _
    have hx := hL _ hm
    have h2 := ih k (i + 1) (by omega) (by omega)
    simp only [ltkref5_Same.l0]
    rw [if_pos (by omega), if_pos (by omega), if_pos (by omega), wrap_in (i := (i : Int) + 1) (by omega) (by omega), show ((i : Int) + 1) = ((i + 1 : Nat) : Int) by omega, h2]
    generalize rd_T54 l (i : Int) = x at hx ⊢
    unfold ltkref5_SameInstr.f
    rw [if_pos rfl, if_pos rfl, if_pos rfl, if_pos rfl, ints_same _ (by omega) (by omega)]
    rfl
theorem same_same (l : List S54) (hl : l.length ≤ 1000000) (hL : ∀ x ∈ l, x.f4.length ≤ 100) {k : Nat} (hk : l.length + 200 < k) : ltkref5_Same.f k l l = some true := by
  unfold ltkref5_Same.f
  rw [if_pos rfl]
  exact same_loop l hl hL l.length k 0 (by omega) hk
theorem small_wrap {n : Nat} (h : n ≤ 100000) : wrap64 (n : Int) = (n : Int) := wrap_in (by omega) (by omega)
theorem half_wrap {size : Nat} (h : size ≤ 100000) : wrap64 (Int.tdiv (size : Int) 2) = ((size / 2 : Nat) : Int) := by
  rw [Int.tdiv_eq_ediv_of_nonneg (by omega), wrap_in (by omega) (by omega)]
  omega
theorem refthreads_loop (l : List Int) (hl : l.length ≤ 100000) (hb : ∀ x ∈ l, byt x) (n : Nat) (hn : 0 < n) (hn2 : n ≤ 64) (d : Nat) : ∀ (k i : Nat), i + d = n → d + 300 < k →
    ltkref20_Threads.l0 k l (n : Int) ((l.length / n : Nat) : Int) ((List.range i).map (twoS l (l.length / n))) (i : Int) = some (threadsS l n) := by
  obtain ⟨size, hs⟩ : ∃ s, s = l.length / n := ⟨_, rfl⟩
  have hsn : n * size ≤ l.length := by rw [hs]; exact Nat.mul_div_le _ _
  unfold threadsS
  rw [← hs]
  induction d with
  | zero =>
    intro k i hi hk
    obtain ⟨k, rfl⟩ : ∃ z, k = z + 1 := ⟨k - 1, by omega⟩
    simp only [ltkref20_Threads.l0]
    rw [if_neg (by omega), show i = n by omega]
  | succ d ih =>
    intro k i hi hk
    obtain ⟨k, rfl⟩ : ∃ z, k = z + 1 := ⟨k - 1, by omega⟩
    have hi1 : (i + 1) * size ≤ l.length := Nat.le_trans (Nat.mul_le_mul_right _ (by omega)) hsn
    have hi0 : i * size ≤ (i + 1) * size := Nat.mul_le_mul_right _ (by omega)
    have hsz : size ≤ l.length := Nat.le_trans (by rw [Nat.succ_mul]; omega) hi1
    have c6 : (i : Int) < (n : Int) := Int.ofNat_lt.2 (by omega)
    have c7 : i < 5864062014805 := Nat.lt_of_lt_of_le (show i < 65 by omega) (Nat.le_of_ble_eq_true rfl)
    have hpl : ((l.take ((i + 1) * size)).drop (i * size)).length = size := by
      rw [List.length_drop, List.length_take, Nat.min_eq_left hi1, Nat.succ_mul]
      omega
    have hpb : ∀ x ∈ (l.take ((i + 1) * size)).drop (i * size), byt x := fun x hx => hb x (List.mem_of_mem_take (List.mem_of_mem_drop hx))
    have g1 := refprog_f (((l.take ((i + 1) * size)).drop (i * size)).take (size / 2)) (by rw [List.length_take]; omega) (fun x hx => hpb x (List.mem_of_mem_take hx)) (k := k) (by omega)
    have g2 := refprog_f (((l.take ((i + 1) * size)).drop (i * size)).drop (size / 2)) (by rw [List.length_drop]; omega) (fun x hx => hpb x (List.mem_of_mem_drop hx)) (k := k) (by omega)
    have g3 := ih k (i + 1) (by omega) (by omega)
    rw [List.range_succ, List.map_append] at g3
    simp only [ltkref20_Threads.l0]
    have c1 : ((i * size : Nat) : Int) ≤ (((i + 1) * size : Nat) : Int) := Int.ofNat_le.2 hi0
    have c2 : (((i + 1) * size : Nat) : Int) ≤ (l.length : Int) := Int.ofNat_le.2 hi1
    have c3 : ((size / 2 : Nat) : Int) ≤ (((l.take ((i + 1) * size)).drop (i * size)).length : Int) := by rw [hpl]; exact Int.ofNat_le.2 (Nat.div_le_self _ _)
    have c4 : (0 : Int) ≤ ((i * size : Nat) : Int) := Int.natCast_nonneg _
    have c5 : (0 : Int) ≤ ((size / 2 : Nat) : Int) := Int.natCast_nonneg _
    have e1 : wrap64 ((i : Int) * (size : Int)) = ((i * size : Nat) : Int) := by
      rw [← Int.natCast_mul]
      exact small_wrap (Nat.le_trans hi0 (Nat.le_trans hi1 hl))
    have e0 : wrap64 ((i : Int) + 1) = ((i + 1 : Nat) : Int) := small_wrap (n := i + 1) (Nat.le_trans (show i + 1 ≤ 64 by omega) (by decide))
    have e2 : wrap64 (((i * size : Nat) : Int) + (size : Int)) = (((i + 1) * size : Nat) : Int) := by
      rw [← Int.natCast_add, ← Nat.succ_mul]
      exact small_wrap (Nat.le_trans hi1 hl)
    have e3 : wrap64 (Int.tdiv (size : Int) 2) = ((size / 2 : Nat) : Int) := half_wrap (Nat.le_trans hsz hl)
    rw [if_pos c6, e1, e0, e2, e3, if_pos c4, if_pos c1, if_pos c2, if_pos c5]
    simp only [Int.toNat_natCast]
    rw [if_pos c3, g1, g2]
    simp only [Option.bind_some, List.length_map, List.length_range]
    rw [if_pos c7]
    exact g3
end Go.Proofs.Ytfdnhhjggophcaa.Tc
