import Derived.Lib.AtoiAllCases
import Derived.Lib.ItoaNum
import Derived.Lib.ItoaLen
import Derived.Lib.SplitLaws
import Derived.Lib.Join

/- Lines of words and numbers, in plain Lean: what stands between spaces is read back; what a number is written as is read back as it. -/
namespace Go.Proofs.Pg
open Go.Lib

theorem occ_one (s : List UInt8) (c : UInt8) (j : Nat) (h : c ∉ s) : occAt s [c] j = false := by
  cases hh : occAt s [c] j with
  | false => rfl
  | true =>
    have := occAt_head (c := c) (t := []) rfl hh
    exact absurd (List.mem_of_getElem? this) h

theorem index_no (s : List UInt8) (c : UInt8) (h : c ∉ s) : index s [c] = -1 := index_none fun j _ => occ_one s c j h

theorem index_at : ∀ (x r : List UInt8) (c : UInt8), c ∉ x → index (x ++ c :: r) [c] = x.length
  | [], r, c, _ => by
    rw [List.nil_append]; unfold index; rw [if_pos (by simp)]; rfl
  | b :: x, r, c, h => by
    have hb : c ≠ b := fun e => h (e ▸ List.mem_cons_self ..)
    have ih := index_at x r c (fun hx => h (List.mem_cons_of_mem _ hx))
    rw [List.cons_append]; unfold index
    rw [if_neg (by simp [hb]), ih, if_neg (by rw [beq_iff_eq]; omega), List.length_cons]; omega

theorem splitK_no (k : Nat) (s : List UInt8) (c : UInt8) (h : c ∉ s) : splitK [c] 0 k s = [s] := by
  cases k with
  | zero => rfl
  | succ k => unfold splitK; rw [if_pos (by rw [index_no s c h]; rfl)]

theorem drop_past : ∀ (x r : List UInt8) (c : UInt8), (x ++ c :: r).drop (x.length + 1) = r
  | [], _, _ => rfl
  | _ :: x, r, c => drop_past x r c

theorem splitK_hit (k : Nat) (x r : List UInt8) (c : UInt8) (h : c ∉ x) : splitK [c] 0 (k + 1) (x ++ c :: r) = x :: splitK [c] 0 k r := by
  have hi := index_at x r c h
  conv => lhs; unfold splitK
  rw [if_neg (by rw [hi, beq_iff_eq]; omega), hi]
  rw [show ((x.length : Int)).toNat + [c].length = x.length + 1 by simp, drop_past]
  simp

theorem join_two (x y : List UInt8) (r : List (List UInt8)) (c : UInt8) : join (x :: y :: r) [c] = x ++ c :: join (y :: r) [c] := by
  simp [join, List.intercalate, List.intersperse]

theorem count_join (c : UInt8) : ∀ (xs : List (List UInt8)) (x : List UInt8), (∀ y ∈ x :: xs, c ∉ y) → count (join (x :: xs) [c]) [c] = xs.length
  | [], x, h => by
    rw [join_one, count_miss (index_no x c (h x (List.mem_cons_self ..)))]; rfl
  | y :: r, x, h => by
    have ih := count_join c r y (fun z hz => h z (List.mem_cons_of_mem _ hz))
    rw [join_two, count_hit (i := x.length) (by simp) (index_at x _ c (h x (List.mem_cons_self ..)))]
    rw [show x.length + [c].length = x.length + 1 by simp, drop_past, ih, List.length_cons]; omega

theorem splitK_join (c : UInt8) : ∀ (xs : List (List UInt8)) (x : List UInt8), (∀ y ∈ x :: xs, c ∉ y) → splitK [c] 0 xs.length (join (x :: xs) [c]) = x :: xs
  | [], x, _ => by rw [join_one]; rfl
  | y :: r, x, h => by
    rw [join_two, List.length_cons, splitK_hit _ _ _ _ (h x (List.mem_cons_self ..)), splitK_join c r y (fun z hz => h z (List.mem_cons_of_mem _ hz))]

theorem split_join (c : UInt8) (xs : List (List UInt8)) (x : List UInt8) (h : ∀ y ∈ x :: xs, c ∉ y) : split (join (x :: xs) [c]) [c] = x :: xs := by
  unfold split; rw [count_join c xs x h, splitK_join c xs x h]

/-! ### Numbers -/

theorem parseUint10_append : ∀ (a b : List UInt8) (acc u : Nat), parseUint10 acc a = .ok u → parseUint10 acc (a ++ b) = parseUint10 u b
  | [], b, acc, u, h => by simp only [parseUint10, NumEnd.ok.injEq] at h; subst h; rfl
  | c :: r, b, acc, u, h => by
    simp only [List.cons_append, parseUint10] at h ⊢
    split at h
    · rename_i h1; rw [if_pos h1]
      split at h
      · cases h
      · rename_i h2; rw [if_neg h2]
        split at h
        · cases h
        · rename_i h3; rw [if_neg h3]; exact parseUint10_append r b _ u h
    · cases h

theorem dig_nat (d : Nat) (h : d < 10) : (UInt8.ofNat (48 + d)).toNat = 48 + d := by
  rw [UInt8.toNat_ofNat']; omega

theorem parse_digits (u : Nat) : u < 18446744073709551616 → parseUint10 0 (decDigits u) = .ok u := by
  induction u using Nat.strongRecOn with
  | _ u ih =>
    intro hu
    by_cases h : u < 10
    · rw [decDigits, dif_pos h]
      have e := dig_nat u h
      simp only [parseUint10, e]
      rw [if_pos (by omega), if_neg (by omega), if_neg (by omega)]
      congr 1; omega
    · rw [decDigits, dif_neg h, parseUint10_append _ _ 0 _ (ih (u / 10) (by omega) (by omega))]
      have e := dig_nat (u % 10) (by omega)
      simp only [parseUint10, e]
      rw [if_pos (by omega), if_neg (by omega), if_neg (by omega)]
      congr 1; omega

theorem digits_all (u : Nat) : ∀ b ∈ decDigits u, 48 ≤ b.toNat ∧ b.toNat ≤ 57 := by
  induction u using Nat.strongRecOn with
  | _ u ih =>
    intro b hb
    by_cases h : u < 10
    · rw [decDigits, dif_pos h, List.mem_singleton] at hb
      rw [hb, dig_nat u h]; omega
    · rw [decDigits, dif_neg h, List.mem_append, List.mem_singleton] at hb
      rcases hb with hb | hb
      · exact ih (u / 10) (by omega) b hb
      · rw [hb, dig_nat (u % 10) (by omega)]; omega

theorem digits_ne (u : Nat) : decDigits u ≠ [] := by
  intro e
  have h1 := decDigits_length u
  have h2 := nDigits_pos u
  rw [e] at h1
  simp at h1; omega

theorem mag_digits (u : Nat) (hu : u < 18446744073709551616) : parseMag (decDigits u) = .ok u := by
  unfold parseMag; rw [if_neg (digits_ne u), parse_digits u hu]

theorem atoi_digits (u : Nat) (hu : u ≤ 9223372036854775807) : atoiAll (decDigits u) = .ok (u : Int) := by
  have hm := mag_digits u (by omega)
  have ha := digits_all u
  cases hd : decDigits u with
  | nil => exact absurd hd (digits_ne u)
  | cons c r =>
    rw [hd] at hm ha
    have hc := ha c (List.mem_cons_self ..)
    rw [atoiAll_plain c r (by omega) (by omega), hm]
    simp only [signless]
    rw [if_neg (by omega)]

theorem atoi_itoa (n : Int) (h0 : -9223372036854775808 ≤ n) (h1 : n ≤ 9223372036854775807) : atoiAll (itoa n) = .ok n := by
  unfold itoa
  split
  · rename_i h
    rw [atoiAll_minus, mag_digits n.natAbs (by omega)]
    simp only [signed]
    rw [if_neg (by omega)]
    congr 1; omega
  · rename_i h
    rw [atoi_digits n.toNat (by omega)]
    congr 1; omega

theorem itoa_plain (n : Int) : (32 : UInt8) ∉ itoa n := by
  intro h
  unfold itoa at h
  have hd : ∀ u : Nat, (32 : UInt8) ∉ decDigits u := fun u hu => by
    have := digits_all u _ hu
    simp at this
  split at h
  · rcases List.mem_cons.1 h with h | h
    · simp at h
    · exact hd _ h
  · exact hd _ h

end Go.Proofs.Pg
