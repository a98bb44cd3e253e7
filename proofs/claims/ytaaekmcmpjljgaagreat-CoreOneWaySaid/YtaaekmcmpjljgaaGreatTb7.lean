import Derived.Test.YtaaekmcmpjljgaaGreatTB
namespace Go.Proofs.YtaaekmcmpjljgaaGreat.Ln
open Go.RowKit Go.Proofs.YtaaekmcmpjljgaaGreatW.PrintWords Go.Proofs.YtaaekmcmpjljgaaGreatW.PrintLast Go.Proofs.YtaaekmcmpjljgaaGreatW.PrintMore Go.Proofs.YtaaekmcmpjljgaaGreat.PMd
open Go.Maps
open Go.Sort (grow)
set_option linter.unusedVariables false
set_option linter.unusedSimpArgs false
theorem small_of {ls : List LS} {n : Nat} (h1 : ls.length ≤ 10000) (h2 : ∀ i, i < ls.length → (ls.getD i zL).1.length + (ls.getD i zL).2.length ≤ n) (hn : n ≤ 400000) : Small ls :=
  ⟨h1, fun i hi => by have := h2 i hi; omega⟩
def t0 : List LS := [([], []), ([], []), ([], [])]
def t1 : List LS := [([], []), ([⟨0, 3⟩], []), ([], [])]
def t2 : List LS := [([], []), ([⟨0, 5⟩], []), ([], [])]
abbrev f0 : At := fun _ => none
structure Op4 where
  f0 : Int
  f1 : Int
  f2 : Int
  f3 : Int
def zOp4 : Op4 := ⟨0, 0, 0, 0⟩
def kOp4 : Kd Op4 := Kd.iso (Kd.pair (Kd.int .i64) (Kd.pair (Kd.int .i64) (Kd.pair (Kd.int .i64) (Kd.int .i64)))) (fun x : Op4 => (x.f0, x.f1, x.f2, x.f3))
theorem kOp4_open {w : World} {x : Op4} {cs : List Value} (h : kOp4.K w x cs) : cs = [.int .i64 x.f0, .int .i64 x.f1, .int .i64 x.f2, .int .i64 x.f3] := by
  obtain ⟨_, _, rfl, rfl, _, _, rfl, rfl, _, _, rfl, rfl, rfl⟩ := h
  exact rfl
theorem at_Op4 {w : World} {A : Option Addr} {n : Nat} {xs : List Op4} (h : Kd.C kOp4 w A n xs) (i : Nat) (h1 : i < n) : ∃ ad, A = some ad ∧ w.cell? (ad.add (i * 4)) = some (.int .i64 (xs.getD i zOp4).f0) ∧
    w.cell? ⟨(ad.add (i * 4)).block, (ad.add (i * 4)).off + 1, none⟩ = some (.int .i64 (xs.getD i zOp4).f1) ∧ w.cell? ⟨(ad.add (i * 4)).block, (ad.add (i * 4)).off + 2, none⟩ = some (.int .i64 (xs.getD i zOp4).f2) ∧
    w.cell? ⟨(ad.add (i * 4)).block, (ad.add (i * 4)).off + 3, none⟩ = some (.int .i64 (xs.getD i zOp4).f3) := by
  obtain ⟨ad, c, e, _, hK, hc0⟩ := Kd.C_get h zOp4 (i : Int) (by omega) (by omega)
  have hc : ∀ j u, c[j]? = some u → w.cell? (ad.add (i * 4 + j)) = some u := hc0
  obtain rfl := kOp4_open hK
  exact ⟨ad, e, hc 0 _ rfl, by rw [← add_field _ _ 1 (by omega)]; exact hc 1 _ rfl, by rw [← add_field _ _ 2 (by omega)]; exact hc 2 _ rfl, by rw [← add_field _ _ 3 (by omega)]; exact hc 3 _ rfl⟩
def LInv (ls : List LS) : Prop := ∀ i, i < ls.length → Inv (ls.getD i zL).1 (ls.getD i zL).2
theorem told_ask_ne {hs qs : List E} (ha : Asc hs) {who k m : Int} (hk : k ≠ who) : toldIn (askIn hs qs who m).2.1 k = toldIn hs k := by
  unfold askIn
  split
  · rfl
  · split
    · exact told_grants_ne ha hk
    · rfl
theorem askT_len (ls : List LS) (most : Int) (f : At) (who node m : Int) : (askT ls most f who node m).2.2.1.length = ls.length := by
  unfold askT
  repeat' split
  all_goals first | rfl | (rw [List.length_set])
theorem askT_cases (ls : List LS) (most : Int) (f : At) (who node m : Int) : ((askT ls most f who node m).2.2.1 = ls ∧ (askT ls most f who node m).2.1 ≠ 0 ∧ (askT ls most f who node m).1 = 0 ∧ (askT ls most f who node m).2.2.2 = f) ∨
    ∃ i : Nat, node = i ∧ i < ls.length ∧ 0 ≤ who ∧ knownM m = true ∧ m ≠ 0 ∧ (f who).isSome = false ∧ ¬ (hasIn (ls.getD i zL).1 (ls.getD i zL).2 who = false ∧ most ≤ (lenT ls : Nat)) ∧ askT ls most f who node m = ((askIn (ls.getD i zL).1 (ls.getD i zL).2 who m).1, 0, ls.set i (askIn (ls.getD i zL).1 (ls.getD i zL).2 who m).2, if (askIn (ls.getD i zL).1 (ls.getD i zL).2 who m).1 = 2 then f.put who i else f) := by
  unfold askT
  split
  · exact .inl ⟨rfl, (show (4 : Int) ≠ 0 by decide), rfl, rfl⟩
  · rename_i h1
    split
    · exact .inl ⟨rfl, (show (5 : Int) ≠ 0 by decide), rfl, rfl⟩
    · rename_i h2
      split
      · exact .inl ⟨rfl, (show (1 : Int) ≠ 0 by decide), rfl, rfl⟩
      · rename_i h3
        split
        · exact .inl ⟨rfl, (show (3 : Int) ≠ 0 by decide), rfl, rfl⟩
        · rename_i h4
          refine .inr ⟨node.toNat, by omega, by omega, by omega, ?_, fun h => h3 (.inr (.inr h)), by simpa using h2, h4, rfl⟩
          cases hk : knownM m
          · exact absurd (.inr (.inl hk)) h3
          · rfl
theorem askT_at {ls : List LS} {i : Nat} {x : LS} (hi : i < ls.length) {j : Nat} : (ls.set i x).getD j zL = if j = i then x else ls.getD j zL := by
  by_cases hj : j < ls.length
  · exact getD_set_ls ls i j x hj
  · rw [List.getD_eq_getElem?_getD, List.getD_eq_getElem?_getD, List.getElem?_eq_none (by rw [List.length_set]; omega), List.getElem?_eq_none (by omega), if_neg (by omega)]
theorem askT_inv {ls : List LS} (h : LInv ls) (most : Int) (f : At) (who node m : Int) : LInv (askT ls most f who node m).2.2.1 := by
  rcases askT_cases ls most f who node m with ⟨h1, _⟩ | ⟨i, rfl, hi, _, _, _, _, _, e⟩
  · rw [h1]; exact h
  · rw [e]
    intro j hj
    rw [askT_at hi]
    by_cases ej : j = i
    · rw [if_pos ej]; exact inv_ask (h i hi) _ _
    · rw [if_neg ej]
      exact h j (by simpa using hj)
theorem askT_size {ls : List LS} {n : Nat} (h : ∀ i, i < ls.length → (ls.getD i zL).1.length + (ls.getD i zL).2.length ≤ n) (most : Int) (f : At) (who node m : Int) :
    ∀ i, i < (askT ls most f who node m).2.2.1.length → ((askT ls most f who node m).2.2.1.getD i zL).1.length + ((askT ls most f who node m).2.2.1.getD i zL).2.length ≤ n + 1 := by
  rcases askT_cases ls most f who node m with ⟨h1, _⟩ | ⟨i, rfl, hi, _, _, _, _, _, e⟩
  · rw [h1]; exact fun i hi => Nat.le_succ_of_le (h i hi)
  · rw [e]
    intro j hj
    rw [askT_at hi]
    by_cases ej : j = i
    · rw [if_pos ej]
      have := ask_len (ls.getD i zL).1 (ls.getD i zL).2 who m
      have := h i hi
      omega
    · rw [if_neg ej]
      exact Nat.le_succ_of_le (h j (by simpa using hj))
end Go.Proofs.YtaaekmcmpjljgaaGreat.Ln
