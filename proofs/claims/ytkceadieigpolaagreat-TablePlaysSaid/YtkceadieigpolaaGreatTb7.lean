/- A table: the chapter's examples; what is held, in plain words; the operations of its laws. -/
import Derived.Test.YtkceadieigpolaaGreatTB
namespace Go.Proofs.YtkceadieigpolaaGreat.Ln
open Go.RowKit Go.Proofs.YtkceadieigpolaaGreatW.PrintWords Go.Proofs.YtkceadieigpolaaGreatW.PrintLast Go.Proofs.YtkceadieigpolaaGreatW.PrintMore Go.Proofs.YtkceadieigpolaaGreat.PMd
open Go.Maps
open Go.Sort (grow)
set_option linter.unusedVariables false
set_option linter.unusedSimpArgs false
/-- A table made behind the world w0, its footprint from there on. -/
theorem AskT_0 {w0 w : World} {b N : Nat} {ls : List LS} {most : Int} {f : At} (h : IsTab w b (fun k => w0.heap.size ≤ k) ls most N f) (hb : Below w0.heap.size w0 w) (hs : Small ls) (hN : N ≤ 1000000) (who node m : Int) (hw : ok64 who) :
    Calls Tryz.prog 9 #[.pointer (some ⟨b, 0, none⟩), .int .i64 who, .int .i64 node, .int .i64 m] w fun e w' => e = .returned (.tuple #[.int .i64 (askT ls most f who node m).1, .int .i64 (askT ls most f who node m).2.1]) ∧
      IsTab w' b (fun k => w0.heap.size ≤ k) (askT ls most f who node m).2.2.1 most (N + 1) (askT ls most f who node m).2.2.2 ∧ Below w0.heap.size w0 w' :=
  (AskT_ h hs hN who node m hw).mono fun e w' ⟨h1, h2, h3⟩ => ⟨h1, h2.mono (fun k _ hk => hk.elim id (fun h => Nat.le_trans hb.size h)), h3.to_below hb hb.size (fun _ h => h)⟩
theorem small_of {ls : List LS} {n : Nat} (h1 : ls.length ≤ 10000) (h2 : ∀ i, i < ls.length → (ls.getD i zL).1.length + (ls.getD i zL).2.length ≤ n) (hn : n ≤ 400000) : Small ls :=
  ⟨h1, fun i hi => by have := h2 i hi; omega⟩
def t0 : List LS := [([], []), ([], []), ([], [])]
def t1 : List LS := [([], []), ([⟨0, 3⟩], []), ([], [])]
def t2 : List LS := [([], []), ([⟨0, 5⟩], []), ([], [])]
abbrev f0 : At := fun _ => none
theorem ft1 : askT t0 1 f0 0 1 3 = (1, 0, t1, f0) := by kernel_rfl
theorem ft2 : askT t1 1 f0 1 2 3 = (0, 3, t1, f0) := by kernel_rfl
theorem ft3 : askT t1 1 f0 0 1 5 = (1, 0, t2, f0) := by kernel_rfl
theorem ft4 : lenT t2 = 1 := by kernel_rfl
theorem sm0 : Small t0 := small_of (n := 1) (by decide) (by decide) (by decide)
theorem sm1 : Small t1 := small_of (n := 1) (by decide) (by decide) (by decide)
theorem sm2 : Small t2 := small_of (n := 1) (by decide) (by decide) (by decide)
set_option maxHeartbeats 8000000 in
set_option maxRecDepth 100000 in
theorem firstT_ (w : World) : Calls Tryz.prog 17 #[] w fun e w' => e = .returned (.bool true) ∧ Below w.heap.size w w' := by
  have HN := Aside0.mk (NewT_ 3 1 w (by decide) (by decide) (by decide) (by decide))
  go_enter Tryz.func17, Tryz.ntmps17
  go_wp2_with fail
  refine HN.out.mono ?_
  rintro e w1 ⟨rfl, hT, hb⟩
  have HA := Aside0.mk (AskT_0 (show IsTab w1 (w.heap.size + 1) (fun k => w.heap.size ≤ k) t0 1 0 f0 from hT) hb sm0 (by decide) 0 1 3 (by decide))
  rw [ft1] at HA
  clear hT hb HN
  go_wp2_with fail
  refine HA.out.mono ?_
  rintro e w2 ⟨rfl, hT, hb⟩
  have HA := Aside0.mk (AskT_0 hT hb sm1 (by decide) 1 2 3 (by decide))
  simp only [ft2] at HA
  clear hT hb
  go_wp2_with fail
  refine HA.out.mono ?_
  rintro e w3 ⟨rfl, hT, hb⟩
  have HA := Aside0.mk (AskT_0 hT hb sm1 (by decide) 0 1 5 (by decide))
  simp only [ft3] at HA
  clear hT hb
  go_wp2_with fail
  refine HA.out.mono ?_
  rintro e w4 ⟨rfl, hT, hb⟩
  have HL := Aside0.mk (LenT_ hT sm2)
  rw [show lenT (1, (0 : Int), t2, f0).2.2.1 = 1 from ft4] at HL
  have HB := Aside0.mk hb
  clear hT hb HA
  go_wp2_with fail
  refine HL.out.mono ?_
  rintro e w5 ⟨rfl, hb⟩
  have HB5 := Aside0.mk (below_then HB.out HB.out.size hb)
  clear hb HL
  go_wp2
  go_ret
  exact ⟨rfl, HB5.out⟩
structure Op4 where
  f0 : Int
  f1 : Int
  f2 : Int
  f3 : Int
def zOp4 : Op4 := ⟨0, 0, 0, 0⟩
def kOp4 : Kd Op4 := Kd.iso (Kd.pair (Kd.int .i64) (Kd.pair (Kd.int .i64) (Kd.pair (Kd.int .i64) (Kd.int .i64)))) (fun x : Op4 => (x.f0, x.f1, x.f2, x.f3))
theorem kOp4_open {w : World} {x : Op4} {cs : List Value} (h : kOp4.K w x cs) : cs = [.int .i64 x.f0, .int .i64 x.f1, .int .i64 x.f2, .int .i64 x.f3] := by
  obtain ⟨_, _, rfl, rfl, _, _, rfl, rfl, _, _, rfl, rfl, rfl⟩ := h
  exact rfl
theorem at_Op4 {w : World} {A : Option Addr} {n : Nat} {xs : List Op4} (h : Kd.C kOp4 w A n xs) (i : Nat) (h1 : i < n) : ∃ ad, A = some ad ∧ w.cell? (ad.add (i * 4)) = some (.int .i64 (xs.getD i zOp4).f0) ∧
    w.cell? ⟨(ad.add (i * 4)).block, (ad.add (i * 4)).off + 1, none⟩ = some (.int .i64 (xs.getD i zOp4).f1) ∧ w.cell? ⟨(ad.add (i * 4)).block, (ad.add (i * 4)).off + 2, none⟩ = some (.int .i64 (xs.getD i zOp4).f2) ∧
    w.cell? ⟨(ad.add (i * 4)).block, (ad.add (i * 4)).off + 3, none⟩ = some (.int .i64 (xs.getD i zOp4).f3) := by
  obtain ⟨ad, c, e, _, hK, hc0⟩ := Kd.C_get h zOp4 (i : Int) (by omega) (by omega)
  have hc : ∀ j u, c[j]? = some u → w.cell? (ad.add (i * 4 + j)) = some u := hc0
  obtain rfl := kOp4_open hK
  exact ⟨ad, e, hc 0 _ rfl, by rw [← add_field _ _ 1 (by omega)]; exact hc 1 _ rfl, by rw [← add_field _ _ 2 (by omega)]; exact hc 2 _ rfl, by rw [← add_field _ _ 3 (by omega)]; exact hc 3 _ rfl⟩
/-! ### locks one by one -/
theorem same_l0 (l : List L) (hl : l.length ≤ 1000000) (d : Nat) : ∀ i k : Nat, i + d = l.length → d < k → ltkref8_SameLocks.l0 k l l (i : Int) = some true := by
  induction d with
  | zero =>
    intro i k hi hk
    obtain ⟨k, rfl⟩ : ∃ m, k = m + 1 := ⟨k - 1, by omega⟩
    simp only [ltkref8_SameLocks.l0]
    rw [if_neg (by omega)]
  | succ d ih =>
    intro i k hi hk
    obtain ⟨k, rfl⟩ : ∃ m, k = m + 1 := ⟨k - 1, by omega⟩
    simp only [ltkref8_SameLocks.l0]
    rw [if_pos (by omega), if_pos (by omega), if_pos (by omega), if_neg (by simp), show wrap64 ((i : Int) + 1) = ((i + 1 : Nat) : Int) from by unfold wrap64; omega]
    exact ih (i + 1) k (by omega) (by omega)
theorem SameLocks_ (A : Option Addr) (c : Nat) (l : List L) (A1 : Option Addr) (c1 : Nat) (w : World) (hr0 : Kd.C k41 w A l.length l) (hc0 : l.length ≤ c) (hr1 : Kd.C k41 w A1 l.length l) (hc1 : l.length ≤ c1) (hl : l.length ≤ 1000000) :
    Calls Tryz.prog 23 #[.slice A l.length c, .slice A1 l.length c1] w fun e w' => e = .returned (.bool true) ∧ Drawn0 w w' :=
  ltkref8_SameLocks.calls (l.length + 1) A c l A1 c1 l true w hr0 hc0 hr1 hc1 (by unfold ltkref8_SameLocks.f; rw [if_pos rfl]; exact same_l0 l hl l.length 0 _ (by omega) (by omega))
/-! ### what is held -/
def LInv (ls : List LS) : Prop := ∀ i, i < ls.length → Inv (ls.getD i zL).1 (ls.getD i zL).2
theorem told_ask_ne {hs qs : List E} (ha : Asc hs) {who k m : Int} (hk : k ≠ who) : toldIn (askIn hs qs who m).2.1 k = toldIn hs k := by
  unfold askIn
  split
  · rfl
  · split
    · exact told_grants_ne ha hk
    · rfl
theorem askT_len (ls : List LS) (most : Int) (f : At) (who node m : Int) : (askT ls most f who node m).2.2.1.length = ls.length := by
  unfold askT
  repeat' split
  all_goals first | rfl | (rw [List.length_set])
/-- What an Ask does to the lanes: nothing, or one lane's Ask. -/
theorem askT_cases (ls : List LS) (most : Int) (f : At) (who node m : Int) : ((askT ls most f who node m).2.2.1 = ls ∧ (askT ls most f who node m).2.1 ≠ 0 ∧ (askT ls most f who node m).1 = 0 ∧ (askT ls most f who node m).2.2.2 = f) ∨
    ∃ i : Nat, node = i ∧ i < ls.length ∧ 0 ≤ who ∧ knownM m = true ∧ m ≠ 0 ∧ (f who).isSome = false ∧ ¬ (hasIn (ls.getD i zL).1 (ls.getD i zL).2 who = false ∧ most ≤ (lenT ls : Nat)) ∧ askT ls most f who node m = ((askIn (ls.getD i zL).1 (ls.getD i zL).2 who m).1, 0, ls.set i (askIn (ls.getD i zL).1 (ls.getD i zL).2 who m).2, if (askIn (ls.getD i zL).1 (ls.getD i zL).2 who m).1 = 2 then f.put who i else f) := by
  unfold askT
  split
  · exact .inl ⟨rfl, (show (4 : Int) ≠ 0 by decide), rfl, rfl⟩
  · rename_i h1
    split
    · exact .inl ⟨rfl, (show (5 : Int) ≠ 0 by decide), rfl, rfl⟩
    · rename_i h2
      split
      · exact .inl ⟨rfl, (show (1 : Int) ≠ 0 by decide), rfl, rfl⟩
      · rename_i h3
        split
        · exact .inl ⟨rfl, (show (3 : Int) ≠ 0 by decide), rfl, rfl⟩
        · rename_i h4
          refine .inr ⟨node.toNat, by omega, by omega, by omega, ?_, fun h => h3 (.inr (.inr h)), by simpa using h2, h4, rfl⟩
          cases hk : knownM m
          · exact absurd (.inr (.inl hk)) h3
          · rfl
theorem askT_at {ls : List LS} {i : Nat} {x : LS} (hi : i < ls.length) {j : Nat} : (ls.set i x).getD j zL = if j = i then x else ls.getD j zL := by
  by_cases hj : j < ls.length
  · exact getD_set_ls ls i j x hj
  · rw [List.getD_eq_getElem?_getD, List.getD_eq_getElem?_getD, List.getElem?_eq_none (by rw [List.length_set]; omega), List.getElem?_eq_none (by omega), if_neg (by omega)]
theorem askT_inv {ls : List LS} (h : LInv ls) (most : Int) (f : At) (who node m : Int) : LInv (askT ls most f who node m).2.2.1 := by
  rcases askT_cases ls most f who node m with ⟨h1, _⟩ | ⟨i, rfl, hi, _, _, _, _, _, e⟩
  · rw [h1]; exact h
  · rw [e]
    intro j hj
    rw [askT_at hi]
    by_cases ej : j = i
    · rw [if_pos ej]; exact inv_ask (h i hi) _ _
    · rw [if_neg ej]
      exact h j (by simpa using hj)
theorem askT_size {ls : List LS} {n : Nat} (h : ∀ i, i < ls.length → (ls.getD i zL).1.length + (ls.getD i zL).2.length ≤ n) (most : Int) (f : At) (who node m : Int) :
    ∀ i, i < (askT ls most f who node m).2.2.1.length → ((askT ls most f who node m).2.2.1.getD i zL).1.length + ((askT ls most f who node m).2.2.1.getD i zL).2.length ≤ n + 1 := by
  rcases askT_cases ls most f who node m with ⟨h1, _⟩ | ⟨i, rfl, hi, _, _, _, _, _, e⟩
  · rw [h1]; exact fun i hi => Nat.le_succ_of_le (h i hi)
  · rw [e]
    intro j hj
    rw [askT_at hi]
    by_cases ej : j = i
    · rw [if_pos ej]
      have := ask_len (ls.getD i zL).1 (ls.getD i zL).2 who m
      have := h i hi
      omega
    · rw [if_neg ej]
      exact Nat.le_succ_of_le (h j (by simpa using hj))
end Go.Proofs.YtkceadieigpolaaGreat.Ln
