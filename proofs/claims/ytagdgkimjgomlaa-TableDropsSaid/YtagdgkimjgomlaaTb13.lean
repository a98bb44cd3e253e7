/- Tables given lane by lane; a Drop of a table made behind a base world. -/
import Derived.Test.YtagdgkimjgomlaaTb11
import Derived.Test.YtagdgkimjgomlaaTb12
import Derived.Test.YtagdgkimjgomlaaTb8
namespace Go.Proofs.Ytagdgkimjgomlaa.Ln
open Go.RowKit Go.Proofs.YtagdgkimjgomlaaW.PrintWords Go.Proofs.YtagdgkimjgomlaaW.PrintLast Go.Proofs.YtagdgkimjgomlaaW.PrintMore Go.Proofs.Ytagdgkimjgomlaa.PMd
open Go.Maps
open Go.Sort (grow)
set_option linter.unusedVariables false
set_option linter.unusedSimpArgs false
def TM (n : Nat) (g : Nat → LS) : List LS := (List.range n).map g
theorem TM_len (n : Nat) (g : Nat → LS) : (TM n g).length = n := by simp [TM]
theorem TM_at {n j : Nat} (hj : j < n) (g : Nat → LS) : (TM n g).getD j zL = g j := by
  unfold TM
  rw [List.getD_eq_getElem?_getD, List.getElem?_map, List.getElem?_range hj]; rfl
theorem TM_ext {n : Nat} {ls : List LS} {g : Nat → LS} (hl : ls.length = n) (h : ∀ j, j < n → ls.getD j zL = g j) : ls = TM n g := by
  refine List.ext_getElem (by rw [hl, TM_len]) (fun j h1 h2 => ?_)
  have h3 := h j (by omega)
  have h4 := TM_at (n := n) (j := j) (by omega) g
  rw [List.getD_eq_getElem?_getD, List.getElem?_eq_getElem h1] at h3
  rw [List.getD_eq_getElem?_getD, List.getElem?_eq_getElem h2] at h4
  exact h3.trans h4.symm
theorem TM_set {n i : Nat} (hi : i < n) (g : Nat → LS) (v : LS) : (TM n g).set i v = TM n (fun k => if k = i then v else g k) :=
  TM_ext (by rw [List.length_set, TM_len]) (fun j hj => by
    rw [askT_at (by rw [TM_len]; exact hi)]
    by_cases e : j = i
    · rw [if_pos e, if_pos e]
    · rw [if_neg e, if_neg e, TM_at hj])
theorem TM_congr {n : Nat} {g g' : Nat → LS} (h : ∀ k, k < n → g k = g' k) : TM n g = TM n g' := TM_ext (TM_len _ _) (fun j hj => by rw [TM_at hj, h j hj])
theorem TM_inv {n : Nat} {g : Nat → LS} (h : ∀ k, k < n → Inv (g k).1 (g k).2) : LInv (TM n g) := fun j hj => by
  rw [TM_len] at hj
  rw [TM_at hj]; exact h j hj
theorem TM_small {n m : Nat} {g : Nat → LS} (hn : n ≤ 10000) (h : ∀ k, k < n → (g k).1.length + (g k).2.length ≤ m) (hm : m ≤ 400000) : Small (TM n g) := small_of (n := m) (by rw [TM_len]; exact hn) (fun j hj => by
  rw [TM_len] at hj
  rw [TM_at hj]; exact h j hj) hm
theorem TM_mS {n m : Nat} {g : Nat → LS} (h : ∀ k, k < n → (g k).1.length + (g k).2.length ≤ m) (hm : m ≤ 400000) : ∀ i, mS ((TM n g).getD i zL) ≤ 900000 := fun i => by
  by_cases hi : i < n
  · rw [TM_at hi]
    have := h i hi
    unfold mS; omega
  · rw [List.getD_eq_getElem?_getD, List.getElem?_eq_none (by rw [TM_len]; omega)]
    exact Nat.zero_le _
theorem TM_drop {n : Nat} {g : Nat → LS} (who : Int) : dropL (TM n g) who 0 = TM n (fun k => (dropS who (g k)).2) := TM_ext (by rw [dropL_len, TM_len]) (fun j hj => by
  rw [dropL0_at (by rw [TM_len]; exact hj), TM_at hj])
theorem TM_zero (n : Nat) : List.replicate n zL = TM n (fun _ => zL) := TM_ext (by simp) (fun j _ => getD_rep9 n j)
/-- What a request at a node makes, in plain words. -/
theorem ask_at {ls : List LS} {f : At} {i : Nat} {most who m : Int} {hs qs hs' qs' : List E} {r : Int} (hi : i < ls.length) (hf : f who = none) (hw : 0 ≤ who) (hm : knownM m = true) (h0 : m ≠ 0) (hg : ls.getD i zL = (hs, qs)) (hl : hasIn hs qs who = true ∨ (lenT ls : Int) < most) (ha : askIn hs qs who m = (r, hs', qs')) :
    askT ls most f who (i : Int) m = (r, 0, ls.set i (hs', qs'), if r = 2 then f.put who i else f) := by
  unfold askT
  rw [if_neg (by omega), if_neg (by rw [hf]; exact Bool.false_ne_true), if_neg (fun h => h.elim (fun h => by omega) (fun h => h.elim (fun h => by rw [hm] at h; cases h) h0)), Int.toNat_natCast, hg, ha]
  rw [if_neg (fun h => hl.elim (fun h1 => by rw [h.1] at h1; cases h1) (fun h1 => by have := h.2; omega))]
theorem ask_full {ls : List LS} {f : At} {i : Nat} {most who m : Int} {hs qs : List E} (hi : i < ls.length) (hf : f who = none) (hw : 0 ≤ who) (hm : knownM m = true) (h0 : m ≠ 0) (hg : ls.getD i zL = (hs, qs)) (hl : hasIn hs qs who = false) (hl2 : most ≤ (lenT ls : Int)) :
    askT ls most f who (i : Int) m = (0, 3, ls, f) := by
  unfold askT
  rw [if_neg (by omega), if_neg (by rw [hf]; exact Bool.false_ne_true), if_neg (fun h => h.elim (fun h => by omega) (fun h => h.elim (fun h => by rw [hm] at h; cases h) h0)), Int.toNat_natCast, hg]
  rw [if_pos ⟨hl, hl2⟩]
/-- Dropping, for a table made behind the world w0. -/
theorem DropT_0 {w0 w : World} {b N : Nat} {ls : List LS} {most : Int} {f : At} (h : IsTab w b (fun k => w0.heap.size ≤ k) ls most N f) (hb : Below w0.heap.size w0 w) (h0 : 0 < ls.length) (hl : ls.length ≤ 10000) (hm : ∀ i, mS (ls.getD i zL) ≤ 900000) (who : Int) (hw : ok64 who) (hok : ∀ x ∈ dropO ls who 0, ok64 x) :
    Calls Try.prog 37 #[.pointer (some ⟨b, 0, none⟩), .int .i64 who] w fun e w' => ∃ A' c', e = .returned (.slice A' (dropO ls who 0).length c') ∧ Row w' 3 1 A' (dropO ls who 0).length c' (ints (dropO ls who 0)) ∧ (∀ k, blk A' k → w.heap.size ≤ k) ∧
      IsTab w' b (fun k => w0.heap.size ≤ k ∧ ¬ blk A' k) (dropL ls who 0) most N (dropF ls f who) ∧ Below w0.heap.size w0 w' :=
  (DropT_ h h0 hl hm who hw hok).mono fun e w' ⟨A', c', h1, h2, h3, h4, h5⟩ => ⟨A', c', h1, h2, h3, h4.mono (fun k _ hk => ⟨hk.1.elim id (fun h => Nat.le_trans hb.size h), hk.2⟩), h5.to_below hb hb.size (fun _ h => h)⟩
end Go.Proofs.Ytagdgkimjgomlaa.Ln
