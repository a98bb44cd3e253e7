import Derived.Test.YtkceadieigpolaaGreatTC
import Derived.Test.YtkceadieigpolaaGreatRB
import Derived.Test.YtkceadieigpolaaGreatTB
import Derived.Deep.RegionHeld3
import Derived.Deep.RegionLaw
namespace Go.Proofs.YtkceadieigpolaaGreat.Ln
open Go.RowKit Go.Proofs.YtkceadieigpolaaGreatW.PrintWords Go.Proofs.YtkceadieigpolaaGreatW.PrintLast Go.Proofs.YtkceadieigpolaaGreatW.PrintMore Go.Proofs.YtkceadieigpolaaGreat.PMd
set_option linter.unusedVariables false
set_option linter.unusedSimpArgs false
def fW (ls : List LS) : At := fun who => (List.range ls.length).find? fun i => toldIn (ls.getD i zL).2 who != 0
theorem fW_none {ls : List LS} {who : Int} : fW ls who = none ↔ ∀ i, i < ls.length → toldIn (ls.getD i zL).2 who = 0 := by
  unfold fW
  rw [List.find?_eq_none]
  simp
theorem fW_some {ls : List LS} {who : Int} {n : Nat} : fW ls who = some n ↔ n < ls.length ∧ toldIn (ls.getD n zL).2 who ≠ 0 ∧ ∀ j, j < n → toldIn (ls.getD j zL).2 who = 0 := by
  unfold fW
  rw [List.find?_range_eq_some]
  simp
  constructor
  · rintro ⟨h1, h2, h3⟩
    exact ⟨h2, h1, h3⟩
  · rintro ⟨h1, h2, h3⟩
    exact ⟨h2, h1, h3⟩
theorem fW_is {ls : List LS} {f : At} (h : TInv ls f) : fW ls = f := by
  funext who
  have key : ∀ j, j < ls.length → (toldIn (ls.getD j zL).2 who ≠ 0 ↔ f who = some j) := fun j hj => by
    rw [h.map who j]
    have hm : ∀ x ∈ (ls.getD j zL).2, x.f1 ≠ 0 := fun x hx => ((h.inv j hj).mq x hx).2
    have := told_pos (who := who) hm
    constructor
    · intro h0
      refine ⟨hj, ?_⟩
      have h1 : ¬ ∀ x ∈ (ls.getD j zL).2, x.f0 ≠ who := fun h2 => h0 (this.2 h2)
      simpa using h1
    · rintro ⟨_, e, he, h2⟩ h0
      exact this.1 h0 e he h2
  cases hf : f who with
  | none =>
    rw [fW_none]
    intro i hi
    apply Classical.byContradiction
    intro h0
    rw [(key i hi).1 h0] at hf
    cases hf
  | some n =>
    have hn := h.lt who n hf
    rw [fW_some]
    refine ⟨hn, (key n hn).2 hf, fun j hj => ?_⟩
    apply Classical.byContradiction
    intro h0
    have h1 := (key j (by omega)).1 h0
    rw [hf] at h1
    injection h1 with h1
    omega
theorem conv_len (hs qs : List E) : hs.length + qs.length = lenL (hs, qs) + qs.countP (fun x => toldIn hs x.f0 != 0) := by
  unfold lenL newIn
  have h1 := List.length_eq_countP_add_countP (fun x : E => toldIn hs x.f0 != 0) (l := qs)
  have h2 : (qs.filter fun x => toldIn hs x.f0 == 0).length = qs.countP (fun a => decide ¬(toldIn hs a.f0 != 0) = true) := by
    rw [List.countP_eq_length_filter]
    congr 1
    refine List.filter_congr (fun x _ => ?_)
    by_cases e : toldIn hs x.f0 = 0 <;> simp [e]
  simp only
  omega
theorem has_holds {ls : List LS} {who : Int} {n : Nat} (h : fW ls who = none) (hn : n < ls.length) : hasIn (ls.getD n zL).1 (ls.getD n zL).2 who = (toldIn (ls.getD n zL).1 who != 0) := by
  unfold hasIn
  rw [fW_none.1 h n hn]
  simp
end Go.Proofs.YtkceadieigpolaaGreat.Ln
namespace Go.Proofs.YtkceadieigpolaaGreat.Ln
open Go.RowKit Go.Proofs.YtkceadieigpolaaGreatW.PrintWords Go.Proofs.YtkceadieigpolaaGreatW.PrintLast Go.Proofs.YtkceadieigpolaaGreatW.PrintMore Go.Proofs.YtkceadieigpolaaGreat.PMd
set_option linter.unusedVariables false
set_option linter.unusedSimpArgs false
structure SpotsR (w : World) (F : Nat → Prop) (sA : Option Addr) (sc b : Nat) (bs : List Nat) (G : Nat → Nat → Prop) (ls : List LS) : Prop where
  row : Row w 66 1 sA ls.length sc (bs.map pT)
  rowF : ∀ k, blk sA k → F k
  lane : ∀ i, i < ls.length → IsLR w (bs.getD i 0) (G i) (ls.getD i zL).1 (ls.getD i zL).2
  own : ∀ i k, G i k → F k
  off : ∀ i k, G i k → k ≠ b ∧ ¬ blk sA k
  apart : ∀ i j k, G i k → G j k → i = j
def IsTR (w : World) (b : Nat) (F : Nat → Prop) (ls : List LS) (most : Int) : Prop :=
  ∃ sA sc bs G, w.heap[b]? = some (.cells #[.int .i64 most, .slice sA ls.length sc] 69 (0, 0)) ∧ F b ∧ SpotsR w F sA sc b bs G ls
theorem IsLR.lt {w : World} {b : Nat} {F : Nat → Prop} {hs qs : List E} (h : IsLR w b F hs qs) : b < w.heap.size := by
  obtain ⟨hA, hc, qA, qc, h1, _⟩ := h
  exact (Array.getElem?_eq_some_iff.1 h1).1
theorem IsLR.mono {w : World} {b : Nat} {F F' : Nat → Prop} {hs qs : List E} (h : IsLR w b F hs qs) (hf : ∀ k, k < w.heap.size → F k → F' k) : IsLR w b F' hs qs := by
  obtain ⟨hA, hc, qA, qc, h1, h2, h3, h4, h5, h6, h7⟩ := h
  exact ⟨hA, hc, qA, qc, h1, hf _ (Array.getElem?_eq_some_iff.1 h1).1 h2, h3, fun k hk => hf _ (h3.lt hk) (h4 k hk), h5, fun k hk => hf _ (h5.lt hk) (h6 k hk), h7⟩
section
variable {w w' : World} {b : Nat} {F F' : Nat → Prop} {ls : List LS} {most : Int}
theorem IsTR.move (h : IsTR w b F ls most) (hm : ∀ k, F k → k < w.heap.size → w'.heap[k]? = w.heap[k]?) : IsTR w' b F ls most := by
  obtain ⟨sA, sc, bs, G, h1, h2, h5⟩ := h
  exact ⟨sA, sc, bs, G, (hm b h2 (Array.getElem?_eq_some_iff.1 h1).1).trans h1, h2, ⟨h5.row.move (fun k hk hl => hm k (h5.rowF k hk) hl), h5.rowF,
    fun i hi => (h5.lane i hi).move (fun k hk hl => hm k (h5.own i k hk) hl), h5.own, h5.off, h5.apart⟩⟩
theorem IsTR.below (h : IsTR w b F ls most) (hb : Below w.heap.size w w') : IsTR w' b F ls most := h.move (fun k _ hk => hb.block k hk)
theorem IsTR.grew {S : Nat → Prop} (h : IsTR w b F ls most) (hg : Grew S w w') (hs : ∀ k, F k → ¬ S k) : IsTR w' b F ls most := h.move (fun k hk hl => hg.block k hl (hs k hk))
theorem IsTR.lt (h : IsTR w b F ls most) : b < w.heap.size := by
  obtain ⟨sA, sc, bs, G, h1, _⟩ := h
  exact (Array.getElem?_eq_some_iff.1 h1).1
theorem IsTR.own (h : IsTR w b F ls most) : F b := by
  obtain ⟨sA, sc, bs, G, h1, h2, _⟩ := h
  exact h2
theorem IsTR.mono (h : IsTR w b F ls most) (hf : ∀ k, k < w.heap.size → F k → F' k) : IsTR w b F' ls most := by
  obtain ⟨sA, sc, bs, G, h1, h2, h5⟩ := h
  exact ⟨sA, sc, bs, fun i k => G i k ∧ k < w.heap.size, h1, hf _ (Array.getElem?_eq_some_iff.1 h1).1 h2, ⟨h5.row, fun k hk => hf _ (h5.row.lt hk) (h5.rowF k hk),
    fun i hi => (h5.lane i hi).mono (fun k hk hg => ⟨hg, hk⟩), fun i k hk => hf _ hk.2 (h5.own i k hk.1), fun i k hk => h5.off i k hk.1, fun i j k hi hj => h5.apart i j k hi.1 hj.1⟩⟩
theorem IsTR.open_ (h : IsTR w b F ls most) : ∃ sA sc, w.cell? ⟨b, 0, none⟩ = some (.int .i64 most) ∧ w.cell? ⟨b, 1, none⟩ = some (.slice sA ls.length sc) ∧ ls.length ≤ sc ∧ sc ≤ maxLen := by
  obtain ⟨sA, sc, bs, G, h1, h2, h5⟩ := h
  exact ⟨sA, sc, (blk_cell h1 0).trans rfl, (blk_cell h1 1).trans rfl, h5.row.2.1, h5.row.2.2.1⟩
theorem IsTR.at_ (h : IsTR w b F ls most) (i : Nat) (hi : i < ls.length) : ∃ g off sc bi Gi, w.cell? ⟨b, 0, none⟩ = some (.int .i64 most) ∧ w.cell? ⟨b, 1, none⟩ = some (.slice (some ⟨g, off, none⟩) ls.length sc) ∧
    ls.length ≤ sc ∧ sc ≤ maxLen ∧ w.cell? ⟨g, off + i, none⟩ = some (.pointer (some ⟨bi, 0, none⟩)) ∧ IsLR w bi Gi (ls.getD i zL).1 (ls.getD i zL).2 ∧ (∀ k, Gi k → F k) ∧
    (∀ w1 hs1 qs1 (G' : Nat → Prop), IsLR w1 bi G' hs1 qs1 → (∀ k, G' k → Gi k ∨ w.heap.size ≤ k) → Grew Gi w w1 → IsTR w1 b (fun k => (F k ∧ k < w.heap.size) ∨ G' k) (ls.set i (hs1, qs1)) most) := by
  obtain ⟨sA, sc, bs, G, h1, h2, h5⟩ := h
  obtain ⟨g, off, cur, rfl, hg, hsz, hcell⟩ := h5.row.at_ (by omega)
  have hbl : bs.length = ls.length := by have := h5.row.1; simpa using this
  have hc := (hcell i (pT (bs.getD i 0)) (getD_map pT bs i 0 (by omega))).1
  refine ⟨g, off, sc, bs.getD i 0, G i, (blk_cell h1 0).trans rfl, (blk_cell h1 1).trans rfl, h5.row.2.1, h5.row.2.2.1, hc, h5.lane i hi, h5.own i, fun w1 hs1 qs1 G' hI hsub hg1 => ?_⟩
  have hrow : Row w1 66 1 (some ⟨g, off, none⟩) ls.length sc (bs.map pT) := h5.row.grew hg1 (fun k hk hk2 => (h5.off i k hk2).2 hk)
  refine ⟨some ⟨g, off, none⟩, sc, bs, fun j k => if j = i then G' k else G j k ∧ k < w.heap.size, ?_, .inl ⟨h2, (Array.getElem?_eq_some_iff.1 h1).1⟩, ⟨?_, ?_, ?_, ?_, ?_, ?_⟩⟩
  · rw [List.length_set]
    exact (hg1.block b (Array.getElem?_eq_some_iff.1 h1).1 (fun hk => (h5.off i b hk).1 rfl)).trans h1
  · rw [List.length_set]; exact hrow
  · exact fun k hk => .inl ⟨h5.rowF k hk, h5.row.lt hk⟩
  · intro j hj
    rw [List.length_set] at hj
    rw [getD_set_ls ls i j _ hj]
    by_cases e : j = i
    · subst e
      rw [if_pos rfl]
      exact hI.mono (fun k _ hk => by rw [if_pos rfl]; exact hk)
    · rw [if_neg e]
      have hl := (h5.lane j hj).mono (F' := fun k => G j k ∧ k < w.heap.size) (fun k hk hg => ⟨hg, hk⟩)
      refine (hl.grew hg1 (fun k hk hk2 => e (h5.apart j i k hk.1 hk2))).mono (fun k _ hk => ?_)
      rw [if_neg e]
      exact hk
  · intro j k hk
    by_cases e : j = i
    · rw [if_pos e] at hk
      exact .inr hk
    · rw [if_neg e] at hk
      exact .inl ⟨h5.own j k hk.1, hk.2⟩
  · have hnew : ∀ k, w.heap.size ≤ k → k ≠ b ∧ ¬ blk (some ⟨g, off, none⟩) k := fun k hk => by
      have hb := (Array.getElem?_eq_some_iff.1 h1).1
      exact ⟨by omega, fun hk2 => by have := h5.row.lt hk2; omega⟩
    intro j k hk
    by_cases e : j = i
    · rw [if_pos e] at hk
      exact (hsub k hk).elim (h5.off i k) (hnew k)
    · rw [if_neg e] at hk
      exact h5.off j k hk.1
  · intro j j' k hk hk'
    by_cases e : j = i
    · by_cases e' : j' = i
      · omega
      · rw [if_pos e] at hk
        rw [if_neg e'] at hk'
        rcases hsub k hk with hk | hk
        · exact absurd (h5.apart i j' k hk hk'.1) (fun h => e' h.symm)
        · have := hk'.2; omega
    · rw [if_neg e] at hk
      by_cases e' : j' = i
      · rw [if_pos e'] at hk'
        rcases hsub k hk' with hk' | hk'
        · exact absurd (h5.apart j i k hk.1 hk') e
        · have := hk.2; omega
      · rw [if_neg e'] at hk'
        exact h5.apart j j' k hk.1 hk'.1
theorem IsTR.push (h : IsTR w b F ls most) (hF : ∀ k, w.heap.size ≤ k → F k) : ∃ sA sc xs, w.cell? ⟨b, 1, none⟩ = some (.slice sA ls.length sc) ∧ Row w 66 1 sA ls.length sc xs ∧
    ¬ blk sA b ∧ b < w.heap.size ∧ w.frozen? ⟨b, 1, none⟩ = false ∧ (∀ k, blk sA k → F k) ∧ F b ∧
    ∀ bl w5 w6 A' c', IsLR w5 bl (fun k => w.heap.size ≤ k) [] [] → Below w.heap.size w w5 → Row w6 66 1 A' (ls.length + 1) c' (xs ++ [pT bl]) → Grew (blk sA) w5 w6 → (∀ k, blk A' k → blk sA k ∨ w5.heap.size ≤ k) →
      IsTR (w6.setCell ⟨b, 1, none⟩ (.slice A' (ls.length + 1) c')) b F (ls ++ [zL]) most := by
  obtain ⟨sA, sc, bs, G, h1, h2, h5⟩ := h
  have hbl := (Array.getElem?_eq_some_iff.1 h1).1
  have hnb : ¬ blk sA b := h5.row.ne h1 (by decide)
  refine ⟨sA, sc, bs.map pT, (blk_cell h1 1).trans rfl, h5.row, hnb, hbl, blk_frozen h1 1, h5.rowF, h2, fun bl w5 w6 A' c' hI hb hR hg hA => ?_⟩
  have hs5 := hb.size
  have hblen : bs.length = ls.length := by have := h5.row.1; simpa using this
  have b6 : w6.heap[b]? = some (.cells #[.int .i64 most, .slice sA ls.length sc] 69 (0, 0)) := (hg.block b (by omega) hnb).trans ((hb.block b hbl).trans h1)
  have keep : ∀ k, k < w.heap.size → k ≠ b → ¬ blk sA k → (w6.setCell ⟨b, 1, none⟩ (.slice A' (ls.length + 1) c')).heap[k]? = w.heap[k]? := fun k hk hkb hks => by
    rw [Below.heap_setCell _ _ _ _ (fun e => hkb e)]
    exact (hg.block k (by omega) hks).trans (hb.block k hk)
  have hA' : ∀ k, blk A' k → blk sA k ∨ w.heap.size ≤ k := fun k hk => (hA k hk).imp id (fun h => by omega)
  have hnbA : ¬ blk A' b := fun hk => (hA' b hk).elim hnb (fun h => by omega)
  refine ⟨A', c', bs ++ [bl], fun j k => if j = ls.length then w.heap.size ≤ k ∧ k < w5.heap.size else j < ls.length ∧ G j k ∧ k < w.heap.size, ?_, h2, ⟨?_, ?_, ?_, ?_, ?_, ?_⟩⟩
  · rw [List.length_append]
    exact heap_setCell_same w6 b 1 _ _ (.slice A' (ls.length + 1) c') b6
  · rw [List.length_append, List.map_append]
    exact hR.set (p := ⟨b, 1, none⟩) hnbA _
  · exact fun k hk => (hA' k hk).elim (h5.rowF k) (hF k)
  · intro j hj
    rw [List.length_append] at hj
    by_cases e : j = ls.length
    · subst e
      rw [getD_app_at, ← hblen, getD_nat_at]
      refine ((hI.mono (F' := fun k => w.heap.size ≤ k ∧ k < w5.heap.size) (fun k hk h => ⟨h, hk⟩)).move (fun k hk hl => ?_)).mono (fun k _ hk => by rw [if_pos rfl]; exact hk)
      rw [Below.heap_setCell _ _ _ _ (fun e => by have e2 : k = b := e; have := hk.1; omega)]
      exact hg.block k hl (fun hks => by have := h5.row.lt hks; omega)
    · have hj' : j < ls.length := by simp at hj; omega
      rw [getD_app_lt hj', getD_nat_lt (by omega)]
      refine (((h5.lane j hj').mono (F' := fun k => G j k ∧ k < w.heap.size) (fun k hk h => ⟨h, hk⟩)).move (fun k hk hl => keep k hl (h5.off j k hk.1).1 (h5.off j k hk.1).2)).mono (fun k _ hk => by rw [if_neg e]; exact ⟨hj', hk⟩)
  · intro j k hk
    by_cases e : j = ls.length
    · rw [if_pos e] at hk; exact hF k hk.1
    · rw [if_neg e] at hk; exact h5.own j k hk.2.1
  · intro j k hk
    by_cases e : j = ls.length
    · rw [if_pos e] at hk
      refine ⟨by omega, fun hk2 => ?_⟩
      rcases hA k hk2 with h | h
      · have := h5.row.lt h; omega
      · omega
    · rw [if_neg e] at hk
      obtain ⟨o1, o3⟩ := h5.off j k hk.2.1
      exact ⟨o1, fun hk2 => (hA' k hk2).elim o3 (fun h => by omega)⟩
  · intro j j' k hk hk'
    by_cases e : j = ls.length
    · by_cases e' : j' = ls.length
      · omega
      · rw [if_pos e] at hk; rw [if_neg e'] at hk'; omega
    · rw [if_neg e] at hk
      by_cases e' : j' = ls.length
      · rw [if_pos e'] at hk'; omega
      · rw [if_neg e'] at hk'; exact h5.apart j j' k hk.2.1 hk'.2.1
end
theorem IsTR.zero (w : World) (most : Int) : IsTR (w.alloc (.cells #[.int .i64 most, .slice none 0 0] 69)) w.heap.size (fun k => w.heap.size ≤ k) [] most := by
  have hb := blk_new w (.cells #[.int .i64 most, .slice none 0 0] 69)
  refine ⟨none, 0, [], fun _ _ => False, hb, Nat.le_refl _, ⟨Row.zero _ _ _, fun k hk => (blk_none hk).elim, fun i hi => by simp at hi, fun _ _ h => h.elim, fun _ _ h => h.elim, fun _ _ _ h => h.elim⟩⟩
theorem IsLR.zero (w : World) : IsLR (w.alloc (.cells #[.slice none 0 0, .slice none 0 0] 65)) w.heap.size (fun k => w.heap.size ≤ k) [] [] := by
  have hb := blk_new w (.cells #[.slice none 0 0, .slice none 0 0] 65)
  exact ⟨none, 0, none, 0, hb, Nat.le_refl _, Row.zero _ _ _, fun k hk => (blk_none hk).elim, Row.zero _ _ _, fun k hk => (blk_none hk).elim, fun k hk => (blk_none hk).elim⟩
end Go.Proofs.YtkceadieigpolaaGreat.Ln
namespace Go.Proofs.YtkceadieigpolaaGreat.Ln
open Go.RowKit Go.Proofs.YtkceadieigpolaaGreatW.PrintWords Go.Proofs.YtkceadieigpolaaGreatW.PrintLast Go.Proofs.YtkceadieigpolaaGreatW.PrintMore Go.Proofs.YtkceadieigpolaaGreat.PMd
open Go.Sort (grow)
set_option linter.unusedVariables false
set_option linter.unusedSimpArgs false
section
variable {w : World} {b : Nat} {F : Nat → Prop} {ls : List LS} {most : Int}
set_option maxHeartbeats 8000000 in
set_option maxRecDepth 100000 in
theorem HoldsTR_ (h : IsTR w b F ls most) (who node : Int) :
    Calls Tryz.prog 22 #[.pointer (some ⟨b, 0, none⟩), .int .i64 who, .int .i64 node] w fun e w' => e = .returned (.int .i64 (holdsT ls who node)) ∧ w' = w := by
  have hu := Tryz.underlying69
  by_cases hn : 0 ≤ node ∧ node < ls.length
  · obtain ⟨i, rfl⟩ : ∃ i : Nat, node = i := ⟨node.toNat, by omega⟩
    have hi : i < ls.length := by omega
    obtain ⟨g, off, sc, bi, Gi, c0, c1, l0, l1, cs, hI, hG, -⟩ := h.at_ i hi
    have HH := Aside0.mk (Holds_R w bi Gi _ _ who hI)
    have HR := Aside0.mk (show holdsT ls who i = toldIn (ls.getD i zL).1 who by unfold holdsT; rw [if_pos hn]; rfl)
    have h1 : decide ((i : Int) < 0) = false := decide_eq_false (by omega)
    have h2 : decide ((i : Int) ≥ (ls.length : Int)) = false := decide_eq_false (by omega)
    have h3 : (i : Int) < ls.length := by omega
    have h4 : 0 ≤ (i : Int) := by omega
    generalize toldIn (ls.getD i zL).1 who = v at HH HR
    clear h c0 hI hG hn hi
    go_enter Tryz.func22, Tryz.ntmps22
    go_wp2_with fail
    refine HH.out.mono ?_
    rintro e w3 ⟨rfl, rfl⟩
    go_wp2
    go_ret
    exact ⟨by rw [HR.out]; rfl, rfl⟩
  · obtain ⟨sA, sc, c0, c1, -⟩ := h.open_
    have HR := Aside0.mk (show holdsT ls who node = 0 by unfold holdsT; rw [if_neg hn])
    by_cases h0 : node < 0
    · have h1 : decide (node < 0) = true := decide_eq_true h0
      clear h c0 hn h0
      go_enter Tryz.func22, Tryz.ntmps22
      go_wp2
      go_ret
      exact ⟨by rw [HR.out]; rfl, rfl⟩
    · have h1 : decide (node < 0) = false := decide_eq_false h0
      have h2 : decide (node ≥ (ls.length : Int)) = true := decide_eq_true (by omega)
      have h3 : (ls.length : Int) ≤ node := by omega
      clear h c0 hn h0
      go_enter Tryz.func22, Tryz.ntmps22
      go_wp2
      go_ret
      exact ⟨by rw [HR.out]; rfl, rfl⟩
set_option maxHeartbeats 8000000 in
set_option maxRecDepth 100000 in
theorem WaitsTR_ (h : IsTR w b F ls most) (hl : ls.length ≤ 10000) (who : Int) :
    Calls Tryz.prog 20 #[.pointer (some ⟨b, 0, none⟩), .int .i64 who] w fun e w' => e = .returned (.tuple #[.agg #[.int .i64 (waitsT ls (fW ls) who).1, .int .i64 (waitsT ls (fW ls) who).2.1], .bool (waitsT ls (fW ls) who).2.2]) ∧ Below w.heap.size w w' := by
  have hu := Tryz.underlying69
  have hu3 := Tryz.underlying41
  have HT := Aside0.mk (h.below (below_alloc (Below.refl w.heap.size w) (.cells #[.int .i64 0, .int .i64 0] 41)))
  have HX := Aside0.mk (blk_new w (.cells #[.int .i64 0, .int .i64 0] 41))
  have HL := Aside0.mk hl
  obtain ⟨sA, sc, -, c1, -⟩ := HT.out.open_
  have HB := Aside0.mk (below_alloc (Below.refl w.heap.size w) (.cells #[.int .i64 0, .int .i64 0] 41))
  clear h hl
  go_enter Tryz.func20, Tryz.ntmps20
  go_wp2_with fail
  go_loopg [6] ls.length (fun gg v wr => ∃ i : Nat, i ≤ ls.length ∧ ls.length - i ≤ gg ∧ v = .int .i64 i ∧ Aside0 (∀ j, j < i → toldIn (ls.getD j zL).2 who = 0) ∧ Aside0 (wr = w.alloc (.cells #[.int .i64 0, .int .i64 0] 41)))
  case atStart => exact ⟨0, by omega, by omega, rfl, ⟨fun j hj => by omega⟩, ⟨rfl⟩⟩
  case round =>
    obtain ⟨i, hi, hgg, rfl, HM, HW⟩ := hrel
    obtain rfl := HW.out
    by_cases hlt : i < ls.length
    · have t1 : (i : Int) < ls.length := by omega
      have t2 : 0 ≤ (i : Int) := by omega
      obtain ⟨g, off, sc', bi, Gi, -, d1, -, -, cs, hI, -, -⟩ := HT.out.at_ i hlt
      obtain ⟨rfl, rfl⟩ := slice_eq d1 c1
      have HH := Aside0.mk (Waits_R _ bi Gi _ _ who hI)
      have W3 := Aside0.mk (show wrap64 ((i : Int) + 1) = ((i + 1 : Nat) : Int) by have := HL.out; unfold wrap64; omega)
      have HLT := Aside0.mk (And.intro hlt hgg)
      clear hI d1 hlt hgg hi
      by_cases hv : toldIn (ls.getD i zL).2 who = 0
      · have b1 : (toldIn (ls.getD i zL).2 who != 0) = false := bne_eq_false_iff_eq.2 hv
        have HM1 := Aside0.mk (show ∀ j, j < i + 1 → toldIn (ls.getD j zL).2 who = 0 from fun j hj => by
          by_cases e : j = i
          · subst e; exact hv
          · exact HM.out j (by omega))
        clear hv
        generalize toldIn (ls.getD i zL).2 who = v at HH b1
        go_wp2_with fail
        refine HH.out.mono ?_
        rintro e w3 ⟨rfl, rfl⟩
        go_wp2
        go_roundg (ls.length - (i + 1))
        case measure => have := HLT.out; omega
        case rel => exact ⟨i + 1, by have := HLT.out; omega, by have := HLT.out; omega, by rw [W3.out], HM1, ⟨rfl⟩⟩
      · have b1 : (toldIn (ls.getD i zL).2 who != 0) = true := bne_iff_ne.2 hv
        have HR := Aside0.mk (show waitsT ls (fW ls) who = ((i : Int), toldIn (ls.getD i zL).2 who, true) by unfold waitsT; rw [fW_some.2 ⟨HLT.out.1, hv, HM.out⟩])
        have k0 := (blk_cell HX.out 0).trans (show _ = some (Value.int .i64 0) from rfl)
        have k1 := (blk_cell HX.out 1).trans (show _ = some (Value.int .i64 0) from rfl)
        have f0 := frozen_of_row _ w.heap.size 0 _ _ HX.out
        have f1 := frozen_of_row _ w.heap.size 1 _ _ HX.out
        clear hv
        generalize toldIn (ls.getD i zL).2 who = v at HH b1 HR
        go_wp2_with fail
        refine HH.out.mono ?_
        rintro e w3 ⟨rfl, rfl⟩
        go_wp2
        (try simp only [Exit.inBlock, Exit.then])
        refine bodyPost_ret (results_ct rfl _ _ w.heap.size 41 #[.int .i64 (i : Int), .int .i64 v] (0, 0) _ rfl ?_ hu3 rfl (by kernel_rfl)) rfl ?_
        · exact blk_new w _
        · exact ⟨by rw [HR.out]; rfl, below_alloc (Below.refl _ _) _⟩
    · have ei : i = ls.length := by omega
      subst ei
      have t1 : ¬ (ls.length : Int) < ls.length := by omega
      have HR := Aside0.mk (show waitsT ls (fW ls) who = (0, 0, false) by unfold waitsT; rw [fW_none.2 HM.out])
      have k0 := (blk_cell HX.out 0).trans (show _ = some (Value.int .i64 0) from rfl)
      have k1 := (blk_cell HX.out 1).trans (show _ = some (Value.int .i64 0) from rfl)
      have f0 := frozen_of_row _ w.heap.size 0 _ _ HX.out
      have f1 := frozen_of_row _ w.heap.size 1 _ _ HX.out
      go_wp2
      (try simp only [Exit.inBlock, Exit.then])
      refine bodyPost_ret (results_ct rfl _ _ w.heap.size 41 #[.int .i64 0, .int .i64 0] (0, 0) _ rfl ?_ hu3 rfl (by kernel_rfl)) rfl ?_
      · exact blk_new w _
      · exact ⟨by rw [HR.out]; rfl, below_alloc (Below.refl _ _) _⟩
set_option maxHeartbeats 8000000 in
set_option maxRecDepth 100000 in
theorem HeldTR_ (h : IsTR w b F ls most) (hn : ls.length ≤ 10000) (who : Int) :
    Calls Tryz.prog 25 #[.pointer (some ⟨b, 0, none⟩), .int .i64 who] w fun e w' => ∃ A' c', e = .returned (.slice A' (heldT ls who).length c') ∧ Row w' 41 2 A' (heldT ls who).length c' (flatL (heldT ls who)) ∧
      (∀ k, blk A' k → w.heap.size ≤ k) ∧ Below w.heap.size w w' := by
  have hu := Tryz.underlying69
  have hu3 := Tryz.underlying41
  have HT := Aside0.mk h
  have HN := Aside0.mk hn
  obtain ⟨sA, sc, -, c1, -⟩ := h.open_
  have C1 := Aside0.mk c1
  clear h hn
  go_enter Tryz.func25, Tryz.ntmps25
  go_wp2_with fail
  clear c1
  go_loopg [5, 6] ls.length (fun gg v5 v14 wr => ∃ i : Nat, i ≤ ls.length ∧ ls.length - i ≤ gg ∧ v14 = .int .i64 i ∧ Aside0 (OutL w (heldUp ls who i) v5 wr))
  case atStart => exact ⟨0, by omega, by omega, rfl, ⟨none, 0, rfl, Row.zero _ _ _, fun k h => (blk_none h).elim, Below.refl _ _⟩⟩
  case round =>
    obtain ⟨i, hi, hgg, rfl, HO1⟩ := hrel
    obtain ⟨A', c', rfl, hR1, hk1, hb1⟩ := HO1.out
    clear HO1
    have c1 := cell_be C1.out hb1
    by_cases hlt : i < ls.length
    · have t1 : (i : Int) < ls.length := by omega
      have t2 : 0 ≤ (i : Int) := by omega
      obtain ⟨g, off, sc', bi, Gi, -, d1, -, -, cs, hI, -, -⟩ := (HT.out.below hb1).at_ i hlt
      obtain ⟨rfl, rfl⟩ := slice_eq d1 c1
      have HLE := Aside0.mk (held_len ls who i)
      have HE := Aside0.mk (show heldUp ls who (i + 1) = heldUp ls who i ++ if toldIn (ls.getD i zL).1 who = 0 then [] else [⟨i, toldIn (ls.getD i zL).1 who⟩] from rfl)
      have HH := Aside0.mk (Holds_R _ bi Gi _ _ who hI)
      generalize heldUp ls who i = O at hR1 HLE HE ⊢
      generalize toldIn (ls.getD i zL).1 who = v at HH HE
      have HR1 := Aside0.mk hR1
      have HK1 := Aside0.mk hk1
      have HB1 := Aside0.mk hb1
      have W3 := Aside0.mk (show wrap64 ((i : Int) + 1) = ((i + 1 : Nat) : Int) by have := HN.out; unfold wrap64; omega)
      have HLT := Aside0.mk (And.intro hlt hgg)
      clear d1 hI hR1 hk1 hb1 hi hlt hgg
      by_cases hv : v = 0
      · have hv1 : (v != 0) = false := bne_eq_false_iff_eq.2 hv
        rw [if_pos hv, List.append_nil] at HE
        clear hv
        go_wp2_with fail
        refine HH.out.mono ?_
        rintro e w3 ⟨rfl, rfl⟩
        clear HH cs c1
        go_wp2
        go_roundg (ls.length - (i + 1))
        case measure => have := HLT.out; omega
        case rel => exact ⟨i + 1, by have := HLT.out; omega, by have := HLT.out; omega, by rw [W3.out], ⟨A', c', by rw [HE.out], by rw [HE.out]; exact HR1.out, HK1.out, HB1.out⟩⟩
      · have hv1 : (v != 0) = true := bne_iff_ne.2 hv
        rw [if_neg hv] at HE
        clear hv
        go_wp2_with fail
        refine HH.out.mono ?_
        rintro e w3 ⟨rfl, rfl⟩
        have HB3 := Aside0.mk (below_alloc HB1.out (.cells #[.int .i64 (i : Int), .int .i64 v] 41))
        have HR3 := Aside0.mk (HR1.out.alloc (.cells #[.int .i64 (i : Int), .int .i64 v] 41))
        have BS := Aside0.mk (blk_new w3 (.cells #[.int .i64 (i : Int), .int .i64 v] 41))
        have HS3 := Aside0.mk (show w.heap.size ≤ w3.heap.size from HB1.out.size)
        clear HH cs c1
        go_wp2_with (at_builtin; refine wpList_append_info rfl _ _ 53 rfl 41 _ 2 16 Tryz.underlying53 infoL rfl A' O.length c' (flatL O) (by simp [Act.eval, Act.put]) HR3.out ⟨w3.heap.size, 0, none⟩ 1 1 [.int .i64 (i : Int), .int .i64 v] (by simp [Act.eval, Act.put]) rfl (two_at BS.out) (two_one _ _) (by have h1 := HLE.out; have := HN.out; have := HLT.out; unfold maxLen; omega) (by have h1 := HLE.out; have := HN.out; have := HLT.out; omega) ?_)
        intro A2 c2 w6 hR6 hG6 hk6
        have HR6 := Aside0.mk hR6
        have HB6 := Aside0.mk (hG6.to_below HB3.out (by have := HS3.out; simp; omega) (fun k h => HK1.out k h))
        have HK6 := Aside0.mk (show ∀ k, blk A2 k → w.heap.size ≤ k from fun k h => (hk6 k h).elim (HK1.out k) (fun h2 => by have h3 := HS3.out; have h4 : w3.heap.size + 1 ≤ k := (by simpa using h2); omega))
        clear hR6 hG6 hk6
        go_wp2
        go_roundg (ls.length - (i + 1))
        case measure => have := HLT.out; omega
        case rel =>
          refine ⟨i + 1, by have := HLT.out; omega, by have := HLT.out; omega, by rw [W3.out], ⟨A2, c2, ?_, ?_, HK6.out, HB6.out⟩⟩
          · rw [HE.out]; simp
          · rw [HE.out, flatL_append, List.length_append]; exact HR6.out
    · have ei : i = ls.length := by omega
      subst ei
      have t1 : ¬ (ls.length : Int) < ls.length := by omega
      have HD := Aside0.mk (show heldT ls who = heldUp ls who ls.length from rfl)
      have HF := Aside0.mk (And.intro hR1 (And.intro hk1 hb1))
      clear hR1 hk1 hb1
      generalize heldUp ls who ls.length = O at HD HF ⊢
      go_wp2
      go_ret
      rw [HD.out]
      exact ⟨A', c', rfl, HF.out⟩
end
end Go.Proofs.YtkceadieigpolaaGreat.Ln
namespace Go.Proofs.YtkceadieigpolaaGreat.Ln
open Go.RowKit Go.Proofs.YtkceadieigpolaaGreatW.PrintWords Go.Proofs.YtkceadieigpolaaGreatW.PrintLast Go.Proofs.YtkceadieigpolaaGreatW.PrintMore Go.Proofs.YtkceadieigpolaaGreat.PMd
open Go.Sort (grow)
set_option linter.unusedVariables false
set_option linter.unusedSimpArgs false
theorem conv_w1 {h q : Nat} (h1 : h ≤ 400000) (h2 : q ≤ 400000) : wrap64 ((h : Int) + (q : Int)) = (h : Int) + (q : Int) := by unfold wrap64; omega
theorem conv_w2 {h q l c : Nat} (e : h + q = l + c) (hl : l ≤ 800000) : wrap64 ((h : Int) + (q : Int) - (c : Int)) = (l : Int) := by
  rw [show (h : Int) + (q : Int) - (c : Int) = (l : Int) by omega]
  unfold wrap64; omega
theorem conv_w3 {a i n l : Nat} (ha : a ≤ i * 800000) (hi : i ≤ n) (hn : n ≤ 10000) (hl : l ≤ 800000) : wrap64 ((a : Int) + (l : Int)) = (a : Int) + (l : Int) := by unfold wrap64; omega
section
variable {w : World} {b : Nat} {F : Nat → Prop} {ls : List LS} {most : Int}
set_option maxHeartbeats 8000000 in
set_option maxRecDepth 100000 in
theorem LenTR_ (h : IsTR w b F ls most) (hs : Small ls) :
    Calls Tryz.prog 30 #[.pointer (some ⟨b, 0, none⟩)] w fun e w' => e = .returned (.int .i64 (lenT ls : Nat)) ∧ Below w.heap.size w w' := by
  have mixed : Tryz.prog.follows Departure.mixedOrders = true := by kernel_rfl
  have hu := Tryz.underlying69
  have hu2 := Tryz.underlying65
  have HT := Aside0.mk h
  have HS := Aside0.mk hs
  obtain ⟨sA, sc, -, c1, -⟩ := h.open_
  have C1 := Aside0.mk c1
  clear h hs
  go_enter Tryz.func30, Tryz.ntmps30
  go_wp2_with fail
  clear c1
  go_loopg [3, 4] ls.length (fun gg v3 v4 wr => ∃ i : Nat, i ≤ ls.length ∧ ls.length - i ≤ gg ∧ v4 = .int .i64 i ∧ v3 = .int .i64 (lenT (ls.take i) : Nat) ∧ Aside0 (Below w.heap.size w wr))
  case atStart => exact ⟨0, by omega, by omega, rfl, rfl, ⟨Below.refl _ _⟩⟩
  case round =>
    obtain ⟨i, hi, hgg, rfl, rfl, HB⟩ := hrel
    have c1 := cell_be C1.out HB.out
    by_cases hlt : i < ls.length
    · have t1 : (i : Int) < ls.length := by omega
      have t2 : 0 ≤ (i : Int) := by omega
      obtain ⟨g, off, sc', bi, Gi, -, d1, -, -, cs, hI, -, -⟩ := (HT.out.below HB.out).at_ i hlt
      obtain ⟨rfl, rfl⟩ := slice_eq d1 c1
      obtain ⟨hA, hc, qA, qc, e0, e1, -⟩ := hI.open_
      have hlen := len_le HS.out i hi
      have HSt := Aside0.mk (len_step hlt)
      obtain ⟨hz1, hz2⟩ := HS.out.2 i hlt
      have hll : lenL (ls.getD i zL) ≤ 800000 := by have h1 := new_le (ls.getD i zL).1 (ls.getD i zL).2; unfold lenL; omega
      have HC := Aside0.mk (fun d os => (convs_R (grow (wat wr d) os) bi Gi _ _ (hI.below (below_gr wr d os))).mono fun e w' ⟨x1, x2⟩ => (show e = _ ∧ Below (grow (wat wr d) os).heap.size (grow (wat wr d) os) w' from ⟨x1, by rw [x2]; exact Below.refl _ _⟩))
      have hcv : (ls.getD i zL).2.countP (fun x => toldIn (ls.getD i zL).1 x.f0 != 0) ≤ (ls.getD i zL).2.length := List.countP_le_length
      have hz4 : (ls.getD i zL).1.length + (ls.getD i zL).2.length = lenL (ls.getD i zL) + (ls.getD i zL).2.countP (fun x => toldIn (ls.getD i zL).1 x.f0 != 0) := conv_len (ls.getD i zL).1 (ls.getD i zL).2
      generalize lenT (ls.take i) = acc at hlen HSt ⊢
      generalize lenL (ls.getD i zL) = ll at HSt hll hz4
      generalize (ls.getD i zL).2.countP (fun x => toldIn (ls.getD i zL).1 x.f0 != 0) = cv at HC hcv hz4
      generalize (ls.getD i zL).1 = hs at e0 hz1 hz4
      generalize (ls.getD i zL).2 = qs at e1 hz2 hz4 hcv
      have w1 := conv_w1 hz1 hz2
      have w2 := conv_w2 hz4 hll
      have W4 := Aside0.mk (conv_w3 hlen hi HS.out.1 hll)
      have W3 := Aside0.mk (show wrap64 ((i : Int) + 1) = ((i + 1 : Nat) : Int) by have := HS.out.1; unfold wrap64; omega)
      have HLT := Aside0.mk (And.intro hlt hgg)
      have D1 := Aside0.mk (fun d os => cell_gr c1 d os)
      have DS := Aside0.mk (fun d os => cell_gr cs d os)
      have E0 := Aside0.mk (fun d os => cell_gr e0 d os)
      have E1 := Aside0.mk (fun d os => cell_gr e1 d os)
      clear hI d1 hlen hz1 hz2 hz4 hll hcv hi hlt hgg cs e0 e1
      go_wp2_with fail
      have k1 := D1.out
      have ks := DS.out
      have k2 := E0.out
      have k3 := E1.out
      refine wp_region_gr mixed (by kernel_rfl) ?_
      repeat (go_big_quiet_step (exact Calls.gr_of (HC.out _ _)))
      refine wpQuiet_nil ?_
      intro _ hw'
      obtain ⟨⟨d, os⟩, rfl⟩ := hw'
      have HB5 := Aside0.mk (below_then HB.out HB.out.size (below_gr wr d os))
      clear k1 ks k2 k3 D1 DS E0 E1 HC c1 w1 w2
      generalize grow (wat wr d) os = w5 at HB5 ⊢
      go_wp2
      go_roundg (ls.length - (i + 1))
      case measure => have := HLT.out; omega
      case rel => exact ⟨i + 1, by have := HLT.out; omega, by have := HLT.out; omega, by rw [W3.out], by rw [HSt.out, Int.natCast_add, W4.out], HB5⟩
    · have ei : i = ls.length := by omega
      subst ei
      have HR := Aside0.mk (show lenT (ls.take ls.length) = lenT ls by rw [List.take_length])
      generalize lenT (ls.take ls.length) = q at HR ⊢
      have t1 : ¬ (ls.length : Int) < ls.length := by omega
      go_wp2
      go_ret
      exact ⟨by rw [← HR.out]; rfl, HB.out⟩
def AskPostR (b : Nat) (F : Nat → Prop) (most : Int) (R : Int × Int × List LS × At) (w : World) (e : Ending) (w' : World) : Prop :=
  e = .returned (.tuple #[.int .i64 R.1, .int .i64 R.2.1]) ∧ IsTR w' b (fun k => F k ∨ w.heap.size ≤ k) R.2.2.1 most ∧ Grew F w w'
theorem ask_sameR {w' : World} {f : At} (h : IsTR w b F ls most) (hb : Below w.heap.size w w') {R : Int × Int × List LS × At} {x y : Int} (hR : R = (x, y, ls, f)) :
    AskPostR b F most R w (.returned (.tuple #[.int .i64 x, .int .i64 y])) w' := by
  subst hR
  exact ⟨rfl, (h.below hb).mono (fun k _ hk => .inl hk), Grew.of_below hb⟩
set_option maxHeartbeats 8000000 in
set_option maxRecDepth 100000 in
theorem AskTR_out (h : IsTR w b F ls most) (who node m : Int) (ho : node < 0 ∨ (ls.length : Int) ≤ node) :
    Calls Tryz.prog 10 #[.pointer (some ⟨b, 0, none⟩), .int .i64 who, .int .i64 node, .int .i64 m] w (AskPostR b F most (askT ls most (fW ls) who node m) w) := by
  have hu := Tryz.underlying69
  have HR := Aside0.mk (show askT ls most (fW ls) who node m = (0, 4, ls, fW ls) from if_pos ho)
  have HT := Aside0.mk h
  obtain ⟨sA, sc, -, c1, -⟩ := h.open_
  clear h
  by_cases h1 : node < 0
  · have h2 : decide (node < 0) = true := decide_eq_true h1
    clear h1 ho
    go_enter Tryz.func10, Tryz.ntmps10
    go_wp2
    go_ret2
    exact ask_sameR HT.out (Below.refl _ _) HR.out
  · have h2 : decide (node < 0) = false := decide_eq_false h1
    have h3 : decide (node ≥ (ls.length : Int)) = true := decide_eq_true (by omega)
    have h4 : (ls.length : Int) ≤ node := by omega
    clear h1 ho
    go_enter Tryz.func10, Tryz.ntmps10
    go_wp2
    go_ret2
    exact ask_sameR HT.out (Below.refl _ _) HR.out
set_option maxHeartbeats 8000000 in
set_option maxRecDepth 100000 in
theorem AskTR_waits (h : IsTR w b F ls most) (hl : ls.length ≤ 10000) (who node m : Int) (ho : ¬ (node < 0 ∨ (ls.length : Int) ≤ node)) (hf : (fW ls who).isSome = true) :
    Calls Tryz.prog 10 #[.pointer (some ⟨b, 0, none⟩), .int .i64 who, .int .i64 node, .int .i64 m] w (AskPostR b F most (askT ls most (fW ls) who node m) w) := by
  have hu := Tryz.underlying69
  have hu3 := Tryz.underlying41
  have HR := Aside0.mk (show askT ls most (fW ls) who node m = (0, 5, ls, fW ls) by unfold askT; rw [if_neg ho, if_pos hf])
  have HT := Aside0.mk h
  have HWt := Aside0.mk (WaitsTR_ h hl who)
  have HQ := Aside0.mk (show (waitsT ls (fW ls) who).2.2 = true by
    unfold waitsT
    cases hq : fW ls who with
    | none => rw [hq] at hf; cases hf
    | some n => rfl)
  rw [HQ.out] at HWt
  generalize (waitsT ls (fW ls) who).1 = x at HWt
  generalize (waitsT ls (fW ls) who).2.1 = y at HWt
  obtain ⟨sA, sc, -, c1, -⟩ := h.open_
  have h2 : decide (node < 0) = false := decide_eq_false (fun e => ho (.inl e))
  have h3 : decide (node ≥ (ls.length : Int)) = false := decide_eq_false (fun e => ho (.inr e))
  have h4 : node < (ls.length : Int) := by omega
  clear h ho hf
  go_enter Tryz.func10, Tryz.ntmps10
  go_wp2_with fail
  refine HWt.out.mono ?_
  rintro e w3 ⟨rfl, hb⟩
  have HB := Aside0.mk hb
  clear hb c1
  go_wp2
  go_ret2
  exact ask_sameR HT.out (below_alloc HB.out _) HR.out
set_option maxHeartbeats 8000000 in
set_option maxRecDepth 100000 in
theorem AskTR_bad (h : IsTR w b F ls most) (hl : ls.length ≤ 10000) (who node m : Int) (ho : ¬ (node < 0 ∨ (ls.length : Int) ≤ node)) (hf : (fW ls who).isSome = false) (hb : who < 0 ∨ knownM m = false ∨ m = 0) :
    Calls Tryz.prog 10 #[.pointer (some ⟨b, 0, none⟩), .int .i64 who, .int .i64 node, .int .i64 m] w (AskPostR b F most (askT ls most (fW ls) who node m) w) := by
  have hu := Tryz.underlying69
  have hu3 := Tryz.underlying41
  have HR := Aside0.mk (show askT ls most (fW ls) who node m = (0, 1, ls, fW ls) by unfold askT; rw [if_neg ho, hf, if_neg (by decide), if_pos hb])
  have HT := Aside0.mk h
  have HWt := Aside0.mk (WaitsTR_ h hl who)
  have HQ := Aside0.mk (show (waitsT ls (fW ls) who).2.2 = false by
    unfold waitsT
    cases hq : fW ls who with
    | none => rfl
    | some n => rw [hq] at hf; cases hf)
  rw [HQ.out] at HWt
  generalize (waitsT ls (fW ls) who).1 = x at HWt
  generalize (waitsT ls (fW ls) who).2.1 = y at HWt
  obtain ⟨sA, sc, -, c1, -⟩ := h.open_
  have h2 : decide (node < 0) = false := decide_eq_false (fun e => ho (.inl e))
  have h3 : decide (node ≥ (ls.length : Int)) = false := decide_eq_false (fun e => ho (.inr e))
  have h4 : node < (ls.length : Int) := by omega
  have HMo := Aside0.mk (fun W => ltkref1_Mode.calls m (knownM m) W (modeR_f m))
  clear h ho hf
  by_cases hw0 : who < 0
  · have h5 : decide (who < 0) = true := decide_eq_true hw0
    clear hw0 hb HMo
    go_enter Tryz.func10, Tryz.ntmps10
    go_wp2_with fail
    refine HWt.out.mono ?_
    rintro e w3 ⟨rfl, hb⟩
    have HB := Aside0.mk hb
    clear hb c1
    go_wp2
    go_ret2
    exact ask_sameR HT.out (below_alloc HB.out _) HR.out
  · have h5 : decide (who < 0) = false := decide_eq_false hw0
    have hb' := hb.resolve_left hw0
    clear hw0 hb
    cases hk : knownM m with
    | false =>
      rw [hk] at HMo
      clear hb' hk
      go_enter Tryz.func10, Tryz.ntmps10
      go_wp2_with fail
      refine HWt.out.mono ?_
      rintro e w3 ⟨rfl, hb⟩
      have HB := Aside0.mk hb
      clear hb c1
      go_wp2_with fail
      refine (HMo.out _).mono ?_
      rintro e w4 ⟨rfl, hd⟩
      have HB4 := Aside0.mk (show Below w.heap.size w w4 by obtain ⟨n, rfl⟩ := hd.out; exact pw_below_drewN (below_alloc HB.out _) _)
      clear hd
      go_wp2
      go_ret2
      exact ask_sameR HT.out HB4.out HR.out
    | true =>
      have h8 : (m == 0) = true := beq_iff_eq.2 (hb'.resolve_left (by rw [hk]; decide))
      rw [hk] at HMo
      clear hb' hk
      go_enter Tryz.func10, Tryz.ntmps10
      go_wp2_with fail
      refine HWt.out.mono ?_
      rintro e w3 ⟨rfl, hb⟩
      have HB := Aside0.mk hb
      clear hb c1
      go_wp2_with fail
      refine (HMo.out _).mono ?_
      rintro e w4 ⟨rfl, hd⟩
      have HB4 := Aside0.mk (show Below w.heap.size w w4 by obtain ⟨n, rfl⟩ := hd.out; exact pw_below_drewN (below_alloc HB.out _) _)
      clear hd
      go_wp2
      go_ret2
      exact ask_sameR HT.out HB4.out HR.out
set_option maxHeartbeats 8000000 in
set_option maxRecDepth 100000 in
theorem AskTR_go (h : IsTR w b F ls most) (hs : Small ls) (hv : LInv ls) (who node m : Int) (ho : ¬ (node < 0 ∨ (ls.length : Int) ≤ node)) (hf : (fW ls who).isSome = false) (hb : ¬ (who < 0 ∨ knownM m = false ∨ m = 0)) :
    Calls Tryz.prog 10 #[.pointer (some ⟨b, 0, none⟩), .int .i64 who, .int .i64 node, .int .i64 m] w (AskPostR b F most (askT ls most (fW ls) who node m) w) := by
  have mixed : Tryz.prog.follows Departure.mixedOrders = true := by kernel_rfl
  have hu := Tryz.underlying69
  have hu3 := Tryz.underlying41
  have hf0 : fW ls who = none := by cases hq : fW ls who with
    | none => rfl
    | some n => rw [hq] at hf; cases hf
  have HT := Aside0.mk h
  have HS := Aside0.mk hs
  have HWt := Aside0.mk (WaitsTR_ h hs.1 who)
  rw [show waitsT ls (fW ls) who = (0, 0, false) by unfold waitsT; rw [hf0]] at HWt
  obtain ⟨i, rfl⟩ : ∃ i : Nat, node = i := ⟨node.toNat, by omega⟩
  have hi : i < ls.length := by omega
  have hhas := has_holds hf0 hi
  have HV := Aside0.mk (hv i hi)
  have HSi := Aside0.mk (hs.2 i hi)
  obtain ⟨sA, sc, c0, c1, -⟩ := h.open_
  have C0 := Aside0.mk c0
  have C1 := Aside0.mk c1
  have h2 : decide ((i : Int) < 0) = false := decide_eq_false (by omega)
  have h3 : decide ((i : Int) ≥ (ls.length : Int)) = false := decide_eq_false (by omega)
  have h4 : (i : Int) < (ls.length : Int) := by omega
  have h4' : 0 ≤ (i : Int) := by omega
  have h5 : decide (who < 0) = false := decide_eq_false (fun e => hb (.inl e))
  have hk : knownM m = true := by cases hk : knownM m; exact absurd (.inr (.inl hk)) hb; rfl
  have h8 : (m == 0) = false := beq_eq_false_iff_ne.2 (fun e => hb (.inr (.inr e)))
  have HMo := Aside0.mk (fun W => ltkref1_Mode.calls m true W (by rw [modeR_f, hk]))
  have HI := Aside0.mk hi
  have hpure : askT ls most (fW ls) who i m = if toldIn (ls.getD i zL).1 who = 0 ∧ most ≤ (lenT ls : Nat) then (0, 3, ls, fW ls) else ((askIn (ls.getD i zL).1 (ls.getD i zL).2 who m).1, 0, ls.set i (askIn (ls.getD i zL).1 (ls.getD i zL).2 who m).2,
      if (askIn (ls.getD i zL).1 (ls.getD i zL).2 who m).1 = 2 then (fW ls).put who i else fW ls) := by
    unfold askT
    rw [if_neg ho, hf, if_neg (by decide), if_neg hb]
    simp only [Int.toNat_natCast]
    have e : (hasIn (ls.getD i zL).1 (ls.getD i zL).2 who = false ∧ most ≤ (lenT ls : Nat)) ↔ (toldIn (ls.getD i zL).1 who = 0 ∧ most ≤ (lenT ls : Nat)) := by
      rw [hhas]
      simp
    by_cases hq : toldIn (ls.getD i zL).1 who = 0 ∧ most ≤ (lenT ls : Nat)
    · rw [if_pos hq, if_pos (e.2 hq)]
    · rw [if_neg hq, if_neg (fun h => hq (e.1 h))]
  have HP := Aside0.mk hpure
  clear h hs hv ho hf hb hf0 hhas hk hi c0 hpure
  go_enter Tryz.func10, Tryz.ntmps10
  go_wp2_with fail
  refine HWt.out.mono ?_
  rintro e w3 ⟨rfl, hb⟩
  have HB := Aside0.mk (below_alloc hb (.cells #[.int .i64 0, .int .i64 0] 41))
  clear hb c1 HWt
  go_wp2_with fail
  refine (HMo.out _).mono ?_
  rintro e w4 ⟨rfl, hd⟩
  have hb4 : Below w.heap.size w w4 := by obtain ⟨n, rfl⟩ := hd.out; exact pw_below_drewN HB.out _
  have HB4 := Aside0.mk hb4
  obtain ⟨g, off, sc', bi, Gi, -, d1, -, -, cs, hI, -, -⟩ := (HT.out.below hb4).at_ i HI.out
  obtain ⟨rfl, rfl⟩ := slice_eq d1 (cell_be C1.out hb4)
  have K0 := Aside0.mk (fun d os => cell_gr (cell_be C0.out HB4.out) d os)
  have K1 := Aside0.mk (fun d os => cell_gr d1 d os)
  have KS := Aside0.mk (fun d os => cell_gr cs d os)
  have HA := Aside0.mk (fun d os => (Holds_R (grow (wat w4 d) os) bi Gi _ _ who (hI.below (below_gr w4 d os))).mono fun e w' ⟨x1, x2⟩ => (show e = _ ∧ Below (grow (wat w4 d) os).heap.size (grow (wat w4 d) os) w' from ⟨x1, by rw [x2]; exact Below.refl _ _⟩))
  have HL := Aside0.mk (fun d os => LenTR_ ((HT.out.below HB4.out).below (below_gr w4 d os)) HS.out)
  clear hd hb4 d1 cs hI HMo
  by_cases hq0 : toldIn (ls.getD i zL).1 who = 0
  · have b1 : (toldIn (ls.getD i zL).1 who == 0) = true := beq_iff_eq.2 hq0
    by_cases hq1 : most ≤ (lenT ls : Nat)
    · have b2 : decide (((lenT ls : Nat) : Int) ≥ most) = true := decide_eq_true hq1
      have HR := Aside0.mk (HP.out.trans (if_pos ⟨hq0, hq1⟩))
      clear hq0 hq1
      generalize toldIn (ls.getD i zL).1 who = v at HA b1
      generalize lenT ls = q at HL b2
      go_wp2_with fail
      have k0 := K0.out
      have k1 := K1.out
      have ks := KS.out
      refine wp_region_gr mixed (by kernel_rfl) ?_
      repeat (go_big_quiet_step (first | exact Calls.gr_of (HA.out _ _) | exact Calls.gr_of (HL.out _ _)))
      refine wpQuiet_nil ?_
      intro _ hw'
      obtain ⟨⟨d, os⟩, rfl⟩ := hw'
      have HB5 := Aside0.mk (below_then HB4.out HB4.out.size (below_gr w4 d os))
      clear k0 k1 ks K0 K1 KS HA HL
      generalize grow (wat w4 d) os = w5 at HB5 ⊢
      go_wp2
      go_ret2
      exact ask_sameR HT.out HB5.out HR.out
    · have b2 : decide (((lenT ls : Nat) : Int) ≥ most) = false := decide_eq_false hq1
      have HR := Aside0.mk (HP.out.trans (if_neg (fun e => hq1 e.2)))
      clear hq0 hq1
      generalize toldIn (ls.getD i zL).1 who = v at HA b1
      generalize lenT ls = q at HL b2
      go_wp2_with fail
      have k0 := K0.out
      have k1 := K1.out
      have ks := KS.out
      refine wp_region_gr mixed (by kernel_rfl) ?_
      repeat (go_big_quiet_step (first | exact Calls.gr_of (HA.out _ _) | exact Calls.gr_of (HL.out _ _)))
      refine wpQuiet_nil ?_
      intro _ hw'
      obtain ⟨⟨d, os⟩, rfl⟩ := hw'
      have HB5 := Aside0.mk (below_then HB4.out HB4.out.size (below_gr w4 d os))
      clear k0 k1 ks K0 K1 KS HA HL
      generalize grow (wat w4 d) os = w5 at HB5 ⊢
      obtain ⟨g2, off2, sc2, bi2, Gi2, -, d1, -, -, cs, hI, hG, hcl⟩ := (HT.out.below HB5.out).at_ i HI.out
      have HAk := Aside0.mk (Ask_R w5 bi2 Gi2 _ _ who m hI HV.out.toInvS (by have := HSi.out; omega) (by have := HSi.out; omega))
      have HCL := Aside0.mk (And.intro hG hcl)
      clear hI hG hcl
      go_wp2_with fail
      refine HAk.out.mono ?_
      rintro e w6 ⟨rfl, hI6, hg6⟩
      have HT6 := Aside0.mk ((HCL.out.2 w6 _ _ _ hI6 (fun k hk => hk) hg6).mono (F' := fun k => F k ∨ w.heap.size ≤ k) (fun k _ hk => hk.elim (fun h => .inl h.1) (fun h => h.elim (fun h => .inl (HCL.out.1 k h)) (fun h => .inr (Nat.le_trans HB5.out.size h)))))
      have HG6 := Aside0.mk ((Grew.of_below (S := F) HB5.out).trans hg6 (fun k hk => .inl (HCL.out.1 k hk)))
      clear hI6 hg6 d1 cs
      go_wp2
      go_ret2
      rw [HR.out]
      exact ⟨rfl, HT6.out, HG6.out⟩
  · have b1 : (toldIn (ls.getD i zL).1 who == 0) = false := beq_eq_false_iff_ne.2 hq0
    have HR := Aside0.mk (HP.out.trans (if_neg (fun e => hq0 e.1)))
    clear hq0
    generalize toldIn (ls.getD i zL).1 who = v at HA b1
    go_wp2_with fail
    have k0 := K0.out
    have k1 := K1.out
    have ks := KS.out
    refine wp_region_gr mixed (by kernel_rfl) ?_
    repeat (go_big_quiet_step (first | exact Calls.gr_of (HA.out _ _) | exact Calls.gr_of (HL.out _ _)))
    refine wpQuiet_nil ?_
    intro _ hw'
    obtain ⟨⟨d, os⟩, rfl⟩ := hw'
    have HB5 := Aside0.mk (below_then HB4.out HB4.out.size (below_gr w4 d os))
    clear k0 k1 ks K0 K1 KS HA HL
    generalize grow (wat w4 d) os = w5 at HB5 ⊢
    obtain ⟨g2, off2, sc2, bi2, Gi2, -, d1, -, -, cs, hI, hG, hcl⟩ := (HT.out.below HB5.out).at_ i HI.out
    have HAk := Aside0.mk (Ask_R w5 bi2 Gi2 _ _ who m hI HV.out.toInvS (by have := HSi.out; omega) (by have := HSi.out; omega))
    have HCL := Aside0.mk (And.intro hG hcl)
    clear hI hG hcl
    go_wp2_with fail
    refine HAk.out.mono ?_
    rintro e w6 ⟨rfl, hI6, hg6⟩
    have HT6 := Aside0.mk ((HCL.out.2 w6 _ _ _ hI6 (fun k hk => hk) hg6).mono (F' := fun k => F k ∨ w.heap.size ≤ k) (fun k _ hk => hk.elim (fun h => .inl h.1) (fun h => h.elim (fun h => .inl (HCL.out.1 k h)) (fun h => .inr (Nat.le_trans HB5.out.size h)))))
    have HG6 := Aside0.mk ((Grew.of_below (S := F) HB5.out).trans hg6 (fun k hk => .inl (HCL.out.1 k hk)))
    clear hI6 hg6 d1 cs
    go_wp2
    go_ret2
    rw [HR.out]
    exact ⟨rfl, HT6.out, HG6.out⟩
theorem AskTR_ (h : IsTR w b F ls most) (hs : Small ls) (hv : LInv ls) (who node m : Int) :
    Calls Tryz.prog 10 #[.pointer (some ⟨b, 0, none⟩), .int .i64 who, .int .i64 node, .int .i64 m] w (AskPostR b F most (askT ls most (fW ls) who node m) w) := by
  by_cases ho : node < 0 ∨ (ls.length : Int) ≤ node
  · exact AskTR_out h who node m ho
  · cases hf : (fW ls who).isSome with
    | true => exact AskTR_waits h hs.1 who node m ho hf
    | false =>
      by_cases hb : who < 0 ∨ knownM m = false ∨ m = 0
      · exact AskTR_bad h hs.1 who node m ho hf hb
      · exact AskTR_go h hs hv who node m ho hf hb
end
end Go.Proofs.YtkceadieigpolaaGreat.Ln
namespace Go.Proofs.YtkceadieigpolaaGreat.Ln
open Go.RowKit Go.Proofs.YtkceadieigpolaaGreatW.PrintWords Go.Proofs.YtkceadieigpolaaGreatW.PrintLast Go.Proofs.YtkceadieigpolaaGreatW.PrintMore Go.Proofs.YtkceadieigpolaaGreat.PMd
open Go.Sort (grow)
set_option linter.unusedVariables false
set_option linter.unusedSimpArgs false
theorem dropO_len {ls : List LS} (hm : ∀ i, mS (ls.getD i zL) ≤ 900000) (who : Int) : ∀ d k : Nat, k + d = ls.length → (dropO ls who k).length ≤ 900000 * d
  | 0, k, h => by rw [show k = ls.length by omega, dropO_top]; simp
  | d + 1, k, h => by
    rw [dropO_step (by omega : k < ls.length), List.length_append]
    have h1 := dropO_len hm who d (k + 1) (by omega)
    have h2 := dropS_bd who (ls.getD k zL)
    have h3 := hm k
    omega
theorem drop_len_k {ls : List LS} (hm : ∀ i, mS (ls.getD i zL) ≤ 900000) (hl : ls.length ≤ 10000) (who : Int) {k : Nat} (hk : k < ls.length) (hz : hasIn (ls.getD k zL).1 (ls.getD k zL).2 who = true) :
    (dropO ls who (k + 1)).length + (leaveIn (ls.getD k zL).1 (ls.getD k zL).2 who).1.length ≤ 9000000000 := by
  have h0 : dropO ls who k = dropO ls who (k + 1) ++ (leaveIn (ls.getD k zL).1 (ls.getD k zL).2 who).1 := by rw [dropO_step hk]; unfold dropS; rw [if_pos hz]
  have h1 := dropO_len hm who (ls.length - k) k (by omega)
  rw [h0, List.length_append] at h1
  have h3 : 900000 * (ls.length - k) ≤ 900000 * 10000 := Nat.mul_le_mul_left _ (by omega)
  exact Nat.le_trans h1 (Nat.le_trans h3 (by decide))
theorem app_63 {a b : Nat} (h : a + b ≤ 9000000000) : a + b ≤ maxLen := Nat.le_trans h (by decide)
theorem app_by {a b : Nat} (h : a + b ≤ 9000000000) : (a + b) * 8 ≤ 140737488355328 := Nat.le_trans (Nat.mul_le_mul_right 8 h) (by decide)
theorem wrap_dn {k : Nat} (h : k ≤ 10000) : wrap64 ((k : Int) - 1) = (k : Int) - 1 := by unfold wrap64; omega
theorem leave_open {P : Program} {f : FuncId} {args : Array Value} {w : World} {b : Nat} {F : Nat → Prop} {hs qs : List E} {who : Int} (h : Calls P f args w (LeaveRP b F hs qs who w)) :
    Calls P f args w fun e w' => ∃ A' c', e = .returned (.slice A' (leaveIn hs qs who).1.length c') ∧ Row w' 3 1 A' (leaveIn hs qs who).1.length c' (ints (leaveIn hs qs who).1) ∧
      (∀ k, blk A' k → w.heap.size ≤ k) ∧ IsLR w' b (fun k => (F k ∨ w.heap.size ≤ k) ∧ ¬ blk A' k) (leaveIn hs qs who).2.1 (leaveIn hs qs who).2.2 ∧ Grew F w w' := h
def DropR (b : Nat) (F : Nat → Prop) (most : Int) (ls : List LS) (who : Int) (w : World) (j : Nat) (v : Value) (wr : World) : Prop :=
  ∃ A c F0, v = .slice A (dropO ls who j).length c ∧ Row wr 3 1 A (dropO ls who j).length c (ints (dropO ls who j)) ∧ (∀ k, blk A k → w.heap.size ≤ k) ∧ IsTR wr b F0 (dropL ls who j) most ∧
    (∀ k, F0 k → (F k ∨ w.heap.size ≤ k) ∧ ¬ blk A k ∧ k < wr.heap.size) ∧ Grew F w wr
theorem drop_round {w wr w6 w7 : World} {b bi k : Nat} {F F0 Gi : Nat → Prop} {ls : List LS} {most who : Int} {A A6 A7 : Option Addr} {c c6 c7 : Nat} {R : List Int × LS}
    (hX : Row wr 3 1 A (dropO ls who (k + 1)).length c (ints (dropO ls who (k + 1))) ∧ (∀ q, blk A q → w.heap.size ≤ q) ∧ (∀ q, F0 q → (F q ∨ w.heap.size ≤ q) ∧ ¬ blk A q ∧ q < wr.heap.size) ∧ Grew F w wr ∧ (∀ q, Gi q → F0 q))
    (hT : IsTR wr b F0 (dropL ls who (k + 1)) most)
    (hI : (∀ q, blk A6 q → wr.heap.size ≤ q) ∧ IsLR w6 bi (fun q => ((Gi q ∧ q < wr.heap.size) ∨ wr.heap.size ≤ q) ∧ ¬ blk A6 q) R.2.1 R.2.2 ∧ Grew (fun q => Gi q ∧ q < wr.heap.size) wr w6)
    (hcl : ∀ w1 hs1 qs1 (G' : Nat → Prop), IsLR w1 bi G' hs1 qs1 → (∀ q, G' q → Gi q ∨ wr.heap.size ≤ q) → Grew Gi wr w1 → IsTR w1 b (fun q => (F0 q ∧ q < wr.heap.size) ∨ G' q) ((dropL ls who (k + 1)).set k (hs1, qs1)) most)
    (hR6 : Row w6 3 1 A6 R.1.length c6 (ints R.1))
    (hR7 : Row w7 3 1 A7 ((dropO ls who (k + 1)).length + R.1.length) c7 (ints (dropO ls who (k + 1)) ++ ints R.1)) (hG7 : Grew (blk A) w6 w7) (hk7 : ∀ q, blk A7 q → blk A q ∨ w6.heap.size ≤ q)
    (hO : dropO ls who k = dropO ls who (k + 1) ++ R.1) (hL : dropL ls who k = (dropL ls who (k + 1)).set k R.2) :
    DropR b F most ls who w k (.slice A7 (dropO ls who k).length c7) w7 := by
  obtain ⟨x1, x2, x3, x4, x5⟩ := hX
  obtain ⟨i1, i2, i3⟩ := hI
  have s1 := x4.size
  have s2 := i3.size
  have s3 := hG7.size
  have t1 := hcl w6 R.2.1 R.2.2 (fun q => (((Gi q ∧ q < wr.heap.size) ∨ wr.heap.size ≤ q) ∧ ¬ blk A6 q) ∧ q < w6.heap.size) (i2.mono (fun q h1 h2 => ⟨h2, h1⟩)) (fun q hq => hq.1.1.imp (fun h => h.1) id) (i3.mono (fun q _ hq => hq.1))
  have hoff : ∀ q, ((F0 q ∧ q < wr.heap.size) ∨ (((Gi q ∧ q < wr.heap.size) ∨ wr.heap.size ≤ q) ∧ ¬ blk A6 q) ∧ q < w6.heap.size) → ¬ blk A q := fun q hq hb => by
    rcases hq with hq | hq
    · exact (x3 q hq.1).2.1 hb
    · rcases hq.1.1 with h1 | h1
      · exact (x3 q (x5 q h1.1)).2.1 hb
      · have := x1.lt hb; omega
  have hlt : ∀ q, ((F0 q ∧ q < wr.heap.size) ∨ (((Gi q ∧ q < wr.heap.size) ∨ wr.heap.size ≤ q) ∧ ¬ blk A6 q) ∧ q < w6.heap.size) → q < w6.heap.size := fun q hq => by
    rcases hq with hq | hq
    · omega
    · exact hq.2
  refine ⟨A7, c7, _, rfl, ?_, fun q hq => (hk7 q hq).elim (x2 q) (fun h => by omega), by rw [hL]; exact t1.grew hG7 hoff, fun q hq => ⟨?_, fun hb => (hk7 q hb).elim (hoff q hq) (fun h => by have := hlt q hq; omega), by have := hlt q hq; omega⟩, ?_⟩
  · rw [hO, List.length_append]
    simpa [ints] using hR7
  · rcases hq with hq | hq
    · exact (x3 q hq.1).1
    · rcases hq.1.1 with h1 | h1
      · exact (x3 q (x5 q h1.1)).1
      · exact .inr (by omega)
  · exact (x4.trans i3 (fun q hq => (x3 q (x5 q hq.1)).1)).trans hG7 (fun q hq => .inr (x2 q hq))
section
variable {w : World} {b : Nat} {F : Nat → Prop} {ls : List LS} {most : Int}
set_option maxHeartbeats 8000000 in
set_option maxRecDepth 100000 in
theorem DropTR_ (h : IsTR w b F ls most) (hl : ls.length ≤ 10000) (hm : ∀ i, mS (ls.getD i zL) ≤ 900000) (hv : LInv ls) (who : Int) :
    Calls Tryz.prog 12 #[.pointer (some ⟨b, 0, none⟩), .int .i64 who] w fun e w' => ∃ A' c', e = .returned (.slice A' (dropO ls who 0).length c') ∧ Row w' 3 1 A' (dropO ls who 0).length c' (ints (dropO ls who 0)) ∧ (∀ k, blk A' k → w.heap.size ≤ k) ∧
      IsTR w' b (fun k => (F k ∨ w.heap.size ≤ k) ∧ ¬ blk A' k) (dropL ls who 0) most ∧ Grew F w w' := by
  have hu := Tryz.underlying69
  have HS := Aside0.mk (And.intro hl (And.intro hm hv))
  have HD0 := Aside0.mk (show DropR b F most ls who w ls.length (.slice none 0 0) w from
    ⟨none, 0, fun k => F k ∧ k < w.heap.size, by rw [dropO_top]; rfl, by rw [dropO_top]; exact Row.zero _ _ _, fun k hk => (blk_none hk).elim, by rw [dropL_top]; exact h.mono (fun k hk hf => ⟨hf, hk⟩), fun k hk => ⟨.inl hk.1, fun hb => (blk_none hb).elim, hk.2⟩, Grew.refl _ _⟩)
  obtain ⟨sA, sc, -, c1, -⟩ := h.open_
  have WS := Aside0.mk (wrap_dn hl)
  clear h hl hm hv
  go_enter Tryz.func12, Tryz.ntmps12
  go_wp2_with fail
  clear c1
  go_loopg [5, 6] ls.length (fun gg v5 v6 wr => ∃ j : Nat, j ≤ ls.length ∧ j ≤ gg ∧ v6 = .int .i64 ((j : Int) - 1) ∧ Aside0 (DropR b F most ls who w j v5 wr))
  case atStart => exact ⟨ls.length, by omega, by omega, by rw [WS.out], HD0⟩
  case round =>
    obtain ⟨j, hj, hgg, rfl, HD⟩ := hrel
    by_cases h0 : 0 < j
    · obtain ⟨k, rfl⟩ : ∃ k, j = k + 1 := ⟨j - 1, by omega⟩
      have ek : ((k + 1 : Nat) : Int) - 1 = (k : Int) := by omega
      rw [ek]
      obtain ⟨A, c, F0, rfl, hR, hkA, hT, hF0, hG⟩ := HD.out
      have hkl : k < ls.length := by omega
      have t1 : (k : Int) ≥ 0 := by omega
      have t3 : 0 ≤ (k : Int) := by omega
      have t2 : (k : Int) < ((dropL ls who (k + 1)).length : Int) := by rw [dropL_len]; omega
      obtain ⟨g, off, sc', bi, Gi, -, d1, -, -, cs, hI, hGF, hcl⟩ := hT.at_ k (by rw [dropL_len]; exact hkl)
      have eL : (dropL ls who (k + 1)).getD k zL = ls.getD k zL := by rw [dropL_at hkl, if_pos (by omega)]
      rw [eL] at hI
      have HH := Aside0.mk (Holds_R wr bi Gi _ _ who hI)
      have HW := Aside0.mk (Waits_R wr bi Gi _ _ who hI)
      have WK := Aside0.mk (wrap_dn (Nat.le_trans (Nat.le_of_lt hkl) HS.out.1))
      have HIx := Aside0.mk hI
      have HCL := Aside0.mk hcl
      have HX := Aside0.mk (And.intro hR (And.intro hkA (And.intro hF0 (And.intro hG hGF))))
      have HTx := Aside0.mk hT
      have HLT := Aside0.mk (And.intro hkl hgg)
      have hn := dropL_len ls who (k + 1)
      rw [hn] at d1 t2
      clear hn eL ek
      by_cases hz : hasIn (ls.getD k zL).1 (ls.getD k zL).2 who = true
      · have HO := Aside0.mk (show dropO ls who k = dropO ls who (k + 1) ++ (leaveIn (ls.getD k zL).1 (ls.getD k zL).2 who).1 by rw [dropO_step hkl]; unfold dropS; rw [if_pos hz])
        have HLs := Aside0.mk (show dropL ls who k = (dropL ls who (k + 1)).set k (leaveIn (ls.getD k zL).1 (ls.getD k zL).2 who).2 by rw [dropL_step hkl]; unfold dropS; rw [if_pos hz])
        have HLen := Aside0.mk (drop_len_k HS.out.2.1 HS.out.1 who hkl hz)
        have HLv := Aside0.mk (leave_open (Leave_R wr bi (fun k => Gi k ∧ k < wr.heap.size) _ _ who (hI.mono (fun k hk hg => ⟨hg, hk⟩)) (HS.out.2.2 k hkl).asc (fun x hx => ((HS.out.2.2 k hkl).mh x hx).1) (fun x hx => ((HS.out.2.2 k hkl).mq x hx).1) (by have := HS.out.2.1 k; unfold mS at this; exact this) (fun k hk => hk.2)))
        clear hT hcl hR hkA hF0 hG hGF hI hj hgg h0
        by_cases hh : toldIn (ls.getD k zL).1 who = 0
        · have b1 : (toldIn (ls.getD k zL).1 who != 0) = false := bne_eq_false_iff_eq.2 hh
          have b2 : (toldIn (ls.getD k zL).2 who != 0) = true := by unfold hasIn at hz; rw [b1] at hz; simpa using hz
          clear hz hh
          generalize toldIn (ls.getD k zL).1 who = u1 at HH b1
          generalize toldIn (ls.getD k zL).2 who = u2 at HW b2
          generalize leaveIn (ls.getD k zL).1 (ls.getD k zL).2 who = R at HO HLs HLen HLv
          go_wp2_with fail
          refine HH.out.mono ?_
          rintro e w3 ⟨rfl, rfl⟩
          go_wp2_with fail
          refine HW.out.mono ?_
          rintro e w4 ⟨rfl, rfl⟩
          go_wp2_with fail
          refine HLv.out.mono ?_
          rintro e w6 ⟨A6, c6, rfl, hR6, hk6, hI6, hg6⟩
          have HR6 := Aside0.mk hR6
          have HA6 := Aside0.mk (show Row w6 3 1 A (dropO ls who (k + 1)).length c (ints (dropO ls who (k + 1))) from HX.out.1.grew hg6 (fun q hq hq2 => (HX.out.2.2.1 q (HX.out.2.2.2.2 q hq2.1)).2.1 hq))
          have HI6 := Aside0.mk (And.intro hk6 (And.intro hI6 hg6))
          clear hR6 hk6 hI6 hg6 d1 cs
          clear t1 t3 t2 b1 hkl
          (try clear b2)
          go_wp2_with (first | (at_builtin; refine wpList_append_rows rfl _ _ 38 rfl 3 (.int .i64 0) 1 8 Tryz.underlying38 info3 rfl A (dropO ls who (k + 1)).length c (ints (dropO ls who (k + 1))) ?hs1 HA6.out A6 R.1.length c6 (ints R.1) ?hs2 HR6.out (ints_one R.1) (app_63 HLen.out) (app_by HLen.out) ?_) | fail)
          · simp [Act.eval, Act.put]
          · simp [Act.eval, Act.put]
          intro A7 c7 w7 hR7 hG7 hk7
          have HN := Aside0.mk (drop_round (F := F) (w := w) HX.out HTx.out HI6.out HCL.out HR6.out hR7 hG7 hk7 HO.out HLs.out)
          clear hR7 hG7 hk7
          go_wp2
          go_roundg k
          case measure => have := HLT.out; omega
          case rel => exact ⟨k, by have := HLT.out; omega, Nat.le_refl _, by rw [WK.out], by have e := HN.out; rw [HO.out, List.length_append] at e; exact ⟨e⟩⟩
        · have b1 : (toldIn (ls.getD k zL).1 who != 0) = true := bne_iff_ne.2 hh
          clear hz hh
          generalize toldIn (ls.getD k zL).1 who = u1 at HH b1
          generalize leaveIn (ls.getD k zL).1 (ls.getD k zL).2 who = R at HO HLs HLen HLv
          go_wp2_with fail
          refine HH.out.mono ?_
          rintro e w3 ⟨rfl, rfl⟩
          go_wp2_with fail
          refine HLv.out.mono ?_
          rintro e w6 ⟨A6, c6, rfl, hR6, hk6, hI6, hg6⟩
          have HR6 := Aside0.mk hR6
          have HA6 := Aside0.mk (show Row w6 3 1 A (dropO ls who (k + 1)).length c (ints (dropO ls who (k + 1))) from HX.out.1.grew hg6 (fun q hq hq2 => (HX.out.2.2.1 q (HX.out.2.2.2.2 q hq2.1)).2.1 hq))
          have HI6 := Aside0.mk (And.intro hk6 (And.intro hI6 hg6))
          clear hR6 hk6 hI6 hg6 d1 cs
          clear t1 t3 t2 b1 hkl
          (try clear b2)
          go_wp2_with (first | (at_builtin; refine wpList_append_rows rfl _ _ 38 rfl 3 (.int .i64 0) 1 8 Tryz.underlying38 info3 rfl A (dropO ls who (k + 1)).length c (ints (dropO ls who (k + 1))) ?hs3 HA6.out A6 R.1.length c6 (ints R.1) ?hs4 HR6.out (ints_one R.1) (app_63 HLen.out) (app_by HLen.out) ?_) | fail)
          · simp [Act.eval, Act.put]
          · simp [Act.eval, Act.put]
          intro A7 c7 w7 hR7 hG7 hk7
          have HN := Aside0.mk (drop_round (F := F) (w := w) HX.out HTx.out HI6.out HCL.out HR6.out hR7 hG7 hk7 HO.out HLs.out)
          clear hR7 hG7 hk7
          go_wp2
          go_roundg k
          case measure => have := HLT.out; omega
          case rel => exact ⟨k, by have := HLT.out; omega, Nat.le_refl _, by rw [WK.out], by have e := HN.out; rw [HO.out, List.length_append] at e; exact ⟨e⟩⟩
      · have hz' : hasIn (ls.getD k zL).1 (ls.getD k zL).2 who = false := by simpa using hz
        obtain ⟨e1, e2⟩ := dropL_same hkl hz'
        have HN := Aside0.mk (show DropR b F most ls who w k (.slice A (dropO ls who (k + 1)).length c) wr from ⟨A, c, F0, by rw [e2], by rw [e2]; exact hR, hkA, by rw [e1]; exact hT, hF0, hG⟩)
        have b1 : (toldIn (ls.getD k zL).1 who != 0) = false := by unfold hasIn at hz'; simp at hz'; simp [hz'.1]
        have b2 : (toldIn (ls.getD k zL).2 who != 0) = false := by unfold hasIn at hz'; simp at hz'; simp [hz'.2]
        clear hT hcl hR hkA hF0 hG hGF hI hj hgg h0 hz hz' e1 e2
        generalize toldIn (ls.getD k zL).1 who = u1 at HH b1
        generalize toldIn (ls.getD k zL).2 who = u2 at HW b2
        go_wp2_with fail
        refine HH.out.mono ?_
        rintro e w3 ⟨rfl, rfl⟩
        go_wp2_with fail
        refine HW.out.mono ?_
        rintro e w4 ⟨rfl, rfl⟩
        go_wp2
        go_roundg k
        case measure => have := HLT.out; omega
        case rel => exact ⟨k, by have := HLT.out; omega, Nat.le_refl _, by rw [WK.out], HN⟩
    · obtain rfl : j = 0 := by omega
      obtain ⟨A, c, F0, rfl, hR, hkA, hT, hF0, hG⟩ := HD.out
      have HF := Aside0.mk (And.intro hR (And.intro hkA (And.intro (hT.mono (F' := fun k => (F k ∨ w.heap.size ≤ k) ∧ ¬ blk A k) (fun k _ hk => ⟨(hF0 k hk).1, (hF0 k hk).2.1⟩)) hG)))
      have t1 : ¬ (((0 : Nat) : Int) - 1 ≥ 0) := by omega
      clear hR hkA hT hF0 hG h0
      go_wp2
      go_ret
      exact ⟨A, c, rfl, HF.out⟩
end
end Go.Proofs.YtkceadieigpolaaGreat.Ln
namespace Go.Proofs.YtkceadieigpolaaGreat.Ln
open Go.RowKit Go.Proofs.YtkceadieigpolaaGreatW.PrintWords Go.Proofs.YtkceadieigpolaaGreatW.PrintLast Go.Proofs.YtkceadieigpolaaGreatW.PrintMore Go.Proofs.YtkceadieigpolaaGreat.PMd
open Go.Sort (grow)
set_option linter.unusedVariables false
set_option linter.unusedSimpArgs false
end Go.Proofs.YtkceadieigpolaaGreat.Ln
namespace Go.Proofs.YtkceadieigpolaaGreat.Ln
open Go.RowKit Go.Proofs.YtkceadieigpolaaGreatW.PrintWords Go.Proofs.YtkceadieigpolaaGreatW.PrintLast Go.Proofs.YtkceadieigpolaaGreatW.PrintMore Go.Proofs.YtkceadieigpolaaGreat.PMd
open Go.Sort (grow)
set_option linter.unusedVariables false
set_option linter.unusedSimpArgs false
theorem infoRL : (Tryz.prog.info? 66).map (fun i => (i.zero, i.size, i.bytes)) = some (some (.pointer none), 1, 8) := by kernel_rfl
set_option maxHeartbeats 8000000 in
set_option maxRecDepth 100000 in
theorem NewTR_ (n : Nat) (most : Int) (w : World) (h1 : 1 ≤ n) (h2 : n ≤ 10000) (h3 : 1 ≤ most) (h4 : most ≤ 4096) :
    Calls Tryz.prog 8 #[.int .i64 (n : Int), .int .i64 most] w fun e w' => e = .returned (.tuple #[.pointer (some ⟨w.heap.size, 0, none⟩), .int .i64 0]) ∧
      IsTR w' w.heap.size (fun k => w.heap.size ≤ k) (List.replicate n zL) most ∧ Below w.heap.size w w' := by
  have hu := Tryz.underlying69
  have hu2 := Tryz.underlying65
  have a1 : decide ((n : Int) < 1) = false := decide_eq_false (by omega)
  have a2 : decide ((n : Int) > 10000) = false := decide_eq_false (by omega)
  have a3 : decide (most < 1) = false := decide_eq_false (by omega)
  have a4 : decide (most > 4096) = false := decide_eq_false (by omega)
  have HN := Aside0.mk h2
  have HZ := Aside0.mk (IsTR.zero w most)
  have HBZ := Aside0.mk (below_alloc (Below.refl w.heap.size w) (.cells #[.int .i64 most, .slice none 0 0] 69))
  clear h1 h2 h3 h4
  go_enter Tryz.func8, Tryz.ntmps8
  go_wp2_with fail
  go_loopg [7] n (fun gg v7 wr => ∃ i : Nat, i ≤ n ∧ n - i ≤ gg ∧ v7 = .int .i64 i ∧ Aside0 (IsTR wr w.heap.size (fun k => w.heap.size ≤ k) (List.replicate i zL) most) ∧ Aside0 (Below w.heap.size w wr))
  case atStart => exact ⟨0, by omega, by omega, rfl, HZ, HBZ⟩
  case round =>
    obtain ⟨i, hi, hgg, rfl, HT, HB⟩ := hrel
    by_cases hlt : i < n
    · have t1 : (i : Int) < n := by omega
      obtain ⟨sA, sc, xs, c1, hR, hnb, hbl, fz, hsF, hbF, hclose⟩ := HT.out.push (fun k hk => Nat.le_trans HB.out.size hk)
      rw [List.length_replicate] at c1 hR hclose
      have HC := Aside0.mk hclose
      have HS := Aside0.mk (And.intro hnb (And.intro hbl (And.intro hsF fz)))
      have C1 := Aside0.mk c1
      have W3 := Aside0.mk (show wrap64 ((i : Int) + 1) = ((i + 1 : Nat) : Int) by have := HN.out; unfold wrap64; omega)
      have HR := Aside0.mk ((hR.alloc (.cells #[.slice none 0 0, .slice none 0 0] 65)).alloc (.cells #[.pointer (some ⟨wr.heap.size, 0, none⟩)] 66))
      have BS := Aside0.mk (blk_new (wr.alloc (.cells #[.slice none 0 0, .slice none 0 0] 65)) (.cells #[.pointer (some ⟨wr.heap.size, 0, none⟩)] 66))
      have e1 : (wr.alloc (.cells #[.slice none 0 0, .slice none 0 0] 65)).heap.size = wr.heap.size + 1 := by simp
      rw [e1] at BS
      have HI := Aside0.mk ((IsLR.zero wr).below (below_alloc (Below.refl _ _) (.cells #[.pointer (some ⟨wr.heap.size, 0, none⟩)] 66)))
      have HB5 := Aside0.mk (below_alloc (below_alloc (Below.refl wr.heap.size wr) (.cells #[.slice none 0 0, .slice none 0 0] 65)) (.cells #[.pointer (some ⟨wr.heap.size, 0, none⟩)] 66))
      have d1 := cell_al (cell_al c1 (.cells #[.slice none 0 0, .slice none 0 0] 65)) (.cells #[.pointer (some ⟨wr.heap.size, 0, none⟩)] 66)
      have D1 := Aside0.mk d1
      clear hR hclose hnb hbl hsF hbF fz a1 a2 a3 a4 e1 d1
      go_wp2_with (first | (at_builtin; refine wpList_append_info rfl _ _ 67 rfl 66 (.pointer none) 1 8 Tryz.underlying67 infoRL rfl sA i sc xs (by simp [Act.eval, Act.put]) HR.out ⟨wr.heap.size + 1, 0, none⟩ 1 1 [pT wr.heap.size] (by simp [Act.eval, Act.put]) rfl (one_at BS.out) (by simp [pT, Value.oneCell']) (by have := HN.out; have := HS.out; unfold maxLen; omega) (by have := HN.out; omega) ?_) | fail)
      intro A2 c2 w6 hR6 hG6 hk6
      have hbk := hG6.block w.heap.size (by have := HS.out.2.1; simp; omega) HS.out.1
      have c7 := (World.cell?_of_block (a := ⟨w.heap.size, 1, none⟩) hbk).trans D1.out
      have f7 := (World.frozen?_of_block (a := ⟨w.heap.size, 1, none⟩) hbk).trans ((World.frozen?_of_block (a := ⟨w.heap.size, 1, none⟩) (HB5.out.block w.heap.size HS.out.2.1)).trans HS.out.2.2.2)
      have HR6 := Aside0.mk hR6
      have HG6 := Aside0.mk hG6
      have HK6 := Aside0.mk hk6
      clear hR6 hG6 hk6 hbk c1
      go_wp2
      go_roundg (n - (i + 1))
      case measure => omega
      case rel =>
        refine ⟨i + 1, by omega, by omega, by rw [W3.out], ⟨?_⟩, ⟨?_⟩⟩
        · rw [List.replicate_succ']
          exact HC.out wr.heap.size _ w6 A2 c2 HI.out HB5.out HR6.out HG6.out (by simpa using HK6.out)
        · exact (HG6.out.to_below (below_then HB.out HB.out.size HB5.out) (by have := HB.out.size; simp; omega) HS.out.2.2.1).setCell (p := ⟨w.heap.size, 1, none⟩) (Nat.le_refl _) (.slice A2 (i + 1) c2)
    · have ei : i = n := by omega
      subst ei
      have t1 : ¬ (i : Int) < i := by omega
      clear a1 a2 a3 a4
      go_wp2
      go_ret2
      exact ⟨rfl, HT.out, HB.out⟩
def TwT (X : Nat → Prop) (w0 w : World) (a b : Nat) (ls : List LS) (f : At) (N : Nat) (ls' : List LS) (most : Int) : Prop :=
  ∃ FA FB : Nat → Prop, IsTab w a FA ls most N f ∧ IsTR w b FB ls' most ∧ (∀ k, FA k → w0.heap.size ≤ k ∧ k < w.heap.size ∧ ¬ X k) ∧ (∀ k, FB k → w0.heap.size ≤ k ∧ k < w.heap.size ∧ ¬ X k) ∧ (∀ k, FA k → FB k → False) ∧ (∀ k, X k → k < w.heap.size) ∧ Below w0.heap.size w0 w
section
variable {X : Nat → Prop} {w0 w w' : World} {a b N N' : Nat} {ls ls' ln : List LS} {f fn : At} {most : Int}
theorem TwT.bw (t : TwT X w0 w a b ls f N ls' most) : Below w0.heap.size w0 w := by obtain ⟨_, _, _, _, _, _, _, _, h7⟩ := t; exact h7
theorem TwT.below (t : TwT X w0 w a b ls f N ls' most) (hb : Below w.heap.size w w') : TwT X w0 w' a b ls f N ls' most := by
  obtain ⟨FA, FB, h1, h2, h3, h4, h5, h6, h7⟩ := t
  have s := hb.size
  exact ⟨FA, FB, h1.below hb, h2.below hb, fun k hk => ⟨(h3 k hk).1, by have := (h3 k hk).2.1; omega, (h3 k hk).2.2⟩, fun k hk => ⟨(h4 k hk).1, by have := (h4 k hk).2.1; omega, (h4 k hk).2.2⟩, h5, fun k hk => by have := h6 k hk; omega, below_then h7 h7.size hb⟩
theorem TwT.more (t : TwT X w0 w a b ls f N ls' most) (hb : Below w.heap.size w w') {Y : Nat → Prop} (hY : ∀ k, Y k → w.heap.size ≤ k ∧ k < w'.heap.size) : TwT (fun k => X k ∨ Y k) w0 w' a b ls f N ls' most := by
  obtain ⟨FA, FB, h1, h2, h3, h4, h5, h6, h7⟩ := t
  have s := hb.size
  exact ⟨FA, FB, h1.below hb, h2.below hb, fun k hk => ⟨(h3 k hk).1, by have := (h3 k hk).2.1; omega, fun hx => hx.elim (h3 k hk).2.2 (fun hy => by have := hY k hy; have := (h3 k hk).2.1; omega)⟩, fun k hk => ⟨(h4 k hk).1, by have := (h4 k hk).2.1; omega, fun hx => hx.elim (h4 k hk).2.2 (fun hy => by have := hY k hy; have := (h4 k hk).2.1; omega)⟩, h5, fun k hk => hk.elim (fun hx => by have := h6 k hx; omega) (fun hy => (hY k hy).2), below_then h7 h7.size hb⟩
theorem TwT.less {Y : Nat → Prop} (t : TwT X w0 w a b ls f N ls' most) (hY : ∀ k, Y k → X k) : TwT Y w0 w a b ls f N ls' most := by
  obtain ⟨FA, FB, h1, h2, h3, h4, h5, h6, h7⟩ := t
  exact ⟨FA, FB, h1, h2, fun k hk => ⟨(h3 k hk).1, (h3 k hk).2.1, fun hy => (h3 k hk).2.2 (hY k hy)⟩, fun k hk => ⟨(h4 k hk).1, (h4 k hk).2.1, fun hy => (h4 k hk).2.2 (hY k hy)⟩, h5, fun k hk => h6 k (hY k hk), h7⟩
theorem TwT.moreN (t : TwT X w0 w a b ls f N ls' most) (hn : N ≤ N') : TwT X w0 w a b ls f N' ls' most := by
  obtain ⟨FA, FB, h1, h2, h3, h4, h5, h6, h7⟩ := t
  obtain ⟨sA, sc, m, bs, G, i1, i2, i3, i4, i5⟩ := h1
  exact ⟨FA, FB, ⟨sA, sc, m, bs, G, i1, i2, i3, i4.more hn, i5⟩, h2, h3, h4, h5, h6, h7⟩
theorem TwT.ta (t : TwT X w0 w a b ls f N ls' most) : ∃ F, IsTab w a F ls most N f := by obtain ⟨FA, FB, h1, _⟩ := t; exact ⟨FA, h1⟩
theorem TwT.tb (t : TwT X w0 w a b ls f N ls' most) : ∃ F, IsTR w b F ls' most := by obtain ⟨FA, FB, _, h2, _⟩ := t; exact ⟨FB, h2⟩
theorem TwT.stepA {FA FB : Nat → Prop} (h2 : IsTR w b FB ls' most) (h3 : ∀ k, FA k → w0.heap.size ≤ k ∧ k < w.heap.size ∧ ¬ X k) (h4 : ∀ k, FB k → w0.heap.size ≤ k ∧ k < w.heap.size ∧ ¬ X k) (h5 : ∀ k, FA k → FB k → False) (h6 : ∀ k, X k → k < w.heap.size) (h7 : Below w0.heap.size w0 w)
    {G : Nat → Prop} (hI : IsTab w' a G ln most N' fn) (hG : ∀ k, G k → FA k ∨ w.heap.size ≤ k) (hg : Grew FA w w') : TwT X w0 w' a b ln fn N' ls' most ∧ Grew (fun k => ¬ X k) w w' := by
  have i1 := hI.mono (F' := fun k => G k ∧ k < w'.heap.size) (fun k hk hg => ⟨hg, hk⟩)
  have s := hg.size
  refine ⟨⟨_, FB, i1, h2.move (fun k hk hl => hg.block k hl (fun h => h5 k h hk)), fun k hk => ?_, fun k hk => ⟨(h4 k hk).1, by have := (h4 k hk).2.1; omega, (h4 k hk).2.2⟩, fun k hk hk2 => ?_, fun k hk => by have := h6 k hk; omega, hg.to_below h7 h7.size (fun k hk => (h3 k hk).1)⟩, hg.mono (fun k _ hk => (h3 k hk).2.2)⟩
  · rcases hG k hk.1 with h9 | h9
    · exact ⟨(h3 k h9).1, hk.2, (h3 k h9).2.2⟩
    · exact ⟨Nat.le_trans h7.size h9, hk.2, fun hx => by have := h6 k hx; omega⟩
  · rcases hG k hk.1 with h9 | h9
    · exact h5 k h9 hk2
    · have := (h4 k hk2).2.1; omega
theorem TwT.stepB {FA FB : Nat → Prop} (h1 : IsTab w a FA ls most N f) (h3 : ∀ k, FA k → w0.heap.size ≤ k ∧ k < w.heap.size ∧ ¬ X k) (h4 : ∀ k, FB k → w0.heap.size ≤ k ∧ k < w.heap.size ∧ ¬ X k) (h5 : ∀ k, FA k → FB k → False) (h6 : ∀ k, X k → k < w.heap.size) (h7 : Below w0.heap.size w0 w)
    {G : Nat → Prop} (hI : IsTR w' b G ln most) (hG : ∀ k, G k → FB k ∨ w.heap.size ≤ k) (hg : Grew FB w w') : TwT X w0 w' a b ls f N ln most ∧ Grew (fun k => ¬ X k) w w' := by
  have i1 := hI.mono (F' := fun k => G k ∧ k < w'.heap.size) (fun k hk hg => ⟨hg, hk⟩)
  have s := hg.size
  refine ⟨⟨FA, _, h1.move (fun k hk hl => hg.block k hl (fun h => h5 k hk h)), i1, fun k hk => ⟨(h3 k hk).1, by have := (h3 k hk).2.1; omega, (h3 k hk).2.2⟩, fun k hk => ?_, fun k hk hk2 => ?_, fun k hk => by have := h6 k hk; omega, hg.to_below h7 h7.size (fun k hk => (h4 k hk).1)⟩, hg.mono (fun k _ hk => (h4 k hk).2.2)⟩
  · rcases hG k hk.1 with h9 | h9
    · exact ⟨(h4 k h9).1, hk.2, (h4 k h9).2.2⟩
    · exact ⟨Nat.le_trans h7.size h9, hk.2, fun hx => by have := h6 k hx; omega⟩
  · rcases hG k hk2.1 with h9 | h9
    · exact h5 k hk h9
    · have := (h3 k hk).2.1; omega
theorem AskTA (t : TwT X w0 w a b ls f N ls' most) (hs : Small ls) (hN : N ≤ 1000000) (who node m : Int) (hw : ok64 who) :
    Calls Tryz.prog 9 #[.pointer (some ⟨a, 0, none⟩), .int .i64 who, .int .i64 node, .int .i64 m] w fun e w' => e = .returned (.tuple #[.int .i64 (askT ls most f who node m).1, .int .i64 (askT ls most f who node m).2.1]) ∧
      TwT X w0 w' a b (askT ls most f who node m).2.2.1 (askT ls most f who node m).2.2.2 (N + 1) ls' most ∧ Grew (fun k => ¬ X k) w w' := by
  obtain ⟨FA, FB, h1, h2, h3, h4, h5, h6, h7⟩ := t
  refine (AskT_ h1 hs hN who node m hw).mono ?_
  rintro e w' ⟨he, hI, hg⟩
  exact ⟨he, TwT.stepA h2 h3 h4 h5 h6 h7 hI (fun k hk => hk) hg⟩
theorem DropTA (t : TwT X w0 w a b ls f N ls' most) (h0 : 0 < ls.length) (hl : ls.length ≤ 10000) (hm : ∀ i, mS (ls.getD i zL) ≤ 900000) (who : Int) (hw : ok64 who) (hok : ∀ x ∈ dropO ls who 0, ok64 x) :
    Calls Tryz.prog 11 #[.pointer (some ⟨a, 0, none⟩), .int .i64 who] w fun e w' => ∃ A' c', e = .returned (.slice A' (dropO ls who 0).length c') ∧ Row w' 3 1 A' (dropO ls who 0).length c' (ints (dropO ls who 0)) ∧
      TwT (fun k => X k ∨ blk A' k) w0 w' a b (dropL ls who 0) (dropF ls f who) N ls' most ∧ Grew (fun k => ¬ X k) w w' := by
  obtain ⟨FA, FB, h1, h2, h3, h4, h5, h6, h7⟩ := t
  refine (DropT_ h1 h0 hl hm who hw hok).mono ?_
  rintro e w' ⟨A', c', he, hR, hk, hI, hg⟩
  have j1 := hI.mono (F' := fun k => ((FA k ∨ w.heap.size ≤ k) ∧ ¬ blk A' k) ∧ k < w'.heap.size) (fun k hk hg => ⟨hg, hk⟩)
  have s := hg.size
  refine ⟨A', c', he, hR, ⟨_, FB, j1, h2.move (fun k hk' hl => hg.block k hl (fun h => h5 k h hk')), fun k hk' => ⟨?_, hk'.2, fun hx => hx.elim (fun hx => ?_) (fun hb => hk'.1.2 hb)⟩, fun k hk' => ⟨(h4 k hk').1, by have := (h4 k hk').2.1; omega, fun hx => hx.elim (h4 k hk').2.2 (fun hb => by have := hk k hb; have := (h4 k hk').2.1; omega)⟩, fun k hk' hk2 => ?_, fun k hx => hx.elim (fun hx => by have := h6 k hx; omega) (fun hb => hR.lt hb), hg.to_below h7 h7.size (fun k hk => (h3 k hk).1)⟩, hg.mono (fun k _ hk => (h3 k hk).2.2)⟩
  · rcases hk'.1.1 with h9 | h9
    · exact (h3 k h9).1
    · exact Nat.le_trans h7.size h9
  · rcases hk'.1.1 with h9 | h9
    · exact (h3 k h9).2.2 hx
    · have := h6 k hx; omega
  · rcases hk'.1.1 with h9 | h9
    · exact h5 k h9 hk2
    · have := (h4 k hk2).2.1; omega
theorem AskTB (t : TwT X w0 w a b ls f N ls' most) (hs : Small ls') (hv : LInv ls') (who node m : Int) {f' : At} (hf : fW ls' = f') :
    Calls Tryz.prog 10 #[.pointer (some ⟨b, 0, none⟩), .int .i64 who, .int .i64 node, .int .i64 m] w fun e w' => e = .returned (.tuple #[.int .i64 (askT ls' most f' who node m).1, .int .i64 (askT ls' most f' who node m).2.1]) ∧
      TwT X w0 w' a b ls f N (askT ls' most f' who node m).2.2.1 most ∧ Grew (fun k => ¬ X k) w w' := by
  subst hf
  obtain ⟨FA, FB, h1, h2, h3, h4, h5, h6, h7⟩ := t
  refine (AskTR_ h2 hs hv who node m).mono ?_
  rintro e w' ⟨he, hI, hg⟩
  exact ⟨he, TwT.stepB h1 h3 h4 h5 h6 h7 hI (fun k hk => hk) hg⟩
theorem DropTB (t : TwT X w0 w a b ls f N ls' most) (hl : ls'.length ≤ 10000) (hm : ∀ i, mS (ls'.getD i zL) ≤ 900000) (hv : LInv ls') (who : Int) :
    Calls Tryz.prog 12 #[.pointer (some ⟨b, 0, none⟩), .int .i64 who] w fun e w' => ∃ A' c', e = .returned (.slice A' (dropO ls' who 0).length c') ∧ Row w' 3 1 A' (dropO ls' who 0).length c' (ints (dropO ls' who 0)) ∧
      TwT X w0 w' a b ls f N (dropL ls' who 0) most ∧ Grew (fun k => ¬ X k) w w' := by
  obtain ⟨FA, FB, h1, h2, h3, h4, h5, h6, h7⟩ := t
  refine (DropTR_ h2 hl hm hv who).mono ?_
  rintro e w' ⟨A', c', he, hR, hk, hI, hg⟩
  obtain ⟨t2, g2⟩ := TwT.stepB (a := a) h1 h3 h4 h5 h6 h7 hI (fun k hk => hk.1) hg
  exact ⟨A', c', he, hR, t2, g2⟩
end
end Go.Proofs.YtkceadieigpolaaGreat.Ln
