import Derived.Test.YtfpnadalfopmcaaLC
import Derived.Test.YtfpnadalfopmcaaLr1
/- The document's lane, in plain Lean. -/
namespace Go.Proofs.Ytfpnadalfopmcaa.Ln
open Go.RowKit Go.Proofs.YtfpnadalfopmcaaW.PrintWords Go.Proofs.YtfpnadalfopmcaaW.PrintLast Go.Proofs.YtfpnadalfopmcaaW.PrintMore Go.Proofs.Ytfpnadalfopmcaa.PMd
set_option linter.unusedVariables false
set_option linter.unusedSimpArgs false
/-! ### the document's lane, in plain Lean -/
theorem put_hit {hs : List E} {who m : Int} (ha : Asc hs) {k : Nat} (hk : k < hs.length) (h : (hs.getD k zE).f0 = who) : grantsIn hs who m = hs.set k ⟨(hs.getD k zE).f0, m⟩ := by
  have hget : ∀ i, (hi : i < hs.length) → hs.getD i zE = hs[i] := fun i hi => by rw [List.getD_eq_getElem?_getD, List.getElem?_eq_getElem hi]; rfl
  have hix : ix (fun x => x.f0 == who) hs = (k : Int) := ix_hit hk (by rw [h]; simp) (fun i hi => by
    have hlt := List.pairwise_iff_getElem.1 ha i k (by omega) hk hi
    rw [hget i (by omega)]
    rw [hget k hk] at h
    exact beq_eq_false_iff_ne.2 (by omega))
  unfold grantsIn
  rw [hix, if_pos (by omega), Int.toNat_natCast]
theorem put_miss {hs : List E} {who m : Int} (ha : Asc hs) {k : Nat} (hk : k ≤ hs.length) (h1 : ∀ i, i < k → (hs.getD i zE).f0 < who) (h2 : k < hs.length → who < (hs.getD k zE).f0) : grantsIn hs who m = hs.take k ++ ⟨who, m⟩ :: hs.drop k := by
  have hget : ∀ i, (hi : i < hs.length) → hs.getD i zE = hs[i] := fun i hi => by rw [List.getD_eq_getElem?_getD, List.getElem?_eq_getElem hi]; rfl
  have hgt : ∀ i, k ≤ i → (hi : i < hs.length) → who < hs[i].f0 := fun i hki hi => by
    have h3 := h2 (by omega)
    rw [hget k (by omega)] at h3
    by_cases e : k = i
    · subst e; exact h3
    · have := List.pairwise_iff_getElem.1 ha k i (by omega) hi (by omega)
      omega
  have hix : ix (fun x => x.f0 == who) hs = -1 := ix_miss (fun i hi => by
    rw [hget i hi]
    apply beq_eq_false_iff_ne.2
    by_cases hki : i < k
    · have := h1 i hki; rw [hget i hi] at this; omega
    · have := hgt i (by omega) hi; omega)
  unfold grantsIn
  rw [hix, if_neg (by omega)]
  unfold insE
  have e : hs = hs.take k ++ hs.drop k := (List.take_append_drop k hs).symm
  have ht : ∀ y ∈ hs.take k, decide (y.f0 < who) = true := fun y hy => by
    obtain ⟨i, hi, rfl⟩ := List.mem_iff_getElem.1 hy
    rw [List.length_take] at hi
    rw [List.getElem_take]
    have := h1 i (by omega)
    rw [hget i (by omega)] at this
    exact decide_eq_true this
  have hd : ∀ y ∈ hs.drop k, decide (y.f0 < who) = false := fun y hy => by
    obtain ⟨i, hi, rfl⟩ := List.mem_iff_getElem.1 hy
    rw [List.length_drop] at hi
    rw [List.getElem_drop]
    exact decide_eq_false (by have := hgt (k + i) (by omega) (by omega); omega)
  have hdw : ∀ l : List E, (∀ y ∈ l, decide (y.f0 < who) = false) → l.takeWhile (fun y => decide (y.f0 < who)) = [] ∧ l.dropWhile (fun y => decide (y.f0 < who)) = l := fun l hl => by
    cases l with
    | nil => exact ⟨rfl, rfl⟩
    | cons y l =>
      have := hl y (by simp)
      exact ⟨by rw [List.takeWhile_cons_of_neg (by rw [this]; decide)], by rw [List.dropWhile_cons_of_neg (by rw [this]; decide)]⟩
  have htw : (hs.take k ++ hs.drop k).takeWhile (fun y => decide (y.f0 < who)) = hs.take k ++ (hs.drop k).takeWhile (fun y => decide (y.f0 < who)) := List.takeWhile_append_of_pos ht
  have htd : (hs.take k ++ hs.drop k).dropWhile (fun y => decide (y.f0 < who)) = (hs.drop k).dropWhile (fun y => decide (y.f0 < who)) := List.dropWhile_append_of_pos ht
  rw [List.take_append_drop] at htw htd
  rw [htw, htd, (hdw _ hd).1, (hdw _ hd).2, List.append_nil]
theorem count_front {α : Type} {P : α → Bool} : ∀ {l : List α}, l.Pairwise (fun a b => P b = true → P a = true) → l.countP P = (l.takeWhile P).length
  | [], _ => rfl
  | a :: l, h => by
    have h1 := List.pairwise_cons.1 h
    by_cases ha : P a = true
    · rw [List.countP_cons_of_pos ha, List.takeWhile_cons_of_pos ha, List.length_cons, count_front h1.2]
    · rw [List.countP_cons_of_neg ha, List.takeWhile_cons_of_neg ha]
      show _ = 0
      rw [List.countP_eq_zero]
      intro b hb hPb
      exact ha (h1.1 b hb hPb)
/-- Rising, each once: what insertion makes. -/
def insI (l : List Int) (x : Int) : List Int := if x ∈ l then l else (l.filter fun y => decide (y < x)) ++ x :: l.filter fun y => decide (x < y)
def sortR (l : List Int) : List Int := l.foldl insI []
def Ris (l : List Int) : Prop := l.Pairwise (· < ·)
theorem insI_mem (l : List Int) (x y : Int) : y ∈ insI l x ↔ y ∈ l ∨ y = x := by
  unfold insI
  split
  · rename_i h
    exact ⟨.inl, fun h2 => h2.elim id (fun e => e ▸ h)⟩
  · simp only [List.mem_append, List.mem_filter, List.mem_cons, decide_eq_true_eq]
    constructor
    · rintro (⟨h, _⟩ | rfl | ⟨h, _⟩)
      · exact .inl h
      · exact .inr rfl
      · exact .inl h
    · rintro (h | rfl)
      · rename_i hx
        rcases Int.lt_trichotomy y x with h3 | h3 | h3
        · exact .inl ⟨h, h3⟩
        · exact absurd (h3 ▸ h) hx
        · exact .inr (.inr ⟨h, h3⟩)
      · exact .inr (.inl rfl)
theorem insI_ris {l : List Int} (h : Ris l) (x : Int) : Ris (insI l x) := by
  unfold insI
  split
  · exact h
  · refine List.pairwise_append.2 ⟨List.Pairwise.filter _ h, List.pairwise_cons.2 ⟨fun y hy => ?_, List.Pairwise.filter _ h⟩, fun a ha b hb => ?_⟩
    · have := (List.mem_filter.1 hy).2; simpa using this
    · have h1 : a < x := by have := (List.mem_filter.1 ha).2; simpa using this
      rcases List.mem_cons.1 hb with rfl | hb
      · exact h1
      · have h2 : x < b := by have := (List.mem_filter.1 hb).2; simpa using this
        omega
theorem sortR_go : ∀ (l a : List Int), Ris a → Ris (l.foldl insI a) ∧ ∀ y, y ∈ l.foldl insI a ↔ y ∈ a ∨ y ∈ l
  | [], a, h => ⟨h, fun y => by simp⟩
  | x :: l, a, h => by
    obtain ⟨h1, h2⟩ := sortR_go l (insI a x) (insI_ris h x)
    refine ⟨h1, fun y => ?_⟩
    rw [List.foldl_cons, h2 y, insI_mem]
    simp only [List.mem_cons, or_assoc]
theorem ris_unique {l k : List Int} (h1 : Ris l) (h2 : Ris k) (h : ∀ y, y ∈ l ↔ y ∈ k) : l = k := by
  have n1 : l.Nodup := h1.imp (fun h => by omega)
  have n2 : k.Nodup := h2.imp (fun h => by omega)
  have hp : l.Perm k := (List.perm_ext_iff_of_nodup n1 n2).2 h
  exact List.Perm.eq_of_pairwise (le := fun a b : Int => a < b) (fun a b _ _ h1 h2 => by omega) h1 h2 hp
/-- The document's Sorted, by what it holds. -/
theorem sortR_is {l k : List Int} (hk : Ris k) (h : ∀ y, y ∈ k ↔ y ∈ l) : sortR l = k := by
  obtain ⟨h1, h2⟩ := sortR_go l [] List.Pairwise.nil
  exact ris_unique h1 hk (fun y => by rw [show sortR l = l.foldl insI [] from rfl, h2 y, h y]; simp)
/-- The document's loop finds the place from behind. -/
theorem insI_at {l : List Int} (h : Ris l) {x : Int} (hx : x ∉ l) {k : Nat} (hk : k ≤ l.length) (h1 : ∀ i, (hi : i < l.length) → k ≤ i → x < l[i]) (h2 : k = 0 ∨ ∃ hi : k - 1 < l.length, l[k - 1] ≤ x) : insI l x = l.take k ++ x :: l.drop k := by
  unfold insI
  rw [if_neg hx]
  have hlow : ∀ i, (hi : i < l.length) → i < k → l[i] < x := fun i hi hik => by
    rcases h2 with h2 | ⟨hi2, h2⟩
    · omega
    · have hne : l[k - 1] ≠ x := fun e => hx (e ▸ List.getElem_mem hi2)
      by_cases e : i = k - 1
      · subst e; omega
      · have := List.pairwise_iff_getElem.1 h i (k - 1) hi hi2 (by omega)
        omega
  have e : l = l.take k ++ l.drop k := (List.take_append_drop k l).symm
  have f1 : l.filter (fun y => decide (y < x)) = l.take k := by
    conv => lhs; rw [e]
    rw [List.filter_append, List.filter_eq_self.2 (fun y hy => by
      obtain ⟨i, hi, rfl⟩ := List.mem_iff_getElem.1 hy
      rw [List.length_take] at hi
      rw [List.getElem_take]
      exact decide_eq_true (hlow i (by omega) (by omega))), List.filter_eq_nil_iff.2 (fun y hy => by
      obtain ⟨i, hi, rfl⟩ := List.mem_iff_getElem.1 hy
      rw [List.length_drop] at hi
      rw [List.getElem_drop]
      have := h1 (k + i) (by omega) (by omega)
      simp; omega), List.append_nil]
  have f2 : l.filter (fun y => decide (x < y)) = l.drop k := by
    conv => lhs; rw [e]
    rw [List.filter_append, List.filter_eq_nil_iff.2 (fun y hy => by
      obtain ⟨i, hi, rfl⟩ := List.mem_iff_getElem.1 hy
      rw [List.length_take] at hi
      rw [List.getElem_take]
      have := hlow i (by omega) (by omega)
      simp; omega), List.nil_append, List.filter_eq_self.2 (fun y hy => by
      obtain ⟨i, hi, rfl⟩ := List.mem_iff_getElem.1 hy
      rw [List.length_drop] at hi
      rw [List.getElem_drop]
      exact decide_eq_true (h1 (k + i) (by omega) (by omega)))]
  rw [f1, f2]
end Go.Proofs.Ytfpnadalfopmcaa.Ln
