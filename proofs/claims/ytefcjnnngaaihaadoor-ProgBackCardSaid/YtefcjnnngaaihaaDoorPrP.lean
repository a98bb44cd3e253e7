import Derived.Test.YtefcjnnngaaihaaDoorPr7
import Derived.Test.YtefcjnnngaaihaaDoorPkP
/- A program in memory that a call has made: stores of whole instructions. -/
namespace Go.Proofs.YtefcjnnngaaihaaDoor.Pg
open Go.RowKit Go.Proofs.Pg Go.Proofs.YtefcjnnngaaihaaDoor.Ln Go.Proofs.YtefcjnnngaaihaaDoorW.PrintWords Go.Proofs.YtefcjnnngaaihaaDoorW.PrintWords.Kd Go.Proofs.YtefcjnnngaaihaaDoor.PPg
set_option linter.unusedVariables false
set_option linter.unusedSimpArgs false
def set5 (vs : List Value) (p : Nat) (a b c d e : Value) : List Value := ((((vs.set (p + 0) a).set (p + 1) b).set (p + 2) c).set (p + 3) d).set (p + 4) e
theorem set5_len (vs : List Value) (p : Nat) (a b c d e : Value) : (set5 vs p a b c d e).length = vs.length := by simp [set5]
theorem set5_at (vs : List Value) (p : Nat) (a b c d e : Value) (i : Nat) (h : p + 5 ≤ vs.length) : (set5 vs p a b c d e)[i]? = if i = p then some a else if i = p + 1 then some b else if i = p + 2 then some c else if i = p + 3 then some d else if i = p + 4 then some e else vs[i]? := by
  unfold set5
  simp only [List.getElem?_set, List.length_set]
  by_cases h4 : i = p + 4
  · subst h4; simp; omega
  by_cases h3 : i = p + 3
  · subst h3; simp; omega
  by_cases h2 : i = p + 2
  · subst h2; simp; omega
  by_cases h1 : i = p + 1
  · subst h1; simp; omega
  by_cases h0 : i = p
  · subst h0; simp; omega
  rw [if_neg (fun h => h4 h.symm), if_neg (fun h => h3 h.symm), if_neg (fun h => h2 h.symm), if_neg (fun h => h1 h.symm), if_neg (fun h => h0 (by omega)), if_neg h0, if_neg h1, if_neg h2, if_neg h3, if_neg h4]
theorem set5_take (vs : List Value) (p : Nat) (a b c d e : Value) (h : p + 5 ≤ vs.length) : ((set5 vs p a b c d e).drop p).take 5 = [a, b, c, d, e] := by
  apply List.ext_getElem?
  intro i
  rw [List.getElem?_take]
  by_cases hi : i < 5
  · rw [if_pos hi, List.getElem?_drop, set5_at vs p a b c d e (p + i) h]
    rcases (by omega : i = 0 ∨ i = 1 ∨ i = 2 ∨ i = 3 ∨ i = 4) with e | e | e | e | e <;> subst e <;> simp
  · rw [if_neg hi, List.getElem?_eq_none (by simp; omega)]
theorem set5_other (vs : List Value) (p q : Nat) (a b c d e : Value) (h : p + 5 ≤ vs.length) (hq : q + 5 ≤ p ∨ p + 5 ≤ q) : ((set5 vs p a b c d e).drop q).take 5 = (vs.drop q).take 5 := by
  apply List.ext_getElem?
  intro i
  rw [List.getElem?_take, List.getElem?_take]
  by_cases hi : i < 5
  · rw [if_pos hi, if_pos hi, List.getElem?_drop, List.getElem?_drop, set5_at vs p a b c d e (q + i) h]
    rw [if_neg (by omega), if_neg (by omega), if_neg (by omega), if_neg (by omega), if_neg (by omega)]
  · rw [if_neg hi, if_neg hi]
/-- A program in a block of its own. -/
def Own (w W : World) (xs : List In) (g off c : Nat) : Prop :=
  w.heap.size ≤ g ∧ Below w.heap.size w W ∧ ∃ vs : List Value, Row W 26 5 (some ⟨g, off, none⟩) xs.length c vs ∧
    ∀ j x, xs[j]? = some x → ∃ A5 c5, (vs.drop (j * 5)).take 5 = cellsI x A5 c5 ∧ Row W 3 1 A5 x.l.length c5 (vi x.l)
theorem Own.of {w W : World} {xs : List In} {v : Value} (h : OutP w W xs v) (hn : 0 < xs.length) : ∃ g off c, v = .slice (some ⟨g, off, none⟩) xs.length c ∧ Own w W xs g off c := by
  obtain ⟨A, c, rfl, vs, h1, h2, h3, h4⟩ := h
  obtain ⟨g, off, cur, rfl, _⟩ := h1.at_ hn
  exact ⟨g, off, c, rfl, h2 g ⟨_, rfl, rfl⟩, h3, vs, h1, h4⟩
theorem Own.out {w W : World} {xs : List In} {g off c : Nat} (h : Own w W xs g off c) : OutP w W xs (.slice (some ⟨g, off, none⟩) xs.length c) := by
  obtain ⟨h1, h2, vs, h3, h4⟩ := h
  exact ⟨_, c, rfl, vs, h3, fun k ⟨a, e, e2⟩ => by cases e; exact e2 ▸ h1, h2, h4⟩
theorem Own.after {w W W' : World} {xs : List In} {g off c : Nat} (h : Own w W xs g off c) (hb : Below W.heap.size W W') : Own w W' xs g off c := by
  obtain ⟨h1, h2, vs, h3, h4⟩ := h
  refine ⟨h1, h2.trans (Below.low hb h2.size), vs, h3.below hb, fun j x hx => ?_⟩
  obtain ⟨A5, c5, e, r⟩ := h4 j x hx
  exact ⟨A5, c5, e, r.below hb⟩
theorem Own.C {w W : World} {xs : List In} {g off c : Nat} (h : Own w W xs g off c) : xs.length ≤ c ∧ Kd.C k26 W (some ⟨g, off, none⟩) xs.length (xs.map toS) := by
  obtain ⟨A, c2, e, h1, h2⟩ := h.out.C
  cases e
  exact ⟨h1, h2⟩
/-- The five cells of an instruction. -/
theorem Own.cells {w W : World} {xs : List In} {g off c : Nat} (h : Own w W xs g off c) (i : Nat) (hi : i < xs.length) : ∃ v0 v1 v2 v3 v4,
    (W.cell? ⟨g, off + i * 5, none⟩ = some v0 ∧ W.cell? ⟨g, off + i * 5 + 1, none⟩ = some v1 ∧ W.cell? ⟨g, off + i * 5 + 2, none⟩ = some v2 ∧ W.cell? ⟨g, off + i * 5 + 3, none⟩ = some v3 ∧ W.cell? ⟨g, off + i * 5 + 4, none⟩ = some v4) ∧
    ∀ j, W.frozen? ⟨g, j, none⟩ = false := by
  obtain ⟨h1, h2, vs, h3, h4⟩ := h
  obtain ⟨A5, c5, e, r⟩ := h4 i xs[i] (List.getElem?_eq_getElem hi)
  obtain ⟨g2, off2, cur, e2, hg, _, hc⟩ := h3.at_ (by omega)
  cases e2
  have hv : ∀ k v, k < 5 → (cellsI xs[i] A5 c5)[k]? = some v → W.cell? ⟨g, off + (i * 5 + k), none⟩ = some v := fun k v hk hv => (hc (i * 5 + k) v (by
    rw [← e, List.getElem?_take, if_pos hk, List.getElem?_drop] at hv; exact hv)).1
  exact ⟨_, _, _, _, _, ⟨hv 0 _ (by omega) rfl, hv 1 _ (by omega) rfl, hv 2 _ (by omega) rfl, hv 3 _ (by omega) rfl, hv 4 _ (by omega) rfl⟩, fun j => frozen_of_row W g j _ _ hg⟩
theorem Own.put {w W : World} {xs : List In} {g off c : Nat} (h : Own w W xs g off c) (i : Nat) (hi : i < xs.length) (x : In) (A5 : Option Addr) (c5 : Nat) (h5 : Row W 3 1 A5 x.l.length c5 (vi x.l)) :
    Own w (((((W.setCell ⟨g, off + i * 5, none⟩ (.int .i64 x.k)).setCell ⟨g, off + i * 5 + 1, none⟩ (.int .i64 x.a)).setCell ⟨g, off + i * 5 + 2, none⟩ (.int .i64 x.b)).setCell ⟨g, off + i * 5 + 3, none⟩ (.int .i64 x.c)).setCell ⟨g, off + i * 5 + 4, none⟩ (.slice A5 x.l.length c5)) (xs.set i x) g off c := by
  obtain ⟨h1, h2, vs, h3, h4⟩ := h
  have hl := h3.1
  have hi5 : i * 5 + 5 ≤ vs.length := by omega
  have r0 := h3.put (i * 5 + 0) (by omega) (.int .i64 x.k)
  have r1 := r0.put (i * 5 + 1) (by rw [List.length_set]; omega) (.int .i64 x.a)
  have r2 := r1.put (i * 5 + 2) (by rw [List.length_set, List.length_set]; omega) (.int .i64 x.b)
  have r3 := r2.put (i * 5 + 3) (by rw [List.length_set, List.length_set, List.length_set]; omega) (.int .i64 x.c)
  have r4 := r3.put (i * 5 + 4) (by rw [List.length_set, List.length_set, List.length_set, List.length_set]; omega) (.slice A5 x.l.length c5)
  have hin : ∀ {A6 : Option Addr} {n6 c6 : Nat} {v6 : List Value}, Row W 3 1 A6 n6 c6 v6 → Row (((((W.setCell ⟨g, off + i * 5, none⟩ (.int .i64 x.k)).setCell ⟨g, off + i * 5 + 1, none⟩ (.int .i64 x.a)).setCell ⟨g, off + i * 5 + 2, none⟩ (.int .i64 x.b)).setCell ⟨g, off + i * 5 + 3, none⟩ (.int .i64 x.c)).setCell ⟨g, off + i * 5 + 4, none⟩ (.slice A5 x.l.length c5)) 3 1 A6 n6 c6 v6 := fun r =>
    have hn : ¬ Ln.blk _ g := fun hk => rows_apart h3 r g hk ⟨_, rfl, rfl⟩
    ((((r.set (p := ⟨g, _, none⟩) hn _).set (p := ⟨g, _, none⟩) hn _).set (p := ⟨g, _, none⟩) hn _).set (p := ⟨g, _, none⟩) hn _).set (p := ⟨g, _, none⟩) hn _
  refine ⟨h1, ((((h2.setCell (p := ⟨g, _, none⟩) h1 _).setCell (p := ⟨g, _, none⟩) h1 _).setCell (p := ⟨g, _, none⟩) h1 _).setCell (p := ⟨g, _, none⟩) h1 _).setCell (p := ⟨g, _, none⟩) h1 _,
    set5 vs (i * 5) (.int .i64 x.k) (.int .i64 x.a) (.int .i64 x.b) (.int .i64 x.c) (.slice A5 x.l.length c5), by rw [List.length_set]; exact r4, fun j y hy => ?_⟩
  by_cases hj : j = i
  · subst hj
    rw [List.getElem?_set_self (by omega)] at hy
    obtain rfl := Option.some.inj hy
    exact ⟨A5, c5, by rw [set5_take _ _ _ _ _ _ _ hi5]; rfl, hin h5⟩
  · rw [List.getElem?_set_ne (by omega)] at hy
    obtain ⟨A6, c6, e, r⟩ := h4 j y hy
    exact ⟨A6, c6, by rw [set5_other _ _ _ _ _ _ _ _ hi5 (by omega)]; exact e, hin r⟩
end Go.Proofs.YtefcjnnngaaihaaDoor.Pg
