import Derived.Test.YtkfhnicojokafaaGreatSb1
import Derived.BigQuiet
/- Machines of hands without programs: every, Over, Quiet, Pick. -/
namespace Go.Proofs.YtkfhnicojokafaaGreat.Co
open Go.RowKit Go.Proofs.YtkfhnicojokafaaGreatW.PrintWords Go.Proofs.YtkfhnicojokafaaGreatW.PrintLast Go.Proofs.YtkfhnicojokafaaGreatW.PrintMore Go.Proofs.YtkfhnicojokafaaGreat.PMd Go.Proofs.YtkfhnicojokafaaGreat.Ln
set_option linter.unusedVariables false
set_option linter.unusedSimpArgs false
/-- A machine at m: a core, hands without programs in the phases phs. -/
def Mach (w0 W : World) (lim m b : Nat) (P : Pl) (F : Nat → Prop) (s : CoreS) (phs : List Int) : Prop :=
  ∃ (hA : Option Addr) (hc : Nat) (gs : List Nat), W.heap[m]? = some (.cells #[.pointer (some ⟨b, 0, none⟩), .slice hA gs.length hc] 48 (0, 0)) ∧ gs.length = phs.length ∧ Row W 40 1 hA gs.length hc (gs.map ptr) ∧
    (∀ (j : Nat) (g : Nat) (ph : Int), gs[j]? = some g → phs[j]? = some ph → IsHand W g b j ph) ∧ IsCore W b P F s ∧ (∀ k, F k → w0.heap.size ≤ k ∧ k < lim) ∧ w0.heap.size ≤ lim ∧ lim ≤ m ∧ (∀ k, blk hA k → lim ≤ k) ∧ (∀ g ∈ gs, lim ≤ g) ∧ Below w0.heap.size w0 W
section
variable {w0 W W' : World} {lim m b : Nat} {P : Pl} {F : Nat → Prop} {s : CoreS} {phs : List Int}
theorem Mach.below (h : Mach w0 W lim m b P F s phs) (hb : Below W.heap.size W W') : Mach w0 W' lim m b P F s phs := by
  obtain ⟨hA, hc, gs, h1, h2, h3, h4, h5, h6, h7, h8, h9, h10, h11⟩ := h
  exact ⟨hA, hc, gs, (hb.block m (Array.getElem?_eq_some_iff.1 h1).1).trans h1, h2, h3.below hb, fun j g ph hg hp => (h4 j g ph hg hp).below hb, h5.below hb, h6, h7, h8, h9, h10, below_then h11 h11.size hb⟩
theorem Mach.drewN (h : Mach w0 W lim m b P F s phs) (n : Nat) : Mach w0 (W.drewN n) lim m b P F s phs := h.below (pw_below_drewN (Below.refl _ _) n)
theorem Mach.open_ (h : Mach w0 W lim m b P F s phs) : ∃ (hA : Option Addr) (hc : Nat) (gs : List Nat), W.cell? ⟨m, 0, none⟩ = some (.pointer (some ⟨b, 0, none⟩)) ∧ W.cell? ⟨m, 1, none⟩ = some (.slice hA phs.length hc) ∧ gs.length = phs.length ∧ Row W 40 1 hA phs.length hc (gs.map ptr) ∧
    (∀ (j : Nat) (g : Nat) (ph : Int), gs[j]? = some g → phs[j]? = some ph → IsHand W g b j ph) := by
  obtain ⟨hA, hc, gs, h1, h2, h3, h4, _⟩ := h
  rw [h2] at h1 h3
  exact ⟨hA, hc, gs, (blk_cell h1 0).trans rfl, (blk_cell h1 1).trans rfl, h2, h3, h4⟩
end
theorem IsCore.own {w : World} {b : Nat} {P : Pl} {F : Nat → Prop} {s : CoreS} (h : IsCore w b P F s) : F b := by
  obtain ⟨_, _, _, _, _, _, _, _, _, h3, _⟩ := h
  exact h3
theorem typed_ne {W : World} {a c : Nat} {x y : Array Value} {t u : TypeId} (h : W.heap[a]? = some (.cells x t (0, 0))) (k : W.heap[c]? = some (.cells y u (0, 0))) (ht : t ≠ u) : a ≠ c := fun e => by
  subst e
  rw [h] at k
  injection k with k
  injection k with _ k
  exact ht k
theorem IsHand.ne {W : World} {g g2 b : Nat} {t t2 ph ph2 : Int} (h : IsHand W g b t ph) (k : IsHand W g2 b t2 ph2) (ht : t ≠ t2) : g ≠ g2 := fun e => by
  subst e
  obtain ⟨l1, m1, h1⟩ := h
  obtain ⟨l2, m2, h2⟩ := k
  rw [h1] at h2
  injection h2 with h2
  injection h2 with h2 _
  have := congrArg (fun a => a[8]?) h2
  simp [handC] at this
  exact ht this
/-- The phase of the hand j becomes q. -/
theorem Mach.to_ {w0 W : World} {lim m b : Nat} {P : Pl} {F : Nat → Prop} {s : CoreS} {phs : List Int} {hA : Option Addr} {hc : Nat} {gs : List Nat} {j g : Nat} (q : Int)
    (h1 : W.heap[m]? = some (.cells #[.pointer (some ⟨b, 0, none⟩), .slice hA gs.length hc] 48 (0, 0))) (h2 : gs.length = phs.length) (h3 : Row W 40 1 hA gs.length hc (gs.map ptr))
    (h4 : ∀ (j : Nat) (g : Nat) (ph : Int), gs[j]? = some g → phs[j]? = some ph → IsHand W g b j ph) (h5 : IsCore W b P F s) (h6 : ∀ k, F k → w0.heap.size ≤ k ∧ k < lim) (h7 : w0.heap.size ≤ lim) (h8 : lim ≤ m) (h9 : ∀ k, blk hA k → lim ≤ k) (h10 : ∀ g ∈ gs, lim ≤ g) (h11 : Below w0.heap.size w0 W)
    (hg : gs[j]? = some g) (hj : j < phs.length) : Mach w0 (W.setCell ⟨g, 10, none⟩ (.int .i64 q)) lim m b P F s (phs.set j q) := by
  have hH := h4 j g phs[j] hg (List.getElem?_eq_getElem hj)
  obtain ⟨lv, mp, hh⟩ := hH
  have hlg : lim ≤ g := h10 g (List.mem_of_getElem? hg)
  have hmg : m ≠ g := typed_ne h1 hh (by decide)
  have hrow : ¬ blk hA g := fun hk => h3.ne hh (by decide) hk
  refine ⟨hA, hc, gs, ?_, by rw [List.length_set]; exact h2, h3.set hrow _, fun i g2 ph hg2 hp => ?_, h5.grew (S := fun k => k = g) ((Grew.refl (fun k => k = g) W).setCell (p := ⟨g, 10, none⟩) (.inl rfl) _) (fun k hk e => by have := (h6 k hk).2; omega), h6, h7, h8, h9, h10, h11.setCell (p := ⟨g, 10, none⟩) (by show w0.heap.size ≤ g; omega) _⟩
  · exact (Below.heap_setCell W ⟨g, 10, none⟩ (.int .i64 q) m hmg).trans h1
  · by_cases e : i = j
    · subst e
      rw [hg] at hg2
      obtain rfl := Option.some.inj hg2
      rw [List.getElem?_set_self hj] at hp
      obtain rfl := Option.some.inj hp
      exact (show IsHand W g b i phs[i] from ⟨lv, mp, hh⟩).to_ q
    · rw [List.getElem?_set_ne (by omega)] at hp
      have hh2 := h4 i g2 ph hg2 hp
      have hne := hh2.ne (show IsHand W g b j phs[j] from ⟨lv, mp, hh⟩) (by omega)
      exact hh2.move (Below.heap_setCell W ⟨g, 10, none⟩ (.int .i64 q) g2 hne)
/-- The time goes on. -/
theorem Mach.pass {w0 W : World} {lim m b : Nat} {P : Pl} {F : Nat → Prop} {s : CoreS} {phs : List Int} (h : Mach w0 W lim m b P F s phs) (v : Int) : Mach w0 (W.setCell ⟨b, 4, none⟩ (.int .i64 v)) lim m b P F { s with now := v } phs := by
  obtain ⟨hA, hc, gs, h1, h2, h3, h4, h5, h6, h7, h8, h9, h10, h11⟩ := h
  have hb := h6 b h5.own
  refine ⟨hA, hc, gs, (Below.heap_setCell W ⟨b, 4, none⟩ (.int .i64 v) m (by show m ≠ b; omega)).trans h1, h2, h3.set (p := ⟨b, 4, none⟩) (fun hk => by have := h9 b hk; omega) _, fun j g ph hg hp => ?_, h5.now_to v, h6, h7, h8, h9, h10, h11.setCell (p := ⟨b, 4, none⟩) hb.1 _⟩
  have := h10 g (List.mem_of_getElem? hg)
  exact (h4 j g ph hg hp).move (Below.heap_setCell W ⟨b, 4, none⟩ (.int .i64 v) g (by show g ≠ b; omega))
end Go.Proofs.YtkfhnicojokafaaGreat.Co
