/- Regions that draw their order, read only, and call what lays blocks: walked once. -/
import Derived.Test.YtagdgkimjgomlaaRow
import Derived.Deep.QuietTactic
import Derived.BigQuiet
import Derived.Sort.Grow
namespace Go.Proofs.Ytagdgkimjgomlaa.Ln
open Go.RowKit Go.Proofs.YtagdgkimjgomlaaW.PrintWords Go.Proofs.YtagdgkimjgomlaaW.PrintLast Go.Proofs.YtagdgkimjgomlaaW.PrintMore
open Go.Sort (grow)
set_option linter.unusedVariables false
def wat (w : World) (d : Nat) : World := { w with drawn := d }
structure Gr where
  d : Nat
  os : Array Obj
  deriving Inhabited
theorem gr_of {w W : World} (h : Below w.heap.size w W) : ∃ p : Gr, W = grow (wat w p.d) p.os := by
  refine ⟨⟨W.drawn, W.heap.extract w.heap.size W.heap.size⟩, ?_⟩
  obtain ⟨h1, h2, h3, h4, h5⟩ := h
  cases w with
  | mk heap tape drawn os output =>
    cases W with
    | mk heap' tape' drawn' os' output' =>
      simp only at h1 h2 h3 h4 h5
      subst h1 h2 h3
      simp only [grow, wat, World.mk.injEq, and_true]
      apply Array.ext_getElem?
      intro k
      rw [Array.getElem?_append]
      by_cases hk : k < heap.size
      · rw [if_pos hk, h5 k hk]
      · rw [if_neg hk, Array.getElem?_extract]
        by_cases h6 : k < heap'.size
        · rw [if_pos (by omega)]; congr 1; omega
        · rw [if_neg (by omega)]; exact Array.getElem?_eq_none (by omega)
theorem below_gr (w : World) (d : Nat) (os : Array Obj) : Below w.heap.size w (grow (wat w d) os) :=
  ⟨rfl, rfl, rfl, by simp [grow, wat], fun k hk => by show (w.heap ++ os)[k]? = _; rw [Array.getElem?_append_left hk]⟩
theorem cell_gr {w : World} {a : Addr} {v : Value} (h : w.cell? a = some v) (d : Nat) (os : Array Obj) : (grow (wat w d) os).cell? a = some v :=
  ((below_gr w d os).cell (World.block_lt_of_cell? w a h)).trans h
theorem Calls.gr_of {P : Program} {f : FuncId} {args : Array Value} {w : World} {d : Nat} {os : Array Obj} {v : Value}
    (h : Calls P f args (grow (wat w d) os) fun e w' => e = .returned v ∧ Below (grow (wat w d) os).heap.size (grow (wat w d) os) w') : Calls P f args (grow (wat w d) os) fun e w'' => e = .returned v ∧ ∃ p : Gr, w'' = grow (wat w p.d) p.os :=
  h.mono fun _ _ ⟨he, hb⟩ => ⟨he, Ln.gr_of (below_then (below_gr w d os) (below_gr w d os).size hb)⟩
theorem wp_region_gr {P : Program} {id : Nat} {Q : Exit → Act → World → Prop} {a : Act} {w : World} {l : List Oper} (hm : P.follows .mixedOrders = true) (hB : Region.lexB .any l.toArray = true)
    (h : wpQuiet P l.toArray (fun w' => ∃ p : Gr, w' = grow (wat w p.d) p.os) (fun a' => ∀ w', (∃ p : Gr, w' = grow (wat w p.d) p.os) → Q .normal a' w') l a) : (Code.region id l.toArray true).wp P Q a w :=
  wp_region_quiet (C := fun w' => ∃ p : Gr, w' = grow (wat w p.d) p.os) hm hB ⟨⟨w.drawn + 1, #[]⟩, (Go.Sort.grow_empty (wat w (w.drawn + 1))).symm⟩ (by simpa using h)
end Go.Proofs.Ytagdgkimjgomlaa.Ln
