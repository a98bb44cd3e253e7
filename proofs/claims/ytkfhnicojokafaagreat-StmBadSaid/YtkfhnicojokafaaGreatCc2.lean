/- A core in memory: what it is; the small makers; what tells of it, what lets time pass. -/
import Derived.Test.YtkfhnicojokafaaGreatCc1
namespace Go.Proofs.YtkfhnicojokafaaGreat.Co
open Go.RowKit Go.Proofs.YtkfhnicojokafaaGreatW.PrintWords Go.Proofs.YtkfhnicojokafaaGreatW.PrintLast Go.Proofs.YtkfhnicojokafaaGreatW.PrintMore Go.Proofs.YtkfhnicojokafaaGreat.PMd Go.Proofs.YtkfhnicojokafaaGreat.Ln
set_option linter.unusedVariables false
set_option linter.unusedSimpArgs false
/-- A configuration. -/
structure Cf where
  (f0 f1 f2 f3 f4 f5 f6 f7 f8 f9 f10 f11 : Int)
/-- What a core tells. -/
structure CoreS where
  c : Cf
  ws : List Int
  cnt : Int
  tk : List Int
  ac : List Bool
  dm : List Int
  now : Int
/-- Where its parts lie. -/
structure Pl where
  (p cb tb db nb sb : Nat)
def vb (l : List Bool) : List Value := l.map Value.bool
def ptr (b : Nat) : Value := .pointer (some ⟨b, 0, none⟩)
def partsC (c : Cf) (P : Pl) : Array Value := #[.int .i64 c.f0, .int .i64 c.f1, .int .i64 c.f2, .int .i64 c.f3, .int .i64 c.f4, .int .i64 c.f5, .int .i64 c.f6, .int .i64 c.f7, .int .i64 c.f8, .int .i64 c.f9, .int .i64 c.f10, .int .i64 c.f11,
  .pointer (some ⟨P.cb, 0, none⟩), .pointer (some ⟨P.tb, 0, none⟩), .pointer (some ⟨P.db, 0, none⟩), .pointer (some ⟨P.nb, 0, none⟩), .pointer (some ⟨P.sb, 0, none⟩)]
def IsCore (w : World) (b : Nat) (P : Pl) (F : Nat → Prop) (s : CoreS) : Prop :=
  ∃ tA tc aA ac dA dc FC, w.heap[b]? = some (.cells #[.pointer (some ⟨P.p, 0, none⟩), .slice tA s.tk.length tc, .slice aA s.ac.length ac, .slice dA s.dm.length dc, .int .i64 s.now] 62 (0, 0)) ∧
    w.heap[P.p]? = some (.cells (partsC s.c P) 77 (0, 0)) ∧ F b ∧ F P.p ∧
    Row w 3 1 tA s.tk.length tc (vi s.tk) ∧ (∀ k, blk tA k → F k) ∧ Row w 4 1 aA s.ac.length ac (vb s.ac) ∧ (∀ k, blk aA k → F k) ∧ Row w 26 1 dA s.dm.length dc (vi s.dm) ∧ (∀ k, blk dA k → F k) ∧
    IsCells w P.cb FC s.ws s.cnt ∧ (∀ k, FC k → F k) ∧ (∀ k, FC k → k ≠ b ∧ k ≠ P.p ∧ ¬ blk tA k ∧ ¬ blk aA k ∧ ¬ blk dA k)
section
variable {w w' : World} {b : Nat} {P : Pl} {F F' : Nat → Prop} {s : CoreS}
theorem IsCore.move (h : IsCore w b P F s) (hm : ∀ k, F k → k < w.heap.size → w'.heap[k]? = w.heap[k]?) : IsCore w' b P F s := by
  obtain ⟨tA, tc, aA, ac, dA, dc, FC, h1, h2, h3, h4, h5, h6, h7, h8, h9, h10, h11, h12, h13⟩ := h
  exact ⟨tA, tc, aA, ac, dA, dc, FC, (hm b h3 (Array.getElem?_eq_some_iff.1 h1).1).trans h1, (hm _ h4 (Array.getElem?_eq_some_iff.1 h2).1).trans h2, h3, h4, h5.move (fun k hk hl => hm k (h6 k hk) hl), h6, h7.move (fun k hk hl => hm k (h8 k hk) hl), h8,
    h9.move (fun k hk hl => hm k (h10 k hk) hl), h10, h11.move (fun k hk hl => hm k (h12 k hk) hl), h12, h13⟩
theorem IsCore.below (h : IsCore w b P F s) (hb : Below w.heap.size w w') : IsCore w' b P F s := h.move (fun k _ hk => hb.block k hk)
theorem IsCore.grew {S : Nat → Prop} (h : IsCore w b P F s) (hg : Grew S w w') (hs_ : ∀ k, F k → ¬ S k) : IsCore w' b P F s := h.move (fun k hk hl => hg.block k hl (hs_ k hk))
theorem IsCore.drewN (h : IsCore w b P F s) (m : Nat) : IsCore (w.drewN m) b P F s := h
theorem IsCore.parts (h : IsCore w b P F s) : w.heap[P.p]? = some (.cells (partsC s.c P) 77 (0, 0)) := by
  obtain ⟨_, _, _, _, _, _, _, _, h2, _⟩ := h
  exact h2
theorem IsCore.at0 (h : IsCore w b P F s) : w.cell? ⟨b, 0, none⟩ = some (.pointer (some ⟨P.p, 0, none⟩)) := by
  obtain ⟨_, _, _, _, _, _, _, h1, _⟩ := h
  exact (blk_cell h1 0).trans rfl
theorem IsCore.at4 (h : IsCore w b P F s) : w.cell? ⟨b, 4, none⟩ = some (.int .i64 s.now) ∧ w.frozen? ⟨b, 4, none⟩ = false := by
  obtain ⟨_, _, _, _, _, _, _, h1, _⟩ := h
  exact ⟨(blk_cell h1 4).trans rfl, blk_frozen h1 4⟩
theorem IsCore.cells (h : IsCore w b P F s) : ∃ FC, IsCells w P.cb FC s.ws s.cnt ∧ (∀ k, FC k → F k) := by
  obtain ⟨_, _, _, _, _, _, FC, _, _, _, _, _, _, _, _, _, _, h11, h12, _⟩ := h
  exact ⟨FC, h11, h12⟩
/-- When the cells have changed. -/
theorem IsCore.cells_to (h : IsCore w b P F s) : ∃ FC, IsCells w P.cb FC s.ws s.cnt ∧ (∀ k, FC k → F k) ∧ ∀ w' ws cnt, IsCells w' P.cb FC ws cnt → Grew FC w w' → IsCore w' b P F { s with ws := ws, cnt := cnt } := by
  obtain ⟨tA, tc, aA, ac, dA, dc, FC, h1, h2, h3, h4, h5, h6, h7, h8, h9, h10, h11, h12, h13⟩ := h
  refine ⟨FC, h11, h12, fun w' ws cnt hC hG => ⟨tA, tc, aA, ac, dA, dc, FC, (hG.block b (Array.getElem?_eq_some_iff.1 h1).1 (fun hk => (h13 _ hk).1 rfl)).trans h1, (hG.block _ (Array.getElem?_eq_some_iff.1 h2).1 (fun hk => (h13 _ hk).2.1 rfl)).trans h2, h3, h4,
    h5.grew hG (fun k hk hc => (h13 k hc).2.2.1 hk), h6, h7.grew hG (fun k hk hc => (h13 k hc).2.2.2.1 hk), h8, h9.grew hG (fun k hk hc => (h13 k hc).2.2.2.2 hk), h10, hC, h12, h13⟩⟩
/-- When time has passed. -/
theorem IsCore.now_to (h : IsCore w b P F s) (v : Int) : IsCore (w.setCell ⟨b, 4, none⟩ (.int .i64 v)) b P F { s with now := v } := by
  obtain ⟨tA, tc, aA, ac, dA, dc, FC, h1, h2, h3, h4, h5, h6, h7, h8, h9, h10, h11, h12, h13⟩ := h
  have hne : P.p ≠ b := fun e => by
    rw [e, h1] at h2
    injection h2 with h2
    injection h2 with _ h2
    exact absurd h2 (by decide)
  have hm : ∀ k, k ≠ b → (w.setCell ⟨b, 4, none⟩ (.int .i64 v)).heap[k]? = w.heap[k]? := fun k hk => Below.heap_setCell w _ _ k hk
  refine ⟨tA, tc, aA, ac, dA, dc, FC, blk_put h1 4 (.int .i64 v) rfl, (hm _ hne).trans h2, h3, h4, h5.move (fun k hk _ => hm k (fun e => ?_)), h6, h7.move (fun k hk _ => hm k (fun e => ?_)), h8, h9.move (fun k hk _ => hm k (fun e => ?_)), h10,
    h11.move (fun k hk _ => hm k (h13 k hk).1), h12, h13⟩
  · subst e; exact h5.ne h1 (by decide) hk
  · subst e; exact h7.ne h1 (by decide) hk
  · subst e; exact h9.ne h1 (by decide) hk
end
set_option maxHeartbeats 8000000 in
set_option maxRecDepth 100000 in
theorem birthNew_ (m : Int) (w : World) (h1 : 1 ≤ m) (h2 : m ≤ 10000) :
    Calls Tryz.prog 30 #[.int .i64 m] w fun e w' => e = .returned (.tuple #[.pointer (some ⟨w.heap.size, 0, none⟩), .int .i64 0]) ∧ w' = w.alloc (.cells #[.int .i64 0, .int .i64 m] 112) := by
  have hu := Tryz.underlying112
  have a1 : decide (m < 1) = false := decide_eq_false (by omega)
  have a2 : decide (m > 10000) = false := decide_eq_false (by omega)
  clear h1 h2
  go_enter Tryz.func30, Tryz.ntmps30
  go_wp2
  go_ret2
  exact ⟨rfl, rfl⟩
set_option maxHeartbeats 8000000 in
set_option maxRecDepth 100000 in
theorem napNew_ (w : World) :
    Calls Tryz.prog 31 #[] w fun e w' => e = .returned (.pointer (some ⟨w.heap.size + 1, 0, none⟩)) ∧ w' = (w.alloc (.map #[] 0)).alloc (.cells #[.map (some w.heap.size)] 115) := by
  have hu := Tryz.underlying115
  have hmm := @run_makeMap Tryz.prog
  go_enter Tryz.func31, Tryz.ntmps31
  go_wp2
  go_ret
  exact ⟨rfl, rfl⟩
set_option maxHeartbeats 8000000 in
set_option maxRecDepth 100000 in
theorem storyNew_ (w : World) :
    Calls Tryz.prog 32 #[] w fun e w' => e = .returned (.pointer (some ⟨w.heap.size, 0, none⟩)) ∧ w' = w.alloc (.cells #[.slice none 0 0] 118) := by
  have hu := Tryz.underlying118
  go_enter Tryz.func32, Tryz.ntmps32
  go_wp2
  go_ret
  exact ⟨rfl, rfl⟩
set_option maxHeartbeats 8000000 in
set_option maxRecDepth 100000 in
theorem corePass_ (w : World) (b : Nat) (P : Pl) (F : Nat → Prop) (s : CoreS) (h : IsCore w b P F s) (h0 : 0 ≤ s.now) (h1 : s.now ≤ 1000000000000000) :
    Calls Tryz.prog 43 #[.pointer (some ⟨b, 0, none⟩)] w fun e w' => e = .returned (.tuple #[]) ∧ w' = w.setCell ⟨b, 4, none⟩ (.int .i64 (s.now + 1)) := by
  have hu := Tryz.underlying62
  obtain ⟨c4, f4⟩ := h.at4
  have W := Aside0.mk (show wrap64 (s.now + 1) = s.now + 1 from wrap_in _ (by omega) (by omega))
  clear h
  go_enter Tryz.func43, Tryz.ntmps43
  go_wp2
  go_end0
  exact ⟨rfl, by first | rfl | rw [W.out]⟩
set_option maxHeartbeats 8000000 in
set_option maxRecDepth 100000 in
theorem coreNow_ (w : World) (b : Nat) (P : Pl) (F : Nat → Prop) (s : CoreS) (h : IsCore w b P F s) :
    Calls Tryz.prog 14 #[.pointer (some ⟨b, 0, none⟩)] w fun e w' => e = .returned (.int .i64 s.now) ∧ w' = w := by
  have hu := Tryz.underlying62
  obtain ⟨c4, f4⟩ := h.at4
  clear h
  go_enter Tryz.func14, Tryz.ntmps14
  go_wp2
  go_ret
  exact ⟨rfl, rfl⟩
set_option maxHeartbeats 8000000 in
set_option maxRecDepth 100000 in
theorem partsCells_ (w : World) (c : Cf) (P : Pl) (hp : w.heap[P.p]? = some (.cells (partsC c P) 77 (0, 0))) :
    Calls Tryz.prog 89 #[.pointer (some ⟨P.p, 0, none⟩)] w fun e w' => e = .returned (.pointer (some ⟨P.cb, 0, none⟩)) ∧ w' = w := by
  have hu := Tryz.underlying77
  have c12 : w.cell? ⟨P.p, 12, none⟩ = some (.pointer (some ⟨P.cb, 0, none⟩)) := (blk_cell hp 12).trans rfl
  clear hp
  go_enter Tryz.func89, Tryz.ntmps89
  go_wp2
  go_ret
  exact ⟨rfl, rfl⟩
end Go.Proofs.YtkfhnicojokafaaGreat.Co
