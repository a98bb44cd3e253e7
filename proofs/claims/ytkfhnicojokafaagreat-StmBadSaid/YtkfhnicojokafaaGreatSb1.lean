import Derived.Test.YtkfhnicojokafaaGreatCc6
/- A hand without programs: how it is made, its steps. -/
namespace Go.Proofs.YtkfhnicojokafaaGreat.Co
open Go.RowKit Go.Proofs.YtkfhnicojokafaaGreatW.PrintWords Go.Proofs.YtkfhnicojokafaaGreatW.PrintLast Go.Proofs.YtkfhnicojokafaaGreatW.PrintMore Go.Proofs.YtkfhnicojokafaaGreat.PMd Go.Proofs.YtkfhnicojokafaaGreat.Ln
set_option linter.unusedVariables false
set_option linter.unusedSimpArgs false
/-- A hand that has no programs, in the phase ph. -/
def handC (b : Nat) (t ph : Int) (lv : Value) (mp : Nat) : Array Value := #[.int .i64 0, .int .i64 0, .slice none 0 0, .slice none 0 0, .slice none 0 0, .slice none 0 0, .bool false, .pointer (some ⟨b, 0, none⟩), .int .i64 t, .slice none 0 0, .int .i64 ph,
  .int .i64 0, .int .i64 0, .int .i64 0, .int .i64 0, lv, .int .i64 0, .int .i64 0, .pointer none, .int .i64 (-1), .map (some mp)]
def IsHand (w : World) (g b : Nat) (t ph : Int) : Prop := ∃ lv mp, w.heap[g]? = some (.cells (handC b t ph lv mp) 89 (0, 0))
theorem IsHand.lt {w : World} {g b : Nat} {t ph : Int} (h : IsHand w g b t ph) : g < w.heap.size := by
  obtain ⟨lv, mp, h⟩ := h
  exact (Array.getElem?_eq_some_iff.1 h).1
theorem IsHand.below {w w' : World} {g b : Nat} {t ph : Int} (h : IsHand w g b t ph) (hb : Below w.heap.size w w') : IsHand w' g b t ph := by
  obtain ⟨lv, mp, h⟩ := h
  exact ⟨lv, mp, (hb.block g (Array.getElem?_eq_some_iff.1 h).1).trans h⟩
theorem IsHand.move {w w' : World} {g b : Nat} {t ph : Int} (h : IsHand w g b t ph) (hb : w'.heap[g]? = w.heap[g]?) : IsHand w' g b t ph := by
  obtain ⟨lv, mp, h⟩ := h
  exact ⟨lv, mp, hb.trans h⟩
theorem IsHand.to_ {w : World} {g b : Nat} {t ph : Int} (h : IsHand w g b t ph) (q : Int) : IsHand (w.setCell ⟨g, 10, none⟩ (.int .i64 q)) g b t q := by
  obtain ⟨lv, mp, h⟩ := h
  have h1 := heap_setCell_same w g 10 _ _ (.int .i64 q) h
  exact ⟨lv, mp, h1⟩
theorem IsHand.at_ {w : World} {g b : Nat} {t ph : Int} (h : IsHand w g b t ph) : w.cell? ⟨g, 10, none⟩ = some (.int .i64 ph) ∧ w.frozen? ⟨g, 10, none⟩ = false ∧ w.cell? ⟨g, 11, none⟩ = some (.int .i64 0) ∧ w.cell? ⟨g, 9, none⟩ = some (.slice none 0 0) := by
  obtain ⟨lv, mp, h⟩ := h
  exact ⟨(blk_cell h 10).trans rfl, blk_frozen h 10, (blk_cell h 11).trans rfl, (blk_cell h 9).trans rfl⟩
set_option maxHeartbeats 8000000 in
set_option maxRecDepth 100000 in
theorem undoNew_ (m : Int) (w : World) (h1 : 1 ≤ m) (h2 : m ≤ 1000) :
    Calls Tryz.prog 36 #[.int .i64 m] w fun e w' => e = .returned (.tuple #[.pointer (some ⟨w.heap.size, 0, none⟩), .int .i64 0]) ∧ w' = w.alloc (.cells #[.slice none 0 0, .int .i64 m] 123) := by
  have hu := Tryz.underlying123
  have a1 : decide (m < 1) = false := decide_eq_false (by omega)
  have a2 : decide (m > 1000) = false := decide_eq_false (by omega)
  clear h1 h2
  go_enter Tryz.func36, Tryz.ntmps36
  go_wp2
  go_ret2
  exact ⟨rfl, rfl⟩
set_option maxHeartbeats 8000000 in
set_option maxRecDepth 100000 in
theorem handPhase_ (w : World) (g b : Nat) (t ph : Int) (h : IsHand w g b t ph) :
    Calls Tryz.prog 41 #[.pointer (some ⟨g, 0, none⟩)] w fun e w' => e = .returned (.int .i64 ph) ∧ w' = w := by
  have hu := Tryz.underlying89
  obtain ⟨c0, _, _, _⟩ := h.at_
  clear h
  go_enter Tryz.func41, Tryz.ntmps41
  go_wp2
  go_ret
  exact ⟨rfl, rfl⟩
set_option maxHeartbeats 8000000 in
set_option maxRecDepth 100000 in
theorem handBegins_ (w : World) (g b : Nat) (t : Int) (h : IsHand w g b t 0) :
    Calls Tryz.prog 59 #[.pointer (some ⟨g, 0, none⟩)] w fun e w' => e = .returned (.tuple #[]) ∧ ∃ n, w' = (w.drewN n).setCell ⟨g, 10, none⟩ (.int .i64 6) := by
  have hu := Tryz.underlying89
  have hu2 := Tryz.underlying83
  obtain ⟨c0, f0, c1, c2⟩ := h.at_
  clear h
  go_enter Tryz.func59, Tryz.ntmps59
  go_wp2_with fail
  go_quiet (fail)
  go_wp2
  refine bodyPost_ret (results_none rfl _ _ _) rfl ?_
  exact ⟨rfl, _, rfl⟩
set_option maxHeartbeats 8000000 in
set_option maxRecDepth 100000 in
theorem handStep_ (w : World) (g b : Nat) (t : Int) (h : IsHand w g b t 0) :
    Calls Tryz.prog 54 #[.pointer (some ⟨g, 0, none⟩)] w fun e w' => e = .returned (.bool true) ∧ ∃ n, w' = (w.drewN n).setCell ⟨g, 10, none⟩ (.int .i64 6) := by
  have hu := Tryz.underlying89
  have HB := Aside0.mk (handBegins_ w g b t h)
  obtain ⟨c0, f0, c1, c2⟩ := h.at_
  clear h f0 c1 c2
  go_enter Tryz.func54, Tryz.ntmps54
  go_wp2_with fail
  refine HB.out.mono ?_
  rintro e w1 ⟨rfl, n, rfl⟩
  clear c0
  go_wp2
  go_ret
  exact ⟨rfl, n, rfl⟩
set_option maxHeartbeats 8000000 in
set_option maxRecDepth 100000 in
theorem handDone_ (w : World) (g b : Nat) (t : Int) (h : IsHand w g b t 6) :
    Calls Tryz.prog 54 #[.pointer (some ⟨g, 0, none⟩)] w fun e w' => e = .returned (.bool false) ∧ w' = w := by
  have hu := Tryz.underlying89
  obtain ⟨c0, f0, c1, c2⟩ := h.at_
  clear h f0 c1 c2
  go_enter Tryz.func54, Tryz.ntmps54
  go_wp2
  go_ret
  exact ⟨rfl, rfl⟩
set_option maxHeartbeats 8000000 in
set_option maxRecDepth 100000 in
theorem handNew_ (w : World) (b : Nat) (P : Pl) (F : Nat → Prop) (s : CoreS) (t : Int) (h : IsCore w b P F s) (h1 : 1 ≤ s.c.f8) (h2 : s.c.f8 ≤ 1000) :
    Calls Tryz.prog 20 #[.pointer (some ⟨b, 0, none⟩), .int .i64 t, .slice none 0 0] w fun e w' => ∃ g, e = .returned (.pointer (some ⟨g, 0, none⟩)) ∧ IsHand w' g b t 0 ∧ w.heap.size ≤ g ∧ Below w.heap.size w w' := by
  have hu := Tryz.underlying89
  have hu2 := Tryz.underlying83
  have hu3 := Tryz.underlying62
  have hfd : ∀ w : World, (Instr.field 23 (.agg #[.int .i64 s.c.f0, .int .i64 s.c.f1, .int .i64 s.c.f2, .int .i64 s.c.f3, .int .i64 s.c.f4, .int .i64 s.c.f5, .int .i64 s.c.f6, .int .i64 s.c.f7, .int .i64 s.c.f8, .int .i64 s.c.f9, .int .i64 s.c.f10, .int .i64 s.c.f11]) 8).run Tryz.prog w = .ok (.int .i64 s.c.f8) w := fun _ => by kernel_rfl
  have hmm := @run_makeMap Tryz.prog
  have e1 : (w.alloc (.map #[] 0)).heap.size = w.heap.size + 1 := by simp
  have hb := below_alloc (below_alloc (Below.refl w.heap.size w) (.map #[] 0)) (.cells (handC b t 0 (.pointer none) w.heap.size) 89)
  have hk := blk_new (w.alloc (.map #[] 0)) (.cells (handC b t 0 (.pointer none) w.heap.size) 89)
  rw [e1] at hk
  have HB := Aside0.mk hb
  have HK := Aside0.mk hk
  have HC := Aside0.mk (h.below hb)
  have HS := Aside0.mk (And.intro h1 h2)
  clear h h1 h2 hb hk
  go_enter Tryz.func20, Tryz.ntmps20
  go_wp2_with fail
  go_loop [20] (fun v => v = .int .i64 0) (fun _ => 0)
  case atStart => rfl
  case round =>
    obtain rfl := hrel
    have c0 := HC.out.at0
    unfold handC at c0
    go_wp2_with fail
    refine (partsConf_ _ s.c P HC.out.parts).mono ?_
    rintro e w2 ⟨rfl, hb2⟩
    have HB2 := Aside0.mk (below_then HB.out HB.out.size hb2)
    have HK2 := Aside0.mk ((hb2.block _ (Array.getElem?_eq_some_iff.1 HK.out).1).trans HK.out)
    clear hb2 c0
    go_wp2_with fail
    refine (undoNew_ s.c.f8 w2 HS.out.1 HS.out.2).mono ?_
    rintro e w3 ⟨rfl, rfl⟩
    have hk3 := blk_alloc HK2.out (.cells #[.slice none 0 0, .int .i64 s.c.f8] 123)
    have c1 : (w2.alloc (.cells #[.slice none 0 0, .int .i64 s.c.f8] 123)).cell? ⟨w.heap.size + 1, 15, none⟩ = some (.pointer none) := (blk_cell hk3 15).trans rfl
    have f1 := blk_frozen hk3 15
    have HK3 := Aside0.mk hk3
    have HB3 := Aside0.mk (below_alloc HB2.out (.cells #[.slice none 0 0, .int .i64 s.c.f8] 123))
    clear hk3
    go_wp2
    go_ret
    refine ⟨w.heap.size + 1, rfl, ⟨.pointer (some ⟨w2.heap.size, 0, none⟩), w.heap.size, ?_⟩, by omega, HB3.out.setCell (p := ⟨w.heap.size + 1, 15, none⟩) (by show w.heap.size ≤ w.heap.size + 1; omega) _⟩
    exact heap_setCell_same _ (w.heap.size + 1) 15 _ _ (.pointer (some ⟨w2.heap.size, 0, none⟩)) HK3.out
end Go.Proofs.YtkfhnicojokafaaGreat.Co
