/- The core tells its configuration, its heap. -/
import Derived.Test.YtkfhnicojokafaaGreatCc4
namespace Go.Proofs.YtkfhnicojokafaaGreat.Co
open Go.RowKit Go.Proofs.YtkfhnicojokafaaGreatW.PrintWords Go.Proofs.YtkfhnicojokafaaGreatW.PrintLast Go.Proofs.YtkfhnicojokafaaGreatW.PrintMore Go.Proofs.YtkfhnicojokafaaGreat.PMd Go.Proofs.YtkfhnicojokafaaGreat.Ln
set_option linter.unusedVariables false
set_option linter.unusedSimpArgs false
def confV (c : Cf) : Value := .agg #[.int .i64 c.f0, .int .i64 c.f1, .int .i64 c.f2, .int .i64 c.f3, .int .i64 c.f4, .int .i64 c.f5, .int .i64 c.f6, .int .i64 c.f7, .int .i64 c.f8, .int .i64 c.f9, .int .i64 c.f10, .int .i64 c.f11]
theorem parts_at {w : World} {c : Cf} {P : Pl} (hp : w.heap[P.p]? = some (.cells (partsC c P) 77 (0, 0))) :
    w.cell? ⟨P.p, 0, none⟩ = some (.int .i64 c.f0) ∧ w.cell? ⟨P.p, 1, none⟩ = some (.int .i64 c.f1) ∧ w.cell? ⟨P.p, 2, none⟩ = some (.int .i64 c.f2) ∧ w.cell? ⟨P.p, 3, none⟩ = some (.int .i64 c.f3) ∧ w.cell? ⟨P.p, 4, none⟩ = some (.int .i64 c.f4) ∧ w.cell? ⟨P.p, 5, none⟩ = some (.int .i64 c.f5) ∧
    w.cell? ⟨P.p, 6, none⟩ = some (.int .i64 c.f6) ∧ w.cell? ⟨P.p, 7, none⟩ = some (.int .i64 c.f7) ∧ w.cell? ⟨P.p, 8, none⟩ = some (.int .i64 c.f8) ∧ w.cell? ⟨P.p, 9, none⟩ = some (.int .i64 c.f9) ∧ w.cell? ⟨P.p, 10, none⟩ = some (.int .i64 c.f10) ∧ w.cell? ⟨P.p, 11, none⟩ = some (.int .i64 c.f11) ∧ w.cell? ⟨P.p, 12, none⟩ = some (.pointer (some ⟨P.cb, 0, none⟩)) :=
  ⟨(blk_cell hp 0).trans rfl, (blk_cell hp 1).trans rfl, (blk_cell hp 2).trans rfl, (blk_cell hp 3).trans rfl, (blk_cell hp 4).trans rfl, (blk_cell hp 5).trans rfl, (blk_cell hp 6).trans rfl, (blk_cell hp 7).trans rfl, (blk_cell hp 8).trans rfl, (blk_cell hp 9).trans rfl, (blk_cell hp 10).trans rfl, (blk_cell hp 11).trans rfl, (blk_cell hp 12).trans rfl⟩
set_option maxHeartbeats 8000000 in
set_option maxRecDepth 100000 in
theorem partsConf_ (w : World) (c : Cf) (P : Pl) (hp : w.heap[P.p]? = some (.cells (partsC c P) 77 (0, 0))) :
    Calls Tryz.prog 37 #[.pointer (some ⟨P.p, 0, none⟩)] w fun e w' => e = .returned (.agg #[.int .i64 c.f0, .int .i64 c.f1, .int .i64 c.f2, .int .i64 c.f3, .int .i64 c.f4, .int .i64 c.f5, .int .i64 c.f6, .int .i64 c.f7, .int .i64 c.f8, .int .i64 c.f9, .int .i64 c.f10, .int .i64 c.f11]) ∧ Below w.heap.size w w' := by
  have hu := Tryz.underlying77
  have hu2 := Tryz.underlying23
  have hlt := (Array.getElem?_eq_some_iff.1 hp).1
  obtain ⟨x0, x1, x2, x3, x4, x5, x6, x7, x8, x9, x10, x11, _⟩ := parts_at (blk_alloc hp (.cells #[.int .i64 0, .int .i64 0, .int .i64 0, .int .i64 0, .int .i64 0, .int .i64 0, .int .i64 0, .int .i64 0, .int .i64 0, .int .i64 0, .int .i64 0, .int .i64 0] 23))
  clear hp
  go_enter Tryz.func37, Tryz.ntmps37
  go_wp2
  refine bodyPost_ret (v := .agg #[.int .i64 c.f0, .int .i64 c.f1, .int .i64 c.f2, .int .i64 c.f3, .int .i64 c.f4, .int .i64 c.f5, .int .i64 c.f6, .int .i64 c.f7, .int .i64 c.f8, .int .i64 c.f9, .int .i64 c.f10, .int .i64 c.f11]) ?_ rfl ⟨rfl, ?_⟩
  · simp [results, Tryz.results37, go_sem]
  · exact below_alloc (Below.refl _ _) _
/-- A row of whole numbers of the call's own, while it is made. -/
def OutI (w : World) (l : List Int) (v : Value) (wr : World) : Prop :=
  ∃ A' c', v = .slice A' l.length c' ∧ Row wr 3 1 A' l.length c' (vi l) ∧ (∀ k, blk A' k → w.heap.size ≤ k) ∧ Below w.heap.size w wr
end Go.Proofs.YtkfhnicojokafaaGreat.Co
