/- A core over a heap that does not fit; the chapter's example. -/
import Derived.Test.YtkfhnicojokafaaGreatCc6
namespace Go.Proofs.YtkfhnicojokafaaGreat.Co
open Go.RowKit Go.Proofs.YtkfhnicojokafaaGreatW.PrintWords Go.Proofs.YtkfhnicojokafaaGreatW.PrintLast Go.Proofs.YtkfhnicojokafaaGreatW.PrintMore Go.Proofs.YtkfhnicojokafaaGreat.PMd Go.Proofs.YtkfhnicojokafaaGreat.Ln
set_option linter.unusedVariables false
set_option linter.unusedSimpArgs false
theorem tabMoves : MovesT TabL := fun W W' tb FT h hm => h.move hm
theorem tabNews (n : Nat) (most : Int) (h1 : 1 ≤ n) (h2 : n ≤ 10000) (h3 : 1 ≤ most) (h4 : most ≤ 4096) : NewsT TabL (n : Int) most := fun W => by
  refine (newTL_ n most W h1 h2 h3 h4).mono ?_
  rintro e W' ⟨q1, q2, q3⟩
  refine ⟨W.heap.size + 1, _, q1, q2, fun k hk => ⟨hk.1, ?_⟩, q3⟩
  obtain ⟨sA, sn, sc, most, m, h5, _⟩ := q2
  have := (Array.getElem?_eq_some_iff.1 h5).1
  omega
set_option maxHeartbeats 16000000 in
set_option maxRecDepth 100000 in
theorem coreNew_bad1 (c : Cf) (A : Option Addr) (cA : Nat) (heap : List Int) (w : World)
    (hck : shape_Check.f c.f0 c.f1 c.f2 c.f3 c.f4 c.f5 c.f6 c.f7 c.f8 c.f9 c.f10 c.f11 = some 1) :
    Calls Tryz.prog 16 #[.agg #[.int .i64 c.f0, .int .i64 c.f1, .int .i64 c.f2, .int .i64 c.f3, .int .i64 c.f4, .int .i64 c.f5, .int .i64 c.f6, .int .i64 c.f7, .int .i64 c.f8, .int .i64 c.f9, .int .i64 c.f10, .int .i64 c.f11], .slice A heap.length cA] w fun e w' =>
      e = .returned (.tuple #[.pointer none, .int .i64 1]) ∧ Below w.heap.size w w' := by
  have hu := Tryz.underlying23
  have HK := Aside0.mk (fun W => shape_Check.calls c.f0 c.f1 c.f2 c.f3 c.f4 c.f5 c.f6 c.f7 c.f8 c.f9 c.f10 c.f11 1 W hck)
  clear hck
  go_enter Tryz.func16, Tryz.ntmps16
  go_wp2_with fail
  refine (HK.out _).mono ?_
  rintro e w1 ⟨rfl, hb⟩
  have HB := Aside0.mk (below_then (below_alloc (Below.refl _ _) _) (below_alloc (Below.refl _ _) _).size hb)
  clear hb
  go_wp2
  go_ret2
  exact ⟨rfl, HB.out⟩
set_option maxHeartbeats 16000000 in
set_option maxRecDepth 100000 in
theorem coreNew_bad2 (c : Cf) (A : Option Addr) (cA : Nat) (heap : List Int) (w : World) (n : Int)
    (hck : shape_Check.f c.f0 c.f1 c.f2 c.f3 c.f4 c.f5 c.f6 c.f7 c.f8 c.f9 c.f10 c.f11 = some 0) (hwd : shape_Words.f c.f0 c.f1 c.f2 c.f3 c.f4 c.f5 c.f6 c.f7 c.f8 c.f9 c.f10 c.f11 = some n) (hne : (heap.length : Int) ≠ n) :
    Calls Tryz.prog 16 #[.agg #[.int .i64 c.f0, .int .i64 c.f1, .int .i64 c.f2, .int .i64 c.f3, .int .i64 c.f4, .int .i64 c.f5, .int .i64 c.f6, .int .i64 c.f7, .int .i64 c.f8, .int .i64 c.f9, .int .i64 c.f10, .int .i64 c.f11], .slice A heap.length cA] w fun e w' =>
      e = .returned (.tuple #[.pointer none, .int .i64 1]) ∧ Below w.heap.size w w' := by
  have hu := Tryz.underlying23
  have HK := Aside0.mk (fun W => shape_Check.calls c.f0 c.f1 c.f2 c.f3 c.f4 c.f5 c.f6 c.f7 c.f8 c.f9 c.f10 c.f11 0 W hck)
  have HW := Aside0.mk (fun W => shape_Words.calls c.f0 c.f1 c.f2 c.f3 c.f4 c.f5 c.f6 c.f7 c.f8 c.f9 c.f10 c.f11 n W hwd)
  have d1 : ((heap.length : Int) != n) = true := bne_iff_ne.2 hne
  have d2 : ((heap.length : Int) == n) = false := beq_eq_false_iff_ne.2 hne
  clear hck hwd hne
  have BK := Aside0.mk (blk_new w (.cells #[.int .i64 c.f0, .int .i64 c.f1, .int .i64 c.f2, .int .i64 c.f3, .int .i64 c.f4, .int .i64 c.f5, .int .i64 c.f6, .int .i64 c.f7, .int .i64 c.f8, .int .i64 c.f9, .int .i64 c.f10, .int .i64 c.f11] 23))
  go_enter Tryz.func16, Tryz.ntmps16
  go_wp2_with fail
  refine (HK.out _).mono ?_
  rintro e w1 ⟨rfl, hb⟩
  have HB := Aside0.mk (below_then (below_alloc (Below.refl _ _) _) (below_alloc (Below.refl _ _) _).size hb)
  have h := blk_below BK.out hb
  obtain ⟨x0, x1, x2, x3, x4, x5, x6, x7, x8, x9, x10, x11⟩ : w1.cell? ⟨w.heap.size, 0, none⟩ = some (.int .i64 c.f0) ∧ w1.cell? ⟨w.heap.size, 1, none⟩ = some (.int .i64 c.f1) ∧ w1.cell? ⟨w.heap.size, 2, none⟩ = some (.int .i64 c.f2) ∧ w1.cell? ⟨w.heap.size, 3, none⟩ = some (.int .i64 c.f3) ∧
      w1.cell? ⟨w.heap.size, 4, none⟩ = some (.int .i64 c.f4) ∧ w1.cell? ⟨w.heap.size, 5, none⟩ = some (.int .i64 c.f5) ∧ w1.cell? ⟨w.heap.size, 6, none⟩ = some (.int .i64 c.f6) ∧ w1.cell? ⟨w.heap.size, 7, none⟩ = some (.int .i64 c.f7) ∧ w1.cell? ⟨w.heap.size, 8, none⟩ = some (.int .i64 c.f8) ∧
      w1.cell? ⟨w.heap.size, 9, none⟩ = some (.int .i64 c.f9) ∧ w1.cell? ⟨w.heap.size, 10, none⟩ = some (.int .i64 c.f10) ∧ w1.cell? ⟨w.heap.size, 11, none⟩ = some (.int .i64 c.f11) :=
    ⟨(blk_cell h 0).trans rfl, (blk_cell h 1).trans rfl, (blk_cell h 2).trans rfl, (blk_cell h 3).trans rfl, (blk_cell h 4).trans rfl, (blk_cell h 5).trans rfl, (blk_cell h 6).trans rfl, (blk_cell h 7).trans rfl, (blk_cell h 8).trans rfl, (blk_cell h 9).trans rfl, (blk_cell h 10).trans rfl, (blk_cell h 11).trans rfl⟩
  clear hb h
  go_wp2_with fail
  refine (HW.out _).mono ?_
  rintro e w2 ⟨rfl, hb⟩
  have HB2 := Aside0.mk (below_then HB.out HB.out.size hb)
  clear hb
  go_wp2
  go_ret2
  exact ⟨rfl, HB2.out⟩
def c1 : Cf := ⟨1, 1, 1, 1, 1, 0, 1, 9, 1, 0, 1, 0⟩
theorem c1_chk : shape_Check.f 1 1 1 1 1 0 1 9 1 0 1 0 = some 0 := by decide +kernel
theorem c1_words : shape_Words.f 1 1 1 1 1 0 1 9 1 0 1 0 = some 1 := by decide +kernel
theorem c1_cells : shape_Cells.f 1 1 1 1 1 0 1 9 1 0 1 0 = some 9 := by decide +kernel
theorem c1_nodes : shape_Nodes.f 1 1 1 1 1 0 1 9 1 0 1 0 = some 3 := by decide +kernel
theorem slice_one0 {w : World} (x : Int) : Kd.C (Kd.int .i64) (w.alloc (.cells #[.int .i64 x] 3)) (some ⟨w.heap.size, 0, none⟩) 1 [x] := by
  refine ⟨rfl, by omega, fun _ => ⟨_, rfl, fun j p hj => ?_⟩⟩
  match j, hj with
  | 0, hj => obtain rfl : x = p := by simpa using hj
             exact ⟨[.int .i64 x], rfl, rfl, fun i u hu => by
               match i, hu with
               | 0, hu => obtain rfl : Value.int .i64 x = u := by simpa using hu
                          exact (blk_cell (blk_new w _) 0).trans rfl
               | i + 1, hu => simp at hu⟩
  | j + 1, hj => simp at hj
end Go.Proofs.YtkfhnicojokafaaGreat.Co
