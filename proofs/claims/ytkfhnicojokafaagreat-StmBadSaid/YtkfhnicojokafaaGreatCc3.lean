/- A table of nobody, in short: New, its edges; the edges of a core at which nobody waits. -/
import Derived.Test.YtkfhnicojokafaaGreatCc2
import Derived.Maps.OwnSet
import Derived.Maps.RangeWalk
import Derived.Deep.RegionLaw
namespace Go.Proofs.YtkfhnicojokafaaGreat.Co
open Go.RowKit Go.Proofs.YtkfhnicojokafaaGreatW.PrintWords Go.Proofs.YtkfhnicojokafaaGreatW.PrintLast Go.Proofs.YtkfhnicojokafaaGreatW.PrintMore Go.Proofs.YtkfhnicojokafaaGreat.PMd Go.Proofs.YtkfhnicojokafaaGreat.Ln
open Go.Maps
set_option linter.unusedVariables false
set_option linter.unusedSimpArgs false
/-- A table at which nobody waits: its cells, its empty map. -/
def TabL (w : World) (b : Nat) (F : Nat → Prop) : Prop :=
  ∃ sA sn sc most m, w.heap[b]? = some (.cells #[.slice sA sn sc, .int .i64 most, .map (some m)] 106 (0, 0)) ∧ w.heap[m]? = some (.map #[] 0) ∧ F b ∧ F m
theorem TabL.move {w w' : World} {b : Nat} {F : Nat → Prop} (h : TabL w b F) (hm : ∀ k, F k → k < w.heap.size → w'.heap[k]? = w.heap[k]?) : TabL w' b F := by
  obtain ⟨sA, sn, sc, most, m, h1, h2, h3, h4⟩ := h
  exact ⟨sA, sn, sc, most, m, (hm b h3 (Array.getElem?_eq_some_iff.1 h1).1).trans h1, (hm m h4 (Array.getElem?_eq_some_iff.1 h2).1).trans h2, h3, h4⟩
set_option maxRecDepth 1000000 in
set_option maxHeartbeats 8000000 in
theorem bitsLen64_0 (w : World) : Calls Tryz.prog 192 #[.int .u64 0] w fun e w' => ∃ v : Int, e = .returned (.int .i64 v) ∧ Below w.heap.size w w' := by
  go_enter Tryz.func192, Tryz.ntmps192
  go_wp2
  go_ret
  exact ⟨_, rfl, by repeat (first | exact Below.refl _ _ | apply below_drew | apply below_alloc)⟩
theorem bitsLen_0 (w : World) : Calls Tryz.prog 147 #[.int .u64 0] w fun e w' => ∃ v : Int, e = .returned (.int .i64 v) ∧ Below w.heap.size w w' := by
  go_enter Tryz.func147, Tryz.ntmps147
  go_wp2_with fail
  refine (bitsLen64_0 _).mono ?_
  rintro e w1 ⟨v, rfl, hb⟩
  have HB := Aside0.mk hb
  clear hb
  go_wp2
  go_ret
  exact ⟨v, rfl, HB.out⟩
set_option maxHeartbeats 8000000 in
theorem insertion_0 (w : World) : Calls Tryz.prog 182 #[.slice none 0 0, .int .i64 0, .int .i64 0] w fun e w' => e = .returned (.tuple #[]) ∧ w' = w := by
  go_enter Tryz.func182, Tryz.ntmps182
  go_wp2_with fail
  go_loop [6] (fun v => v = .int .i64 1) (fun _ => 0)
  case atStart => rfl
  case round =>
    obtain rfl := hrel
    go_wp2
    go_end0
    exact ⟨rfl, rfl⟩
set_option maxHeartbeats 8000000 in
theorem pdq_0 (v : Int) (w : World) : Calls Tryz.prog 146 #[.slice none 0 0, .int .i64 0, .int .i64 0, .int .i64 v] w fun e w' => e = .returned (.tuple #[]) ∧ w' = w := by
  have HI := Aside0.mk insertion_0
  go_enter Tryz.func146, Tryz.ntmps146
  go_wp2_with fail
  refine wp_loop_rounds 1 ?_
  rw [rounds_succ]
  go_wp2_with fail
  refine (HI.out _).mono ?_
  rintro e w1 ⟨rfl, rfl⟩
  go_wp2
  exact bodyPost_ret (results_none rfl _ _ _) rfl ⟨rfl, rfl⟩
set_option maxHeartbeats 8000000 in
theorem sortNil_ (w : World) : Calls Tryz.prog 111 #[.slice none 0 0] w fun e w' => e = .returned (.tuple #[]) ∧ Below w.heap.size w w' := by
  go_enter Tryz.func111, Tryz.ntmps111
  go_wp2_with fail
  refine (bitsLen_0 _).mono ?_
  rintro e w1 ⟨v, rfl, hb⟩
  have HB := Aside0.mk hb
  clear hb
  go_wp2_with fail
  refine (pdq_0 v w1).mono ?_
  rintro e w2 ⟨rfl, rfl⟩
  go_wp2
  go_end0
  exact ⟨rfl, HB.out⟩
set_option maxHeartbeats 8000000 in
theorem indexEdgeNil_ (g : Value) (w : World) : Calls Tryz.prog 110 #[.slice none 0 0, g] w fun e w' => e = .returned (.int .i64 (-1)) ∧ w' = w := by
  go_enter Tryz.func110, Tryz.ntmps110
  go_wp2_with fail
  go_loop [8] (fun v => v = .int .i64 0) (fun _ => 0)
  case atStart => rfl
  case round =>
    obtain rfl := hrel
    go_wp2
    go_ret
    exact ⟨rfl, rfl⟩
set_option maxHeartbeats 8000000 in
theorem deleteEdgeNil_ (g : Value) (w : World) : Calls Tryz.prog 71 #[.slice none 0 0, g] w fun e w' => e = .returned (.slice none 0 0) ∧ w' = w := by
  go_enter Tryz.func71, Tryz.ntmps71
  go_wp2_with fail
  refine (indexEdgeNil_ g w).mono ?_
  rintro e w1 ⟨rfl, rfl⟩
  go_wp2
  go_ret
  exact ⟨rfl, rfl⟩
theorem keyed0 : Keyed Tryz.prog 3 := int_keyed Tryz.underlying3
theorem ranges_cnt0 {w : World} {P : Program} {K : TypeId} {R : Value → Option (DataW Unit × List MemPlace)} {b r n : Nat} {D : DataW Unit} {left : Lit → Bool} {cnt : Nat} (h : w.ranges P K R b r n D left cnt) : cnt ≤ n := by
  obtain ⟨es, clock, since, seen, c0, h1, h2, h3, h4, h5, h6, h7, _⟩ := h
  rw [← h7]
  exact Nat.le_trans (Array.size_filter_le ..) h3
set_option maxHeartbeats 8000000 in
set_option maxRecDepth 100000 in
theorem edgesNil_ {w : World} {b : Nat} {F : Nat → Prop} (h : TabL w b F) :
    Calls Tryz.prog 72 #[.pointer (some ⟨b, 0, none⟩)] w fun e w' => e = .returned (.slice none 0 0) ∧ Below w.heap.size w w' := by
  have hu := Tryz.underlying106
  obtain ⟨sA, sn, sc, most, m, h1, h2, h3, h4⟩ := h
  have c2 : w.cell? ⟨b, 2, none⟩ = some (.map (some m)) := (blk_cell h1 2).trans rfl
  obtain ⟨D, hown⟩ : ∃ D : DataW Unit, w.ownsMap Tryz.prog 3 (plainElem Tryz.prog 3) m 0 D := by
    obtain ⟨es, clock, hb, hx⟩ := World.ownsMap_made w Tryz.prog 3 (plainElem Tryz.prog 3)
    exact ⟨_, es, clock, by rw [show (w.alloc (.map #[] 0)).heap[w.heap.size]? = some (.map #[] 0) from heap_alloc_new w _] at hb; rw [h2]; exact hb, hx⟩
  have HO := Aside0.mk hown
  clear h1 h2 h3 h4 hown
  go_enter Tryz.func72, Tryz.ntmps72
  go_wp2_with (first | (at_range; refine wpList_range_own _ rfl _ 80 rfl 3 3 keyed0 Tryz.underlying80 _ m 0 D rfl HO.out ?_; intro w0 hrg0 hg0 hs0) | fail)
  go_frame
  have HR0 := Aside0.mk hrg0
  have HB0 := Aside0.mk (show Below w.heap.size w w0 from ⟨hg0.os, hg0.tape, hg0.output, hg0.size, fun k hk => hg0.block k hk (by simp)⟩)
  clear hrg0 hg0 hs0 c2
  go_loopw [3, 4] (fun v3 _ wr => ∃ (left : Lit → Bool) (cnt : Nat), Aside0 (wr.ranges Tryz.prog 3 (plainElem Tryz.prog 3) m w.heap.size 0 D left cnt) ∧ v3 = .slice none 0 0 ∧ Aside0 (Below w.heap.size w wr)) (fun _ _ wr => wr.rangeLeft m w.heap.size)
  case atStart => exact ⟨_, _, HR0, rfl, HB0⟩
  case round =>
    obtain ⟨left, cnt, HRg, rfl, HB1⟩ := hrel
    have hcz := ranges_cnt0 HRg.out
    go_wp2_with (first | (at_next; refine wpList_next_ranges_ii _ rfl _ rfl 3 3 .i64 .i64 keyed0 Tryz.underlying3 Tryz.underlying3 m w.heap.size 0 _ _ _ rfl HRg.out ?_ ?_) | fail)
    · intro hc0 hl0
      clear hc0 hl0 hcz
      go_wp2_with fail
      refine (sortNil_ _).mono ?_
      rintro e w5 ⟨rfl, hb⟩
      have HB5 := Aside0.mk (below_then HB1.out HB1.out.size hb)
      clear hb
      go_wp2_with fail
      go_loopg [5, 27] 1 (fun gg v5 v27 wr => v5 = .slice none 0 0 ∧ v27 = .int .i64 0 ∧ Aside0 (Below w.heap.size w wr))
      case atStart => exact ⟨rfl, rfl, HB5⟩
      case round =>
        obtain ⟨rfl, rfl, HB6⟩ := hrel
        go_wp2
        go_ret
        exact ⟨rfl, HB6.out⟩
    · intro x c w1 cnt1 hwx hwc hlx hat hrg1 hlt hg1 hs1 hen
      exfalso
      omega
end Go.Proofs.YtkfhnicojokafaaGreat.Co
