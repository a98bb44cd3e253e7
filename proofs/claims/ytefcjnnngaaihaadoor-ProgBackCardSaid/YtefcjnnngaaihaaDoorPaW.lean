import Derived.Test.YtefcjnnngaaihaaDoorPr7
import Derived.Test.YtefcjnnngaaihaaDoorPaP
namespace Go.Proofs.YtefcjnnngaaihaaDoor.Pg
open Go.RowKit Go.Proofs.Pg Go.Proofs.YtefcjnnngaaihaaDoor.Ln Go.Proofs.YtefcjnnngaaihaaDoorW.PrintWords Go.Proofs.YtefcjnnngaaihaaDoorW.PrintWords.Kd Go.Proofs.YtefcjnnngaaihaaDoor.PPg
set_option linter.unusedVariables false
set_option linter.unusedSimpArgs false
theorem conf_cells {W : World} {g : Nat} {c0 c1 c2 c3 c4 c5 c6 c7 c8 c9 c10 c11 : Int} (h : W.heap[g]? = some (.cells #[.int .i64 c0, .int .i64 c1, .int .i64 c2, .int .i64 c3, .int .i64 c4, .int .i64 c5, .int .i64 c6, .int .i64 c7, .int .i64 c8, .int .i64 c9, .int .i64 c10, .int .i64 c11] 30 (0, 0))) : W.cell? ⟨g, 0, none⟩ = some (.int .i64 c0) ∧ W.cell? ⟨g, 1, none⟩ = some (.int .i64 c1) ∧ W.cell? ⟨g, 2, none⟩ = some (.int .i64 c2) ∧ W.cell? ⟨g, 3, none⟩ = some (.int .i64 c3) ∧ W.cell? ⟨g, 4, none⟩ = some (.int .i64 c4) ∧ W.cell? ⟨g, 5, none⟩ = some (.int .i64 c5) ∧ W.cell? ⟨g, 6, none⟩ = some (.int .i64 c6) ∧ W.cell? ⟨g, 7, none⟩ = some (.int .i64 c7) ∧ W.cell? ⟨g, 8, none⟩ = some (.int .i64 c8) ∧ W.cell? ⟨g, 9, none⟩ = some (.int .i64 c9) ∧ W.cell? ⟨g, 10, none⟩ = some (.int .i64 c10) ∧ W.cell? ⟨g, 11, none⟩ = some (.int .i64 c11) :=
  ⟨(blk_cell h 0).trans rfl, (blk_cell h 1).trans rfl, (blk_cell h 2).trans rfl, (blk_cell h 3).trans rfl, (blk_cell h 4).trans rfl, (blk_cell h 5).trans rfl, (blk_cell h 6).trans rfl, (blk_cell h 7).trans rfl, (blk_cell h 8).trans rfl, (blk_cell h 9).trans rfl, (blk_cell h 10).trans rfl, (blk_cell h 11).trans rfl⟩
theorem C_nil (W : World) : (Kd.int .i64).C W none ([] : List Int).length [] := ⟨rfl, by simp, fun h => by simp at h⟩
theorem addr_call0 (k : Nat) (c0 c1 c2 c3 c4 c5 c6 c7 c8 c9 c10 c11 a0 a1 a2 a3 : Int) (A : Option Addr) (cA : Nat) (regs : List Int) (p : Int) (W : World) (hC : (Kd.int .i64).C W A regs.length regs) (hcap : regs.length ≤ cA)
    (h : prog_Addr.f k c0 c1 c2 c3 c4 c5 c6 c7 c8 c9 c10 c11 a0 a1 a2 a3 [] regs = some p) :
    Calls Tryd.prog 12 #[.agg #[.int .i64 c0, .int .i64 c1, .int .i64 c2, .int .i64 c3, .int .i64 c4, .int .i64 c5, .int .i64 c6, .int .i64 c7, .int .i64 c8, .int .i64 c9, .int .i64 c10, .int .i64 c11], .agg #[.int .i64 a0, .int .i64 a1, .int .i64 a2, .int .i64 a3, .slice none 0 0], .slice A regs.length cA] W fun e w' => e = .returned (.int .i64 p) ∧ Below W.heap.size W w' :=
  prog_Addr.calls k c0 c1 c2 c3 c4 c5 c6 c7 c8 c9 c10 c11 a0 a1 a2 a3 none 0 [] A cA regs p W (C_nil W) (Nat.le_refl _) hC hcap h
set_option maxHeartbeats 8000000 in
set_option maxRecDepth 100000 in
theorem addr_walk (c0 c1 c2 c3 c4 c5 c6 c7 c8 c9 c10 c11 b r : Int) (A : Option Addr) (cA : Nat) (regs : List Int) (w : World) (hE : Env w) (hC : (Kd.int .i64).C w A regs.length regs) (hcap : regs.length ≤ cA) :
    Calls Tryd.prog 4 #[.agg #[.int .i64 c0, .int .i64 c1, .int .i64 c2, .int .i64 c3, .int .i64 c4, .int .i64 c5, .int .i64 c6, .int .i64 c7, .int .i64 c8, .int .i64 c9, .int .i64 c10, .int .i64 c11], .int .i64 b, .slice A regs.length cA, .int .i64 r] w fun e w' => e = .returned (.bool true) ∧ Below w.heap.size w w' := by
  have hu := Tryd.underlying30
  have hu2 := Tryd.underlying26
  obtain ⟨n, n0, n1, hn⟩ := words_small c0 c1 c2 c3 c4 c5 c6 c7 c8 c9 c10 c11
  have HWD := Aside0.mk hn
  have HN := Aside0.mk (And.intro n0 n1)
  have HE := Aside0.mk hE
  have HC := Aside0.mk (And.intro hC hcap)
  have B1 := Aside0.mk (below_alloc (Below.refl w.heap.size w) (.cells #[.int .i64 c0, .int .i64 c1, .int .i64 c2, .int .i64 c3, .int .i64 c4, .int .i64 c5, .int .i64 c6, .int .i64 c7, .int .i64 c8, .int .i64 c9, .int .i64 c10, .int .i64 c11] 30))
  have BK1 := Aside0.mk (heap_alloc_new w (.cells #[.int .i64 c0, .int .i64 c1, .int .i64 c2, .int .i64 c3, .int .i64 c4, .int .i64 c5, .int .i64 c6, .int .i64 c7, .int .i64 c8, .int .i64 c9, .int .i64 c10, .int .i64 c11] 30))
  clear hE hC hcap hn n0 n1
  go_enter Tryd.func4, Tryd.ntmps4
  go_wp2_with fail
  refine (first_ _ (HE.out.below B1.out)).mono ?_
  rintro e w1 ⟨rfl, hb⟩
  have HB1 := Aside0.mk (below_then B1.out B1.out.size hb)
  have BK := Aside0.mk ((hb.block w.heap.size (by simp)).trans BK1.out)
  generalize hg : w.heap.size = g at BK
  have HG := Aside0.mk hg
  (try rw [hg])
  clear hb hg B1 BK1
  obtain ⟨x0, x1, x2, x3, x4, x5, x6, x7, x8, x9, x10, x11⟩ := conf_cells BK.out
  go_wp2_with fail
  refine (shape_Words.calls c0 c1 c2 c3 c4 c5 c6 c7 c8 c9 c10 c11 n _ HWD.out).mono ?_
  rintro e w2 ⟨rfl, hb⟩
  have HB2 := Aside0.mk (below_then HB1.out HB1.out.size hb)
  have BK2 := Aside0.mk ((hb.block g (Array.getElem?_eq_some_iff.1 BK.out).1).trans BK.out)
  have HF2 := Aside0.mk (fun W (hb : Below w2.heap.size w2 W) => first_ W ((HE.out.below HB2.out).below hb))
  clear hb x0 x1 x2 x3 x4 x5 x6 x7 x8 x9 x10 x11
  by_cases hz : n = 0 ∨ 100 < regs.length ∨ r < 0 ∨ (regs.length : Int) ≤ r
  · by_cases y1 : n = 0
    · have e1 : (n == 0) = true := beq_iff_eq.2 y1
      clear hz y1
      go_wp2_with fail
      refine (HF2.out _ (Below.refl _ _)).mono ?_
      rintro e w3 ⟨rfl, hb⟩
      have HB3 := Aside0.mk (below_then HB2.out HB2.out.size hb)
      clear hb
      go_wp2
      go_ret
      exact ⟨rfl, HB3.out⟩
    · have e1 : (n == 0) = false := beq_eq_false_iff_ne.2 y1
      by_cases y2 : 100 < (regs.length : Int)
      · clear hz y1
        go_wp2_with fail
        refine (HF2.out _ (Below.refl _ _)).mono ?_
        rintro e w3 ⟨rfl, hb⟩
        have HB3 := Aside0.mk (below_then HB2.out HB2.out.size hb)
        clear hb
        go_wp2
        go_ret
        exact ⟨rfl, HB3.out⟩
      · by_cases y3 : r < 0
        · clear hz y1
          go_wp2_with fail
          refine (HF2.out _ (Below.refl _ _)).mono ?_
          rintro e w3 ⟨rfl, hb⟩
          have HB3 := Aside0.mk (below_then HB2.out HB2.out.size hb)
          clear hb
          go_wp2
          go_ret
          exact ⟨rfl, HB3.out⟩
        · have y4 : (regs.length : Int) ≤ r := by omega
          clear hz y1
          go_wp2_with fail
          refine (HF2.out _ (Below.refl _ _)).mono ?_
          rintro e w3 ⟨rfl, hb⟩
          have HB3 := Aside0.mk (below_then HB2.out HB2.out.size hb)
          clear hb
          go_wp2
          go_ret
          exact ⟨rfl, HB3.out⟩
  · have z1 : (n == 0) = false := beq_eq_false_iff_ne.2 (by omega)
    have z2 : ¬ (100 < (regs.length : Int)) := by omega
    have z3 : 0 ≤ r := by omega
    have z4 : r < (regs.length : Int) := by omega
    have z5 : n ≠ 0 := by omega
    have z6 : regs.length ≤ 100 := by omega
    clear hz
    go_wp2_with fail
    have B3 := Aside0.mk (below_alloc (below_alloc (Below.refl w2.heap.size w2) (.cells #[.int .i64 1, .int .i64 0, .int .i64 b, .int .i64 (-1), .slice none 0 0] 26)) (.cells #[.int .i64 2, .int .i64 0, .int .i64 b, .int .i64 r, .slice none 0 0] 26))
    have BX := Aside0.mk (show ((w2.alloc (.cells #[.int .i64 1, .int .i64 0, .int .i64 b, .int .i64 (-1), .slice none 0 0] 26)).alloc (.cells #[.int .i64 2, .int .i64 0, .int .i64 b, .int .i64 r, .slice none 0 0] 26)).heap[w2.heap.size]? = some (.cells #[.int .i64 1, .int .i64 0, .int .i64 b, .int .i64 (-1), .slice none 0 0] 26 (0, 0)) by rw [(below_alloc (Below.refl _ _) _).block _ (by simp)]; exact heap_alloc_new _ _)
    have BY := Aside0.mk (show ((w2.alloc (.cells #[.int .i64 1, .int .i64 0, .int .i64 b, .int .i64 (-1), .slice none 0 0] 26)).alloc (.cells #[.int .i64 2, .int .i64 0, .int .i64 b, .int .i64 r, .slice none 0 0] 26)).heap[w2.heap.size + 1]? = some (.cells #[.int .i64 2, .int .i64 0, .int .i64 b, .int .i64 r, .slice none 0 0] 26 (0, 0)) by
      have h := heap_alloc_new (w2.alloc (.cells #[.int .i64 1, .int .i64 0, .int .i64 b, .int .i64 (-1), .slice none 0 0] 26)) (.cells #[.int .i64 2, .int .i64 0, .int .i64 b, .int .i64 r, .slice none 0 0] 26)
      rw [show (w2.alloc (.cells #[.int .i64 1, .int .i64 0, .int .i64 b, .int .i64 (-1), .slice none 0 0] 26)).heap.size = w2.heap.size + 1 by simp] at h; exact h)
    have BC := Aside0.mk ((B3.out.block g (Array.getElem?_eq_some_iff.1 BK2.out).1).trans BK2.out)
    have SZ := Aside0.mk (show ((w2.alloc (.cells #[.int .i64 1, .int .i64 0, .int .i64 b, .int .i64 (-1), .slice none 0 0] 26)).alloc (.cells #[.int .i64 2, .int .i64 0, .int .i64 b, .int .i64 r, .slice none 0 0] 26)).heap.size = w2.heap.size + 2 by simp)
    generalize ((w2.alloc (.cells #[.int .i64 1, .int .i64 0, .int .i64 b, .int .i64 (-1), .slice none 0 0] 26)).alloc (.cells #[.int .i64 2, .int .i64 0, .int .i64 b, .int .i64 r, .slice none 0 0] 26)) = w3 at B3 BX BY BC SZ ⊢
    obtain ⟨p, hp, p0, p1⟩ := wrap_to b n (by have := HN.out; omega) (by have := HN.out; omega)
    obtain ⟨q, hq, q0, q1⟩ := wrap_to (wrap64 (b + rd regs r)) n (by have := HN.out; omega) (by have := HN.out; omega)
    have HP := Aside0.mk (And.intro hp hq)
    have HPQ := Aside0.mk (And.intro (And.intro p0 p1) (And.intro q0 q1))
    have HSS := Aside0.mk (fun W (hb : Below w3.heap.size w3 W) => (show (W.cell? ⟨g, 0, none⟩ = some (.int .i64 c0) ∧ W.cell? ⟨g, 1, none⟩ = some (.int .i64 c1) ∧ W.cell? ⟨g, 2, none⟩ = some (.int .i64 c2) ∧ W.cell? ⟨g, 3, none⟩ = some (.int .i64 c3) ∧ W.cell? ⟨g, 4, none⟩ = some (.int .i64 c4) ∧ W.cell? ⟨g, 5, none⟩ = some (.int .i64 c5) ∧ W.cell? ⟨g, 6, none⟩ = some (.int .i64 c6) ∧ W.cell? ⟨g, 7, none⟩ = some (.int .i64 c7) ∧ W.cell? ⟨g, 8, none⟩ = some (.int .i64 c8) ∧ W.cell? ⟨g, 9, none⟩ = some (.int .i64 c9) ∧ W.cell? ⟨g, 10, none⟩ = some (.int .i64 c10) ∧ W.cell? ⟨g, 11, none⟩ = some (.int .i64 c11)) ∧ (W.cell? ⟨w2.heap.size, 0, none⟩ = some (.int .i64 1) ∧ W.cell? ⟨w2.heap.size, 1, none⟩ = some (.int .i64 0) ∧ W.cell? ⟨w2.heap.size, 2, none⟩ = some (.int .i64 b) ∧ W.cell? ⟨w2.heap.size, 3, none⟩ = some (.int .i64 (-1)) ∧ W.cell? ⟨w2.heap.size, 4, none⟩ = some (.slice none 0 0)) ∧ (W.cell? ⟨w2.heap.size + 1, 0, none⟩ = some (.int .i64 2) ∧ W.cell? ⟨w2.heap.size + 1, 1, none⟩ = some (.int .i64 0) ∧ W.cell? ⟨w2.heap.size + 1, 2, none⟩ = some (.int .i64 b) ∧ W.cell? ⟨w2.heap.size + 1, 3, none⟩ = some (.int .i64 r) ∧ W.cell? ⟨w2.heap.size + 1, 4, none⟩ = some (.slice none 0 0)) from ⟨conf_cells ((hb.block g (Array.getElem?_eq_some_iff.1 BC.out).1).trans BC.out), five_cells ((hb.block _ (Array.getElem?_eq_some_iff.1 BX.out).1).trans BX.out), five_cells ((hb.block _ (Array.getElem?_eq_some_iff.1 BY.out).1).trans BY.out)⟩))
    have HA1 := Aside0.mk (fun W (hb : Below w3.heap.size w3 W) => addr_call0 1 c0 c1 c2 c3 c4 c5 c6 c7 c8 c9 c10 c11 1 0 b (-1) A cA regs p W (C_below HC.out.1 (((HB2.out.trans (Below.low B3.out HB2.out.size)).trans (Below.low hb (by have := HB2.out.size; have := B3.out.size; omega))))) HC.out.2 (by rw [addr_plain 1 c0 c1 c2 c3 c4 c5 c6 c7 c8 c9 c10 c11 n _ _ _ _ _ HWD.out]; exact HP.out.1))
    have HA2 := Aside0.mk (fun W (hb : Below w3.heap.size w3 W) => addr_call0 1 c0 c1 c2 c3 c4 c5 c6 c7 c8 c9 c10 c11 2 0 b r A cA regs q W (C_below HC.out.1 (((HB2.out.trans (Below.low B3.out HB2.out.size)).trans (Below.low hb (by have := HB2.out.size; have := B3.out.size; omega))))) HC.out.2 (by rw [addr_reg 0 c0 c1 c2 c3 c4 c5 c6 c7 c8 c9 c10 c11 n _ _ _ _ _ _ HWD.out z3 z4]; exact HP.out.2))
    have HKd := Aside0.mk (below_drew (Below.refl w3.heap.size w3))
    clear hp hq p0 p1 q0 q1
    refine wp_region_held_drew (S := (fun W => (W.cell? ⟨g, 0, none⟩ = some (.int .i64 c0) ∧ W.cell? ⟨g, 1, none⟩ = some (.int .i64 c1) ∧ W.cell? ⟨g, 2, none⟩ = some (.int .i64 c2) ∧ W.cell? ⟨g, 3, none⟩ = some (.int .i64 c3) ∧ W.cell? ⟨g, 4, none⟩ = some (.int .i64 c4) ∧ W.cell? ⟨g, 5, none⟩ = some (.int .i64 c5) ∧ W.cell? ⟨g, 6, none⟩ = some (.int .i64 c6) ∧ W.cell? ⟨g, 7, none⟩ = some (.int .i64 c7) ∧ W.cell? ⟨g, 8, none⟩ = some (.int .i64 c8) ∧ W.cell? ⟨g, 9, none⟩ = some (.int .i64 c9) ∧ W.cell? ⟨g, 10, none⟩ = some (.int .i64 c10) ∧ W.cell? ⟨g, 11, none⟩ = some (.int .i64 c11)) ∧ (W.cell? ⟨w2.heap.size, 0, none⟩ = some (.int .i64 1) ∧ W.cell? ⟨w2.heap.size, 1, none⟩ = some (.int .i64 0) ∧ W.cell? ⟨w2.heap.size, 2, none⟩ = some (.int .i64 b) ∧ W.cell? ⟨w2.heap.size, 3, none⟩ = some (.int .i64 (-1)) ∧ W.cell? ⟨w2.heap.size, 4, none⟩ = some (.slice none 0 0)) ∧ (W.cell? ⟨w2.heap.size + 1, 0, none⟩ = some (.int .i64 2) ∧ W.cell? ⟨w2.heap.size + 1, 1, none⟩ = some (.int .i64 0) ∧ W.cell? ⟨w2.heap.size + 1, 2, none⟩ = some (.int .i64 b) ∧ W.cell? ⟨w2.heap.size + 1, 3, none⟩ = some (.int .i64 r) ∧ W.cell? ⟨w2.heap.size + 1, 4, none⟩ = some (.slice none 0 0)))) (by kernel_rfl) ?_ (fun hH => ?_)
    · exact HSS.out _ HKd.out
    refine wpAnyH_take (i := 0) (oi := { dst := some 41, op := Op.load 30 (Operand.tmp 4), type := 30, pos := "extra.go:21", after := #[], guard := none }) (v := ?vq1) rfl (by kernel_rfl) (by kernel_rfl) (by kernel_rfl) (fun _ _ _ h => h) (Or.inl ⟨by rfl, ?yq1⟩) (by assumption) ?rq1
    case yq1 => (intro w hSw; (try dsimp only at hSw); go_simp; (try with_reducible rfl))
    (try simp only [Act.put, List.setIfInBounds_toArray, List.set_cons_zero, List.set_cons_succ])
    refine wpAnyH_take (i := 1) (oi := { dst := some 42, op := Op.load 26 (Operand.tmp 10), type := 26, pos := "extra.go:21", after := #[], guard := none }) (v := ?vq2) rfl (by kernel_rfl) (by kernel_rfl) (by kernel_rfl) (fun _ _ _ h => h) (Or.inl ⟨by rfl, ?yq2⟩) (by assumption) ?rq2
    case yq2 => (intro w hSw; (try dsimp only at hSw); go_simp; (try with_reducible rfl))
    (try simp only [Act.put, List.setIfInBounds_toArray, List.set_cons_zero, List.set_cons_succ])
    refine wpAnyH_take (i := 2) (oi := { dst := some 43, op := Op.move (Operand.tmp 2), type := 24, pos := "extra.go:21", after := #[], guard := none }) (v := ?vq3) rfl (by kernel_rfl) (by kernel_rfl) (by kernel_rfl) (fun _ _ _ h => h) (Or.inl ⟨by rfl, ?yq3⟩) (by assumption) ?rq3
    case yq3 => (intro w hSw; (try dsimp only at hSw); go_simp; (try with_reducible rfl))
    (try simp only [Act.put, List.setIfInBounds_toArray, List.set_cons_zero, List.set_cons_succ])
    refine wpAnyH_take (i := 4) (oi := { dst := some 45, op := Op.load 30 (Operand.tmp 4), type := 30, pos := "extra.go:21", after := #[], guard := none }) (v := ?vq4) rfl (by kernel_rfl) (by kernel_rfl) (by kernel_rfl) (fun _ _ _ h => h) (Or.inl ⟨by rfl, ?yq4⟩) (by assumption) ?rq4
    case yq4 => (intro w hSw; (try dsimp only at hSw); go_simp; (try with_reducible rfl))
    (try simp only [Act.put, List.setIfInBounds_toArray, List.set_cons_zero, List.set_cons_succ])
    refine wpAnyH_take (i := 5) (oi := { dst := some 46, op := Op.load 26 (Operand.tmp 11), type := 26, pos := "extra.go:21", after := #[], guard := none }) (v := ?vq5) rfl (by kernel_rfl) (by kernel_rfl) (by kernel_rfl) (fun _ _ _ h => h) (Or.inl ⟨by rfl, ?yq5⟩) (by assumption) ?rq5
    case yq5 => (intro w hSw; (try dsimp only at hSw); go_simp; (try with_reducible rfl))
    (try simp only [Act.put, List.setIfInBounds_toArray, List.set_cons_zero, List.set_cons_succ])
    refine wpAnyH_take (i := 6) (oi := { dst := some 47, op := Op.move (Operand.tmp 2), type := 24, pos := "extra.go:21", after := #[], guard := none }) (v := ?vq6) rfl (by kernel_rfl) (by kernel_rfl) (by kernel_rfl) (fun _ _ _ h => h) (Or.inl ⟨by rfl, ?yq6⟩) (by assumption) ?rq6
    case yq6 => (intro w hSw; (try dsimp only at hSw); go_simp; (try with_reducible rfl))
    (try simp only [Act.put, List.setIfInBounds_toArray, List.set_cons_zero, List.set_cons_succ])
    refine wpAnyH_ready (rs := [3]) (by kernel_rfl) (by simp) ?_
    refine AllReadyH.cons (o := { dst := some 44, op := Op.call { callee := Callee.value (Operand.func 12), args := #[Operand.tmp 41, Operand.tmp 42, Operand.tmp 43], argTypes := #[30, 26, 24] }, type := 3, pos := "extra.go:21", after := #[{ on := 0, ground := Ground.data }, { on := 1, ground := Ground.data }, { on := 2, ground := Ground.data }], guard := none }) rfl (fun K hK => ?_) AllReadyH.nil
    go_simp
    (go_at_call 12; (with_reducible refine (HA1.out _ HKd.out).mono ?_); rintro e w4 ⟨rfl, hb⟩; have K4 := Aside0.mk (below_then HKd.out HKd.out.size hb); clear hb)
    go_wp2_with fail
    refine hK.out _ _ ?_ (fun hHq6 => ?_)
    · (try dsimp only)
      exact HSS.out _ K4.out
    clear hK K hH
    (try simp only [Act.put, List.setIfInBounds_toArray, List.set_cons_zero, List.set_cons_succ])
    refine wpAnyH_ready (rs := [7]) (by kernel_rfl) (by simp) ?_
    refine AllReadyH.cons (o := { dst := some 48, op := Op.call { callee := Callee.value (Operand.func 12), args := #[Operand.tmp 45, Operand.tmp 46, Operand.tmp 47], argTypes := #[30, 26, 24] }, type := 3, pos := "extra.go:21", after := #[{ on := 4, ground := Ground.data }, { on := 5, ground := Ground.data }, { on := 6, ground := Ground.data }, { on := 3, ground := Ground.chain }], guard := none }) rfl (fun K hK => ?_) AllReadyH.nil
    go_simp
    (go_at_call 12; (with_reducible refine (HA2.out _ K4.out).mono ?_); rintro e w5 ⟨rfl, hb⟩; have K5 := Aside0.mk (below_then K4.out K4.out.size hb); clear hb)
    go_wp2_with fail
    refine hK.out _ _ ?_ (fun hHq7 => ?_)
    · (try dsimp only)
      exact HSS.out _ K5.out
    clear hK K hHq6
    (try simp only [Act.put, List.setIfInBounds_toArray, List.set_cons_zero, List.set_cons_succ])
    refine wpAnyH_take (i := 8) (oi := { dst := some 12, op := Op.assign (Operand.tmp 44), type := 3, pos := "extra.go:21", after := #[{ on := 3, ground := Ground.data }, { on := 7, ground := Ground.chain }, { on := 0, ground := Ground.phase }, { on := 1, ground := Ground.phase }, { on := 2, ground := Ground.phase }, { on := 3, ground := Ground.phase }, { on := 4, ground := Ground.textOnly Departure.lateStores }, { on := 5, ground := Ground.textOnly Departure.lateStores }, { on := 6, ground := Ground.textOnly Departure.lateStores }, { on := 7, ground := Ground.textOnly Departure.lateStoresUnsure }], guard := none }) (v := ?vq9) rfl (by kernel_rfl) (by kernel_rfl) (by kernel_rfl) (fun _ _ _ h => h) (Or.inl ⟨by rfl, ?yq9⟩) (by assumption) ?rq9
    case yq9 => (intro w hSw; (try dsimp only at hSw); go_simp; (try with_reducible rfl))
    (try simp only [Act.put, List.setIfInBounds_toArray, List.set_cons_zero, List.set_cons_succ])
    refine wpAnyH_take (i := 9) (oi := { dst := some 13, op := Op.assign (Operand.tmp 48), type := 3, pos := "extra.go:21", after := #[{ on := 7, ground := Ground.data }, { on := 8, ground := Ground.chain }, { on := 0, ground := Ground.phase }, { on := 1, ground := Ground.phase }, { on := 2, ground := Ground.phase }, { on := 3, ground := Ground.phase }, { on := 4, ground := Ground.phase }, { on := 5, ground := Ground.phase }, { on := 6, ground := Ground.phase }, { on := 7, ground := Ground.phase }, { on := 8, ground := Ground.phase }], guard := none }) (v := ?vq10) rfl (by kernel_rfl) (by kernel_rfl) (by kernel_rfl) (fun _ _ _ h => h) (Or.inl ⟨by rfl, ?yq10⟩) (by assumption) ?rq10
    case yq10 => (intro w hSw; (try dsimp only at hSw); go_simp; (try with_reducible rfl))
    (try simp only [Act.put, List.setIfInBounds_toArray, List.set_cons_zero, List.set_cons_succ])
    refine wpAnyH_done (by kernel_rfl) ?_ _
    have BY5 := Aside0.mk ((K5.out.block _ (Array.getElem?_eq_some_iff.1 BY.out).1).trans BY.out)
    have BX5 := Aside0.mk ((K5.out.block _ (Array.getElem?_eq_some_iff.1 BX.out).1).trans BX.out)
    have BC5 := Aside0.mk ((K5.out.block _ (Array.getElem?_eq_some_iff.1 BC.out).1).trans BC.out)
    have LG := Aside0.mk (show g < w2.heap.size from (Array.getElem?_eq_some_iff.1 BK2.out).1)
    have BY6 := Aside0.mk (show (w5.setCell ⟨w2.heap.size + 1, 3, none⟩ (.int .i64 regs.length)).heap[w2.heap.size + 1]? = some (.cells #[.int .i64 2, .int .i64 0, .int .i64 b, .int .i64 regs.length, .slice none 0 0] 26 (0, 0)) by have h := heap_setCell_same w5 (w2.heap.size + 1) 3 _ _ (.int .i64 regs.length) BY5.out; exact h)
    have BX6 := Aside0.mk ((Below.heap_setCell w5 ⟨w2.heap.size + 1, 3, none⟩ (.int .i64 regs.length) (w2.heap.size) (by show w2.heap.size ≠ w2.heap.size + 1; omega)).trans BX5.out)
    have BC6 := Aside0.mk ((Below.heap_setCell w5 ⟨w2.heap.size + 1, 3, none⟩ (.int .i64 regs.length) g (by have := LG.out; show g ≠ w2.heap.size + 1; omega)).trans BC5.out)
    have ky : w5.cell? ⟨w2.heap.size + 1, 3, none⟩ = some (.int .i64 r) := (blk_cell BY5.out 3).trans rfl
    have jy := frozen_of_row w5 (w2.heap.size + 1) 3 _ _ BY5.out
    have HBW := Aside0.mk (((HB2.out.trans (Below.low B3.out HB2.out.size)).trans (Below.low K5.out (by have := HB2.out.size; have := B3.out.size; omega))).setCell (p := ⟨w2.heap.size + 1, 3, none⟩) (by have := HB2.out.size; show w.heap.size ≤ w2.heap.size + 1; omega) (.int .i64 regs.length))
    have HF6 := Aside0.mk (first_ _ (HE.out.below HBW.out))
    go_wp2_with fail
    refine HF6.out.mono ?_
    rintro e w7 ⟨rfl, hb⟩
    have HB7 := Aside0.mk (below_then HBW.out HBW.out.size hb)
    have HS7 := Aside0.mk (fun W (hb7 : Below w7.heap.size w7 W) => show (W.cell? ⟨g, 0, none⟩ = some (.int .i64 c0) ∧ W.cell? ⟨g, 1, none⟩ = some (.int .i64 c1) ∧ W.cell? ⟨g, 2, none⟩ = some (.int .i64 c2) ∧ W.cell? ⟨g, 3, none⟩ = some (.int .i64 c3) ∧ W.cell? ⟨g, 4, none⟩ = some (.int .i64 c4) ∧ W.cell? ⟨g, 5, none⟩ = some (.int .i64 c5) ∧ W.cell? ⟨g, 6, none⟩ = some (.int .i64 c6) ∧ W.cell? ⟨g, 7, none⟩ = some (.int .i64 c7) ∧ W.cell? ⟨g, 8, none⟩ = some (.int .i64 c8) ∧ W.cell? ⟨g, 9, none⟩ = some (.int .i64 c9) ∧ W.cell? ⟨g, 10, none⟩ = some (.int .i64 c10) ∧ W.cell? ⟨g, 11, none⟩ = some (.int .i64 c11)) ∧ (W.cell? ⟨w2.heap.size, 0, none⟩ = some (.int .i64 1) ∧ W.cell? ⟨w2.heap.size, 1, none⟩ = some (.int .i64 0) ∧ W.cell? ⟨w2.heap.size, 2, none⟩ = some (.int .i64 b) ∧ W.cell? ⟨w2.heap.size, 3, none⟩ = some (.int .i64 (-1)) ∧ W.cell? ⟨w2.heap.size, 4, none⟩ = some (.slice none 0 0)) ∧ (W.cell? ⟨w2.heap.size + 1, 0, none⟩ = some (.int .i64 2) ∧ W.cell? ⟨w2.heap.size + 1, 1, none⟩ = some (.int .i64 0) ∧ W.cell? ⟨w2.heap.size + 1, 2, none⟩ = some (.int .i64 b) ∧ W.cell? ⟨w2.heap.size + 1, 3, none⟩ = some (.int .i64 regs.length) ∧ W.cell? ⟨w2.heap.size + 1, 4, none⟩ = some (.slice none 0 0)) from ⟨conf_cells ((hb7.block g (Array.getElem?_eq_some_iff.1 ((hb.block _ (Array.getElem?_eq_some_iff.1 BC6.out).1).trans BC6.out)).1).trans ((hb.block _ (Array.getElem?_eq_some_iff.1 BC6.out).1).trans BC6.out)), five_cells ((hb7.block _ (Array.getElem?_eq_some_iff.1 ((hb.block _ (Array.getElem?_eq_some_iff.1 BX6.out).1).trans BX6.out)).1).trans ((hb.block _ (Array.getElem?_eq_some_iff.1 BX6.out).1).trans BX6.out)), five_cells ((hb7.block _ (Array.getElem?_eq_some_iff.1 ((hb.block _ (Array.getElem?_eq_some_iff.1 BY6.out).1).trans BY6.out)).1).trans ((hb.block _ (Array.getElem?_eq_some_iff.1 BY6.out).1).trans BY6.out))⟩)
    have r1 : 0 ≤ p := HPQ.out.1.1
    have r2 : p < n := HPQ.out.1.2
    have r3 : 0 ≤ q := HPQ.out.2.1
    have r4 : q < n := HPQ.out.2.2
    clear ky jy hb
    go_wp2_with fail
    refine (calc_Wrap.calls b n p _ HP.out.1).mono ?_
    rintro e w8 ⟨rfl, hd⟩
    have K8 := Aside0.mk hd.below
    have HB8 := Aside0.mk (below_then HB7.out HB7.out.size hd.below)
    obtain ⟨ad, hA, c9⟩ := at_int (C_below HC.out.1 HB8.out) r z3 z4
    cases hA
    clear hd
    go_wp2_with fail
    refine (calc_Wrap.calls _ n q _ HP.out.2).mono ?_
    rintro e w9 ⟨rfl, hd⟩
    have K9 := Aside0.mk (K8.out.trans (Below.low hd.below K8.out.size))
    have HB9 := Aside0.mk (below_then HB8.out HB8.out.size hd.below)
    have hHH := HS7.out _ K9.out
    clear hd c9
    have HA9 := Aside0.mk (addr_call0 1 c0 c1 c2 c3 c4 c5 c6 c7 c8 c9 c10 c11 2 0 b regs.length (some ad) cA regs 0 w9 (C_below HC.out.1 HB9.out) HC.out.2 (addr_far 0 c0 c1 c2 c3 c4 c5 c6 c7 c8 c9 c10 c11 _ _ _ _ _ _ (by omega) (by omega)))
    go_wp2_with fail
    refine HA9.out.mono ?_
    rintro e wa ⟨rfl, hd⟩
    have Ka := Aside0.mk (K9.out.trans (Below.low hd K9.out.size))
    have HBa := Aside0.mk (below_then HB9.out HB9.out.size hd)
    replace hHH := HS7.out _ Ka.out
    clear hd
    have HAa := Aside0.mk (prog_Addr.calls 1 c0 c1 c2 c3 c4 c5 c6 c7 c8 c9 c10 c11 1 0 b (-1) none 0 [] none 0 [] p wa (C_nil _) (Nat.le_refl _) (C_nil _) (Nat.le_refl _) (by rw [addr_plain 1 c0 c1 c2 c3 c4 c5 c6 c7 c8 c9 c10 c11 n _ _ _ _ _ HWD.out]; exact HP.out.1))
    go_wp2_with fail
    refine HAa.out.mono ?_
    rintro e wb ⟨rfl, hd⟩
    have HBb := Aside0.mk (below_then HBa.out HBa.out.size hd)
    clear hd
    go_wp2
    go_ret
    exact ⟨rfl, HBb.out⟩
theorem addr_row (x : S30) (b : Int) (A : Option Addr) (cA : Nat) (regs : List Int) (r : Int) (w : World) (hE : Env w) (hC : (Kd.int .i64).C w A regs.length regs) (hcap : regs.length ≤ cA) (_hm : regs.length ≤ maxLen) :
    Calls Tryd.prog 4 #[.agg #[.int .i64 x.f0, .int .i64 x.f1, .int .i64 x.f2, .int .i64 x.f3, .int .i64 x.f4, .int .i64 x.f5, .int .i64 x.f6, .int .i64 x.f7, .int .i64 x.f8, .int .i64 x.f9, .int .i64 x.f10, .int .i64 x.f11], .int .i64 b, .slice A regs.length cA, .int .i64 r] w fun e w' => e = .returned (.bool true) ∧ Below w.heap.size w w' :=
  addr_walk _ _ _ _ _ _ _ _ _ _ _ _ b r A cA regs w hE hC hcap
end Go.Proofs.YtefcjnnngaaihaaDoor.Pg
