/- CoreCells: its walk. -/
import Derived.Test.YtodhanlbdbfieaaCc8
import Derived.Deep.RegionHeld3
namespace Go.Proofs.Ytodhanlbdbfieaa.Co
open Go.RowKit Go.Proofs.YtodhanlbdbfieaaW.PrintWords Go.Proofs.YtodhanlbdbfieaaW.PrintLast Go.Proofs.YtodhanlbdbfieaaW.PrintMore Go.Proofs.Ytodhanlbdbfieaa.PMd Go.Proofs.Ytodhanlbdbfieaa.Ln
set_option linter.unusedVariables false
set_option linter.unusedSimpArgs false
set_option maxHeartbeats 4000000 in
theorem cells_early (c : Cf) (A : Option Addr) (cA : Nat) (heap : List Int) (a v : Int) (ps : Int) (w : World) (h : 5000 < heap.length ∨ ps < 0 ∨ 100 < ps) :
    Calls Try.prog 4 #[.agg #[.int .i64 c.f0, .int .i64 c.f1, .int .i64 c.f2, .int .i64 c.f3, .int .i64 c.f4, .int .i64 c.f5, .int .i64 c.f6, .int .i64 c.f7, .int .i64 c.f8, .int .i64 c.f9, .int .i64 c.f10, .int .i64 c.f11], .slice A heap.length cA, .int .i64 a, .int .i64 v, .int .i64 ps] w fun e w' => e = .returned (.bool true) ∧ Below w.heap.size w w' := by
  have HF := Aside0.mk coreFirst_
  have key : ∀ b0 b1 b2 : Bool, decide (heap.length > 5000) = b0 → decide (ps < 0) = b1 → decide (ps > 100) = b2 → (b0 || b1 || b2) = true →
      Calls Try.prog 4 #[.agg #[.int .i64 c.f0, .int .i64 c.f1, .int .i64 c.f2, .int .i64 c.f3, .int .i64 c.f4, .int .i64 c.f5, .int .i64 c.f6, .int .i64 c.f7, .int .i64 c.f8, .int .i64 c.f9, .int .i64 c.f10, .int .i64 c.f11], .slice A heap.length cA, .int .i64 a, .int .i64 v, .int .i64 ps] w fun e w' => e = .returned (.bool true) ∧ Below w.heap.size w w' := by
    intro b0 b1 b2 h0 h1 h2 h
    have h0' : decide ((heap.length : Int) > 5000) = b0 := by rw [← h0]; exact decide_eq_decide.2 (by omega)
    cases b0 with
    | true =>
      go_enter Try.func4, Try.ntmps4
      go_wp2_with fail
      refine (HF.out _).mono ?_
      rintro e w1 ⟨rfl, hb1⟩
      have HB := Aside0.mk (below_then (below_alloc (Below.refl _ _) _) (below_alloc (Below.refl _ _) _).size hb1)
      clear hb1
      go_wp2_with fail
      refine (HF.out w1).mono ?_
      rintro e w2 ⟨rfl, hb2⟩
      have HB2 := Aside0.mk (below_then HB.out HB.out.size hb2)
      clear hb2
      go_wp2
      go_ret
      exact ⟨rfl, HB2.out⟩
    | false =>
    cases b1 with
    | true =>
      go_enter Try.func4, Try.ntmps4
      go_wp2_with fail
      refine (HF.out _).mono ?_
      rintro e w1 ⟨rfl, hb1⟩
      have HB := Aside0.mk (below_then (below_alloc (Below.refl _ _) _) (below_alloc (Below.refl _ _) _).size hb1)
      clear hb1
      go_wp2_with fail
      refine (HF.out w1).mono ?_
      rintro e w2 ⟨rfl, hb2⟩
      have HB2 := Aside0.mk (below_then HB.out HB.out.size hb2)
      clear hb2
      go_wp2
      go_ret
      exact ⟨rfl, HB2.out⟩
    | false =>
    cases b2 with
    | true =>
      go_enter Try.func4, Try.ntmps4
      go_wp2_with fail
      refine (HF.out _).mono ?_
      rintro e w1 ⟨rfl, hb1⟩
      have HB := Aside0.mk (below_then (below_alloc (Below.refl _ _) _) (below_alloc (Below.refl _ _) _).size hb1)
      clear hb1
      go_wp2_with fail
      refine (HF.out w1).mono ?_
      rintro e w2 ⟨rfl, hb2⟩
      have HB2 := Aside0.mk (below_then HB.out HB.out.size hb2)
      clear hb2
      go_wp2
      go_ret
      exact ⟨rfl, HB2.out⟩
    | false =>
    cases h
  refine key _ _ _ rfl rfl rfl ?_
  simp only [Bool.or_eq_true, decide_eq_true_eq]
  omega
set_option maxHeartbeats 16000000 in
set_option maxRecDepth 100000 in
theorem cells_bad1 (c : Cf) (A : Option Addr) (cA : Nat) (heap : List Int) (a v : Int) (ps : Int) (w : World) (h1 : heap.length ≤ 5000) (p0 : 0 ≤ ps) (p1 : ps ≤ 100) (hck : shape_Check.f c.f0 c.f1 c.f2 c.f3 c.f4 c.f5 c.f6 c.f7 c.f8 c.f9 c.f10 c.f11 = some 1) :
    Calls Try.prog 4 #[.agg #[.int .i64 c.f0, .int .i64 c.f1, .int .i64 c.f2, .int .i64 c.f3, .int .i64 c.f4, .int .i64 c.f5, .int .i64 c.f6, .int .i64 c.f7, .int .i64 c.f8, .int .i64 c.f9, .int .i64 c.f10, .int .i64 c.f11], .slice A heap.length cA, .int .i64 a, .int .i64 v, .int .i64 ps] w fun e w' => e = .returned (.bool true) ∧ Below w.heap.size w w' := by
  have hu := Try.underlying41
  have hu2 := Try.underlying54
  have hu3 := Try.underlying92
  have HF := Aside0.mk coreFirst_
  have a1 : decide ((heap.length : Int) > 5000) = false := decide_eq_false (by omega)
  have a2 : decide (heap.length > 5000) = false := decide_eq_false (by omega)
  have a2' : decide (5000 < heap.length) = false := decide_eq_false (by omega)
  have a3 : decide (ps < 0) = false := decide_eq_false (by omega)
  have a4 : decide (ps > 100) = false := decide_eq_false (by omega)
  have HK := Aside0.mk (fun W => shape_Check.calls c.f0 c.f1 c.f2 c.f3 c.f4 c.f5 c.f6 c.f7 c.f8 c.f9 c.f10 c.f11 1 W hck)
  have HN := Aside0.mk (fun W => coreNew_bad1 c A cA heap W hck)
  clear hck h1 p0 p1
  go_enter Try.func4, Try.ntmps4
  go_wp2_with fail
  refine (HF.out _).mono ?_
  rintro e w1 ⟨rfl, hb⟩
  have BK := Aside0.mk (blk_below (blk_new w (.cells #[.int .i64 c.f0, .int .i64 c.f1, .int .i64 c.f2, .int .i64 c.f3, .int .i64 c.f4, .int .i64 c.f5, .int .i64 c.f6, .int .i64 c.f7, .int .i64 c.f8, .int .i64 c.f9, .int .i64 c.f10, .int .i64 c.f11] 41)) hb)
  have HB1 := Aside0.mk (below_then (below_alloc (Below.refl _ _) _) (below_alloc (Below.refl _ _) _).size hb)
  clear hb
  generalize hg : w.heap.size = g at BK
  have HG := Aside0.mk hg
  have HX := Aside0.mk (fun W (hb : Below w1.heap.size w1 W) => (show W.cell? ⟨g, 0, none⟩ = some (.int .i64 c.f0) ∧ W.cell? ⟨g, 1, none⟩ = some (.int .i64 c.f1) ∧ W.cell? ⟨g, 2, none⟩ = some (.int .i64 c.f2) ∧ W.cell? ⟨g, 3, none⟩ = some (.int .i64 c.f3) ∧ W.cell? ⟨g, 4, none⟩ = some (.int .i64 c.f4) ∧ W.cell? ⟨g, 5, none⟩ = some (.int .i64 c.f5) ∧ W.cell? ⟨g, 6, none⟩ = some (.int .i64 c.f6) ∧ W.cell? ⟨g, 7, none⟩ = some (.int .i64 c.f7) ∧ W.cell? ⟨g, 8, none⟩ = some (.int .i64 c.f8) ∧ W.cell? ⟨g, 9, none⟩ = some (.int .i64 c.f9) ∧ W.cell? ⟨g, 10, none⟩ = some (.int .i64 c.f10) ∧ W.cell? ⟨g, 11, none⟩ = some (.int .i64 c.f11) from by
    have h := (hb.block g (Array.getElem?_eq_some_iff.1 BK.out).1).trans BK.out
    exact ⟨(blk_cell h 0).trans rfl, (blk_cell h 1).trans rfl, (blk_cell h 2).trans rfl, (blk_cell h 3).trans rfl, (blk_cell h 4).trans rfl, (blk_cell h 5).trans rfl, (blk_cell h 6).trans rfl, (blk_cell h 7).trans rfl, (blk_cell h 8).trans rfl, (blk_cell h 9).trans rfl, (blk_cell h 10).trans rfl, (blk_cell h 11).trans rfl⟩))
  have HGL := Aside0.mk (show g < w1.heap.size from (Array.getElem?_eq_some_iff.1 BK.out).1)
  clear hg
  (try rw [HG.out])
  obtain ⟨x0, x1, x2, x3, x4, x5, x6, x7, x8, x9, x10, x11⟩ := HX.out _ (Below.refl _ _)
  go_wp2_with fail
  (try rw [HG.out])
  refine (HN.out _).mono ?_
  rintro e w2 ⟨rfl, hb⟩
  have E2 := Aside0.mk hb
  clear hb x0 x1 x2 x3 x4 x5 x6 x7 x8 x9 x10 x11
  obtain ⟨x0, x1, x2, x3, x4, x5, x6, x7, x8, x9, x10, x11⟩ := HX.out _ E2.out
  go_wp2_with fail
  refine (HK.out _).mono ?_
  rintro e w3 ⟨rfl, hb⟩
  have E3 := Aside0.mk (below_then E2.out E2.out.size hb)
  clear hb x0 x1 x2 x3 x4 x5 x6 x7 x8 x9 x10 x11
  go_wp2_with fail
  refine (HF.out _).mono ?_
  rintro e w5 ⟨rfl, hb⟩
  have E5 := Aside0.mk (below_then HB1.out HB1.out.size (below_then E3.out E3.out.size hb))
  clear hb
  go_wp2
  go_ret
  exact ⟨rfl, E5.out⟩
set_option maxHeartbeats 16000000 in
set_option maxRecDepth 100000 in
theorem cells_bad2 (c : Cf) (A : Option Addr) (cA : Nat) (heap : List Int) (a v : Int) (ps : Int) (w : World) (h1 : heap.length ≤ 5000) (p0 : 0 ≤ ps) (p1 : ps ≤ 100) (n : Int) (hck : shape_Check.f c.f0 c.f1 c.f2 c.f3 c.f4 c.f5 c.f6 c.f7 c.f8 c.f9 c.f10 c.f11 = some 0) (hwd : shape_Words.f c.f0 c.f1 c.f2 c.f3 c.f4 c.f5 c.f6 c.f7 c.f8 c.f9 c.f10 c.f11 = some n) (hne : (heap.length : Int) ≠ n) :
    Calls Try.prog 4 #[.agg #[.int .i64 c.f0, .int .i64 c.f1, .int .i64 c.f2, .int .i64 c.f3, .int .i64 c.f4, .int .i64 c.f5, .int .i64 c.f6, .int .i64 c.f7, .int .i64 c.f8, .int .i64 c.f9, .int .i64 c.f10, .int .i64 c.f11], .slice A heap.length cA, .int .i64 a, .int .i64 v, .int .i64 ps] w fun e w' => e = .returned (.bool true) ∧ Below w.heap.size w w' := by
  have hu := Try.underlying41
  have hu2 := Try.underlying54
  have hu3 := Try.underlying92
  have HF := Aside0.mk coreFirst_
  have a1 : decide ((heap.length : Int) > 5000) = false := decide_eq_false (by omega)
  have a2 : decide (heap.length > 5000) = false := decide_eq_false (by omega)
  have a2' : decide (5000 < heap.length) = false := decide_eq_false (by omega)
  have a3 : decide (ps < 0) = false := decide_eq_false (by omega)
  have a4 : decide (ps > 100) = false := decide_eq_false (by omega)
  have HK := Aside0.mk (fun W => shape_Check.calls c.f0 c.f1 c.f2 c.f3 c.f4 c.f5 c.f6 c.f7 c.f8 c.f9 c.f10 c.f11 0 W hck)
  have HW := Aside0.mk (fun W => shape_Words.calls c.f0 c.f1 c.f2 c.f3 c.f4 c.f5 c.f6 c.f7 c.f8 c.f9 c.f10 c.f11 n W hwd)
  have HN := Aside0.mk (fun W => coreNew_bad2 c A cA heap W n hck hwd hne)
  have d1 : ((heap.length : Int) != n) = true := bne_iff_ne.2 hne
  have d2 : ((heap.length : Int) == n) = false := beq_eq_false_iff_ne.2 hne
  clear hck hwd hne h1 p0 p1
  go_enter Try.func4, Try.ntmps4
  go_wp2_with fail
  refine (HF.out _).mono ?_
  rintro e w1 ⟨rfl, hb⟩
  have BK := Aside0.mk (blk_below (blk_new w (.cells #[.int .i64 c.f0, .int .i64 c.f1, .int .i64 c.f2, .int .i64 c.f3, .int .i64 c.f4, .int .i64 c.f5, .int .i64 c.f6, .int .i64 c.f7, .int .i64 c.f8, .int .i64 c.f9, .int .i64 c.f10, .int .i64 c.f11] 41)) hb)
  have HB1 := Aside0.mk (below_then (below_alloc (Below.refl _ _) _) (below_alloc (Below.refl _ _) _).size hb)
  clear hb
  generalize hg : w.heap.size = g at BK
  have HG := Aside0.mk hg
  have HX := Aside0.mk (fun W (hb : Below w1.heap.size w1 W) => (show W.cell? ⟨g, 0, none⟩ = some (.int .i64 c.f0) ∧ W.cell? ⟨g, 1, none⟩ = some (.int .i64 c.f1) ∧ W.cell? ⟨g, 2, none⟩ = some (.int .i64 c.f2) ∧ W.cell? ⟨g, 3, none⟩ = some (.int .i64 c.f3) ∧ W.cell? ⟨g, 4, none⟩ = some (.int .i64 c.f4) ∧ W.cell? ⟨g, 5, none⟩ = some (.int .i64 c.f5) ∧ W.cell? ⟨g, 6, none⟩ = some (.int .i64 c.f6) ∧ W.cell? ⟨g, 7, none⟩ = some (.int .i64 c.f7) ∧ W.cell? ⟨g, 8, none⟩ = some (.int .i64 c.f8) ∧ W.cell? ⟨g, 9, none⟩ = some (.int .i64 c.f9) ∧ W.cell? ⟨g, 10, none⟩ = some (.int .i64 c.f10) ∧ W.cell? ⟨g, 11, none⟩ = some (.int .i64 c.f11) from by
    have h := (hb.block g (Array.getElem?_eq_some_iff.1 BK.out).1).trans BK.out
    exact ⟨(blk_cell h 0).trans rfl, (blk_cell h 1).trans rfl, (blk_cell h 2).trans rfl, (blk_cell h 3).trans rfl, (blk_cell h 4).trans rfl, (blk_cell h 5).trans rfl, (blk_cell h 6).trans rfl, (blk_cell h 7).trans rfl, (blk_cell h 8).trans rfl, (blk_cell h 9).trans rfl, (blk_cell h 10).trans rfl, (blk_cell h 11).trans rfl⟩))
  have HGL := Aside0.mk (show g < w1.heap.size from (Array.getElem?_eq_some_iff.1 BK.out).1)
  clear hg
  (try rw [HG.out])
  obtain ⟨x0, x1, x2, x3, x4, x5, x6, x7, x8, x9, x10, x11⟩ := HX.out _ (Below.refl _ _)
  go_wp2_with fail
  (try rw [HG.out])
  refine (HN.out _).mono ?_
  rintro e w2 ⟨rfl, hb⟩
  have E2 := Aside0.mk hb
  clear hb x0 x1 x2 x3 x4 x5 x6 x7 x8 x9 x10 x11
  obtain ⟨x0, x1, x2, x3, x4, x5, x6, x7, x8, x9, x10, x11⟩ := HX.out _ E2.out
  go_wp2_with fail
  refine (HK.out _).mono ?_
  rintro e w3 ⟨rfl, hb⟩
  have E3 := Aside0.mk (below_then E2.out E2.out.size hb)
  clear hb x0 x1 x2 x3 x4 x5 x6 x7 x8 x9 x10 x11
  obtain ⟨x0, x1, x2, x3, x4, x5, x6, x7, x8, x9, x10, x11⟩ := HX.out _ E3.out
  go_wp2_with fail
  refine (HW.out _).mono ?_
  rintro e w4 ⟨rfl, hb⟩
  have E3 := Aside0.mk (below_then E3.out E3.out.size hb)
  clear hb x0 x1 x2 x3 x4 x5 x6 x7 x8 x9 x10 x11
  go_wp2_with fail
  refine (HF.out _).mono ?_
  rintro e w5 ⟨rfl, hb⟩
  have E5 := Aside0.mk (below_then HB1.out HB1.out.size (below_then E3.out E3.out.size hb))
  clear hb
  go_wp2
  go_ret
  exact ⟨rfl, E5.out⟩
/-- What stands behind New: the core, and what is wanted of its heap. -/
structure At (w1 : World) (b : Nat) (P : Pl) (F : Nat → Prop) (s : CoreS) (n : Nat) (want : List Int) (wA : Option Addr) (wc : Nat) (W : World) : Prop where
  core : IsCore W b P F s
  row : Row W 3 1 wA n wc (vi want)
  off : ∀ k, blk wA k → ¬ F k
  up : Below w1.heap.size w1 W
theorem At.below {w1 : World} {b : Nat} {P : Pl} {F : Nat → Prop} {s : CoreS} {n : Nat} {want : List Int} {wA : Option Addr} {wc : Nat} {W W' : World} (h : At w1 b P F s n want wA wc W) (hb : Below W.heap.size W W') : At w1 b P F s n want wA wc W' :=
  ⟨h.core.below hb, h.row.below hb, h.off, below_then h.up h.up.size hb⟩
theorem At.pass {w1 : World} {b : Nat} {P : Pl} {F : Nat → Prop} {s : CoreS} {n : Nat} {want : List Int} {wA : Option Addr} {wc : Nat} {W : World} (h : At w1 b P F s n want wA wc W) (hF : ∀ k, F k → w1.heap.size ≤ k) (v : Int) : At w1 b P F { s with now := v } n want wA wc (W.setCell ⟨b, 4, none⟩ (.int .i64 v)) :=
  ⟨h.core.now_to v, h.row.set (p := ⟨b, 4, none⟩) (fun hk => h.off _ hk h.core.own) _, h.off, h.up.setCell (p := ⟨b, 4, none⟩) (hF _ h.core.own) _⟩
set_option maxHeartbeats 16000000 in
set_option maxRecDepth 100000 in
theorem cells_in (c : Cf) (A : Option Addr) (cA : Nat) (heap : List Int) (a v : Int) (ps : Nat) (w : World) (hr : Kd.C (Kd.int .i64) w A heap.length heap) (hc : heap.length ≤ cA) (h1 : heap.length ≤ 5000) (p1 : ps ≤ 100) (sz nd : Nat) (hB : InB c.f0 c.f1 c.f2 c.f3 c.f4 c.f5 c.f6 c.f7 c.f8 c.f9 c.f10 c.f11) (z1 : 1 ≤ heap.length) (z2 : heap.length ≤ sz) (z3 : sz ≤ 65536) (z4 : 1 ≤ nd) (z5 : nd ≤ 10000)
    (hwd : shape_Words.f c.f0 c.f1 c.f2 c.f3 c.f4 c.f5 c.f6 c.f7 c.f8 c.f9 c.f10 c.f11 = some (heap.length : Int)) (hcl : shape_Cells.f c.f0 c.f1 c.f2 c.f3 c.f4 c.f5 c.f6 c.f7 c.f8 c.f9 c.f10 c.f11 = some (sz : Int)) (hnd : shape_Nodes.f c.f0 c.f1 c.f2 c.f3 c.f4 c.f5 c.f6 c.f7 c.f8 c.f9 c.f10 c.f11 = some (nd : Int)) (ha0 : 0 ≤ a) (ha1 : a < heap.length) :
    Calls Try.prog 4 #[.agg #[.int .i64 c.f0, .int .i64 c.f1, .int .i64 c.f2, .int .i64 c.f3, .int .i64 c.f4, .int .i64 c.f5, .int .i64 c.f6, .int .i64 c.f7, .int .i64 c.f8, .int .i64 c.f9, .int .i64 c.f10, .int .i64 c.f11], .slice A heap.length cA, .int .i64 a, .int .i64 v, .int .i64 (ps : Int)] w fun e w' => e = .returned (.bool true) ∧ Below w.heap.size w w' := by
  have hu := Try.underlying41
  have hu2 := Try.underlying54
  have hu3 := Try.underlying92
  have HF := Aside0.mk coreFirst_
  have a1 : decide ((heap.length : Int) > 5000) = false := decide_eq_false (by omega)
  have a2 : decide (heap.length > 5000) = false := decide_eq_false (by omega)
  have a2' : decide (5000 < heap.length) = false := decide_eq_false (by omega)
  have a3 : decide ((ps : Int) < 0) = false := decide_eq_false (by omega)
  have a4 : decide ((ps : Int) > 100) = false := decide_eq_false (by omega)
  have a5 : ((heap.length : Int) != (heap.length : Int)) = false := by simp
  have hck := chk_yes hB
  have hCC := ints_f (wantS heap a v) (by rw [want_len]; omega)
  have HK := Aside0.mk (fun W => shape_Check.calls c.f0 c.f1 c.f2 c.f3 c.f4 c.f5 c.f6 c.f7 c.f8 c.f9 c.f10 c.f11 0 W hck)
  have HW := Aside0.mk (fun W => shape_Words.calls c.f0 c.f1 c.f2 c.f3 c.f4 c.f5 c.f6 c.f7 c.f8 c.f9 c.f10 c.f11 (heap.length : Int) W hwd)
  have HCl := Aside0.mk (fun W => shape_Cells.calls c.f0 c.f1 c.f2 c.f3 c.f4 c.f5 c.f6 c.f7 c.f8 c.f9 c.f10 c.f11 (sz : Int) W hcl)
  have HN := Aside0.mk (fun W (hb : Below w.heap.size w W) => coreNew_ tabMoves c A cA heap W sz nd (Kd.C_below hr hb) hc hck hwd hcl hnd (by omega) z2 z3 (tabNews nd c.f7 z4 z5 hB.2.2.2.2.2.2.2.1.1 hB.2.2.2.2.2.2.2.1.2) hB.2.2.2.2.2.2.2.2.2.2.1.1 hB.2.2.2.2.2.2.2.2.2.2.1.2 (by have := hB.2.2.2.2.1.1; omega) hB.2.2.2.2.1.2)
  have HCp := Aside0.mk (fun W (hb : Below w.heap.size w W) => ltkref_Copy.calls A cA heap heap W (Kd.C_below hr hb) hc (copy_f heap h1))
  have HIn := Aside0.mk (fun W (A1 A2 : Option Addr) (c1 c2 : Nat) (h1 : Row W 3 1 A1 heap.length c1 (vi (wantS heap a v))) (h2 : Row W 3 1 A2 heap.length c2 (vi (wantS heap a v))) => (show Calls Try.prog 9 #[.slice A1 heap.length c1, .slice A2 heap.length c2] W (fun e w' => e = .returned (.bool true) ∧ Drawn0 W w') from by
    rw [← want_len heap a v] at h1 h2 ⊢
    exact ltkref_Ints.calls ((wantS heap a v).length + 1) A1 c1 (wantS heap a v) A2 c2 (wantS heap a v) true W (Row.reads_vi h1) h1.2.1 (Row.reads_vi h2) h2.2.1 hCC))
  have HWD := Aside0.mk hwd
  have HZ := Aside0.mk (And.intro z1 (And.intro z2 (And.intro z3 (And.intro p1 h1))))
  have HWL := Aside0.mk (want_len heap a v)
  obtain ⟨a, rfl⟩ := Int.eq_ofNat_of_zero_le ha0
  have ha1 : a < heap.length := by omega
  have HAN := Aside0.mk ha1
  have hwant : wantS heap (a : Int) v = heap.set a v := by unfold wantS; rw [if_pos ⟨ha0, by omega⟩, Int.toNat_natCast]
  have d0 : decide ((a : Int) ≥ 0) = true := decide_eq_true (by omega)
  have d1 : decide ((a : Int) < (heap.length : Int)) = true := decide_eq_true (by omega)
  have d2 : decide (a < heap.length) = true := decide_eq_true ha1
  have p5 : 0 ≤ (a : Int) := by omega
  have p6 : (a : Int) < (heap.length : Int) := by omega
  have HWT := Aside0.mk hwant
  clear hr hc h1 p1 hB z1 z2 z3 z4 z5 hwd hcl hnd ha0 ha1 hck hCC hwant
  go_enter Try.func4, Try.ntmps4
  go_wp2_with fail
  refine (HF.out _).mono ?_
  rintro e w1 ⟨rfl, hb⟩
  have BK := Aside0.mk (blk_below (blk_new w (.cells #[.int .i64 c.f0, .int .i64 c.f1, .int .i64 c.f2, .int .i64 c.f3, .int .i64 c.f4, .int .i64 c.f5, .int .i64 c.f6, .int .i64 c.f7, .int .i64 c.f8, .int .i64 c.f9, .int .i64 c.f10, .int .i64 c.f11] 41)) hb)
  have HB1 := Aside0.mk (below_then (below_alloc (Below.refl _ _) _) (below_alloc (Below.refl _ _) _).size hb)
  clear hb
  generalize hg : w.heap.size = g at BK
  have HG := Aside0.mk hg
  have HX := Aside0.mk (fun W (hb : Below w1.heap.size w1 W) => (show W.cell? ⟨g, 0, none⟩ = some (.int .i64 c.f0) ∧ W.cell? ⟨g, 1, none⟩ = some (.int .i64 c.f1) ∧ W.cell? ⟨g, 2, none⟩ = some (.int .i64 c.f2) ∧ W.cell? ⟨g, 3, none⟩ = some (.int .i64 c.f3) ∧ W.cell? ⟨g, 4, none⟩ = some (.int .i64 c.f4) ∧ W.cell? ⟨g, 5, none⟩ = some (.int .i64 c.f5) ∧ W.cell? ⟨g, 6, none⟩ = some (.int .i64 c.f6) ∧ W.cell? ⟨g, 7, none⟩ = some (.int .i64 c.f7) ∧ W.cell? ⟨g, 8, none⟩ = some (.int .i64 c.f8) ∧ W.cell? ⟨g, 9, none⟩ = some (.int .i64 c.f9) ∧ W.cell? ⟨g, 10, none⟩ = some (.int .i64 c.f10) ∧ W.cell? ⟨g, 11, none⟩ = some (.int .i64 c.f11) from by
    have h := (hb.block g (Array.getElem?_eq_some_iff.1 BK.out).1).trans BK.out
    exact ⟨(blk_cell h 0).trans rfl, (blk_cell h 1).trans rfl, (blk_cell h 2).trans rfl, (blk_cell h 3).trans rfl, (blk_cell h 4).trans rfl, (blk_cell h 5).trans rfl, (blk_cell h 6).trans rfl, (blk_cell h 7).trans rfl, (blk_cell h 8).trans rfl, (blk_cell h 9).trans rfl, (blk_cell h 10).trans rfl, (blk_cell h 11).trans rfl⟩))
  have HGL := Aside0.mk (show g < w1.heap.size from (Array.getElem?_eq_some_iff.1 BK.out).1)
  clear hg
  (try rw [HG.out])
  obtain ⟨x0, x1, x2, x3, x4, x5, x6, x7, x8, x9, x10, x11⟩ := HX.out _ (Below.refl _ _)
  go_wp2_with fail
  (try rw [HG.out])
  refine (HN.out _ HB1.out).mono ?_
  rintro e w2 ⟨b, P, F, FT, rfl, hC, hT, hF, hFT, hb⟩
  have E2 := Aside0.mk hb
  obtain ⟨F2, hF2⟩ : ∃ F2 : Nat → Prop, F2 = (fun k => F k ∧ k < w2.heap.size) := ⟨_, rfl⟩
  have HC2 := Aside0.mk (show IsCore w2 b P F2 _ from hF2 ▸ hC.bound)
  have HF3 := Aside0.mk (show ∀ k, F2 k → w1.heap.size ≤ k ∧ k < w2.heap.size from fun k hk => by rw [hF2] at hk; exact ⟨(hF k hk.1).1, hk.2⟩)
  have HF2 := Aside0.mk (show ∀ k, F2 k → w1.heap.size ≤ k from fun k hk => (HF3.out k hk).1)
  clear hb hC hT hF hFT hF2 x0 x1 x2 x3 x4 x5 x6 x7 x8 x9 x10 x11
  obtain ⟨x0, x1, x2, x3, x4, x5, x6, x7, x8, x9, x10, x11⟩ := HX.out _ E2.out
  go_wp2_with fail
  refine (HK.out _).mono ?_
  rintro e w3 ⟨rfl, hb⟩
  have E3 := Aside0.mk hb
  clear hb x0 x1 x2 x3 x4 x5 x6 x7 x8 x9 x10 x11
  obtain ⟨x0, x1, x2, x3, x4, x5, x6, x7, x8, x9, x10, x11⟩ := HX.out _ (below_then E2.out E2.out.size E3.out)
  go_wp2_with fail
  refine (HW.out _).mono ?_
  rintro e w4 ⟨rfl, hb⟩
  have E4 := Aside0.mk (below_then E3.out E3.out.size hb)
  have HC4 := Aside0.mk (HC2.out.below E4.out)
  clear hb x0 x1 x2 x3 x4 x5 x6 x7 x8 x9 x10 x11
  have c0 := HC4.out.at0
  go_wp2_with fail
  refine (partsCells_ w4 c P HC4.out.parts).mono ?_
  rintro e w5 ⟨rfl, rfl⟩
  have HB5 := Aside0.mk (below_then HB1.out HB1.out.size (below_then E2.out E2.out.size E4.out))
  go_wp2_with fail
  refine (HCp.out _ HB5.out).mono ?_
  rintro e w6 ⟨v0, rfl, hR, hb⟩
  obtain ⟨wA, wc, rfl, hRow, hoff⟩ := row_of_R hR
  have E6 := Aside0.mk hb
  have HC6 := Aside0.mk (HC4.out.below hb)
  have HRW := Aside0.mk hRow
  have HOF := Aside0.mk (show ∀ k, blk wA k → ¬ F2 k ∧ w5.heap.size ≤ k from fun k hk => ⟨fun h => by have := (HF3.out k h).2; have := hoff k hk; have := E4.out.size; omega, hoff k hk⟩)
  have U6 := Aside0.mk (below_then E2.out E2.out.size (below_then E4.out E4.out.size hb))
  clear hR hRow hoff hb c0
  obtain ⟨gw, ow, rfl⟩ := Row.some_ HRW.out (by have := HAN.out; omega)
  obtain ⟨q0, q1⟩ := Row.int_at HRW.out HAN.out
  have hne := (HOF.out gw ⟨_, rfl, rfl⟩).1
  have HC7 := Aside0.mk (HC6.out.move (w' := w6.setCell ⟨gw, ow + a, none⟩ (.int .i64 v)) (fun k hk _ => Below.heap_setCell _ _ _ k (fun e => hne ((show k = gw from e) ▸ hk))))
  have HR7 := Aside0.mk (show Row (w6.setCell ⟨gw, ow + a, none⟩ (.int .i64 v)) 3 1 (some ⟨gw, ow, none⟩) heap.length wc (vi (heap.set a v)) from by
    have := HRW.out.put a (by rw [vi_len]; exact HAN.out) (.int .i64 v)
    rwa [vi_set] at this)
  have U7 := Aside0.mk (show Below w1.heap.size w1 (w6.setCell ⟨gw, ow + a, none⟩ (.int .i64 v)) from U6.out.setCell (p := ⟨gw, ow + a, none⟩) (by have h1 := (HOF.out gw ⟨_, rfl, rfl⟩).2; have h2 := E2.out.size; have h3 := E4.out.size; show w1.heap.size ≤ gw; omega) _)
  have c0 := HC7.out.at0
  clear hne
  go_wp2_with fail
  clear q0 q1
  generalize hw7 : w6.setCell ⟨gw, ow + a, none⟩ (.int .i64 v) = w7 at HC7 HR7 U7 c0 ⊢
  clear hw7
  refine (partsCells_ w7 c P HC7.out.parts).mono ?_
  rintro e w8 ⟨rfl, rfl⟩
  obtain ⟨FC, hcells, hFC, hput⟩ := HC7.out.cells_to
  have HPUT := Aside0.mk hput
  have HFC := Aside0.mk hFC
  have HST := Aside0.mk (cellStore_ w8 P.cb FC _ 0 v a hcells (by omega) (by omega) (by have := HAN.out; have := HZ.out.2.1; simp; omega))
  clear hcells hFC hput
  go_wp2_with fail
  refine HST.out.mono ?_
  rintro e w9 ⟨rfl, hI9, hG9⟩
  have HC9 := Aside0.mk (HPUT.out w9 _ _ hI9 hG9)
  have HR9 := Aside0.mk (HR7.out.grew hG9 (fun k hk hf => (HOF.out k hk).1 (HFC.out k hf)))
  have HA9 := Aside0.mk (show At w1 b P F2 ⟨c, (heap ++ List.replicate (sz - heap.length) 0).set a v, 0 + 1, List.replicate c.f4.toNat 0, List.replicate c.f4.toNat false, List.replicate c.f4.toNat 0, ((0 : Nat) : Int)⟩ heap.length (wantS heap (a : Int) v) (some ⟨gw, ow, none⟩) wc w9 from by
    refine ⟨HC9.out, ?_, fun k hk => (HOF.out k hk).1, hG9.to_below U7.out U7.out.size (fun k hk => HF2.out k (HFC.out k hk))⟩
    rw [HWT.out]; exact HR9.out)
  have HWS := Aside0.mk (show ((heap ++ List.replicate (sz - heap.length) 0).set a v).take heap.length = wantS heap (a : Int) v ∧ ((heap ++ List.replicate (sz - heap.length) 0).set a v).length = sz ∧ heap.length ≤ ((heap ++ List.replicate (sz - heap.length) 0).set a v).length from by
    have h2 := HZ.out.2.1
    refine ⟨?_, by simp; omega, by simp⟩
    rw [HWT.out, List.take_set, List.take_left])
  clear hI9 hG9 c0
  generalize (heap ++ List.replicate (sz - heap.length) 0).set a v = ws at HA9 HWS
  generalize (0 : Int) + 1 = cnt at HA9
  generalize wantS heap (a : Int) v = WT at HA9 HWS HIn HWL
  generalize (some ⟨gw, ow, none⟩ : Option Addr) = wA at HA9 ⊢
  clear HC9 HR9 HC7 HR7 HRW HOF HPUT HST HWT
  obtain ⟨tk, htk⟩ : ∃ x, x = List.replicate c.f4.toNat (0 : Int) := ⟨_, rfl⟩
  obtain ⟨ac, hac⟩ : ∃ x, x = List.replicate c.f4.toNat false := ⟨_, rfl⟩
  obtain ⟨dm, hdm⟩ : ∃ x, x = List.replicate c.f4.toNat (0 : Int) := ⟨_, rfl⟩
  have HA9 := Aside0.mk (show At w1 b P F2 ⟨c, ws, cnt, tk, ac, dm, ((0 : Nat) : Int)⟩ heap.length WT wA wc _ from by rw [htk, hac, hdm]; exact HA9.out)
  clear htk hac hdm
  go_wp2_with fail
  go_loopg [14] ps (fun gg v14 wr => ∃ i : Nat, i ≤ ps ∧ ps - i ≤ gg ∧ v14 = .int .i64 i ∧ Aside0 (At w1 b P F2 ⟨c, ws, cnt, tk, ac, dm, (i : Int)⟩ heap.length WT wA wc wr))
  case atStart => exact ⟨0, by omega, by omega, rfl, HA9⟩
  case round =>
    obtain ⟨i, hi, hgg, rfl, HA⟩ := hrel
    by_cases hlt : i < ps
    · have t1 : (i : Int) < (ps : Int) := by omega
      have HPs := Aside0.mk (corePass_ wr b P F2 _ HA.out.core (by show (0 : Int) ≤ (i : Int); omega) (by show (i : Int) ≤ 1000000000000000; have := HZ.out.2.2.2.1; omega))
      have W3 := Aside0.mk (show wrap64 ((i : Int) + 1) = ((i + 1 : Nat) : Int) by have := HZ.out.2.2.2.1; unfold wrap64; omega)
      have HLT := Aside0.mk (And.intro hlt hgg)
      clear hlt hgg hi
      go_wp2_with fail
      refine HPs.out.mono ?_
      rintro e w9 ⟨rfl, rfl⟩
      go_wp2
      go_roundg (ps - (i + 1))
      case measure => have := HLT.out; omega
      case rel => exact ⟨i + 1, by have := HLT.out; omega, by have := HLT.out; omega, by rw [W3.out], ⟨by
        have := HA.out.pass HF2.out ((i : Int) + 1)
        rw [show ((i + 1 : Nat) : Int) = (i : Int) + 1 from by omega]
        exact this⟩⟩
    · obtain rfl : i = ps := by omega
      have t1 : ¬ (i : Int) < (i : Int) := by omega
      clear hlt hgg hi
      have c0 := HA.out.core.at0
      obtain ⟨FC, hcells, _⟩ := HA.out.core.cells
      have HCL := Aside0.mk hcells
      clear hcells
      go_wp2_with fail
      refine (partsHeap_ wr c P FC ws cnt heap.length HA.out.core.parts HCL.out HWD.out HWS.out.2.2 (by have := HZ.out.2.2.2.2; omega)).mono ?_
      rintro e w10 ⟨v0, rfl, hO⟩
      unfold OutI at hO
      rw [HWS.out.1, HWL.out] at hO
      obtain ⟨hA, hc, rfl, hR, hk, hb⟩ := hO
      have K10 := Aside0.mk hb
      have HR10 := Aside0.mk hR
      have HK10 := Aside0.mk hk
      have HA10 := Aside0.mk (HA.out.below hb)
      clear hR hk hb c0
      go_wp2_with fail
      refine (HIn.out _ hA wA hc wc HR10.out HA10.out.row).mono ?_
      rintro e w11 ⟨rfl, hd⟩
      have K11 := Aside0.mk (below_then K10.out K10.out.size hd.below)
      have HR11 := Aside0.mk (HR10.out.below hd.below)
      clear hd
      have HA11 := Aside0.mk (HA.out.below K11.out)
      go_wp2_with fail
      refine (coreNow_ w11 b P F2 _ HA11.out.core).mono ?_
      rintro e w12 ⟨rfl, rfl⟩
      obtain ⟨gh, oh, rfl⟩ := Row.some_ HR11.out (by have := HZ.out.1; have := HWL.out; omega)
      obtain ⟨q0, q1⟩ := Row.int_at (i := 0) HR11.out (by have := HZ.out.1; have := HWL.out; omega)
      rw [Nat.add_zero] at q0 q1
      generalize WT.getD 0 0 = x0_ at q0
      have t2 : decide ((heap.length : Int) > 0) = true := decide_eq_true (by have := HZ.out.1; have := HWL.out; omega)
      have t3 : decide (0 < heap.length) = true := decide_eq_true (by have := HZ.out.1; have := HWL.out; omega)
      have t4 : (0 : Int) < (heap.length : Int) := by have := HZ.out.1; have := HWL.out; omega
      have t5 : 0 < heap.length := by have := HZ.out.1; have := HWL.out; omega
      have t6 : ((i : Int) != (i : Int)) = false := by simp
      go_wp2_with fail
      have K13 := Aside0.mk (show Below wr.heap.size wr (w12.setCell ⟨gh, oh, none⟩ (.int .i64 (wrap64 (x0_ + 1)))) from K11.out.setCell (p := ⟨gh, oh, none⟩) (HK10.out gh ⟨_, rfl, rfl⟩) _)
      clear q0 q1 t2 t3 t4 t5 t6
      generalize hw13 : w12.setCell ⟨gh, oh, none⟩ (.int .i64 (wrap64 (x0_ + 1))) = w13 at K13 ⊢
      clear hw13
      have HKd := Aside0.mk (below_then K13.out K13.out.size (below_drew (Below.refl w13.heap.size w13)))
      have HLn := Aside0.mk (fun W (hb : Below wr.heap.size wr W) => (show Calls Try.prog 32 #[.pointer (some ⟨P.cb, 0, none⟩)] W (fun e w' => e = .returned (.int .i64 (sz : Int)) ∧ w' = W) from by
        have h := cellLen_ W P.cb FC ws cnt (HCL.out.below hb)
        rw [HWS.out.2.1] at h
        exact h))
      have HSS := Aside0.mk (fun W (hb : Below wr.heap.size wr W) => (show W.cell? ⟨g, 0, none⟩ = some (.int .i64 c.f0) ∧ W.cell? ⟨g, 1, none⟩ = some (.int .i64 c.f1) ∧ W.cell? ⟨g, 2, none⟩ = some (.int .i64 c.f2) ∧ W.cell? ⟨g, 3, none⟩ = some (.int .i64 c.f3) ∧ W.cell? ⟨g, 4, none⟩ = some (.int .i64 c.f4) ∧ W.cell? ⟨g, 5, none⟩ = some (.int .i64 c.f5) ∧ W.cell? ⟨g, 6, none⟩ = some (.int .i64 c.f6) ∧ W.cell? ⟨g, 7, none⟩ = some (.int .i64 c.f7) ∧ W.cell? ⟨g, 8, none⟩ = some (.int .i64 c.f8) ∧ W.cell? ⟨g, 9, none⟩ = some (.int .i64 c.f9) ∧ W.cell? ⟨g, 10, none⟩ = some (.int .i64 c.f10) ∧ W.cell? ⟨g, 11, none⟩ = some (.int .i64 c.f11) ∧ W.cell? ⟨b, 0, none⟩ = some (.pointer (some ⟨P.p, 0, none⟩)) from by
        have hx := HX.out W (HA.out.below hb).up
        exact ⟨hx.1, hx.2.1, hx.2.2.1, hx.2.2.2.1, hx.2.2.2.2.1, hx.2.2.2.2.2.1, hx.2.2.2.2.2.2.1, hx.2.2.2.2.2.2.2.1, hx.2.2.2.2.2.2.2.2.1, hx.2.2.2.2.2.2.2.2.2.1, hx.2.2.2.2.2.2.2.2.2.2.1, hx.2.2.2.2.2.2.2.2.2.2.2, (HA.out.below hb).core.at0⟩))
      refine wp_region_held_drew (S := (fun W => W.cell? ⟨g, 0, none⟩ = some (.int .i64 c.f0) ∧ W.cell? ⟨g, 1, none⟩ = some (.int .i64 c.f1) ∧ W.cell? ⟨g, 2, none⟩ = some (.int .i64 c.f2) ∧ W.cell? ⟨g, 3, none⟩ = some (.int .i64 c.f3) ∧ W.cell? ⟨g, 4, none⟩ = some (.int .i64 c.f4) ∧ W.cell? ⟨g, 5, none⟩ = some (.int .i64 c.f5) ∧ W.cell? ⟨g, 6, none⟩ = some (.int .i64 c.f6) ∧ W.cell? ⟨g, 7, none⟩ = some (.int .i64 c.f7) ∧ W.cell? ⟨g, 8, none⟩ = some (.int .i64 c.f8) ∧ W.cell? ⟨g, 9, none⟩ = some (.int .i64 c.f9) ∧ W.cell? ⟨g, 10, none⟩ = some (.int .i64 c.f10) ∧ W.cell? ⟨g, 11, none⟩ = some (.int .i64 c.f11) ∧ W.cell? ⟨b, 0, none⟩ = some (.pointer (some ⟨P.p, 0, none⟩)))) (by kernel_rfl) ?_ (fun hH => ?_)
      · exact HSS.out _ HKd.out
      refine wpAnyH_ready (rs := [0]) (by kernel_rfl) (by simp) ?_
      refine AllReadyH.cons (o := { dst := some 121, op := Op.call { callee := Callee.value (Operand.func 22), args := #[], argTypes := #[] }, type := 4, pos := "more.go:40", after := #[], guard := none }) rfl (fun K hK => ?_) AllReadyH.nil
      go_simp
      (go_at_call 22; (with_reducible refine (HF.out _).mono ?_); rintro e w14 ⟨rfl, hb14⟩; have K14 := Aside0.mk (below_then HKd.out HKd.out.size hb14))
      go_wp2_with fail
      refine hK.out _ _ ?_ (fun hHz0 => ?_)
      · (try dsimp only)
        exact HSS.out _ K14.out
      clear hK K hH
      (try simp only [Act.put, List.setIfInBounds_toArray, List.set_cons_zero, List.set_cons_succ])
      refine wpAnyH_take (i := 1) (oi := { dst := some 122, op := Op.move (Operand.tmp 121), type := 4, pos := "more.go:40", after := #[{ on := 0, ground := Ground.data }, { on := 0, ground := Ground.chain }], guard := none }) (v := ?vz2) rfl (by kernel_rfl) (by kernel_rfl) (by kernel_rfl) (fun _ _ _ h => h) (Or.inl ⟨by rfl, ?yz2⟩) (by assumption) ?rz2
      case yz2 => (intro w hSw; (try dsimp only at hSw); go_simp; (try with_reducible rfl))
      (try simp only [Act.put, List.setIfInBounds_toArray, List.set_cons_zero, List.set_cons_succ])
      refine wpAnyH_take (i := 2) (oi := { dst := some 123, op := Op.move (Operand.tmp 11), type := 42, pos := "more.go:40", after := #[{ on := 1, ground := Ground.guard }], guard := some (1, true) }) (v := ?vz3) rfl (by kernel_rfl) (by kernel_rfl) (by kernel_rfl) (fun _ _ _ h => h) (Or.inl ⟨by rfl, ?yz3⟩) (by assumption) ?rz3
      case yz3 => (intro w hSw; (try dsimp only at hSw); go_simp; (try with_reducible rfl))
      (try simp only [Act.put, List.setIfInBounds_toArray, List.set_cons_zero, List.set_cons_succ])
      refine wpAnyH_take (i := 3) (oi := { dst := some 124, op := Op.nilCheck (Operand.tmp 123), type := 0, pos := "more.go:40", after := #[{ on := 2, ground := Ground.data }, { on := 1, ground := Ground.guard }], guard := some (1, true) }) (v := ?vz4) rfl (by kernel_rfl) (by kernel_rfl) (by kernel_rfl) (fun _ _ _ h => h) (Or.inl ⟨by rfl, ?yz4⟩) (by assumption) ?rz4
      case yz4 => (intro w hSw; (try dsimp only at hSw); go_simp; (try with_reducible rfl))
      (try simp only [Act.put, List.setIfInBounds_toArray, List.set_cons_zero, List.set_cons_succ])
      refine wpAnyH_take (i := 4) (oi := { dst := some 125, op := Op.fieldAddr 54 (Operand.tmp 124) 0, type := 0, pos := "more.go:40", after := #[{ on := 3, ground := Ground.data }, { on := 1, ground := Ground.guard }], guard := some (1, true) }) (v := ?vz5) rfl (by kernel_rfl) (by kernel_rfl) (by kernel_rfl) (fun _ _ _ h => h) (Or.inl ⟨by rfl, ?yz5⟩) (by assumption) ?rz5
      case yz5 => (intro w hSw; (try dsimp only at hSw); go_simp; (try with_reducible rfl))
      (try simp only [Act.put, List.setIfInBounds_toArray, List.set_cons_zero, List.set_cons_succ])
      refine wpAnyH_take (i := 5) (oi := { dst := some 126, op := Op.load 50 (Operand.tmp 125), type := 50, pos := "more.go:40", after := #[{ on := 4, ground := Ground.data }, { on := 1, ground := Ground.guard }], guard := some (1, true) }) (v := ?vz6) rfl (by kernel_rfl) (by kernel_rfl) (by kernel_rfl) (fun _ _ _ h => h) (Or.inl ⟨by rfl, ?yz6⟩) (by assumption) ?rz6
      case yz6 => (intro w hSw; (try dsimp only at hSw); go_simp; (try with_reducible rfl))
      (try simp only [Act.put, List.setIfInBounds_toArray, List.set_cons_zero, List.set_cons_succ])
      refine wpAnyH_take (i := 7) (oi := { dst := some 128, op := Op.move (Operand.tmp 13), type := 34, pos := "more.go:40", after := #[{ on := 1, ground := Ground.guard }], guard := some (1, true) }) (v := ?vz7) rfl (by kernel_rfl) (by kernel_rfl) (by kernel_rfl) (fun _ _ _ h => h) (Or.inl ⟨by rfl, ?yz7⟩) (by assumption) ?rz7
      case yz7 => (intro w hSw; (try dsimp only at hSw); go_simp; (try with_reducible rfl))
      (try simp only [Act.put, List.setIfInBounds_toArray, List.set_cons_zero, List.set_cons_succ])
      refine wpAnyH_ready (rs := [6]) (by kernel_rfl) (by simp) ?_
      refine AllReadyH.cons (o := { dst := some 127, op := Op.call { callee := Callee.value (Operand.func 30), args := #[Operand.tmp 126], argTypes := #[50] }, type := 34, pos := "more.go:40", after := #[{ on := 5, ground := Ground.data }, { on := 1, ground := Ground.chain }, { on := 1, ground := Ground.guard }], guard := some (1, true) }) rfl (fun K hK => ?_) AllReadyH.nil
      go_simp
      (go_at_call 30; (with_reducible refine (partsHeap_ _ c P FC ws cnt heap.length (HA.out.below K14.out).core.parts (HCL.out.below K14.out) HWD.out HWS.out.2.2 (by have := HZ.out.2.2.2.2; omega)).mono ?_); rintro e w15 ⟨v0, rfl, hO⟩; unfold OutI at hO; rw [HWS.out.1, HWL.out] at hO; obtain ⟨jA, jc, rfl, hR, hk, hb15⟩ := hO; have K15 := Aside0.mk (below_then K14.out K14.out.size hb15); have HR15 := Aside0.mk hR; clear hR hk)
      go_wp2_with fail
      refine hK.out _ _ ?_ (fun hHz7 => ?_)
      · (try dsimp only)
        exact HSS.out _ K15.out
      clear hK K hHz0
      (try simp only [Act.put, List.setIfInBounds_toArray, List.set_cons_zero, List.set_cons_succ])
      refine wpAnyH_ready (rs := [8]) (by kernel_rfl) (by simp) ?_
      refine AllReadyH.cons (o := { dst := some 129, op := Op.call { callee := Callee.value (Operand.func 9), args := #[Operand.tmp 127, Operand.tmp 128], argTypes := #[34, 34] }, type := 4, pos := "more.go:40", after := #[{ on := 6, ground := Ground.data }, { on := 7, ground := Ground.data }, { on := 6, ground := Ground.chain }, { on := 1, ground := Ground.guard }], guard := some (1, true) }) rfl (fun K hK => ?_) AllReadyH.nil
      go_simp
      (go_at_call 9; (with_reducible refine (HIn.out _ jA wA jc wc HR15.out (HA.out.below K15.out).row).mono ?_); rintro e w16 ⟨rfl, hd16⟩; have K16 := Aside0.mk (below_then K15.out K15.out.size hd16.below))
      go_wp2_with fail
      refine hK.out _ _ ?_ (fun hHz8 => ?_)
      · (try dsimp only)
        exact HSS.out _ K16.out
      clear hK K hHz7
      (try simp only [Act.put, List.setIfInBounds_toArray, List.set_cons_zero, List.set_cons_succ])
      refine wpAnyH_take (i := 9) (oi := { dst := some 130, op := Op.pick (Operand.tmp 122) (Operand.tmp 129) (Operand.const (Value.bool false)), type := 4, pos := "more.go:40", after := #[{ on := 1, ground := Ground.data }, { on := 8, ground := Ground.data }], guard := none }) (v := ?vz10) rfl (by kernel_rfl) (by kernel_rfl) (by kernel_rfl) (fun _ _ _ h => h) (Or.inl ⟨by rfl, ?yz10⟩) (by assumption) ?rz10
      case yz10 => (intro w hSw; (try dsimp only at hSw); go_simp; (try with_reducible rfl))
      (try simp only [Act.put, List.setIfInBounds_toArray, List.set_cons_zero, List.set_cons_succ])
      refine wpAnyH_take (i := 10) (oi := { dst := some 131, op := Op.move (Operand.tmp 130), type := 4, pos := "more.go:40", after := #[{ on := 9, ground := Ground.data }, { on := 8, ground := Ground.chain }], guard := none }) (v := ?vz11) rfl (by kernel_rfl) (by kernel_rfl) (by kernel_rfl) (fun _ _ _ h => h) (Or.inl ⟨by rfl, ?yz11⟩) (by assumption) ?rz11
      case yz11 => (intro w hSw; (try dsimp only at hSw); go_simp; (try with_reducible rfl))
      (try simp only [Act.put, List.setIfInBounds_toArray, List.set_cons_zero, List.set_cons_succ])
      refine wpAnyH_take (i := 11) (oi := { dst := some 132, op := Op.move (Operand.tmp 11), type := 42, pos := "more.go:40", after := #[{ on := 10, ground := Ground.guard }], guard := some (10, true) }) (v := ?vz12) rfl (by kernel_rfl) (by kernel_rfl) (by kernel_rfl) (fun _ _ _ h => h) (Or.inl ⟨by rfl, ?yz12⟩) (by assumption) ?rz12
      case yz12 => (intro w hSw; (try dsimp only at hSw); go_simp; (try with_reducible rfl))
      (try simp only [Act.put, List.setIfInBounds_toArray, List.set_cons_zero, List.set_cons_succ])
      refine wpAnyH_take (i := 12) (oi := { dst := some 133, op := Op.nilCheck (Operand.tmp 132), type := 0, pos := "more.go:40", after := #[{ on := 11, ground := Ground.data }, { on := 10, ground := Ground.guard }], guard := some (10, true) }) (v := ?vz13) rfl (by kernel_rfl) (by kernel_rfl) (by kernel_rfl) (fun _ _ _ h => h) (Or.inl ⟨by rfl, ?yz13⟩) (by assumption) ?rz13
      case yz13 => (intro w hSw; (try dsimp only at hSw); go_simp; (try with_reducible rfl))
      (try simp only [Act.put, List.setIfInBounds_toArray, List.set_cons_zero, List.set_cons_succ])
      refine wpAnyH_take (i := 13) (oi := { dst := some 134, op := Op.fieldAddr 54 (Operand.tmp 133) 0, type := 0, pos := "more.go:40", after := #[{ on := 12, ground := Ground.data }, { on := 10, ground := Ground.guard }], guard := some (10, true) }) (v := ?vz14) rfl (by kernel_rfl) (by kernel_rfl) (by kernel_rfl) (fun _ _ _ h => h) (Or.inl ⟨by rfl, ?yz14⟩) (by assumption) ?rz14
      case yz14 => (intro w hSw; (try dsimp only at hSw); go_simp; (try with_reducible rfl))
      (try simp only [Act.put, List.setIfInBounds_toArray, List.set_cons_zero, List.set_cons_succ])
      refine wpAnyH_take (i := 14) (oi := { dst := some 135, op := Op.load 50 (Operand.tmp 134), type := 50, pos := "more.go:40", after := #[{ on := 13, ground := Ground.data }, { on := 10, ground := Ground.guard }], guard := some (10, true) }) (v := ?vz15) rfl (by kernel_rfl) (by kernel_rfl) (by kernel_rfl) (fun _ _ _ h => h) (Or.inl ⟨by rfl, ?yz15⟩) (by assumption) ?rz15
      case yz15 => (intro w hSw; (try dsimp only at hSw); go_simp; (try with_reducible rfl))
      (try simp only [Act.put, List.setIfInBounds_toArray, List.set_cons_zero, List.set_cons_succ])
      refine wpAnyH_take (i := 17) (oi := { dst := some 138, op := Op.load 41 (Operand.tmp 5), type := 41, pos := "more.go:40", after := #[{ on := 10, ground := Ground.guard }], guard := some (10, true) }) (v := ?vz16) rfl (by kernel_rfl) (by kernel_rfl) (by kernel_rfl) (fun _ _ _ h => h) (Or.inl ⟨by rfl, ?yz16⟩) (by assumption) ?rz16
      case yz16 => (intro w hSw; (try dsimp only at hSw); go_simp; (try with_reducible rfl))
      (try simp only [Act.put, List.setIfInBounds_toArray, List.set_cons_zero, List.set_cons_succ])
      refine wpAnyH_ready (rs := [15]) (by kernel_rfl) (by simp) ?_
      refine AllReadyH.cons (o := { dst := some 136, op := Op.call { callee := Callee.value (Operand.func 26), args := #[Operand.tmp 135], argTypes := #[50] }, type := 48, pos := "more.go:40", after := #[{ on := 14, ground := Ground.data }, { on := 10, ground := Ground.chain }, { on := 10, ground := Ground.guard }], guard := some (10, true) }) rfl (fun K hK => ?_) AllReadyH.nil
      go_simp
      (go_at_call 26; (with_reducible refine (partsCells_ _ c P (HA.out.below K16.out).core.parts).mono ?_); rintro e w17 ⟨rfl, rfl⟩; have K17 := Aside0.mk K16.out)
      go_wp2_with fail
      refine hK.out _ _ ?_ (fun hHz16 => ?_)
      · (try dsimp only)
        exact HSS.out _ K17.out
      clear hK K hHz8
      (try simp only [Act.put, List.setIfInBounds_toArray, List.set_cons_zero, List.set_cons_succ])
      refine wpAnyH_ready (rs := [16]) (by kernel_rfl) (by simp) ?_
      refine AllReadyH.cons (o := { dst := some 137, op := Op.call { callee := Callee.value (Operand.func 32), args := #[Operand.tmp 136], argTypes := #[48] }, type := 3, pos := "more.go:40", after := #[{ on := 15, ground := Ground.data }, { on := 15, ground := Ground.chain }, { on := 10, ground := Ground.guard }], guard := some (10, true) }) rfl (fun K hK => ?_) AllReadyH.nil
      go_simp
      (go_at_call 32; (with_reducible refine (HLn.out _ K17.out).mono ?_); rintro e w18 ⟨rfl, rfl⟩; have K18 := Aside0.mk K17.out)
      go_wp2_with fail
      refine hK.out _ _ ?_ (fun hHz17 => ?_)
      · (try dsimp only)
        exact HSS.out _ K18.out
      clear hK K hHz16
      (try simp only [Act.put, List.setIfInBounds_toArray, List.set_cons_zero, List.set_cons_succ])
      refine wpAnyH_ready (rs := [18]) (by kernel_rfl) (by simp) ?_
      refine AllReadyH.cons (o := { dst := some 139, op := Op.call { callee := Callee.value (Operand.func 33), args := #[Operand.tmp 138], argTypes := #[41] }, type := 3, pos := "more.go:40", after := #[{ on := 17, ground := Ground.data }, { on := 16, ground := Ground.chain }, { on := 10, ground := Ground.guard }], guard := some (10, true) }) rfl (fun K hK => ?_) AllReadyH.nil
      go_simp
      (go_at_call 33; (with_reducible refine (HCl.out _).mono ?_); rintro e w19 ⟨rfl, hb19⟩; have K19 := Aside0.mk (below_then K18.out K18.out.size hb19))
      go_wp2_with fail
      refine hK.out _ _ ?_ (fun hHz18 => ?_)
      · (try dsimp only)
        exact HSS.out _ K19.out
      clear hK K hHz17
      (try simp only [Act.put, List.setIfInBounds_toArray, List.set_cons_zero, List.set_cons_succ])
      refine wpAnyH_take (i := 19) (oi := { dst := some 140, op := Op.binOp BinOp.eql 3 (Operand.tmp 137) (Operand.tmp 139) 3, type := 4, pos := "more.go:40", after := #[{ on := 16, ground := Ground.data }, { on := 18, ground := Ground.data }, { on := 10, ground := Ground.guard }], guard := some (10, true) }) (v := ?vz20) rfl (by kernel_rfl) (by kernel_rfl) (by kernel_rfl) (fun _ _ _ h => h) (Or.inl ⟨by rfl, ?yz20⟩) (by assumption) ?rz20
      case yz20 => (intro w hSw; (try dsimp only at hSw); go_simp; (try with_reducible rfl))
      (try simp only [Act.put, List.setIfInBounds_toArray, List.set_cons_zero, List.set_cons_succ])
      refine wpAnyH_take (i := 20) (oi := { dst := some 141, op := Op.pick (Operand.tmp 131) (Operand.tmp 140) (Operand.const (Value.bool false)), type := 4, pos := "more.go:40", after := #[{ on := 10, ground := Ground.data }, { on := 19, ground := Ground.data }], guard := none }) (v := ?vz21) rfl (by kernel_rfl) (by kernel_rfl) (by kernel_rfl) (fun _ _ _ h => h) (Or.inl ⟨by rfl, ?yz21⟩) (by assumption) ?rz21
      case yz21 => (intro w hSw; (try dsimp only at hSw); go_simp; (try with_reducible rfl))
      (try simp only [Act.put, List.setIfInBounds_toArray, List.set_cons_zero, List.set_cons_succ])
      refine wpAnyH_take (i := 21) (oi := { dst := some 142, op := Op.move (Operand.tmp 141), type := 4, pos := "more.go:40", after := #[{ on := 20, ground := Ground.data }, { on := 18, ground := Ground.chain }], guard := none }) (v := ?vz22) rfl (by kernel_rfl) (by kernel_rfl) (by kernel_rfl) (fun _ _ _ h => h) (Or.inl ⟨by rfl, ?yz22⟩) (by assumption) ?rz22
      case yz22 => (intro w hSw; (try dsimp only at hSw); go_simp; (try with_reducible rfl))
      (try simp only [Act.put, List.setIfInBounds_toArray, List.set_cons_zero, List.set_cons_succ])
      refine wpAnyH_take (i := 22) (oi := { dst := some 143, op := Op.move (Operand.tmp 11), type := 42, pos := "more.go:40", after := #[{ on := 21, ground := Ground.guard }], guard := some (21, true) }) (v := ?vz23) rfl (by kernel_rfl) (by kernel_rfl) (by kernel_rfl) (fun _ _ _ h => h) (Or.inl ⟨by rfl, ?yz23⟩) (by assumption) ?rz23
      case yz23 => (intro w hSw; (try dsimp only at hSw); go_simp; (try with_reducible rfl))
      (try simp only [Act.put, List.setIfInBounds_toArray, List.set_cons_zero, List.set_cons_succ])
      refine wpAnyH_take (i := 23) (oi := { dst := some 144, op := Op.nilCheck (Operand.tmp 143), type := 0, pos := "more.go:40", after := #[{ on := 22, ground := Ground.data }, { on := 21, ground := Ground.guard }], guard := some (21, true) }) (v := ?vz24) rfl (by kernel_rfl) (by kernel_rfl) (by kernel_rfl) (fun _ _ _ h => h) (Or.inl ⟨by rfl, ?yz24⟩) (by assumption) ?rz24
      case yz24 => (intro w hSw; (try dsimp only at hSw); go_simp; (try with_reducible rfl))
      (try simp only [Act.put, List.setIfInBounds_toArray, List.set_cons_zero, List.set_cons_succ])
      refine wpAnyH_take (i := 24) (oi := { dst := some 145, op := Op.fieldAddr 54 (Operand.tmp 144) 0, type := 0, pos := "more.go:40", after := #[{ on := 23, ground := Ground.data }, { on := 21, ground := Ground.guard }], guard := some (21, true) }) (v := ?vz25) rfl (by kernel_rfl) (by kernel_rfl) (by kernel_rfl) (fun _ _ _ h => h) (Or.inl ⟨by rfl, ?yz25⟩) (by assumption) ?rz25
      case yz25 => (intro w hSw; (try dsimp only at hSw); go_simp; (try with_reducible rfl))
      (try simp only [Act.put, List.setIfInBounds_toArray, List.set_cons_zero, List.set_cons_succ])
      refine wpAnyH_take (i := 25) (oi := { dst := some 146, op := Op.load 50 (Operand.tmp 145), type := 50, pos := "more.go:40", after := #[{ on := 24, ground := Ground.data }, { on := 21, ground := Ground.guard }], guard := some (21, true) }) (v := ?vz26) rfl (by kernel_rfl) (by kernel_rfl) (by kernel_rfl) (fun _ _ _ h => h) (Or.inl ⟨by rfl, ?yz26⟩) (by assumption) ?rz26
      case yz26 => (intro w hSw; (try dsimp only at hSw); go_simp; (try with_reducible rfl))
      (try simp only [Act.put, List.setIfInBounds_toArray, List.set_cons_zero, List.set_cons_succ])
      refine wpAnyH_take (i := 27) (oi := { dst := some 148, op := Op.load 41 (Operand.tmp 5), type := 41, pos := "more.go:40", after := #[{ on := 21, ground := Ground.guard }], guard := some (21, true) }) (v := ?vz27) rfl (by kernel_rfl) (by kernel_rfl) (by kernel_rfl) (fun _ _ _ h => h) (Or.inl ⟨by rfl, ?yz27⟩) (by assumption) ?rz27
      case yz27 => (intro w hSw; (try dsimp only at hSw); go_simp; (try with_reducible rfl))
      (try simp only [Act.put, List.setIfInBounds_toArray, List.set_cons_zero, List.set_cons_succ])
      refine wpAnyH_ready (rs := [26]) (by kernel_rfl) (by simp) ?_
      refine AllReadyH.cons (o := { dst := some 147, op := Op.call { callee := Callee.value (Operand.func 34), args := #[Operand.tmp 146], argTypes := #[50] }, type := 41, pos := "more.go:40", after := #[{ on := 25, ground := Ground.data }, { on := 21, ground := Ground.chain }, { on := 21, ground := Ground.guard }], guard := some (21, true) }) rfl (fun K hK => ?_) AllReadyH.nil
      go_simp
      (go_at_call 34; (with_reducible refine (partsConf_ _ c P (HA.out.below K19.out).core.parts).mono ?_); rintro e w20 ⟨rfl, hb20⟩; have K20 := Aside0.mk (below_then K19.out K19.out.size hb20))
      go_wp2_with fail
      refine hK.out _ _ ?_ (fun hHz27 => ?_)
      · (try dsimp only)
        exact HSS.out _ K20.out
      clear hK K hHz18
      (try simp only [Act.put, List.setIfInBounds_toArray, List.set_cons_zero, List.set_cons_succ])
      refine wpAnyH_take (i := 28) (oi := { dst := some 149, op := Op.binOp BinOp.eql 41 (Operand.tmp 147) (Operand.tmp 148) 41, type := 4, pos := "more.go:40", after := #[{ on := 26, ground := Ground.data }, { on := 27, ground := Ground.data }, { on := 21, ground := Ground.guard }], guard := some (21, true) }) (v := ?vz29) rfl (by kernel_rfl) (by kernel_rfl) (by kernel_rfl) (fun _ _ _ h => h) (Or.inl ⟨by rfl, ?yz29⟩) (by assumption) ?rz29
      case yz29 => (intro w hSw; (try dsimp only at hSw); go_simp; (try with_reducible rfl))
      (try simp only [Act.put, List.setIfInBounds_toArray, List.set_cons_zero, List.set_cons_succ])
      refine wpAnyH_take (i := 29) (oi := { dst := some 150, op := Op.pick (Operand.tmp 142) (Operand.tmp 149) (Operand.const (Value.bool false)), type := 4, pos := "more.go:40", after := #[{ on := 21, ground := Ground.data }, { on := 28, ground := Ground.data }], guard := none }) (v := ?vz30) rfl (by kernel_rfl) (by kernel_rfl) (by kernel_rfl) (fun _ _ _ h => h) (Or.inl ⟨by rfl, ?yz30⟩) (by assumption) ?rz30
      case yz30 => (intro w hSw; (try dsimp only at hSw); go_simp; (try with_reducible rfl))
      (try simp only [Act.put, List.setIfInBounds_toArray, List.set_cons_zero, List.set_cons_succ])
      refine wpAnyH_take (i := 30) (oi := { dst := some 10, op := Op.assign (Operand.tmp 150), type := 4, pos := "more.go:40", after := #[{ on := 29, ground := Ground.data }, { on := 26, ground := Ground.chain }, { on := 0, ground := Ground.phase }, { on := 1, ground := Ground.phase }, { on := 2, ground := Ground.phase }, { on := 3, ground := Ground.phase }, { on := 4, ground := Ground.phase }, { on := 5, ground := Ground.phase }, { on := 6, ground := Ground.phase }, { on := 7, ground := Ground.phase }, { on := 8, ground := Ground.phase }, { on := 9, ground := Ground.phase }, { on := 10, ground := Ground.phase }, { on := 11, ground := Ground.phase }, { on := 12, ground := Ground.phase }, { on := 13, ground := Ground.phase }, { on := 14, ground := Ground.phase }, { on := 15, ground := Ground.phase }, { on := 16, ground := Ground.phase }, { on := 17, ground := Ground.phase }, { on := 18, ground := Ground.phase }, { on := 19, ground := Ground.phase }, { on := 20, ground := Ground.phase }, { on := 21, ground := Ground.phase }, { on := 22, ground := Ground.phase }, { on := 23, ground := Ground.phase }, { on := 24, ground := Ground.phase }, { on := 25, ground := Ground.phase }, { on := 26, ground := Ground.phase }, { on := 27, ground := Ground.phase }, { on := 28, ground := Ground.phase }, { on := 29, ground := Ground.phase }], guard := none }) (v := ?vz31) rfl (by kernel_rfl) (by kernel_rfl) (by kernel_rfl) (fun _ _ _ h => h) (Or.inl ⟨by rfl, ?yz31⟩) (by assumption) ?rz31
      case yz31 => (intro w hSw; (try dsimp only at hSw); go_simp; (try with_reducible rfl))
      (try simp only [Act.put, List.setIfInBounds_toArray, List.set_cons_zero, List.set_cons_succ])
      refine wpAnyH_done (by kernel_rfl) ?_ _
      go_wp2
      go_ret
      exact ⟨rfl, below_then HB1.out HB1.out.size (HA.out.below K20.out).up⟩
set_option maxHeartbeats 16000000 in
set_option maxRecDepth 100000 in
theorem cells_neg (c : Cf) (A : Option Addr) (cA : Nat) (heap : List Int) (a v : Int) (ps : Nat) (w : World) (hr : Kd.C (Kd.int .i64) w A heap.length heap) (hc : heap.length ≤ cA) (h1 : heap.length ≤ 5000) (p1 : ps ≤ 100) (sz nd : Nat) (hB : InB c.f0 c.f1 c.f2 c.f3 c.f4 c.f5 c.f6 c.f7 c.f8 c.f9 c.f10 c.f11) (z1 : 1 ≤ heap.length) (z2 : heap.length ≤ sz) (z3 : sz ≤ 65536) (z4 : 1 ≤ nd) (z5 : nd ≤ 10000)
    (hwd : shape_Words.f c.f0 c.f1 c.f2 c.f3 c.f4 c.f5 c.f6 c.f7 c.f8 c.f9 c.f10 c.f11 = some (heap.length : Int)) (hcl : shape_Cells.f c.f0 c.f1 c.f2 c.f3 c.f4 c.f5 c.f6 c.f7 c.f8 c.f9 c.f10 c.f11 = some (sz : Int)) (hnd : shape_Nodes.f c.f0 c.f1 c.f2 c.f3 c.f4 c.f5 c.f6 c.f7 c.f8 c.f9 c.f10 c.f11 = some (nd : Int)) (ha : a < 0) :
    Calls Try.prog 4 #[.agg #[.int .i64 c.f0, .int .i64 c.f1, .int .i64 c.f2, .int .i64 c.f3, .int .i64 c.f4, .int .i64 c.f5, .int .i64 c.f6, .int .i64 c.f7, .int .i64 c.f8, .int .i64 c.f9, .int .i64 c.f10, .int .i64 c.f11], .slice A heap.length cA, .int .i64 a, .int .i64 v, .int .i64 (ps : Int)] w fun e w' => e = .returned (.bool true) ∧ Below w.heap.size w w' := by
  have hu := Try.underlying41
  have hu2 := Try.underlying54
  have hu3 := Try.underlying92
  have HF := Aside0.mk coreFirst_
  have a1 : decide ((heap.length : Int) > 5000) = false := decide_eq_false (by omega)
  have a2 : decide (heap.length > 5000) = false := decide_eq_false (by omega)
  have a2' : decide (5000 < heap.length) = false := decide_eq_false (by omega)
  have a3 : decide ((ps : Int) < 0) = false := decide_eq_false (by omega)
  have a4 : decide ((ps : Int) > 100) = false := decide_eq_false (by omega)
  have a5 : ((heap.length : Int) != (heap.length : Int)) = false := by simp
  have hck := chk_yes hB
  have hCC := ints_f (wantS heap a v) (by rw [want_len]; omega)
  have HK := Aside0.mk (fun W => shape_Check.calls c.f0 c.f1 c.f2 c.f3 c.f4 c.f5 c.f6 c.f7 c.f8 c.f9 c.f10 c.f11 0 W hck)
  have HW := Aside0.mk (fun W => shape_Words.calls c.f0 c.f1 c.f2 c.f3 c.f4 c.f5 c.f6 c.f7 c.f8 c.f9 c.f10 c.f11 (heap.length : Int) W hwd)
  have HCl := Aside0.mk (fun W => shape_Cells.calls c.f0 c.f1 c.f2 c.f3 c.f4 c.f5 c.f6 c.f7 c.f8 c.f9 c.f10 c.f11 (sz : Int) W hcl)
  have HN := Aside0.mk (fun W (hb : Below w.heap.size w W) => coreNew_ tabMoves c A cA heap W sz nd (Kd.C_below hr hb) hc hck hwd hcl hnd (by omega) z2 z3 (tabNews nd c.f7 z4 z5 hB.2.2.2.2.2.2.2.1.1 hB.2.2.2.2.2.2.2.1.2) hB.2.2.2.2.2.2.2.2.2.2.1.1 hB.2.2.2.2.2.2.2.2.2.2.1.2 (by have := hB.2.2.2.2.1.1; omega) hB.2.2.2.2.1.2)
  have HCp := Aside0.mk (fun W (hb : Below w.heap.size w W) => ltkref_Copy.calls A cA heap heap W (Kd.C_below hr hb) hc (copy_f heap h1))
  have HIn := Aside0.mk (fun W (A1 A2 : Option Addr) (c1 c2 : Nat) (h1 : Row W 3 1 A1 heap.length c1 (vi (wantS heap a v))) (h2 : Row W 3 1 A2 heap.length c2 (vi (wantS heap a v))) => (show Calls Try.prog 9 #[.slice A1 heap.length c1, .slice A2 heap.length c2] W (fun e w' => e = .returned (.bool true) ∧ Drawn0 W w') from by
    rw [← want_len heap a v] at h1 h2 ⊢
    exact ltkref_Ints.calls ((wantS heap a v).length + 1) A1 c1 (wantS heap a v) A2 c2 (wantS heap a v) true W (Row.reads_vi h1) h1.2.1 (Row.reads_vi h2) h2.2.1 hCC))
  have HWD := Aside0.mk hwd
  have HZ := Aside0.mk (And.intro z1 (And.intro z2 (And.intro z3 (And.intro p1 h1))))
  have HWL := Aside0.mk (want_len heap a v)
  have hwant : wantS heap a v = heap := by unfold wantS; rw [if_neg (by omega)]
  have HWT := Aside0.mk hwant
  have d0 : decide (a ≥ 0) = false := decide_eq_false (by omega)
  clear hr hc h1 p1 hB z1 z2 z3 z4 z5 hwd hcl hnd ha hck hCC hwant
  go_enter Try.func4, Try.ntmps4
  go_wp2_with fail
  refine (HF.out _).mono ?_
  rintro e w1 ⟨rfl, hb⟩
  have BK := Aside0.mk (blk_below (blk_new w (.cells #[.int .i64 c.f0, .int .i64 c.f1, .int .i64 c.f2, .int .i64 c.f3, .int .i64 c.f4, .int .i64 c.f5, .int .i64 c.f6, .int .i64 c.f7, .int .i64 c.f8, .int .i64 c.f9, .int .i64 c.f10, .int .i64 c.f11] 41)) hb)
  have HB1 := Aside0.mk (below_then (below_alloc (Below.refl _ _) _) (below_alloc (Below.refl _ _) _).size hb)
  clear hb
  generalize hg : w.heap.size = g at BK
  have HG := Aside0.mk hg
  have HX := Aside0.mk (fun W (hb : Below w1.heap.size w1 W) => (show W.cell? ⟨g, 0, none⟩ = some (.int .i64 c.f0) ∧ W.cell? ⟨g, 1, none⟩ = some (.int .i64 c.f1) ∧ W.cell? ⟨g, 2, none⟩ = some (.int .i64 c.f2) ∧ W.cell? ⟨g, 3, none⟩ = some (.int .i64 c.f3) ∧ W.cell? ⟨g, 4, none⟩ = some (.int .i64 c.f4) ∧ W.cell? ⟨g, 5, none⟩ = some (.int .i64 c.f5) ∧ W.cell? ⟨g, 6, none⟩ = some (.int .i64 c.f6) ∧ W.cell? ⟨g, 7, none⟩ = some (.int .i64 c.f7) ∧ W.cell? ⟨g, 8, none⟩ = some (.int .i64 c.f8) ∧ W.cell? ⟨g, 9, none⟩ = some (.int .i64 c.f9) ∧ W.cell? ⟨g, 10, none⟩ = some (.int .i64 c.f10) ∧ W.cell? ⟨g, 11, none⟩ = some (.int .i64 c.f11) from by
    have h := (hb.block g (Array.getElem?_eq_some_iff.1 BK.out).1).trans BK.out
    exact ⟨(blk_cell h 0).trans rfl, (blk_cell h 1).trans rfl, (blk_cell h 2).trans rfl, (blk_cell h 3).trans rfl, (blk_cell h 4).trans rfl, (blk_cell h 5).trans rfl, (blk_cell h 6).trans rfl, (blk_cell h 7).trans rfl, (blk_cell h 8).trans rfl, (blk_cell h 9).trans rfl, (blk_cell h 10).trans rfl, (blk_cell h 11).trans rfl⟩))
  have HGL := Aside0.mk (show g < w1.heap.size from (Array.getElem?_eq_some_iff.1 BK.out).1)
  clear hg
  (try rw [HG.out])
  obtain ⟨x0, x1, x2, x3, x4, x5, x6, x7, x8, x9, x10, x11⟩ := HX.out _ (Below.refl _ _)
  go_wp2_with fail
  (try rw [HG.out])
  refine (HN.out _ HB1.out).mono ?_
  rintro e w2 ⟨b, P, F, FT, rfl, hC, hT, hF, hFT, hb⟩
  have E2 := Aside0.mk hb
  obtain ⟨F2, hF2⟩ : ∃ F2 : Nat → Prop, F2 = (fun k => F k ∧ k < w2.heap.size) := ⟨_, rfl⟩
  have HC2 := Aside0.mk (show IsCore w2 b P F2 _ from hF2 ▸ hC.bound)
  have HF3 := Aside0.mk (show ∀ k, F2 k → w1.heap.size ≤ k ∧ k < w2.heap.size from fun k hk => by rw [hF2] at hk; exact ⟨(hF k hk.1).1, hk.2⟩)
  have HF2 := Aside0.mk (show ∀ k, F2 k → w1.heap.size ≤ k from fun k hk => (HF3.out k hk).1)
  clear hb hC hT hF hFT hF2 x0 x1 x2 x3 x4 x5 x6 x7 x8 x9 x10 x11
  obtain ⟨x0, x1, x2, x3, x4, x5, x6, x7, x8, x9, x10, x11⟩ := HX.out _ E2.out
  go_wp2_with fail
  refine (HK.out _).mono ?_
  rintro e w3 ⟨rfl, hb⟩
  have E3 := Aside0.mk hb
  clear hb x0 x1 x2 x3 x4 x5 x6 x7 x8 x9 x10 x11
  obtain ⟨x0, x1, x2, x3, x4, x5, x6, x7, x8, x9, x10, x11⟩ := HX.out _ (below_then E2.out E2.out.size E3.out)
  go_wp2_with fail
  refine (HW.out _).mono ?_
  rintro e w4 ⟨rfl, hb⟩
  have E4 := Aside0.mk (below_then E3.out E3.out.size hb)
  have HC4 := Aside0.mk (HC2.out.below E4.out)
  clear hb x0 x1 x2 x3 x4 x5 x6 x7 x8 x9 x10 x11
  have c0 := HC4.out.at0
  go_wp2_with fail
  refine (partsCells_ w4 c P HC4.out.parts).mono ?_
  rintro e w5 ⟨rfl, rfl⟩
  have HB5 := Aside0.mk (below_then HB1.out HB1.out.size (below_then E2.out E2.out.size E4.out))
  go_wp2_with fail
  refine (HCp.out _ HB5.out).mono ?_
  rintro e w6 ⟨v0, rfl, hR, hb⟩
  obtain ⟨wA, wc, rfl, hRow, hoff⟩ := row_of_R hR
  have E6 := Aside0.mk hb
  have HC6 := Aside0.mk (HC4.out.below hb)
  have HRW := Aside0.mk hRow
  have HOF := Aside0.mk (show ∀ k, blk wA k → ¬ F2 k ∧ w5.heap.size ≤ k from fun k hk => ⟨fun h => by have := (HF3.out k h).2; have := hoff k hk; have := E4.out.size; omega, hoff k hk⟩)
  have U6 := Aside0.mk (below_then E2.out E2.out.size (below_then E4.out E4.out.size hb))
  clear hR hRow hoff hb c0
  have HA9 := Aside0.mk (show At w1 b P F2 ⟨c, heap ++ List.replicate (sz - heap.length) 0, 0, List.replicate c.f4.toNat 0, List.replicate c.f4.toNat false, List.replicate c.f4.toNat 0, ((0 : Nat) : Int)⟩ heap.length (wantS heap a v) wA wc w6 from ⟨HC6.out, by rw [HWT.out]; exact HRW.out, fun k hk => (HOF.out k hk).1, U6.out⟩)
  have HWS := Aside0.mk (show (heap ++ List.replicate (sz - heap.length) 0).take heap.length = wantS heap a v ∧ (heap ++ List.replicate (sz - heap.length) 0).length = sz ∧ heap.length ≤ (heap ++ List.replicate (sz - heap.length) 0).length from by
    have h2 := HZ.out.2.1
    exact ⟨by rw [HWT.out, List.take_left], by simp; omega, by simp⟩)
  obtain ⟨cnt, hcnt⟩ : ∃ x : Int, x = 0 := ⟨_, rfl⟩
  generalize heap ++ List.replicate (sz - heap.length) 0 = ws at HA9 HWS
  generalize wantS heap a v = WT at HA9 HWS HIn HWL
  clear HRW HOF HWT
  obtain ⟨tk, htk⟩ : ∃ x, x = List.replicate c.f4.toNat (0 : Int) := ⟨_, rfl⟩
  obtain ⟨ac, hac⟩ : ∃ x, x = List.replicate c.f4.toNat false := ⟨_, rfl⟩
  obtain ⟨dm, hdm⟩ : ∃ x, x = List.replicate c.f4.toNat (0 : Int) := ⟨_, rfl⟩
  have HA9 := Aside0.mk (show At w1 b P F2 ⟨c, ws, cnt, tk, ac, dm, ((0 : Nat) : Int)⟩ heap.length WT wA wc _ from by rw [hcnt, htk, hac, hdm]; exact HA9.out)
  clear htk hac hdm hcnt
  go_wp2_with fail
  go_loopg [14] ps (fun gg v14 wr => ∃ i : Nat, i ≤ ps ∧ ps - i ≤ gg ∧ v14 = .int .i64 i ∧ Aside0 (At w1 b P F2 ⟨c, ws, cnt, tk, ac, dm, (i : Int)⟩ heap.length WT wA wc wr))
  case atStart => exact ⟨0, by omega, by omega, rfl, HA9⟩
  case round =>
    obtain ⟨i, hi, hgg, rfl, HA⟩ := hrel
    by_cases hlt : i < ps
    · have t1 : (i : Int) < (ps : Int) := by omega
      have HPs := Aside0.mk (corePass_ wr b P F2 _ HA.out.core (by show (0 : Int) ≤ (i : Int); omega) (by show (i : Int) ≤ 1000000000000000; have := HZ.out.2.2.2.1; omega))
      have W3 := Aside0.mk (show wrap64 ((i : Int) + 1) = ((i + 1 : Nat) : Int) by have := HZ.out.2.2.2.1; unfold wrap64; omega)
      have HLT := Aside0.mk (And.intro hlt hgg)
      clear hlt hgg hi
      go_wp2_with fail
      refine HPs.out.mono ?_
      rintro e w9 ⟨rfl, rfl⟩
      go_wp2
      go_roundg (ps - (i + 1))
      case measure => have := HLT.out; omega
      case rel => exact ⟨i + 1, by have := HLT.out; omega, by have := HLT.out; omega, by rw [W3.out], ⟨by
        have := HA.out.pass HF2.out ((i : Int) + 1)
        rw [show ((i + 1 : Nat) : Int) = (i : Int) + 1 from by omega]
        exact this⟩⟩
    · obtain rfl : i = ps := by omega
      have t1 : ¬ (i : Int) < (i : Int) := by omega
      clear hlt hgg hi
      have c0 := HA.out.core.at0
      obtain ⟨FC, hcells, _⟩ := HA.out.core.cells
      have HCL := Aside0.mk hcells
      clear hcells
      go_wp2_with fail
      refine (partsHeap_ wr c P FC ws cnt heap.length HA.out.core.parts HCL.out HWD.out HWS.out.2.2 (by have := HZ.out.2.2.2.2; omega)).mono ?_
      rintro e w10 ⟨v0, rfl, hO⟩
      unfold OutI at hO
      rw [HWS.out.1, HWL.out] at hO
      obtain ⟨hA, hc, rfl, hR, hk, hb⟩ := hO
      have K10 := Aside0.mk hb
      have HR10 := Aside0.mk hR
      have HK10 := Aside0.mk hk
      have HA10 := Aside0.mk (HA.out.below hb)
      clear hR hk hb c0
      go_wp2_with fail
      refine (HIn.out _ hA wA hc wc HR10.out HA10.out.row).mono ?_
      rintro e w11 ⟨rfl, hd⟩
      have K11 := Aside0.mk (below_then K10.out K10.out.size hd.below)
      have HR11 := Aside0.mk (HR10.out.below hd.below)
      clear hd
      have HA11 := Aside0.mk (HA.out.below K11.out)
      go_wp2_with fail
      refine (coreNow_ w11 b P F2 _ HA11.out.core).mono ?_
      rintro e w12 ⟨rfl, rfl⟩
      obtain ⟨gh, oh, rfl⟩ := Row.some_ HR11.out (by have := HZ.out.1; have := HWL.out; omega)
      obtain ⟨q0, q1⟩ := Row.int_at (i := 0) HR11.out (by have := HZ.out.1; have := HWL.out; omega)
      rw [Nat.add_zero] at q0 q1
      generalize WT.getD 0 0 = x0_ at q0
      have t2 : decide ((heap.length : Int) > 0) = true := decide_eq_true (by have := HZ.out.1; have := HWL.out; omega)
      have t3 : decide (0 < heap.length) = true := decide_eq_true (by have := HZ.out.1; have := HWL.out; omega)
      have t4 : (0 : Int) < (heap.length : Int) := by have := HZ.out.1; have := HWL.out; omega
      have t5 : 0 < heap.length := by have := HZ.out.1; have := HWL.out; omega
      have t6 : ((i : Int) != (i : Int)) = false := by simp
      go_wp2_with fail
      have K13 := Aside0.mk (show Below wr.heap.size wr (w12.setCell ⟨gh, oh, none⟩ (.int .i64 (wrap64 (x0_ + 1)))) from K11.out.setCell (p := ⟨gh, oh, none⟩) (HK10.out gh ⟨_, rfl, rfl⟩) _)
      clear q0 q1 t2 t3 t4 t5 t6
      generalize hw13 : w12.setCell ⟨gh, oh, none⟩ (.int .i64 (wrap64 (x0_ + 1))) = w13 at K13 ⊢
      clear hw13
      have HKd := Aside0.mk (below_then K13.out K13.out.size (below_drew (Below.refl w13.heap.size w13)))
      have HLn := Aside0.mk (fun W (hb : Below wr.heap.size wr W) => (show Calls Try.prog 32 #[.pointer (some ⟨P.cb, 0, none⟩)] W (fun e w' => e = .returned (.int .i64 (sz : Int)) ∧ w' = W) from by
        have h := cellLen_ W P.cb FC ws cnt (HCL.out.below hb)
        rw [HWS.out.2.1] at h
        exact h))
      have HSS := Aside0.mk (fun W (hb : Below wr.heap.size wr W) => (show W.cell? ⟨g, 0, none⟩ = some (.int .i64 c.f0) ∧ W.cell? ⟨g, 1, none⟩ = some (.int .i64 c.f1) ∧ W.cell? ⟨g, 2, none⟩ = some (.int .i64 c.f2) ∧ W.cell? ⟨g, 3, none⟩ = some (.int .i64 c.f3) ∧ W.cell? ⟨g, 4, none⟩ = some (.int .i64 c.f4) ∧ W.cell? ⟨g, 5, none⟩ = some (.int .i64 c.f5) ∧ W.cell? ⟨g, 6, none⟩ = some (.int .i64 c.f6) ∧ W.cell? ⟨g, 7, none⟩ = some (.int .i64 c.f7) ∧ W.cell? ⟨g, 8, none⟩ = some (.int .i64 c.f8) ∧ W.cell? ⟨g, 9, none⟩ = some (.int .i64 c.f9) ∧ W.cell? ⟨g, 10, none⟩ = some (.int .i64 c.f10) ∧ W.cell? ⟨g, 11, none⟩ = some (.int .i64 c.f11) ∧ W.cell? ⟨b, 0, none⟩ = some (.pointer (some ⟨P.p, 0, none⟩)) from by
        have hx := HX.out W (HA.out.below hb).up
        exact ⟨hx.1, hx.2.1, hx.2.2.1, hx.2.2.2.1, hx.2.2.2.2.1, hx.2.2.2.2.2.1, hx.2.2.2.2.2.2.1, hx.2.2.2.2.2.2.2.1, hx.2.2.2.2.2.2.2.2.1, hx.2.2.2.2.2.2.2.2.2.1, hx.2.2.2.2.2.2.2.2.2.2.1, hx.2.2.2.2.2.2.2.2.2.2.2, (HA.out.below hb).core.at0⟩))
      refine wp_region_held_drew (S := (fun W => W.cell? ⟨g, 0, none⟩ = some (.int .i64 c.f0) ∧ W.cell? ⟨g, 1, none⟩ = some (.int .i64 c.f1) ∧ W.cell? ⟨g, 2, none⟩ = some (.int .i64 c.f2) ∧ W.cell? ⟨g, 3, none⟩ = some (.int .i64 c.f3) ∧ W.cell? ⟨g, 4, none⟩ = some (.int .i64 c.f4) ∧ W.cell? ⟨g, 5, none⟩ = some (.int .i64 c.f5) ∧ W.cell? ⟨g, 6, none⟩ = some (.int .i64 c.f6) ∧ W.cell? ⟨g, 7, none⟩ = some (.int .i64 c.f7) ∧ W.cell? ⟨g, 8, none⟩ = some (.int .i64 c.f8) ∧ W.cell? ⟨g, 9, none⟩ = some (.int .i64 c.f9) ∧ W.cell? ⟨g, 10, none⟩ = some (.int .i64 c.f10) ∧ W.cell? ⟨g, 11, none⟩ = some (.int .i64 c.f11) ∧ W.cell? ⟨b, 0, none⟩ = some (.pointer (some ⟨P.p, 0, none⟩)))) (by kernel_rfl) ?_ (fun hH => ?_)
      · exact HSS.out _ HKd.out
      refine wpAnyH_ready (rs := [0]) (by kernel_rfl) (by simp) ?_
      refine AllReadyH.cons (o := { dst := some 121, op := Op.call { callee := Callee.value (Operand.func 22), args := #[], argTypes := #[] }, type := 4, pos := "more.go:40", after := #[], guard := none }) rfl (fun K hK => ?_) AllReadyH.nil
      go_simp
      (go_at_call 22; (with_reducible refine (HF.out _).mono ?_); rintro e w14 ⟨rfl, hb14⟩; have K14 := Aside0.mk (below_then HKd.out HKd.out.size hb14))
      go_wp2_with fail
      refine hK.out _ _ ?_ (fun hHz0 => ?_)
      · (try dsimp only)
        exact HSS.out _ K14.out
      clear hK K hH
      (try simp only [Act.put, List.setIfInBounds_toArray, List.set_cons_zero, List.set_cons_succ])
      refine wpAnyH_take (i := 1) (oi := { dst := some 122, op := Op.move (Operand.tmp 121), type := 4, pos := "more.go:40", after := #[{ on := 0, ground := Ground.data }, { on := 0, ground := Ground.chain }], guard := none }) (v := ?vz2) rfl (by kernel_rfl) (by kernel_rfl) (by kernel_rfl) (fun _ _ _ h => h) (Or.inl ⟨by rfl, ?yz2⟩) (by assumption) ?rz2
      case yz2 => (intro w hSw; (try dsimp only at hSw); go_simp; (try with_reducible rfl))
      (try simp only [Act.put, List.setIfInBounds_toArray, List.set_cons_zero, List.set_cons_succ])
      refine wpAnyH_take (i := 2) (oi := { dst := some 123, op := Op.move (Operand.tmp 11), type := 42, pos := "more.go:40", after := #[{ on := 1, ground := Ground.guard }], guard := some (1, true) }) (v := ?vz3) rfl (by kernel_rfl) (by kernel_rfl) (by kernel_rfl) (fun _ _ _ h => h) (Or.inl ⟨by rfl, ?yz3⟩) (by assumption) ?rz3
      case yz3 => (intro w hSw; (try dsimp only at hSw); go_simp; (try with_reducible rfl))
      (try simp only [Act.put, List.setIfInBounds_toArray, List.set_cons_zero, List.set_cons_succ])
      refine wpAnyH_take (i := 3) (oi := { dst := some 124, op := Op.nilCheck (Operand.tmp 123), type := 0, pos := "more.go:40", after := #[{ on := 2, ground := Ground.data }, { on := 1, ground := Ground.guard }], guard := some (1, true) }) (v := ?vz4) rfl (by kernel_rfl) (by kernel_rfl) (by kernel_rfl) (fun _ _ _ h => h) (Or.inl ⟨by rfl, ?yz4⟩) (by assumption) ?rz4
      case yz4 => (intro w hSw; (try dsimp only at hSw); go_simp; (try with_reducible rfl))
      (try simp only [Act.put, List.setIfInBounds_toArray, List.set_cons_zero, List.set_cons_succ])
      refine wpAnyH_take (i := 4) (oi := { dst := some 125, op := Op.fieldAddr 54 (Operand.tmp 124) 0, type := 0, pos := "more.go:40", after := #[{ on := 3, ground := Ground.data }, { on := 1, ground := Ground.guard }], guard := some (1, true) }) (v := ?vz5) rfl (by kernel_rfl) (by kernel_rfl) (by kernel_rfl) (fun _ _ _ h => h) (Or.inl ⟨by rfl, ?yz5⟩) (by assumption) ?rz5
      case yz5 => (intro w hSw; (try dsimp only at hSw); go_simp; (try with_reducible rfl))
      (try simp only [Act.put, List.setIfInBounds_toArray, List.set_cons_zero, List.set_cons_succ])
      refine wpAnyH_take (i := 5) (oi := { dst := some 126, op := Op.load 50 (Operand.tmp 125), type := 50, pos := "more.go:40", after := #[{ on := 4, ground := Ground.data }, { on := 1, ground := Ground.guard }], guard := some (1, true) }) (v := ?vz6) rfl (by kernel_rfl) (by kernel_rfl) (by kernel_rfl) (fun _ _ _ h => h) (Or.inl ⟨by rfl, ?yz6⟩) (by assumption) ?rz6
      case yz6 => (intro w hSw; (try dsimp only at hSw); go_simp; (try with_reducible rfl))
      (try simp only [Act.put, List.setIfInBounds_toArray, List.set_cons_zero, List.set_cons_succ])
      refine wpAnyH_take (i := 7) (oi := { dst := some 128, op := Op.move (Operand.tmp 13), type := 34, pos := "more.go:40", after := #[{ on := 1, ground := Ground.guard }], guard := some (1, true) }) (v := ?vz7) rfl (by kernel_rfl) (by kernel_rfl) (by kernel_rfl) (fun _ _ _ h => h) (Or.inl ⟨by rfl, ?yz7⟩) (by assumption) ?rz7
      case yz7 => (intro w hSw; (try dsimp only at hSw); go_simp; (try with_reducible rfl))
      (try simp only [Act.put, List.setIfInBounds_toArray, List.set_cons_zero, List.set_cons_succ])
      refine wpAnyH_ready (rs := [6]) (by kernel_rfl) (by simp) ?_
      refine AllReadyH.cons (o := { dst := some 127, op := Op.call { callee := Callee.value (Operand.func 30), args := #[Operand.tmp 126], argTypes := #[50] }, type := 34, pos := "more.go:40", after := #[{ on := 5, ground := Ground.data }, { on := 1, ground := Ground.chain }, { on := 1, ground := Ground.guard }], guard := some (1, true) }) rfl (fun K hK => ?_) AllReadyH.nil
      go_simp
      (go_at_call 30; (with_reducible refine (partsHeap_ _ c P FC ws cnt heap.length (HA.out.below K14.out).core.parts (HCL.out.below K14.out) HWD.out HWS.out.2.2 (by have := HZ.out.2.2.2.2; omega)).mono ?_); rintro e w15 ⟨v0, rfl, hO⟩; unfold OutI at hO; rw [HWS.out.1, HWL.out] at hO; obtain ⟨jA, jc, rfl, hR, hk, hb15⟩ := hO; have K15 := Aside0.mk (below_then K14.out K14.out.size hb15); have HR15 := Aside0.mk hR; clear hR hk)
      go_wp2_with fail
      refine hK.out _ _ ?_ (fun hHz7 => ?_)
      · (try dsimp only)
        exact HSS.out _ K15.out
      clear hK K hHz0
      (try simp only [Act.put, List.setIfInBounds_toArray, List.set_cons_zero, List.set_cons_succ])
      refine wpAnyH_ready (rs := [8]) (by kernel_rfl) (by simp) ?_
      refine AllReadyH.cons (o := { dst := some 129, op := Op.call { callee := Callee.value (Operand.func 9), args := #[Operand.tmp 127, Operand.tmp 128], argTypes := #[34, 34] }, type := 4, pos := "more.go:40", after := #[{ on := 6, ground := Ground.data }, { on := 7, ground := Ground.data }, { on := 6, ground := Ground.chain }, { on := 1, ground := Ground.guard }], guard := some (1, true) }) rfl (fun K hK => ?_) AllReadyH.nil
      go_simp
      (go_at_call 9; (with_reducible refine (HIn.out _ jA wA jc wc HR15.out (HA.out.below K15.out).row).mono ?_); rintro e w16 ⟨rfl, hd16⟩; have K16 := Aside0.mk (below_then K15.out K15.out.size hd16.below))
      go_wp2_with fail
      refine hK.out _ _ ?_ (fun hHz8 => ?_)
      · (try dsimp only)
        exact HSS.out _ K16.out
      clear hK K hHz7
      (try simp only [Act.put, List.setIfInBounds_toArray, List.set_cons_zero, List.set_cons_succ])
      refine wpAnyH_take (i := 9) (oi := { dst := some 130, op := Op.pick (Operand.tmp 122) (Operand.tmp 129) (Operand.const (Value.bool false)), type := 4, pos := "more.go:40", after := #[{ on := 1, ground := Ground.data }, { on := 8, ground := Ground.data }], guard := none }) (v := ?vz10) rfl (by kernel_rfl) (by kernel_rfl) (by kernel_rfl) (fun _ _ _ h => h) (Or.inl ⟨by rfl, ?yz10⟩) (by assumption) ?rz10
      case yz10 => (intro w hSw; (try dsimp only at hSw); go_simp; (try with_reducible rfl))
      (try simp only [Act.put, List.setIfInBounds_toArray, List.set_cons_zero, List.set_cons_succ])
      refine wpAnyH_take (i := 10) (oi := { dst := some 131, op := Op.move (Operand.tmp 130), type := 4, pos := "more.go:40", after := #[{ on := 9, ground := Ground.data }, { on := 8, ground := Ground.chain }], guard := none }) (v := ?vz11) rfl (by kernel_rfl) (by kernel_rfl) (by kernel_rfl) (fun _ _ _ h => h) (Or.inl ⟨by rfl, ?yz11⟩) (by assumption) ?rz11
      case yz11 => (intro w hSw; (try dsimp only at hSw); go_simp; (try with_reducible rfl))
      (try simp only [Act.put, List.setIfInBounds_toArray, List.set_cons_zero, List.set_cons_succ])
      refine wpAnyH_take (i := 11) (oi := { dst := some 132, op := Op.move (Operand.tmp 11), type := 42, pos := "more.go:40", after := #[{ on := 10, ground := Ground.guard }], guard := some (10, true) }) (v := ?vz12) rfl (by kernel_rfl) (by kernel_rfl) (by kernel_rfl) (fun _ _ _ h => h) (Or.inl ⟨by rfl, ?yz12⟩) (by assumption) ?rz12
      case yz12 => (intro w hSw; (try dsimp only at hSw); go_simp; (try with_reducible rfl))
      (try simp only [Act.put, List.setIfInBounds_toArray, List.set_cons_zero, List.set_cons_succ])
      refine wpAnyH_take (i := 12) (oi := { dst := some 133, op := Op.nilCheck (Operand.tmp 132), type := 0, pos := "more.go:40", after := #[{ on := 11, ground := Ground.data }, { on := 10, ground := Ground.guard }], guard := some (10, true) }) (v := ?vz13) rfl (by kernel_rfl) (by kernel_rfl) (by kernel_rfl) (fun _ _ _ h => h) (Or.inl ⟨by rfl, ?yz13⟩) (by assumption) ?rz13
      case yz13 => (intro w hSw; (try dsimp only at hSw); go_simp; (try with_reducible rfl))
      (try simp only [Act.put, List.setIfInBounds_toArray, List.set_cons_zero, List.set_cons_succ])
      refine wpAnyH_take (i := 13) (oi := { dst := some 134, op := Op.fieldAddr 54 (Operand.tmp 133) 0, type := 0, pos := "more.go:40", after := #[{ on := 12, ground := Ground.data }, { on := 10, ground := Ground.guard }], guard := some (10, true) }) (v := ?vz14) rfl (by kernel_rfl) (by kernel_rfl) (by kernel_rfl) (fun _ _ _ h => h) (Or.inl ⟨by rfl, ?yz14⟩) (by assumption) ?rz14
      case yz14 => (intro w hSw; (try dsimp only at hSw); go_simp; (try with_reducible rfl))
      (try simp only [Act.put, List.setIfInBounds_toArray, List.set_cons_zero, List.set_cons_succ])
      refine wpAnyH_take (i := 14) (oi := { dst := some 135, op := Op.load 50 (Operand.tmp 134), type := 50, pos := "more.go:40", after := #[{ on := 13, ground := Ground.data }, { on := 10, ground := Ground.guard }], guard := some (10, true) }) (v := ?vz15) rfl (by kernel_rfl) (by kernel_rfl) (by kernel_rfl) (fun _ _ _ h => h) (Or.inl ⟨by rfl, ?yz15⟩) (by assumption) ?rz15
      case yz15 => (intro w hSw; (try dsimp only at hSw); go_simp; (try with_reducible rfl))
      (try simp only [Act.put, List.setIfInBounds_toArray, List.set_cons_zero, List.set_cons_succ])
      refine wpAnyH_take (i := 17) (oi := { dst := some 138, op := Op.load 41 (Operand.tmp 5), type := 41, pos := "more.go:40", after := #[{ on := 10, ground := Ground.guard }], guard := some (10, true) }) (v := ?vz16) rfl (by kernel_rfl) (by kernel_rfl) (by kernel_rfl) (fun _ _ _ h => h) (Or.inl ⟨by rfl, ?yz16⟩) (by assumption) ?rz16
      case yz16 => (intro w hSw; (try dsimp only at hSw); go_simp; (try with_reducible rfl))
      (try simp only [Act.put, List.setIfInBounds_toArray, List.set_cons_zero, List.set_cons_succ])
      refine wpAnyH_ready (rs := [15]) (by kernel_rfl) (by simp) ?_
      refine AllReadyH.cons (o := { dst := some 136, op := Op.call { callee := Callee.value (Operand.func 26), args := #[Operand.tmp 135], argTypes := #[50] }, type := 48, pos := "more.go:40", after := #[{ on := 14, ground := Ground.data }, { on := 10, ground := Ground.chain }, { on := 10, ground := Ground.guard }], guard := some (10, true) }) rfl (fun K hK => ?_) AllReadyH.nil
      go_simp
      (go_at_call 26; (with_reducible refine (partsCells_ _ c P (HA.out.below K16.out).core.parts).mono ?_); rintro e w17 ⟨rfl, rfl⟩; have K17 := Aside0.mk K16.out)
      go_wp2_with fail
      refine hK.out _ _ ?_ (fun hHz16 => ?_)
      · (try dsimp only)
        exact HSS.out _ K17.out
      clear hK K hHz8
      (try simp only [Act.put, List.setIfInBounds_toArray, List.set_cons_zero, List.set_cons_succ])
      refine wpAnyH_ready (rs := [16]) (by kernel_rfl) (by simp) ?_
      refine AllReadyH.cons (o := { dst := some 137, op := Op.call { callee := Callee.value (Operand.func 32), args := #[Operand.tmp 136], argTypes := #[48] }, type := 3, pos := "more.go:40", after := #[{ on := 15, ground := Ground.data }, { on := 15, ground := Ground.chain }, { on := 10, ground := Ground.guard }], guard := some (10, true) }) rfl (fun K hK => ?_) AllReadyH.nil
      go_simp
      (go_at_call 32; (with_reducible refine (HLn.out _ K17.out).mono ?_); rintro e w18 ⟨rfl, rfl⟩; have K18 := Aside0.mk K17.out)
      go_wp2_with fail
      refine hK.out _ _ ?_ (fun hHz17 => ?_)
      · (try dsimp only)
        exact HSS.out _ K18.out
      clear hK K hHz16
      (try simp only [Act.put, List.setIfInBounds_toArray, List.set_cons_zero, List.set_cons_succ])
      refine wpAnyH_ready (rs := [18]) (by kernel_rfl) (by simp) ?_
      refine AllReadyH.cons (o := { dst := some 139, op := Op.call { callee := Callee.value (Operand.func 33), args := #[Operand.tmp 138], argTypes := #[41] }, type := 3, pos := "more.go:40", after := #[{ on := 17, ground := Ground.data }, { on := 16, ground := Ground.chain }, { on := 10, ground := Ground.guard }], guard := some (10, true) }) rfl (fun K hK => ?_) AllReadyH.nil
      go_simp
      (go_at_call 33; (with_reducible refine (HCl.out _).mono ?_); rintro e w19 ⟨rfl, hb19⟩; have K19 := Aside0.mk (below_then K18.out K18.out.size hb19))
      go_wp2_with fail
      refine hK.out _ _ ?_ (fun hHz18 => ?_)
      · (try dsimp only)
        exact HSS.out _ K19.out
      clear hK K hHz17
      (try simp only [Act.put, List.setIfInBounds_toArray, List.set_cons_zero, List.set_cons_succ])
      refine wpAnyH_take (i := 19) (oi := { dst := some 140, op := Op.binOp BinOp.eql 3 (Operand.tmp 137) (Operand.tmp 139) 3, type := 4, pos := "more.go:40", after := #[{ on := 16, ground := Ground.data }, { on := 18, ground := Ground.data }, { on := 10, ground := Ground.guard }], guard := some (10, true) }) (v := ?vz20) rfl (by kernel_rfl) (by kernel_rfl) (by kernel_rfl) (fun _ _ _ h => h) (Or.inl ⟨by rfl, ?yz20⟩) (by assumption) ?rz20
      case yz20 => (intro w hSw; (try dsimp only at hSw); go_simp; (try with_reducible rfl))
      (try simp only [Act.put, List.setIfInBounds_toArray, List.set_cons_zero, List.set_cons_succ])
      refine wpAnyH_take (i := 20) (oi := { dst := some 141, op := Op.pick (Operand.tmp 131) (Operand.tmp 140) (Operand.const (Value.bool false)), type := 4, pos := "more.go:40", after := #[{ on := 10, ground := Ground.data }, { on := 19, ground := Ground.data }], guard := none }) (v := ?vz21) rfl (by kernel_rfl) (by kernel_rfl) (by kernel_rfl) (fun _ _ _ h => h) (Or.inl ⟨by rfl, ?yz21⟩) (by assumption) ?rz21
      case yz21 => (intro w hSw; (try dsimp only at hSw); go_simp; (try with_reducible rfl))
      (try simp only [Act.put, List.setIfInBounds_toArray, List.set_cons_zero, List.set_cons_succ])
      refine wpAnyH_take (i := 21) (oi := { dst := some 142, op := Op.move (Operand.tmp 141), type := 4, pos := "more.go:40", after := #[{ on := 20, ground := Ground.data }, { on := 18, ground := Ground.chain }], guard := none }) (v := ?vz22) rfl (by kernel_rfl) (by kernel_rfl) (by kernel_rfl) (fun _ _ _ h => h) (Or.inl ⟨by rfl, ?yz22⟩) (by assumption) ?rz22
      case yz22 => (intro w hSw; (try dsimp only at hSw); go_simp; (try with_reducible rfl))
      (try simp only [Act.put, List.setIfInBounds_toArray, List.set_cons_zero, List.set_cons_succ])
      refine wpAnyH_take (i := 22) (oi := { dst := some 143, op := Op.move (Operand.tmp 11), type := 42, pos := "more.go:40", after := #[{ on := 21, ground := Ground.guard }], guard := some (21, true) }) (v := ?vz23) rfl (by kernel_rfl) (by kernel_rfl) (by kernel_rfl) (fun _ _ _ h => h) (Or.inl ⟨by rfl, ?yz23⟩) (by assumption) ?rz23
      case yz23 => (intro w hSw; (try dsimp only at hSw); go_simp; (try with_reducible rfl))
      (try simp only [Act.put, List.setIfInBounds_toArray, List.set_cons_zero, List.set_cons_succ])
      refine wpAnyH_take (i := 23) (oi := { dst := some 144, op := Op.nilCheck (Operand.tmp 143), type := 0, pos := "more.go:40", after := #[{ on := 22, ground := Ground.data }, { on := 21, ground := Ground.guard }], guard := some (21, true) }) (v := ?vz24) rfl (by kernel_rfl) (by kernel_rfl) (by kernel_rfl) (fun _ _ _ h => h) (Or.inl ⟨by rfl, ?yz24⟩) (by assumption) ?rz24
      case yz24 => (intro w hSw; (try dsimp only at hSw); go_simp; (try with_reducible rfl))
      (try simp only [Act.put, List.setIfInBounds_toArray, List.set_cons_zero, List.set_cons_succ])
      refine wpAnyH_take (i := 24) (oi := { dst := some 145, op := Op.fieldAddr 54 (Operand.tmp 144) 0, type := 0, pos := "more.go:40", after := #[{ on := 23, ground := Ground.data }, { on := 21, ground := Ground.guard }], guard := some (21, true) }) (v := ?vz25) rfl (by kernel_rfl) (by kernel_rfl) (by kernel_rfl) (fun _ _ _ h => h) (Or.inl ⟨by rfl, ?yz25⟩) (by assumption) ?rz25
      case yz25 => (intro w hSw; (try dsimp only at hSw); go_simp; (try with_reducible rfl))
      (try simp only [Act.put, List.setIfInBounds_toArray, List.set_cons_zero, List.set_cons_succ])
      refine wpAnyH_take (i := 25) (oi := { dst := some 146, op := Op.load 50 (Operand.tmp 145), type := 50, pos := "more.go:40", after := #[{ on := 24, ground := Ground.data }, { on := 21, ground := Ground.guard }], guard := some (21, true) }) (v := ?vz26) rfl (by kernel_rfl) (by kernel_rfl) (by kernel_rfl) (fun _ _ _ h => h) (Or.inl ⟨by rfl, ?yz26⟩) (by assumption) ?rz26
      case yz26 => (intro w hSw; (try dsimp only at hSw); go_simp; (try with_reducible rfl))
      (try simp only [Act.put, List.setIfInBounds_toArray, List.set_cons_zero, List.set_cons_succ])
      refine wpAnyH_take (i := 27) (oi := { dst := some 148, op := Op.load 41 (Operand.tmp 5), type := 41, pos := "more.go:40", after := #[{ on := 21, ground := Ground.guard }], guard := some (21, true) }) (v := ?vz27) rfl (by kernel_rfl) (by kernel_rfl) (by kernel_rfl) (fun _ _ _ h => h) (Or.inl ⟨by rfl, ?yz27⟩) (by assumption) ?rz27
      case yz27 => (intro w hSw; (try dsimp only at hSw); go_simp; (try with_reducible rfl))
      (try simp only [Act.put, List.setIfInBounds_toArray, List.set_cons_zero, List.set_cons_succ])
      refine wpAnyH_ready (rs := [26]) (by kernel_rfl) (by simp) ?_
      refine AllReadyH.cons (o := { dst := some 147, op := Op.call { callee := Callee.value (Operand.func 34), args := #[Operand.tmp 146], argTypes := #[50] }, type := 41, pos := "more.go:40", after := #[{ on := 25, ground := Ground.data }, { on := 21, ground := Ground.chain }, { on := 21, ground := Ground.guard }], guard := some (21, true) }) rfl (fun K hK => ?_) AllReadyH.nil
      go_simp
      (go_at_call 34; (with_reducible refine (partsConf_ _ c P (HA.out.below K19.out).core.parts).mono ?_); rintro e w20 ⟨rfl, hb20⟩; have K20 := Aside0.mk (below_then K19.out K19.out.size hb20))
      go_wp2_with fail
      refine hK.out _ _ ?_ (fun hHz27 => ?_)
      · (try dsimp only)
        exact HSS.out _ K20.out
      clear hK K hHz18
      (try simp only [Act.put, List.setIfInBounds_toArray, List.set_cons_zero, List.set_cons_succ])
      refine wpAnyH_take (i := 28) (oi := { dst := some 149, op := Op.binOp BinOp.eql 41 (Operand.tmp 147) (Operand.tmp 148) 41, type := 4, pos := "more.go:40", after := #[{ on := 26, ground := Ground.data }, { on := 27, ground := Ground.data }, { on := 21, ground := Ground.guard }], guard := some (21, true) }) (v := ?vz29) rfl (by kernel_rfl) (by kernel_rfl) (by kernel_rfl) (fun _ _ _ h => h) (Or.inl ⟨by rfl, ?yz29⟩) (by assumption) ?rz29
      case yz29 => (intro w hSw; (try dsimp only at hSw); go_simp; (try with_reducible rfl))
      (try simp only [Act.put, List.setIfInBounds_toArray, List.set_cons_zero, List.set_cons_succ])
      refine wpAnyH_take (i := 29) (oi := { dst := some 150, op := Op.pick (Operand.tmp 142) (Operand.tmp 149) (Operand.const (Value.bool false)), type := 4, pos := "more.go:40", after := #[{ on := 21, ground := Ground.data }, { on := 28, ground := Ground.data }], guard := none }) (v := ?vz30) rfl (by kernel_rfl) (by kernel_rfl) (by kernel_rfl) (fun _ _ _ h => h) (Or.inl ⟨by rfl, ?yz30⟩) (by assumption) ?rz30
      case yz30 => (intro w hSw; (try dsimp only at hSw); go_simp; (try with_reducible rfl))
      (try simp only [Act.put, List.setIfInBounds_toArray, List.set_cons_zero, List.set_cons_succ])
      refine wpAnyH_take (i := 30) (oi := { dst := some 10, op := Op.assign (Operand.tmp 150), type := 4, pos := "more.go:40", after := #[{ on := 29, ground := Ground.data }, { on := 26, ground := Ground.chain }, { on := 0, ground := Ground.phase }, { on := 1, ground := Ground.phase }, { on := 2, ground := Ground.phase }, { on := 3, ground := Ground.phase }, { on := 4, ground := Ground.phase }, { on := 5, ground := Ground.phase }, { on := 6, ground := Ground.phase }, { on := 7, ground := Ground.phase }, { on := 8, ground := Ground.phase }, { on := 9, ground := Ground.phase }, { on := 10, ground := Ground.phase }, { on := 11, ground := Ground.phase }, { on := 12, ground := Ground.phase }, { on := 13, ground := Ground.phase }, { on := 14, ground := Ground.phase }, { on := 15, ground := Ground.phase }, { on := 16, ground := Ground.phase }, { on := 17, ground := Ground.phase }, { on := 18, ground := Ground.phase }, { on := 19, ground := Ground.phase }, { on := 20, ground := Ground.phase }, { on := 21, ground := Ground.phase }, { on := 22, ground := Ground.phase }, { on := 23, ground := Ground.phase }, { on := 24, ground := Ground.phase }, { on := 25, ground := Ground.phase }, { on := 26, ground := Ground.phase }, { on := 27, ground := Ground.phase }, { on := 28, ground := Ground.phase }, { on := 29, ground := Ground.phase }], guard := none }) (v := ?vz31) rfl (by kernel_rfl) (by kernel_rfl) (by kernel_rfl) (fun _ _ _ h => h) (Or.inl ⟨by rfl, ?yz31⟩) (by assumption) ?rz31
      case yz31 => (intro w hSw; (try dsimp only at hSw); go_simp; (try with_reducible rfl))
      (try simp only [Act.put, List.setIfInBounds_toArray, List.set_cons_zero, List.set_cons_succ])
      refine wpAnyH_done (by kernel_rfl) ?_ _
      go_wp2
      go_ret
      exact ⟨rfl, below_then HB1.out HB1.out.size (HA.out.below K20.out).up⟩
set_option maxHeartbeats 16000000 in
set_option maxRecDepth 100000 in
theorem cells_big (c : Cf) (A : Option Addr) (cA : Nat) (heap : List Int) (a v : Int) (ps : Nat) (w : World) (hr : Kd.C (Kd.int .i64) w A heap.length heap) (hc : heap.length ≤ cA) (h1 : heap.length ≤ 5000) (p1 : ps ≤ 100) (sz nd : Nat) (hB : InB c.f0 c.f1 c.f2 c.f3 c.f4 c.f5 c.f6 c.f7 c.f8 c.f9 c.f10 c.f11) (z1 : 1 ≤ heap.length) (z2 : heap.length ≤ sz) (z3 : sz ≤ 65536) (z4 : 1 ≤ nd) (z5 : nd ≤ 10000)
    (hwd : shape_Words.f c.f0 c.f1 c.f2 c.f3 c.f4 c.f5 c.f6 c.f7 c.f8 c.f9 c.f10 c.f11 = some (heap.length : Int)) (hcl : shape_Cells.f c.f0 c.f1 c.f2 c.f3 c.f4 c.f5 c.f6 c.f7 c.f8 c.f9 c.f10 c.f11 = some (sz : Int)) (hnd : shape_Nodes.f c.f0 c.f1 c.f2 c.f3 c.f4 c.f5 c.f6 c.f7 c.f8 c.f9 c.f10 c.f11 = some (nd : Int)) (ha : (heap.length : Int) ≤ a) :
    Calls Try.prog 4 #[.agg #[.int .i64 c.f0, .int .i64 c.f1, .int .i64 c.f2, .int .i64 c.f3, .int .i64 c.f4, .int .i64 c.f5, .int .i64 c.f6, .int .i64 c.f7, .int .i64 c.f8, .int .i64 c.f9, .int .i64 c.f10, .int .i64 c.f11], .slice A heap.length cA, .int .i64 a, .int .i64 v, .int .i64 (ps : Int)] w fun e w' => e = .returned (.bool true) ∧ Below w.heap.size w w' := by
  have hu := Try.underlying41
  have hu2 := Try.underlying54
  have hu3 := Try.underlying92
  have HF := Aside0.mk coreFirst_
  have a1 : decide ((heap.length : Int) > 5000) = false := decide_eq_false (by omega)
  have a2 : decide (heap.length > 5000) = false := decide_eq_false (by omega)
  have a2' : decide (5000 < heap.length) = false := decide_eq_false (by omega)
  have a3 : decide ((ps : Int) < 0) = false := decide_eq_false (by omega)
  have a4 : decide ((ps : Int) > 100) = false := decide_eq_false (by omega)
  have a5 : ((heap.length : Int) != (heap.length : Int)) = false := by simp
  have hck := chk_yes hB
  have hCC := ints_f (wantS heap a v) (by rw [want_len]; omega)
  have HK := Aside0.mk (fun W => shape_Check.calls c.f0 c.f1 c.f2 c.f3 c.f4 c.f5 c.f6 c.f7 c.f8 c.f9 c.f10 c.f11 0 W hck)
  have HW := Aside0.mk (fun W => shape_Words.calls c.f0 c.f1 c.f2 c.f3 c.f4 c.f5 c.f6 c.f7 c.f8 c.f9 c.f10 c.f11 (heap.length : Int) W hwd)
  have HCl := Aside0.mk (fun W => shape_Cells.calls c.f0 c.f1 c.f2 c.f3 c.f4 c.f5 c.f6 c.f7 c.f8 c.f9 c.f10 c.f11 (sz : Int) W hcl)
  have HN := Aside0.mk (fun W (hb : Below w.heap.size w W) => coreNew_ tabMoves c A cA heap W sz nd (Kd.C_below hr hb) hc hck hwd hcl hnd (by omega) z2 z3 (tabNews nd c.f7 z4 z5 hB.2.2.2.2.2.2.2.1.1 hB.2.2.2.2.2.2.2.1.2) hB.2.2.2.2.2.2.2.2.2.2.1.1 hB.2.2.2.2.2.2.2.2.2.2.1.2 (by have := hB.2.2.2.2.1.1; omega) hB.2.2.2.2.1.2)
  have HCp := Aside0.mk (fun W (hb : Below w.heap.size w W) => ltkref_Copy.calls A cA heap heap W (Kd.C_below hr hb) hc (copy_f heap h1))
  have HIn := Aside0.mk (fun W (A1 A2 : Option Addr) (c1 c2 : Nat) (h1 : Row W 3 1 A1 heap.length c1 (vi (wantS heap a v))) (h2 : Row W 3 1 A2 heap.length c2 (vi (wantS heap a v))) => (show Calls Try.prog 9 #[.slice A1 heap.length c1, .slice A2 heap.length c2] W (fun e w' => e = .returned (.bool true) ∧ Drawn0 W w') from by
    rw [← want_len heap a v] at h1 h2 ⊢
    exact ltkref_Ints.calls ((wantS heap a v).length + 1) A1 c1 (wantS heap a v) A2 c2 (wantS heap a v) true W (Row.reads_vi h1) h1.2.1 (Row.reads_vi h2) h2.2.1 hCC))
  have HWD := Aside0.mk hwd
  have HZ := Aside0.mk (And.intro z1 (And.intro z2 (And.intro z3 (And.intro p1 h1))))
  have HWL := Aside0.mk (want_len heap a v)
  have hwant : wantS heap a v = heap := by unfold wantS; rw [if_neg (by omega)]
  have HWT := Aside0.mk hwant
  have d0 : decide (a ≥ 0) = true := decide_eq_true (by omega)
  have d1 : decide (a < (heap.length : Int)) = false := decide_eq_false (by omega)
  clear hr hc h1 p1 hB z1 z2 z3 z4 z5 hwd hcl hnd ha hck hCC hwant
  go_enter Try.func4, Try.ntmps4
  go_wp2_with fail
  refine (HF.out _).mono ?_
  rintro e w1 ⟨rfl, hb⟩
  have BK := Aside0.mk (blk_below (blk_new w (.cells #[.int .i64 c.f0, .int .i64 c.f1, .int .i64 c.f2, .int .i64 c.f3, .int .i64 c.f4, .int .i64 c.f5, .int .i64 c.f6, .int .i64 c.f7, .int .i64 c.f8, .int .i64 c.f9, .int .i64 c.f10, .int .i64 c.f11] 41)) hb)
  have HB1 := Aside0.mk (below_then (below_alloc (Below.refl _ _) _) (below_alloc (Below.refl _ _) _).size hb)
  clear hb
  generalize hg : w.heap.size = g at BK
  have HG := Aside0.mk hg
  have HX := Aside0.mk (fun W (hb : Below w1.heap.size w1 W) => (show W.cell? ⟨g, 0, none⟩ = some (.int .i64 c.f0) ∧ W.cell? ⟨g, 1, none⟩ = some (.int .i64 c.f1) ∧ W.cell? ⟨g, 2, none⟩ = some (.int .i64 c.f2) ∧ W.cell? ⟨g, 3, none⟩ = some (.int .i64 c.f3) ∧ W.cell? ⟨g, 4, none⟩ = some (.int .i64 c.f4) ∧ W.cell? ⟨g, 5, none⟩ = some (.int .i64 c.f5) ∧ W.cell? ⟨g, 6, none⟩ = some (.int .i64 c.f6) ∧ W.cell? ⟨g, 7, none⟩ = some (.int .i64 c.f7) ∧ W.cell? ⟨g, 8, none⟩ = some (.int .i64 c.f8) ∧ W.cell? ⟨g, 9, none⟩ = some (.int .i64 c.f9) ∧ W.cell? ⟨g, 10, none⟩ = some (.int .i64 c.f10) ∧ W.cell? ⟨g, 11, none⟩ = some (.int .i64 c.f11) from by
    have h := (hb.block g (Array.getElem?_eq_some_iff.1 BK.out).1).trans BK.out
    exact ⟨(blk_cell h 0).trans rfl, (blk_cell h 1).trans rfl, (blk_cell h 2).trans rfl, (blk_cell h 3).trans rfl, (blk_cell h 4).trans rfl, (blk_cell h 5).trans rfl, (blk_cell h 6).trans rfl, (blk_cell h 7).trans rfl, (blk_cell h 8).trans rfl, (blk_cell h 9).trans rfl, (blk_cell h 10).trans rfl, (blk_cell h 11).trans rfl⟩))
  have HGL := Aside0.mk (show g < w1.heap.size from (Array.getElem?_eq_some_iff.1 BK.out).1)
  clear hg
  (try rw [HG.out])
  obtain ⟨x0, x1, x2, x3, x4, x5, x6, x7, x8, x9, x10, x11⟩ := HX.out _ (Below.refl _ _)
  go_wp2_with fail
  (try rw [HG.out])
  refine (HN.out _ HB1.out).mono ?_
  rintro e w2 ⟨b, P, F, FT, rfl, hC, hT, hF, hFT, hb⟩
  have E2 := Aside0.mk hb
  obtain ⟨F2, hF2⟩ : ∃ F2 : Nat → Prop, F2 = (fun k => F k ∧ k < w2.heap.size) := ⟨_, rfl⟩
  have HC2 := Aside0.mk (show IsCore w2 b P F2 _ from hF2 ▸ hC.bound)
  have HF3 := Aside0.mk (show ∀ k, F2 k → w1.heap.size ≤ k ∧ k < w2.heap.size from fun k hk => by rw [hF2] at hk; exact ⟨(hF k hk.1).1, hk.2⟩)
  have HF2 := Aside0.mk (show ∀ k, F2 k → w1.heap.size ≤ k from fun k hk => (HF3.out k hk).1)
  clear hb hC hT hF hFT hF2 x0 x1 x2 x3 x4 x5 x6 x7 x8 x9 x10 x11
  obtain ⟨x0, x1, x2, x3, x4, x5, x6, x7, x8, x9, x10, x11⟩ := HX.out _ E2.out
  go_wp2_with fail
  refine (HK.out _).mono ?_
  rintro e w3 ⟨rfl, hb⟩
  have E3 := Aside0.mk hb
  clear hb x0 x1 x2 x3 x4 x5 x6 x7 x8 x9 x10 x11
  obtain ⟨x0, x1, x2, x3, x4, x5, x6, x7, x8, x9, x10, x11⟩ := HX.out _ (below_then E2.out E2.out.size E3.out)
  go_wp2_with fail
  refine (HW.out _).mono ?_
  rintro e w4 ⟨rfl, hb⟩
  have E4 := Aside0.mk (below_then E3.out E3.out.size hb)
  have HC4 := Aside0.mk (HC2.out.below E4.out)
  clear hb x0 x1 x2 x3 x4 x5 x6 x7 x8 x9 x10 x11
  have c0 := HC4.out.at0
  go_wp2_with fail
  refine (partsCells_ w4 c P HC4.out.parts).mono ?_
  rintro e w5 ⟨rfl, rfl⟩
  have HB5 := Aside0.mk (below_then HB1.out HB1.out.size (below_then E2.out E2.out.size E4.out))
  go_wp2_with fail
  refine (HCp.out _ HB5.out).mono ?_
  rintro e w6 ⟨v0, rfl, hR, hb⟩
  obtain ⟨wA, wc, rfl, hRow, hoff⟩ := row_of_R hR
  have E6 := Aside0.mk hb
  have HC6 := Aside0.mk (HC4.out.below hb)
  have HRW := Aside0.mk hRow
  have HOF := Aside0.mk (show ∀ k, blk wA k → ¬ F2 k ∧ w5.heap.size ≤ k from fun k hk => ⟨fun h => by have := (HF3.out k h).2; have := hoff k hk; have := E4.out.size; omega, hoff k hk⟩)
  have U6 := Aside0.mk (below_then E2.out E2.out.size (below_then E4.out E4.out.size hb))
  clear hR hRow hoff hb c0
  have HA9 := Aside0.mk (show At w1 b P F2 ⟨c, heap ++ List.replicate (sz - heap.length) 0, 0, List.replicate c.f4.toNat 0, List.replicate c.f4.toNat false, List.replicate c.f4.toNat 0, ((0 : Nat) : Int)⟩ heap.length (wantS heap a v) wA wc w6 from ⟨HC6.out, by rw [HWT.out]; exact HRW.out, fun k hk => (HOF.out k hk).1, U6.out⟩)
  have HWS := Aside0.mk (show (heap ++ List.replicate (sz - heap.length) 0).take heap.length = wantS heap a v ∧ (heap ++ List.replicate (sz - heap.length) 0).length = sz ∧ heap.length ≤ (heap ++ List.replicate (sz - heap.length) 0).length from by
    have h2 := HZ.out.2.1
    exact ⟨by rw [HWT.out, List.take_left], by simp; omega, by simp⟩)
  obtain ⟨cnt, hcnt⟩ : ∃ x : Int, x = 0 := ⟨_, rfl⟩
  generalize heap ++ List.replicate (sz - heap.length) 0 = ws at HA9 HWS
  generalize wantS heap a v = WT at HA9 HWS HIn HWL
  clear HRW HOF HWT
  obtain ⟨tk, htk⟩ : ∃ x, x = List.replicate c.f4.toNat (0 : Int) := ⟨_, rfl⟩
  obtain ⟨ac, hac⟩ : ∃ x, x = List.replicate c.f4.toNat false := ⟨_, rfl⟩
  obtain ⟨dm, hdm⟩ : ∃ x, x = List.replicate c.f4.toNat (0 : Int) := ⟨_, rfl⟩
  have HA9 := Aside0.mk (show At w1 b P F2 ⟨c, ws, cnt, tk, ac, dm, ((0 : Nat) : Int)⟩ heap.length WT wA wc _ from by rw [hcnt, htk, hac, hdm]; exact HA9.out)
  clear htk hac hdm hcnt
  go_wp2_with fail
  go_loopg [14] ps (fun gg v14 wr => ∃ i : Nat, i ≤ ps ∧ ps - i ≤ gg ∧ v14 = .int .i64 i ∧ Aside0 (At w1 b P F2 ⟨c, ws, cnt, tk, ac, dm, (i : Int)⟩ heap.length WT wA wc wr))
  case atStart => exact ⟨0, by omega, by omega, rfl, HA9⟩
  case round =>
    obtain ⟨i, hi, hgg, rfl, HA⟩ := hrel
    by_cases hlt : i < ps
    · have t1 : (i : Int) < (ps : Int) := by omega
      have HPs := Aside0.mk (corePass_ wr b P F2 _ HA.out.core (by show (0 : Int) ≤ (i : Int); omega) (by show (i : Int) ≤ 1000000000000000; have := HZ.out.2.2.2.1; omega))
      have W3 := Aside0.mk (show wrap64 ((i : Int) + 1) = ((i + 1 : Nat) : Int) by have := HZ.out.2.2.2.1; unfold wrap64; omega)
      have HLT := Aside0.mk (And.intro hlt hgg)
      clear hlt hgg hi
      go_wp2_with fail
      refine HPs.out.mono ?_
      rintro e w9 ⟨rfl, rfl⟩
      go_wp2
      go_roundg (ps - (i + 1))
      case measure => have := HLT.out; omega
      case rel => exact ⟨i + 1, by have := HLT.out; omega, by have := HLT.out; omega, by rw [W3.out], ⟨by
        have := HA.out.pass HF2.out ((i : Int) + 1)
        rw [show ((i + 1 : Nat) : Int) = (i : Int) + 1 from by omega]
        exact this⟩⟩
    · obtain rfl : i = ps := by omega
      have t1 : ¬ (i : Int) < (i : Int) := by omega
      clear hlt hgg hi
      have c0 := HA.out.core.at0
      obtain ⟨FC, hcells, _⟩ := HA.out.core.cells
      have HCL := Aside0.mk hcells
      clear hcells
      go_wp2_with fail
      refine (partsHeap_ wr c P FC ws cnt heap.length HA.out.core.parts HCL.out HWD.out HWS.out.2.2 (by have := HZ.out.2.2.2.2; omega)).mono ?_
      rintro e w10 ⟨v0, rfl, hO⟩
      unfold OutI at hO
      rw [HWS.out.1, HWL.out] at hO
      obtain ⟨hA, hc, rfl, hR, hk, hb⟩ := hO
      have K10 := Aside0.mk hb
      have HR10 := Aside0.mk hR
      have HK10 := Aside0.mk hk
      have HA10 := Aside0.mk (HA.out.below hb)
      clear hR hk hb c0
      go_wp2_with fail
      refine (HIn.out _ hA wA hc wc HR10.out HA10.out.row).mono ?_
      rintro e w11 ⟨rfl, hd⟩
      have K11 := Aside0.mk (below_then K10.out K10.out.size hd.below)
      have HR11 := Aside0.mk (HR10.out.below hd.below)
      clear hd
      have HA11 := Aside0.mk (HA.out.below K11.out)
      go_wp2_with fail
      refine (coreNow_ w11 b P F2 _ HA11.out.core).mono ?_
      rintro e w12 ⟨rfl, rfl⟩
      obtain ⟨gh, oh, rfl⟩ := Row.some_ HR11.out (by have := HZ.out.1; have := HWL.out; omega)
      obtain ⟨q0, q1⟩ := Row.int_at (i := 0) HR11.out (by have := HZ.out.1; have := HWL.out; omega)
      rw [Nat.add_zero] at q0 q1
      generalize WT.getD 0 0 = x0_ at q0
      have t2 : decide ((heap.length : Int) > 0) = true := decide_eq_true (by have := HZ.out.1; have := HWL.out; omega)
      have t3 : decide (0 < heap.length) = true := decide_eq_true (by have := HZ.out.1; have := HWL.out; omega)
      have t4 : (0 : Int) < (heap.length : Int) := by have := HZ.out.1; have := HWL.out; omega
      have t5 : 0 < heap.length := by have := HZ.out.1; have := HWL.out; omega
      have t6 : ((i : Int) != (i : Int)) = false := by simp
      go_wp2_with fail
      have K13 := Aside0.mk (show Below wr.heap.size wr (w12.setCell ⟨gh, oh, none⟩ (.int .i64 (wrap64 (x0_ + 1)))) from K11.out.setCell (p := ⟨gh, oh, none⟩) (HK10.out gh ⟨_, rfl, rfl⟩) _)
      clear q0 q1 t2 t3 t4 t5 t6
      generalize hw13 : w12.setCell ⟨gh, oh, none⟩ (.int .i64 (wrap64 (x0_ + 1))) = w13 at K13 ⊢
      clear hw13
      have HKd := Aside0.mk (below_then K13.out K13.out.size (below_drew (Below.refl w13.heap.size w13)))
      have HLn := Aside0.mk (fun W (hb : Below wr.heap.size wr W) => (show Calls Try.prog 32 #[.pointer (some ⟨P.cb, 0, none⟩)] W (fun e w' => e = .returned (.int .i64 (sz : Int)) ∧ w' = W) from by
        have h := cellLen_ W P.cb FC ws cnt (HCL.out.below hb)
        rw [HWS.out.2.1] at h
        exact h))
      have HSS := Aside0.mk (fun W (hb : Below wr.heap.size wr W) => (show W.cell? ⟨g, 0, none⟩ = some (.int .i64 c.f0) ∧ W.cell? ⟨g, 1, none⟩ = some (.int .i64 c.f1) ∧ W.cell? ⟨g, 2, none⟩ = some (.int .i64 c.f2) ∧ W.cell? ⟨g, 3, none⟩ = some (.int .i64 c.f3) ∧ W.cell? ⟨g, 4, none⟩ = some (.int .i64 c.f4) ∧ W.cell? ⟨g, 5, none⟩ = some (.int .i64 c.f5) ∧ W.cell? ⟨g, 6, none⟩ = some (.int .i64 c.f6) ∧ W.cell? ⟨g, 7, none⟩ = some (.int .i64 c.f7) ∧ W.cell? ⟨g, 8, none⟩ = some (.int .i64 c.f8) ∧ W.cell? ⟨g, 9, none⟩ = some (.int .i64 c.f9) ∧ W.cell? ⟨g, 10, none⟩ = some (.int .i64 c.f10) ∧ W.cell? ⟨g, 11, none⟩ = some (.int .i64 c.f11) ∧ W.cell? ⟨b, 0, none⟩ = some (.pointer (some ⟨P.p, 0, none⟩)) from by
        have hx := HX.out W (HA.out.below hb).up
        exact ⟨hx.1, hx.2.1, hx.2.2.1, hx.2.2.2.1, hx.2.2.2.2.1, hx.2.2.2.2.2.1, hx.2.2.2.2.2.2.1, hx.2.2.2.2.2.2.2.1, hx.2.2.2.2.2.2.2.2.1, hx.2.2.2.2.2.2.2.2.2.1, hx.2.2.2.2.2.2.2.2.2.2.1, hx.2.2.2.2.2.2.2.2.2.2.2, (HA.out.below hb).core.at0⟩))
      refine wp_region_held_drew (S := (fun W => W.cell? ⟨g, 0, none⟩ = some (.int .i64 c.f0) ∧ W.cell? ⟨g, 1, none⟩ = some (.int .i64 c.f1) ∧ W.cell? ⟨g, 2, none⟩ = some (.int .i64 c.f2) ∧ W.cell? ⟨g, 3, none⟩ = some (.int .i64 c.f3) ∧ W.cell? ⟨g, 4, none⟩ = some (.int .i64 c.f4) ∧ W.cell? ⟨g, 5, none⟩ = some (.int .i64 c.f5) ∧ W.cell? ⟨g, 6, none⟩ = some (.int .i64 c.f6) ∧ W.cell? ⟨g, 7, none⟩ = some (.int .i64 c.f7) ∧ W.cell? ⟨g, 8, none⟩ = some (.int .i64 c.f8) ∧ W.cell? ⟨g, 9, none⟩ = some (.int .i64 c.f9) ∧ W.cell? ⟨g, 10, none⟩ = some (.int .i64 c.f10) ∧ W.cell? ⟨g, 11, none⟩ = some (.int .i64 c.f11) ∧ W.cell? ⟨b, 0, none⟩ = some (.pointer (some ⟨P.p, 0, none⟩)))) (by kernel_rfl) ?_ (fun hH => ?_)
      · exact HSS.out _ HKd.out
      refine wpAnyH_ready (rs := [0]) (by kernel_rfl) (by simp) ?_
      refine AllReadyH.cons (o := { dst := some 121, op := Op.call { callee := Callee.value (Operand.func 22), args := #[], argTypes := #[] }, type := 4, pos := "more.go:40", after := #[], guard := none }) rfl (fun K hK => ?_) AllReadyH.nil
      go_simp
      (go_at_call 22; (with_reducible refine (HF.out _).mono ?_); rintro e w14 ⟨rfl, hb14⟩; have K14 := Aside0.mk (below_then HKd.out HKd.out.size hb14))
      go_wp2_with fail
      refine hK.out _ _ ?_ (fun hHz0 => ?_)
      · (try dsimp only)
        exact HSS.out _ K14.out
      clear hK K hH
      (try simp only [Act.put, List.setIfInBounds_toArray, List.set_cons_zero, List.set_cons_succ])
      refine wpAnyH_take (i := 1) (oi := { dst := some 122, op := Op.move (Operand.tmp 121), type := 4, pos := "more.go:40", after := #[{ on := 0, ground := Ground.data }, { on := 0, ground := Ground.chain }], guard := none }) (v := ?vz2) rfl (by kernel_rfl) (by kernel_rfl) (by kernel_rfl) (fun _ _ _ h => h) (Or.inl ⟨by rfl, ?yz2⟩) (by assumption) ?rz2
      case yz2 => (intro w hSw; (try dsimp only at hSw); go_simp; (try with_reducible rfl))
      (try simp only [Act.put, List.setIfInBounds_toArray, List.set_cons_zero, List.set_cons_succ])
      refine wpAnyH_take (i := 2) (oi := { dst := some 123, op := Op.move (Operand.tmp 11), type := 42, pos := "more.go:40", after := #[{ on := 1, ground := Ground.guard }], guard := some (1, true) }) (v := ?vz3) rfl (by kernel_rfl) (by kernel_rfl) (by kernel_rfl) (fun _ _ _ h => h) (Or.inl ⟨by rfl, ?yz3⟩) (by assumption) ?rz3
      case yz3 => (intro w hSw; (try dsimp only at hSw); go_simp; (try with_reducible rfl))
      (try simp only [Act.put, List.setIfInBounds_toArray, List.set_cons_zero, List.set_cons_succ])
      refine wpAnyH_take (i := 3) (oi := { dst := some 124, op := Op.nilCheck (Operand.tmp 123), type := 0, pos := "more.go:40", after := #[{ on := 2, ground := Ground.data }, { on := 1, ground := Ground.guard }], guard := some (1, true) }) (v := ?vz4) rfl (by kernel_rfl) (by kernel_rfl) (by kernel_rfl) (fun _ _ _ h => h) (Or.inl ⟨by rfl, ?yz4⟩) (by assumption) ?rz4
      case yz4 => (intro w hSw; (try dsimp only at hSw); go_simp; (try with_reducible rfl))
      (try simp only [Act.put, List.setIfInBounds_toArray, List.set_cons_zero, List.set_cons_succ])
      refine wpAnyH_take (i := 4) (oi := { dst := some 125, op := Op.fieldAddr 54 (Operand.tmp 124) 0, type := 0, pos := "more.go:40", after := #[{ on := 3, ground := Ground.data }, { on := 1, ground := Ground.guard }], guard := some (1, true) }) (v := ?vz5) rfl (by kernel_rfl) (by kernel_rfl) (by kernel_rfl) (fun _ _ _ h => h) (Or.inl ⟨by rfl, ?yz5⟩) (by assumption) ?rz5
      case yz5 => (intro w hSw; (try dsimp only at hSw); go_simp; (try with_reducible rfl))
      (try simp only [Act.put, List.setIfInBounds_toArray, List.set_cons_zero, List.set_cons_succ])
      refine wpAnyH_take (i := 5) (oi := { dst := some 126, op := Op.load 50 (Operand.tmp 125), type := 50, pos := "more.go:40", after := #[{ on := 4, ground := Ground.data }, { on := 1, ground := Ground.guard }], guard := some (1, true) }) (v := ?vz6) rfl (by kernel_rfl) (by kernel_rfl) (by kernel_rfl) (fun _ _ _ h => h) (Or.inl ⟨by rfl, ?yz6⟩) (by assumption) ?rz6
      case yz6 => (intro w hSw; (try dsimp only at hSw); go_simp; (try with_reducible rfl))
      (try simp only [Act.put, List.setIfInBounds_toArray, List.set_cons_zero, List.set_cons_succ])
      refine wpAnyH_take (i := 7) (oi := { dst := some 128, op := Op.move (Operand.tmp 13), type := 34, pos := "more.go:40", after := #[{ on := 1, ground := Ground.guard }], guard := some (1, true) }) (v := ?vz7) rfl (by kernel_rfl) (by kernel_rfl) (by kernel_rfl) (fun _ _ _ h => h) (Or.inl ⟨by rfl, ?yz7⟩) (by assumption) ?rz7
      case yz7 => (intro w hSw; (try dsimp only at hSw); go_simp; (try with_reducible rfl))
      (try simp only [Act.put, List.setIfInBounds_toArray, List.set_cons_zero, List.set_cons_succ])
      refine wpAnyH_ready (rs := [6]) (by kernel_rfl) (by simp) ?_
      refine AllReadyH.cons (o := { dst := some 127, op := Op.call { callee := Callee.value (Operand.func 30), args := #[Operand.tmp 126], argTypes := #[50] }, type := 34, pos := "more.go:40", after := #[{ on := 5, ground := Ground.data }, { on := 1, ground := Ground.chain }, { on := 1, ground := Ground.guard }], guard := some (1, true) }) rfl (fun K hK => ?_) AllReadyH.nil
      go_simp
      (go_at_call 30; (with_reducible refine (partsHeap_ _ c P FC ws cnt heap.length (HA.out.below K14.out).core.parts (HCL.out.below K14.out) HWD.out HWS.out.2.2 (by have := HZ.out.2.2.2.2; omega)).mono ?_); rintro e w15 ⟨v0, rfl, hO⟩; unfold OutI at hO; rw [HWS.out.1, HWL.out] at hO; obtain ⟨jA, jc, rfl, hR, hk, hb15⟩ := hO; have K15 := Aside0.mk (below_then K14.out K14.out.size hb15); have HR15 := Aside0.mk hR; clear hR hk)
      go_wp2_with fail
      refine hK.out _ _ ?_ (fun hHz7 => ?_)
      · (try dsimp only)
        exact HSS.out _ K15.out
      clear hK K hHz0
      (try simp only [Act.put, List.setIfInBounds_toArray, List.set_cons_zero, List.set_cons_succ])
      refine wpAnyH_ready (rs := [8]) (by kernel_rfl) (by simp) ?_
      refine AllReadyH.cons (o := { dst := some 129, op := Op.call { callee := Callee.value (Operand.func 9), args := #[Operand.tmp 127, Operand.tmp 128], argTypes := #[34, 34] }, type := 4, pos := "more.go:40", after := #[{ on := 6, ground := Ground.data }, { on := 7, ground := Ground.data }, { on := 6, ground := Ground.chain }, { on := 1, ground := Ground.guard }], guard := some (1, true) }) rfl (fun K hK => ?_) AllReadyH.nil
      go_simp
      (go_at_call 9; (with_reducible refine (HIn.out _ jA wA jc wc HR15.out (HA.out.below K15.out).row).mono ?_); rintro e w16 ⟨rfl, hd16⟩; have K16 := Aside0.mk (below_then K15.out K15.out.size hd16.below))
      go_wp2_with fail
      refine hK.out _ _ ?_ (fun hHz8 => ?_)
      · (try dsimp only)
        exact HSS.out _ K16.out
      clear hK K hHz7
      (try simp only [Act.put, List.setIfInBounds_toArray, List.set_cons_zero, List.set_cons_succ])
      refine wpAnyH_take (i := 9) (oi := { dst := some 130, op := Op.pick (Operand.tmp 122) (Operand.tmp 129) (Operand.const (Value.bool false)), type := 4, pos := "more.go:40", after := #[{ on := 1, ground := Ground.data }, { on := 8, ground := Ground.data }], guard := none }) (v := ?vz10) rfl (by kernel_rfl) (by kernel_rfl) (by kernel_rfl) (fun _ _ _ h => h) (Or.inl ⟨by rfl, ?yz10⟩) (by assumption) ?rz10
      case yz10 => (intro w hSw; (try dsimp only at hSw); go_simp; (try with_reducible rfl))
      (try simp only [Act.put, List.setIfInBounds_toArray, List.set_cons_zero, List.set_cons_succ])
      refine wpAnyH_take (i := 10) (oi := { dst := some 131, op := Op.move (Operand.tmp 130), type := 4, pos := "more.go:40", after := #[{ on := 9, ground := Ground.data }, { on := 8, ground := Ground.chain }], guard := none }) (v := ?vz11) rfl (by kernel_rfl) (by kernel_rfl) (by kernel_rfl) (fun _ _ _ h => h) (Or.inl ⟨by rfl, ?yz11⟩) (by assumption) ?rz11
      case yz11 => (intro w hSw; (try dsimp only at hSw); go_simp; (try with_reducible rfl))
      (try simp only [Act.put, List.setIfInBounds_toArray, List.set_cons_zero, List.set_cons_succ])
      refine wpAnyH_take (i := 11) (oi := { dst := some 132, op := Op.move (Operand.tmp 11), type := 42, pos := "more.go:40", after := #[{ on := 10, ground := Ground.guard }], guard := some (10, true) }) (v := ?vz12) rfl (by kernel_rfl) (by kernel_rfl) (by kernel_rfl) (fun _ _ _ h => h) (Or.inl ⟨by rfl, ?yz12⟩) (by assumption) ?rz12
      case yz12 => (intro w hSw; (try dsimp only at hSw); go_simp; (try with_reducible rfl))
      (try simp only [Act.put, List.setIfInBounds_toArray, List.set_cons_zero, List.set_cons_succ])
      refine wpAnyH_take (i := 12) (oi := { dst := some 133, op := Op.nilCheck (Operand.tmp 132), type := 0, pos := "more.go:40", after := #[{ on := 11, ground := Ground.data }, { on := 10, ground := Ground.guard }], guard := some (10, true) }) (v := ?vz13) rfl (by kernel_rfl) (by kernel_rfl) (by kernel_rfl) (fun _ _ _ h => h) (Or.inl ⟨by rfl, ?yz13⟩) (by assumption) ?rz13
      case yz13 => (intro w hSw; (try dsimp only at hSw); go_simp; (try with_reducible rfl))
      (try simp only [Act.put, List.setIfInBounds_toArray, List.set_cons_zero, List.set_cons_succ])
      refine wpAnyH_take (i := 13) (oi := { dst := some 134, op := Op.fieldAddr 54 (Operand.tmp 133) 0, type := 0, pos := "more.go:40", after := #[{ on := 12, ground := Ground.data }, { on := 10, ground := Ground.guard }], guard := some (10, true) }) (v := ?vz14) rfl (by kernel_rfl) (by kernel_rfl) (by kernel_rfl) (fun _ _ _ h => h) (Or.inl ⟨by rfl, ?yz14⟩) (by assumption) ?rz14
      case yz14 => (intro w hSw; (try dsimp only at hSw); go_simp; (try with_reducible rfl))
      (try simp only [Act.put, List.setIfInBounds_toArray, List.set_cons_zero, List.set_cons_succ])
      refine wpAnyH_take (i := 14) (oi := { dst := some 135, op := Op.load 50 (Operand.tmp 134), type := 50, pos := "more.go:40", after := #[{ on := 13, ground := Ground.data }, { on := 10, ground := Ground.guard }], guard := some (10, true) }) (v := ?vz15) rfl (by kernel_rfl) (by kernel_rfl) (by kernel_rfl) (fun _ _ _ h => h) (Or.inl ⟨by rfl, ?yz15⟩) (by assumption) ?rz15
      case yz15 => (intro w hSw; (try dsimp only at hSw); go_simp; (try with_reducible rfl))
      (try simp only [Act.put, List.setIfInBounds_toArray, List.set_cons_zero, List.set_cons_succ])
      refine wpAnyH_take (i := 17) (oi := { dst := some 138, op := Op.load 41 (Operand.tmp 5), type := 41, pos := "more.go:40", after := #[{ on := 10, ground := Ground.guard }], guard := some (10, true) }) (v := ?vz16) rfl (by kernel_rfl) (by kernel_rfl) (by kernel_rfl) (fun _ _ _ h => h) (Or.inl ⟨by rfl, ?yz16⟩) (by assumption) ?rz16
      case yz16 => (intro w hSw; (try dsimp only at hSw); go_simp; (try with_reducible rfl))
      (try simp only [Act.put, List.setIfInBounds_toArray, List.set_cons_zero, List.set_cons_succ])
      refine wpAnyH_ready (rs := [15]) (by kernel_rfl) (by simp) ?_
      refine AllReadyH.cons (o := { dst := some 136, op := Op.call { callee := Callee.value (Operand.func 26), args := #[Operand.tmp 135], argTypes := #[50] }, type := 48, pos := "more.go:40", after := #[{ on := 14, ground := Ground.data }, { on := 10, ground := Ground.chain }, { on := 10, ground := Ground.guard }], guard := some (10, true) }) rfl (fun K hK => ?_) AllReadyH.nil
      go_simp
      (go_at_call 26; (with_reducible refine (partsCells_ _ c P (HA.out.below K16.out).core.parts).mono ?_); rintro e w17 ⟨rfl, rfl⟩; have K17 := Aside0.mk K16.out)
      go_wp2_with fail
      refine hK.out _ _ ?_ (fun hHz16 => ?_)
      · (try dsimp only)
        exact HSS.out _ K17.out
      clear hK K hHz8
      (try simp only [Act.put, List.setIfInBounds_toArray, List.set_cons_zero, List.set_cons_succ])
      refine wpAnyH_ready (rs := [16]) (by kernel_rfl) (by simp) ?_
      refine AllReadyH.cons (o := { dst := some 137, op := Op.call { callee := Callee.value (Operand.func 32), args := #[Operand.tmp 136], argTypes := #[48] }, type := 3, pos := "more.go:40", after := #[{ on := 15, ground := Ground.data }, { on := 15, ground := Ground.chain }, { on := 10, ground := Ground.guard }], guard := some (10, true) }) rfl (fun K hK => ?_) AllReadyH.nil
      go_simp
      (go_at_call 32; (with_reducible refine (HLn.out _ K17.out).mono ?_); rintro e w18 ⟨rfl, rfl⟩; have K18 := Aside0.mk K17.out)
      go_wp2_with fail
      refine hK.out _ _ ?_ (fun hHz17 => ?_)
      · (try dsimp only)
        exact HSS.out _ K18.out
      clear hK K hHz16
      (try simp only [Act.put, List.setIfInBounds_toArray, List.set_cons_zero, List.set_cons_succ])
      refine wpAnyH_ready (rs := [18]) (by kernel_rfl) (by simp) ?_
      refine AllReadyH.cons (o := { dst := some 139, op := Op.call { callee := Callee.value (Operand.func 33), args := #[Operand.tmp 138], argTypes := #[41] }, type := 3, pos := "more.go:40", after := #[{ on := 17, ground := Ground.data }, { on := 16, ground := Ground.chain }, { on := 10, ground := Ground.guard }], guard := some (10, true) }) rfl (fun K hK => ?_) AllReadyH.nil
      go_simp
      (go_at_call 33; (with_reducible refine (HCl.out _).mono ?_); rintro e w19 ⟨rfl, hb19⟩; have K19 := Aside0.mk (below_then K18.out K18.out.size hb19))
      go_wp2_with fail
      refine hK.out _ _ ?_ (fun hHz18 => ?_)
      · (try dsimp only)
        exact HSS.out _ K19.out
      clear hK K hHz17
      (try simp only [Act.put, List.setIfInBounds_toArray, List.set_cons_zero, List.set_cons_succ])
      refine wpAnyH_take (i := 19) (oi := { dst := some 140, op := Op.binOp BinOp.eql 3 (Operand.tmp 137) (Operand.tmp 139) 3, type := 4, pos := "more.go:40", after := #[{ on := 16, ground := Ground.data }, { on := 18, ground := Ground.data }, { on := 10, ground := Ground.guard }], guard := some (10, true) }) (v := ?vz20) rfl (by kernel_rfl) (by kernel_rfl) (by kernel_rfl) (fun _ _ _ h => h) (Or.inl ⟨by rfl, ?yz20⟩) (by assumption) ?rz20
      case yz20 => (intro w hSw; (try dsimp only at hSw); go_simp; (try with_reducible rfl))
      (try simp only [Act.put, List.setIfInBounds_toArray, List.set_cons_zero, List.set_cons_succ])
      refine wpAnyH_take (i := 20) (oi := { dst := some 141, op := Op.pick (Operand.tmp 131) (Operand.tmp 140) (Operand.const (Value.bool false)), type := 4, pos := "more.go:40", after := #[{ on := 10, ground := Ground.data }, { on := 19, ground := Ground.data }], guard := none }) (v := ?vz21) rfl (by kernel_rfl) (by kernel_rfl) (by kernel_rfl) (fun _ _ _ h => h) (Or.inl ⟨by rfl, ?yz21⟩) (by assumption) ?rz21
      case yz21 => (intro w hSw; (try dsimp only at hSw); go_simp; (try with_reducible rfl))
      (try simp only [Act.put, List.setIfInBounds_toArray, List.set_cons_zero, List.set_cons_succ])
      refine wpAnyH_take (i := 21) (oi := { dst := some 142, op := Op.move (Operand.tmp 141), type := 4, pos := "more.go:40", after := #[{ on := 20, ground := Ground.data }, { on := 18, ground := Ground.chain }], guard := none }) (v := ?vz22) rfl (by kernel_rfl) (by kernel_rfl) (by kernel_rfl) (fun _ _ _ h => h) (Or.inl ⟨by rfl, ?yz22⟩) (by assumption) ?rz22
      case yz22 => (intro w hSw; (try dsimp only at hSw); go_simp; (try with_reducible rfl))
      (try simp only [Act.put, List.setIfInBounds_toArray, List.set_cons_zero, List.set_cons_succ])
      refine wpAnyH_take (i := 22) (oi := { dst := some 143, op := Op.move (Operand.tmp 11), type := 42, pos := "more.go:40", after := #[{ on := 21, ground := Ground.guard }], guard := some (21, true) }) (v := ?vz23) rfl (by kernel_rfl) (by kernel_rfl) (by kernel_rfl) (fun _ _ _ h => h) (Or.inl ⟨by rfl, ?yz23⟩) (by assumption) ?rz23
      case yz23 => (intro w hSw; (try dsimp only at hSw); go_simp; (try with_reducible rfl))
      (try simp only [Act.put, List.setIfInBounds_toArray, List.set_cons_zero, List.set_cons_succ])
      refine wpAnyH_take (i := 23) (oi := { dst := some 144, op := Op.nilCheck (Operand.tmp 143), type := 0, pos := "more.go:40", after := #[{ on := 22, ground := Ground.data }, { on := 21, ground := Ground.guard }], guard := some (21, true) }) (v := ?vz24) rfl (by kernel_rfl) (by kernel_rfl) (by kernel_rfl) (fun _ _ _ h => h) (Or.inl ⟨by rfl, ?yz24⟩) (by assumption) ?rz24
      case yz24 => (intro w hSw; (try dsimp only at hSw); go_simp; (try with_reducible rfl))
      (try simp only [Act.put, List.setIfInBounds_toArray, List.set_cons_zero, List.set_cons_succ])
      refine wpAnyH_take (i := 24) (oi := { dst := some 145, op := Op.fieldAddr 54 (Operand.tmp 144) 0, type := 0, pos := "more.go:40", after := #[{ on := 23, ground := Ground.data }, { on := 21, ground := Ground.guard }], guard := some (21, true) }) (v := ?vz25) rfl (by kernel_rfl) (by kernel_rfl) (by kernel_rfl) (fun _ _ _ h => h) (Or.inl ⟨by rfl, ?yz25⟩) (by assumption) ?rz25
      case yz25 => (intro w hSw; (try dsimp only at hSw); go_simp; (try with_reducible rfl))
      (try simp only [Act.put, List.setIfInBounds_toArray, List.set_cons_zero, List.set_cons_succ])
      refine wpAnyH_take (i := 25) (oi := { dst := some 146, op := Op.load 50 (Operand.tmp 145), type := 50, pos := "more.go:40", after := #[{ on := 24, ground := Ground.data }, { on := 21, ground := Ground.guard }], guard := some (21, true) }) (v := ?vz26) rfl (by kernel_rfl) (by kernel_rfl) (by kernel_rfl) (fun _ _ _ h => h) (Or.inl ⟨by rfl, ?yz26⟩) (by assumption) ?rz26
      case yz26 => (intro w hSw; (try dsimp only at hSw); go_simp; (try with_reducible rfl))
      (try simp only [Act.put, List.setIfInBounds_toArray, List.set_cons_zero, List.set_cons_succ])
      refine wpAnyH_take (i := 27) (oi := { dst := some 148, op := Op.load 41 (Operand.tmp 5), type := 41, pos := "more.go:40", after := #[{ on := 21, ground := Ground.guard }], guard := some (21, true) }) (v := ?vz27) rfl (by kernel_rfl) (by kernel_rfl) (by kernel_rfl) (fun _ _ _ h => h) (Or.inl ⟨by rfl, ?yz27⟩) (by assumption) ?rz27
      case yz27 => (intro w hSw; (try dsimp only at hSw); go_simp; (try with_reducible rfl))
      (try simp only [Act.put, List.setIfInBounds_toArray, List.set_cons_zero, List.set_cons_succ])
      refine wpAnyH_ready (rs := [26]) (by kernel_rfl) (by simp) ?_
      refine AllReadyH.cons (o := { dst := some 147, op := Op.call { callee := Callee.value (Operand.func 34), args := #[Operand.tmp 146], argTypes := #[50] }, type := 41, pos := "more.go:40", after := #[{ on := 25, ground := Ground.data }, { on := 21, ground := Ground.chain }, { on := 21, ground := Ground.guard }], guard := some (21, true) }) rfl (fun K hK => ?_) AllReadyH.nil
      go_simp
      (go_at_call 34; (with_reducible refine (partsConf_ _ c P (HA.out.below K19.out).core.parts).mono ?_); rintro e w20 ⟨rfl, hb20⟩; have K20 := Aside0.mk (below_then K19.out K19.out.size hb20))
      go_wp2_with fail
      refine hK.out _ _ ?_ (fun hHz27 => ?_)
      · (try dsimp only)
        exact HSS.out _ K20.out
      clear hK K hHz18
      (try simp only [Act.put, List.setIfInBounds_toArray, List.set_cons_zero, List.set_cons_succ])
      refine wpAnyH_take (i := 28) (oi := { dst := some 149, op := Op.binOp BinOp.eql 41 (Operand.tmp 147) (Operand.tmp 148) 41, type := 4, pos := "more.go:40", after := #[{ on := 26, ground := Ground.data }, { on := 27, ground := Ground.data }, { on := 21, ground := Ground.guard }], guard := some (21, true) }) (v := ?vz29) rfl (by kernel_rfl) (by kernel_rfl) (by kernel_rfl) (fun _ _ _ h => h) (Or.inl ⟨by rfl, ?yz29⟩) (by assumption) ?rz29
      case yz29 => (intro w hSw; (try dsimp only at hSw); go_simp; (try with_reducible rfl))
      (try simp only [Act.put, List.setIfInBounds_toArray, List.set_cons_zero, List.set_cons_succ])
      refine wpAnyH_take (i := 29) (oi := { dst := some 150, op := Op.pick (Operand.tmp 142) (Operand.tmp 149) (Operand.const (Value.bool false)), type := 4, pos := "more.go:40", after := #[{ on := 21, ground := Ground.data }, { on := 28, ground := Ground.data }], guard := none }) (v := ?vz30) rfl (by kernel_rfl) (by kernel_rfl) (by kernel_rfl) (fun _ _ _ h => h) (Or.inl ⟨by rfl, ?yz30⟩) (by assumption) ?rz30
      case yz30 => (intro w hSw; (try dsimp only at hSw); go_simp; (try with_reducible rfl))
      (try simp only [Act.put, List.setIfInBounds_toArray, List.set_cons_zero, List.set_cons_succ])
      refine wpAnyH_take (i := 30) (oi := { dst := some 10, op := Op.assign (Operand.tmp 150), type := 4, pos := "more.go:40", after := #[{ on := 29, ground := Ground.data }, { on := 26, ground := Ground.chain }, { on := 0, ground := Ground.phase }, { on := 1, ground := Ground.phase }, { on := 2, ground := Ground.phase }, { on := 3, ground := Ground.phase }, { on := 4, ground := Ground.phase }, { on := 5, ground := Ground.phase }, { on := 6, ground := Ground.phase }, { on := 7, ground := Ground.phase }, { on := 8, ground := Ground.phase }, { on := 9, ground := Ground.phase }, { on := 10, ground := Ground.phase }, { on := 11, ground := Ground.phase }, { on := 12, ground := Ground.phase }, { on := 13, ground := Ground.phase }, { on := 14, ground := Ground.phase }, { on := 15, ground := Ground.phase }, { on := 16, ground := Ground.phase }, { on := 17, ground := Ground.phase }, { on := 18, ground := Ground.phase }, { on := 19, ground := Ground.phase }, { on := 20, ground := Ground.phase }, { on := 21, ground := Ground.phase }, { on := 22, ground := Ground.phase }, { on := 23, ground := Ground.phase }, { on := 24, ground := Ground.phase }, { on := 25, ground := Ground.phase }, { on := 26, ground := Ground.phase }, { on := 27, ground := Ground.phase }, { on := 28, ground := Ground.phase }, { on := 29, ground := Ground.phase }], guard := none }) (v := ?vz31) rfl (by kernel_rfl) (by kernel_rfl) (by kernel_rfl) (fun _ _ _ h => h) (Or.inl ⟨by rfl, ?yz31⟩) (by assumption) ?rz31
      case yz31 => (intro w hSw; (try dsimp only at hSw); go_simp; (try with_reducible rfl))
      (try simp only [Act.put, List.setIfInBounds_toArray, List.set_cons_zero, List.set_cons_succ])
      refine wpAnyH_done (by kernel_rfl) ?_ _
      go_wp2
      go_ret
      exact ⟨rfl, below_then HB1.out HB1.out.size (HA.out.below K20.out).up⟩
theorem cells_walk (c : Cf) (A : Option Addr) (cA : Nat) (heap : List Int) (a v ps : Int) (w : World) (hr : Kd.C (Kd.int .i64) w A heap.length heap) (hc : heap.length ≤ cA) (hw : heap.length ≤ maxLen) :
    Calls Try.prog 4 #[.agg #[.int .i64 c.f0, .int .i64 c.f1, .int .i64 c.f2, .int .i64 c.f3, .int .i64 c.f4, .int .i64 c.f5, .int .i64 c.f6, .int .i64 c.f7, .int .i64 c.f8, .int .i64 c.f9, .int .i64 c.f10, .int .i64 c.f11], .slice A heap.length cA, .int .i64 a, .int .i64 v, .int .i64 ps] w fun e w' => e = .returned (.bool true) ∧ Below w.heap.size w w' := by
  by_cases h : 5000 < heap.length ∨ ps < 0 ∨ 100 < ps
  · exact cells_early c A cA heap a v ps w h
  · obtain ⟨ps, rfl⟩ : ∃ n : Nat, ps = n := ⟨ps.toNat, by omega⟩
    by_cases hB : InB c.f0 c.f1 c.f2 c.f3 c.f4 c.f5 c.f6 c.f7 c.f8 c.f9 c.f10 c.f11
    · obtain ⟨m, sz, nd, z1, z2, z3, z4, z5, hwd, hcl, hnd⟩ := conf_good hB
      by_cases e : heap.length = m
      · subst e
        by_cases h0 : a < 0
        · exact cells_neg c A cA heap a v ps w hr hc (by omega) (by omega) sz nd hB z1 z2 z3 z4 z5 hwd hcl hnd h0
        · by_cases h1 : a < heap.length
          · exact cells_in c A cA heap a v ps w hr hc (by omega) (by omega) sz nd hB z1 z2 z3 z4 z5 hwd hcl hnd (by omega) h1
          · exact cells_big c A cA heap a v ps w hr hc (by omega) (by omega) sz nd hB z1 z2 z3 z4 z5 hwd hcl hnd (by omega)
      · exact cells_bad2 c A cA heap a v ps w (by omega) (by omega) (by omega) m (chk_yes hB) hwd (by omega)
    · exact cells_bad1 c A cA heap a v ps w (by omega) (by omega) (by omega) (chk_no hB)
end Go.Proofs.Ytodhanlbdbfieaa.Co
