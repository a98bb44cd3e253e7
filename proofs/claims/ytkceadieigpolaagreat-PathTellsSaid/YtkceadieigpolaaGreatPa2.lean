import Derived.Test.YtkceadieigpolaaGreatPa1
namespace Go.Proofs.YtkceadieigpolaaGreat.Ln
open Go.RowKit Go.Proofs.YtkceadieigpolaaGreatW.PrintWords Go.Proofs.YtkceadieigpolaaGreatW.PrintLast Go.Proofs.YtkceadieigpolaaGreatW.PrintMore Go.Proofs.YtkceadieigpolaaGreat.PMd
open Go.Maps
open Go.Sort (grow)
set_option linter.unusedVariables false
set_option linter.unusedSimpArgs false
def covM (a b : Int) : Bool := (mode_Covers.f 20 a b).getD false
def intM (a : Int) : Int := (mode_Intent.f 20 a).getD 0
def enoM (a : Int) (wr : Bool) : Bool := (path_enough.f a wr).getD false
theorem cov_f : ∀ a b : Fin 6, mode_Covers.f 20 (a.val : Int) (b.val : Int) = some (covM (a.val : Int) (b.val : Int)) := by decide +kernel
theorem eno_f : ∀ (a : Fin 6) (b : Bool), path_enough.f (a.val : Int) b = some (enoM (a.val : Int) b) := by decide +kernel
theorem int_f : ∀ a : Fin 6, mode_Intent.f 20 (a.val : Int) = some (intM (a.val : Int)) := by decide +kernel
theorem Covers_M (a b : Int) (w : World) (ha : md a) (hb : md b) : Calls Tryz.prog 49 #[.int .i64 a, .int .i64 b] w fun e w' => e = .returned (.bool (covM a b)) ∧ Below w.heap.size w w' :=
 mode_Covers.calls 20 a b _ w (by obtain ⟨x, rfl⟩ := fin6 ha; obtain ⟨y, rfl⟩ := fin6 hb; exact cov_f x y)
theorem Intent_M (a : Int) (w : World) (ha : md a) : Calls Tryz.prog 50 #[.int .i64 a] w fun e w' => e = .returned (.int .i64 (intM a)) ∧ Below w.heap.size w w' :=
 (mode_Intent.calls 20 a _ w (by obtain ⟨x, rfl⟩ := fin6 ha; exact int_f x)).mono fun _ _ ⟨h1, h2⟩ => ⟨h1, by obtain ⟨n, rfl⟩ := h2.out; exact pw_below_drewN (Below.refl _ _) _⟩
theorem Enough_M (a : Int) (b : Bool) (w : World) (ha : md a) : Calls Tryz.prog 51 #[.int .i64 a, .bool b] w fun e w' => e = .returned (.bool (enoM a b)) ∧ Below w.heap.size w w' :=
 (path_enough.calls a b _ w (by obtain ⟨x, rfl⟩ := fin6 ha; exact eno_f x b)).mono fun _ _ ⟨h1, h2⟩ => ⟨h1, by obtain ⟨n, rfl⟩ := h2.out; exact pw_below_drewN (Below.refl _ _) _⟩
def wantM (wr : Bool) : Int := if wr then 5 else 3
theorem want_md (wr : Bool) : md (wantM wr) ∧ md (intM (wantM wr)) := by cases wr <;> decide +kernel
def nextT (r o s : Int) (hr ho hs esc : Int) (stripes : Nat) (wr : Bool) : L × Bool :=
 if covM hr (intM (wantM wr)) = false then (⟨r, intM (wantM wr)⟩, true)
 else if enoM ho wr = true then (⟨0, 0⟩, false)
 else if (esc > 0 ∧ covM hs (wantM wr) = false) ∧ (stripes : Int) ≥ esc then (⟨o, wantM wr⟩, true)
 else if covM ho (intM (wantM wr)) = false then (⟨o, intM (wantM wr)⟩, true)
 else if covM hs (wantM wr) = false then (⟨s, wantM wr⟩, true)
 else (⟨0, 0⟩, false)
theorem two_set {w : World} {g : Nat} {t : TypeId} {u v : Value} (h : w.heap[g]? = some (.cells #[u, v] t (0, 0))) (x y : Value) : ((w.setCell ⟨g, 0, none⟩ x).setCell ⟨g, 1, none⟩ y).heap[g]? = some (.cells #[x, y] t (0, 0)) := by
 have h1 := heap_setCell_same w g 0 _ _ x h
 exact heap_setCell_same _ g 1 _ _ y h1
set_option maxHeartbeats 8000000 in
set_option maxRecDepth 100000 in
theorem Next_true {w : World} {b : Nat} {F : Nat → Prop} {ls : List LS} {most : Int} {N : Nat} {f : At} (h : IsTab w b F ls most N f) (hi : LInv ls) (hn : ls.length ≤ 10000) (c : Cf) (who a : Int) (lv pa : Int → Int)
  (hlv : ∀ j : Nat, j < ls.length → shape_Level.f 20 c.f0 c.f1 c.f2 c.f3 c.f4 c.f5 c.f6 c.f7 c.f8 c.f9 c.f10 c.f11 (j : Int) = some (lv j)) (hpa : ∀ j : Nat, j < ls.length → shape_Parent.f 20 c.f0 c.f1 c.f2 c.f3 c.f4 c.f5 c.f6 c.f7 c.f8 c.f9 c.f10 c.f11 (j : Int) = some (pa j))
  (r o s : Int) (hp : shape_Path.f c.f0 c.f1 c.f2 c.f3 c.f4 c.f5 c.f6 c.f7 c.f8 c.f9 c.f10 c.f11 a = some (r, o, s, 0)) (hr ho hs : Int) (st : Nat) (er : holdsT ls who r = hr) (eo : holdsT ls who o = ho) (es : holdsT ls who s = hs) (est : stripesT ls who lv pa o = st) :
  Calls Tryz.prog 13 #[.agg #[.int .i64 c.f0, .int .i64 c.f1, .int .i64 c.f2, .int .i64 c.f3, .int .i64 c.f4, .int .i64 c.f5, .int .i64 c.f6, .int .i64 c.f7, .int .i64 c.f8, .int .i64 c.f9, .int .i64 c.f10, .int .i64 c.f11], .pointer (some ⟨b, 0, none⟩), .int .i64 who, .int .i64 a, .bool true] w fun e w' =>
   e = .returned (.tuple #[.agg #[.int .i64 (nextT r o s hr ho hs c.f9 st true).1.f0, .int .i64 (nextT r o s hr ho hs c.f9 st true).1.f1], .bool (nextT r o s hr ho hs c.f9 st true).2, .int .i64 0]) ∧ Below w.heap.size w w' := by
 have mixed : Tryz.prog.follows Departure.mixedOrders = true := by kernel_rfl
 have hu41 := Tryz.underlying23
 have hu38 := Tryz.underlying41
 have HB1 := Aside0.mk (below_alloc (below_alloc (Below.refl w.heap.size w) (.cells #[.int .i64 c.f0, .int .i64 c.f1, .int .i64 c.f2, .int .i64 c.f3, .int .i64 c.f4, .int .i64 c.f5, .int .i64 c.f6, .int .i64 c.f7, .int .i64 c.f8, .int .i64 c.f9, .int .i64 c.f10, .int .i64 c.f11] 23)) (.cells #[.int .i64 0, .int .i64 0] 41))
 have e1 : (w.alloc (.cells #[.int .i64 c.f0, .int .i64 c.f1, .int .i64 c.f2, .int .i64 c.f3, .int .i64 c.f4, .int .i64 c.f5, .int .i64 c.f6, .int .i64 c.f7, .int .i64 c.f8, .int .i64 c.f9, .int .i64 c.f10, .int .i64 c.f11] 23)).heap.size = w.heap.size + 1 := by simp
 have hx := blk_new w (.cells #[.int .i64 c.f0, .int .i64 c.f1, .int .i64 c.f2, .int .i64 c.f3, .int .i64 c.f4, .int .i64 c.f5, .int .i64 c.f6, .int .i64 c.f7, .int .i64 c.f8, .int .i64 c.f9, .int .i64 c.f10, .int .i64 c.f11] 23)
 have hx2 := blk_alloc hx (.cells #[.int .i64 0, .int .i64 0] 41)
 have hz := blk_new (w.alloc (.cells #[.int .i64 c.f0, .int .i64 c.f1, .int .i64 c.f2, .int .i64 c.f3, .int .i64 c.f4, .int .i64 c.f5, .int .i64 c.f6, .int .i64 c.f7, .int .i64 c.f8, .int .i64 c.f9, .int .i64 c.f10, .int .i64 c.f11] 23)) (.cells #[.int .i64 0, .int .i64 0] 41)
 rw [e1] at hz
 obtain ⟨w1, hw1⟩ : ∃ W, (w.alloc (.cells #[.int .i64 c.f0, .int .i64 c.f1, .int .i64 c.f2, .int .i64 c.f3, .int .i64 c.f4, .int .i64 c.f5, .int .i64 c.f6, .int .i64 c.f7, .int .i64 c.f8, .int .i64 c.f9, .int .i64 c.f10, .int .i64 c.f11] 23)).alloc (.cells #[.int .i64 0, .int .i64 0] 41) = W := ⟨_, rfl⟩
 have HW1 := Aside0.mk hw1
 rw [hw1] at HB1 hx2 hz
 have S1 := Aside0.mk (show w1.heap.size = w.heap.size + 2 by rw [← hw1]; simp)
 have Z := Aside0.mk (fun W (hb : Below w1.heap.size w1 W) => (hb.block (w.heap.size + 1) (by rw [S1.out]; omega)).trans hz)
 have X := Aside0.mk (fun W (hb : Below w1.heap.size w1 W) => (show W.cell? ⟨w.heap.size, 0, none⟩ = some (.int .i64 c.f0) ∧ W.cell? ⟨w.heap.size, 1, none⟩ = some (.int .i64 c.f1) ∧ W.cell? ⟨w.heap.size, 2, none⟩ = some (.int .i64 c.f2) ∧ W.cell? ⟨w.heap.size, 3, none⟩ = some (.int .i64 c.f3) ∧ W.cell? ⟨w.heap.size, 4, none⟩ = some (.int .i64 c.f4) ∧ W.cell? ⟨w.heap.size, 5, none⟩ = some (.int .i64 c.f5) ∧ W.cell? ⟨w.heap.size, 6, none⟩ = some (.int .i64 c.f6) ∧ W.cell? ⟨w.heap.size, 7, none⟩ = some (.int .i64 c.f7) ∧ W.cell? ⟨w.heap.size, 8, none⟩ = some (.int .i64 c.f8) ∧ W.cell? ⟨w.heap.size, 9, none⟩ = some (.int .i64 c.f9) ∧ W.cell? ⟨w.heap.size, 10, none⟩ = some (.int .i64 c.f10) ∧ W.cell? ⟨w.heap.size, 11, none⟩ = some (.int .i64 c.f11) from ⟨(hb.cell (p := ⟨w.heap.size, 0, none⟩) (by show w.heap.size < _; rw [S1.out]; omega)).trans ((blk_cell hx2 0).trans rfl), (hb.cell (p := ⟨w.heap.size, 1, none⟩) (by show w.heap.size < _; rw [S1.out]; omega)).trans ((blk_cell hx2 1).trans rfl), (hb.cell (p := ⟨w.heap.size, 2, none⟩) (by show w.heap.size < _; rw [S1.out]; omega)).trans ((blk_cell hx2 2).trans rfl), (hb.cell (p := ⟨w.heap.size, 3, none⟩) (by show w.heap.size < _; rw [S1.out]; omega)).trans ((blk_cell hx2 3).trans rfl), (hb.cell (p := ⟨w.heap.size, 4, none⟩) (by show w.heap.size < _; rw [S1.out]; omega)).trans ((blk_cell hx2 4).trans rfl), (hb.cell (p := ⟨w.heap.size, 5, none⟩) (by show w.heap.size < _; rw [S1.out]; omega)).trans ((blk_cell hx2 5).trans rfl), (hb.cell (p := ⟨w.heap.size, 6, none⟩) (by show w.heap.size < _; rw [S1.out]; omega)).trans ((blk_cell hx2 6).trans rfl), (hb.cell (p := ⟨w.heap.size, 7, none⟩) (by show w.heap.size < _; rw [S1.out]; omega)).trans ((blk_cell hx2 7).trans rfl), (hb.cell (p := ⟨w.heap.size, 8, none⟩) (by show w.heap.size < _; rw [S1.out]; omega)).trans ((blk_cell hx2 8).trans rfl), (hb.cell (p := ⟨w.heap.size, 9, none⟩) (by show w.heap.size < _; rw [S1.out]; omega)).trans ((blk_cell hx2 9).trans rfl), (hb.cell (p := ⟨w.heap.size, 10, none⟩) (by show w.heap.size < _; rw [S1.out]; omega)).trans ((blk_cell hx2 10).trans rfl), (hb.cell (p := ⟨w.heap.size, 11, none⟩) (by show w.heap.size < _; rw [S1.out]; omega)).trans ((blk_cell hx2 11).trans rfl)⟩))
 have HT := Aside0.mk (h.below HB1.out)
 have HP := Aside0.mk (shape_Path.calls c.f0 c.f1 c.f2 c.f3 c.f4 c.f5 c.f6 c.f7 c.f8 c.f9 c.f10 c.f11 a r o s 0 w1 hp)
 have HHr := Aside0.mk (fun W (hb : Below w1.heap.size w1 W) => HoldsT_ (HT.out.below hb) who r)
 have HHo := Aside0.mk (fun W (hb : Below w1.heap.size w1 W) => HoldsT_ (HT.out.below hb) who o)
 have HHs := Aside0.mk (fun W (hb : Below w1.heap.size w1 W) => HoldsT_ (HT.out.below hb) who s)
 have HSt := Aside0.mk (fun W (hb : Below w1.heap.size w1 W) => Stripes_ (HT.out.below hb) hn c who o lv pa hlv hpa)
 have mr := told_md_T hi who r
 have mo := told_md_T hi who o
 have ms := told_md_T hi who s
 rw [er] at HHr mr
 rw [eo] at HHo mo
 rw [es] at HHs ms
 rw [est] at HSt
 have HIn := Aside0.mk (fun W => Intent_M (wantM true) W (want_md true).1)
 have HCr := Aside0.mk (fun W => Covers_M hr (intM (wantM true)) W mr (want_md true).2)
 have HCo := Aside0.mk (fun W => Covers_M ho (intM (wantM true)) W mo (want_md true).2)
 have HCs := Aside0.mk (fun W => Covers_M hs (wantM true) W ms (want_md true).1)
 have HEn := Aside0.mk (fun W => Enough_M ho true W mo)
 clear h hi hn hlv hpa hp er eo es est mr mo ms hx hx2 hz HT hw1
 go_enter Tryz.func13, Tryz.ntmps13
 go_wp2_with fail
 simp only [HW1.out]
 refine HP.out.mono ?_
 rintro e w2 ⟨rfl, hb⟩
 have HB2 := Aside0.mk hb
 clear hb HP
 go_wp2_with fail
 refine (HHr.out w2 HB2.out).mono ?_
 rintro e w3 ⟨rfl, hb⟩
 have HB3 := Aside0.mk (below_then HB2.out HB2.out.size hb)
 clear hb HHr
 go_wp2_with fail
 refine (HIn.out w3).mono ?_
 rintro e w4 ⟨rfl, hb⟩
 have HB4 := Aside0.mk (below_then HB3.out HB3.out.size hb)
 clear hb
 cases hA : covM hr (intM (wantM true)) with
 | false =>
  have HA := Aside0.mk hA
  rw [hA] at HCr
  clear hA
  go_wp2_with fail
  refine (HCr.out w4).mono ?_
  rintro e w5 ⟨rfl, hb⟩
  have HB5 := Aside0.mk (below_then HB4.out HB4.out.size hb)
  clear hb HCr
  go_wp2_with fail
  refine (HIn.out w5).mono ?_
  rintro e w6 ⟨rfl, hb⟩
  have HB6 := Aside0.mk (below_then HB5.out HB5.out.size hb)
  clear hb
  have hz := Z.out _ HB6.out
  have k0 : w6.cell? ⟨w.heap.size + 1, 0, none⟩ = some (.int .i64 0) := (blk_cell hz 0).trans rfl
  have k1 : w6.cell? ⟨w.heap.size + 1, 1, none⟩ = some (.int .i64 0) := (blk_cell hz 1).trans rfl
  have j0 := frozen_of_row w6 (w.heap.size + 1) 0 _ _ hz
  have j1 := frozen_of_row w6 (w.heap.size + 1) 1 _ _ hz
  have HZ := Aside0.mk hz
  clear hz
  go_wp2
  (try simp only [Exit.inBlock, Exit.then])
  refine bodyPost_ret (results_ctt rfl _ _ (w.heap.size + 1) 41 #[.int .i64 (r), .int .i64 (intM (wantM true))] (0, 0) _ rfl ?_ hu38 rfl (by kernel_rfl)) rfl ?_
  ·exact two_set HZ.out _ _
  ·have e1 : nextT r o s hr ho hs c.f9 st true = (⟨r, intM (wantM true)⟩, true) := by unfold nextT; rw [if_pos HA.out]
   rw [e1]
   exact ⟨rfl, ((below_then HB1.out (by rw [S1.out]; omega) HB6.out).setCell (p := ⟨w.heap.size + 1, 0, none⟩) (Nat.le_succ _) _).setCell (p := ⟨w.heap.size + 1, 1, none⟩) (Nat.le_succ _) _⟩
 | true =>
  have HA := Aside0.mk (show ¬ covM hr (intM (wantM true)) = false by rw [hA]; decide)
  rw [hA] at HCr
  clear hA
  go_wp2_with fail
  refine (HCr.out w4).mono ?_
  rintro e w5 ⟨rfl, hb⟩
  have HB5 := Aside0.mk (below_then HB4.out HB4.out.size hb)
  clear hb HCr
  go_wp2_with fail
  refine (HHo.out w5 HB5.out).mono ?_
  rintro e w6 ⟨rfl, hb⟩
  have HB6 := Aside0.mk (below_then HB5.out HB5.out.size hb)
  clear hb HHo
  go_wp2_with fail
  refine (HHs.out w6 HB6.out).mono ?_
  rintro e w7 ⟨rfl, hb⟩
  have HB7 := Aside0.mk (below_then HB6.out HB6.out.size hb)
  clear hb HHs
  obtain ⟨be, hE⟩ : ∃ x, covM hs (wantM true) = x := ⟨_, rfl⟩
  have HE := Aside0.mk hE
  rw [hE] at HCs
  clear hE
  go_wp2_with fail
  refine (HCs.out w7).mono ?_
  rintro e w8 ⟨rfl, hb⟩
  have HB8 := Aside0.mk (below_then HB7.out HB7.out.size hb)
  clear hb HCs
  cases hB : enoM ho true with
  | true =>
   have HB := Aside0.mk hB
   rw [hB] at HEn
   clear hB
   go_wp2_with fail
   refine (HEn.out w8).mono ?_
   rintro e w9 ⟨rfl, hb⟩
   have HB9 := Aside0.mk (below_then HB8.out HB8.out.size hb)
   clear hb HEn
   have hz := Z.out _ HB9.out
   have k0 : w9.cell? ⟨w.heap.size + 1, 0, none⟩ = some (.int .i64 0) := (blk_cell hz 0).trans rfl
   have k1 : w9.cell? ⟨w.heap.size + 1, 1, none⟩ = some (.int .i64 0) := (blk_cell hz 1).trans rfl
   have j0 := frozen_of_row w9 (w.heap.size + 1) 0 _ _ hz
   have j1 := frozen_of_row w9 (w.heap.size + 1) 1 _ _ hz
   have HZ := Aside0.mk hz
   clear hz
   go_wp2
   (try simp only [Exit.inBlock, Exit.then])
   refine bodyPost_ret (results_ctt rfl _ _ (w.heap.size + 1) 41 #[.int .i64 (0), .int .i64 (0)] (0, 0) _ rfl ?_ hu38 rfl (by kernel_rfl)) rfl ?_
   ·exact two_set HZ.out _ _
   ·have e1 : nextT r o s hr ho hs c.f9 st true = (⟨0, 0⟩, false) := by unfold nextT; rw [if_neg HA.out]; rw [if_pos HB.out]
    rw [e1]
    exact ⟨rfl, ((below_then HB1.out (by rw [S1.out]; omega) HB9.out).setCell (p := ⟨w.heap.size + 1, 0, none⟩) (Nat.le_succ _) _).setCell (p := ⟨w.heap.size + 1, 1, none⟩) (Nat.le_succ _) _⟩
  | false =>
   have HB := Aside0.mk (show ¬ enoM ho true = true by rw [hB]; decide)
   rw [hB] at HEn
   clear hB
   go_wp2_with fail
   refine (HEn.out w8).mono ?_
   rintro e w9 ⟨rfl, hb⟩
   have HB9 := Aside0.mk (below_then HB8.out HB8.out.size hb)
   clear hb HEn
   by_cases hC : c.f9 > 0
   ·have c1 : decide (c.f9 > 0) = true := decide_eq_true hC
    have c2 : decide (0 < c.f9) = true := decide_eq_true hC
    cases be with
    | true =>
     have HC := Aside0.mk (show ¬ ((c.f9 > 0 ∧ covM hs (wantM true) = false) ∧ (st : Int) ≥ c.f9) by rw [HE.out]; rintro ⟨⟨_, h⟩, _⟩; cases h)
     have HE' := Aside0.mk (show ¬ covM hs (wantM true) = false by rw [HE.out]; decide)
     clear hC HE HSt
     have HE := Aside0.mk HE'.out
     clear HE'
     go_wp2_with fail
     obtain ⟨x0, x1, x2, x3, x4, x5, x6, x7, x8, x9, x10, x11⟩ := X.out _ HB9.out
     have g0 := fun d os => cell_gr x0 d os
     have g1 := fun d os => cell_gr x1 d os
     have g2 := fun d os => cell_gr x2 d os
     have g3 := fun d os => cell_gr x3 d os
     have g4 := fun d os => cell_gr x4 d os
     have g5 := fun d os => cell_gr x5 d os
     have g6 := fun d os => cell_gr x6 d os
     have g7 := fun d os => cell_gr x7 d os
     have g8 := fun d os => cell_gr x8 d os
     have g9 := fun d os => cell_gr x9 d os
     have g10 := fun d os => cell_gr x10 d os
     have g11 := fun d os => cell_gr x11 d os
     refine wp_region_gr mixed (by kernel_rfl) ?_
     repeat (go_big_quiet_step (fail))
     refine wpQuiet_nil ?_
     intro _ hw'
     obtain ⟨⟨d, os⟩, rfl⟩ := hw'
     have HB10 := Aside0.mk (below_then HB9.out HB9.out.size (below_gr w9 d os))
     clear x0 x1 x2 x3 x4 x5 x6 x7 x8 x9 x10 x11 g0 g1 g2 g3 g4 g5 g6 g7 g8 g9 g10 g11
     generalize grow (wat w9 d) os = w10 at HB10 ⊢
     clear c1 c2
     cases hD : covM ho (intM (wantM true)) with
     | false =>
      have HD := Aside0.mk hD
      rw [hD] at HCo
      clear hD
      go_wp2_with fail
      refine (HIn.out w10).mono ?_
      rintro e w11 ⟨rfl, hb⟩
      have HB11 := Aside0.mk (below_then HB10.out HB10.out.size hb)
      clear hb
      go_wp2_with fail
      refine (HCo.out w11).mono ?_
      rintro e w12 ⟨rfl, hb⟩
      have HB12 := Aside0.mk (below_then HB11.out HB11.out.size hb)
      clear hb HCo
      go_wp2_with fail
      refine (HIn.out w12).mono ?_
      rintro e w13 ⟨rfl, hb⟩
      have HB13 := Aside0.mk (below_then HB12.out HB12.out.size hb)
      clear hb
      have hz := Z.out _ HB13.out
      have k0 : w13.cell? ⟨w.heap.size + 1, 0, none⟩ = some (.int .i64 0) := (blk_cell hz 0).trans rfl
      have k1 : w13.cell? ⟨w.heap.size + 1, 1, none⟩ = some (.int .i64 0) := (blk_cell hz 1).trans rfl
      have j0 := frozen_of_row w13 (w.heap.size + 1) 0 _ _ hz
      have j1 := frozen_of_row w13 (w.heap.size + 1) 1 _ _ hz
      have HZ := Aside0.mk hz
      clear hz
      go_wp2
      (try simp only [Exit.inBlock, Exit.then])
      refine bodyPost_ret (results_ctt rfl _ _ (w.heap.size + 1) 41 #[.int .i64 (o), .int .i64 (intM (wantM true))] (0, 0) _ rfl ?_ hu38 rfl (by kernel_rfl)) rfl ?_
      ·exact two_set HZ.out _ _
      ·have e1 : nextT r o s hr ho hs c.f9 st true = (⟨o, intM (wantM true)⟩, true) := by unfold nextT; rw [if_neg HA.out]; rw [if_neg HB.out]; rw [if_neg HC.out]; rw [if_pos HD.out]
       rw [e1]
       exact ⟨rfl, ((below_then HB1.out (by rw [S1.out]; omega) HB13.out).setCell (p := ⟨w.heap.size + 1, 0, none⟩) (Nat.le_succ _) _).setCell (p := ⟨w.heap.size + 1, 1, none⟩) (Nat.le_succ _) _⟩
     | true =>
      have HD := Aside0.mk (show ¬ covM ho (intM (wantM true)) = false by rw [hD]; decide)
      rw [hD] at HCo
      clear hD
      go_wp2_with fail
      refine (HIn.out w10).mono ?_
      rintro e w11 ⟨rfl, hb⟩
      have HB11 := Aside0.mk (below_then HB10.out HB10.out.size hb)
      clear hb
      go_wp2_with fail
      refine (HCo.out w11).mono ?_
      rintro e w12 ⟨rfl, hb⟩
      have HB12 := Aside0.mk (below_then HB11.out HB11.out.size hb)
      clear hb HCo
      have hz := Z.out _ HB12.out
      have k0 : w12.cell? ⟨w.heap.size + 1, 0, none⟩ = some (.int .i64 0) := (blk_cell hz 0).trans rfl
      have k1 : w12.cell? ⟨w.heap.size + 1, 1, none⟩ = some (.int .i64 0) := (blk_cell hz 1).trans rfl
      have j0 := frozen_of_row w12 (w.heap.size + 1) 0 _ _ hz
      have j1 := frozen_of_row w12 (w.heap.size + 1) 1 _ _ hz
      have HZ := Aside0.mk hz
      clear hz
      go_wp2
      (try simp only [Exit.inBlock, Exit.then])
      refine bodyPost_ret (results_ctt rfl _ _ (w.heap.size + 1) 41 #[.int .i64 (0), .int .i64 (0)] (0, 0) _ rfl ?_ hu38 rfl (by kernel_rfl)) rfl ?_
      ·exact two_set HZ.out _ _
      ·have e1 : nextT r o s hr ho hs c.f9 st true = (⟨0, 0⟩, false) := by unfold nextT; rw [if_neg HA.out]; rw [if_neg HB.out]; rw [if_neg HC.out]; rw [if_neg HD.out]; rw [if_neg HE.out]
       rw [e1]
       exact ⟨rfl, ((below_then HB1.out (by rw [S1.out]; omega) HB12.out).setCell (p := ⟨w.heap.size + 1, 0, none⟩) (Nat.le_succ _) _).setCell (p := ⟨w.heap.size + 1, 1, none⟩) (Nat.le_succ _) _⟩
    | false =>
     by_cases hS : (st : Int) ≥ c.f9
     ·have s1 : decide ((st : Int) ≥ c.f9) = true := decide_eq_true hS
      have s2 : decide (c.f9 ≤ (st : Int)) = true := decide_eq_true hS
      have HC := Aside0.mk (show (c.f9 > 0 ∧ covM hs (wantM true) = false) ∧ (st : Int) ≥ c.f9 from ⟨⟨hC, HE.out⟩, hS⟩)
      clear hC hS HE
      go_wp2_with fail
      obtain ⟨x0, x1, x2, x3, x4, x5, x6, x7, x8, x9, x10, x11⟩ := X.out _ HB9.out
      have g0 := fun d os => cell_gr x0 d os
      have g1 := fun d os => cell_gr x1 d os
      have g2 := fun d os => cell_gr x2 d os
      have g3 := fun d os => cell_gr x3 d os
      have g4 := fun d os => cell_gr x4 d os
      have g5 := fun d os => cell_gr x5 d os
      have g6 := fun d os => cell_gr x6 d os
      have g7 := fun d os => cell_gr x7 d os
      have g8 := fun d os => cell_gr x8 d os
      have g9 := fun d os => cell_gr x9 d os
      have g10 := fun d os => cell_gr x10 d os
      have g11 := fun d os => cell_gr x11 d os
      have HStr := Aside0.mk (fun d os => HSt.out (grow (wat w9 d) os) (below_then HB9.out HB9.out.size (below_gr w9 d os)))
      refine wp_region_gr mixed (by kernel_rfl) ?_
      repeat (go_big_quiet_step (exact Calls.gr_of (HStr.out _ _)))
      refine wpQuiet_nil ?_
      intro _ hw'
      obtain ⟨⟨d, os⟩, rfl⟩ := hw'
      have HB10 := Aside0.mk (below_then HB9.out HB9.out.size (below_gr w9 d os))
      clear x0 x1 x2 x3 x4 x5 x6 x7 x8 x9 x10 x11 g0 g1 g2 g3 g4 g5 g6 g7 g8 g9 g10 g11 HStr
      generalize grow (wat w9 d) os = w10 at HB10 ⊢
      clear c1 c2 HSt
      have hz := Z.out _ HB10.out
      have k0 : w10.cell? ⟨w.heap.size + 1, 0, none⟩ = some (.int .i64 0) := (blk_cell hz 0).trans rfl
      have k1 : w10.cell? ⟨w.heap.size + 1, 1, none⟩ = some (.int .i64 0) := (blk_cell hz 1).trans rfl
      have j0 := frozen_of_row w10 (w.heap.size + 1) 0 _ _ hz
      have j1 := frozen_of_row w10 (w.heap.size + 1) 1 _ _ hz
      have HZ := Aside0.mk hz
      clear hz
      go_wp2
      (try simp only [Exit.inBlock, Exit.then])
      refine bodyPost_ret (results_ctt rfl _ _ (w.heap.size + 1) 41 #[.int .i64 (o), .int .i64 (wantM true)] (0, 0) _ rfl ?_ hu38 rfl (by kernel_rfl)) rfl ?_
      ·exact two_set HZ.out _ _
      ·have e1 : nextT r o s hr ho hs c.f9 st true = (⟨o, wantM true⟩, true) := by unfold nextT; rw [if_neg HA.out]; rw [if_neg HB.out]; rw [if_pos HC.out]
       rw [e1]
       exact ⟨rfl, ((below_then HB1.out (by rw [S1.out]; omega) HB10.out).setCell (p := ⟨w.heap.size + 1, 0, none⟩) (Nat.le_succ _) _).setCell (p := ⟨w.heap.size + 1, 1, none⟩) (Nat.le_succ _) _⟩
     ·have s1 : decide ((st : Int) ≥ c.f9) = false := decide_eq_false hS
      have s2 : decide (c.f9 ≤ (st : Int)) = false := decide_eq_false hS
      have HC := Aside0.mk (show ¬ ((c.f9 > 0 ∧ covM hs (wantM true) = false) ∧ (st : Int) ≥ c.f9) from fun h => hS h.2)
      clear hC hS
      go_wp2_with fail
      obtain ⟨x0, x1, x2, x3, x4, x5, x6, x7, x8, x9, x10, x11⟩ := X.out _ HB9.out
      have g0 := fun d os => cell_gr x0 d os
      have g1 := fun d os => cell_gr x1 d os
      have g2 := fun d os => cell_gr x2 d os
      have g3 := fun d os => cell_gr x3 d os
      have g4 := fun d os => cell_gr x4 d os
      have g5 := fun d os => cell_gr x5 d os
      have g6 := fun d os => cell_gr x6 d os
      have g7 := fun d os => cell_gr x7 d os
      have g8 := fun d os => cell_gr x8 d os
      have g9 := fun d os => cell_gr x9 d os
      have g10 := fun d os => cell_gr x10 d os
      have g11 := fun d os => cell_gr x11 d os
      have HStr := Aside0.mk (fun d os => HSt.out (grow (wat w9 d) os) (below_then HB9.out HB9.out.size (below_gr w9 d os)))
      refine wp_region_gr mixed (by kernel_rfl) ?_
      repeat (go_big_quiet_step (exact Calls.gr_of (HStr.out _ _)))
      refine wpQuiet_nil ?_
      intro _ hw'
      obtain ⟨⟨d, os⟩, rfl⟩ := hw'
      have HB10 := Aside0.mk (below_then HB9.out HB9.out.size (below_gr w9 d os))
      clear x0 x1 x2 x3 x4 x5 x6 x7 x8 x9 x10 x11 g0 g1 g2 g3 g4 g5 g6 g7 g8 g9 g10 g11 HStr
      generalize grow (wat w9 d) os = w10 at HB10 ⊢
      clear c1 c2 s1 s2 HSt
      cases hD : covM ho (intM (wantM true)) with
      | false =>
       have HD := Aside0.mk hD
       rw [hD] at HCo
       clear hD
       go_wp2_with fail
       refine (HIn.out w10).mono ?_
       rintro e w11 ⟨rfl, hb⟩
       have HB11 := Aside0.mk (below_then HB10.out HB10.out.size hb)
       clear hb
       go_wp2_with fail
       refine (HCo.out w11).mono ?_
       rintro e w12 ⟨rfl, hb⟩
       have HB12 := Aside0.mk (below_then HB11.out HB11.out.size hb)
       clear hb HCo
       go_wp2_with fail
       refine (HIn.out w12).mono ?_
       rintro e w13 ⟨rfl, hb⟩
       have HB13 := Aside0.mk (below_then HB12.out HB12.out.size hb)
       clear hb
       have hz := Z.out _ HB13.out
       have k0 : w13.cell? ⟨w.heap.size + 1, 0, none⟩ = some (.int .i64 0) := (blk_cell hz 0).trans rfl
       have k1 : w13.cell? ⟨w.heap.size + 1, 1, none⟩ = some (.int .i64 0) := (blk_cell hz 1).trans rfl
       have j0 := frozen_of_row w13 (w.heap.size + 1) 0 _ _ hz
       have j1 := frozen_of_row w13 (w.heap.size + 1) 1 _ _ hz
       have HZ := Aside0.mk hz
       clear hz
       go_wp2
       (try simp only [Exit.inBlock, Exit.then])
       refine bodyPost_ret (results_ctt rfl _ _ (w.heap.size + 1) 41 #[.int .i64 (o), .int .i64 (intM (wantM true))] (0, 0) _ rfl ?_ hu38 rfl (by kernel_rfl)) rfl ?_
       ·exact two_set HZ.out _ _
       ·have e1 : nextT r o s hr ho hs c.f9 st true = (⟨o, intM (wantM true)⟩, true) := by unfold nextT; rw [if_neg HA.out]; rw [if_neg HB.out]; rw [if_neg HC.out]; rw [if_pos HD.out]
        rw [e1]
        exact ⟨rfl, ((below_then HB1.out (by rw [S1.out]; omega) HB13.out).setCell (p := ⟨w.heap.size + 1, 0, none⟩) (Nat.le_succ _) _).setCell (p := ⟨w.heap.size + 1, 1, none⟩) (Nat.le_succ _) _⟩
      | true =>
       have HD := Aside0.mk (show ¬ covM ho (intM (wantM true)) = false by rw [hD]; decide)
       rw [hD] at HCo
       clear hD
       go_wp2_with fail
       refine (HIn.out w10).mono ?_
       rintro e w11 ⟨rfl, hb⟩
       have HB11 := Aside0.mk (below_then HB10.out HB10.out.size hb)
       clear hb
       go_wp2_with fail
       refine (HCo.out w11).mono ?_
       rintro e w12 ⟨rfl, hb⟩
       have HB12 := Aside0.mk (below_then HB11.out HB11.out.size hb)
       clear hb HCo
       have hz := Z.out _ HB12.out
       have k0 : w12.cell? ⟨w.heap.size + 1, 0, none⟩ = some (.int .i64 0) := (blk_cell hz 0).trans rfl
       have k1 : w12.cell? ⟨w.heap.size + 1, 1, none⟩ = some (.int .i64 0) := (blk_cell hz 1).trans rfl
       have j0 := frozen_of_row w12 (w.heap.size + 1) 0 _ _ hz
       have j1 := frozen_of_row w12 (w.heap.size + 1) 1 _ _ hz
       have HZ := Aside0.mk hz
       clear hz
       go_wp2
       (try simp only [Exit.inBlock, Exit.then])
       refine bodyPost_ret (results_ctt rfl _ _ (w.heap.size + 1) 41 #[.int .i64 (s), .int .i64 (wantM true)] (0, 0) _ rfl ?_ hu38 rfl (by kernel_rfl)) rfl ?_
       ·exact two_set HZ.out _ _
       ·have e1 : nextT r o s hr ho hs c.f9 st true = (⟨s, wantM true⟩, true) := by unfold nextT; rw [if_neg HA.out]; rw [if_neg HB.out]; rw [if_neg HC.out]; rw [if_neg HD.out]; rw [if_pos HE.out]
        rw [e1]
        exact ⟨rfl, ((below_then HB1.out (by rw [S1.out]; omega) HB12.out).setCell (p := ⟨w.heap.size + 1, 0, none⟩) (Nat.le_succ _) _).setCell (p := ⟨w.heap.size + 1, 1, none⟩) (Nat.le_succ _) _⟩
   ·have c1 : decide (c.f9 > 0) = false := decide_eq_false hC
    have c2 : decide (0 < c.f9) = false := decide_eq_false hC
    have HC := Aside0.mk (show ¬ ((c.f9 > 0 ∧ covM hs (wantM true) = false) ∧ (st : Int) ≥ c.f9) from fun h => hC h.1.1)
    clear hC HSt
    cases be with
    | true =>
     have HE' := Aside0.mk (show ¬ covM hs (wantM true) = false by rw [HE.out]; decide)
     clear HE
     have HE := Aside0.mk HE'.out
     clear HE'
     go_wp2_with fail
     obtain ⟨x0, x1, x2, x3, x4, x5, x6, x7, x8, x9, x10, x11⟩ := X.out _ HB9.out
     have g0 := fun d os => cell_gr x0 d os
     have g1 := fun d os => cell_gr x1 d os
     have g2 := fun d os => cell_gr x2 d os
     have g3 := fun d os => cell_gr x3 d os
     have g4 := fun d os => cell_gr x4 d os
     have g5 := fun d os => cell_gr x5 d os
     have g6 := fun d os => cell_gr x6 d os
     have g7 := fun d os => cell_gr x7 d os
     have g8 := fun d os => cell_gr x8 d os
     have g9 := fun d os => cell_gr x9 d os
     have g10 := fun d os => cell_gr x10 d os
     have g11 := fun d os => cell_gr x11 d os
     refine wp_region_gr mixed (by kernel_rfl) ?_
     repeat (go_big_quiet_step (fail))
     refine wpQuiet_nil ?_
     intro _ hw'
     obtain ⟨⟨d, os⟩, rfl⟩ := hw'
     have HB10 := Aside0.mk (below_then HB9.out HB9.out.size (below_gr w9 d os))
     clear x0 x1 x2 x3 x4 x5 x6 x7 x8 x9 x10 x11 g0 g1 g2 g3 g4 g5 g6 g7 g8 g9 g10 g11
     generalize grow (wat w9 d) os = w10 at HB10 ⊢
     clear c1 c2
     cases hD : covM ho (intM (wantM true)) with
     | false =>
      have HD := Aside0.mk hD
      rw [hD] at HCo
      clear hD
      go_wp2_with fail
      refine (HIn.out w10).mono ?_
      rintro e w11 ⟨rfl, hb⟩
      have HB11 := Aside0.mk (below_then HB10.out HB10.out.size hb)
      clear hb
      go_wp2_with fail
      refine (HCo.out w11).mono ?_
      rintro e w12 ⟨rfl, hb⟩
      have HB12 := Aside0.mk (below_then HB11.out HB11.out.size hb)
      clear hb HCo
      go_wp2_with fail
      refine (HIn.out w12).mono ?_
      rintro e w13 ⟨rfl, hb⟩
      have HB13 := Aside0.mk (below_then HB12.out HB12.out.size hb)
      clear hb
      have hz := Z.out _ HB13.out
      have k0 : w13.cell? ⟨w.heap.size + 1, 0, none⟩ = some (.int .i64 0) := (blk_cell hz 0).trans rfl
      have k1 : w13.cell? ⟨w.heap.size + 1, 1, none⟩ = some (.int .i64 0) := (blk_cell hz 1).trans rfl
      have j0 := frozen_of_row w13 (w.heap.size + 1) 0 _ _ hz
      have j1 := frozen_of_row w13 (w.heap.size + 1) 1 _ _ hz
      have HZ := Aside0.mk hz
      clear hz
      go_wp2
      (try simp only [Exit.inBlock, Exit.then])
      refine bodyPost_ret (results_ctt rfl _ _ (w.heap.size + 1) 41 #[.int .i64 (o), .int .i64 (intM (wantM true))] (0, 0) _ rfl ?_ hu38 rfl (by kernel_rfl)) rfl ?_
      ·exact two_set HZ.out _ _
      ·have e1 : nextT r o s hr ho hs c.f9 st true = (⟨o, intM (wantM true)⟩, true) := by unfold nextT; rw [if_neg HA.out]; rw [if_neg HB.out]; rw [if_neg HC.out]; rw [if_pos HD.out]
       rw [e1]
       exact ⟨rfl, ((below_then HB1.out (by rw [S1.out]; omega) HB13.out).setCell (p := ⟨w.heap.size + 1, 0, none⟩) (Nat.le_succ _) _).setCell (p := ⟨w.heap.size + 1, 1, none⟩) (Nat.le_succ _) _⟩
     | true =>
      have HD := Aside0.mk (show ¬ covM ho (intM (wantM true)) = false by rw [hD]; decide)
      rw [hD] at HCo
      clear hD
      go_wp2_with fail
      refine (HIn.out w10).mono ?_
      rintro e w11 ⟨rfl, hb⟩
      have HB11 := Aside0.mk (below_then HB10.out HB10.out.size hb)
      clear hb
      go_wp2_with fail
      refine (HCo.out w11).mono ?_
      rintro e w12 ⟨rfl, hb⟩
      have HB12 := Aside0.mk (below_then HB11.out HB11.out.size hb)
      clear hb HCo
      have hz := Z.out _ HB12.out
      have k0 : w12.cell? ⟨w.heap.size + 1, 0, none⟩ = some (.int .i64 0) := (blk_cell hz 0).trans rfl
      have k1 : w12.cell? ⟨w.heap.size + 1, 1, none⟩ = some (.int .i64 0) := (blk_cell hz 1).trans rfl
      have j0 := frozen_of_row w12 (w.heap.size + 1) 0 _ _ hz
      have j1 := frozen_of_row w12 (w.heap.size + 1) 1 _ _ hz
      have HZ := Aside0.mk hz
      clear hz
      go_wp2
      (try simp only [Exit.inBlock, Exit.then])
      refine bodyPost_ret (results_ctt rfl _ _ (w.heap.size + 1) 41 #[.int .i64 (0), .int .i64 (0)] (0, 0) _ rfl ?_ hu38 rfl (by kernel_rfl)) rfl ?_
      ·exact two_set HZ.out _ _
      ·have e1 : nextT r o s hr ho hs c.f9 st true = (⟨0, 0⟩, false) := by unfold nextT; rw [if_neg HA.out]; rw [if_neg HB.out]; rw [if_neg HC.out]; rw [if_neg HD.out]; rw [if_neg HE.out]
       rw [e1]
       exact ⟨rfl, ((below_then HB1.out (by rw [S1.out]; omega) HB12.out).setCell (p := ⟨w.heap.size + 1, 0, none⟩) (Nat.le_succ _) _).setCell (p := ⟨w.heap.size + 1, 1, none⟩) (Nat.le_succ _) _⟩
    | false =>
     go_wp2_with fail
     obtain ⟨x0, x1, x2, x3, x4, x5, x6, x7, x8, x9, x10, x11⟩ := X.out _ HB9.out
     have g0 := fun d os => cell_gr x0 d os
     have g1 := fun d os => cell_gr x1 d os
     have g2 := fun d os => cell_gr x2 d os
     have g3 := fun d os => cell_gr x3 d os
     have g4 := fun d os => cell_gr x4 d os
     have g5 := fun d os => cell_gr x5 d os
     have g6 := fun d os => cell_gr x6 d os
     have g7 := fun d os => cell_gr x7 d os
     have g8 := fun d os => cell_gr x8 d os
     have g9 := fun d os => cell_gr x9 d os
     have g10 := fun d os => cell_gr x10 d os
     have g11 := fun d os => cell_gr x11 d os
     refine wp_region_gr mixed (by kernel_rfl) ?_
     repeat (go_big_quiet_step (fail))
     refine wpQuiet_nil ?_
     intro _ hw'
     obtain ⟨⟨d, os⟩, rfl⟩ := hw'
     have HB10 := Aside0.mk (below_then HB9.out HB9.out.size (below_gr w9 d os))
     clear x0 x1 x2 x3 x4 x5 x6 x7 x8 x9 x10 x11 g0 g1 g2 g3 g4 g5 g6 g7 g8 g9 g10 g11
     generalize grow (wat w9 d) os = w10 at HB10 ⊢
     clear c1 c2
     cases hD : covM ho (intM (wantM true)) with
     | false =>
      have HD := Aside0.mk hD
      rw [hD] at HCo
      clear hD
      go_wp2_with fail
      refine (HIn.out w10).mono ?_
      rintro e w11 ⟨rfl, hb⟩
      have HB11 := Aside0.mk (below_then HB10.out HB10.out.size hb)
      clear hb
      go_wp2_with fail
      refine (HCo.out w11).mono ?_
      rintro e w12 ⟨rfl, hb⟩
      have HB12 := Aside0.mk (below_then HB11.out HB11.out.size hb)
      clear hb HCo
      go_wp2_with fail
      refine (HIn.out w12).mono ?_
      rintro e w13 ⟨rfl, hb⟩
      have HB13 := Aside0.mk (below_then HB12.out HB12.out.size hb)
      clear hb
      have hz := Z.out _ HB13.out
      have k0 : w13.cell? ⟨w.heap.size + 1, 0, none⟩ = some (.int .i64 0) := (blk_cell hz 0).trans rfl
      have k1 : w13.cell? ⟨w.heap.size + 1, 1, none⟩ = some (.int .i64 0) := (blk_cell hz 1).trans rfl
      have j0 := frozen_of_row w13 (w.heap.size + 1) 0 _ _ hz
      have j1 := frozen_of_row w13 (w.heap.size + 1) 1 _ _ hz
      have HZ := Aside0.mk hz
      clear hz
      go_wp2
      (try simp only [Exit.inBlock, Exit.then])
      refine bodyPost_ret (results_ctt rfl _ _ (w.heap.size + 1) 41 #[.int .i64 (o), .int .i64 (intM (wantM true))] (0, 0) _ rfl ?_ hu38 rfl (by kernel_rfl)) rfl ?_
      ·exact two_set HZ.out _ _
      ·have e1 : nextT r o s hr ho hs c.f9 st true = (⟨o, intM (wantM true)⟩, true) := by unfold nextT; rw [if_neg HA.out]; rw [if_neg HB.out]; rw [if_neg HC.out]; rw [if_pos HD.out]
       rw [e1]
       exact ⟨rfl, ((below_then HB1.out (by rw [S1.out]; omega) HB13.out).setCell (p := ⟨w.heap.size + 1, 0, none⟩) (Nat.le_succ _) _).setCell (p := ⟨w.heap.size + 1, 1, none⟩) (Nat.le_succ _) _⟩
     | true =>
      have HD := Aside0.mk (show ¬ covM ho (intM (wantM true)) = false by rw [hD]; decide)
      rw [hD] at HCo
      clear hD
      go_wp2_with fail
      refine (HIn.out w10).mono ?_
      rintro e w11 ⟨rfl, hb⟩
      have HB11 := Aside0.mk (below_then HB10.out HB10.out.size hb)
      clear hb
      go_wp2_with fail
      refine (HCo.out w11).mono ?_
      rintro e w12 ⟨rfl, hb⟩
      have HB12 := Aside0.mk (below_then HB11.out HB11.out.size hb)
      clear hb HCo
      have hz := Z.out _ HB12.out
      have k0 : w12.cell? ⟨w.heap.size + 1, 0, none⟩ = some (.int .i64 0) := (blk_cell hz 0).trans rfl
      have k1 : w12.cell? ⟨w.heap.size + 1, 1, none⟩ = some (.int .i64 0) := (blk_cell hz 1).trans rfl
      have j0 := frozen_of_row w12 (w.heap.size + 1) 0 _ _ hz
      have j1 := frozen_of_row w12 (w.heap.size + 1) 1 _ _ hz
      have HZ := Aside0.mk hz
      clear hz
      go_wp2
      (try simp only [Exit.inBlock, Exit.then])
      refine bodyPost_ret (results_ctt rfl _ _ (w.heap.size + 1) 41 #[.int .i64 (s), .int .i64 (wantM true)] (0, 0) _ rfl ?_ hu38 rfl (by kernel_rfl)) rfl ?_
      ·exact two_set HZ.out _ _
      ·have e1 : nextT r o s hr ho hs c.f9 st true = (⟨s, wantM true⟩, true) := by unfold nextT; rw [if_neg HA.out]; rw [if_neg HB.out]; rw [if_neg HC.out]; rw [if_neg HD.out]; rw [if_pos HE.out]
       rw [e1]
       exact ⟨rfl, ((below_then HB1.out (by rw [S1.out]; omega) HB12.out).setCell (p := ⟨w.heap.size + 1, 0, none⟩) (Nat.le_succ _) _).setCell (p := ⟨w.heap.size + 1, 1, none⟩) (Nat.le_succ _) _⟩
set_option maxHeartbeats 8000000 in
set_option maxRecDepth 100000 in
theorem Next_false {w : World} {b : Nat} {F : Nat → Prop} {ls : List LS} {most : Int} {N : Nat} {f : At} (h : IsTab w b F ls most N f) (hi : LInv ls) (hn : ls.length ≤ 10000) (c : Cf) (who a : Int) (lv pa : Int → Int)
  (hlv : ∀ j : Nat, j < ls.length → shape_Level.f 20 c.f0 c.f1 c.f2 c.f3 c.f4 c.f5 c.f6 c.f7 c.f8 c.f9 c.f10 c.f11 (j : Int) = some (lv j)) (hpa : ∀ j : Nat, j < ls.length → shape_Parent.f 20 c.f0 c.f1 c.f2 c.f3 c.f4 c.f5 c.f6 c.f7 c.f8 c.f9 c.f10 c.f11 (j : Int) = some (pa j))
  (r o s : Int) (hp : shape_Path.f c.f0 c.f1 c.f2 c.f3 c.f4 c.f5 c.f6 c.f7 c.f8 c.f9 c.f10 c.f11 a = some (r, o, s, 0)) (hr ho hs : Int) (st : Nat) (er : holdsT ls who r = hr) (eo : holdsT ls who o = ho) (es : holdsT ls who s = hs) (est : stripesT ls who lv pa o = st) :
  Calls Tryz.prog 13 #[.agg #[.int .i64 c.f0, .int .i64 c.f1, .int .i64 c.f2, .int .i64 c.f3, .int .i64 c.f4, .int .i64 c.f5, .int .i64 c.f6, .int .i64 c.f7, .int .i64 c.f8, .int .i64 c.f9, .int .i64 c.f10, .int .i64 c.f11], .pointer (some ⟨b, 0, none⟩), .int .i64 who, .int .i64 a, .bool false] w fun e w' =>
   e = .returned (.tuple #[.agg #[.int .i64 (nextT r o s hr ho hs c.f9 st false).1.f0, .int .i64 (nextT r o s hr ho hs c.f9 st false).1.f1], .bool (nextT r o s hr ho hs c.f9 st false).2, .int .i64 0]) ∧ Below w.heap.size w w' := by
 have mixed : Tryz.prog.follows Departure.mixedOrders = true := by kernel_rfl
 have hu41 := Tryz.underlying23
 have hu38 := Tryz.underlying41
 have HB1 := Aside0.mk (below_alloc (below_alloc (Below.refl w.heap.size w) (.cells #[.int .i64 c.f0, .int .i64 c.f1, .int .i64 c.f2, .int .i64 c.f3, .int .i64 c.f4, .int .i64 c.f5, .int .i64 c.f6, .int .i64 c.f7, .int .i64 c.f8, .int .i64 c.f9, .int .i64 c.f10, .int .i64 c.f11] 23)) (.cells #[.int .i64 0, .int .i64 0] 41))
 have e1 : (w.alloc (.cells #[.int .i64 c.f0, .int .i64 c.f1, .int .i64 c.f2, .int .i64 c.f3, .int .i64 c.f4, .int .i64 c.f5, .int .i64 c.f6, .int .i64 c.f7, .int .i64 c.f8, .int .i64 c.f9, .int .i64 c.f10, .int .i64 c.f11] 23)).heap.size = w.heap.size + 1 := by simp
 have hx := blk_new w (.cells #[.int .i64 c.f0, .int .i64 c.f1, .int .i64 c.f2, .int .i64 c.f3, .int .i64 c.f4, .int .i64 c.f5, .int .i64 c.f6, .int .i64 c.f7, .int .i64 c.f8, .int .i64 c.f9, .int .i64 c.f10, .int .i64 c.f11] 23)
 have hx2 := blk_alloc hx (.cells #[.int .i64 0, .int .i64 0] 41)
 have hz := blk_new (w.alloc (.cells #[.int .i64 c.f0, .int .i64 c.f1, .int .i64 c.f2, .int .i64 c.f3, .int .i64 c.f4, .int .i64 c.f5, .int .i64 c.f6, .int .i64 c.f7, .int .i64 c.f8, .int .i64 c.f9, .int .i64 c.f10, .int .i64 c.f11] 23)) (.cells #[.int .i64 0, .int .i64 0] 41)
 rw [e1] at hz
 obtain ⟨w1, hw1⟩ : ∃ W, (w.alloc (.cells #[.int .i64 c.f0, .int .i64 c.f1, .int .i64 c.f2, .int .i64 c.f3, .int .i64 c.f4, .int .i64 c.f5, .int .i64 c.f6, .int .i64 c.f7, .int .i64 c.f8, .int .i64 c.f9, .int .i64 c.f10, .int .i64 c.f11] 23)).alloc (.cells #[.int .i64 0, .int .i64 0] 41) = W := ⟨_, rfl⟩
 have HW1 := Aside0.mk hw1
 rw [hw1] at HB1 hx2 hz
 have S1 := Aside0.mk (show w1.heap.size = w.heap.size + 2 by rw [← hw1]; simp)
 have Z := Aside0.mk (fun W (hb : Below w1.heap.size w1 W) => (hb.block (w.heap.size + 1) (by rw [S1.out]; omega)).trans hz)
 have X := Aside0.mk (fun W (hb : Below w1.heap.size w1 W) => (show W.cell? ⟨w.heap.size, 0, none⟩ = some (.int .i64 c.f0) ∧ W.cell? ⟨w.heap.size, 1, none⟩ = some (.int .i64 c.f1) ∧ W.cell? ⟨w.heap.size, 2, none⟩ = some (.int .i64 c.f2) ∧ W.cell? ⟨w.heap.size, 3, none⟩ = some (.int .i64 c.f3) ∧ W.cell? ⟨w.heap.size, 4, none⟩ = some (.int .i64 c.f4) ∧ W.cell? ⟨w.heap.size, 5, none⟩ = some (.int .i64 c.f5) ∧ W.cell? ⟨w.heap.size, 6, none⟩ = some (.int .i64 c.f6) ∧ W.cell? ⟨w.heap.size, 7, none⟩ = some (.int .i64 c.f7) ∧ W.cell? ⟨w.heap.size, 8, none⟩ = some (.int .i64 c.f8) ∧ W.cell? ⟨w.heap.size, 9, none⟩ = some (.int .i64 c.f9) ∧ W.cell? ⟨w.heap.size, 10, none⟩ = some (.int .i64 c.f10) ∧ W.cell? ⟨w.heap.size, 11, none⟩ = some (.int .i64 c.f11) from ⟨(hb.cell (p := ⟨w.heap.size, 0, none⟩) (by show w.heap.size < _; rw [S1.out]; omega)).trans ((blk_cell hx2 0).trans rfl), (hb.cell (p := ⟨w.heap.size, 1, none⟩) (by show w.heap.size < _; rw [S1.out]; omega)).trans ((blk_cell hx2 1).trans rfl), (hb.cell (p := ⟨w.heap.size, 2, none⟩) (by show w.heap.size < _; rw [S1.out]; omega)).trans ((blk_cell hx2 2).trans rfl), (hb.cell (p := ⟨w.heap.size, 3, none⟩) (by show w.heap.size < _; rw [S1.out]; omega)).trans ((blk_cell hx2 3).trans rfl), (hb.cell (p := ⟨w.heap.size, 4, none⟩) (by show w.heap.size < _; rw [S1.out]; omega)).trans ((blk_cell hx2 4).trans rfl), (hb.cell (p := ⟨w.heap.size, 5, none⟩) (by show w.heap.size < _; rw [S1.out]; omega)).trans ((blk_cell hx2 5).trans rfl), (hb.cell (p := ⟨w.heap.size, 6, none⟩) (by show w.heap.size < _; rw [S1.out]; omega)).trans ((blk_cell hx2 6).trans rfl), (hb.cell (p := ⟨w.heap.size, 7, none⟩) (by show w.heap.size < _; rw [S1.out]; omega)).trans ((blk_cell hx2 7).trans rfl), (hb.cell (p := ⟨w.heap.size, 8, none⟩) (by show w.heap.size < _; rw [S1.out]; omega)).trans ((blk_cell hx2 8).trans rfl), (hb.cell (p := ⟨w.heap.size, 9, none⟩) (by show w.heap.size < _; rw [S1.out]; omega)).trans ((blk_cell hx2 9).trans rfl), (hb.cell (p := ⟨w.heap.size, 10, none⟩) (by show w.heap.size < _; rw [S1.out]; omega)).trans ((blk_cell hx2 10).trans rfl), (hb.cell (p := ⟨w.heap.size, 11, none⟩) (by show w.heap.size < _; rw [S1.out]; omega)).trans ((blk_cell hx2 11).trans rfl)⟩))
 have HT := Aside0.mk (h.below HB1.out)
 have HP := Aside0.mk (shape_Path.calls c.f0 c.f1 c.f2 c.f3 c.f4 c.f5 c.f6 c.f7 c.f8 c.f9 c.f10 c.f11 a r o s 0 w1 hp)
 have HHr := Aside0.mk (fun W (hb : Below w1.heap.size w1 W) => HoldsT_ (HT.out.below hb) who r)
 have HHo := Aside0.mk (fun W (hb : Below w1.heap.size w1 W) => HoldsT_ (HT.out.below hb) who o)
 have HHs := Aside0.mk (fun W (hb : Below w1.heap.size w1 W) => HoldsT_ (HT.out.below hb) who s)
 have HSt := Aside0.mk (fun W (hb : Below w1.heap.size w1 W) => Stripes_ (HT.out.below hb) hn c who o lv pa hlv hpa)
 have mr := told_md_T hi who r
 have mo := told_md_T hi who o
 have ms := told_md_T hi who s
 rw [er] at HHr mr
 rw [eo] at HHo mo
 rw [es] at HHs ms
 rw [est] at HSt
 have HIn := Aside0.mk (fun W => Intent_M (wantM false) W (want_md false).1)
 have HCr := Aside0.mk (fun W => Covers_M hr (intM (wantM false)) W mr (want_md false).2)
 have HCo := Aside0.mk (fun W => Covers_M ho (intM (wantM false)) W mo (want_md false).2)
 have HCs := Aside0.mk (fun W => Covers_M hs (wantM false) W ms (want_md false).1)
 have HEn := Aside0.mk (fun W => Enough_M ho false W mo)
 clear h hi hn hlv hpa hp er eo es est mr mo ms hx hx2 hz HT hw1
 go_enter Tryz.func13, Tryz.ntmps13
 go_wp2_with fail
 simp only [HW1.out]
 refine HP.out.mono ?_
 rintro e w2 ⟨rfl, hb⟩
 have HB2 := Aside0.mk hb
 clear hb HP
 go_wp2_with fail
 refine (HHr.out w2 HB2.out).mono ?_
 rintro e w3 ⟨rfl, hb⟩
 have HB3 := Aside0.mk (below_then HB2.out HB2.out.size hb)
 clear hb HHr
 go_wp2_with fail
 refine (HIn.out w3).mono ?_
 rintro e w4 ⟨rfl, hb⟩
 have HB4 := Aside0.mk (below_then HB3.out HB3.out.size hb)
 clear hb
 cases hA : covM hr (intM (wantM false)) with
 | false =>
  have HA := Aside0.mk hA
  rw [hA] at HCr
  clear hA
  go_wp2_with fail
  refine (HCr.out w4).mono ?_
  rintro e w5 ⟨rfl, hb⟩
  have HB5 := Aside0.mk (below_then HB4.out HB4.out.size hb)
  clear hb HCr
  go_wp2_with fail
  refine (HIn.out w5).mono ?_
  rintro e w6 ⟨rfl, hb⟩
  have HB6 := Aside0.mk (below_then HB5.out HB5.out.size hb)
  clear hb
  have hz := Z.out _ HB6.out
  have k0 : w6.cell? ⟨w.heap.size + 1, 0, none⟩ = some (.int .i64 0) := (blk_cell hz 0).trans rfl
  have k1 : w6.cell? ⟨w.heap.size + 1, 1, none⟩ = some (.int .i64 0) := (blk_cell hz 1).trans rfl
  have j0 := frozen_of_row w6 (w.heap.size + 1) 0 _ _ hz
  have j1 := frozen_of_row w6 (w.heap.size + 1) 1 _ _ hz
  have HZ := Aside0.mk hz
  clear hz
  go_wp2
  (try simp only [Exit.inBlock, Exit.then])
  refine bodyPost_ret (results_ctt rfl _ _ (w.heap.size + 1) 41 #[.int .i64 (r), .int .i64 (intM (wantM false))] (0, 0) _ rfl ?_ hu38 rfl (by kernel_rfl)) rfl ?_
  ·exact two_set HZ.out _ _
  ·have e1 : nextT r o s hr ho hs c.f9 st false = (⟨r, intM (wantM false)⟩, true) := by unfold nextT; rw [if_pos HA.out]
   rw [e1]
   exact ⟨rfl, ((below_then HB1.out (by rw [S1.out]; omega) HB6.out).setCell (p := ⟨w.heap.size + 1, 0, none⟩) (Nat.le_succ _) _).setCell (p := ⟨w.heap.size + 1, 1, none⟩) (Nat.le_succ _) _⟩
 | true =>
  have HA := Aside0.mk (show ¬ covM hr (intM (wantM false)) = false by rw [hA]; decide)
  rw [hA] at HCr
  clear hA
  go_wp2_with fail
  refine (HCr.out w4).mono ?_
  rintro e w5 ⟨rfl, hb⟩
  have HB5 := Aside0.mk (below_then HB4.out HB4.out.size hb)
  clear hb HCr
  go_wp2_with fail
  refine (HHo.out w5 HB5.out).mono ?_
  rintro e w6 ⟨rfl, hb⟩
  have HB6 := Aside0.mk (below_then HB5.out HB5.out.size hb)
  clear hb HHo
  go_wp2_with fail
  refine (HHs.out w6 HB6.out).mono ?_
  rintro e w7 ⟨rfl, hb⟩
  have HB7 := Aside0.mk (below_then HB6.out HB6.out.size hb)
  clear hb HHs
  obtain ⟨be, hE⟩ : ∃ x, covM hs (wantM false) = x := ⟨_, rfl⟩
  have HE := Aside0.mk hE
  rw [hE] at HCs
  clear hE
  go_wp2_with fail
  refine (HCs.out w7).mono ?_
  rintro e w8 ⟨rfl, hb⟩
  have HB8 := Aside0.mk (below_then HB7.out HB7.out.size hb)
  clear hb HCs
  cases hB : enoM ho false with
  | true =>
   have HB := Aside0.mk hB
   rw [hB] at HEn
   clear hB
   go_wp2_with fail
   refine (HEn.out w8).mono ?_
   rintro e w9 ⟨rfl, hb⟩
   have HB9 := Aside0.mk (below_then HB8.out HB8.out.size hb)
   clear hb HEn
   have hz := Z.out _ HB9.out
   have k0 : w9.cell? ⟨w.heap.size + 1, 0, none⟩ = some (.int .i64 0) := (blk_cell hz 0).trans rfl
   have k1 : w9.cell? ⟨w.heap.size + 1, 1, none⟩ = some (.int .i64 0) := (blk_cell hz 1).trans rfl
   have j0 := frozen_of_row w9 (w.heap.size + 1) 0 _ _ hz
   have j1 := frozen_of_row w9 (w.heap.size + 1) 1 _ _ hz
   have HZ := Aside0.mk hz
   clear hz
   go_wp2
   (try simp only [Exit.inBlock, Exit.then])
   refine bodyPost_ret (results_ctt rfl _ _ (w.heap.size + 1) 41 #[.int .i64 (0), .int .i64 (0)] (0, 0) _ rfl ?_ hu38 rfl (by kernel_rfl)) rfl ?_
   ·exact two_set HZ.out _ _
   ·have e1 : nextT r o s hr ho hs c.f9 st false = (⟨0, 0⟩, false) := by unfold nextT; rw [if_neg HA.out]; rw [if_pos HB.out]
    rw [e1]
    exact ⟨rfl, ((below_then HB1.out (by rw [S1.out]; omega) HB9.out).setCell (p := ⟨w.heap.size + 1, 0, none⟩) (Nat.le_succ _) _).setCell (p := ⟨w.heap.size + 1, 1, none⟩) (Nat.le_succ _) _⟩
  | false =>
   have HB := Aside0.mk (show ¬ enoM ho false = true by rw [hB]; decide)
   rw [hB] at HEn
   clear hB
   go_wp2_with fail
   refine (HEn.out w8).mono ?_
   rintro e w9 ⟨rfl, hb⟩
   have HB9 := Aside0.mk (below_then HB8.out HB8.out.size hb)
   clear hb HEn
   by_cases hC : c.f9 > 0
   ·have c1 : decide (c.f9 > 0) = true := decide_eq_true hC
    have c2 : decide (0 < c.f9) = true := decide_eq_true hC
    cases be with
    | true =>
     have HC := Aside0.mk (show ¬ ((c.f9 > 0 ∧ covM hs (wantM false) = false) ∧ (st : Int) ≥ c.f9) by rw [HE.out]; rintro ⟨⟨_, h⟩, _⟩; cases h)
     have HE' := Aside0.mk (show ¬ covM hs (wantM false) = false by rw [HE.out]; decide)
     clear hC HE HSt
     have HE := Aside0.mk HE'.out
     clear HE'
     go_wp2_with fail
     obtain ⟨x0, x1, x2, x3, x4, x5, x6, x7, x8, x9, x10, x11⟩ := X.out _ HB9.out
     have g0 := fun d os => cell_gr x0 d os
     have g1 := fun d os => cell_gr x1 d os
     have g2 := fun d os => cell_gr x2 d os
     have g3 := fun d os => cell_gr x3 d os
     have g4 := fun d os => cell_gr x4 d os
     have g5 := fun d os => cell_gr x5 d os
     have g6 := fun d os => cell_gr x6 d os
     have g7 := fun d os => cell_gr x7 d os
     have g8 := fun d os => cell_gr x8 d os
     have g9 := fun d os => cell_gr x9 d os
     have g10 := fun d os => cell_gr x10 d os
     have g11 := fun d os => cell_gr x11 d os
     refine wp_region_gr mixed (by kernel_rfl) ?_
     repeat (go_big_quiet_step (fail))
     refine wpQuiet_nil ?_
     intro _ hw'
     obtain ⟨⟨d, os⟩, rfl⟩ := hw'
     have HB10 := Aside0.mk (below_then HB9.out HB9.out.size (below_gr w9 d os))
     clear x0 x1 x2 x3 x4 x5 x6 x7 x8 x9 x10 x11 g0 g1 g2 g3 g4 g5 g6 g7 g8 g9 g10 g11
     generalize grow (wat w9 d) os = w10 at HB10 ⊢
     clear c1 c2
     cases hD : covM ho (intM (wantM false)) with
     | false =>
      have HD := Aside0.mk hD
      rw [hD] at HCo
      clear hD
      go_wp2_with fail
      refine (HIn.out w10).mono ?_
      rintro e w11 ⟨rfl, hb⟩
      have HB11 := Aside0.mk (below_then HB10.out HB10.out.size hb)
      clear hb
      go_wp2_with fail
      refine (HCo.out w11).mono ?_
      rintro e w12 ⟨rfl, hb⟩
      have HB12 := Aside0.mk (below_then HB11.out HB11.out.size hb)
      clear hb HCo
      go_wp2_with fail
      refine (HIn.out w12).mono ?_
      rintro e w13 ⟨rfl, hb⟩
      have HB13 := Aside0.mk (below_then HB12.out HB12.out.size hb)
      clear hb
      have hz := Z.out _ HB13.out
      have k0 : w13.cell? ⟨w.heap.size + 1, 0, none⟩ = some (.int .i64 0) := (blk_cell hz 0).trans rfl
      have k1 : w13.cell? ⟨w.heap.size + 1, 1, none⟩ = some (.int .i64 0) := (blk_cell hz 1).trans rfl
      have j0 := frozen_of_row w13 (w.heap.size + 1) 0 _ _ hz
      have j1 := frozen_of_row w13 (w.heap.size + 1) 1 _ _ hz
      have HZ := Aside0.mk hz
      clear hz
      go_wp2
      (try simp only [Exit.inBlock, Exit.then])
      refine bodyPost_ret (results_ctt rfl _ _ (w.heap.size + 1) 41 #[.int .i64 (o), .int .i64 (intM (wantM false))] (0, 0) _ rfl ?_ hu38 rfl (by kernel_rfl)) rfl ?_
      ·exact two_set HZ.out _ _
      ·have e1 : nextT r o s hr ho hs c.f9 st false = (⟨o, intM (wantM false)⟩, true) := by unfold nextT; rw [if_neg HA.out]; rw [if_neg HB.out]; rw [if_neg HC.out]; rw [if_pos HD.out]
       rw [e1]
       exact ⟨rfl, ((below_then HB1.out (by rw [S1.out]; omega) HB13.out).setCell (p := ⟨w.heap.size + 1, 0, none⟩) (Nat.le_succ _) _).setCell (p := ⟨w.heap.size + 1, 1, none⟩) (Nat.le_succ _) _⟩
     | true =>
      have HD := Aside0.mk (show ¬ covM ho (intM (wantM false)) = false by rw [hD]; decide)
      rw [hD] at HCo
      clear hD
      go_wp2_with fail
      refine (HIn.out w10).mono ?_
      rintro e w11 ⟨rfl, hb⟩
      have HB11 := Aside0.mk (below_then HB10.out HB10.out.size hb)
      clear hb
      go_wp2_with fail
      refine (HCo.out w11).mono ?_
      rintro e w12 ⟨rfl, hb⟩
      have HB12 := Aside0.mk (below_then HB11.out HB11.out.size hb)
      clear hb HCo
      have hz := Z.out _ HB12.out
      have k0 : w12.cell? ⟨w.heap.size + 1, 0, none⟩ = some (.int .i64 0) := (blk_cell hz 0).trans rfl
      have k1 : w12.cell? ⟨w.heap.size + 1, 1, none⟩ = some (.int .i64 0) := (blk_cell hz 1).trans rfl
      have j0 := frozen_of_row w12 (w.heap.size + 1) 0 _ _ hz
      have j1 := frozen_of_row w12 (w.heap.size + 1) 1 _ _ hz
      have HZ := Aside0.mk hz
      clear hz
      go_wp2
      (try simp only [Exit.inBlock, Exit.then])
      refine bodyPost_ret (results_ctt rfl _ _ (w.heap.size + 1) 41 #[.int .i64 (0), .int .i64 (0)] (0, 0) _ rfl ?_ hu38 rfl (by kernel_rfl)) rfl ?_
      ·exact two_set HZ.out _ _
      ·have e1 : nextT r o s hr ho hs c.f9 st false = (⟨0, 0⟩, false) := by unfold nextT; rw [if_neg HA.out]; rw [if_neg HB.out]; rw [if_neg HC.out]; rw [if_neg HD.out]; rw [if_neg HE.out]
       rw [e1]
       exact ⟨rfl, ((below_then HB1.out (by rw [S1.out]; omega) HB12.out).setCell (p := ⟨w.heap.size + 1, 0, none⟩) (Nat.le_succ _) _).setCell (p := ⟨w.heap.size + 1, 1, none⟩) (Nat.le_succ _) _⟩
    | false =>
     by_cases hS : (st : Int) ≥ c.f9
     ·have s1 : decide ((st : Int) ≥ c.f9) = true := decide_eq_true hS
      have s2 : decide (c.f9 ≤ (st : Int)) = true := decide_eq_true hS
      have HC := Aside0.mk (show (c.f9 > 0 ∧ covM hs (wantM false) = false) ∧ (st : Int) ≥ c.f9 from ⟨⟨hC, HE.out⟩, hS⟩)
      clear hC hS HE
      go_wp2_with fail
      obtain ⟨x0, x1, x2, x3, x4, x5, x6, x7, x8, x9, x10, x11⟩ := X.out _ HB9.out
      have g0 := fun d os => cell_gr x0 d os
      have g1 := fun d os => cell_gr x1 d os
      have g2 := fun d os => cell_gr x2 d os
      have g3 := fun d os => cell_gr x3 d os
      have g4 := fun d os => cell_gr x4 d os
      have g5 := fun d os => cell_gr x5 d os
      have g6 := fun d os => cell_gr x6 d os
      have g7 := fun d os => cell_gr x7 d os
      have g8 := fun d os => cell_gr x8 d os
      have g9 := fun d os => cell_gr x9 d os
      have g10 := fun d os => cell_gr x10 d os
      have g11 := fun d os => cell_gr x11 d os
      have HStr := Aside0.mk (fun d os => HSt.out (grow (wat w9 d) os) (below_then HB9.out HB9.out.size (below_gr w9 d os)))
      refine wp_region_gr mixed (by kernel_rfl) ?_
      repeat (go_big_quiet_step (exact Calls.gr_of (HStr.out _ _)))
      refine wpQuiet_nil ?_
      intro _ hw'
      obtain ⟨⟨d, os⟩, rfl⟩ := hw'
      have HB10 := Aside0.mk (below_then HB9.out HB9.out.size (below_gr w9 d os))
      clear x0 x1 x2 x3 x4 x5 x6 x7 x8 x9 x10 x11 g0 g1 g2 g3 g4 g5 g6 g7 g8 g9 g10 g11 HStr
      generalize grow (wat w9 d) os = w10 at HB10 ⊢
      clear c1 c2 HSt
      have hz := Z.out _ HB10.out
      have k0 : w10.cell? ⟨w.heap.size + 1, 0, none⟩ = some (.int .i64 0) := (blk_cell hz 0).trans rfl
      have k1 : w10.cell? ⟨w.heap.size + 1, 1, none⟩ = some (.int .i64 0) := (blk_cell hz 1).trans rfl
      have j0 := frozen_of_row w10 (w.heap.size + 1) 0 _ _ hz
      have j1 := frozen_of_row w10 (w.heap.size + 1) 1 _ _ hz
      have HZ := Aside0.mk hz
      clear hz
      go_wp2
      (try simp only [Exit.inBlock, Exit.then])
      refine bodyPost_ret (results_ctt rfl _ _ (w.heap.size + 1) 41 #[.int .i64 (o), .int .i64 (wantM false)] (0, 0) _ rfl ?_ hu38 rfl (by kernel_rfl)) rfl ?_
      ·exact two_set HZ.out _ _
      ·have e1 : nextT r o s hr ho hs c.f9 st false = (⟨o, wantM false⟩, true) := by unfold nextT; rw [if_neg HA.out]; rw [if_neg HB.out]; rw [if_pos HC.out]
       rw [e1]
       exact ⟨rfl, ((below_then HB1.out (by rw [S1.out]; omega) HB10.out).setCell (p := ⟨w.heap.size + 1, 0, none⟩) (Nat.le_succ _) _).setCell (p := ⟨w.heap.size + 1, 1, none⟩) (Nat.le_succ _) _⟩
     ·have s1 : decide ((st : Int) ≥ c.f9) = false := decide_eq_false hS
      have s2 : decide (c.f9 ≤ (st : Int)) = false := decide_eq_false hS
      have HC := Aside0.mk (show ¬ ((c.f9 > 0 ∧ covM hs (wantM false) = false) ∧ (st : Int) ≥ c.f9) from fun h => hS h.2)
      clear hC hS
      go_wp2_with fail
      obtain ⟨x0, x1, x2, x3, x4, x5, x6, x7, x8, x9, x10, x11⟩ := X.out _ HB9.out
      have g0 := fun d os => cell_gr x0 d os
      have g1 := fun d os => cell_gr x1 d os
      have g2 := fun d os => cell_gr x2 d os
      have g3 := fun d os => cell_gr x3 d os
      have g4 := fun d os => cell_gr x4 d os
      have g5 := fun d os => cell_gr x5 d os
      have g6 := fun d os => cell_gr x6 d os
      have g7 := fun d os => cell_gr x7 d os
      have g8 := fun d os => cell_gr x8 d os
      have g9 := fun d os => cell_gr x9 d os
      have g10 := fun d os => cell_gr x10 d os
      have g11 := fun d os => cell_gr x11 d os
      have HStr := Aside0.mk (fun d os => HSt.out (grow (wat w9 d) os) (below_then HB9.out HB9.out.size (below_gr w9 d os)))
      refine wp_region_gr mixed (by kernel_rfl) ?_
      repeat (go_big_quiet_step (exact Calls.gr_of (HStr.out _ _)))
      refine wpQuiet_nil ?_
      intro _ hw'
      obtain ⟨⟨d, os⟩, rfl⟩ := hw'
      have HB10 := Aside0.mk (below_then HB9.out HB9.out.size (below_gr w9 d os))
      clear x0 x1 x2 x3 x4 x5 x6 x7 x8 x9 x10 x11 g0 g1 g2 g3 g4 g5 g6 g7 g8 g9 g10 g11 HStr
      generalize grow (wat w9 d) os = w10 at HB10 ⊢
      clear c1 c2 s1 s2 HSt
      cases hD : covM ho (intM (wantM false)) with
      | false =>
       have HD := Aside0.mk hD
       rw [hD] at HCo
       clear hD
       go_wp2_with fail
       refine (HIn.out w10).mono ?_
       rintro e w11 ⟨rfl, hb⟩
       have HB11 := Aside0.mk (below_then HB10.out HB10.out.size hb)
       clear hb
       go_wp2_with fail
       refine (HCo.out w11).mono ?_
       rintro e w12 ⟨rfl, hb⟩
       have HB12 := Aside0.mk (below_then HB11.out HB11.out.size hb)
       clear hb HCo
       go_wp2_with fail
       refine (HIn.out w12).mono ?_
       rintro e w13 ⟨rfl, hb⟩
       have HB13 := Aside0.mk (below_then HB12.out HB12.out.size hb)
       clear hb
       have hz := Z.out _ HB13.out
       have k0 : w13.cell? ⟨w.heap.size + 1, 0, none⟩ = some (.int .i64 0) := (blk_cell hz 0).trans rfl
       have k1 : w13.cell? ⟨w.heap.size + 1, 1, none⟩ = some (.int .i64 0) := (blk_cell hz 1).trans rfl
       have j0 := frozen_of_row w13 (w.heap.size + 1) 0 _ _ hz
       have j1 := frozen_of_row w13 (w.heap.size + 1) 1 _ _ hz
       have HZ := Aside0.mk hz
       clear hz
       go_wp2
       (try simp only [Exit.inBlock, Exit.then])
       refine bodyPost_ret (results_ctt rfl _ _ (w.heap.size + 1) 41 #[.int .i64 (o), .int .i64 (intM (wantM false))] (0, 0) _ rfl ?_ hu38 rfl (by kernel_rfl)) rfl ?_
       ·exact two_set HZ.out _ _
       ·have e1 : nextT r o s hr ho hs c.f9 st false = (⟨o, intM (wantM false)⟩, true) := by unfold nextT; rw [if_neg HA.out]; rw [if_neg HB.out]; rw [if_neg HC.out]; rw [if_pos HD.out]
        rw [e1]
        exact ⟨rfl, ((below_then HB1.out (by rw [S1.out]; omega) HB13.out).setCell (p := ⟨w.heap.size + 1, 0, none⟩) (Nat.le_succ _) _).setCell (p := ⟨w.heap.size + 1, 1, none⟩) (Nat.le_succ _) _⟩
      | true =>
       have HD := Aside0.mk (show ¬ covM ho (intM (wantM false)) = false by rw [hD]; decide)
       rw [hD] at HCo
       clear hD
       go_wp2_with fail
       refine (HIn.out w10).mono ?_
       rintro e w11 ⟨rfl, hb⟩
       have HB11 := Aside0.mk (below_then HB10.out HB10.out.size hb)
       clear hb
       go_wp2_with fail
       refine (HCo.out w11).mono ?_
       rintro e w12 ⟨rfl, hb⟩
       have HB12 := Aside0.mk (below_then HB11.out HB11.out.size hb)
       clear hb HCo
       have hz := Z.out _ HB12.out
       have k0 : w12.cell? ⟨w.heap.size + 1, 0, none⟩ = some (.int .i64 0) := (blk_cell hz 0).trans rfl
       have k1 : w12.cell? ⟨w.heap.size + 1, 1, none⟩ = some (.int .i64 0) := (blk_cell hz 1).trans rfl
       have j0 := frozen_of_row w12 (w.heap.size + 1) 0 _ _ hz
       have j1 := frozen_of_row w12 (w.heap.size + 1) 1 _ _ hz
       have HZ := Aside0.mk hz
       clear hz
       go_wp2
       (try simp only [Exit.inBlock, Exit.then])
       refine bodyPost_ret (results_ctt rfl _ _ (w.heap.size + 1) 41 #[.int .i64 (s), .int .i64 (wantM false)] (0, 0) _ rfl ?_ hu38 rfl (by kernel_rfl)) rfl ?_
       ·exact two_set HZ.out _ _
       ·have e1 : nextT r o s hr ho hs c.f9 st false = (⟨s, wantM false⟩, true) := by unfold nextT; rw [if_neg HA.out]; rw [if_neg HB.out]; rw [if_neg HC.out]; rw [if_neg HD.out]; rw [if_pos HE.out]
        rw [e1]
        exact ⟨rfl, ((below_then HB1.out (by rw [S1.out]; omega) HB12.out).setCell (p := ⟨w.heap.size + 1, 0, none⟩) (Nat.le_succ _) _).setCell (p := ⟨w.heap.size + 1, 1, none⟩) (Nat.le_succ _) _⟩
   ·have c1 : decide (c.f9 > 0) = false := decide_eq_false hC
    have c2 : decide (0 < c.f9) = false := decide_eq_false hC
    have HC := Aside0.mk (show ¬ ((c.f9 > 0 ∧ covM hs (wantM false) = false) ∧ (st : Int) ≥ c.f9) from fun h => hC h.1.1)
    clear hC HSt
    cases be with
    | true =>
     have HE' := Aside0.mk (show ¬ covM hs (wantM false) = false by rw [HE.out]; decide)
     clear HE
     have HE := Aside0.mk HE'.out
     clear HE'
     go_wp2_with fail
     obtain ⟨x0, x1, x2, x3, x4, x5, x6, x7, x8, x9, x10, x11⟩ := X.out _ HB9.out
     have g0 := fun d os => cell_gr x0 d os
     have g1 := fun d os => cell_gr x1 d os
     have g2 := fun d os => cell_gr x2 d os
     have g3 := fun d os => cell_gr x3 d os
     have g4 := fun d os => cell_gr x4 d os
     have g5 := fun d os => cell_gr x5 d os
     have g6 := fun d os => cell_gr x6 d os
     have g7 := fun d os => cell_gr x7 d os
     have g8 := fun d os => cell_gr x8 d os
     have g9 := fun d os => cell_gr x9 d os
     have g10 := fun d os => cell_gr x10 d os
     have g11 := fun d os => cell_gr x11 d os
     refine wp_region_gr mixed (by kernel_rfl) ?_
     repeat (go_big_quiet_step (fail))
     refine wpQuiet_nil ?_
     intro _ hw'
     obtain ⟨⟨d, os⟩, rfl⟩ := hw'
     have HB10 := Aside0.mk (below_then HB9.out HB9.out.size (below_gr w9 d os))
     clear x0 x1 x2 x3 x4 x5 x6 x7 x8 x9 x10 x11 g0 g1 g2 g3 g4 g5 g6 g7 g8 g9 g10 g11
     generalize grow (wat w9 d) os = w10 at HB10 ⊢
     clear c1 c2
     cases hD : covM ho (intM (wantM false)) with
     | false =>
      have HD := Aside0.mk hD
      rw [hD] at HCo
      clear hD
      go_wp2_with fail
      refine (HIn.out w10).mono ?_
      rintro e w11 ⟨rfl, hb⟩
      have HB11 := Aside0.mk (below_then HB10.out HB10.out.size hb)
      clear hb
      go_wp2_with fail
      refine (HCo.out w11).mono ?_
      rintro e w12 ⟨rfl, hb⟩
      have HB12 := Aside0.mk (below_then HB11.out HB11.out.size hb)
      clear hb HCo
      go_wp2_with fail
      refine (HIn.out w12).mono ?_
      rintro e w13 ⟨rfl, hb⟩
      have HB13 := Aside0.mk (below_then HB12.out HB12.out.size hb)
      clear hb
      have hz := Z.out _ HB13.out
      have k0 : w13.cell? ⟨w.heap.size + 1, 0, none⟩ = some (.int .i64 0) := (blk_cell hz 0).trans rfl
      have k1 : w13.cell? ⟨w.heap.size + 1, 1, none⟩ = some (.int .i64 0) := (blk_cell hz 1).trans rfl
      have j0 := frozen_of_row w13 (w.heap.size + 1) 0 _ _ hz
      have j1 := frozen_of_row w13 (w.heap.size + 1) 1 _ _ hz
      have HZ := Aside0.mk hz
      clear hz
      go_wp2
      (try simp only [Exit.inBlock, Exit.then])
      refine bodyPost_ret (results_ctt rfl _ _ (w.heap.size + 1) 41 #[.int .i64 (o), .int .i64 (intM (wantM false))] (0, 0) _ rfl ?_ hu38 rfl (by kernel_rfl)) rfl ?_
      ·exact two_set HZ.out _ _
      ·have e1 : nextT r o s hr ho hs c.f9 st false = (⟨o, intM (wantM false)⟩, true) := by unfold nextT; rw [if_neg HA.out]; rw [if_neg HB.out]; rw [if_neg HC.out]; rw [if_pos HD.out]
       rw [e1]
       exact ⟨rfl, ((below_then HB1.out (by rw [S1.out]; omega) HB13.out).setCell (p := ⟨w.heap.size + 1, 0, none⟩) (Nat.le_succ _) _).setCell (p := ⟨w.heap.size + 1, 1, none⟩) (Nat.le_succ _) _⟩
     | true =>
      have HD := Aside0.mk (show ¬ covM ho (intM (wantM false)) = false by rw [hD]; decide)
      rw [hD] at HCo
      clear hD
      go_wp2_with fail
      refine (HIn.out w10).mono ?_
      rintro e w11 ⟨rfl, hb⟩
      have HB11 := Aside0.mk (below_then HB10.out HB10.out.size hb)
      clear hb
      go_wp2_with fail
      refine (HCo.out w11).mono ?_
      rintro e w12 ⟨rfl, hb⟩
      have HB12 := Aside0.mk (below_then HB11.out HB11.out.size hb)
      clear hb HCo
      have hz := Z.out _ HB12.out
      have k0 : w12.cell? ⟨w.heap.size + 1, 0, none⟩ = some (.int .i64 0) := (blk_cell hz 0).trans rfl
      have k1 : w12.cell? ⟨w.heap.size + 1, 1, none⟩ = some (.int .i64 0) := (blk_cell hz 1).trans rfl
      have j0 := frozen_of_row w12 (w.heap.size + 1) 0 _ _ hz
      have j1 := frozen_of_row w12 (w.heap.size + 1) 1 _ _ hz
      have HZ := Aside0.mk hz
      clear hz
      go_wp2
      (try simp only [Exit.inBlock, Exit.then])
      refine bodyPost_ret (results_ctt rfl _ _ (w.heap.size + 1) 41 #[.int .i64 (0), .int .i64 (0)] (0, 0) _ rfl ?_ hu38 rfl (by kernel_rfl)) rfl ?_
      ·exact two_set HZ.out _ _
      ·have e1 : nextT r o s hr ho hs c.f9 st false = (⟨0, 0⟩, false) := by unfold nextT; rw [if_neg HA.out]; rw [if_neg HB.out]; rw [if_neg HC.out]; rw [if_neg HD.out]; rw [if_neg HE.out]
       rw [e1]
       exact ⟨rfl, ((below_then HB1.out (by rw [S1.out]; omega) HB12.out).setCell (p := ⟨w.heap.size + 1, 0, none⟩) (Nat.le_succ _) _).setCell (p := ⟨w.heap.size + 1, 1, none⟩) (Nat.le_succ _) _⟩
    | false =>
     go_wp2_with fail
     obtain ⟨x0, x1, x2, x3, x4, x5, x6, x7, x8, x9, x10, x11⟩ := X.out _ HB9.out
     have g0 := fun d os => cell_gr x0 d os
     have g1 := fun d os => cell_gr x1 d os
     have g2 := fun d os => cell_gr x2 d os
     have g3 := fun d os => cell_gr x3 d os
     have g4 := fun d os => cell_gr x4 d os
     have g5 := fun d os => cell_gr x5 d os
     have g6 := fun d os => cell_gr x6 d os
     have g7 := fun d os => cell_gr x7 d os
     have g8 := fun d os => cell_gr x8 d os
     have g9 := fun d os => cell_gr x9 d os
     have g10 := fun d os => cell_gr x10 d os
     have g11 := fun d os => cell_gr x11 d os
     refine wp_region_gr mixed (by kernel_rfl) ?_
     repeat (go_big_quiet_step (fail))
     refine wpQuiet_nil ?_
     intro _ hw'
     obtain ⟨⟨d, os⟩, rfl⟩ := hw'
     have HB10 := Aside0.mk (below_then HB9.out HB9.out.size (below_gr w9 d os))
     clear x0 x1 x2 x3 x4 x5 x6 x7 x8 x9 x10 x11 g0 g1 g2 g3 g4 g5 g6 g7 g8 g9 g10 g11
     generalize grow (wat w9 d) os = w10 at HB10 ⊢
     clear c1 c2
     cases hD : covM ho (intM (wantM false)) with
     | false =>
      have HD := Aside0.mk hD
      rw [hD] at HCo
      clear hD
      go_wp2_with fail
      refine (HIn.out w10).mono ?_
      rintro e w11 ⟨rfl, hb⟩
      have HB11 := Aside0.mk (below_then HB10.out HB10.out.size hb)
      clear hb
      go_wp2_with fail
      refine (HCo.out w11).mono ?_
      rintro e w12 ⟨rfl, hb⟩
      have HB12 := Aside0.mk (below_then HB11.out HB11.out.size hb)
      clear hb HCo
      go_wp2_with fail
      refine (HIn.out w12).mono ?_
      rintro e w13 ⟨rfl, hb⟩
      have HB13 := Aside0.mk (below_then HB12.out HB12.out.size hb)
      clear hb
      have hz := Z.out _ HB13.out
      have k0 : w13.cell? ⟨w.heap.size + 1, 0, none⟩ = some (.int .i64 0) := (blk_cell hz 0).trans rfl
      have k1 : w13.cell? ⟨w.heap.size + 1, 1, none⟩ = some (.int .i64 0) := (blk_cell hz 1).trans rfl
      have j0 := frozen_of_row w13 (w.heap.size + 1) 0 _ _ hz
      have j1 := frozen_of_row w13 (w.heap.size + 1) 1 _ _ hz
      have HZ := Aside0.mk hz
      clear hz
      go_wp2
      (try simp only [Exit.inBlock, Exit.then])
      refine bodyPost_ret (results_ctt rfl _ _ (w.heap.size + 1) 41 #[.int .i64 (o), .int .i64 (intM (wantM false))] (0, 0) _ rfl ?_ hu38 rfl (by kernel_rfl)) rfl ?_
      ·exact two_set HZ.out _ _
      ·have e1 : nextT r o s hr ho hs c.f9 st false = (⟨o, intM (wantM false)⟩, true) := by unfold nextT; rw [if_neg HA.out]; rw [if_neg HB.out]; rw [if_neg HC.out]; rw [if_pos HD.out]
       rw [e1]
       exact ⟨rfl, ((below_then HB1.out (by rw [S1.out]; omega) HB13.out).setCell (p := ⟨w.heap.size + 1, 0, none⟩) (Nat.le_succ _) _).setCell (p := ⟨w.heap.size + 1, 1, none⟩) (Nat.le_succ _) _⟩
     | true =>
      have HD := Aside0.mk (show ¬ covM ho (intM (wantM false)) = false by rw [hD]; decide)
      rw [hD] at HCo
      clear hD
      go_wp2_with fail
      refine (HIn.out w10).mono ?_
      rintro e w11 ⟨rfl, hb⟩
      have HB11 := Aside0.mk (below_then HB10.out HB10.out.size hb)
      clear hb
      go_wp2_with fail
      refine (HCo.out w11).mono ?_
      rintro e w12 ⟨rfl, hb⟩
      have HB12 := Aside0.mk (below_then HB11.out HB11.out.size hb)
      clear hb HCo
      have hz := Z.out _ HB12.out
      have k0 : w12.cell? ⟨w.heap.size + 1, 0, none⟩ = some (.int .i64 0) := (blk_cell hz 0).trans rfl
      have k1 : w12.cell? ⟨w.heap.size + 1, 1, none⟩ = some (.int .i64 0) := (blk_cell hz 1).trans rfl
      have j0 := frozen_of_row w12 (w.heap.size + 1) 0 _ _ hz
      have j1 := frozen_of_row w12 (w.heap.size + 1) 1 _ _ hz
      have HZ := Aside0.mk hz
      clear hz
      go_wp2
      (try simp only [Exit.inBlock, Exit.then])
      refine bodyPost_ret (results_ctt rfl _ _ (w.heap.size + 1) 41 #[.int .i64 (s), .int .i64 (wantM false)] (0, 0) _ rfl ?_ hu38 rfl (by kernel_rfl)) rfl ?_
      ·exact two_set HZ.out _ _
      ·have e1 : nextT r o s hr ho hs c.f9 st false = (⟨s, wantM false⟩, true) := by unfold nextT; rw [if_neg HA.out]; rw [if_neg HB.out]; rw [if_neg HC.out]; rw [if_neg HD.out]; rw [if_pos HE.out]
       rw [e1]
       exact ⟨rfl, ((below_then HB1.out (by rw [S1.out]; omega) HB12.out).setCell (p := ⟨w.heap.size + 1, 0, none⟩) (Nat.le_succ _) _).setCell (p := ⟨w.heap.size + 1, 1, none⟩) (Nat.le_succ _) _⟩
theorem NextT_ {w : World} {b : Nat} {F : Nat → Prop} {ls : List LS} {most : Int} {N : Nat} {f : At} (h : IsTab w b F ls most N f) (hi : LInv ls) (hn : ls.length ≤ 10000) (c : Cf) (who a : Int) (wr : Bool) (lv pa : Int → Int)
  (hlv : ∀ j : Nat, j < ls.length → shape_Level.f 20 c.f0 c.f1 c.f2 c.f3 c.f4 c.f5 c.f6 c.f7 c.f8 c.f9 c.f10 c.f11 (j : Int) = some (lv j)) (hpa : ∀ j : Nat, j < ls.length → shape_Parent.f 20 c.f0 c.f1 c.f2 c.f3 c.f4 c.f5 c.f6 c.f7 c.f8 c.f9 c.f10 c.f11 (j : Int) = some (pa j))
  (r o s : Int) (hp : shape_Path.f c.f0 c.f1 c.f2 c.f3 c.f4 c.f5 c.f6 c.f7 c.f8 c.f9 c.f10 c.f11 a = some (r, o, s, 0)) (R : L × Bool) (hR : nextT r o s (holdsT ls who r) (holdsT ls who o) (holdsT ls who s) c.f9 (stripesT ls who lv pa o) wr = R) :
  Calls Tryz.prog 13 #[.agg #[.int .i64 c.f0, .int .i64 c.f1, .int .i64 c.f2, .int .i64 c.f3, .int .i64 c.f4, .int .i64 c.f5, .int .i64 c.f6, .int .i64 c.f7, .int .i64 c.f8, .int .i64 c.f9, .int .i64 c.f10, .int .i64 c.f11], .pointer (some ⟨b, 0, none⟩), .int .i64 who, .int .i64 a, .bool wr] w fun e w' =>
   e = .returned (.tuple #[.agg #[.int .i64 R.1.f0, .int .i64 R.1.f1], .bool R.2, .int .i64 0]) ∧ Below w.heap.size w w' := by
 subst hR
 cases wr with
 | true => exact Next_true h hi hn c who a lv pa hlv hpa r o s hp _ _ _ _ rfl rfl rfl rfl
 | false => exact Next_false h hi hn c who a lv pa hlv hpa r o s hp _ _ _ _ rfl rfl rfl rfl
end Go.Proofs.YtkceadieigpolaaGreat.Ln
