import Derived.Test.YtkceadieigpolaaGreatPq
import Derived.Test.YtkceadieigpolaaGreatRT
namespace Go.Proofs.YtkceadieigpolaaGreat.Ln
open Go.RowKit Go.Proofs.YtkceadieigpolaaGreatW.PrintWords Go.Proofs.YtkceadieigpolaaGreatW.PrintLast Go.Proofs.YtkceadieigpolaaGreatW.PrintMore Go.Proofs.YtkceadieigpolaaGreat.PMd
open Go.Sort (grow)
set_option linter.unusedVariables false
set_option linter.unusedSimpArgs false
section
variable {w : World} {b : Nat} {F : Nat → Prop} {ls : List LS} {most : Int}
set_option maxHeartbeats 8000000 in
set_option maxRecDepth 100000 in
theorem StripesTR_ (h : IsTR w b F ls most) (hn : ls.length ≤ 10000) (c : Cf) (who object : Int) (lv pa : Int → Int)
  (hlv : ∀ j : Nat, j < ls.length → ltkref1_Level.f 20 c.f0 c.f1 c.f2 c.f3 c.f4 c.f5 c.f6 c.f7 c.f8 c.f9 c.f10 c.f11 (j : Int) = some (lv j)) (hpa : ∀ j : Nat, j < ls.length → ltkref1_Parent.f 20 c.f0 c.f1 c.f2 c.f3 c.f4 c.f5 c.f6 c.f7 c.f8 c.f9 c.f10 c.f11 (j : Int) = some (pa j)) :
  Calls Tryz.prog 16 #[.agg #[.int .i64 c.f0, .int .i64 c.f1, .int .i64 c.f2, .int .i64 c.f3, .int .i64 c.f4, .int .i64 c.f5, .int .i64 c.f6, .int .i64 c.f7, .int .i64 c.f8, .int .i64 c.f9, .int .i64 c.f10, .int .i64 c.f11], .pointer (some ⟨b, 0, none⟩), .int .i64 who, .int .i64 object] w fun e w' => e = .returned (.int .i64 (stripesT ls who lv pa object : Nat)) ∧ Below w.heap.size w w' := by
 have mixed : Tryz.prog.follows Departure.mixedOrders = true := by kernel_rfl
 have hu41 := Tryz.underlying23
 have hu38 := Tryz.underlying41
 have HB0 := Aside0.mk (below_alloc (Below.refl w.heap.size w) (.cells #[.int .i64 c.f0, .int .i64 c.f1, .int .i64 c.f2, .int .i64 c.f3, .int .i64 c.f4, .int .i64 c.f5, .int .i64 c.f6, .int .i64 c.f7, .int .i64 c.f8, .int .i64 c.f9, .int .i64 c.f10, .int .i64 c.f11] 23))
 have HZ := Aside0.mk (blk_new w (.cells #[.int .i64 c.f0, .int .i64 c.f1, .int .i64 c.f2, .int .i64 c.f3, .int .i64 c.f4, .int .i64 c.f5, .int .i64 c.f6, .int .i64 c.f7, .int .i64 c.f8, .int .i64 c.f9, .int .i64 c.f10, .int .i64 c.f11] 23))
 have HH := Aside0.mk (HeldTR_ (h.below HB0.out) hn who)
 have HNd := Aside0.mk (fun k hk => held_node (ls := ls) (who := who) (k := k) hk)
 have HR := Aside0.mk (show stripesT ls who lv pa object = strUp (heldT ls who) lv pa object (heldT ls who).length by unfold stripesT strUp; rw [List.take_length])
 have HM := Aside0.mk (show (heldT ls who).length ≤ 10000 from Nat.le_trans (held_len ls who _) hn)
 have HLV := Aside0.mk hlv
 have HPA := Aside0.mk hpa
 generalize heldT ls who = l at HH HNd HR HM
 clear h hn hlv hpa
 go_enter Tryz.func16, Tryz.ntmps16
 go_wp2_with fail
 refine HH.out.mono ?_
 rintro e w2 ⟨A, cp, rfl, hR, -, hb⟩
 have HK := Aside0.mk hR.readsL
 have hc := hR.2.1
 have HB2 := Aside0.mk hb
 clear hR hb HH
 go_wp2_with fail
 go_loopg [9, 11] l.length (fun gg v9 v11 wr => ∃ k : Nat, k ≤ l.length ∧ l.length - k ≤ gg ∧ v11 = .int .i64 k ∧ v9 = .int .i64 (strUp l lv pa object k : Nat) ∧ Aside0 (Below w2.heap.size w2 wr))
 case atStart => exact ⟨0, by omega, by omega, rfl, rfl, ⟨Below.refl _ _⟩⟩
 case round =>
  obtain ⟨k, hk, hgg, rfl, rfl, HB⟩ := hrel
  by_cases hlt : k < l.length
  ·have t1 : (k : Int) < l.length := by omega
   have t0 : 0 ≤ (k : Int) := by omega
   obtain ⟨ad, rfl, q0, q1⟩ := at_T41 (Kd.C_below HK.out HB.out) (k : Int) (by omega) (by omega)
   simp only [Int.toNat_natCast, rdL_get] at q0 q1
   obtain ⟨j, hj, hyj⟩ := HNd.out k hlt
   have HSt := Aside0.mk (str_step (lv := lv) (pa := pa) (object := object) hlt)
   have hle : strUp l lv pa object k ≤ k := Nat.le_trans List.countP_le_length (by rw [List.length_take]; omega)
   generalize strUp l lv pa object k = s at HSt hle ⊢
   have W3 := Aside0.mk (show wrap64 ((k : Int) + 1) = ((k + 1 : Nat) : Int) by have := HM.out; unfold wrap64; omega)
   have W4 := Aside0.mk (show wrap64 ((s : Int) + 1) = ((s + 1 : Nat) : Int) by have := HM.out; unfold wrap64; omega)
   have HLT := Aside0.mk (And.intro hlt hgg)
   generalize l.getD k z41 = y at q0 q1 hyj HSt
   obtain ⟨yf, ym⟩ := y
   dsimp only at q0 q1 hyj
   subst hyj
   have HBa := Aside0.mk (below_then HB0.out (by simp) (below_then HB2.out HB2.out.size HB.out))
   have hz := ((below_then HB2.out HB2.out.size HB.out).block w.heap.size (Array.getElem?_eq_some_iff.1 HZ.out).1).trans HZ.out
   obtain ⟨x0, x1, x2, x3, x4, x5, x6, x7, x8, x9, x10, x11⟩ := cf_at hz
   have g0 := fun d os => cell_gr x0 d os
   have g1 := fun d os => cell_gr x1 d os
   have g2 := fun d os => cell_gr x2 d os
   have g3 := fun d os => cell_gr x3 d os
   have g4 := fun d os => cell_gr x4 d os
   have g5 := fun d os => cell_gr x5 d os
   have g6 := fun d os => cell_gr x6 d os
   have g7 := fun d os => cell_gr x7 d os
   have g8 := fun d os => cell_gr x8 d os
   have g9 := fun d os => cell_gr x9 d os
   have g10 := fun d os => cell_gr x10 d os
   have g11 := fun d os => cell_gr x11 d os
   have gq := fun d os => cell_gr q0 d os
   have HGQ := Aside0.mk gq
   have HLc := Aside0.mk (fun W => level_at c (j : Int) _ W (HLV.out j hj))
   have HPc := Aside0.mk (fun W => parent_at c (j : Int) _ W (HPA.out j hj))
   have HI := Aside0.mk (show isStr lv pa object ⟨(j : Int), ym⟩ = (lv (j : Int) == 2 && pa (j : Int) == object) from rfl)
   clear hle hj hk hgg hlt hz q1
   generalize lv (j : Int) = lvl at HLc HI
   generalize pa (j : Int) = par at HPc HI
   cases e2 : (lvl == 2) with
   | true =>
    cases e3 : (par == object) with
    | true =>
     have HS1 := Aside0.mk (show isStr lv pa object ⟨(j : Int), ym⟩ = true by rw [HI.out, e2, e3]; rfl)
     go_wp2_with fail
     refine wp_region_gr mixed (by kernel_rfl) ?_
     repeat (go_big_quiet_step (first | exact Calls.gr_of (HLc.out _) | exact Calls.gr_of (HPc.out _)))
     refine wpQuiet_nil ?_
     intro _ hw'
     obtain ⟨⟨d, os⟩, rfl⟩ := hw'
     have HB6 := Aside0.mk (below_then HB.out HB.out.size (below_gr wr d os))
     clear e2 e3 x0 x1 x2 x3 x4 x5 x6 x7 x8 x9 x10 x11 g0 g1 g2 g3 g4 g5 g6 g7 g8 g9 g10 g11 gq q0
     generalize grow (wat wr d) os = w6 at HB6 ⊢
     go_wp2
     go_roundg (l.length - (k + 1))
     case measure => have := HLT.out; omega
     case rel => exact ⟨k + 1, by have := HLT.out; omega, by have := HLT.out; omega, by rw [W3.out], by rw [HSt.out, if_pos HS1.out, W4.out], HB6⟩
    | false =>
     have HS1 := Aside0.mk (show isStr lv pa object ⟨(j : Int), ym⟩ = false by rw [HI.out, e2, e3]; rfl)
     go_wp2_with fail
     refine wp_region_gr mixed (by kernel_rfl) ?_
     repeat (go_big_quiet_step (first | exact Calls.gr_of (HLc.out _) | exact Calls.gr_of (HPc.out _)))
     refine wpQuiet_nil ?_
     intro _ hw'
     obtain ⟨⟨d, os⟩, rfl⟩ := hw'
     have HB6 := Aside0.mk (below_then HB.out HB.out.size (below_gr wr d os))
     clear e2 e3 x0 x1 x2 x3 x4 x5 x6 x7 x8 x9 x10 x11 g0 g1 g2 g3 g4 g5 g6 g7 g8 g9 g10 g11 gq q0
     generalize grow (wat wr d) os = w6 at HB6 ⊢
     go_wp2
     go_roundg (l.length - (k + 1))
     case measure => have := HLT.out; omega
     case rel => exact ⟨k + 1, by have := HLT.out; omega, by have := HLT.out; omega, by rw [W3.out], by rw [HSt.out, if_neg (by rw [HS1.out]; decide)]; rfl, HB6⟩
   | false =>
    have HS1 := Aside0.mk (show isStr lv pa object ⟨(j : Int), ym⟩ = false by rw [HI.out, e2]; rfl)
    go_wp2_with fail
    refine wp_region_gr mixed (by kernel_rfl) ?_
    repeat (go_big_quiet_step (first | exact Calls.gr_of (HLc.out _) | exact Calls.gr_of (HPc.out _)))
    refine wpQuiet_nil ?_
    intro _ hw'
    obtain ⟨⟨d, os⟩, rfl⟩ := hw'
    have HB6 := Aside0.mk (below_then HB.out HB.out.size (below_gr wr d os))
    clear e2 x0 x1 x2 x3 x4 x5 x6 x7 x8 x9 x10 x11 g0 g1 g2 g3 g4 g5 g6 g7 g8 g9 g10 g11 gq q0
    generalize grow (wat wr d) os = w6 at HB6 ⊢
    go_wp2
    go_roundg (l.length - (k + 1))
    case measure => have := HLT.out; omega
    case rel => exact ⟨k + 1, by have := HLT.out; omega, by have := HLT.out; omega, by rw [W3.out], by rw [HSt.out, if_neg (by rw [HS1.out]; decide)]; rfl, HB6⟩
  ·obtain rfl : k = l.length := by omega
   have t1 : ¬ (l.length : Int) < l.length := by omega
   have HBf := Aside0.mk (below_then HB0.out (by simp) (below_then HB2.out HB2.out.size HB.out))
   clear hk hgg hlt
   go_wp2
   go_ret
   exact ⟨by rw [HR.out]; rfl, HBf.out⟩
theorem covR_f : ∀ a b : Fin 6, ltkref1_Covers.f 20 (a.val : Int) (b.val : Int) = some (covM (a.val : Int) (b.val : Int)) := by decide +kernel
theorem intR_f : ∀ a : Fin 6, ltkref1_Intent.f 20 (a.val : Int) = some (intM (a.val : Int)) := by decide +kernel
def redM (a : Int) : Bool := (ltkref1_Reads.f a).getD false
theorem redR_f : ∀ a : Fin 6, ltkref1_Reads.f (a.val : Int) = some (redM (a.val : Int)) := by decide +kernel
theorem enoR_f : ∀ a : Fin 6, enoM (a.val : Int) true = ((a.val : Int) == 5) ∧ enoM (a.val : Int) false = (redM (a.val : Int) || (a.val : Int) == 5) := by decide +kernel
theorem eno_t {a : Int} (h : md a) : enoM a true = (a == 5) := by obtain ⟨x, rfl⟩ := fin6 h; exact (enoR_f x).1
theorem eno_ff {a : Int} (h : md a) : enoM a false = (redM a || a == 5) := by obtain ⟨x, rfl⟩ := fin6 h; exact (enoR_f x).2
theorem below_d0 {w w' : World} (h : Drawn0 w w') : Below w.heap.size w w' := by obtain ⟨n, rfl⟩ := h.out; exact pw_below_drewN (Below.refl _ _) _
theorem Covers_R (a b : Int) (w : World) (ha : md a) (hb : md b) : Calls Tryz.prog 54 #[.int .i64 a, .int .i64 b] w fun e w' => e = .returned (.bool (covM a b)) ∧ Below w.heap.size w w' :=
 ltkref1_Covers.calls 20 a b _ w (by obtain ⟨x, rfl⟩ := fin6 ha; obtain ⟨y, rfl⟩ := fin6 hb; exact covR_f x y)
theorem Intent_R (a : Int) (w : World) (ha : md a) : Calls Tryz.prog 53 #[.int .i64 a] w fun e w' => e = .returned (.int .i64 (intM a)) ∧ Below w.heap.size w w' :=
 (ltkref1_Intent.calls 20 a _ w (by obtain ⟨x, rfl⟩ := fin6 ha; exact intR_f x)).mono fun _ _ ⟨h1, h2⟩ => ⟨h1, below_d0 h2⟩
theorem Reads_R (a : Int) (w : World) (ha : md a) : Calls Tryz.prog 55 #[.int .i64 a] w fun e w' => e = .returned (.bool (redM a)) ∧ Below w.heap.size w w' :=
 (ltkref1_Reads.calls a _ w (by obtain ⟨x, rfl⟩ := fin6 ha; exact redR_f x)).mono fun _ _ ⟨h1, h2⟩ => ⟨h1, below_d0 h2⟩
theorem Writes_R (a : Int) (w : World) : Calls Tryz.prog 56 #[.int .i64 a] w fun e w' => e = .returned (.bool (a == 5)) ∧ Below w.heap.size w w' :=
 (ltkref1_Writes.calls a _ w rfl).mono fun _ _ ⟨h1, h2⟩ => ⟨h1, below_d0 h2⟩
set_option maxHeartbeats 8000000 in
set_option maxRecDepth 100000 in
theorem NextTR_err (h : IsTR w b F ls most) (c : Cf) (who a : Int) (wr : Bool) (hp : ltkref1_Path.f 20 c.f0 c.f1 c.f2 c.f3 c.f4 c.f5 c.f6 c.f7 c.f8 c.f9 c.f10 c.f11 a = some (0, 0, 0, 1)) :
  Calls Tryz.prog 14 #[.agg #[.int .i64 c.f0, .int .i64 c.f1, .int .i64 c.f2, .int .i64 c.f3, .int .i64 c.f4, .int .i64 c.f5, .int .i64 c.f6, .int .i64 c.f7, .int .i64 c.f8, .int .i64 c.f9, .int .i64 c.f10, .int .i64 c.f11], .pointer (some ⟨b, 0, none⟩), .int .i64 who, .int .i64 a, .bool wr] w fun e w' =>
   e = .returned (.tuple #[.agg #[.int .i64 0, .int .i64 0], .bool false, .int .i64 1]) ∧ Below w.heap.size w w' := by
 have mixed : Tryz.prog.follows Departure.mixedOrders = true := by kernel_rfl
 have hu41 := Tryz.underlying23
 have hu38 := Tryz.underlying41
 have HB1 := Aside0.mk (below_alloc (below_alloc (Below.refl w.heap.size w) (.cells #[.int .i64 c.f0, .int .i64 c.f1, .int .i64 c.f2, .int .i64 c.f3, .int .i64 c.f4, .int .i64 c.f5, .int .i64 c.f6, .int .i64 c.f7, .int .i64 c.f8, .int .i64 c.f9, .int .i64 c.f10, .int .i64 c.f11] 23)) (.cells #[.int .i64 0, .int .i64 0] 41))
 have e1 : (w.alloc (.cells #[.int .i64 c.f0, .int .i64 c.f1, .int .i64 c.f2, .int .i64 c.f3, .int .i64 c.f4, .int .i64 c.f5, .int .i64 c.f6, .int .i64 c.f7, .int .i64 c.f8, .int .i64 c.f9, .int .i64 c.f10, .int .i64 c.f11] 23)).heap.size = w.heap.size + 1 := by simp
 have hx := blk_new w (.cells #[.int .i64 c.f0, .int .i64 c.f1, .int .i64 c.f2, .int .i64 c.f3, .int .i64 c.f4, .int .i64 c.f5, .int .i64 c.f6, .int .i64 c.f7, .int .i64 c.f8, .int .i64 c.f9, .int .i64 c.f10, .int .i64 c.f11] 23)
 have hx2 := blk_alloc hx (.cells #[.int .i64 0, .int .i64 0] 41)
 have hz := blk_new (w.alloc (.cells #[.int .i64 c.f0, .int .i64 c.f1, .int .i64 c.f2, .int .i64 c.f3, .int .i64 c.f4, .int .i64 c.f5, .int .i64 c.f6, .int .i64 c.f7, .int .i64 c.f8, .int .i64 c.f9, .int .i64 c.f10, .int .i64 c.f11] 23)) (.cells #[.int .i64 0, .int .i64 0] 41)
 rw [e1] at hz
 obtain ⟨w1, hw1⟩ : ∃ W, (w.alloc (.cells #[.int .i64 c.f0, .int .i64 c.f1, .int .i64 c.f2, .int .i64 c.f3, .int .i64 c.f4, .int .i64 c.f5, .int .i64 c.f6, .int .i64 c.f7, .int .i64 c.f8, .int .i64 c.f9, .int .i64 c.f10, .int .i64 c.f11] 23)).alloc (.cells #[.int .i64 0, .int .i64 0] 41) = W := ⟨_, rfl⟩
 have HW1 := Aside0.mk hw1
 rw [hw1] at HB1 hx2 hz
 have S1 := Aside0.mk (show w1.heap.size = w.heap.size + 2 by rw [← hw1]; simp)
 have Z := Aside0.mk (fun W (hb : Below w1.heap.size w1 W) => (hb.block (w.heap.size + 1) (by rw [S1.out]; omega)).trans hz)
 have X := Aside0.mk (fun W (hb : Below w1.heap.size w1 W) => (show CfAt c w.heap.size W from cf_at ((hb.block w.heap.size (by rw [S1.out]; omega)).trans hx2)))
 have HP := Aside0.mk (path_calls c a 0 0 0 1 w1 hp)
 clear h hp hx hx2 hz hw1
 go_enter Tryz.func14, Tryz.ntmps14
 go_wp2_with fail
 simp only [HW1.out]
 refine HP.out.mono ?_
 rintro e w2 ⟨rfl, hb⟩
 have HB2 := Aside0.mk hb
 have hz := Z.out _ hb
 have k0 : w2.cell? ⟨w.heap.size + 1, 0, none⟩ = some (.int .i64 0) := (blk_cell hz 0).trans rfl
 have k1 : w2.cell? ⟨w.heap.size + 1, 1, none⟩ = some (.int .i64 0) := (blk_cell hz 1).trans rfl
 have j0 := frozen_of_row w2 (w.heap.size + 1) 0 _ _ hz
 have j1 := frozen_of_row w2 (w.heap.size + 1) 1 _ _ hz
 have HZ := Aside0.mk hz
 clear hb hz
 go_wp2
 (try simp only [Exit.inBlock, Exit.then])
 refine bodyPost_ret (results_ctt rfl _ _ (w.heap.size + 1) 41 #[.int .i64 0, .int .i64 0] (0, 0) _ rfl ?_ hu38 rfl (by kernel_rfl)) rfl ?_
 ·exact two_set HZ.out _ _
 ·exact ⟨rfl, ((below_then HB1.out (by rw [S1.out]; omega) HB2.out).setCell (p := ⟨w.heap.size + 1, 0, none⟩) (Nat.le_succ _) _).setCell (p := ⟨w.heap.size + 1, 1, none⟩) (Nat.le_succ _) _⟩
set_option maxHeartbeats 8000000 in
set_option maxRecDepth 100000 in
theorem NextT_err {N : Nat} {f : At} (h : IsTab w b F ls most N f) (c : Cf) (who a : Int) (wr : Bool) (hp : shape_Path.f c.f0 c.f1 c.f2 c.f3 c.f4 c.f5 c.f6 c.f7 c.f8 c.f9 c.f10 c.f11 a = some (0, 0, 0, 1)) :
  Calls Tryz.prog 13 #[.agg #[.int .i64 c.f0, .int .i64 c.f1, .int .i64 c.f2, .int .i64 c.f3, .int .i64 c.f4, .int .i64 c.f5, .int .i64 c.f6, .int .i64 c.f7, .int .i64 c.f8, .int .i64 c.f9, .int .i64 c.f10, .int .i64 c.f11], .pointer (some ⟨b, 0, none⟩), .int .i64 who, .int .i64 a, .bool wr] w fun e w' =>
   e = .returned (.tuple #[.agg #[.int .i64 0, .int .i64 0], .bool false, .int .i64 1]) ∧ Below w.heap.size w w' := by
 have mixed : Tryz.prog.follows Departure.mixedOrders = true := by kernel_rfl
 have hu41 := Tryz.underlying23
 have hu38 := Tryz.underlying41
 have HB1 := Aside0.mk (below_alloc (below_alloc (Below.refl w.heap.size w) (.cells #[.int .i64 c.f0, .int .i64 c.f1, .int .i64 c.f2, .int .i64 c.f3, .int .i64 c.f4, .int .i64 c.f5, .int .i64 c.f6, .int .i64 c.f7, .int .i64 c.f8, .int .i64 c.f9, .int .i64 c.f10, .int .i64 c.f11] 23)) (.cells #[.int .i64 0, .int .i64 0] 41))
 have e1 : (w.alloc (.cells #[.int .i64 c.f0, .int .i64 c.f1, .int .i64 c.f2, .int .i64 c.f3, .int .i64 c.f4, .int .i64 c.f5, .int .i64 c.f6, .int .i64 c.f7, .int .i64 c.f8, .int .i64 c.f9, .int .i64 c.f10, .int .i64 c.f11] 23)).heap.size = w.heap.size + 1 := by simp
 have hx := blk_new w (.cells #[.int .i64 c.f0, .int .i64 c.f1, .int .i64 c.f2, .int .i64 c.f3, .int .i64 c.f4, .int .i64 c.f5, .int .i64 c.f6, .int .i64 c.f7, .int .i64 c.f8, .int .i64 c.f9, .int .i64 c.f10, .int .i64 c.f11] 23)
 have hx2 := blk_alloc hx (.cells #[.int .i64 0, .int .i64 0] 41)
 have hz := blk_new (w.alloc (.cells #[.int .i64 c.f0, .int .i64 c.f1, .int .i64 c.f2, .int .i64 c.f3, .int .i64 c.f4, .int .i64 c.f5, .int .i64 c.f6, .int .i64 c.f7, .int .i64 c.f8, .int .i64 c.f9, .int .i64 c.f10, .int .i64 c.f11] 23)) (.cells #[.int .i64 0, .int .i64 0] 41)
 rw [e1] at hz
 obtain ⟨w1, hw1⟩ : ∃ W, (w.alloc (.cells #[.int .i64 c.f0, .int .i64 c.f1, .int .i64 c.f2, .int .i64 c.f3, .int .i64 c.f4, .int .i64 c.f5, .int .i64 c.f6, .int .i64 c.f7, .int .i64 c.f8, .int .i64 c.f9, .int .i64 c.f10, .int .i64 c.f11] 23)).alloc (.cells #[.int .i64 0, .int .i64 0] 41) = W := ⟨_, rfl⟩
 have HW1 := Aside0.mk hw1
 rw [hw1] at HB1 hx2 hz
 have S1 := Aside0.mk (show w1.heap.size = w.heap.size + 2 by rw [← hw1]; simp)
 have Z := Aside0.mk (fun W (hb : Below w1.heap.size w1 W) => (hb.block (w.heap.size + 1) (by rw [S1.out]; omega)).trans hz)
 have X := Aside0.mk (fun W (hb : Below w1.heap.size w1 W) => (show CfAt c w.heap.size W from cf_at ((hb.block w.heap.size (by rw [S1.out]; omega)).trans hx2)))
 have HP := Aside0.mk (shape_Path.calls c.f0 c.f1 c.f2 c.f3 c.f4 c.f5 c.f6 c.f7 c.f8 c.f9 c.f10 c.f11 a 0 0 0 1 w1 hp)
 clear h hp hx hx2 hz hw1
 go_enter Tryz.func13, Tryz.ntmps13
 go_wp2_with fail
 simp only [HW1.out]
 refine HP.out.mono ?_
 rintro e w2 ⟨rfl, hb⟩
 have HB2 := Aside0.mk hb
 have hz := Z.out _ hb
 have k0 : w2.cell? ⟨w.heap.size + 1, 0, none⟩ = some (.int .i64 0) := (blk_cell hz 0).trans rfl
 have k1 : w2.cell? ⟨w.heap.size + 1, 1, none⟩ = some (.int .i64 0) := (blk_cell hz 1).trans rfl
 have j0 := frozen_of_row w2 (w.heap.size + 1) 0 _ _ hz
 have j1 := frozen_of_row w2 (w.heap.size + 1) 1 _ _ hz
 have HZ := Aside0.mk hz
 clear hb hz
 go_wp2
 (try simp only [Exit.inBlock, Exit.then])
 refine bodyPost_ret (results_ctt rfl _ _ (w.heap.size + 1) 41 #[.int .i64 0, .int .i64 0] (0, 0) _ rfl ?_ hu38 rfl (by kernel_rfl)) rfl ?_
 ·exact two_set HZ.out _ _
 ·exact ⟨rfl, ((below_then HB1.out (by rw [S1.out]; omega) HB2.out).setCell (p := ⟨w.heap.size + 1, 0, none⟩) (Nat.le_succ _) _).setCell (p := ⟨w.heap.size + 1, 1, none⟩) (Nat.le_succ _) _⟩
set_option maxHeartbeats 16000000 in
set_option maxRecDepth 100000 in
theorem NextTR_true (h : IsTR w b F ls most) (hi : LInv ls) (hn : ls.length ≤ 10000) (c : Cf) (who a : Int) (lv pa : Int → Int)
  (hlv : ∀ j : Nat, j < ls.length → ltkref1_Level.f 20 c.f0 c.f1 c.f2 c.f3 c.f4 c.f5 c.f6 c.f7 c.f8 c.f9 c.f10 c.f11 (j : Int) = some (lv j)) (hpa : ∀ j : Nat, j < ls.length → ltkref1_Parent.f 20 c.f0 c.f1 c.f2 c.f3 c.f4 c.f5 c.f6 c.f7 c.f8 c.f9 c.f10 c.f11 (j : Int) = some (pa j))
  (r o s : Int) (hp : ltkref1_Path.f 20 c.f0 c.f1 c.f2 c.f3 c.f4 c.f5 c.f6 c.f7 c.f8 c.f9 c.f10 c.f11 a = some (r, o, s, 0)) (hr ho hs : Int) (st : Nat) (er : holdsT ls who r = hr) (eo : holdsT ls who o = ho) (es : holdsT ls who s = hs) (est : stripesT ls who lv pa o = st) :
  Calls Tryz.prog 14 #[.agg #[.int .i64 c.f0, .int .i64 c.f1, .int .i64 c.f2, .int .i64 c.f3, .int .i64 c.f4, .int .i64 c.f5, .int .i64 c.f6, .int .i64 c.f7, .int .i64 c.f8, .int .i64 c.f9, .int .i64 c.f10, .int .i64 c.f11], .pointer (some ⟨b, 0, none⟩), .int .i64 who, .int .i64 a, .bool true] w fun e w' =>
   e = .returned (.tuple #[.agg #[.int .i64 (nextT r o s hr ho hs c.f9 st true).1.f0, .int .i64 (nextT r o s hr ho hs c.f9 st true).1.f1], .bool (nextT r o s hr ho hs c.f9 st true).2, .int .i64 0]) ∧ Below w.heap.size w w' := by
 have mixed : Tryz.prog.follows Departure.mixedOrders = true := by kernel_rfl
 have hu41 := Tryz.underlying23
 have hu38 := Tryz.underlying41
 have HB1 := Aside0.mk (below_alloc (below_alloc (Below.refl w.heap.size w) (.cells #[.int .i64 c.f0, .int .i64 c.f1, .int .i64 c.f2, .int .i64 c.f3, .int .i64 c.f4, .int .i64 c.f5, .int .i64 c.f6, .int .i64 c.f7, .int .i64 c.f8, .int .i64 c.f9, .int .i64 c.f10, .int .i64 c.f11] 23)) (.cells #[.int .i64 0, .int .i64 0] 41))
 have e1 : (w.alloc (.cells #[.int .i64 c.f0, .int .i64 c.f1, .int .i64 c.f2, .int .i64 c.f3, .int .i64 c.f4, .int .i64 c.f5, .int .i64 c.f6, .int .i64 c.f7, .int .i64 c.f8, .int .i64 c.f9, .int .i64 c.f10, .int .i64 c.f11] 23)).heap.size = w.heap.size + 1 := by simp
 have hx := blk_new w (.cells #[.int .i64 c.f0, .int .i64 c.f1, .int .i64 c.f2, .int .i64 c.f3, .int .i64 c.f4, .int .i64 c.f5, .int .i64 c.f6, .int .i64 c.f7, .int .i64 c.f8, .int .i64 c.f9, .int .i64 c.f10, .int .i64 c.f11] 23)
 have hx2 := blk_alloc hx (.cells #[.int .i64 0, .int .i64 0] 41)
 have hz := blk_new (w.alloc (.cells #[.int .i64 c.f0, .int .i64 c.f1, .int .i64 c.f2, .int .i64 c.f3, .int .i64 c.f4, .int .i64 c.f5, .int .i64 c.f6, .int .i64 c.f7, .int .i64 c.f8, .int .i64 c.f9, .int .i64 c.f10, .int .i64 c.f11] 23)) (.cells #[.int .i64 0, .int .i64 0] 41)
 rw [e1] at hz
 obtain ⟨w1, hw1⟩ : ∃ W, (w.alloc (.cells #[.int .i64 c.f0, .int .i64 c.f1, .int .i64 c.f2, .int .i64 c.f3, .int .i64 c.f4, .int .i64 c.f5, .int .i64 c.f6, .int .i64 c.f7, .int .i64 c.f8, .int .i64 c.f9, .int .i64 c.f10, .int .i64 c.f11] 23)).alloc (.cells #[.int .i64 0, .int .i64 0] 41) = W := ⟨_, rfl⟩
 have HW1 := Aside0.mk hw1
 rw [hw1] at HB1 hx2 hz
 have S1 := Aside0.mk (show w1.heap.size = w.heap.size + 2 by rw [← hw1]; simp)
 have Z := Aside0.mk (fun W (hb : Below w1.heap.size w1 W) => (hb.block (w.heap.size + 1) (by rw [S1.out]; omega)).trans hz)
 have X := Aside0.mk (fun W (hb : Below w1.heap.size w1 W) => (show CfAt c w.heap.size W from cf_at ((hb.block w.heap.size (by rw [S1.out]; omega)).trans hx2)))
 have HT := Aside0.mk (h.below HB1.out)
 have HP := Aside0.mk (path_calls c a r o s 0 w1 hp)
 have HHr := Aside0.mk (fun W (hb : Below w1.heap.size w1 W) => (HoldsTR_ (HT.out.below hb) who r).mono fun e w' ⟨q1, q2⟩ => (show e = Ending.returned (.int .i64 (holdsT ls who r)) ∧ Below W.heap.size W w' from ⟨q1, by rw [q2]; exact Below.refl _ _⟩))
 have HHo := Aside0.mk (fun W (hb : Below w1.heap.size w1 W) => (HoldsTR_ (HT.out.below hb) who o).mono fun e w' ⟨q1, q2⟩ => (show e = Ending.returned (.int .i64 (holdsT ls who o)) ∧ Below W.heap.size W w' from ⟨q1, by rw [q2]; exact Below.refl _ _⟩))
 have HHs := Aside0.mk (fun W (hb : Below w1.heap.size w1 W) => (HoldsTR_ (HT.out.below hb) who s).mono fun e w' ⟨q1, q2⟩ => (show e = Ending.returned (.int .i64 (holdsT ls who s)) ∧ Below W.heap.size W w' from ⟨q1, by rw [q2]; exact Below.refl _ _⟩))
 have HSt := Aside0.mk (fun W (hb : Below w1.heap.size w1 W) => StripesTR_ (HT.out.below hb) hn c who o lv pa hlv hpa)
 have mr := told_md_T hi who r
 have mo := told_md_T hi who o
 have ms := told_md_T hi who s
 rw [er] at HHr mr
 rw [eo] at HHo mo
 rw [es] at HHs ms
 rw [est] at HSt
 have MO := Aside0.mk mo
 have HIn := Aside0.mk (fun W => Intent_R (wantM true) W (want_md true).1)
 have HCr := Aside0.mk (fun W => Covers_R hr (intM (wantM true)) W mr (want_md true).2)
 have HCo := Aside0.mk (fun W => Covers_R ho (intM (wantM true)) W mo (want_md true).2)
 have HCs := Aside0.mk (fun W => Covers_R hs (wantM true) W ms (want_md true).1)
 have HRd := Aside0.mk (fun W => Reads_R ho W mo)
 have HWr := Aside0.mk (fun W => Writes_R ho W)
 have eW : (if true = true then (5 : Int) else 3) = wantM true := rfl
 clear h hi hn hlv hpa hp er eo es est mr mo ms hx hx2 hz HT hw1 eW
 go_enter Tryz.func14, Tryz.ntmps14
 go_wp2_with fail
 simp only [HW1.out]
 refine HP.out.mono ?_
 rintro e w2 ⟨rfl, hb⟩
 have HB2 := Aside0.mk hb
 clear hb
 go_wp2_with fail
 refine (HIn.out w2).mono ?_
 rintro e w3 ⟨rfl, hb⟩
 have HB3 := Aside0.mk (below_then HB2.out HB2.out.size hb)
 clear hb
 go_wp2_with fail
 refine (HHr.out w3 HB3.out).mono ?_
 rintro e w4 ⟨rfl, hb⟩
 have HB4 := Aside0.mk (below_then HB3.out HB3.out.size hb)
 clear hb
 cases hA : covM hr (intM (wantM true)) with
 | false =>
  have HA := Aside0.mk hA
  rw [hA] at HCr
  clear hA
  go_wp2_with fail
  refine (HCr.out w4).mono ?_
  rintro e w5 ⟨rfl, hb⟩
  have HB5 := Aside0.mk (below_then HB4.out HB4.out.size hb)
  clear hb
  have hz := Z.out _ HB5.out
  have k0 : w5.cell? ⟨w.heap.size + 1, 0, none⟩ = some (.int .i64 0) := (blk_cell hz 0).trans rfl
  have k1 : w5.cell? ⟨w.heap.size + 1, 1, none⟩ = some (.int .i64 0) := (blk_cell hz 1).trans rfl
  have j0 := frozen_of_row w5 (w.heap.size + 1) 0 _ _ hz
  have j1 := frozen_of_row w5 (w.heap.size + 1) 1 _ _ hz
  have HZ := Aside0.mk hz
  clear hz
  go_wp2
  (try simp only [Exit.inBlock, Exit.then])
  refine bodyPost_ret (results_ctt rfl _ _ (w.heap.size + 1) 41 #[.int .i64 (r), .int .i64 (intM (wantM true))] (0, 0) _ rfl ?_ hu38 rfl (by kernel_rfl)) rfl ?_
  ·exact two_set HZ.out _ _
  ·have e1 : nextT r o s hr ho hs c.f9 st true = (⟨r, intM (wantM true)⟩, true) := by unfold nextT; rw [if_pos HA.out]
   rw [e1]
   exact ⟨rfl, ((below_then HB1.out (by rw [S1.out]; omega) HB5.out).setCell (p := ⟨w.heap.size + 1, 0, none⟩) (Nat.le_succ _) _).setCell (p := ⟨w.heap.size + 1, 1, none⟩) (Nat.le_succ _) _⟩
 | true =>
  have HA := Aside0.mk (show ¬ covM hr (intM (wantM true)) = false by rw [hA]; decide)
  rw [hA] at HCr
  clear hA
  go_wp2_with fail
  refine (HCr.out w4).mono ?_
  rintro e w5 ⟨rfl, hb⟩
  have HB5 := Aside0.mk (below_then HB4.out HB4.out.size hb)
  clear hb
  go_wp2_with fail
  refine (HHo.out w5 HB5.out).mono ?_
  rintro e w6 ⟨rfl, hb⟩
  have HB6 := Aside0.mk (below_then HB5.out HB5.out.size hb)
  clear hb
  cases hB : (ho == 5) with
  | true =>
   have HBe := Aside0.mk (show enoM ho true = true by rw [eno_t MO.out, hB])
   rw [hB] at HWr
   clear hB
   go_wp2_with fail
   refine (HWr.out w6).mono ?_
   rintro e w7 ⟨rfl, hb⟩
   have HB7 := Aside0.mk (below_then HB6.out HB6.out.size hb)
   clear hb
   have hz := Z.out _ HB7.out
   have k0 : w7.cell? ⟨w.heap.size + 1, 0, none⟩ = some (.int .i64 0) := (blk_cell hz 0).trans rfl
   have k1 : w7.cell? ⟨w.heap.size + 1, 1, none⟩ = some (.int .i64 0) := (blk_cell hz 1).trans rfl
   have j0 := frozen_of_row w7 (w.heap.size + 1) 0 _ _ hz
   have j1 := frozen_of_row w7 (w.heap.size + 1) 1 _ _ hz
   have HZ := Aside0.mk hz
   clear hz
   go_wp2
   (try simp only [Exit.inBlock, Exit.then])
   refine bodyPost_ret (results_ctt rfl _ _ (w.heap.size + 1) 41 #[.int .i64 (0), .int .i64 (0)] (0, 0) _ rfl ?_ hu38 rfl (by kernel_rfl)) rfl ?_
   ·exact two_set HZ.out _ _
   ·have e1 : nextT r o s hr ho hs c.f9 st true = (⟨0, 0⟩, false) := by unfold nextT; rw [if_neg HA.out]; rw [if_pos HBe.out]
    rw [e1]
    exact ⟨rfl, ((below_then HB1.out (by rw [S1.out]; omega) HB7.out).setCell (p := ⟨w.heap.size + 1, 0, none⟩) (Nat.le_succ _) _).setCell (p := ⟨w.heap.size + 1, 1, none⟩) (Nat.le_succ _) _⟩
  | false =>
   have HBe := Aside0.mk (show ¬ enoM ho true = true by rw [eno_t MO.out, hB]; decide)
   rw [hB] at HWr
   clear hB
   go_wp2_with fail
   refine (HWr.out w6).mono ?_
   rintro e w7 ⟨rfl, hb⟩
   have HB7 := Aside0.mk (below_then HB6.out HB6.out.size hb)
   clear hb
   go_wp2_with fail
   refine (HHs.out w7 HB7.out).mono ?_
   rintro e w8 ⟨rfl, hb⟩
   have HB8 := Aside0.mk (below_then HB7.out HB7.out.size hb)
   clear hb
   cases hE : covM hs (wantM true) with
   | false =>
    have HE := Aside0.mk hE
    rw [hE] at HCs
    clear hE
    go_wp2_with fail
    refine (HCs.out w8).mono ?_
    rintro e w9 ⟨rfl, hb⟩
    have HB9 := Aside0.mk (below_then HB8.out HB8.out.size hb)
    clear hb
    have HStq := Aside0.mk (fun d os => HSt.out (grow (wat w9 d) os) (below_then HB9.out HB9.out.size (below_gr w9 d os)))
    by_cases hG : c.f9 > 0
    ·have hG1 : decide (c.f9 > 0) = true := decide_eq_true hG
     by_cases hS : (st : Int) ≥ c.f9
     ·have hS1 : decide ((st : Int) ≥ c.f9) = true := decide_eq_true hS
      have HC := Aside0.mk (show (c.f9 > 0 ∧ covM hs (wantM true) = false) ∧ (st : Int) ≥ c.f9 from ⟨⟨hG, HE.out⟩, hS⟩)
      go_wp2_with fail
      obtain ⟨x0, x1, x2, x3, x4, x5, x6, x7, x8, x9, x10, x11⟩ := X.out _ HB9.out
      have g0 := fun d os => cell_gr x0 d os
      have g1 := fun d os => cell_gr x1 d os
      have g2 := fun d os => cell_gr x2 d os
      have g3 := fun d os => cell_gr x3 d os
      have g4 := fun d os => cell_gr x4 d os
      have g5 := fun d os => cell_gr x5 d os
      have g6 := fun d os => cell_gr x6 d os
      have g7 := fun d os => cell_gr x7 d os
      have g8 := fun d os => cell_gr x8 d os
      have g9 := fun d os => cell_gr x9 d os
      have g10 := fun d os => cell_gr x10 d os
      have g11 := fun d os => cell_gr x11 d os
      refine wp_region_gr mixed (by kernel_rfl) ?_
      repeat (first | go_big_quiet_step (exact Calls.gr_of (HStq.out _ _)) | simp only [Bool.not_true, Bool.not_false])
      refine wpQuiet_nil ?_
      intro _ hw'
      obtain ⟨⟨d, os⟩, rfl⟩ := hw'
      have HB10 := Aside0.mk (below_then HB9.out HB9.out.size (below_gr w9 d os))
      clear x0 x1 x2 x3 x4 x5 x6 x7 x8 x9 x10 x11 g0 g1 g2 g3 g4 g5 g6 g7 g8 g9 g10 g11
      generalize grow (wat w9 d) os = w10 at HB10 ⊢
      have hz := Z.out _ HB10.out
      have k0 : w10.cell? ⟨w.heap.size + 1, 0, none⟩ = some (.int .i64 0) := (blk_cell hz 0).trans rfl
      have k1 : w10.cell? ⟨w.heap.size + 1, 1, none⟩ = some (.int .i64 0) := (blk_cell hz 1).trans rfl
      have j0 := frozen_of_row w10 (w.heap.size + 1) 0 _ _ hz
      have j1 := frozen_of_row w10 (w.heap.size + 1) 1 _ _ hz
      have HZ := Aside0.mk hz
      clear hz
      go_wp2
      (try simp only [Exit.inBlock, Exit.then])
      refine bodyPost_ret (results_ctt rfl _ _ (w.heap.size + 1) 41 #[.int .i64 (o), .int .i64 (wantM true)] (0, 0) _ rfl ?_ hu38 rfl (by kernel_rfl)) rfl ?_
      ·exact two_set HZ.out _ _
      ·have e1 : nextT r o s hr ho hs c.f9 st true = (⟨o, wantM true⟩, true) := by unfold nextT; rw [if_neg HA.out]; rw [if_neg HBe.out]; rw [if_pos HC.out]
       rw [e1]
       exact ⟨rfl, ((below_then HB1.out (by rw [S1.out]; omega) HB10.out).setCell (p := ⟨w.heap.size + 1, 0, none⟩) (Nat.le_succ _) _).setCell (p := ⟨w.heap.size + 1, 1, none⟩) (Nat.le_succ _) _⟩
     ·have hS1 : decide ((st : Int) ≥ c.f9) = false := decide_eq_false hS
      have HC := Aside0.mk (show ¬ ((c.f9 > 0 ∧ covM hs (wantM true) = false) ∧ (st : Int) ≥ c.f9) from fun q => hS q.2)
      go_wp2_with fail
      obtain ⟨x0, x1, x2, x3, x4, x5, x6, x7, x8, x9, x10, x11⟩ := X.out _ HB9.out
      have g0 := fun d os => cell_gr x0 d os
      have g1 := fun d os => cell_gr x1 d os
      have g2 := fun d os => cell_gr x2 d os
      have g3 := fun d os => cell_gr x3 d os
      have g4 := fun d os => cell_gr x4 d os
      have g5 := fun d os => cell_gr x5 d os
      have g6 := fun d os => cell_gr x6 d os
      have g7 := fun d os => cell_gr x7 d os
      have g8 := fun d os => cell_gr x8 d os
      have g9 := fun d os => cell_gr x9 d os
      have g10 := fun d os => cell_gr x10 d os
      have g11 := fun d os => cell_gr x11 d os
      refine wp_region_gr mixed (by kernel_rfl) ?_
      repeat (first | go_big_quiet_step (exact Calls.gr_of (HStq.out _ _)) | simp only [Bool.not_true, Bool.not_false])
      refine wpQuiet_nil ?_
      intro _ hw'
      obtain ⟨⟨d, os⟩, rfl⟩ := hw'
      have HB10 := Aside0.mk (below_then HB9.out HB9.out.size (below_gr w9 d os))
      clear x0 x1 x2 x3 x4 x5 x6 x7 x8 x9 x10 x11 g0 g1 g2 g3 g4 g5 g6 g7 g8 g9 g10 g11
      generalize grow (wat w9 d) os = w10 at HB10 ⊢
      cases hD : covM ho (intM (wantM true)) with
      | false =>
       have HD := Aside0.mk hD
       rw [hD] at HCo
       clear hD
       go_wp2_with fail
       refine (HCo.out w10).mono ?_
       rintro e w11 ⟨rfl, hb⟩
       have HB11 := Aside0.mk (below_then HB10.out HB10.out.size hb)
       clear hb
       have hz := Z.out _ HB11.out
       have k0 : w11.cell? ⟨w.heap.size + 1, 0, none⟩ = some (.int .i64 0) := (blk_cell hz 0).trans rfl
       have k1 : w11.cell? ⟨w.heap.size + 1, 1, none⟩ = some (.int .i64 0) := (blk_cell hz 1).trans rfl
       have j0 := frozen_of_row w11 (w.heap.size + 1) 0 _ _ hz
       have j1 := frozen_of_row w11 (w.heap.size + 1) 1 _ _ hz
       have HZ := Aside0.mk hz
       clear hz
       go_wp2
       (try simp only [Exit.inBlock, Exit.then])
       refine bodyPost_ret (results_ctt rfl _ _ (w.heap.size + 1) 41 #[.int .i64 (o), .int .i64 (intM (wantM true))] (0, 0) _ rfl ?_ hu38 rfl (by kernel_rfl)) rfl ?_
       ·exact two_set HZ.out _ _
       ·have e1 : nextT r o s hr ho hs c.f9 st true = (⟨o, intM (wantM true)⟩, true) := by unfold nextT; rw [if_neg HA.out]; rw [if_neg HBe.out]; rw [if_neg HC.out]; rw [if_pos HD.out]
        rw [e1]
        exact ⟨rfl, ((below_then HB1.out (by rw [S1.out]; omega) HB11.out).setCell (p := ⟨w.heap.size + 1, 0, none⟩) (Nat.le_succ _) _).setCell (p := ⟨w.heap.size + 1, 1, none⟩) (Nat.le_succ _) _⟩
      | true =>
       have HD := Aside0.mk (show ¬ covM ho (intM (wantM true)) = false by rw [hD]; decide)
       rw [hD] at HCo
       clear hD
       go_wp2_with fail
       refine (HCo.out w10).mono ?_
       rintro e w11 ⟨rfl, hb⟩
       have HB11 := Aside0.mk (below_then HB10.out HB10.out.size hb)
       clear hb
       have hz := Z.out _ HB11.out
       have k0 : w11.cell? ⟨w.heap.size + 1, 0, none⟩ = some (.int .i64 0) := (blk_cell hz 0).trans rfl
       have k1 : w11.cell? ⟨w.heap.size + 1, 1, none⟩ = some (.int .i64 0) := (blk_cell hz 1).trans rfl
       have j0 := frozen_of_row w11 (w.heap.size + 1) 0 _ _ hz
       have j1 := frozen_of_row w11 (w.heap.size + 1) 1 _ _ hz
       have HZ := Aside0.mk hz
       clear hz
       go_wp2
       (try simp only [Exit.inBlock, Exit.then])
       refine bodyPost_ret (results_ctt rfl _ _ (w.heap.size + 1) 41 #[.int .i64 (s), .int .i64 (wantM true)] (0, 0) _ rfl ?_ hu38 rfl (by kernel_rfl)) rfl ?_
       ·exact two_set HZ.out _ _
       ·have e1 : nextT r o s hr ho hs c.f9 st true = (⟨s, wantM true⟩, true) := by unfold nextT; rw [if_neg HA.out]; rw [if_neg HBe.out]; rw [if_neg HC.out]; rw [if_neg HD.out]; rw [if_pos HE.out]
        rw [e1]
        exact ⟨rfl, ((below_then HB1.out (by rw [S1.out]; omega) HB11.out).setCell (p := ⟨w.heap.size + 1, 0, none⟩) (Nat.le_succ _) _).setCell (p := ⟨w.heap.size + 1, 1, none⟩) (Nat.le_succ _) _⟩
    ·have hG1 : decide (c.f9 > 0) = false := decide_eq_false hG
     have HC := Aside0.mk (show ¬ ((c.f9 > 0 ∧ covM hs (wantM true) = false) ∧ (st : Int) ≥ c.f9) from fun q => hG q.1.1)
     go_wp2_with fail
     obtain ⟨x0, x1, x2, x3, x4, x5, x6, x7, x8, x9, x10, x11⟩ := X.out _ HB9.out
     have g0 := fun d os => cell_gr x0 d os
     have g1 := fun d os => cell_gr x1 d os
     have g2 := fun d os => cell_gr x2 d os
     have g3 := fun d os => cell_gr x3 d os
     have g4 := fun d os => cell_gr x4 d os
     have g5 := fun d os => cell_gr x5 d os
     have g6 := fun d os => cell_gr x6 d os
     have g7 := fun d os => cell_gr x7 d os
     have g8 := fun d os => cell_gr x8 d os
     have g9 := fun d os => cell_gr x9 d os
     have g10 := fun d os => cell_gr x10 d os
     have g11 := fun d os => cell_gr x11 d os
     refine wp_region_gr mixed (by kernel_rfl) ?_
     repeat (first | go_big_quiet_step (exact Calls.gr_of (HStq.out _ _)) | simp only [Bool.not_true, Bool.not_false])
     refine wpQuiet_nil ?_
     intro _ hw'
     obtain ⟨⟨d, os⟩, rfl⟩ := hw'
     have HB10 := Aside0.mk (below_then HB9.out HB9.out.size (below_gr w9 d os))
     clear x0 x1 x2 x3 x4 x5 x6 x7 x8 x9 x10 x11 g0 g1 g2 g3 g4 g5 g6 g7 g8 g9 g10 g11
     generalize grow (wat w9 d) os = w10 at HB10 ⊢
     cases hD : covM ho (intM (wantM true)) with
     | false =>
      have HD := Aside0.mk hD
      rw [hD] at HCo
      clear hD
      go_wp2_with fail
      refine (HCo.out w10).mono ?_
      rintro e w11 ⟨rfl, hb⟩
      have HB11 := Aside0.mk (below_then HB10.out HB10.out.size hb)
      clear hb
      have hz := Z.out _ HB11.out
      have k0 : w11.cell? ⟨w.heap.size + 1, 0, none⟩ = some (.int .i64 0) := (blk_cell hz 0).trans rfl
      have k1 : w11.cell? ⟨w.heap.size + 1, 1, none⟩ = some (.int .i64 0) := (blk_cell hz 1).trans rfl
      have j0 := frozen_of_row w11 (w.heap.size + 1) 0 _ _ hz
      have j1 := frozen_of_row w11 (w.heap.size + 1) 1 _ _ hz
      have HZ := Aside0.mk hz
      clear hz
      go_wp2
      (try simp only [Exit.inBlock, Exit.then])
      refine bodyPost_ret (results_ctt rfl _ _ (w.heap.size + 1) 41 #[.int .i64 (o), .int .i64 (intM (wantM true))] (0, 0) _ rfl ?_ hu38 rfl (by kernel_rfl)) rfl ?_
      ·exact two_set HZ.out _ _
      ·have e1 : nextT r o s hr ho hs c.f9 st true = (⟨o, intM (wantM true)⟩, true) := by unfold nextT; rw [if_neg HA.out]; rw [if_neg HBe.out]; rw [if_neg HC.out]; rw [if_pos HD.out]
       rw [e1]
       exact ⟨rfl, ((below_then HB1.out (by rw [S1.out]; omega) HB11.out).setCell (p := ⟨w.heap.size + 1, 0, none⟩) (Nat.le_succ _) _).setCell (p := ⟨w.heap.size + 1, 1, none⟩) (Nat.le_succ _) _⟩
     | true =>
      have HD := Aside0.mk (show ¬ covM ho (intM (wantM true)) = false by rw [hD]; decide)
      rw [hD] at HCo
      clear hD
      go_wp2_with fail
      refine (HCo.out w10).mono ?_
      rintro e w11 ⟨rfl, hb⟩
      have HB11 := Aside0.mk (below_then HB10.out HB10.out.size hb)
      clear hb
      have hz := Z.out _ HB11.out
      have k0 : w11.cell? ⟨w.heap.size + 1, 0, none⟩ = some (.int .i64 0) := (blk_cell hz 0).trans rfl
      have k1 : w11.cell? ⟨w.heap.size + 1, 1, none⟩ = some (.int .i64 0) := (blk_cell hz 1).trans rfl
      have j0 := frozen_of_row w11 (w.heap.size + 1) 0 _ _ hz
      have j1 := frozen_of_row w11 (w.heap.size + 1) 1 _ _ hz
      have HZ := Aside0.mk hz
      clear hz
      go_wp2
      (try simp only [Exit.inBlock, Exit.then])
      refine bodyPost_ret (results_ctt rfl _ _ (w.heap.size + 1) 41 #[.int .i64 (s), .int .i64 (wantM true)] (0, 0) _ rfl ?_ hu38 rfl (by kernel_rfl)) rfl ?_
      ·exact two_set HZ.out _ _
      ·have e1 : nextT r o s hr ho hs c.f9 st true = (⟨s, wantM true⟩, true) := by unfold nextT; rw [if_neg HA.out]; rw [if_neg HBe.out]; rw [if_neg HC.out]; rw [if_neg HD.out]; rw [if_pos HE.out]
       rw [e1]
       exact ⟨rfl, ((below_then HB1.out (by rw [S1.out]; omega) HB11.out).setCell (p := ⟨w.heap.size + 1, 0, none⟩) (Nat.le_succ _) _).setCell (p := ⟨w.heap.size + 1, 1, none⟩) (Nat.le_succ _) _⟩
   | true =>
    have HE := Aside0.mk (show ¬ covM hs (wantM true) = false by rw [hE]; decide)
    rw [hE] at HCs
    clear hE
    go_wp2_with fail
    refine (HCs.out w8).mono ?_
    rintro e w9 ⟨rfl, hb⟩
    have HB9 := Aside0.mk (below_then HB8.out HB8.out.size hb)
    clear hb
    have HStq := Aside0.mk (fun d os => HSt.out (grow (wat w9 d) os) (below_then HB9.out HB9.out.size (below_gr w9 d os)))
    by_cases hG : c.f9 > 0
    ·have hG1 : decide (c.f9 > 0) = true := decide_eq_true hG
     by_cases hS : (st : Int) ≥ c.f9
     ·have hS1 : decide ((st : Int) ≥ c.f9) = true := decide_eq_true hS
      have HC := Aside0.mk (show ¬ ((c.f9 > 0 ∧ covM hs (wantM true) = false) ∧ (st : Int) ≥ c.f9) from fun q => HE.out q.1.2)
      go_wp2_with fail
      obtain ⟨x0, x1, x2, x3, x4, x5, x6, x7, x8, x9, x10, x11⟩ := X.out _ HB9.out
      have g0 := fun d os => cell_gr x0 d os
      have g1 := fun d os => cell_gr x1 d os
      have g2 := fun d os => cell_gr x2 d os
      have g3 := fun d os => cell_gr x3 d os
      have g4 := fun d os => cell_gr x4 d os
      have g5 := fun d os => cell_gr x5 d os
      have g6 := fun d os => cell_gr x6 d os
      have g7 := fun d os => cell_gr x7 d os
      have g8 := fun d os => cell_gr x8 d os
      have g9 := fun d os => cell_gr x9 d os
      have g10 := fun d os => cell_gr x10 d os
      have g11 := fun d os => cell_gr x11 d os
      refine wp_region_gr mixed (by kernel_rfl) ?_
      repeat (first | go_big_quiet_step (exact Calls.gr_of (HStq.out _ _)) | simp only [Bool.not_true, Bool.not_false])
      refine wpQuiet_nil ?_
      intro _ hw'
      obtain ⟨⟨d, os⟩, rfl⟩ := hw'
      have HB10 := Aside0.mk (below_then HB9.out HB9.out.size (below_gr w9 d os))
      clear x0 x1 x2 x3 x4 x5 x6 x7 x8 x9 x10 x11 g0 g1 g2 g3 g4 g5 g6 g7 g8 g9 g10 g11
      generalize grow (wat w9 d) os = w10 at HB10 ⊢
      cases hD : covM ho (intM (wantM true)) with
      | false =>
       have HD := Aside0.mk hD
       rw [hD] at HCo
       clear hD
       go_wp2_with fail
       refine (HCo.out w10).mono ?_
       rintro e w11 ⟨rfl, hb⟩
       have HB11 := Aside0.mk (below_then HB10.out HB10.out.size hb)
       clear hb
       have hz := Z.out _ HB11.out
       have k0 : w11.cell? ⟨w.heap.size + 1, 0, none⟩ = some (.int .i64 0) := (blk_cell hz 0).trans rfl
       have k1 : w11.cell? ⟨w.heap.size + 1, 1, none⟩ = some (.int .i64 0) := (blk_cell hz 1).trans rfl
       have j0 := frozen_of_row w11 (w.heap.size + 1) 0 _ _ hz
       have j1 := frozen_of_row w11 (w.heap.size + 1) 1 _ _ hz
       have HZ := Aside0.mk hz
       clear hz
       go_wp2
       (try simp only [Exit.inBlock, Exit.then])
       refine bodyPost_ret (results_ctt rfl _ _ (w.heap.size + 1) 41 #[.int .i64 (o), .int .i64 (intM (wantM true))] (0, 0) _ rfl ?_ hu38 rfl (by kernel_rfl)) rfl ?_
       ·exact two_set HZ.out _ _
       ·have e1 : nextT r o s hr ho hs c.f9 st true = (⟨o, intM (wantM true)⟩, true) := by unfold nextT; rw [if_neg HA.out]; rw [if_neg HBe.out]; rw [if_neg HC.out]; rw [if_pos HD.out]
        rw [e1]
        exact ⟨rfl, ((below_then HB1.out (by rw [S1.out]; omega) HB11.out).setCell (p := ⟨w.heap.size + 1, 0, none⟩) (Nat.le_succ _) _).setCell (p := ⟨w.heap.size + 1, 1, none⟩) (Nat.le_succ _) _⟩
      | true =>
       have HD := Aside0.mk (show ¬ covM ho (intM (wantM true)) = false by rw [hD]; decide)
       rw [hD] at HCo
       clear hD
       go_wp2_with fail
       refine (HCo.out w10).mono ?_
       rintro e w11 ⟨rfl, hb⟩
       have HB11 := Aside0.mk (below_then HB10.out HB10.out.size hb)
       clear hb
       have hz := Z.out _ HB11.out
       have k0 : w11.cell? ⟨w.heap.size + 1, 0, none⟩ = some (.int .i64 0) := (blk_cell hz 0).trans rfl
       have k1 : w11.cell? ⟨w.heap.size + 1, 1, none⟩ = some (.int .i64 0) := (blk_cell hz 1).trans rfl
       have j0 := frozen_of_row w11 (w.heap.size + 1) 0 _ _ hz
       have j1 := frozen_of_row w11 (w.heap.size + 1) 1 _ _ hz
       have HZ := Aside0.mk hz
       clear hz
       go_wp2
       (try simp only [Exit.inBlock, Exit.then])
       refine bodyPost_ret (results_ctt rfl _ _ (w.heap.size + 1) 41 #[.int .i64 (0), .int .i64 (0)] (0, 0) _ rfl ?_ hu38 rfl (by kernel_rfl)) rfl ?_
       ·exact two_set HZ.out _ _
       ·have e1 : nextT r o s hr ho hs c.f9 st true = (⟨0, 0⟩, false) := by unfold nextT; rw [if_neg HA.out]; rw [if_neg HBe.out]; rw [if_neg HC.out]; rw [if_neg HD.out]; rw [if_neg HE.out]
        rw [e1]
        exact ⟨rfl, ((below_then HB1.out (by rw [S1.out]; omega) HB11.out).setCell (p := ⟨w.heap.size + 1, 0, none⟩) (Nat.le_succ _) _).setCell (p := ⟨w.heap.size + 1, 1, none⟩) (Nat.le_succ _) _⟩
     ·have hS1 : decide ((st : Int) ≥ c.f9) = false := decide_eq_false hS
      have HC := Aside0.mk (show ¬ ((c.f9 > 0 ∧ covM hs (wantM true) = false) ∧ (st : Int) ≥ c.f9) from fun q => hS q.2)
      go_wp2_with fail
      obtain ⟨x0, x1, x2, x3, x4, x5, x6, x7, x8, x9, x10, x11⟩ := X.out _ HB9.out
      have g0 := fun d os => cell_gr x0 d os
      have g1 := fun d os => cell_gr x1 d os
      have g2 := fun d os => cell_gr x2 d os
      have g3 := fun d os => cell_gr x3 d os
      have g4 := fun d os => cell_gr x4 d os
      have g5 := fun d os => cell_gr x5 d os
      have g6 := fun d os => cell_gr x6 d os
      have g7 := fun d os => cell_gr x7 d os
      have g8 := fun d os => cell_gr x8 d os
      have g9 := fun d os => cell_gr x9 d os
      have g10 := fun d os => cell_gr x10 d os
      have g11 := fun d os => cell_gr x11 d os
      refine wp_region_gr mixed (by kernel_rfl) ?_
      repeat (first | go_big_quiet_step (exact Calls.gr_of (HStq.out _ _)) | simp only [Bool.not_true, Bool.not_false])
      refine wpQuiet_nil ?_
      intro _ hw'
      obtain ⟨⟨d, os⟩, rfl⟩ := hw'
      have HB10 := Aside0.mk (below_then HB9.out HB9.out.size (below_gr w9 d os))
      clear x0 x1 x2 x3 x4 x5 x6 x7 x8 x9 x10 x11 g0 g1 g2 g3 g4 g5 g6 g7 g8 g9 g10 g11
      generalize grow (wat w9 d) os = w10 at HB10 ⊢
      cases hD : covM ho (intM (wantM true)) with
      | false =>
       have HD := Aside0.mk hD
       rw [hD] at HCo
       clear hD
       go_wp2_with fail
       refine (HCo.out w10).mono ?_
       rintro e w11 ⟨rfl, hb⟩
       have HB11 := Aside0.mk (below_then HB10.out HB10.out.size hb)
       clear hb
       have hz := Z.out _ HB11.out
       have k0 : w11.cell? ⟨w.heap.size + 1, 0, none⟩ = some (.int .i64 0) := (blk_cell hz 0).trans rfl
       have k1 : w11.cell? ⟨w.heap.size + 1, 1, none⟩ = some (.int .i64 0) := (blk_cell hz 1).trans rfl
       have j0 := frozen_of_row w11 (w.heap.size + 1) 0 _ _ hz
       have j1 := frozen_of_row w11 (w.heap.size + 1) 1 _ _ hz
       have HZ := Aside0.mk hz
       clear hz
       go_wp2
       (try simp only [Exit.inBlock, Exit.then])
       refine bodyPost_ret (results_ctt rfl _ _ (w.heap.size + 1) 41 #[.int .i64 (o), .int .i64 (intM (wantM true))] (0, 0) _ rfl ?_ hu38 rfl (by kernel_rfl)) rfl ?_
       ·exact two_set HZ.out _ _
       ·have e1 : nextT r o s hr ho hs c.f9 st true = (⟨o, intM (wantM true)⟩, true) := by unfold nextT; rw [if_neg HA.out]; rw [if_neg HBe.out]; rw [if_neg HC.out]; rw [if_pos HD.out]
        rw [e1]
        exact ⟨rfl, ((below_then HB1.out (by rw [S1.out]; omega) HB11.out).setCell (p := ⟨w.heap.size + 1, 0, none⟩) (Nat.le_succ _) _).setCell (p := ⟨w.heap.size + 1, 1, none⟩) (Nat.le_succ _) _⟩
      | true =>
       have HD := Aside0.mk (show ¬ covM ho (intM (wantM true)) = false by rw [hD]; decide)
       rw [hD] at HCo
       clear hD
       go_wp2_with fail
       refine (HCo.out w10).mono ?_
       rintro e w11 ⟨rfl, hb⟩
       have HB11 := Aside0.mk (below_then HB10.out HB10.out.size hb)
       clear hb
       have hz := Z.out _ HB11.out
       have k0 : w11.cell? ⟨w.heap.size + 1, 0, none⟩ = some (.int .i64 0) := (blk_cell hz 0).trans rfl
       have k1 : w11.cell? ⟨w.heap.size + 1, 1, none⟩ = some (.int .i64 0) := (blk_cell hz 1).trans rfl
       have j0 := frozen_of_row w11 (w.heap.size + 1) 0 _ _ hz
       have j1 := frozen_of_row w11 (w.heap.size + 1) 1 _ _ hz
       have HZ := Aside0.mk hz
       clear hz
       go_wp2
       (try simp only [Exit.inBlock, Exit.then])
       refine bodyPost_ret (results_ctt rfl _ _ (w.heap.size + 1) 41 #[.int .i64 (0), .int .i64 (0)] (0, 0) _ rfl ?_ hu38 rfl (by kernel_rfl)) rfl ?_
       ·exact two_set HZ.out _ _
       ·have e1 : nextT r o s hr ho hs c.f9 st true = (⟨0, 0⟩, false) := by unfold nextT; rw [if_neg HA.out]; rw [if_neg HBe.out]; rw [if_neg HC.out]; rw [if_neg HD.out]; rw [if_neg HE.out]
        rw [e1]
        exact ⟨rfl, ((below_then HB1.out (by rw [S1.out]; omega) HB11.out).setCell (p := ⟨w.heap.size + 1, 0, none⟩) (Nat.le_succ _) _).setCell (p := ⟨w.heap.size + 1, 1, none⟩) (Nat.le_succ _) _⟩
    ·have hG1 : decide (c.f9 > 0) = false := decide_eq_false hG
     have HC := Aside0.mk (show ¬ ((c.f9 > 0 ∧ covM hs (wantM true) = false) ∧ (st : Int) ≥ c.f9) from fun q => hG q.1.1)
     go_wp2_with fail
     obtain ⟨x0, x1, x2, x3, x4, x5, x6, x7, x8, x9, x10, x11⟩ := X.out _ HB9.out
     have g0 := fun d os => cell_gr x0 d os
     have g1 := fun d os => cell_gr x1 d os
     have g2 := fun d os => cell_gr x2 d os
     have g3 := fun d os => cell_gr x3 d os
     have g4 := fun d os => cell_gr x4 d os
     have g5 := fun d os => cell_gr x5 d os
     have g6 := fun d os => cell_gr x6 d os
     have g7 := fun d os => cell_gr x7 d os
     have g8 := fun d os => cell_gr x8 d os
     have g9 := fun d os => cell_gr x9 d os
     have g10 := fun d os => cell_gr x10 d os
     have g11 := fun d os => cell_gr x11 d os
     refine wp_region_gr mixed (by kernel_rfl) ?_
     repeat (first | go_big_quiet_step (exact Calls.gr_of (HStq.out _ _)) | simp only [Bool.not_true, Bool.not_false])
     refine wpQuiet_nil ?_
     intro _ hw'
     obtain ⟨⟨d, os⟩, rfl⟩ := hw'
     have HB10 := Aside0.mk (below_then HB9.out HB9.out.size (below_gr w9 d os))
     clear x0 x1 x2 x3 x4 x5 x6 x7 x8 x9 x10 x11 g0 g1 g2 g3 g4 g5 g6 g7 g8 g9 g10 g11
     generalize grow (wat w9 d) os = w10 at HB10 ⊢
     cases hD : covM ho (intM (wantM true)) with
     | false =>
      have HD := Aside0.mk hD
      rw [hD] at HCo
      clear hD
      go_wp2_with fail
      refine (HCo.out w10).mono ?_
      rintro e w11 ⟨rfl, hb⟩
      have HB11 := Aside0.mk (below_then HB10.out HB10.out.size hb)
      clear hb
      have hz := Z.out _ HB11.out
      have k0 : w11.cell? ⟨w.heap.size + 1, 0, none⟩ = some (.int .i64 0) := (blk_cell hz 0).trans rfl
      have k1 : w11.cell? ⟨w.heap.size + 1, 1, none⟩ = some (.int .i64 0) := (blk_cell hz 1).trans rfl
      have j0 := frozen_of_row w11 (w.heap.size + 1) 0 _ _ hz
      have j1 := frozen_of_row w11 (w.heap.size + 1) 1 _ _ hz
      have HZ := Aside0.mk hz
      clear hz
      go_wp2
      (try simp only [Exit.inBlock, Exit.then])
      refine bodyPost_ret (results_ctt rfl _ _ (w.heap.size + 1) 41 #[.int .i64 (o), .int .i64 (intM (wantM true))] (0, 0) _ rfl ?_ hu38 rfl (by kernel_rfl)) rfl ?_
      ·exact two_set HZ.out _ _
      ·have e1 : nextT r o s hr ho hs c.f9 st true = (⟨o, intM (wantM true)⟩, true) := by unfold nextT; rw [if_neg HA.out]; rw [if_neg HBe.out]; rw [if_neg HC.out]; rw [if_pos HD.out]
       rw [e1]
       exact ⟨rfl, ((below_then HB1.out (by rw [S1.out]; omega) HB11.out).setCell (p := ⟨w.heap.size + 1, 0, none⟩) (Nat.le_succ _) _).setCell (p := ⟨w.heap.size + 1, 1, none⟩) (Nat.le_succ _) _⟩
     | true =>
      have HD := Aside0.mk (show ¬ covM ho (intM (wantM true)) = false by rw [hD]; decide)
      rw [hD] at HCo
      clear hD
      go_wp2_with fail
      refine (HCo.out w10).mono ?_
      rintro e w11 ⟨rfl, hb⟩
      have HB11 := Aside0.mk (below_then HB10.out HB10.out.size hb)
      clear hb
      have hz := Z.out _ HB11.out
      have k0 : w11.cell? ⟨w.heap.size + 1, 0, none⟩ = some (.int .i64 0) := (blk_cell hz 0).trans rfl
      have k1 : w11.cell? ⟨w.heap.size + 1, 1, none⟩ = some (.int .i64 0) := (blk_cell hz 1).trans rfl
      have j0 := frozen_of_row w11 (w.heap.size + 1) 0 _ _ hz
      have j1 := frozen_of_row w11 (w.heap.size + 1) 1 _ _ hz
      have HZ := Aside0.mk hz
      clear hz
      go_wp2
      (try simp only [Exit.inBlock, Exit.then])
      refine bodyPost_ret (results_ctt rfl _ _ (w.heap.size + 1) 41 #[.int .i64 (0), .int .i64 (0)] (0, 0) _ rfl ?_ hu38 rfl (by kernel_rfl)) rfl ?_
      ·exact two_set HZ.out _ _
      ·have e1 : nextT r o s hr ho hs c.f9 st true = (⟨0, 0⟩, false) := by unfold nextT; rw [if_neg HA.out]; rw [if_neg HBe.out]; rw [if_neg HC.out]; rw [if_neg HD.out]; rw [if_neg HE.out]
       rw [e1]
       exact ⟨rfl, ((below_then HB1.out (by rw [S1.out]; omega) HB11.out).setCell (p := ⟨w.heap.size + 1, 0, none⟩) (Nat.le_succ _) _).setCell (p := ⟨w.heap.size + 1, 1, none⟩) (Nat.le_succ _) _⟩
set_option maxHeartbeats 16000000 in
set_option maxRecDepth 100000 in
theorem NextTR_false (h : IsTR w b F ls most) (hi : LInv ls) (hn : ls.length ≤ 10000) (c : Cf) (who a : Int) (lv pa : Int → Int)
  (hlv : ∀ j : Nat, j < ls.length → ltkref1_Level.f 20 c.f0 c.f1 c.f2 c.f3 c.f4 c.f5 c.f6 c.f7 c.f8 c.f9 c.f10 c.f11 (j : Int) = some (lv j)) (hpa : ∀ j : Nat, j < ls.length → ltkref1_Parent.f 20 c.f0 c.f1 c.f2 c.f3 c.f4 c.f5 c.f6 c.f7 c.f8 c.f9 c.f10 c.f11 (j : Int) = some (pa j))
  (r o s : Int) (hp : ltkref1_Path.f 20 c.f0 c.f1 c.f2 c.f3 c.f4 c.f5 c.f6 c.f7 c.f8 c.f9 c.f10 c.f11 a = some (r, o, s, 0)) (hr ho hs : Int) (st : Nat) (er : holdsT ls who r = hr) (eo : holdsT ls who o = ho) (es : holdsT ls who s = hs) (est : stripesT ls who lv pa o = st) :
  Calls Tryz.prog 14 #[.agg #[.int .i64 c.f0, .int .i64 c.f1, .int .i64 c.f2, .int .i64 c.f3, .int .i64 c.f4, .int .i64 c.f5, .int .i64 c.f6, .int .i64 c.f7, .int .i64 c.f8, .int .i64 c.f9, .int .i64 c.f10, .int .i64 c.f11], .pointer (some ⟨b, 0, none⟩), .int .i64 who, .int .i64 a, .bool false] w fun e w' =>
   e = .returned (.tuple #[.agg #[.int .i64 (nextT r o s hr ho hs c.f9 st false).1.f0, .int .i64 (nextT r o s hr ho hs c.f9 st false).1.f1], .bool (nextT r o s hr ho hs c.f9 st false).2, .int .i64 0]) ∧ Below w.heap.size w w' := by
 have mixed : Tryz.prog.follows Departure.mixedOrders = true := by kernel_rfl
 have hu41 := Tryz.underlying23
 have hu38 := Tryz.underlying41
 have HB1 := Aside0.mk (below_alloc (below_alloc (Below.refl w.heap.size w) (.cells #[.int .i64 c.f0, .int .i64 c.f1, .int .i64 c.f2, .int .i64 c.f3, .int .i64 c.f4, .int .i64 c.f5, .int .i64 c.f6, .int .i64 c.f7, .int .i64 c.f8, .int .i64 c.f9, .int .i64 c.f10, .int .i64 c.f11] 23)) (.cells #[.int .i64 0, .int .i64 0] 41))
 have e1 : (w.alloc (.cells #[.int .i64 c.f0, .int .i64 c.f1, .int .i64 c.f2, .int .i64 c.f3, .int .i64 c.f4, .int .i64 c.f5, .int .i64 c.f6, .int .i64 c.f7, .int .i64 c.f8, .int .i64 c.f9, .int .i64 c.f10, .int .i64 c.f11] 23)).heap.size = w.heap.size + 1 := by simp
 have hx := blk_new w (.cells #[.int .i64 c.f0, .int .i64 c.f1, .int .i64 c.f2, .int .i64 c.f3, .int .i64 c.f4, .int .i64 c.f5, .int .i64 c.f6, .int .i64 c.f7, .int .i64 c.f8, .int .i64 c.f9, .int .i64 c.f10, .int .i64 c.f11] 23)
 have hx2 := blk_alloc hx (.cells #[.int .i64 0, .int .i64 0] 41)
 have hz := blk_new (w.alloc (.cells #[.int .i64 c.f0, .int .i64 c.f1, .int .i64 c.f2, .int .i64 c.f3, .int .i64 c.f4, .int .i64 c.f5, .int .i64 c.f6, .int .i64 c.f7, .int .i64 c.f8, .int .i64 c.f9, .int .i64 c.f10, .int .i64 c.f11] 23)) (.cells #[.int .i64 0, .int .i64 0] 41)
 rw [e1] at hz
 obtain ⟨w1, hw1⟩ : ∃ W, (w.alloc (.cells #[.int .i64 c.f0, .int .i64 c.f1, .int .i64 c.f2, .int .i64 c.f3, .int .i64 c.f4, .int .i64 c.f5, .int .i64 c.f6, .int .i64 c.f7, .int .i64 c.f8, .int .i64 c.f9, .int .i64 c.f10, .int .i64 c.f11] 23)).alloc (.cells #[.int .i64 0, .int .i64 0] 41) = W := ⟨_, rfl⟩
 have HW1 := Aside0.mk hw1
 rw [hw1] at HB1 hx2 hz
 have S1 := Aside0.mk (show w1.heap.size = w.heap.size + 2 by rw [← hw1]; simp)
 have Z := Aside0.mk (fun W (hb : Below w1.heap.size w1 W) => (hb.block (w.heap.size + 1) (by rw [S1.out]; omega)).trans hz)
 have X := Aside0.mk (fun W (hb : Below w1.heap.size w1 W) => (show CfAt c w.heap.size W from cf_at ((hb.block w.heap.size (by rw [S1.out]; omega)).trans hx2)))
 have HT := Aside0.mk (h.below HB1.out)
 have HP := Aside0.mk (path_calls c a r o s 0 w1 hp)
 have HHr := Aside0.mk (fun W (hb : Below w1.heap.size w1 W) => (HoldsTR_ (HT.out.below hb) who r).mono fun e w' ⟨q1, q2⟩ => (show e = Ending.returned (.int .i64 (holdsT ls who r)) ∧ Below W.heap.size W w' from ⟨q1, by rw [q2]; exact Below.refl _ _⟩))
 have HHo := Aside0.mk (fun W (hb : Below w1.heap.size w1 W) => (HoldsTR_ (HT.out.below hb) who o).mono fun e w' ⟨q1, q2⟩ => (show e = Ending.returned (.int .i64 (holdsT ls who o)) ∧ Below W.heap.size W w' from ⟨q1, by rw [q2]; exact Below.refl _ _⟩))
 have HHs := Aside0.mk (fun W (hb : Below w1.heap.size w1 W) => (HoldsTR_ (HT.out.below hb) who s).mono fun e w' ⟨q1, q2⟩ => (show e = Ending.returned (.int .i64 (holdsT ls who s)) ∧ Below W.heap.size W w' from ⟨q1, by rw [q2]; exact Below.refl _ _⟩))
 have HSt := Aside0.mk (fun W (hb : Below w1.heap.size w1 W) => StripesTR_ (HT.out.below hb) hn c who o lv pa hlv hpa)
 have mr := told_md_T hi who r
 have mo := told_md_T hi who o
 have ms := told_md_T hi who s
 rw [er] at HHr mr
 rw [eo] at HHo mo
 rw [es] at HHs ms
 rw [est] at HSt
 have MO := Aside0.mk mo
 have HIn := Aside0.mk (fun W => Intent_R (wantM false) W (want_md false).1)
 have HCr := Aside0.mk (fun W => Covers_R hr (intM (wantM false)) W mr (want_md false).2)
 have HCo := Aside0.mk (fun W => Covers_R ho (intM (wantM false)) W mo (want_md false).2)
 have HCs := Aside0.mk (fun W => Covers_R hs (wantM false) W ms (want_md false).1)
 have HRd := Aside0.mk (fun W => Reads_R ho W mo)
 have HWr := Aside0.mk (fun W => Writes_R ho W)
 have eW : (if false = true then (5 : Int) else 3) = wantM false := rfl
 clear h hi hn hlv hpa hp er eo es est mr mo ms hx hx2 hz HT hw1 eW
 go_enter Tryz.func14, Tryz.ntmps14
 go_wp2_with fail
 simp only [HW1.out]
 refine HP.out.mono ?_
 rintro e w2 ⟨rfl, hb⟩
 have HB2 := Aside0.mk hb
 clear hb
 go_wp2_with fail
 refine (HIn.out w2).mono ?_
 rintro e w3 ⟨rfl, hb⟩
 have HB3 := Aside0.mk (below_then HB2.out HB2.out.size hb)
 clear hb
 go_wp2_with fail
 refine (HHr.out w3 HB3.out).mono ?_
 rintro e w4 ⟨rfl, hb⟩
 have HB4 := Aside0.mk (below_then HB3.out HB3.out.size hb)
 clear hb
 cases hA : covM hr (intM (wantM false)) with
 | false =>
  have HA := Aside0.mk hA
  rw [hA] at HCr
  clear hA
  go_wp2_with fail
  refine (HCr.out w4).mono ?_
  rintro e w5 ⟨rfl, hb⟩
  have HB5 := Aside0.mk (below_then HB4.out HB4.out.size hb)
  clear hb
  have hz := Z.out _ HB5.out
  have k0 : w5.cell? ⟨w.heap.size + 1, 0, none⟩ = some (.int .i64 0) := (blk_cell hz 0).trans rfl
  have k1 : w5.cell? ⟨w.heap.size + 1, 1, none⟩ = some (.int .i64 0) := (blk_cell hz 1).trans rfl
  have j0 := frozen_of_row w5 (w.heap.size + 1) 0 _ _ hz
  have j1 := frozen_of_row w5 (w.heap.size + 1) 1 _ _ hz
  have HZ := Aside0.mk hz
  clear hz
  go_wp2
  (try simp only [Exit.inBlock, Exit.then])
  refine bodyPost_ret (results_ctt rfl _ _ (w.heap.size + 1) 41 #[.int .i64 (r), .int .i64 (intM (wantM false))] (0, 0) _ rfl ?_ hu38 rfl (by kernel_rfl)) rfl ?_
  ·exact two_set HZ.out _ _
  ·have e1 : nextT r o s hr ho hs c.f9 st false = (⟨r, intM (wantM false)⟩, true) := by unfold nextT; rw [if_pos HA.out]
   rw [e1]
   exact ⟨rfl, ((below_then HB1.out (by rw [S1.out]; omega) HB5.out).setCell (p := ⟨w.heap.size + 1, 0, none⟩) (Nat.le_succ _) _).setCell (p := ⟨w.heap.size + 1, 1, none⟩) (Nat.le_succ _) _⟩
 | true =>
  have HA := Aside0.mk (show ¬ covM hr (intM (wantM false)) = false by rw [hA]; decide)
  rw [hA] at HCr
  clear hA
  go_wp2_with fail
  refine (HCr.out w4).mono ?_
  rintro e w5 ⟨rfl, hb⟩
  have HB5 := Aside0.mk (below_then HB4.out HB4.out.size hb)
  clear hb
  go_wp2_with fail
  refine (HHo.out w5 HB5.out).mono ?_
  rintro e w6 ⟨rfl, hb⟩
  have HB6 := Aside0.mk (below_then HB5.out HB5.out.size hb)
  clear hb
  cases hQ : redM ho with
  | true =>
   have HBe := Aside0.mk (show enoM ho false = true by rw [eno_ff MO.out, hQ]; rfl)
   rw [hQ] at HRd
   clear hQ
   go_wp2_with fail
   refine (HRd.out w6).mono ?_
   rintro e w7 ⟨rfl, hb⟩
   have HB7 := Aside0.mk (below_then HB6.out HB6.out.size hb)
   clear hb
   have hz := Z.out _ HB7.out
   have k0 : w7.cell? ⟨w.heap.size + 1, 0, none⟩ = some (.int .i64 0) := (blk_cell hz 0).trans rfl
   have k1 : w7.cell? ⟨w.heap.size + 1, 1, none⟩ = some (.int .i64 0) := (blk_cell hz 1).trans rfl
   have j0 := frozen_of_row w7 (w.heap.size + 1) 0 _ _ hz
   have j1 := frozen_of_row w7 (w.heap.size + 1) 1 _ _ hz
   have HZ := Aside0.mk hz
   clear hz
   go_wp2
   (try simp only [Exit.inBlock, Exit.then])
   refine bodyPost_ret (results_ctt rfl _ _ (w.heap.size + 1) 41 #[.int .i64 (0), .int .i64 (0)] (0, 0) _ rfl ?_ hu38 rfl (by kernel_rfl)) rfl ?_
   ·exact two_set HZ.out _ _
   ·have e1 : nextT r o s hr ho hs c.f9 st false = (⟨0, 0⟩, false) := by unfold nextT; rw [if_neg HA.out]; rw [if_pos HBe.out]
    rw [e1]
    exact ⟨rfl, ((below_then HB1.out (by rw [S1.out]; omega) HB7.out).setCell (p := ⟨w.heap.size + 1, 0, none⟩) (Nat.le_succ _) _).setCell (p := ⟨w.heap.size + 1, 1, none⟩) (Nat.le_succ _) _⟩
  | false =>
   have HQ := Aside0.mk hQ
   rw [hQ] at HRd
   clear hQ
   go_wp2_with fail
   refine (HRd.out w6).mono ?_
   rintro e w7 ⟨rfl, hb⟩
   have HB7 := Aside0.mk (below_then HB6.out HB6.out.size hb)
   clear hb
   cases hB : (ho == 5) with
   | true =>
    have HBe := Aside0.mk (show enoM ho false = true by rw [eno_ff MO.out, hB]; simp)
    rw [hB] at HWr
    clear hB
    go_wp2_with fail
    refine (HWr.out w7).mono ?_
    rintro e w8 ⟨rfl, hb⟩
    have HB8 := Aside0.mk (below_then HB7.out HB7.out.size hb)
    clear hb
    have hz := Z.out _ HB8.out
    have k0 : w8.cell? ⟨w.heap.size + 1, 0, none⟩ = some (.int .i64 0) := (blk_cell hz 0).trans rfl
    have k1 : w8.cell? ⟨w.heap.size + 1, 1, none⟩ = some (.int .i64 0) := (blk_cell hz 1).trans rfl
    have j0 := frozen_of_row w8 (w.heap.size + 1) 0 _ _ hz
    have j1 := frozen_of_row w8 (w.heap.size + 1) 1 _ _ hz
    have HZ := Aside0.mk hz
    clear hz
    go_wp2
    (try simp only [Exit.inBlock, Exit.then])
    refine bodyPost_ret (results_ctt rfl _ _ (w.heap.size + 1) 41 #[.int .i64 (0), .int .i64 (0)] (0, 0) _ rfl ?_ hu38 rfl (by kernel_rfl)) rfl ?_
    ·exact two_set HZ.out _ _
    ·have e1 : nextT r o s hr ho hs c.f9 st false = (⟨0, 0⟩, false) := by unfold nextT; rw [if_neg HA.out]; rw [if_pos HBe.out]
     rw [e1]
     exact ⟨rfl, ((below_then HB1.out (by rw [S1.out]; omega) HB8.out).setCell (p := ⟨w.heap.size + 1, 0, none⟩) (Nat.le_succ _) _).setCell (p := ⟨w.heap.size + 1, 1, none⟩) (Nat.le_succ _) _⟩
   | false =>
    have HBe := Aside0.mk (show ¬ enoM ho false = true by rw [eno_ff MO.out, hB, HQ.out]; decide)
    rw [hB] at HWr
    clear hB
    go_wp2_with fail
    refine (HWr.out w7).mono ?_
    rintro e w8 ⟨rfl, hb⟩
    have HB8 := Aside0.mk (below_then HB7.out HB7.out.size hb)
    clear hb
    go_wp2_with fail
    refine (HHs.out w8 HB8.out).mono ?_
    rintro e w9 ⟨rfl, hb⟩
    have HB9 := Aside0.mk (below_then HB8.out HB8.out.size hb)
    clear hb
    cases hE : covM hs (wantM false) with
    | false =>
     have HE := Aside0.mk hE
     rw [hE] at HCs
     clear hE
     go_wp2_with fail
     refine (HCs.out w9).mono ?_
     rintro e w10 ⟨rfl, hb⟩
     have HB10 := Aside0.mk (below_then HB9.out HB9.out.size hb)
     clear hb
     have HStq := Aside0.mk (fun d os => HSt.out (grow (wat w10 d) os) (below_then HB10.out HB10.out.size (below_gr w10 d os)))
     by_cases hG : c.f9 > 0
     ·have hG1 : decide (c.f9 > 0) = true := decide_eq_true hG
      by_cases hS : (st : Int) ≥ c.f9
      ·have hS1 : decide ((st : Int) ≥ c.f9) = true := decide_eq_true hS
       have HC := Aside0.mk (show (c.f9 > 0 ∧ covM hs (wantM false) = false) ∧ (st : Int) ≥ c.f9 from ⟨⟨hG, HE.out⟩, hS⟩)
       go_wp2_with fail
       obtain ⟨x0, x1, x2, x3, x4, x5, x6, x7, x8, x9, x10, x11⟩ := X.out _ HB10.out
       have g0 := fun d os => cell_gr x0 d os
       have g1 := fun d os => cell_gr x1 d os
       have g2 := fun d os => cell_gr x2 d os
       have g3 := fun d os => cell_gr x3 d os
       have g4 := fun d os => cell_gr x4 d os
       have g5 := fun d os => cell_gr x5 d os
       have g6 := fun d os => cell_gr x6 d os
       have g7 := fun d os => cell_gr x7 d os
       have g8 := fun d os => cell_gr x8 d os
       have g9 := fun d os => cell_gr x9 d os
       have g10 := fun d os => cell_gr x10 d os
       have g11 := fun d os => cell_gr x11 d os
       refine wp_region_gr mixed (by kernel_rfl) ?_
       repeat (first | go_big_quiet_step (exact Calls.gr_of (HStq.out _ _)) | simp only [Bool.not_true, Bool.not_false])
       refine wpQuiet_nil ?_
       intro _ hw'
       obtain ⟨⟨d, os⟩, rfl⟩ := hw'
       have HB11 := Aside0.mk (below_then HB10.out HB10.out.size (below_gr w10 d os))
       clear x0 x1 x2 x3 x4 x5 x6 x7 x8 x9 x10 x11 g0 g1 g2 g3 g4 g5 g6 g7 g8 g9 g10 g11
       generalize grow (wat w10 d) os = w11 at HB11 ⊢
       have hz := Z.out _ HB11.out
       have k0 : w11.cell? ⟨w.heap.size + 1, 0, none⟩ = some (.int .i64 0) := (blk_cell hz 0).trans rfl
       have k1 : w11.cell? ⟨w.heap.size + 1, 1, none⟩ = some (.int .i64 0) := (blk_cell hz 1).trans rfl
       have j0 := frozen_of_row w11 (w.heap.size + 1) 0 _ _ hz
       have j1 := frozen_of_row w11 (w.heap.size + 1) 1 _ _ hz
       have HZ := Aside0.mk hz
       clear hz
       go_wp2
       (try simp only [Exit.inBlock, Exit.then])
       refine bodyPost_ret (results_ctt rfl _ _ (w.heap.size + 1) 41 #[.int .i64 (o), .int .i64 (wantM false)] (0, 0) _ rfl ?_ hu38 rfl (by kernel_rfl)) rfl ?_
       ·exact two_set HZ.out _ _
       ·have e1 : nextT r o s hr ho hs c.f9 st false = (⟨o, wantM false⟩, true) := by unfold nextT; rw [if_neg HA.out]; rw [if_neg HBe.out]; rw [if_pos HC.out]
        rw [e1]
        exact ⟨rfl, ((below_then HB1.out (by rw [S1.out]; omega) HB11.out).setCell (p := ⟨w.heap.size + 1, 0, none⟩) (Nat.le_succ _) _).setCell (p := ⟨w.heap.size + 1, 1, none⟩) (Nat.le_succ _) _⟩
      ·have hS1 : decide ((st : Int) ≥ c.f9) = false := decide_eq_false hS
       have HC := Aside0.mk (show ¬ ((c.f9 > 0 ∧ covM hs (wantM false) = false) ∧ (st : Int) ≥ c.f9) from fun q => hS q.2)
       go_wp2_with fail
       obtain ⟨x0, x1, x2, x3, x4, x5, x6, x7, x8, x9, x10, x11⟩ := X.out _ HB10.out
       have g0 := fun d os => cell_gr x0 d os
       have g1 := fun d os => cell_gr x1 d os
       have g2 := fun d os => cell_gr x2 d os
       have g3 := fun d os => cell_gr x3 d os
       have g4 := fun d os => cell_gr x4 d os
       have g5 := fun d os => cell_gr x5 d os
       have g6 := fun d os => cell_gr x6 d os
       have g7 := fun d os => cell_gr x7 d os
       have g8 := fun d os => cell_gr x8 d os
       have g9 := fun d os => cell_gr x9 d os
       have g10 := fun d os => cell_gr x10 d os
       have g11 := fun d os => cell_gr x11 d os
       refine wp_region_gr mixed (by kernel_rfl) ?_
       repeat (first | go_big_quiet_step (exact Calls.gr_of (HStq.out _ _)) | simp only [Bool.not_true, Bool.not_false])
       refine wpQuiet_nil ?_
       intro _ hw'
       obtain ⟨⟨d, os⟩, rfl⟩ := hw'
       have HB11 := Aside0.mk (below_then HB10.out HB10.out.size (below_gr w10 d os))
       clear x0 x1 x2 x3 x4 x5 x6 x7 x8 x9 x10 x11 g0 g1 g2 g3 g4 g5 g6 g7 g8 g9 g10 g11
       generalize grow (wat w10 d) os = w11 at HB11 ⊢
       cases hD : covM ho (intM (wantM false)) with
       | false =>
        have HD := Aside0.mk hD
        rw [hD] at HCo
        clear hD
        go_wp2_with fail
        refine (HCo.out w11).mono ?_
        rintro e w12 ⟨rfl, hb⟩
        have HB12 := Aside0.mk (below_then HB11.out HB11.out.size hb)
        clear hb
        have hz := Z.out _ HB12.out
        have k0 : w12.cell? ⟨w.heap.size + 1, 0, none⟩ = some (.int .i64 0) := (blk_cell hz 0).trans rfl
        have k1 : w12.cell? ⟨w.heap.size + 1, 1, none⟩ = some (.int .i64 0) := (blk_cell hz 1).trans rfl
        have j0 := frozen_of_row w12 (w.heap.size + 1) 0 _ _ hz
        have j1 := frozen_of_row w12 (w.heap.size + 1) 1 _ _ hz
        have HZ := Aside0.mk hz
        clear hz
        go_wp2
        (try simp only [Exit.inBlock, Exit.then])
        refine bodyPost_ret (results_ctt rfl _ _ (w.heap.size + 1) 41 #[.int .i64 (o), .int .i64 (intM (wantM false))] (0, 0) _ rfl ?_ hu38 rfl (by kernel_rfl)) rfl ?_
        ·exact two_set HZ.out _ _
        ·have e1 : nextT r o s hr ho hs c.f9 st false = (⟨o, intM (wantM false)⟩, true) := by unfold nextT; rw [if_neg HA.out]; rw [if_neg HBe.out]; rw [if_neg HC.out]; rw [if_pos HD.out]
         rw [e1]
         exact ⟨rfl, ((below_then HB1.out (by rw [S1.out]; omega) HB12.out).setCell (p := ⟨w.heap.size + 1, 0, none⟩) (Nat.le_succ _) _).setCell (p := ⟨w.heap.size + 1, 1, none⟩) (Nat.le_succ _) _⟩
       | true =>
        have HD := Aside0.mk (show ¬ covM ho (intM (wantM false)) = false by rw [hD]; decide)
        rw [hD] at HCo
        clear hD
        go_wp2_with fail
        refine (HCo.out w11).mono ?_
        rintro e w12 ⟨rfl, hb⟩
        have HB12 := Aside0.mk (below_then HB11.out HB11.out.size hb)
        clear hb
        have hz := Z.out _ HB12.out
        have k0 : w12.cell? ⟨w.heap.size + 1, 0, none⟩ = some (.int .i64 0) := (blk_cell hz 0).trans rfl
        have k1 : w12.cell? ⟨w.heap.size + 1, 1, none⟩ = some (.int .i64 0) := (blk_cell hz 1).trans rfl
        have j0 := frozen_of_row w12 (w.heap.size + 1) 0 _ _ hz
        have j1 := frozen_of_row w12 (w.heap.size + 1) 1 _ _ hz
        have HZ := Aside0.mk hz
        clear hz
        go_wp2
        (try simp only [Exit.inBlock, Exit.then])
        refine bodyPost_ret (results_ctt rfl _ _ (w.heap.size + 1) 41 #[.int .i64 (s), .int .i64 (wantM false)] (0, 0) _ rfl ?_ hu38 rfl (by kernel_rfl)) rfl ?_
        ·exact two_set HZ.out _ _
        ·have e1 : nextT r o s hr ho hs c.f9 st false = (⟨s, wantM false⟩, true) := by unfold nextT; rw [if_neg HA.out]; rw [if_neg HBe.out]; rw [if_neg HC.out]; rw [if_neg HD.out]; rw [if_pos HE.out]
         rw [e1]
         exact ⟨rfl, ((below_then HB1.out (by rw [S1.out]; omega) HB12.out).setCell (p := ⟨w.heap.size + 1, 0, none⟩) (Nat.le_succ _) _).setCell (p := ⟨w.heap.size + 1, 1, none⟩) (Nat.le_succ _) _⟩
     ·have hG1 : decide (c.f9 > 0) = false := decide_eq_false hG
      have HC := Aside0.mk (show ¬ ((c.f9 > 0 ∧ covM hs (wantM false) = false) ∧ (st : Int) ≥ c.f9) from fun q => hG q.1.1)
      go_wp2_with fail
      obtain ⟨x0, x1, x2, x3, x4, x5, x6, x7, x8, x9, x10, x11⟩ := X.out _ HB10.out
      have g0 := fun d os => cell_gr x0 d os
      have g1 := fun d os => cell_gr x1 d os
      have g2 := fun d os => cell_gr x2 d os
      have g3 := fun d os => cell_gr x3 d os
      have g4 := fun d os => cell_gr x4 d os
      have g5 := fun d os => cell_gr x5 d os
      have g6 := fun d os => cell_gr x6 d os
      have g7 := fun d os => cell_gr x7 d os
      have g8 := fun d os => cell_gr x8 d os
      have g9 := fun d os => cell_gr x9 d os
      have g10 := fun d os => cell_gr x10 d os
      have g11 := fun d os => cell_gr x11 d os
      refine wp_region_gr mixed (by kernel_rfl) ?_
      repeat (first | go_big_quiet_step (exact Calls.gr_of (HStq.out _ _)) | simp only [Bool.not_true, Bool.not_false])
      refine wpQuiet_nil ?_
      intro _ hw'
      obtain ⟨⟨d, os⟩, rfl⟩ := hw'
      have HB11 := Aside0.mk (below_then HB10.out HB10.out.size (below_gr w10 d os))
      clear x0 x1 x2 x3 x4 x5 x6 x7 x8 x9 x10 x11 g0 g1 g2 g3 g4 g5 g6 g7 g8 g9 g10 g11
      generalize grow (wat w10 d) os = w11 at HB11 ⊢
      cases hD : covM ho (intM (wantM false)) with
      | false =>
       have HD := Aside0.mk hD
       rw [hD] at HCo
       clear hD
       go_wp2_with fail
       refine (HCo.out w11).mono ?_
       rintro e w12 ⟨rfl, hb⟩
       have HB12 := Aside0.mk (below_then HB11.out HB11.out.size hb)
       clear hb
       have hz := Z.out _ HB12.out
       have k0 : w12.cell? ⟨w.heap.size + 1, 0, none⟩ = some (.int .i64 0) := (blk_cell hz 0).trans rfl
       have k1 : w12.cell? ⟨w.heap.size + 1, 1, none⟩ = some (.int .i64 0) := (blk_cell hz 1).trans rfl
       have j0 := frozen_of_row w12 (w.heap.size + 1) 0 _ _ hz
       have j1 := frozen_of_row w12 (w.heap.size + 1) 1 _ _ hz
       have HZ := Aside0.mk hz
       clear hz
       go_wp2
       (try simp only [Exit.inBlock, Exit.then])
       refine bodyPost_ret (results_ctt rfl _ _ (w.heap.size + 1) 41 #[.int .i64 (o), .int .i64 (intM (wantM false))] (0, 0) _ rfl ?_ hu38 rfl (by kernel_rfl)) rfl ?_
       ·exact two_set HZ.out _ _
       ·have e1 : nextT r o s hr ho hs c.f9 st false = (⟨o, intM (wantM false)⟩, true) := by unfold nextT; rw [if_neg HA.out]; rw [if_neg HBe.out]; rw [if_neg HC.out]; rw [if_pos HD.out]
        rw [e1]
        exact ⟨rfl, ((below_then HB1.out (by rw [S1.out]; omega) HB12.out).setCell (p := ⟨w.heap.size + 1, 0, none⟩) (Nat.le_succ _) _).setCell (p := ⟨w.heap.size + 1, 1, none⟩) (Nat.le_succ _) _⟩
      | true =>
       have HD := Aside0.mk (show ¬ covM ho (intM (wantM false)) = false by rw [hD]; decide)
       rw [hD] at HCo
       clear hD
       go_wp2_with fail
       refine (HCo.out w11).mono ?_
       rintro e w12 ⟨rfl, hb⟩
       have HB12 := Aside0.mk (below_then HB11.out HB11.out.size hb)
       clear hb
       have hz := Z.out _ HB12.out
       have k0 : w12.cell? ⟨w.heap.size + 1, 0, none⟩ = some (.int .i64 0) := (blk_cell hz 0).trans rfl
       have k1 : w12.cell? ⟨w.heap.size + 1, 1, none⟩ = some (.int .i64 0) := (blk_cell hz 1).trans rfl
       have j0 := frozen_of_row w12 (w.heap.size + 1) 0 _ _ hz
       have j1 := frozen_of_row w12 (w.heap.size + 1) 1 _ _ hz
       have HZ := Aside0.mk hz
       clear hz
       go_wp2
       (try simp only [Exit.inBlock, Exit.then])
       refine bodyPost_ret (results_ctt rfl _ _ (w.heap.size + 1) 41 #[.int .i64 (s), .int .i64 (wantM false)] (0, 0) _ rfl ?_ hu38 rfl (by kernel_rfl)) rfl ?_
       ·exact two_set HZ.out _ _
       ·have e1 : nextT r o s hr ho hs c.f9 st false = (⟨s, wantM false⟩, true) := by unfold nextT; rw [if_neg HA.out]; rw [if_neg HBe.out]; rw [if_neg HC.out]; rw [if_neg HD.out]; rw [if_pos HE.out]
        rw [e1]
        exact ⟨rfl, ((below_then HB1.out (by rw [S1.out]; omega) HB12.out).setCell (p := ⟨w.heap.size + 1, 0, none⟩) (Nat.le_succ _) _).setCell (p := ⟨w.heap.size + 1, 1, none⟩) (Nat.le_succ _) _⟩
    | true =>
     have HE := Aside0.mk (show ¬ covM hs (wantM false) = false by rw [hE]; decide)
     rw [hE] at HCs
     clear hE
     go_wp2_with fail
     refine (HCs.out w9).mono ?_
     rintro e w10 ⟨rfl, hb⟩
     have HB10 := Aside0.mk (below_then HB9.out HB9.out.size hb)
     clear hb
     have HStq := Aside0.mk (fun d os => HSt.out (grow (wat w10 d) os) (below_then HB10.out HB10.out.size (below_gr w10 d os)))
     by_cases hG : c.f9 > 0
     ·have hG1 : decide (c.f9 > 0) = true := decide_eq_true hG
      by_cases hS : (st : Int) ≥ c.f9
      ·have hS1 : decide ((st : Int) ≥ c.f9) = true := decide_eq_true hS
       have HC := Aside0.mk (show ¬ ((c.f9 > 0 ∧ covM hs (wantM false) = false) ∧ (st : Int) ≥ c.f9) from fun q => HE.out q.1.2)
       go_wp2_with fail
       obtain ⟨x0, x1, x2, x3, x4, x5, x6, x7, x8, x9, x10, x11⟩ := X.out _ HB10.out
       have g0 := fun d os => cell_gr x0 d os
       have g1 := fun d os => cell_gr x1 d os
       have g2 := fun d os => cell_gr x2 d os
       have g3 := fun d os => cell_gr x3 d os
       have g4 := fun d os => cell_gr x4 d os
       have g5 := fun d os => cell_gr x5 d os
       have g6 := fun d os => cell_gr x6 d os
       have g7 := fun d os => cell_gr x7 d os
       have g8 := fun d os => cell_gr x8 d os
       have g9 := fun d os => cell_gr x9 d os
       have g10 := fun d os => cell_gr x10 d os
       have g11 := fun d os => cell_gr x11 d os
       refine wp_region_gr mixed (by kernel_rfl) ?_
       repeat (first | go_big_quiet_step (exact Calls.gr_of (HStq.out _ _)) | simp only [Bool.not_true, Bool.not_false])
       refine wpQuiet_nil ?_
       intro _ hw'
       obtain ⟨⟨d, os⟩, rfl⟩ := hw'
       have HB11 := Aside0.mk (below_then HB10.out HB10.out.size (below_gr w10 d os))
       clear x0 x1 x2 x3 x4 x5 x6 x7 x8 x9 x10 x11 g0 g1 g2 g3 g4 g5 g6 g7 g8 g9 g10 g11
       generalize grow (wat w10 d) os = w11 at HB11 ⊢
       cases hD : covM ho (intM (wantM false)) with
       | false =>
        have HD := Aside0.mk hD
        rw [hD] at HCo
        clear hD
        go_wp2_with fail
        refine (HCo.out w11).mono ?_
        rintro e w12 ⟨rfl, hb⟩
        have HB12 := Aside0.mk (below_then HB11.out HB11.out.size hb)
        clear hb
        have hz := Z.out _ HB12.out
        have k0 : w12.cell? ⟨w.heap.size + 1, 0, none⟩ = some (.int .i64 0) := (blk_cell hz 0).trans rfl
        have k1 : w12.cell? ⟨w.heap.size + 1, 1, none⟩ = some (.int .i64 0) := (blk_cell hz 1).trans rfl
        have j0 := frozen_of_row w12 (w.heap.size + 1) 0 _ _ hz
        have j1 := frozen_of_row w12 (w.heap.size + 1) 1 _ _ hz
        have HZ := Aside0.mk hz
        clear hz
        go_wp2
        (try simp only [Exit.inBlock, Exit.then])
        refine bodyPost_ret (results_ctt rfl _ _ (w.heap.size + 1) 41 #[.int .i64 (o), .int .i64 (intM (wantM false))] (0, 0) _ rfl ?_ hu38 rfl (by kernel_rfl)) rfl ?_
        ·exact two_set HZ.out _ _
        ·have e1 : nextT r o s hr ho hs c.f9 st false = (⟨o, intM (wantM false)⟩, true) := by unfold nextT; rw [if_neg HA.out]; rw [if_neg HBe.out]; rw [if_neg HC.out]; rw [if_pos HD.out]
         rw [e1]
         exact ⟨rfl, ((below_then HB1.out (by rw [S1.out]; omega) HB12.out).setCell (p := ⟨w.heap.size + 1, 0, none⟩) (Nat.le_succ _) _).setCell (p := ⟨w.heap.size + 1, 1, none⟩) (Nat.le_succ _) _⟩
       | true =>
        have HD := Aside0.mk (show ¬ covM ho (intM (wantM false)) = false by rw [hD]; decide)
        rw [hD] at HCo
        clear hD
        go_wp2_with fail
        refine (HCo.out w11).mono ?_
        rintro e w12 ⟨rfl, hb⟩
        have HB12 := Aside0.mk (below_then HB11.out HB11.out.size hb)
        clear hb
        have hz := Z.out _ HB12.out
        have k0 : w12.cell? ⟨w.heap.size + 1, 0, none⟩ = some (.int .i64 0) := (blk_cell hz 0).trans rfl
        have k1 : w12.cell? ⟨w.heap.size + 1, 1, none⟩ = some (.int .i64 0) := (blk_cell hz 1).trans rfl
        have j0 := frozen_of_row w12 (w.heap.size + 1) 0 _ _ hz
        have j1 := frozen_of_row w12 (w.heap.size + 1) 1 _ _ hz
        have HZ := Aside0.mk hz
        clear hz
        go_wp2
        (try simp only [Exit.inBlock, Exit.then])
        refine bodyPost_ret (results_ctt rfl _ _ (w.heap.size + 1) 41 #[.int .i64 (0), .int .i64 (0)] (0, 0) _ rfl ?_ hu38 rfl (by kernel_rfl)) rfl ?_
        ·exact two_set HZ.out _ _
        ·have e1 : nextT r o s hr ho hs c.f9 st false = (⟨0, 0⟩, false) := by unfold nextT; rw [if_neg HA.out]; rw [if_neg HBe.out]; rw [if_neg HC.out]; rw [if_neg HD.out]; rw [if_neg HE.out]
         rw [e1]
         exact ⟨rfl, ((below_then HB1.out (by rw [S1.out]; omega) HB12.out).setCell (p := ⟨w.heap.size + 1, 0, none⟩) (Nat.le_succ _) _).setCell (p := ⟨w.heap.size + 1, 1, none⟩) (Nat.le_succ _) _⟩
      ·have hS1 : decide ((st : Int) ≥ c.f9) = false := decide_eq_false hS
       have HC := Aside0.mk (show ¬ ((c.f9 > 0 ∧ covM hs (wantM false) = false) ∧ (st : Int) ≥ c.f9) from fun q => hS q.2)
       go_wp2_with fail
       obtain ⟨x0, x1, x2, x3, x4, x5, x6, x7, x8, x9, x10, x11⟩ := X.out _ HB10.out
       have g0 := fun d os => cell_gr x0 d os
       have g1 := fun d os => cell_gr x1 d os
       have g2 := fun d os => cell_gr x2 d os
       have g3 := fun d os => cell_gr x3 d os
       have g4 := fun d os => cell_gr x4 d os
       have g5 := fun d os => cell_gr x5 d os
       have g6 := fun d os => cell_gr x6 d os
       have g7 := fun d os => cell_gr x7 d os
       have g8 := fun d os => cell_gr x8 d os
       have g9 := fun d os => cell_gr x9 d os
       have g10 := fun d os => cell_gr x10 d os
       have g11 := fun d os => cell_gr x11 d os
       refine wp_region_gr mixed (by kernel_rfl) ?_
       repeat (first | go_big_quiet_step (exact Calls.gr_of (HStq.out _ _)) | simp only [Bool.not_true, Bool.not_false])
       refine wpQuiet_nil ?_
       intro _ hw'
       obtain ⟨⟨d, os⟩, rfl⟩ := hw'
       have HB11 := Aside0.mk (below_then HB10.out HB10.out.size (below_gr w10 d os))
       clear x0 x1 x2 x3 x4 x5 x6 x7 x8 x9 x10 x11 g0 g1 g2 g3 g4 g5 g6 g7 g8 g9 g10 g11
       generalize grow (wat w10 d) os = w11 at HB11 ⊢
       cases hD : covM ho (intM (wantM false)) with
       | false =>
        have HD := Aside0.mk hD
        rw [hD] at HCo
        clear hD
        go_wp2_with fail
        refine (HCo.out w11).mono ?_
        rintro e w12 ⟨rfl, hb⟩
        have HB12 := Aside0.mk (below_then HB11.out HB11.out.size hb)
        clear hb
        have hz := Z.out _ HB12.out
        have k0 : w12.cell? ⟨w.heap.size + 1, 0, none⟩ = some (.int .i64 0) := (blk_cell hz 0).trans rfl
        have k1 : w12.cell? ⟨w.heap.size + 1, 1, none⟩ = some (.int .i64 0) := (blk_cell hz 1).trans rfl
        have j0 := frozen_of_row w12 (w.heap.size + 1) 0 _ _ hz
        have j1 := frozen_of_row w12 (w.heap.size + 1) 1 _ _ hz
        have HZ := Aside0.mk hz
        clear hz
        go_wp2
        (try simp only [Exit.inBlock, Exit.then])
        refine bodyPost_ret (results_ctt rfl _ _ (w.heap.size + 1) 41 #[.int .i64 (o), .int .i64 (intM (wantM false))] (0, 0) _ rfl ?_ hu38 rfl (by kernel_rfl)) rfl ?_
        ·exact two_set HZ.out _ _
        ·have e1 : nextT r o s hr ho hs c.f9 st false = (⟨o, intM (wantM false)⟩, true) := by unfold nextT; rw [if_neg HA.out]; rw [if_neg HBe.out]; rw [if_neg HC.out]; rw [if_pos HD.out]
         rw [e1]
         exact ⟨rfl, ((below_then HB1.out (by rw [S1.out]; omega) HB12.out).setCell (p := ⟨w.heap.size + 1, 0, none⟩) (Nat.le_succ _) _).setCell (p := ⟨w.heap.size + 1, 1, none⟩) (Nat.le_succ _) _⟩
       | true =>
        have HD := Aside0.mk (show ¬ covM ho (intM (wantM false)) = false by rw [hD]; decide)
        rw [hD] at HCo
        clear hD
        go_wp2_with fail
        refine (HCo.out w11).mono ?_
        rintro e w12 ⟨rfl, hb⟩
        have HB12 := Aside0.mk (below_then HB11.out HB11.out.size hb)
        clear hb
        have hz := Z.out _ HB12.out
        have k0 : w12.cell? ⟨w.heap.size + 1, 0, none⟩ = some (.int .i64 0) := (blk_cell hz 0).trans rfl
        have k1 : w12.cell? ⟨w.heap.size + 1, 1, none⟩ = some (.int .i64 0) := (blk_cell hz 1).trans rfl
        have j0 := frozen_of_row w12 (w.heap.size + 1) 0 _ _ hz
        have j1 := frozen_of_row w12 (w.heap.size + 1) 1 _ _ hz
        have HZ := Aside0.mk hz
        clear hz
        go_wp2
        (try simp only [Exit.inBlock, Exit.then])
        refine bodyPost_ret (results_ctt rfl _ _ (w.heap.size + 1) 41 #[.int .i64 (0), .int .i64 (0)] (0, 0) _ rfl ?_ hu38 rfl (by kernel_rfl)) rfl ?_
        ·exact two_set HZ.out _ _
        ·have e1 : nextT r o s hr ho hs c.f9 st false = (⟨0, 0⟩, false) := by unfold nextT; rw [if_neg HA.out]; rw [if_neg HBe.out]; rw [if_neg HC.out]; rw [if_neg HD.out]; rw [if_neg HE.out]
         rw [e1]
         exact ⟨rfl, ((below_then HB1.out (by rw [S1.out]; omega) HB12.out).setCell (p := ⟨w.heap.size + 1, 0, none⟩) (Nat.le_succ _) _).setCell (p := ⟨w.heap.size + 1, 1, none⟩) (Nat.le_succ _) _⟩
     ·have hG1 : decide (c.f9 > 0) = false := decide_eq_false hG
      have HC := Aside0.mk (show ¬ ((c.f9 > 0 ∧ covM hs (wantM false) = false) ∧ (st : Int) ≥ c.f9) from fun q => hG q.1.1)
      go_wp2_with fail
      obtain ⟨x0, x1, x2, x3, x4, x5, x6, x7, x8, x9, x10, x11⟩ := X.out _ HB10.out
      have g0 := fun d os => cell_gr x0 d os
      have g1 := fun d os => cell_gr x1 d os
      have g2 := fun d os => cell_gr x2 d os
      have g3 := fun d os => cell_gr x3 d os
      have g4 := fun d os => cell_gr x4 d os
      have g5 := fun d os => cell_gr x5 d os
      have g6 := fun d os => cell_gr x6 d os
      have g7 := fun d os => cell_gr x7 d os
      have g8 := fun d os => cell_gr x8 d os
      have g9 := fun d os => cell_gr x9 d os
      have g10 := fun d os => cell_gr x10 d os
      have g11 := fun d os => cell_gr x11 d os
      refine wp_region_gr mixed (by kernel_rfl) ?_
      repeat (first | go_big_quiet_step (exact Calls.gr_of (HStq.out _ _)) | simp only [Bool.not_true, Bool.not_false])
      refine wpQuiet_nil ?_
      intro _ hw'
      obtain ⟨⟨d, os⟩, rfl⟩ := hw'
      have HB11 := Aside0.mk (below_then HB10.out HB10.out.size (below_gr w10 d os))
      clear x0 x1 x2 x3 x4 x5 x6 x7 x8 x9 x10 x11 g0 g1 g2 g3 g4 g5 g6 g7 g8 g9 g10 g11
      generalize grow (wat w10 d) os = w11 at HB11 ⊢
      cases hD : covM ho (intM (wantM false)) with
      | false =>
       have HD := Aside0.mk hD
       rw [hD] at HCo
       clear hD
       go_wp2_with fail
       refine (HCo.out w11).mono ?_
       rintro e w12 ⟨rfl, hb⟩
       have HB12 := Aside0.mk (below_then HB11.out HB11.out.size hb)
       clear hb
       have hz := Z.out _ HB12.out
       have k0 : w12.cell? ⟨w.heap.size + 1, 0, none⟩ = some (.int .i64 0) := (blk_cell hz 0).trans rfl
       have k1 : w12.cell? ⟨w.heap.size + 1, 1, none⟩ = some (.int .i64 0) := (blk_cell hz 1).trans rfl
       have j0 := frozen_of_row w12 (w.heap.size + 1) 0 _ _ hz
       have j1 := frozen_of_row w12 (w.heap.size + 1) 1 _ _ hz
       have HZ := Aside0.mk hz
       clear hz
       go_wp2
       (try simp only [Exit.inBlock, Exit.then])
       refine bodyPost_ret (results_ctt rfl _ _ (w.heap.size + 1) 41 #[.int .i64 (o), .int .i64 (intM (wantM false))] (0, 0) _ rfl ?_ hu38 rfl (by kernel_rfl)) rfl ?_
       ·exact two_set HZ.out _ _
       ·have e1 : nextT r o s hr ho hs c.f9 st false = (⟨o, intM (wantM false)⟩, true) := by unfold nextT; rw [if_neg HA.out]; rw [if_neg HBe.out]; rw [if_neg HC.out]; rw [if_pos HD.out]
        rw [e1]
        exact ⟨rfl, ((below_then HB1.out (by rw [S1.out]; omega) HB12.out).setCell (p := ⟨w.heap.size + 1, 0, none⟩) (Nat.le_succ _) _).setCell (p := ⟨w.heap.size + 1, 1, none⟩) (Nat.le_succ _) _⟩
      | true =>
       have HD := Aside0.mk (show ¬ covM ho (intM (wantM false)) = false by rw [hD]; decide)
       rw [hD] at HCo
       clear hD
       go_wp2_with fail
       refine (HCo.out w11).mono ?_
       rintro e w12 ⟨rfl, hb⟩
       have HB12 := Aside0.mk (below_then HB11.out HB11.out.size hb)
       clear hb
       have hz := Z.out _ HB12.out
       have k0 : w12.cell? ⟨w.heap.size + 1, 0, none⟩ = some (.int .i64 0) := (blk_cell hz 0).trans rfl
       have k1 : w12.cell? ⟨w.heap.size + 1, 1, none⟩ = some (.int .i64 0) := (blk_cell hz 1).trans rfl
       have j0 := frozen_of_row w12 (w.heap.size + 1) 0 _ _ hz
       have j1 := frozen_of_row w12 (w.heap.size + 1) 1 _ _ hz
       have HZ := Aside0.mk hz
       clear hz
       go_wp2
       (try simp only [Exit.inBlock, Exit.then])
       refine bodyPost_ret (results_ctt rfl _ _ (w.heap.size + 1) 41 #[.int .i64 (0), .int .i64 (0)] (0, 0) _ rfl ?_ hu38 rfl (by kernel_rfl)) rfl ?_
       ·exact two_set HZ.out _ _
       ·have e1 : nextT r o s hr ho hs c.f9 st false = (⟨0, 0⟩, false) := by unfold nextT; rw [if_neg HA.out]; rw [if_neg HBe.out]; rw [if_neg HC.out]; rw [if_neg HD.out]; rw [if_neg HE.out]
        rw [e1]
        exact ⟨rfl, ((below_then HB1.out (by rw [S1.out]; omega) HB12.out).setCell (p := ⟨w.heap.size + 1, 0, none⟩) (Nat.le_succ _) _).setCell (p := ⟨w.heap.size + 1, 1, none⟩) (Nat.le_succ _) _⟩
theorem NextTR_ (h : IsTR w b F ls most) (hi : LInv ls) (hn : ls.length ≤ 10000) (c : Cf) (who a : Int) (wr : Bool) (lv pa : Int → Int)
  (hlv : ∀ j : Nat, j < ls.length → ltkref1_Level.f 20 c.f0 c.f1 c.f2 c.f3 c.f4 c.f5 c.f6 c.f7 c.f8 c.f9 c.f10 c.f11 (j : Int) = some (lv j)) (hpa : ∀ j : Nat, j < ls.length → ltkref1_Parent.f 20 c.f0 c.f1 c.f2 c.f3 c.f4 c.f5 c.f6 c.f7 c.f8 c.f9 c.f10 c.f11 (j : Int) = some (pa j))
  (r o s : Int) (hp : ltkref1_Path.f 20 c.f0 c.f1 c.f2 c.f3 c.f4 c.f5 c.f6 c.f7 c.f8 c.f9 c.f10 c.f11 a = some (r, o, s, 0)) (R : L × Bool) (hR : nextT r o s (holdsT ls who r) (holdsT ls who o) (holdsT ls who s) c.f9 (stripesT ls who lv pa o) wr = R) :
  Calls Tryz.prog 14 #[.agg #[.int .i64 c.f0, .int .i64 c.f1, .int .i64 c.f2, .int .i64 c.f3, .int .i64 c.f4, .int .i64 c.f5, .int .i64 c.f6, .int .i64 c.f7, .int .i64 c.f8, .int .i64 c.f9, .int .i64 c.f10, .int .i64 c.f11], .pointer (some ⟨b, 0, none⟩), .int .i64 who, .int .i64 a, .bool wr] w fun e w' =>
   e = .returned (.tuple #[.agg #[.int .i64 R.1.f0, .int .i64 R.1.f1], .bool R.2, .int .i64 0]) ∧ Below w.heap.size w w' := by
 subst hR
 cases wr with
 | true => exact NextTR_true h hi hn c who a lv pa hlv hpa r o s hp _ _ _ _ rfl rfl rfl rfl
 | false => exact NextTR_false h hi hn c who a lv pa hlv hpa r o s hp _ _ _ _ rfl rfl rfl rfl
end
end Go.Proofs.YtkceadieigpolaaGreat.Ln
