import Derived.Test.YtkceadieigpolaaGreatTb7
import Derived.Deep.RegionHeld3
namespace Go.Proofs.YtkceadieigpolaaGreat.Ln
open Go.RowKit Go.Proofs.YtkceadieigpolaaGreatW.PrintWords Go.Proofs.YtkceadieigpolaaGreatW.PrintLast Go.Proofs.YtkceadieigpolaaGreatW.PrintMore Go.Proofs.YtkceadieigpolaaGreat.PMd
open Go.Maps
open Go.Sort (grow)
set_option linter.unusedVariables false
set_option linter.unusedSimpArgs false
structure Cf where
  f0 : Int
  f1 : Int
  f2 : Int
  f3 : Int
  f4 : Int
  f5 : Int
  f6 : Int
  f7 : Int
  f8 : Int
  f9 : Int
  f10 : Int
  f11 : Int
theorem rdL_get (l : List L) (i : Nat) : rd_T41 l (i : Int) = l.getD i z41 := by simp [rd_T41]
def isStr (lv pa : Int → Int) (object : Int) (x : L) : Bool := lv x.f0 == 2 && pa x.f0 == object
def strUp (l : List L) (lv pa : Int → Int) (object : Int) (k : Nat) : Nat := (l.take k).countP (isStr lv pa object)
def stripesT (ls : List LS) (who : Int) (lv pa : Int → Int) (object : Int) : Nat := (heldT ls who).countP (isStr lv pa object)
theorem str_step {l : List L} {lv pa : Int → Int} {object : Int} {k : Nat} (h : k < l.length) : strUp l lv pa object (k + 1) = strUp l lv pa object k + if isStr lv pa object (l.getD k z41) = true then 1 else 0 := by
  unfold strUp
  have e : l[k]? = some (l.getD k z41) := by rw [List.getD_eq_getElem?_getD, List.getElem?_eq_getElem h]; rfl
  rw [List.take_add_one, e, List.countP_append]
  simp [List.countP_cons]
theorem held_node {ls : List LS} {who : Int} {k : Nat} (hk : k < (heldT ls who).length) : ∃ j : Nat, j < ls.length ∧ ((heldT ls who).getD k z41).f0 = j := by
  have hm : (heldT ls who).getD k z41 ∈ heldT ls who := by
    rw [List.getD_eq_getElem?_getD, List.getElem?_eq_getElem hk]; exact List.getElem_mem hk
  obtain ⟨j, h1, h2, _⟩ := (held_mem _).1 hm
  exact ⟨j, h1, by rw [h2]⟩
set_option maxHeartbeats 8000000 in
set_option maxRecDepth 100000 in
theorem Stripes_ {w : World} {b : Nat} {F : Nat → Prop} {ls : List LS} {most : Int} {N : Nat} {f : At} (h : IsTab w b F ls most N f) (hn : ls.length ≤ 10000) (c : Cf) (who object : Int) (lv pa : Int → Int)
    (hlv : ∀ j : Nat, j < ls.length → shape_Level.f 20 c.f0 c.f1 c.f2 c.f3 c.f4 c.f5 c.f6 c.f7 c.f8 c.f9 c.f10 c.f11 (j : Int) = some (lv j)) (hpa : ∀ j : Nat, j < ls.length → shape_Parent.f 20 c.f0 c.f1 c.f2 c.f3 c.f4 c.f5 c.f6 c.f7 c.f8 c.f9 c.f10 c.f11 (j : Int) = some (pa j)) :
    Calls Tryz.prog 15 #[.agg #[.int .i64 c.f0, .int .i64 c.f1, .int .i64 c.f2, .int .i64 c.f3, .int .i64 c.f4, .int .i64 c.f5, .int .i64 c.f6, .int .i64 c.f7, .int .i64 c.f8, .int .i64 c.f9, .int .i64 c.f10, .int .i64 c.f11], .pointer (some ⟨b, 0, none⟩), .int .i64 who, .int .i64 object] w fun e w' => e = .returned (.int .i64 (stripesT ls who lv pa object : Nat)) ∧ Below w.heap.size w w' := by
  have hu41 := Tryz.underlying23
  have hu38 := Tryz.underlying41
  have HB0 := Aside0.mk (below_alloc (Below.refl w.heap.size w) (.cells #[.int .i64 c.f0, .int .i64 c.f1, .int .i64 c.f2, .int .i64 c.f3, .int .i64 c.f4, .int .i64 c.f5, .int .i64 c.f6, .int .i64 c.f7, .int .i64 c.f8, .int .i64 c.f9, .int .i64 c.f10, .int .i64 c.f11] 23))
  have hx := blk_new w (.cells #[.int .i64 c.f0, .int .i64 c.f1, .int .i64 c.f2, .int .i64 c.f3, .int .i64 c.f4, .int .i64 c.f5, .int .i64 c.f6, .int .i64 c.f7, .int .i64 c.f8, .int .i64 c.f9, .int .i64 c.f10, .int .i64 c.f11] 23)
  have X : Aside0 ((w.alloc (.cells #[.int .i64 c.f0, .int .i64 c.f1, .int .i64 c.f2, .int .i64 c.f3, .int .i64 c.f4, .int .i64 c.f5, .int .i64 c.f6, .int .i64 c.f7, .int .i64 c.f8, .int .i64 c.f9, .int .i64 c.f10, .int .i64 c.f11] 23)).cell? ⟨w.heap.size, 0, none⟩ = some (.int .i64 c.f0) ∧ (w.alloc (.cells #[.int .i64 c.f0, .int .i64 c.f1, .int .i64 c.f2, .int .i64 c.f3, .int .i64 c.f4, .int .i64 c.f5, .int .i64 c.f6, .int .i64 c.f7, .int .i64 c.f8, .int .i64 c.f9, .int .i64 c.f10, .int .i64 c.f11] 23)).cell? ⟨w.heap.size, 1, none⟩ = some (.int .i64 c.f1) ∧ (w.alloc (.cells #[.int .i64 c.f0, .int .i64 c.f1, .int .i64 c.f2, .int .i64 c.f3, .int .i64 c.f4, .int .i64 c.f5, .int .i64 c.f6, .int .i64 c.f7, .int .i64 c.f8, .int .i64 c.f9, .int .i64 c.f10, .int .i64 c.f11] 23)).cell? ⟨w.heap.size, 2, none⟩ = some (.int .i64 c.f2) ∧ (w.alloc (.cells #[.int .i64 c.f0, .int .i64 c.f1, .int .i64 c.f2, .int .i64 c.f3, .int .i64 c.f4, .int .i64 c.f5, .int .i64 c.f6, .int .i64 c.f7, .int .i64 c.f8, .int .i64 c.f9, .int .i64 c.f10, .int .i64 c.f11] 23)).cell? ⟨w.heap.size, 3, none⟩ = some (.int .i64 c.f3) ∧ (w.alloc (.cells #[.int .i64 c.f0, .int .i64 c.f1, .int .i64 c.f2, .int .i64 c.f3, .int .i64 c.f4, .int .i64 c.f5, .int .i64 c.f6, .int .i64 c.f7, .int .i64 c.f8, .int .i64 c.f9, .int .i64 c.f10, .int .i64 c.f11] 23)).cell? ⟨w.heap.size, 4, none⟩ = some (.int .i64 c.f4) ∧ (w.alloc (.cells #[.int .i64 c.f0, .int .i64 c.f1, .int .i64 c.f2, .int .i64 c.f3, .int .i64 c.f4, .int .i64 c.f5, .int .i64 c.f6, .int .i64 c.f7, .int .i64 c.f8, .int .i64 c.f9, .int .i64 c.f10, .int .i64 c.f11] 23)).cell? ⟨w.heap.size, 5, none⟩ = some (.int .i64 c.f5) ∧ (w.alloc (.cells #[.int .i64 c.f0, .int .i64 c.f1, .int .i64 c.f2, .int .i64 c.f3, .int .i64 c.f4, .int .i64 c.f5, .int .i64 c.f6, .int .i64 c.f7, .int .i64 c.f8, .int .i64 c.f9, .int .i64 c.f10, .int .i64 c.f11] 23)).cell? ⟨w.heap.size, 6, none⟩ = some (.int .i64 c.f6) ∧ (w.alloc (.cells #[.int .i64 c.f0, .int .i64 c.f1, .int .i64 c.f2, .int .i64 c.f3, .int .i64 c.f4, .int .i64 c.f5, .int .i64 c.f6, .int .i64 c.f7, .int .i64 c.f8, .int .i64 c.f9, .int .i64 c.f10, .int .i64 c.f11] 23)).cell? ⟨w.heap.size, 7, none⟩ = some (.int .i64 c.f7) ∧ (w.alloc (.cells #[.int .i64 c.f0, .int .i64 c.f1, .int .i64 c.f2, .int .i64 c.f3, .int .i64 c.f4, .int .i64 c.f5, .int .i64 c.f6, .int .i64 c.f7, .int .i64 c.f8, .int .i64 c.f9, .int .i64 c.f10, .int .i64 c.f11] 23)).cell? ⟨w.heap.size, 8, none⟩ = some (.int .i64 c.f8) ∧ (w.alloc (.cells #[.int .i64 c.f0, .int .i64 c.f1, .int .i64 c.f2, .int .i64 c.f3, .int .i64 c.f4, .int .i64 c.f5, .int .i64 c.f6, .int .i64 c.f7, .int .i64 c.f8, .int .i64 c.f9, .int .i64 c.f10, .int .i64 c.f11] 23)).cell? ⟨w.heap.size, 9, none⟩ = some (.int .i64 c.f9) ∧ (w.alloc (.cells #[.int .i64 c.f0, .int .i64 c.f1, .int .i64 c.f2, .int .i64 c.f3, .int .i64 c.f4, .int .i64 c.f5, .int .i64 c.f6, .int .i64 c.f7, .int .i64 c.f8, .int .i64 c.f9, .int .i64 c.f10, .int .i64 c.f11] 23)).cell? ⟨w.heap.size, 10, none⟩ = some (.int .i64 c.f10) ∧ (w.alloc (.cells #[.int .i64 c.f0, .int .i64 c.f1, .int .i64 c.f2, .int .i64 c.f3, .int .i64 c.f4, .int .i64 c.f5, .int .i64 c.f6, .int .i64 c.f7, .int .i64 c.f8, .int .i64 c.f9, .int .i64 c.f10, .int .i64 c.f11] 23)).cell? ⟨w.heap.size, 11, none⟩ = some (.int .i64 c.f11)) := ⟨(blk_cell hx 0).trans rfl, (blk_cell hx 1).trans rfl, (blk_cell hx 2).trans rfl, (blk_cell hx 3).trans rfl, (blk_cell hx 4).trans rfl, (blk_cell hx 5).trans rfl, (blk_cell hx 6).trans rfl, (blk_cell hx 7).trans rfl, (blk_cell hx 8).trans rfl, (blk_cell hx 9).trans rfl, (blk_cell hx 10).trans rfl, (blk_cell hx 11).trans rfl⟩
  have HH := Aside0.mk (HeldT_ (h.below HB0.out) hn who)
  have HNd := Aside0.mk (fun k hk => held_node (ls := ls) (who := who) (k := k) hk)
  have HR := Aside0.mk (show stripesT ls who lv pa object = strUp (heldT ls who) lv pa object (heldT ls who).length by unfold stripesT strUp; rw [List.take_length])
  have HM := Aside0.mk (show (heldT ls who).length ≤ 10000 from Nat.le_trans (held_len ls who _) hn)
  have HLV := Aside0.mk hlv
  have HPA := Aside0.mk hpa
  generalize heldT ls who = l at HH HNd HR HM
  clear h hn hx hlv hpa
  go_enter Tryz.func15, Tryz.ntmps15
  go_wp2_with fail
  refine HH.out.mono ?_
  rintro e w2 ⟨A, cp, rfl, hR, -, hb⟩
  have HK := Aside0.mk hR.readsL
  have hc := hR.2.1
  have HB2 := Aside0.mk hb
  clear hR hb HH
  go_wp2_with fail
  go_loopg [9, 16] l.length (fun gg v9 v16 wr => ∃ k : Nat, k ≤ l.length ∧ l.length - k ≤ gg ∧ v16 = .int .i64 k ∧ v9 = .int .i64 (strUp l lv pa object k : Nat) ∧ Aside0 (Below w2.heap.size w2 wr))
  case atStart => exact ⟨0, by omega, by omega, rfl, rfl, ⟨Below.refl _ _⟩⟩
  case round =>
    obtain ⟨k, hk, hgg, rfl, rfl, HB⟩ := hrel
    by_cases hlt : k < l.length
    · have t1 : (k : Int) < l.length := by omega
      have t0 : 0 ≤ (k : Int) := by omega
      obtain ⟨ad, rfl, q0, q1⟩ := at_T41 (Kd.C_below HK.out HB.out) (k : Int) (by omega) (by omega)
      simp only [Int.toNat_natCast, rdL_get] at q0 q1
      obtain ⟨j, hj, hyj⟩ := HNd.out k hlt
      have HSt := Aside0.mk (str_step (lv := lv) (pa := pa) (object := object) hlt)
      have hle : strUp l lv pa object k ≤ k := Nat.le_trans List.countP_le_length (by rw [List.length_take]; omega)
      generalize strUp l lv pa object k = s at HSt hle ⊢
      have W3 := Aside0.mk (show wrap64 ((k : Int) + 1) = ((k + 1 : Nat) : Int) by have := HM.out; unfold wrap64; omega)
      have W4 := Aside0.mk (show wrap64 ((s : Int) + 1) = ((s + 1 : Nat) : Int) by have := HM.out; unfold wrap64; omega)
      have HLT := Aside0.mk hle
      generalize l.getD k z41 = y at q0 q1 hyj HSt
      obtain ⟨yf, ym⟩ := y
      dsimp only at q0 q1 hyj
      subst hyj
      have HBa := Aside0.mk (below_then HB2.out HB2.out.size (below_alloc HB.out (.cells #[.int .i64 (j : Int), .int .i64 ym] 41)))
      have HBb := Aside0.mk (below_alloc HB.out (.cells #[.int .i64 (j : Int), .int .i64 ym] 41))
      have x0 := cell_be (X.out.1) HBa.out
      have x1 := cell_be (X.out.2.1) HBa.out
      have x2 := cell_be (X.out.2.2.1) HBa.out
      have x3 := cell_be (X.out.2.2.2.1) HBa.out
      have x4 := cell_be (X.out.2.2.2.2.1) HBa.out
      have x5 := cell_be (X.out.2.2.2.2.2.1) HBa.out
      have x6 := cell_be (X.out.2.2.2.2.2.2.1) HBa.out
      have x7 := cell_be (X.out.2.2.2.2.2.2.2.1) HBa.out
      have x8 := cell_be (X.out.2.2.2.2.2.2.2.2.1) HBa.out
      have x9 := cell_be (X.out.2.2.2.2.2.2.2.2.2.1) HBa.out
      have x10 := cell_be (X.out.2.2.2.2.2.2.2.2.2.2.1) HBa.out
      have x11 := cell_be (X.out.2.2.2.2.2.2.2.2.2.2.2) HBa.out
      have Y := Aside0.mk (show (wr.alloc (.cells #[.int .i64 (j : Int), .int .i64 ym] 41)).cell? ⟨wr.heap.size, 0, none⟩ = some (.int .i64 (j : Int)) from (blk_cell (blk_new wr _) 0).trans rfl)
      have y0 := Y.out
      have HLc := Aside0.mk (shape_Level.calls 20 c.f0 c.f1 c.f2 c.f3 c.f4 c.f5 c.f6 c.f7 c.f8 c.f9 c.f10 c.f11 (j : Int) _ (wr.alloc (.cells #[.int .i64 (j : Int), .int .i64 ym] 41)) (HLV.out j hj))
      have HPc := Aside0.mk (fun W => shape_Parent.calls 20 c.f0 c.f1 c.f2 c.f3 c.f4 c.f5 c.f6 c.f7 c.f8 c.f9 c.f10 c.f11 (j : Int) _ W (HPA.out j hj))
      have HI := Aside0.mk (show isStr lv pa object ⟨(j : Int), ym⟩ = (lv (j : Int) == 2 && pa (j : Int) == object) from rfl)
      clear hle hj
      generalize lv (j : Int) = lvl at HLc HI
      generalize pa (j : Int) = par at HPc HI
      by_cases e2 : lvl = 2
      · have e2b : (lvl == 2) = true := beq_iff_eq.2 e2
        clear e2
        go_wp2_with fail
        refine HLc.out.mono ?_
        rintro e w5 ⟨rfl, hb5⟩
        have HB5 := Aside0.mk (below_then HBa.out (Nat.le_trans (Nat.le_trans HB2.out.size HB.out.size) (by simp)) hb5)
        have HB5b := Aside0.mk (below_then HBb.out (Nat.le_trans HB.out.size (by simp)) hb5)
        have z0 := cell_be Y.out hb5
        clear hb5 y0 HLc x0 x1 x2 x3 x4 x5 x6 x7 x8 x9 x10 x11
        have u0 := cell_be (X.out.1) HB5.out
        have u1 := cell_be (X.out.2.1) HB5.out
        have u2 := cell_be (X.out.2.2.1) HB5.out
        have u3 := cell_be (X.out.2.2.2.1) HB5.out
        have u4 := cell_be (X.out.2.2.2.2.1) HB5.out
        have u5 := cell_be (X.out.2.2.2.2.2.1) HB5.out
        have u6 := cell_be (X.out.2.2.2.2.2.2.1) HB5.out
        have u7 := cell_be (X.out.2.2.2.2.2.2.2.1) HB5.out
        have u8 := cell_be (X.out.2.2.2.2.2.2.2.2.1) HB5.out
        have u9 := cell_be (X.out.2.2.2.2.2.2.2.2.2.1) HB5.out
        have u10 := cell_be (X.out.2.2.2.2.2.2.2.2.2.2.1) HB5.out
        have u11 := cell_be (X.out.2.2.2.2.2.2.2.2.2.2.2) HB5.out
        go_wp2_with fail
        refine (HPc.out w5).mono ?_
        rintro e w6 ⟨rfl, hb6⟩
        have HB6 := Aside0.mk (below_then HB5b.out HB5b.out.size hb6)
        clear hb6 z0 HPc u0 u1 u2 u3 u4 u5 u6 u7 u8 u9 u10 u11
        by_cases e3 : par = object
        · have e3b : (par == object) = true := beq_iff_eq.2 e3
          have HS1 := Aside0.mk (show isStr lv pa object ⟨(j : Int), ym⟩ = true by rw [HI.out, e2b, e3b]; rfl)
          clear e3
          go_wp2
          go_roundg (l.length - (k + 1))
          case measure => omega
          case rel => exact ⟨k + 1, by omega, by omega, by rw [W3.out], by rw [HSt.out, if_pos HS1.out, W4.out], HB6⟩
        · have e3b : (par == object) = false := beq_eq_false_iff_ne.2 e3
          have HS1 := Aside0.mk (show ¬ isStr lv pa object ⟨(j : Int), ym⟩ = true by rw [HI.out, e2b, e3b]; decide)
          clear e3
          go_wp2
          go_roundg (l.length - (k + 1))
          case measure => omega
          case rel => exact ⟨k + 1, by omega, by omega, by rw [W3.out], by rw [HSt.out, if_neg HS1.out]; rfl, HB6⟩
      · have e2b : (lvl == 2) = false := beq_eq_false_iff_ne.2 e2
        have HS1 := Aside0.mk (show ¬ isStr lv pa object ⟨(j : Int), ym⟩ = true by rw [HI.out, e2b]; simp)
        clear e2
        go_wp2_with fail
        refine HLc.out.mono ?_
        rintro e w5 ⟨rfl, hb5⟩
        have HB5b := Aside0.mk (below_then HBb.out (Nat.le_trans HB.out.size (by simp)) hb5)
        clear hb5 y0 HLc x0 x1 x2 x3 x4 x5 x6 x7 x8 x9 x10 x11
        go_wp2
        go_roundg (l.length - (k + 1))
        case measure => omega
        case rel => exact ⟨k + 1, by omega, by omega, by rw [W3.out], by rw [HSt.out, if_neg HS1.out]; rfl, HB5b⟩
    · have ek : k = l.length := by omega
      subst ek
      have t1 : ¬ (l.length : Int) < l.length := by omega
      generalize strUp l lv pa object l.length = s at HR ⊢
      go_wp2
      go_ret
      exact ⟨by rw [HR.out]; rfl, below_then HB0.out (by simp) (below_then HB2.out HB2.out.size HB.out)⟩
end Go.Proofs.YtkceadieigpolaaGreat.Ln
