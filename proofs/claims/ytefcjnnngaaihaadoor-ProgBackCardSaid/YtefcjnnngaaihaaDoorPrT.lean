import Derived.Test.YtefcjnnngaaihaaDoorPrS
/- Same: two programs alike. -/
namespace Go.Proofs.YtefcjnnngaaihaaDoor.Pg
open Go.RowKit Go.Proofs.Pg Go.Proofs.YtefcjnnngaaihaaDoor.Ln Go.Proofs.YtefcjnnngaaihaaDoorW.PrintWords Go.Proofs.YtefcjnnngaaihaaDoorW.PrintWords.Kd Go.Proofs.YtefcjnnngaaihaaDoor.PPg
set_option linter.unusedVariables false
set_option linter.unusedSimpArgs false

def alike (x y : In) : Bool := x.k == y.k && (x.a == y.a && (x.b == y.b && (x.c == y.c && decide (x.l = y.l))))
theorem alike_iff (x y : In) : alike x y = true ↔ x = y := by
  obtain ⟨k, a, b, c, l⟩ := x
  obtain ⟨k2, a2, b2, c2, l2⟩ := y
  simp [alike]
/-- It says whether p is so. -/
def Yes (p : Prop) (w w' : World) (e : Ending) : Prop := ∃ r : Bool, e = .returned (.bool r) ∧ (r = true ↔ p) ∧ Below w.heap.size w w'
def aggI (x : In) (A : Option Addr) (c : Nat) : Value := .agg #[.int .i64 x.k, .int .i64 x.a, .int .i64 x.b, .int .i64 x.c, .slice A x.l.length c]
set_option maxHeartbeats 8000000 in
set_option maxRecDepth 100000 in
theorem alike_ (x y : In) (A B : Option Addr) (c d : Nat) (w : World) (hl : (Kd.int .i64).C w A x.l.length x.l) (hm : (Kd.int .i64).C w B y.l.length y.l) :
    Calls Tryd.prog 26 #[.agg #[.int .i64 x.k, .int .i64 x.a, .int .i64 x.b, .int .i64 x.c, .slice A x.l.length c], .agg #[.int .i64 y.k, .int .i64 y.a, .int .i64 y.b, .int .i64 y.c, .slice B y.l.length d]] w fun e w' => e = .returned (.bool (alike x y)) ∧ Below w.heap.size w w' := by
  have hu := Tryd.underlying26
  have HB := Aside0.mk (below_alloc (below_alloc (Below.refl w.heap.size w) (.cells #[.int .i64 x.k, .int .i64 x.a, .int .i64 x.b, .int .i64 x.c, .slice A x.l.length c] 26)) (.cells #[.int .i64 y.k, .int .i64 y.a, .int .i64 y.b, .int .i64 y.c, .slice B y.l.length d] 26))
  have HQ := Aside0.mk (Equal_ A B c d x.l y.l _ (C_below hl HB.out) (C_below hm HB.out))
  clear hl hm
  unfold alike
  obtain ⟨xk, xa, xb, xc, xl⟩ := x
  obtain ⟨yk, ya, yb, yc, yl⟩ := y
  simp only at HQ HB ⊢
  by_cases h1 : xk = yk
  · by_cases h2 : xa = ya
    · by_cases h3 : xb = yb
      · by_cases h4 : xc = yc
        · subst h1; subst h2; subst h3; subst h4
          go_enter Tryd.func26, Tryd.ntmps26
          go_wp2_with fail
          refine HQ.out.mono ?_
          rintro e w3 ⟨rfl, hb⟩
          have HB3 := Aside0.mk (below_then HB.out HB.out.size hb)
          clear hb
          go_wp2
          go_ret
          exact ⟨by simp, HB3.out⟩
        · have e4 : (xc == yc) = false := beq_eq_false_iff_ne.2 h4
          clear h4
          subst h1; subst h2; subst h3
          go_enter Tryd.func26, Tryd.ntmps26
          go_wp2
          go_ret
          exact ⟨by simp [e4], HB.out⟩
      · have e4 : (xb == yb) = false := beq_eq_false_iff_ne.2 h3
        clear h3
        subst h1; subst h2
        go_enter Tryd.func26, Tryd.ntmps26
        go_wp2
        go_ret
        exact ⟨by simp [e4], HB.out⟩
    · have e4 : (xa == ya) = false := beq_eq_false_iff_ne.2 h2
      clear h2
      subst h1
      go_enter Tryd.func26, Tryd.ntmps26
      go_wp2
      go_ret
      exact ⟨by simp [e4], HB.out⟩
  · have e4 : (xk == yk) = false := beq_eq_false_iff_ne.2 h1
    clear h1
    go_enter Tryd.func26, Tryd.ntmps26
    go_wp2
    go_ret
    exact ⟨by simp [e4], HB.out⟩

set_option maxHeartbeats 8000000 in
set_option maxRecDepth 100000 in
theorem EqF_ (A B : Option Addr) (c d : Nat) (xs ys : List In) (w : World) (hl : Kd.C k26 w A xs.length (xs.map toS)) (hm : Kd.C k26 w B ys.length (ys.map toS)) :
    Calls Tryd.prog 25 #[.slice A xs.length c, .slice B ys.length d, .func (.func 26) #[] #[]] w fun e w' => Yes (xs = ys) w w' e := by
  have hu := Tryd.underlying26
  have HL := Aside0.mk hl
  have HM := Aside0.mk hm
  have HS := Aside0.mk hl.2.1
  clear hl hm
  by_cases hlen : xs.length = ys.length
  · have e1 : ((xs.length : Int) != (ys.length : Int)) = false := by simp [hlen]
    have HLEN := Aside0.mk hlen
    clear hlen
    go_enter Tryd.func25, Tryd.ntmps25
    go_wp2_with fail
    go_loopg [17] xs.length (fun gg v17 wr => ∃ (i : Nat) (z : Int), z = i ∧ i ≤ xs.length ∧ xs.length - i ≤ gg ∧ v17 = .int .i64 z ∧ Aside0 (xs.take i = ys.take i) ∧ Aside0 (Below w.heap.size w wr))
    case atStart => exact ⟨0, 0, rfl, by omega, by omega, rfl, ⟨rfl⟩, ⟨Below.refl _ _⟩⟩
    case round =>
      obtain ⟨i, z, hz, hi, hgg, rfl, HT, HB⟩ := hrel
      by_cases hlt : i < xs.length
      · have t1 : z < (xs.length : Int) := by omega
        have t2 : z < (ys.length : Int) := by have := HLEN.out; omega
        have t0 : 0 ≤ z := by omega
        have hlm : i < ys.length := by have := HLEN.out; omega
        obtain ⟨ad, A4, c4, hA, x0, x1, x2, x3, x4, hl4, hC4⟩ := at_T26 (C_below HL.out HB.out) z t0 t1
        obtain ⟨bd, B4, d4, hB, y0, y1, y2, y3, y4, hm4, hD4⟩ := at_T26 (C_below HM.out HB.out) z t0 t2
        cases hA
        cases hB
        have hrd : rd_T26 (xs.map toS) z = toS xs[i] := by rw [hz]; exact rd_toS2 xs i hlt
        have hrd2 : rd_T26 (ys.map toS) z = toS ys[i] := by rw [hz]; exact rd_toS2 ys i hlm
        rw [hrd] at x0 x1 x2 x3 x4 hl4 hC4
        rw [hrd2] at y0 y1 y2 y3 y4 hm4 hD4
        have hN := fun (e : xs[i] = ys[i]) => show xs.take (i + 1) = ys.take (i + 1) by
            rw [List.take_succ_eq_append_getElem hlt, List.take_succ_eq_append_getElem hlm, HT.out, e]
        have hN2 : ¬ xs[i] = ys[i] → ¬ xs = ys := fun h e => by subst e; exact h rfl
        generalize xs[i] = x at x0 x1 x2 x3 x4 hl4 hC4 hN hN2
        generalize ys[i] = y at y0 y1 y2 y3 y4 hm4 hD4 hN hN2
        simp only [toS] at x0 x1 x2 x3 x4 hl4 hC4 y0 y1 y2 y3 y4 hm4 hD4
        have HN := Aside0.mk (And.intro hN hN2)
        have W3 := Aside0.mk (show wrap64 (z + 1) = ((i + 1 : Nat) : Int) by have := HS.out; unfold wrap64; omega)
        have HJ := Aside0.mk (And.intro hz (And.intro hlt hgg))
        have hb2 := below_alloc (below_alloc (Below.refl wr.heap.size wr) (.cells #[.int .i64 x.k, .int .i64 x.a, .int .i64 x.b, .int .i64 x.c, .slice A4 x.l.length c4] 26)) (.cells #[.int .i64 y.k, .int .i64 y.a, .int .i64 y.b, .int .i64 y.c, .slice B4 y.l.length d4] 26)
        have hb1 := below_alloc (Below.refl wr.heap.size wr) (.cells #[.int .i64 x.k, .int .i64 x.a, .int .i64 x.b, .int .i64 x.c, .slice A4 x.l.length c4] 26)
        replace y0 := (hb1.cell (World.block_lt_of_cell? wr _ y0)).trans y0
        replace y1 := (hb1.cell (World.block_lt_of_cell? wr _ y1)).trans y1
        replace y2 := (hb1.cell (World.block_lt_of_cell? wr _ y2)).trans y2
        replace y3 := (hb1.cell (World.block_lt_of_cell? wr _ y3)).trans y3
        replace y4 := (hb1.cell (World.block_lt_of_cell? wr _ y4)).trans y4
        have HAL := Aside0.mk (alike_ x y A4 B4 c4 d4 _ (C_below hC4 hb2) (C_below hD4 hb2))
        have HB2 := Aside0.mk (HB.out.trans (Below.low hb2 HB.out.size))
        clear hb1 hrd hrd2 hN hN2 hb2 hC4 hD4 hl4 hm4 hz hlt hgg hi hlm HB
        go_wp2_with fail
        refine HAL.out.mono ?_
        rintro e w3 ⟨rfl, hb⟩
        have HB3 := Aside0.mk (below_then HB2.out HB2.out.size hb)
        clear hb
        cases ha : alike x y with
        | true =>
          have HN3 := Aside0.mk (HN.out.1 ((alike_iff x y).1 ha))
          clear ha
          go_wp2
          go_roundg (xs.length - (i + 1))
          case measure => have := HJ.out; omega
          case rel => exact ⟨i + 1, _, W3.out, by have := HJ.out; omega, by have := HJ.out; omega, rfl, HN3, HB3⟩
        | false =>
          have HN3 := Aside0.mk (HN.out.2 (fun e => by rw [(alike_iff x y).2 e] at ha; cases ha))
          clear ha
          go_wp2
          go_ret
          exact ⟨false, rfl, ⟨(fun h => by cases h), fun h => absurd h HN3.out⟩, HB3.out⟩
      · obtain rfl : i = xs.length := by omega
        have t1 : ¬ (z < (xs.length : Int)) := by omega
        have HN := Aside0.mk (show xs = ys by
          have h1 := HT.out
          rw [List.take_length] at h1
          rw [HLEN.out, List.take_length] at h1
          exact h1)
        clear hi hgg hlt hz
        go_wp2
        go_ret
        exact ⟨true, rfl, ⟨fun _ => HN.out, fun _ => rfl⟩, HB.out⟩
  · have e1 : ((xs.length : Int) != (ys.length : Int)) = true := by simp; omega
    have HN := Aside0.mk (show ¬ xs = ys by intro e; subst e; exact hlen rfl)
    clear hlen
    go_enter Tryd.func25, Tryd.ntmps25
    go_wp2
    go_ret
    exact ⟨false, rfl, ⟨(fun h => by cases h), fun h => absurd h HN.out⟩, Below.refl _ _⟩
set_option maxHeartbeats 8000000 in
theorem Same_ (A B : Option Addr) (c d : Nat) (xs ys : List In) (w : World) (hl : Kd.C k26 w A xs.length (xs.map toS)) (hm : Kd.C k26 w B ys.length (ys.map toS)) :
    Calls Tryd.prog 17 #[.slice A xs.length c, .slice B ys.length d] w fun e w' => Yes (xs = ys) w w' e := by
  have HE := Aside0.mk (EqF_ A B c d xs ys w hl hm)
  clear hl hm
  go_enter Tryd.func17, Tryd.ntmps17
  go_wp2_with fail
  refine HE.out.mono ?_
  rintro e w1 ⟨r, rfl, h⟩
  have H := Aside0.mk h
  clear h
  go_wp2
  go_ret
  exact ⟨r, rfl, H.out⟩
end Go.Proofs.YtefcjnnngaaihaaDoor.Pg
