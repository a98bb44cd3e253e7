import Derived.Test.YtefcjnnngaaihaaDoorPrR
import Derived.Test.YtefcjnnngaaihaaDoorPrP
/- ProgWords: what a line names. -/
namespace Go.Proofs.YtefcjnnngaaihaaDoor.Pg
open Go.RowKit Go.Proofs.Pg Go.Proofs.YtefcjnnngaaihaaDoor.Ln Go.Proofs.YtefcjnnngaaihaaDoorW.PrintWords Go.Proofs.YtefcjnnngaaihaaDoorW.PrintWords.Kd Go.Proofs.YtefcjnnngaaihaaDoor.PPg
set_option linter.unusedVariables false
set_option linter.unusedSimpArgs false
theorem i64_wf {a : Int} (h : (Lit.int .i64 a).wf = true) : I64 a := by
  unfold I64
  simp [Lit.wf, IntKind.wrap, IntKind.bits, IntKind.signed, IntKind.min, IntKind.max] at h
  omega
theorem Own.lit {w W : World} {vs : List Value} {xs : List In} {g : Nat} (h : W.heap[g]? = some (.cells vs.toArray 26 (0, 0))) (hl : vs.length = xs.length * 5) (hs : xs.length ≤ 1000) (hg : w.heap.size ≤ g) (hb : Below w.heap.size w W)
    (hx : ∀ j x, xs[j]? = some x → ∃ A5 c5, (vs.drop (j * 5)).take 5 = cellsI x A5 c5 ∧ Row W 3 1 A5 x.l.length c5 (vi x.l)) : Own w W xs g 0 xs.length :=
  ⟨hg, hb, vs, ⟨hl, Nat.le_refl _, by unfold maxLen; omega, .inr ⟨g, 0, vs.toArray, rfl, h, by show 0 + xs.length * 5 ≤ vs.toArray.size; rw [List.size_toArray]; omega, by show (vs.drop 0).take _ = vs; rw [List.drop_zero, List.take_of_length_le (by omega)]⟩⟩, hx⟩
theorem C_one {W : World} {g off : Nat} {k a b c : Int} (h0 : W.cell? ⟨g, off, none⟩ = some (.int .i64 k)) (h1 : W.cell? ⟨g, off + 1, none⟩ = some (.int .i64 a)) (h2 : W.cell? ⟨g, off + 2, none⟩ = some (.int .i64 b)) (h3 : W.cell? ⟨g, off + 3, none⟩ = some (.int .i64 c))
    (h4 : W.cell? ⟨g, off + 4, none⟩ = some (.slice none 0 0)) : Kd.C k26 W (some ⟨g, off, none⟩) ([({ k := k, a := a, b := b, c := c } : In)]).length ([({ k := k, a := a, b := b, c := c } : In)].map toS) := by
  refine ⟨rfl, by simp, fun _ => ⟨_, rfl, fun j p hj => ?_⟩⟩
  have hj0 : j = 0 := by
    have := (List.getElem?_eq_some_iff.1 hj).1; simp at this; exact this
  subst hj0
  obtain rfl : toS { k := k, a := a, b := b, c := c } = p := by simpa using hj
  refine ⟨[.int .i64 k, .int .i64 a, .int .i64 b, .int .i64 c, .slice none 0 0], rfl, k26_mk W _ (Nat.le_refl _) ⟨rfl, (by show 0 ≤ 9223372036854775807; omega), fun h => absurd h (Nat.lt_irrefl 0)⟩, fun i u hu => ?_⟩
  rw [Addr.add_lit]
  show W.cell? ⟨g, off + (0 * 5 + i), none⟩ = some u
  rw [Nat.zero_mul, Nat.zero_add]
  match i, hu with
  | 0, hu => obtain rfl : Value.int .i64 k = u := by simpa using hu
             exact h0
  | 1, hu => obtain rfl : Value.int .i64 a = u := by simpa using hu
             exact h1
  | 2, hu => obtain rfl : Value.int .i64 b = u := by simpa using hu
             exact h2
  | 3, hu => obtain rfl : Value.int .i64 c = u := by simpa using hu
             exact h3
  | 4, hu => obtain rfl : Value.slice none 0 0 = u := by simpa using hu
             exact h4
  | i + 5, hu => simp at hu
def seven (a b c : Int) : List In := [{ k := 1, a := a, b := b, c := c }, { k := 2, a := a, b := b, c := c }, { k := 3, a := a, b := b }, { k := 4, a := a, b := b, l := [c, a] }, { k := 5, a := a, b := b }, { k := 6 }, { k := 7 }]
def sevenC (a b c : Int) (g : Nat) : List Value := [.int .i64 1, .int .i64 a, .int .i64 b, .int .i64 c, .slice none 0 0, .int .i64 2, .int .i64 a, .int .i64 b, .int .i64 c, .slice none 0 0, .int .i64 3, .int .i64 a, .int .i64 b, .int .i64 0, .slice none 0 0,
  .int .i64 4, .int .i64 a, .int .i64 b, .int .i64 0, .slice (some ⟨g, 0, none⟩) 2 2, .int .i64 5, .int .i64 a, .int .i64 b, .int .i64 0, .slice none 0 0, .int .i64 6, .int .i64 0, .int .i64 0, .int .i64 0, .slice none 0 0, .int .i64 7, .int .i64 0, .int .i64 0, .int .i64 0, .slice none 0 0]
theorem seven_ok {a b c : Int} (ha : I64 a) (hb : I64 b) (hc : I64 c) : ∀ x ∈ seven a b c, (1 ≤ x.k ∧ x.k ≤ 7) ∧ OkI x := by
  have h0 : I64 0 := by unfold I64; omega
  intro x hx
  simp only [seven, List.mem_cons, List.not_mem_nil, or_false] at hx
  rcases hx with rfl | rfl | rfl | rfl | rfl | rfl | rfl
  · exact ⟨(by constructor <;> (simp only; omega)), ha, hb, hc, by simp⟩
  · exact ⟨(by constructor <;> (simp only; omega)), ha, hb, hc, by simp⟩
  · exact ⟨(by constructor <;> (simp only; omega)), ha, hb, h0, by simp⟩
  · exact ⟨(by constructor <;> (simp only; omega)), ha, hb, h0, by intro v hv; simp at hv; rcases hv with rfl | rfl <;> assumption⟩
  · exact ⟨(by constructor <;> (simp only; omega)), ha, hb, h0, by simp⟩
  · exact ⟨(by constructor <;> (simp only; omega)), h0, h0, h0, by simp⟩
  · exact ⟨(by constructor <;> (simp only; omega)), h0, h0, h0, by simp⟩
theorem seven_canon (a b c : Int) : (seven a b c).map canon = seven a b c := by simp [seven, canon, word]
theorem seven_own {w W : World} {g : Nat} (a b c : Int) (h : W.heap[g + 1]? = some (.cells (sevenC a b c g).toArray 26 (0, 0))) (hi : W.heap[g]? = some (.cells #[.int .i64 c, .int .i64 a] 3 (0, 0))) (hg : w.heap.size ≤ g) (hb : Below w.heap.size w W) : Own w W (seven a b c) (g + 1) 0 7 := by
  refine Own.lit (xs := seven a b c) h rfl (by show 7 ≤ 1000; omega) (by omega) hb (fun j x hx => ?_)
  have hr : Row W 3 1 (some ⟨g, 0, none⟩) 2 2 [.int .i64 c, .int .i64 a] := ⟨rfl, Nat.le_refl _, by simp [maxLen], .inr ⟨g, 0, _, rfl, hi, by simp, by simp⟩⟩
  match j, hx with
  | 0, hx => obtain rfl := Option.some.inj hx; exact ⟨none, 0, rfl, Row.zero _ _ _⟩
  | 1, hx => obtain rfl := Option.some.inj hx; exact ⟨none, 0, rfl, Row.zero _ _ _⟩
  | 2, hx => obtain rfl := Option.some.inj hx; exact ⟨none, 0, rfl, Row.zero _ _ _⟩
  | 3, hx => obtain rfl := Option.some.inj hx; exact ⟨some ⟨g, 0, none⟩, 2, rfl, hr⟩
  | 4, hx => obtain rfl := Option.some.inj hx; exact ⟨none, 0, rfl, Row.zero _ _ _⟩
  | 5, hx => obtain rfl := Option.some.inj hx; exact ⟨none, 0, rfl, Row.zero _ _ _⟩
  | 6, hx => obtain rfl := Option.some.inj hx; exact ⟨none, 0, rfl, Row.zero _ _ _⟩
  | j + 7, hx => simp [seven] at hx
/-- Print, then Parse: what was named. -/
theorem Parse_lines (A : Option Addr) (c : Nat) (xs : List In) (w : World) (hE : Env w) (hC : Kd.string.C w A (xs.map lnB).length (xs.map lnB)) (hcap : (xs.map lnB).length ≤ c) (hl : xs.length ≤ 1000) (hx : ∀ x ∈ xs, ((1 ≤ x.k ∧ x.k ≤ 7) ∧ OkI x) ∧ x.l.length ≤ 1000) :
    Calls Tryd.prog 16 #[.slice A (xs.map lnB).length c] w fun e w' => Parsed w w' e (some (xs.map canon)) ∧ Below w.heap.size w w' := by
  have h := Parse_ A c (xs.map lnB) w hE hC hcap (by rw [List.length_map]; omega) (fun s hs => by
    obtain ⟨x, hx1, rfl⟩ := List.mem_map.1 hs
    exact lnB_size (hx x hx1).1.2 (hx x hx1).2)
  rw [lnB_data, lines_parse xs (fun x hx1 => (hx x hx1).1)] at h
  exact h
set_option maxHeartbeats 16000000 in
set_option maxRecDepth 100000 in
theorem words_walk (a b c : Int) (w : World) (hE : Env w) (wa : (Lit.int .i64 a).wf = true) (wb : (Lit.int .i64 b).wf = true) (wc : (Lit.int .i64 c).wf = true) :
    Calls Tryd.prog 6 #[.int .i64 a, .int .i64 b, .int .i64 c] w fun e w' => e = .returned (.bool true) ∧ Below w.heap.size w w' := by
  have hu2 := Tryd.underlying26
  have HE := Aside0.mk (fun W (hb : Below w.heap.size w W) => hE.below hb)
  have HF := Aside0.mk (fun W (hb : Below w.heap.size w W) => first_ W (hE.below hb))
  have HOK := Aside0.mk (seven_ok (i64_wf wa) (i64_wf wb) (i64_wf wc))
  clear hE wa wb wc
  go_enter Tryd.func6, Tryd.ntmps6
  go_wp2_with fail
  refine (HF.out _ (Below.refl _ _)).mono ?_
  rintro e w1 ⟨rfl, hb⟩
  obtain ⟨g, hg⟩ : ∃ g, g = w1.heap.size := ⟨_, rfl⟩
  have b3 := below_alloc (below_alloc hb (.cells #[.int .i64 c, .int .i64 a] 3)) (.cells (sevenC a b c w1.heap.size).toArray 26)
  have bi : ((w1.alloc (.cells #[.int .i64 c, .int .i64 a] 3)).alloc (.cells (sevenC a b c w1.heap.size).toArray 26)).heap[w1.heap.size]? = some (.cells #[.int .i64 c, .int .i64 a] 3 (0, 0)) := by
    rw [(below_alloc (Below.refl _ _) _).block _ (by simp)]; exact heap_alloc_new _ _
  have bs : ((w1.alloc (.cells #[.int .i64 c, .int .i64 a] 3)).alloc (.cells (sevenC a b c w1.heap.size).toArray 26)).heap[w1.heap.size + 1]? = some (.cells (sevenC a b c w1.heap.size).toArray 26 (0, 0)) := by
    have h := heap_alloc_new (w1.alloc (.cells #[.int .i64 c, .int .i64 a] 3)) (.cells (sevenC a b c w1.heap.size).toArray 26)
    rw [show (w1.alloc (.cells #[.int .i64 c, .int .i64 a] 3)).heap.size = w1.heap.size + 1 by simp] at h; exact h
  have HO := Aside0.mk (seven_own (w := w) a b c bs bi hb.size b3)
  have HBS := Aside0.mk bs
  have HP : Aside0 (Calls Tryd.prog 15 #[.slice (some ⟨w1.heap.size + 1, 0, none⟩) 7 7] ((w1.alloc (.cells #[.int .i64 c, .int .i64 a] 3)).alloc (.cells (sevenC a b c w1.heap.size).toArray 26)) _) :=
    ⟨Print_ (some ⟨w1.heap.size + 1, 0, none⟩) 7 (seven a b c) _ (HE.out _ b3) HO.out.C.2 (by show 7 ≤ 1000; omega) (fun x hx => ⟨(HOK.out x hx).2, by simp only [seven, List.mem_cons, List.not_mem_nil, or_false] at hx; rcases hx with rfl | rfl | rfl | rfl | rfl | rfl | rfl <;> simp⟩)⟩
  have HB1 := Aside0.mk hb
  clear hb b3 bi bs
  have HSV := Aside0.mk (show ∀ x ∈ seven a b c, ((1 ≤ x.k ∧ x.k ≤ 7) ∧ OkI x) ∧ x.l.length ≤ 1000 from fun x hx => ⟨HOK.out x hx, by simp only [seven, List.mem_cons, List.not_mem_nil, or_false] at hx; rcases hx with rfl | rfl | rfl | rfl | rfl | rfl | rfl <;> simp⟩)
  clear hg g
  go_wp2_with fail
  refine HP.out.mono ?_
  rintro e w4 ⟨v, rfl, hO⟩
  have hb4 := hO.choose_spec.choose_spec.2.2.2
  have HO4 := Aside0.mk (HO.out.after hb4)
  have HG4 := Aside0.mk ((hb4.block _ (Array.getElem?_eq_some_iff.1 HBS.out).1).trans HBS.out)
  obtain ⟨A2, c2, rfl, hcap, hC⟩ := hO.C
  have HPa := Aside0.mk (Parse_lines A2 c2 (seven a b c) w4 (HE.out _ HO4.out.2.1) hC hcap (by show 7 ≤ 1000; omega) HSV.out)
  rw [seven_canon] at HPa
  have HL7 : (List.map lnB (seven a b c)).length = 7 := rfl
  clear hO hcap hC hb4 HP
  go_wp2_with fail
  refine HPa.out.mono ?_
  rintro e w5 ⟨⟨A5, c5, rfl, hcap, hC⟩, hb5⟩
  have HO5 := Aside0.mk (HO4.out.after hb5)
  have hG5 := (hb5.block _ (Array.getElem?_eq_some_iff.1 HG4.out).1).trans HG4.out
  have HG5 := Aside0.mk hG5
  have HX5 := Aside0.mk (And.intro hcap hC)
  have x0 : w5.cell? ⟨w1.heap.size + 1, 25, none⟩ = some (.int .i64 6) := (blk_cell hG5 25).trans rfl
  have x1 : w5.cell? ⟨w1.heap.size + 1, 26, none⟩ = some (.int .i64 0) := (blk_cell hG5 26).trans rfl
  have x2 : w5.cell? ⟨w1.heap.size + 1, 27, none⟩ = some (.int .i64 0) := (blk_cell hG5 27).trans rfl
  have x3 : w5.cell? ⟨w1.heap.size + 1, 28, none⟩ = some (.int .i64 0) := (blk_cell hG5 28).trans rfl
  have x4 : w5.cell? ⟨w1.heap.size + 1, 29, none⟩ = some (.slice none 0 0) := (blk_cell hG5 29).trans rfl
  clear hG5 hcap hC hb5 HPa HL7
  have b7 := below_alloc (below_alloc (Below.refl w5.heap.size w5) (.cells #[.int .i64 6, .int .i64 9, .int .i64 0, .int .i64 0, .slice none 0 0] 26)) (.cells #[.int .i64 6, .int .i64 9, .int .i64 0, .int .i64 0, .slice none 0 0] 26)
  have n7 : ((w5.alloc (.cells #[.int .i64 6, .int .i64 9, .int .i64 0, .int .i64 0, .slice none 0 0] 26)).alloc (.cells #[.int .i64 6, .int .i64 9, .int .i64 0, .int .i64 0, .slice none 0 0] 26)).heap[w5.heap.size + 1]? = some (.cells #[.int .i64 6, .int .i64 9, .int .i64 0, .int .i64 0, .slice none 0 0] 26 (0, 0)) := by
    have h := heap_alloc_new (w5.alloc (.cells #[.int .i64 6, .int .i64 9, .int .i64 0, .int .i64 0, .slice none 0 0] 26)) (.cells #[.int .i64 6, .int .i64 9, .int .i64 0, .int .i64 0, .slice none 0 0] 26)
    rw [show (w5.alloc (.cells #[.int .i64 6, .int .i64 9, .int .i64 0, .int .i64 0, .slice none 0 0] 26)).heap.size = w5.heap.size + 1 by simp] at h; exact h
  have HB7 := Aside0.mk b7
  have HO7 := Aside0.mk (HO5.out.after b7)
  have h0 : I64 0 := by unfold I64; omega
  have h9 : I64 9 := by unfold I64; omega
  have HOK9 : Aside0 (∀ x ∈ [({ k := 6, a := 9 } : In)], ((1 ≤ x.k ∧ x.k ≤ 7) ∧ OkI x) ∧ x.l.length ≤ 1000) := ⟨fun x hx => by
    obtain rfl := List.mem_singleton.1 hx
    exact ⟨⟨(by constructor <;> (simp only; omega)), h9, h0, h0, by simp⟩, by simp⟩⟩
  have HP2 : Aside0 (Calls Tryd.prog 15 #[.slice (some ⟨w5.heap.size + 1, 0, none⟩) 1 1] ((w5.alloc (.cells #[.int .i64 6, .int .i64 9, .int .i64 0, .int .i64 0, .slice none 0 0] 26)).alloc (.cells #[.int .i64 6, .int .i64 9, .int .i64 0, .int .i64 0, .slice none 0 0] 26)) _) :=
    ⟨Print_ (some ⟨w5.heap.size + 1, 0, none⟩) 1 [({ k := 6, a := 9 } : In)] _ (HE.out _ HO7.out.2.1) (C_one (off := 0) ((blk_cell n7 0).trans rfl) ((blk_cell n7 1).trans rfl) ((blk_cell n7 2).trans rfl) ((blk_cell n7 3).trans rfl) ((blk_cell n7 4).trans rfl)) (by show 1 ≤ 1000; omega) (fun x hx => ⟨(HOK9.out x hx).1.2, (HOK9.out x hx).2⟩)⟩
  clear b7 n7 h0 h9
  go_wp2_with fail
  refine HP2.out.mono ?_
  rintro e w8 ⟨v, rfl, hO⟩
  have hb8 := hO.choose_spec.choose_spec.2.2.2
  have HO8 := Aside0.mk (HO7.out.after hb8)
  have HB8 := Aside0.mk (HB7.out.trans (Below.low hb8 HB7.out.size))
  obtain ⟨A8, c8, rfl, hcap, hC⟩ := hO.C
  have HPa := Aside0.mk (Parse_lines A8 c8 [({ k := 6, a := 9 } : In)] w8 (HE.out _ HO8.out.2.1) hC hcap (by show 1 ≤ 1000; omega) HOK9.out)
  rw [show [({ k := 6, a := 9 } : In)].map canon = [{ k := 6 }] by simp [canon, word]] at HPa
  clear hO hcap hC hb8 HP2 x0 x1 x2 x3 x4
  go_wp2_with fail
  refine HPa.out.mono ?_
  rintro e w9 ⟨⟨A9, c9, rfl, hcap, hC⟩, hb9⟩
  have HO9 := Aside0.mk (HO8.out.after hb9)
  have HB9 := Aside0.mk (HB8.out.trans (Below.low hb9 HB8.out.size))
  have HX9 := Aside0.mk (And.intro hcap hC)
  clear hcap hC hb9 HPa
  go_wp2_with fail
  refine (HF.out _ HO9.out.2.1).mono ?_
  rintro e wa ⟨rfl, hb⟩
  have HOa := Aside0.mk (HO9.out.after hb)
  have HXa := Aside0.mk (C_below HX9.out.2 hb)
  have HS1 := Aside0.mk (Same_ A5 (some ⟨w1.heap.size + 1, 0, none⟩) c5 7 (seven a b c) (seven a b c) wa (C_below (C_below HX5.out.2 HB9.out) hb) HOa.out.C.2)
  have HGa := Aside0.mk ((hb.block _ (Array.getElem?_eq_some_iff.1 (show w9.heap[w1.heap.size + 1]? = _ from (HB9.out.block _ (Array.getElem?_eq_some_iff.1 HG5.out).1).trans HG5.out)).1).trans ((HB9.out.block _ (Array.getElem?_eq_some_iff.1 HG5.out).1).trans HG5.out))
  clear hb
  go_wp2_with fail
  refine HS1.out.mono ?_
  rintro e wb ⟨r, rfl, hr, hb⟩
  obtain rfl : r = true := hr.2 (by first | trivial | rfl)
  have HOb := Aside0.mk (HOa.out.after hb)
  have hGb := (hb.block _ (Array.getElem?_eq_some_iff.1 HGa.out).1).trans HGa.out
  have HS2 : Aside0 (Calls Tryd.prog 17 #[.slice A9 1 c9, .slice (some ⟨w1.heap.size + 1, 25, none⟩) 1 2] wb _) :=
    ⟨Same_ A9 (some ⟨w1.heap.size + 1, 25, none⟩) c9 2 [{ k := 6 }] [{ k := 6 }] wb (C_below HXa.out hb) (C_one (off := 25) ((blk_cell hGb 25).trans rfl) ((blk_cell hGb 26).trans rfl) ((blk_cell hGb 27).trans rfl) ((blk_cell hGb 28).trans rfl) ((blk_cell hGb 29).trans rfl))⟩
  clear hb hr hGb HS1
  go_wp2_with fail
  refine HS2.out.mono ?_
  rintro e wc ⟨r, rfl, hr, hb⟩
  obtain rfl : r = true := hr.2 (by first | trivial | rfl)
  have HOc := Aside0.mk (HOb.out.after hb)
  clear hb hr HS2
  go_wp2
  go_ret
  exact ⟨rfl, HOc.out.2.1⟩
end Go.Proofs.YtefcjnnngaaihaaDoor.Pg
