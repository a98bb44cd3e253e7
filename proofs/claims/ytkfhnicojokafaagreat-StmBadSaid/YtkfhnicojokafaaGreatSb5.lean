import Derived.Test.YtkfhnicojokafaaGreatSb3
import Derived.Test.YtkfhnicojokafaaGreatSb4
/- What the chapter's example fixes: two threads without programs. -/
namespace Go.Proofs.YtkfhnicojokafaaGreat.Co
open Go.RowKit Go.Proofs.YtkfhnicojokafaaGreatW.PrintWords Go.Proofs.YtkfhnicojokafaaGreatW.PrintWords.Kd Go.Proofs.YtkfhnicojokafaaGreatW.PrintLast Go.Proofs.YtkfhnicojokafaaGreatW.PrintMore Go.Proofs.YtkfhnicojokafaaGreat.PMd Go.Proofs.YtkfhnicojokafaaGreat.Ln
set_option linter.unusedVariables false
set_option linter.unusedSimpArgs false
theorem Mach.core {w0 W : World} {lim m b : Nat} {P : Pl} {F : Nat → Prop} {s : CoreS} {phs : List Int} (h : Mach w0 W lim m b P F s phs) : IsCore W b P F s ∧ W.cell? ⟨m, 0, none⟩ = some (.pointer (some ⟨b, 0, none⟩)) := by
  obtain ⟨hA, hc, gs, h1, h2, h3, h4, h5, _⟩ := h
  exact ⟨h5, (blk_cell h1 0).trans rfl⟩
set_option maxHeartbeats 8000000 in
set_option maxRecDepth 100000 in
theorem pick_ {w0 W : World} {lim m b : Nat} {P : Pl} {F : Nat → Prop} {s : CoreS} {phs' : List Int} (n : Int) (r : Bool) (hs0 : 0 ≤ s.now) (hs1 : s.now ≤ 1000000)
    (hp : Calls Tryz.prog 42 #[.pointer (some ⟨m, 0, none⟩), .int .i64 n] W fun e w' => e = .returned (.bool r) ∧ Mach w0 w' lim m b P F s phs' ∧ KeepI W w') :
    Calls Tryz.prog 22 #[.pointer (some ⟨m, 0, none⟩), .int .i64 n] W fun e w' => e = .returned (.bool r) ∧ Mach w0 w' lim m b P F { s with now := s.now + 1 } phs' ∧ KeepI W w' := by
  have hu := Tryz.underlying48
  have hu2 := Tryz.underlying45
  have HP := Aside0.mk hp
  have HS := Aside0.mk (And.intro hs0 hs1)
  clear hp hs0 hs1
  go_enter Tryz.func22, Tryz.ntmps22
  go_wp2_with fail
  refine HP.out.mono ?_
  rintro e w1 ⟨rfl, hM, hK⟩
  have HM := Aside0.mk hM
  have HK := Aside0.mk hK
  obtain ⟨hC, c0⟩ := hM.core
  have HC := Aside0.mk hC
  clear hM hC hK
  go_wp2_with fail
  refine (corePass_ w1 b P F s HC.out HS.out.1 (by have := HS.out.2; omega)).mono ?_
  rintro e w2 ⟨rfl, rfl⟩
  clear c0
  go_wp2
  go_ret
  refine ⟨rfl, HM.out.pass _, fun k cs hk => ?_⟩
  have h2 := HK.out k cs hk
  obtain ⟨_, _, _, _, _, _, _, hcb, _⟩ := HC.out
  exact (Below.heap_setCell w1 ⟨b, 4, none⟩ _ k (typed_ne h2 hcb (by decide))).trans h2
/-- The five picks of the example. -/
def xs5 : List Int := [0, 1, 0, 5, -1]
def ph5 : Nat → List Int
  | 0 => [0, 0]
  | 1 => [6, 0]
  | _ => [6, 6]
def n5 : Nat → Int
  | 0 => 0
  | 1 => 1
  | _ => 2
theorem pick5_ {w0 W : World} {lim m b : Nat} {P : Pl} {F : Nat → Prop} {s : CoreS} (i : Nat) (hi : i < 5) (h : Mach w0 W lim m b P F s (ph5 i)) (hs0 : 0 ≤ s.now) (hs1 : s.now ≤ 1000000) :
    Calls Tryz.prog 22 #[.pointer (some ⟨m, 0, none⟩), .int .i64 (xs5.getD i 0)] W fun e w' => e = .returned (.bool (decide (i < 2))) ∧ Mach w0 w' lim m b P F { s with now := s.now + 1 } (ph5 (i + 1)) ∧ KeepI W w' := by
  match i, hi with
  | 0, _ => exact pick_ 0 true hs0 hs1 ((picksAt_ 0 h (by decide) (.inl rfl)).mono fun e w' h => h)
  | 1, _ => exact pick_ 1 true hs0 hs1 ((picksAt_ 1 h (by decide) (.inl rfl)).mono fun e w' h => h)
  | 2, _ => exact pick_ 0 false hs0 hs1 ((picksAt_ 0 h (by decide) (.inr rfl)).mono fun e w' h => h)
  | 3, _ => exact pick_ 5 false hs0 hs1 ((picksOut_ 5 h (.inr (by decide))).mono fun e w' ⟨h1, h2⟩ => ⟨h1, h2 ▸ h, fun k cs hk => h2 ▸ hk⟩)
  | 4, _ => exact pick_ (-1) false hs0 hs1 ((picksOut_ (-1) h (.inl (by decide))).mono fun e w' ⟨h1, h2⟩ => ⟨h1, h2 ▸ h, fun k cs hk => h2 ▸ hk⟩)
  | i + 5, hi => omega
set_option maxHeartbeats 8000000 in
set_option maxRecDepth 100000 in
theorem run5_ {w0 W : World} {lim m b : Nat} {P : Pl} {F : Nat → Prop} {s : CoreS} (gx : Nat) (h : Mach w0 W lim m b P F s [0, 0]) (hx : W.heap[gx]? = some (.cells #[.int .i64 0, .int .i64 1, .int .i64 0, .int .i64 5, .int .i64 (-1)] 3 (0, 0))) (hs : s.now = 0) :
    Calls Tryz.prog 11 #[.pointer (some ⟨m, 0, none⟩), .slice (some ⟨gx, 0, none⟩) 5 5] W fun e w' => e = .returned (.int .i64 2) ∧ Mach w0 w' lim m b P F { s with now := 5 } [6, 6] := by
  have HM := Aside0.mk (And.intro h hx)
  have HS := Aside0.mk hs
  clear h hx hs
  go_enter Tryz.func11, Tryz.ntmps11
  go_wp2_with fail
  go_loopg [5, 10] 5 (fun gg u5 u10 wr => ∃ i : Nat, i ≤ 5 ∧ 5 - i ≤ gg ∧ u10 = .int .i64 i ∧ u5 = .int .i64 (n5 i) ∧ Aside0 (Mach w0 wr lim m b P F { s with now := i } (ph5 i)) ∧ Aside0 (wr.heap[gx]? = some (.cells #[.int .i64 0, .int .i64 1, .int .i64 0, .int .i64 5, .int .i64 (-1)] 3 (0, 0))))
  case atStart => exact ⟨0, by omega, by omega, rfl, rfl, ⟨by have := HS.out; have h := HM.out.1; rw [show s = { s with now := ((0 : Nat) : Int) } by cases s; simp_all] at h; exact h⟩, ⟨HM.out.2⟩⟩
  case round =>
    obtain ⟨i, hi, hgg, rfl, rfl, HI, HX⟩ := hrel
    by_cases hlt : i < 5
    · have t1 : (i : Int) < 5 := by omega
      have t0 : (0 : Int) ≤ (i : Int) := by omega
      have HP := Aside0.mk (pick5_ i hlt HI.out (by show (0 : Int) ≤ (i : Int); omega) (by show (i : Int) ≤ 1000000; omega))
      have x0 : wr.cell? ⟨gx, i, none⟩ = some (.int .i64 (xs5.getD i 0)) := by
        rw [blk_cell HX.out i]
        match i, hlt with
        | 0, _ => rfl
        | 1, _ => rfl
        | 2, _ => rfl
        | 3, _ => rfl
        | 4, _ => rfl
        | i + 5, h => omega
      have HN := Aside0.mk (show wrap64 (n5 i + 1) = n5 i + 1 ∧ (i < 2 → n5 (i + 1) = n5 i + 1) ∧ (¬ i < 2 → n5 (i + 1) = n5 i) from by
        match i, hlt with
        | 0, _ => exact ⟨by decide +kernel, fun _ => rfl, fun h => by omega⟩
        | 1, _ => exact ⟨by decide +kernel, fun _ => rfl, fun h => by omega⟩
        | 2, _ => exact ⟨by decide +kernel, fun h => by omega, fun _ => rfl⟩
        | 3, _ => exact ⟨by decide +kernel, fun h => by omega, fun _ => rfl⟩
        | 4, _ => exact ⟨by decide +kernel, fun h => by omega, fun _ => rfl⟩
        | i + 5, h => omega)
      have HJ := Aside0.mk (And.intro hlt hgg)
      generalize n5 i = nn at HN ⊢
      generalize xs5.getD i 0 = xv at x0 HP
      clear hi hgg hlt
      go_wp2_with fail
      refine HP.out.mono ?_
      rintro e w3 ⟨rfl, hM3, hK3⟩
      have HM3 := Aside0.mk (And.intro hM3 (hK3 _ _ HX.out))
      clear hM3 hK3 x0
      by_cases h2 : i < 2
      · have hd : decide (i < 2) = true := decide_eq_true h2
        have HN1 := Aside0.mk (HN.out.2.1 h2)
        clear h2
        go_wp2
        go_roundg (5 - (i + 1))
        case measure => have := HJ.out; omega
        case rel => exact ⟨i + 1, by have := HJ.out; omega, by have := HJ.out; omega, by first | rfl | (congr 1; omega) | skip, by rw [HN.out.1, HN1.out], ⟨HM3.out.1⟩, ⟨HM3.out.2⟩⟩
      · have hd : decide (i < 2) = false := decide_eq_false h2
        have HN1 := Aside0.mk (HN.out.2.2 h2)
        clear h2
        go_wp2
        go_roundg (5 - (i + 1))
        case measure => have := HJ.out; omega
        case rel => exact ⟨i + 1, by have := HJ.out; omega, by have := HJ.out; omega, by first | rfl | (congr 1; omega) | skip, by rw [HN1.out], ⟨HM3.out.1⟩, ⟨HM3.out.2⟩⟩
    · obtain rfl : i = 5 := by omega
      have HF := Aside0.mk HI.out
      clear hi hgg hlt HI
      go_wp2
      go_ret
      exact ⟨rfl, HF.out⟩
set_option maxHeartbeats 8000000 in
set_option maxRecDepth 100000 in
theorem handOut_ {w0 W : World} {lim m b : Nat} {P : Pl} {F : Nat → Prop} {s : CoreS} (h : Mach w0 W lim m b P F s [6, 6]) :
    Calls Tryz.prog 12 #[.pointer (some ⟨m, 0, none⟩), .int .i64 2] W fun e w' => e = .returned (.pointer none) ∧ w' = W := by
  have hu := Tryz.underlying48
  obtain ⟨hA, hc, gs, c0, c1, _, _, _⟩ := h.open_
  clear h
  go_enter Tryz.func12, Tryz.ntmps12
  go_wp2
  go_ret
  exact ⟨rfl, rfl⟩
def SomeP (w w' : World) (e : Ending) : Prop := ∃ g, e = .returned (.pointer (some ⟨g, 0, none⟩)) ∧ w' = w
set_option maxHeartbeats 8000000 in
set_option maxRecDepth 100000 in
theorem hand0_ {w0 W : World} {lim m b : Nat} {P : Pl} {F : Nat → Prop} {s : CoreS} (h : Mach w0 W lim m b P F s [6, 6]) :
    Calls Tryz.prog 12 #[.pointer (some ⟨m, 0, none⟩), .int .i64 0] W fun e w' => SomeP W w' e := by
  have hu := Tryz.underlying48
  obtain ⟨hA, hc, gs, c0, c1, hl, hR, _⟩ := h.open_
  obtain ⟨ad, rfl, hcell⟩ := Row.ads hR (by decide)
  have hg0 : 0 < gs.length := by rw [hl]; decide
  have q0 : W.cell? (ad.add 0) = some (.pointer (some ⟨gs[0], 0, none⟩)) := hcell 0 _ (by rw [List.getElem?_map, List.getElem?_eq_getElem hg0]; rfl)
  have q1 : W.cell? ad = some (.pointer (some ⟨gs[0], 0, none⟩)) := by simpa [Addr.add] using q0
  clear h hR hcell hl
  generalize gs[0] = g at q0 q1
  clear hg0
  go_enter Tryz.func12, Tryz.ntmps12
  go_wp2
  go_ret
  exact ⟨g, rfl, rfl⟩
set_option maxHeartbeats 8000000 in
set_option maxRecDepth 100000 in
theorem sharedCore_ (b : Nat) (w : World) : Calls Tryz.prog 13 #[.agg #[.pointer (some ⟨b, 0, none⟩)]] w fun e w' => e = .returned (.pointer (some ⟨b, 0, none⟩)) ∧ Below w.heap.size w w' := by
  have hu := Tryz.underlying45
  go_enter Tryz.func13, Tryz.ntmps13
  go_wp2
  go_ret
  exact ⟨rfl, below_alloc (Below.refl _ _) _⟩
def c2 : Cf := ⟨1, 1, 1, 1, 2, 0, 1, 9, 1, 0, 9, 0⟩
theorem c2_inb : InB 1 1 1 1 2 0 1 9 1 0 9 0 := by unfold InB; decide
theorem c2_words : shape_Words.f 1 1 1 1 2 0 1 9 1 0 9 0 = some 1 := by decide +kernel
theorem c2_cells : shape_Cells.f 1 1 1 1 2 0 1 9 1 0 9 0 = some 9 := by decide +kernel
theorem c2_nodes : shape_Nodes.f 1 1 1 1 2 0 1 9 1 0 9 0 = some 3 := by decide +kernel
set_option maxHeartbeats 16000000 in
set_option maxRecDepth 100000 in
theorem stmFirst_ (w : World) : Calls Tryz.prog 4 #[] w fun e w' => e = .returned (.bool true) ∧ Below w.heap.size w w' := by
  have hu := Tryz.underlying23
  have hu2 := Tryz.underlying48
  have hu3 := Tryz.underlying45
  have hb := below_alloc (below_alloc (Below.refl w.heap.size w) (.cells #[.int .i64 1, .int .i64 1, .int .i64 1, .int .i64 1, .int .i64 2, .int .i64 0, .int .i64 1, .int .i64 9, .int .i64 1, .int .i64 0, .int .i64 9, .int .i64 0] 23)) (.cells #[.int .i64 0] 3)
  have hv := ints_lit (w.alloc (.cells #[.int .i64 1, .int .i64 1, .int .i64 1, .int .i64 1, .int .i64 2, .int .i64 0, .int .i64 1, .int .i64 9, .int .i64 1, .int .i64 0, .int .i64 9, .int .i64 0] 23)) [0] (by simp)
  rw [show (w.alloc (.cells #[.int .i64 1, .int .i64 1, .int .i64 1, .int .i64 1, .int .i64 2, .int .i64 0, .int .i64 1, .int .i64 9, .int .i64 1, .int .i64 0, .int .i64 9, .int .i64 0] 23)).heap.size = w.heap.size + 1 by simp] at hv
  have HN : Aside0 (Calls Tryz.prog 8 #[.agg #[.int .i64 1, .int .i64 1, .int .i64 1, .int .i64 1, .int .i64 2, .int .i64 0, .int .i64 1, .int .i64 9, .int .i64 1, .int .i64 0, .int .i64 9, .int .i64 0], .slice (some ⟨w.heap.size + 1, 0, none⟩) 1 1, .slice none 0 0] ((w.alloc (.cells #[.int .i64 1, .int .i64 1, .int .i64 1, .int .i64 1, .int .i64 2, .int .i64 0, .int .i64 1, .int .i64 9, .int .i64 1, .int .i64 0, .int .i64 9, .int .i64 0] 23)).alloc (.cells #[.int .i64 0] 3)) _) :=
    ⟨stmNew_ c2 2 rfl (some ⟨w.heap.size + 1, 0, none⟩) 1 [0] _ 9 3 hv (Nat.le_refl _) c2_inb c2_words c2_cells c2_nodes (by simp) (by simp) (by omega) (by omega) (by omega)⟩
  have HB := Aside0.mk hb
  clear hb hv
  go_enter Tryz.func4, Tryz.ntmps4
  go_wp2_with fail
  refine HN.out.mono ?_
  rintro e w1 ⟨m, b, P, F, lim, rfl, hM⟩
  have HM := Aside0.mk hM
  have HB1 := Aside0.mk (show Below w.heap.size w w1 by
    obtain ⟨_, _, _, _, _, _, _, _, _, _, _, _, _, h⟩ := hM
    exact below_then HB.out HB.out.size h)
  clear hM HN
  go_wp2_with fail
  refine (over_ HM.out).mono ?_
  rintro e w2 ⟨r, rfl, hr, hb⟩
  obtain rfl : r = false := by
    cases r with
    | false => rfl
    | true => exact absurd (hr.1 rfl 0 (by simp)) (by simp)
  have HM2 := Aside0.mk (HM.out.below hb)
  have HB2 := Aside0.mk (below_then HB1.out HB1.out.size hb)
  clear hr hb
  go_wp2_with fail
  refine (quiet_ HM2.out).mono ?_
  rintro e w3 ⟨r, rfl, hr, hb⟩
  obtain rfl : r = true := hr.2 (by intro ph hp; simp at hp; subst hp; simp)
  have HM3 := Aside0.mk (HM2.out.below hb)
  have HB3 := Aside0.mk (below_then HB2.out HB2.out.size hb)
  clear hr hb
  have ha := below_alloc (Below.refl w3.heap.size w3) (.cells #[.int .i64 0, .int .i64 1, .int .i64 0, .int .i64 5, .int .i64 (-1)] 3)
  have HR := Aside0.mk (run5_ w3.heap.size (HM3.out.below ha) (blk_new w3 _) rfl)
  clear ha
  go_wp2_with fail
  refine HR.out.mono ?_
  rintro e w4 ⟨rfl, hM⟩
  have HM4 := Aside0.mk hM
  clear hM HR
  go_wp2_with fail
  refine (over_ HM4.out).mono ?_
  rintro e w5 ⟨r, rfl, hr, hb⟩
  obtain rfl : r = true := hr.2 (by intro ph hp; simp at hp; subst hp; simp)
  have HM5 := Aside0.mk (HM4.out.below hb)
  clear hr hb
  go_wp2_with fail
  refine (handOut_ HM5.out).mono ?_
  rintro e w6 ⟨rfl, rfl⟩
  go_wp2_with fail
  refine (hand0_ HM5.out).mono ?_
  rintro e w7 ⟨g, rfl, rfl⟩
  have c0 := HM5.out.core.2
  go_wp2_with fail
  refine (sharedCore_ b _).mono ?_
  rintro e w8 ⟨rfl, hb⟩
  have HM8 := Aside0.mk (HM5.out.below hb)
  clear hb c0
  have c0 := HM8.out.core.2
  go_wp2_with fail
  refine (sharedCore_ b _).mono ?_
  rintro e w9 ⟨rfl, hb⟩
  have HM9 := Aside0.mk (HM8.out.below hb)
  clear hb c0
  go_wp2_with fail
  refine (coreNow_ w9 b P F _ HM9.out.core.1).mono ?_
  rintro e wa ⟨rfl, rfl⟩
  go_wp2
  go_ret
  obtain ⟨_, _, _, _, _, _, _, _, _, _, _, _, _, h⟩ := HM9.out
  exact ⟨rfl, below_then HB.out HB.out.size h⟩
end Go.Proofs.YtkfhnicojokafaaGreat.Co
