/- BoundMore: its walk. -/
import Derived.Test.YtfdnhhjggophcaaBq
import Derived.Test.YtfdnhhjggophcaaBmP
import Derived.Test.YtfdnhhjggophcaaBmA
import Derived.Deep.RegionHeld3
import Derived.IntWalk
import Derived.Deep.RegionLaw
import Derived.Deep.DrawnRows
import Derived.Outline
namespace Go.Proofs.Ytfdnhhjggophcaa.Bo
open Go.RowKit Go.Proofs.Ytfdnhhjggophcaa.PAb Go.Proofs.YtfdnhhjggophcaaW.PrintWords Go.Proofs.YtfdnhhjggophcaaW.PrintLast Go.Proofs.YtfdnhhjggophcaaW.PrintMore
set_option linter.unusedVariables false
set_option linter.unusedSimpArgs false
attribute [local go_sem ↓] Go.wp_at_zero Go.wp_at_succ
/-- A configuration. -/
structure Cf where
  (f0 f1 f2 f3 f4 f5 f6 f7 f8 f9 f10 f11 : Int)
set_option maxHeartbeats 4000000 in
theorem more_early (c : Cf) (A1 : Option Addr) (c1 : Nat) (p : List Ins) (A2 : Option Addr) (c2 : Nat) (q : List Ins) (w : Int) (A4 : Option Addr) (c4 : Nat) (l : List Int) (cut : Int) (W : World) (h : 60 < p.length ∨ 60 < q.length ∨ 300 < l.length ∨ cut < 0 ∨ (l.length : Int) < cut ∨ w < 1 ∨ 300 < w) :
    Calls Try.prog 5 #[.agg #[.int .i64 c.f0, .int .i64 c.f1, .int .i64 c.f2, .int .i64 c.f3, .int .i64 c.f4, .int .i64 c.f5, .int .i64 c.f6, .int .i64 c.f7, .int .i64 c.f8, .int .i64 c.f9, .int .i64 c.f10, .int .i64 c.f11], .slice A1 p.length c1, .slice A2 q.length c2, .int .i64 w, .slice A4 l.length c4, .int .i64 cut] W fun e w' => e = .returned (.bool true) ∧ Below W.heap.size W w' := by
  have HF := Aside0.mk (fun W => ltklaw21_first.calls 60 true W first_at)
  have key : ∀ b0 b1 b2 b3 b4 b5 b6 : Bool, decide (p.length > 60) = b0 → decide (q.length > 60) = b1 → decide (l.length > 300) = b2 → decide (cut < 0) = b3 → decide (cut > (l.length : Int)) = b4 → decide (w < 1) = b5 → decide (w > 300) = b6 → (b0 || b1 || b2 || b3 || b4 || b5 || b6) = true →
      Calls Try.prog 5 #[.agg #[.int .i64 c.f0, .int .i64 c.f1, .int .i64 c.f2, .int .i64 c.f3, .int .i64 c.f4, .int .i64 c.f5, .int .i64 c.f6, .int .i64 c.f7, .int .i64 c.f8, .int .i64 c.f9, .int .i64 c.f10, .int .i64 c.f11], .slice A1 p.length c1, .slice A2 q.length c2, .int .i64 w, .slice A4 l.length c4, .int .i64 cut] W fun e w' => e = .returned (.bool true) ∧ Below W.heap.size W w' := by
    intro b0 b1 b2 b3 b4 b5 b6 hb0 hb1 hb2 hb3 hb4 hb5 hb6 h
    have hb0' : decide ((p.length : Int) > 60) = b0 := by rw [← hb0]; exact decide_eq_decide.2 (by omega)
    have hb1' : decide ((q.length : Int) > 60) = b1 := by rw [← hb1]; exact decide_eq_decide.2 (by omega)
    have hb2' : decide ((l.length : Int) > 300) = b2 := by rw [← hb2]; exact decide_eq_decide.2 (by omega)
    cases b0 with
    | true =>
      go_enter Try.func5, Try.ntmps5
      go_wp2_with fail
      refine (HF.out _).mono ?_
      rintro e w1 ⟨rfl, hb1⟩
      have HB := Aside0.mk (below_then (below_alloc (Below.refl _ _) _) (below_alloc (Below.refl _ _) _).size hb1)
      clear hb1
      go_wp2_with fail
      refine (HF.out w1).mono ?_
      rintro e w2 ⟨rfl, hb2⟩
      have HB2 := Aside0.mk (below_then HB.out HB.out.size hb2)
      clear hb2
      go_wp2
      go_ret
      exact ⟨rfl, HB2.out⟩
    | false =>
    cases b1 with
    | true =>
      go_enter Try.func5, Try.ntmps5
      go_wp2_with fail
      refine (HF.out _).mono ?_
      rintro e w1 ⟨rfl, hb1⟩
      have HB := Aside0.mk (below_then (below_alloc (Below.refl _ _) _) (below_alloc (Below.refl _ _) _).size hb1)
      clear hb1
      go_wp2_with fail
      refine (HF.out w1).mono ?_
      rintro e w2 ⟨rfl, hb2⟩
      have HB2 := Aside0.mk (below_then HB.out HB.out.size hb2)
      clear hb2
      go_wp2
      go_ret
      exact ⟨rfl, HB2.out⟩
    | false =>
    cases b2 with
    | true =>
      go_enter Try.func5, Try.ntmps5
      go_wp2_with fail
      refine (HF.out _).mono ?_
      rintro e w1 ⟨rfl, hb1⟩
      have HB := Aside0.mk (below_then (below_alloc (Below.refl _ _) _) (below_alloc (Below.refl _ _) _).size hb1)
      clear hb1
      go_wp2_with fail
      refine (HF.out w1).mono ?_
      rintro e w2 ⟨rfl, hb2⟩
      have HB2 := Aside0.mk (below_then HB.out HB.out.size hb2)
      clear hb2
      go_wp2
      go_ret
      exact ⟨rfl, HB2.out⟩
    | false =>
    cases b3 with
    | true =>
      go_enter Try.func5, Try.ntmps5
      go_wp2_with fail
      refine (HF.out _).mono ?_
      rintro e w1 ⟨rfl, hb1⟩
      have HB := Aside0.mk (below_then (below_alloc (Below.refl _ _) _) (below_alloc (Below.refl _ _) _).size hb1)
      clear hb1
      go_wp2_with fail
      refine (HF.out w1).mono ?_
      rintro e w2 ⟨rfl, hb2⟩
      have HB2 := Aside0.mk (below_then HB.out HB.out.size hb2)
      clear hb2
      go_wp2
      go_ret
      exact ⟨rfl, HB2.out⟩
    | false =>
    cases b4 with
    | true =>
      go_enter Try.func5, Try.ntmps5
      go_wp2_with fail
      refine (HF.out _).mono ?_
      rintro e w1 ⟨rfl, hb1⟩
      have HB := Aside0.mk (below_then (below_alloc (Below.refl _ _) _) (below_alloc (Below.refl _ _) _).size hb1)
      clear hb1
      go_wp2_with fail
      refine (HF.out w1).mono ?_
      rintro e w2 ⟨rfl, hb2⟩
      have HB2 := Aside0.mk (below_then HB.out HB.out.size hb2)
      clear hb2
      go_wp2
      go_ret
      exact ⟨rfl, HB2.out⟩
    | false =>
    cases b5 with
    | true =>
      go_enter Try.func5, Try.ntmps5
      go_wp2_with fail
      refine (HF.out _).mono ?_
      rintro e w1 ⟨rfl, hb1⟩
      have HB := Aside0.mk (below_then (below_alloc (Below.refl _ _) _) (below_alloc (Below.refl _ _) _).size hb1)
      clear hb1
      go_wp2_with fail
      refine (HF.out w1).mono ?_
      rintro e w2 ⟨rfl, hb2⟩
      have HB2 := Aside0.mk (below_then HB.out HB.out.size hb2)
      clear hb2
      go_wp2
      go_ret
      exact ⟨rfl, HB2.out⟩
    | false =>
    cases b6 with
    | true =>
      go_enter Try.func5, Try.ntmps5
      go_wp2_with fail
      refine (HF.out _).mono ?_
      rintro e w1 ⟨rfl, hb1⟩
      have HB := Aside0.mk (below_then (below_alloc (Below.refl _ _) _) (below_alloc (Below.refl _ _) _).size hb1)
      clear hb1
      go_wp2_with fail
      refine (HF.out w1).mono ?_
      rintro e w2 ⟨rfl, hb2⟩
      have HB2 := Aside0.mk (below_then HB.out HB.out.size hb2)
      clear hb2
      go_wp2
      go_ret
      exact ⟨rfl, HB2.out⟩
    | false =>
    cases h
  refine key _ _ _ _ _ _ _ rfl rfl rfl rfl rfl rfl rfl ?_
  simp only [Bool.or_eq_true, decide_eq_true_eq]
  omega
theorem arg2 {A1 A2 : Option Addr} {c1 c2 : Nat} {l1 l2 : List Ins} {W : World} {g gn : Nat} (hg : W.heap.size = gn) (BL : W.heap[g]? = some (.cells #[.slice A1 l1.length c1, .slice A2 l2.length c2] 22 (0, 0))) (HR : Kd.C k54 W A1 l1.length l1) (hc1 : l1.length ≤ c1) (HR2 : Kd.C k54 W A2 l2.length l2) (hc2 : l2.length ≤ c2) :
    Kd.C (Kd.slice 22 (Kd.slice 54 k54)) (W.alloc (.cells #[.slice (some ⟨g, 0, none⟩) 2 2] 26)) (some ⟨gn, 0, none⟩) 1 [[l1, l2]] := by
  subst hg
  refine ltklaw21_BoundPolicies.one rfl ((blk_cell (blk_new W _) 0).trans rfl) ⟨some ⟨g, 0, none⟩, 2, rfl, Nat.le_refl _, ?_⟩
  refine ⟨rfl, by simp, fun _ => ⟨_, rfl, fun j p hj => ?_⟩⟩
  match j, hj with
  | 0, hj =>
    obtain rfl : l1 = p := by simpa using hj
    refine ⟨[.slice A1 l1.length c1], rfl, ⟨A1, c1, rfl, hc1, Kd.C_alloc HR _⟩, fun i u hu => ?_⟩
    match i, hu with
    | 0, hu => obtain rfl : Value.slice A1 l1.length c1 = u := by simpa using hu
               exact (blk_cell (blk_alloc BL _) 0).trans rfl
    | i + 1, hu => simp at hu
  | 1, hj =>
    obtain rfl : l2 = p := by simpa using hj
    refine ⟨[.slice A2 l2.length c2], rfl, ⟨A2, c2, rfl, hc2, Kd.C_alloc HR2 _⟩, fun i u hu => ?_⟩
    match i, hu with
    | 0, hu => obtain rfl : Value.slice A2 l2.length c2 = u := by simpa using hu
               exact (blk_cell (blk_alloc BL _) 1).trans rfl
    | i + 1, hu => simp at hu
  | j + 2, hj => simp at hj
theorem fair_ex (c : Cf) (b7 : c.f4 ≤ 9223372036854775807) (v : Nat) (l : List Int) (hl : l.length ≤ 300) (hv : v ≤ 301) :
    ∃ k, bound_Fair.f k c.f0 c.f1 c.f2 c.f3 c.f4 c.f5 c.f6 c.f7 c.f8 c.f9 c.f10 c.f11 (v : Int) l = some (if v = 0 then false else fairB l v (manyOf c.f4 c.f11).toNat 0 (l.length + 1 - v)) := by
  refine ⟨(l.length + 3) * ((manyOf c.f4 c.f11).toNat + l.length + 10) + 1, ?_⟩
  rw [fair_f c.f0 c.f1 c.f2 c.f3 c.f4 c.f5 c.f6 c.f7 c.f8 c.f9 c.f10 c.f11 (v : Int) l (by omega) b7 (by omega) (Nat.lt_succ_self _)]
  by_cases h : v = 0
  · rw [if_pos h, if_pos (by omega)]
  · rw [if_neg h, if_neg (by omega), Int.toNat_natCast]
set_option maxHeartbeats 16000000 in
set_option maxRecDepth 100000 in
theorem more_true_true (c : Cf) (A1 : Option Addr) (c1 : Nat) (p : List Ins) (A2 : Option Addr) (c2 : Nat) (q : List Ins) (w : Nat) (A4 : Option Addr) (c4 : Nat) (l : List Int) (cut : Nat) (W : World)
    (hr1 : Kd.C k54 W A1 p.length p) (hc1 : p.length ≤ c1) (hr2 : Kd.C k54 W A2 q.length q) (hc2 : q.length ≤ c2) (hr4 : Kd.C (Kd.int .i64) W A4 l.length l) (hc4 : l.length ≤ c4)
    (b1 : p.length ≤ 60) (b2 : q.length ≤ 60) (b3 : l.length ≤ 300) (b4 : cut ≤ l.length) (b5 : 1 ≤ w) (b6 : w ≤ 300) (b7 : c.f4 ≤ 9223372036854775807) (hfv : fairB l w (manyOf c.f4 c.f11).toNat 0 (l.length + 1 - w) = true) (hgp : bound_Plain.g p = true) :
    Calls Try.prog 5 #[.agg #[.int .i64 c.f0, .int .i64 c.f1, .int .i64 c.f2, .int .i64 c.f3, .int .i64 c.f4, .int .i64 c.f5, .int .i64 c.f6, .int .i64 c.f7, .int .i64 c.f8, .int .i64 c.f9, .int .i64 c.f10, .int .i64 c.f11], .slice A1 p.length c1, .slice A2 q.length c2, .int .i64 (w : Int), .slice A4 l.length c4, .int .i64 (cut : Int)] W fun e w' => e = .returned (.bool true) ∧ Below W.heap.size W w' := by
  have hu25 := Try.underlying25
  obtain ⟨x, y, hx, hy, hxy⟩ := more_win c.f0 c.f1 c.f2 c.f3 c.f4 c.f5 c.f6 c.f7 c.f8 c.f9 c.f10 c.f11 p q b1 b2
  have HF := Aside0.mk (fun W => ltklaw21_first.calls 60 true W first_at)
  have HSp := Aside0.mk (fun V (hb : Below W.heap.size W V) => bound_Steps.calls 200 A1 c1 p (stS p) V (Kd.C_below hr1 hb) hc1 (steps_f p (by omega) (by omega)))
  have HSq := Aside0.mk (fun V (hb : Below W.heap.size W V) => bound_Steps.calls 200 A2 c2 q (stS q) V (Kd.C_below hr2 hb) hc2 (steps_f q (by omega) (by omega)))
  have HSb0 := (fun V A c hr hc => bound_Steps.calls 200 A c (p ++ q) (stS (p ++ q)) V hr hc (steps_f (p ++ q) (by simp; omega) (by simp; omega)))
  simp only [List.length_append] at HSb0
  have HSb := Aside0.mk HSb0
  clear HSb0
  have HWx := Aside0.mk (fun V A hr => bound_Windows.calls 4000 c.f0 c.f1 c.f2 c.f3 c.f4 c.f5 c.f6 c.f7 c.f8 c.f9 c.f10 c.f11 A 1 [[p]] x V hr (Nat.le_refl _) hx)
  have HWy := Aside0.mk (fun V A hr => bound_Windows.calls 4000 c.f0 c.f1 c.f2 c.f3 c.f4 c.f5 c.f6 c.f7 c.f8 c.f9 c.f10 c.f11 A 1 [[p, q]] y V hr (Nat.le_refl _) hy)
  have HPp := Aside0.mk (fun V (hb : Below W.heap.size W V) => bound_Plain.calls A1 c1 p _ V (Kd.C_below hr1 hb) hc1 rfl)
  have HPq := Aside0.mk (fun V (hb : Below W.heap.size W V) => bound_Plain.calls A2 c2 q _ V (Kd.C_below hr2 hb) hc2 rfl)
  have HPb0 := (fun V A c hr hc => bound_Plain.calls A c (p ++ q) _ V hr hc (congrArg some (plain_append p q)))
  simp only [List.length_append] at HPb0
  have HPb := Aside0.mk HPb0
  clear HPb0
  rw [hgp] at HPp HPb
  generalize hgq : bound_Plain.g q = gq at HPq HPb
  obtain ⟨kf, hf0⟩ := fair_ex c b7 w l b3 (by omega)
  rw [if_neg (by omega), hfv] at hf0
  have HF0 := Aside0.mk (fun V (hb : Below W.heap.size W V) => bound_Fair.calls kf c.f0 c.f1 c.f2 c.f3 c.f4 c.f5 c.f6 c.f7 c.f8 c.f9 c.f10 c.f11 (w : Int) A4 c4 l true V (Kd.C_below hr4 hb) hc4 hf0)
  obtain ⟨kz, hfz⟩ := fair_ex c b7 0 l b3 (by omega)
  rw [if_pos rfl] at hfz
  have HFz := Aside0.mk (fun V (hb : Below W.heap.size W V) => bound_Fair.calls kz c.f0 c.f1 c.f2 c.f3 c.f4 c.f5 c.f6 c.f7 c.f8 c.f9 c.f10 c.f11 0 A4 c4 l false V (Kd.C_below hr4 hb) hc4 hfz)
  obtain ⟨m1, m2, m3⟩ := more_fair hfv cut b4
  obtain ⟨i0, hi0, hz0, hz1, hz2⟩ := info_parts (P := Try.prog) info3
  obtain ⟨hcutT, hTC, hTl⟩ := print_take_of (P := Try.prog) (Value.int .i64) 0 30 3 .i64 Try.underlying30 hi0 hz1 A4 c4 l (cut : Int) (by omega) (by omega) hc4
  obtain ⟨A5, hcutD, hDC, hDl⟩ := print_drop_of (P := Try.prog) (Value.int .i64) 0 30 3 .i64 Try.underlying30 hi0 hz1 A4 c4 l (cut : Int) (by omega) (by omega) hc4
  clear hi0 hz0 hz1 hz2
  simp only [Int.toNat_natCast] at hcutT hTC hTl hcutD hDC hDl
  obtain ⟨k1, hf1⟩ := fair_ex c b7 (w + 1) l b3 (by omega)
  rw [if_neg (by omega), m1] at hf1
  obtain ⟨k2, hf2⟩ := fair_ex c b7 w (l.take cut) (by rw [List.length_take]; omega) (by omega)
  rw [if_neg (by omega), m2] at hf2
  obtain ⟨k3, hf3⟩ := fair_ex c b7 w (l.drop cut) (by rw [List.length_drop]; omega) (by omega)
  rw [if_neg (by omega), m3] at hf3
  have ew : ((w + 1 : Nat) : Int) = (w : Int) + 1 := by omega
  rw [ew] at hf1
  have hTC' : ∀ V, Kd.C (Kd.int .i64) V A4 l.length l → Kd.C (Kd.int .i64) V A4 (l.take cut).length (l.take cut) := fun V h => Kd.C_take h b4
  have hDC' : ∀ V, Kd.C (Kd.int .i64) V A4 l.length l → Kd.C (Kd.int .i64) V A5 (l.drop cut).length (l.drop cut) := fun V h => Kd.C_of_reads (hDC V (Kd.reads_of_C h))
  have HF1 := Aside0.mk (fun V (hb : Below W.heap.size W V) => bound_Fair.calls k1 c.f0 c.f1 c.f2 c.f3 c.f4 c.f5 c.f6 c.f7 c.f8 c.f9 c.f10 c.f11 ((w : Int) + 1) A4 c4 l true V (Kd.C_below hr4 hb) hc4 hf1)
  have HF2 := Aside0.mk (fun V (hb : Below W.heap.size W V) => bound_Fair.calls k2 c.f0 c.f1 c.f2 c.f3 c.f4 c.f5 c.f6 c.f7 c.f8 c.f9 c.f10 c.f11 (w : Int) A4 c4 (l.take cut) true V (hTC' V (Kd.C_below hr4 hb)) hTl hf2)
  have HF3 := Aside0.mk (fun V (hb : Below W.heap.size W V) => bound_Fair.calls k3 c.f0 c.f1 c.f2 c.f3 c.f4 c.f5 c.f6 c.f7 c.f8 c.f9 c.f10 c.f11 (w : Int) A5 (c4 - cut) (l.drop cut) true V (hDC' V (Kd.C_below hr4 hb)) hDl hf3)
  generalize hlT : (l.take cut).length = lT at hcutT HF2
  generalize hlD : (l.drop cut).length = lD at hcutD HF3
  clear hTC hTl hDC hDl hTC' hDC' m1 m2 m3 hf1 hf2 hf3 ew hlT hlD
  have n1 : 8 ≤ stS p := by unfold stS; have := (sumS_in p).1; omega
  have n2 : stS p ≤ 2408 := by unfold stS; have := (sumS_in p).2; omega
  have n3 : 8 ≤ stS q := by unfold stS; have := (sumS_in q).1; omega
  have n4 : stS q ≤ 2408 := by unfold stS; have := (sumS_in q).2; omega
  have nb := steps_append p q
  rw [nb] at HSb
  generalize stS p = sp at n1 n2 HSp HSb nb
  generalize stS q = sq at n3 n4 HSq HSb nb
  have N1 := Aside0.mk (And.intro b1 b2)
  have t1 : decide ((p.length : Int) > 60) = false := decide_eq_false (by omega)
  have t1' : decide (60 < p.length) = false := decide_eq_false (by omega)
  have t2 : decide ((q.length : Int) > 60) = false := decide_eq_false (by omega)
  have t2' : decide (60 < q.length) = false := decide_eq_false (by omega)
  have t3 : decide ((l.length : Int) > 300) = false := decide_eq_false (by omega)
  have t3' : decide (300 < l.length) = false := decide_eq_false (by omega)
  have t5 : decide ((cut : Int) > (l.length : Int)) = false := decide_eq_false (by omega)
  have t5' : decide (l.length < cut) = false := decide_eq_false (by omega)
  have t6 : decide ((w : Int) < 1) = false := decide_eq_false (by omega)
  have t6' : decide (w < 1) = false := decide_eq_false (by omega)
  have t6n : decide (w = 0) = false := decide_eq_false (by omega)
  have t7 : decide ((w : Int) > 300) = false := decide_eq_false (by omega)
  have t7' : decide (300 < w) = false := decide_eq_false (by omega)
  have n5 : (0 : Int) ≤ (cut : Int) := by omega
  have n6 : (cut : Int) ≤ (l.length : Int) := by omega
  have n7 : (w : Int) ≤ 300 := by omega
  have n8 : (0 : Int) ≤ (w : Int) := by omega
  have HR1 := Aside0.mk hr1
  have HR2 := Aside0.mk hr2
  have HC1 := Aside0.mk hc1
  have HC2 := Aside0.mk hc2
  have HXY := Aside0.mk hxy
  clear hr1 hc1 hr2 hc2 hr4 hc4 b1 b2 b3 b4 b5 b6 b7 hfv hf0 hfz hx hy hxy nb hgp hgq
  go_enter Try.func5, Try.ntmps5
  go_wp2_with fail
  refine (HF.out _).mono ?_
  rintro e w1 ⟨rfl, hb⟩
  have BK := Aside0.mk (blk_below (blk_new W (.cells #[.int .i64 c.f0, .int .i64 c.f1, .int .i64 c.f2, .int .i64 c.f3, .int .i64 c.f4, .int .i64 c.f5, .int .i64 c.f6, .int .i64 c.f7, .int .i64 c.f8, .int .i64 c.f9, .int .i64 c.f10, .int .i64 c.f11] 25)) hb)
  have HB1 := Aside0.mk (below_then (below_alloc (Below.refl _ _) _) (below_alloc (Below.refl _ _) _).size hb)
  clear hb
  generalize hg : W.heap.size = g at BK
  have HG := Aside0.mk hg
  have HX := Aside0.mk (fun V (hb : Below w1.heap.size w1 V) => (show V.cell? ⟨g, 0, none⟩ = some (.int .i64 c.f0) ∧ V.cell? ⟨g, 1, none⟩ = some (.int .i64 c.f1) ∧ V.cell? ⟨g, 2, none⟩ = some (.int .i64 c.f2) ∧ V.cell? ⟨g, 3, none⟩ = some (.int .i64 c.f3) ∧ V.cell? ⟨g, 4, none⟩ = some (.int .i64 c.f4) ∧ V.cell? ⟨g, 5, none⟩ = some (.int .i64 c.f5) ∧ V.cell? ⟨g, 6, none⟩ = some (.int .i64 c.f6) ∧ V.cell? ⟨g, 7, none⟩ = some (.int .i64 c.f7) ∧ V.cell? ⟨g, 8, none⟩ = some (.int .i64 c.f8) ∧ V.cell? ⟨g, 9, none⟩ = some (.int .i64 c.f9) ∧ V.cell? ⟨g, 10, none⟩ = some (.int .i64 c.f10) ∧ V.cell? ⟨g, 11, none⟩ = some (.int .i64 c.f11) from by
    have h := (hb.block g (Array.getElem?_eq_some_iff.1 BK.out).1).trans BK.out
    exact ⟨(blk_cell h 0).trans rfl, (blk_cell h 1).trans rfl, (blk_cell h 2).trans rfl, (blk_cell h 3).trans rfl, (blk_cell h 4).trans rfl, (blk_cell h 5).trans rfl, (blk_cell h 6).trans rfl, (blk_cell h 7).trans rfl, (blk_cell h 8).trans rfl, (blk_cell h 9).trans rfl, (blk_cell h 10).trans rfl, (blk_cell h 11).trans rfl⟩))
  clear hg
  go_wp2_with fail
  (try rw [HG.out])
  refine (HSp.out _ HB1.out).mono ?_
  rintro e w2 ⟨rfl, hb⟩
  have E2 := Aside0.mk hb
  have HB2 := Aside0.mk (below_then HB1.out HB1.out.size hb)
  clear hb
  have AV0 := Aside0.mk (AppV.none_ k54 54 (Below.refl w2.heap.size w2))
  have HR1b := Aside0.mk (Kd.C_below HR1.out HB2.out)
  have HR2b := Aside0.mk (Kd.C_below HR2.out HB2.out)
  go_wp2_with (at_builtin; refine wpList_app k54 rfl _ _ 22 54 _ 56 rfl Try.underlying22 info54 rfl (by decide) (by decide) (.slice (some ⟨w2.heap.size, 0, none⟩) 0 0) [] p A1 p.length c1 (by simp [Act.eval, Act.put]) (by simp [Act.eval, Act.put]) AV0.out HR1b.out (by have := N1.out; simp; omega) ?_)
  intro v3 w3 hv3
  have AV3 := Aside0.mk hv3
  clear hv3
  go_wp2_with (at_builtin; refine wpList_app k54 rfl _ _ 22 54 _ 56 rfl Try.underlying22 info54 rfl (by decide) (by decide) v3 _ q A2 q.length c2 (by simp [Act.eval, Act.put]) (by simp [Act.eval, Act.put]) AV3.out HR2b.out (by have := N1.out; simp; omega) ?_)
  intro v4 w4 hv4
  obtain ⟨A6, c6, rfl, hc6, hC6⟩ := hv4.C
  simp only [List.nil_append, List.length_append] at hC6 hc6
  have E4 := Aside0.mk (below_then E2.out E2.out.size hv4.1)
  have HC6 := Aside0.mk hC6
  have Hc6 := Aside0.mk hc6
  clear hv4 hC6 hc6
  go_wp2_with fail
  refine (HSb.out _ A6 c6 HC6.out Hc6.out).mono ?_
  rintro e w5 ⟨rfl, hb⟩
  have E5 := Aside0.mk (below_then E4.out E4.out.size hb)
  have HB5 := Aside0.mk (below_then HB1.out HB1.out.size E5.out)
  clear hb AV0 AV3 HR1b HR2b E4 HC6 Hc6
  obtain ⟨x0, x1, x2, x3, x4, x5, x6, x7, x8, x9, x10, x11⟩ := HX.out _ E5.out
  go_wp2_with fail
  refine (HWx.out _ _ (ltklaw21_BoundPolicies.arg (g := w5.heap.size) (by simp) (blk_new w5 _) (Kd.C_alloc (Kd.C_below HR1.out HB5.out) _) HC1.out)).mono ?_
  rintro e w6 ⟨rfl, hb⟩
  have E6 := Aside0.mk (below_then (below_alloc (below_alloc E5.out _) _) (below_alloc (below_alloc E5.out _) _).size hb)
  have HB6 := Aside0.mk (below_then HB1.out HB1.out.size E6.out)
  clear hb E5 HB5 x0 x1 x2 x3 x4 x5 x6 x7 x8 x9 x10 x11
  obtain ⟨x0, x1, x2, x3, x4, x5, x6, x7, x8, x9, x10, x11⟩ := HX.out _ E6.out
  go_wp2_with fail
  refine (HWy.out _ _ (arg2 (g := w6.heap.size) (by simp) (blk_new w6 _) (Kd.C_alloc (Kd.C_below HR1.out HB6.out) _) HC1.out (Kd.C_alloc (Kd.C_below HR2.out HB6.out) _) HC2.out)).mono ?_
  rintro e w7 ⟨rfl, hb⟩
  have E7 := Aside0.mk (below_then (below_alloc (below_alloc E6.out _) _) (below_alloc (below_alloc E6.out _) _).size hb)
  have HB7 := Aside0.mk (below_then HB1.out HB1.out.size E7.out)
  clear hb E6 HB6 x0 x1 x2 x3 x4 x5 x6 x7 x8 x9 x10 x11
  obtain ⟨x0, x1, x2, x3, x4, x5, x6, x7, x8, x9, x10, x11⟩ := HX.out _ E7.out
  go_wp2_with fail
  refine (HF0.out _ HB7.out).mono ?_
  rintro e w8 ⟨rfl, hb⟩
  have E8 := Aside0.mk (below_then E7.out E7.out.size hb)
  have HB8 := Aside0.mk (below_then HB1.out HB1.out.size E8.out)
  clear hb E7 HB7 x0 x1 x2 x3 x4 x5 x6 x7 x8 x9 x10 x11
  obtain ⟨x0, x1, x2, x3, x4, x5, x6, x7, x8, x9, x10, x11⟩ := HX.out _ E8.out
  have HR1c := Aside0.mk (Kd.C_below HR1.out HB8.out)
  have HR2c := Aside0.mk (Kd.C_below HR2.out HB8.out)
  have T1 := Aside0.mk (show decide (sp ≥ 8) = true from decide_eq_true n1)
  have k1 : decide (sp ≥ 8) = true := decide_eq_true n1
  have k1' : decide (8 ≤ sp) = true := decide_eq_true n1
  have k2 : decide (sp + sq - 8 ≥ sp) = true := decide_eq_true (by omega)
  have k2' : decide (sp ≤ sp + sq - 8) = true := decide_eq_true (by omega)
  have k3 : decide (y ≥ x) = true := decide_eq_true HXY.out
  have k3' : decide (x ≤ y) = true := decide_eq_true HXY.out
  have k4 : IntKind.i64.wrap (sp + sq) = sp + sq := IntWalk.i64_in _ (by omega)
  have k5 : IntKind.i64.wrap (sp + sq - 8) = sp + sq - 8 := IntWalk.i64_in _ (by omega)
  have k6 : IntKind.i64.wrap ((w : Int) + 1) = (w : Int) + 1 := IntWalk.i64_in _ (by omega)
  have HBd := Aside0.mk (below_drew (Below.refl w8.heap.size w8))
  go_wp2_with fail

  simp only [List.append_eq, List.cons_append, List.nil_append]
  refine wp_region_held_drew (S := (fun W => W.cell? ⟨g, 0, none⟩ = some (.int .i64 c.f0) ∧ W.cell? ⟨g, 1, none⟩ = some (.int .i64 c.f1) ∧ W.cell? ⟨g, 2, none⟩ = some (.int .i64 c.f2) ∧ W.cell? ⟨g, 3, none⟩ = some (.int .i64 c.f3) ∧ W.cell? ⟨g, 4, none⟩ = some (.int .i64 c.f4) ∧ W.cell? ⟨g, 5, none⟩ = some (.int .i64 c.f5) ∧ W.cell? ⟨g, 6, none⟩ = some (.int .i64 c.f6) ∧ W.cell? ⟨g, 7, none⟩ = some (.int .i64 c.f7) ∧ W.cell? ⟨g, 8, none⟩ = some (.int .i64 c.f8) ∧ W.cell? ⟨g, 9, none⟩ = some (.int .i64 c.f9) ∧ W.cell? ⟨g, 10, none⟩ = some (.int .i64 c.f10) ∧ W.cell? ⟨g, 11, none⟩ = some (.int .i64 c.f11))) (by kernel_rfl) ?_ (fun hH => ?_)
  · exact HX.out _ (below_then E8.out E8.out.size HBd.out)
  refine wpAnyH_ready (rs := [0]) (by kernel_rfl) (by simp) ?_
  refine AllReadyH.cons (o := { dst := some 75, op := Op.call { callee := Callee.value (Operand.func 7), args := #[], argTypes := #[] }, type := 4, pos := "extra.go:21", after := #[], guard := none }) rfl (fun K hK => ?_) AllReadyH.nil
  go_simp
  (go_at_call 7; (with_reducible refine (HF.out _).mono ?_); rintro e w9 ⟨rfl, hb9⟩; have G9 := Aside0.mk (below_then HBd.out HBd.out.size hb9))
  go_wp2_with fail
  refine hK.out _ _ ?_ (fun hH0 => ?_)
  · (try dsimp only)
    exact HX.out _ (below_then E8.out E8.out.size G9.out)
  clear hK K hH
  (try simp only [Act.put, List.setIfInBounds_toArray, List.set_cons_zero, List.set_cons_succ])
  refine wpAnyH_take (i := 1) (oi := { dst := some 76, op := Op.move (Operand.tmp 75), type := 4, pos := "extra.go:21", after := #[{ on := 0, ground := Ground.data }, { on := 0, ground := Ground.chain }], guard := none }) (v := ?hv1) rfl (by kernel_rfl) (by kernel_rfl) (by kernel_rfl) (fun _ _ _ h => h) (Or.inl ⟨by rfl, ?hy1⟩) (by assumption) ?hr1
  case hy1 => (intro w hSw; (try dsimp only at hSw); go_simp; (try with_reducible rfl))
  (try simp only [Act.put, List.setIfInBounds_toArray, List.set_cons_zero, List.set_cons_succ])
  refine wpAnyH_take (i := 2) (oi := { dst := some 77, op := Op.move (Operand.tmp 13), type := 3, pos := "extra.go:21", after := #[{ on := 1, ground := Ground.guard }], guard := some (1, true) }) (v := ?hv2) rfl (by kernel_rfl) (by kernel_rfl) (by kernel_rfl) (fun _ _ _ h => h) (Or.inl ⟨by rfl, ?hy2⟩) (by assumption) ?hr2
  case hy2 => (intro w hSw; (try dsimp only at hSw); go_simp; (try with_reducible rfl))
  (try simp only [Act.put, List.setIfInBounds_toArray, List.set_cons_zero, List.set_cons_succ])
  refine wpAnyH_take (i := 3) (oi := { dst := some 78, op := Op.binOp BinOp.geq 3 (Operand.tmp 77) (Operand.const (Value.int IntKind.i64 8)) 3, type := 4, pos := "extra.go:21", after := #[{ on := 2, ground := Ground.data }, { on := 1, ground := Ground.guard }], guard := some (1, true) }) (v := ?hv3) rfl (by kernel_rfl) (by kernel_rfl) (by kernel_rfl) (fun _ _ _ h => h) (Or.inl ⟨by rfl, ?hy3⟩) (by assumption) ?hr3
  case hy3 => (intro w hSw; (try dsimp only at hSw); go_simp; (try with_reducible rfl))
  (try simp only [Act.put, List.setIfInBounds_toArray, List.set_cons_zero, List.set_cons_succ])
  refine wpAnyH_take (i := 4) (oi := { dst := some 79, op := Op.pick (Operand.tmp 76) (Operand.tmp 78) (Operand.const (Value.bool false)), type := 4, pos := "extra.go:21", after := #[{ on := 1, ground := Ground.data }, { on := 3, ground := Ground.data }], guard := none }) (v := ?hv4) rfl (by kernel_rfl) (by kernel_rfl) (by kernel_rfl) (fun _ _ _ h => h) (Or.inl ⟨by rfl, ?hy4⟩) (by assumption) ?hr4
  case hy4 => (intro w hSw; (try dsimp only at hSw); go_simp; (try with_reducible rfl))
  (try simp only [Act.put, List.setIfInBounds_toArray, List.set_cons_zero, List.set_cons_succ])
  refine wpAnyH_take (i := 5) (oi := { dst := some 80, op := Op.move (Operand.tmp 79), type := 4, pos := "extra.go:21", after := #[{ on := 4, ground := Ground.data }, { on := 1, ground := Ground.chain }], guard := none }) (v := ?hv5) rfl (by kernel_rfl) (by kernel_rfl) (by kernel_rfl) (fun _ _ _ h => h) (Or.inl ⟨by rfl, ?hy5⟩) (by assumption) ?hr5
  case hy5 => (intro w hSw; (try dsimp only at hSw); go_simp; (try with_reducible rfl))
  (try simp only [Act.put, List.setIfInBounds_toArray, List.set_cons_zero, List.set_cons_succ])
  refine wpAnyH_take (i := 6) (oi := { dst := some 81, op := Op.move (Operand.tmp 14), type := 3, pos := "extra.go:21", after := #[{ on := 5, ground := Ground.guard }], guard := some (5, true) }) (v := ?hv6) rfl (by kernel_rfl) (by kernel_rfl) (by kernel_rfl) (fun _ _ _ h => h) (Or.inl ⟨by rfl, ?hy6⟩) (by assumption) ?hr6
  case hy6 => (intro w hSw; (try dsimp only at hSw); go_simp; (try with_reducible rfl))
  (try simp only [Act.put, List.setIfInBounds_toArray, List.set_cons_zero, List.set_cons_succ])
  refine wpAnyH_take (i := 7) (oi := { dst := some 82, op := Op.move (Operand.tmp 13), type := 3, pos := "extra.go:21", after := #[{ on := 5, ground := Ground.guard }], guard := some (5, true) }) (v := ?hv7) rfl (by kernel_rfl) (by kernel_rfl) (by kernel_rfl) (fun _ _ _ h => h) (Or.inl ⟨by rfl, ?hy7⟩) (by assumption) ?hr7
  case hy7 => (intro w hSw; (try dsimp only at hSw); go_simp; (try with_reducible rfl))
  (try simp only [Act.put, List.setIfInBounds_toArray, List.set_cons_zero, List.set_cons_succ])
  refine wpAnyH_take (i := 8) (oi := { dst := some 83, op := Op.binOp BinOp.geq 3 (Operand.tmp 81) (Operand.tmp 82) 3, type := 4, pos := "extra.go:21", after := #[{ on := 6, ground := Ground.data }, { on := 7, ground := Ground.data }, { on := 5, ground := Ground.guard }], guard := some (5, true) }) (v := ?hv8) rfl (by kernel_rfl) (by kernel_rfl) (by kernel_rfl) (fun _ _ _ h => h) (Or.inl ⟨by rfl, ?hy8⟩) (by assumption) ?hr8
  case hy8 => (intro w hSw; (try dsimp only at hSw); go_simp; (try with_reducible rfl))
  (try simp only [Act.put, List.setIfInBounds_toArray, List.set_cons_zero, List.set_cons_succ])
  refine wpAnyH_take (i := 9) (oi := { dst := some 84, op := Op.pick (Operand.tmp 80) (Operand.tmp 83) (Operand.const (Value.bool false)), type := 4, pos := "extra.go:21", after := #[{ on := 5, ground := Ground.data }, { on := 8, ground := Ground.data }], guard := none }) (v := ?hv9) rfl (by kernel_rfl) (by kernel_rfl) (by kernel_rfl) (fun _ _ _ h => h) (Or.inl ⟨by rfl, ?hy9⟩) (by assumption) ?hr9
  case hy9 => (intro w hSw; (try dsimp only at hSw); go_simp; (try with_reducible rfl))
  (try simp only [Act.put, List.setIfInBounds_toArray, List.set_cons_zero, List.set_cons_succ])
  refine wpAnyH_take (i := 10) (oi := { dst := some 85, op := Op.move (Operand.tmp 84), type := 4, pos := "extra.go:21", after := #[{ on := 9, ground := Ground.data }, { on := 5, ground := Ground.chain }], guard := none }) (v := ?hv10) rfl (by kernel_rfl) (by kernel_rfl) (by kernel_rfl) (fun _ _ _ h => h) (Or.inl ⟨by rfl, ?hy10⟩) (by assumption) ?hr10
  case hy10 => (intro w hSw; (try dsimp only at hSw); go_simp; (try with_reducible rfl))
  (try simp only [Act.put, List.setIfInBounds_toArray, List.set_cons_zero, List.set_cons_succ])
  refine wpAnyH_take (i := 11) (oi := { dst := some 86, op := Op.move (Operand.tmp 14), type := 3, pos := "extra.go:21", after := #[{ on := 10, ground := Ground.guard }], guard := some (10, true) }) (v := ?hv11) rfl (by kernel_rfl) (by kernel_rfl) (by kernel_rfl) (fun _ _ _ h => h) (Or.inl ⟨by rfl, ?hy11⟩) (by assumption) ?hr11
  case hy11 => (intro w hSw; (try dsimp only at hSw); go_simp; (try with_reducible rfl))
  (try simp only [Act.put, List.setIfInBounds_toArray, List.set_cons_zero, List.set_cons_succ])
  refine wpAnyH_take (i := 12) (oi := { dst := some 87, op := Op.move (Operand.tmp 13), type := 3, pos := "extra.go:21", after := #[{ on := 10, ground := Ground.guard }], guard := some (10, true) }) (v := ?hv12) rfl (by kernel_rfl) (by kernel_rfl) (by kernel_rfl) (fun _ _ _ h => h) (Or.inl ⟨by rfl, ?hy12⟩) (by assumption) ?hr12
  case hy12 => (intro w hSw; (try dsimp only at hSw); go_simp; (try with_reducible rfl))
  (try simp only [Act.put, List.setIfInBounds_toArray, List.set_cons_zero, List.set_cons_succ])
  refine wpAnyH_take (i := 13) (oi := { dst := some 88, op := Op.move (Operand.tmp 2), type := 22, pos := "extra.go:21", after := #[{ on := 10, ground := Ground.guard }], guard := some (10, true) }) (v := ?hv13) rfl (by kernel_rfl) (by kernel_rfl) (by kernel_rfl) (fun _ _ _ h => h) (Or.inl ⟨by rfl, ?hy13⟩) (by assumption) ?hr13
  case hy13 => (intro w hSw; (try dsimp only at hSw); go_simp; (try with_reducible rfl))
  (try simp only [Act.put, List.setIfInBounds_toArray, List.set_cons_zero, List.set_cons_succ])
  refine wpAnyH_ready (rs := [14]) (by kernel_rfl) (by simp) ?_
  refine AllReadyH.cons (o := { dst := some 89, op := Op.call { callee := Callee.value (Operand.func 22), args := #[Operand.tmp 88], argTypes := #[22] }, type := 3, pos := "extra.go:21", after := #[{ on := 13, ground := Ground.data }, { on := 10, ground := Ground.chain }, { on := 10, ground := Ground.guard }], guard := some (10, true) }) rfl (fun K hK => ?_) AllReadyH.nil
  go_simp
  (go_at_call 22; (with_reducible refine (HSq.out _ (below_then HB8.out HB8.out.size G9.out)).mono ?_); rintro e w10 ⟨rfl, hb10⟩; have G10 := Aside0.mk (below_then G9.out G9.out.size hb10))
  go_wp2_with fail
  refine hK.out _ _ ?_ (fun hH14 => ?_)
  · (try dsimp only)
    exact HX.out _ (below_then E8.out E8.out.size G10.out)
  clear hK K hH0
  (try simp only [Act.put, List.setIfInBounds_toArray, List.set_cons_zero, List.set_cons_succ])
  refine wpAnyH_take (i := 15) (oi := { dst := some 90, op := Op.binOp BinOp.add 3 (Operand.tmp 87) (Operand.tmp 89) 3, type := 3, pos := "extra.go:21", after := #[{ on := 12, ground := Ground.data }, { on := 14, ground := Ground.data }, { on := 10, ground := Ground.guard }], guard := some (10, true) }) (v := ?hv15) rfl (by kernel_rfl) (by kernel_rfl) (by kernel_rfl) (fun _ _ _ h => h) (Or.inl ⟨by rfl, ?hy15⟩) (by assumption) ?hr15
  case hy15 => (intro w hSw; (try dsimp only at hSw); go_simp; (try with_reducible rfl))
  (try simp only [Act.put, List.setIfInBounds_toArray, List.set_cons_zero, List.set_cons_succ])
  refine wpAnyH_take (i := 16) (oi := { dst := some 91, op := Op.binOp BinOp.sub 3 (Operand.tmp 90) (Operand.const (Value.int IntKind.i64 8)) 3, type := 3, pos := "extra.go:21", after := #[{ on := 15, ground := Ground.data }, { on := 10, ground := Ground.guard }], guard := some (10, true) }) (v := ?hv16) rfl (by kernel_rfl) (by kernel_rfl) (by kernel_rfl) (fun _ _ _ h => h) (Or.inl ⟨by rfl, ?hy16⟩) (by assumption) ?hr16
  case hy16 => (intro w hSw; (try dsimp only at hSw); go_simp; (try with_reducible rfl))
  (try simp only [Act.put, List.setIfInBounds_toArray, List.set_cons_zero, List.set_cons_succ])
  refine wpAnyH_take (i := 17) (oi := { dst := some 92, op := Op.binOp BinOp.eql 3 (Operand.tmp 86) (Operand.tmp 91) 3, type := 4, pos := "extra.go:21", after := #[{ on := 11, ground := Ground.data }, { on := 16, ground := Ground.data }, { on := 10, ground := Ground.guard }], guard := some (10, true) }) (v := ?hv17) rfl (by kernel_rfl) (by kernel_rfl) (by kernel_rfl) (fun _ _ _ h => h) (Or.inl ⟨by rfl, ?hy17⟩) (by assumption) ?hr17
  case hy17 => (intro w hSw; (try dsimp only at hSw); go_simp; (try with_reducible rfl))
  (try simp only [Act.put, List.setIfInBounds_toArray, List.set_cons_zero, List.set_cons_succ])
  refine wpAnyH_take (i := 18) (oi := { dst := some 93, op := Op.pick (Operand.tmp 85) (Operand.tmp 92) (Operand.const (Value.bool false)), type := 4, pos := "extra.go:21", after := #[{ on := 10, ground := Ground.data }, { on := 17, ground := Ground.data }], guard := none }) (v := ?hv18) rfl (by kernel_rfl) (by kernel_rfl) (by kernel_rfl) (fun _ _ _ h => h) (Or.inl ⟨by rfl, ?hy18⟩) (by assumption) ?hr18
  case hy18 => (intro w hSw; (try dsimp only at hSw); go_simp; (try with_reducible rfl))
  (try simp only [Act.put, List.setIfInBounds_toArray, List.set_cons_zero, List.set_cons_succ])
  refine wpAnyH_take (i := 19) (oi := { dst := some 94, op := Op.move (Operand.tmp 93), type := 4, pos := "extra.go:21", after := #[{ on := 18, ground := Ground.data }, { on := 14, ground := Ground.chain }], guard := none }) (v := ?hv19) rfl (by kernel_rfl) (by kernel_rfl) (by kernel_rfl) (fun _ _ _ h => h) (Or.inl ⟨by rfl, ?hy19⟩) (by assumption) ?hr19
  case hy19 => (intro w hSw; (try dsimp only at hSw); go_simp; (try with_reducible rfl))
  (try simp only [Act.put, List.setIfInBounds_toArray, List.set_cons_zero, List.set_cons_succ])
  refine wpAnyH_take (i := 20) (oi := { dst := some 95, op := Op.move (Operand.tmp 16), type := 3, pos := "extra.go:21", after := #[{ on := 19, ground := Ground.guard }], guard := some (19, true) }) (v := ?hv20) rfl (by kernel_rfl) (by kernel_rfl) (by kernel_rfl) (fun _ _ _ h => h) (Or.inl ⟨by rfl, ?hy20⟩) (by assumption) ?hr20
  case hy20 => (intro w hSw; (try dsimp only at hSw); go_simp; (try with_reducible rfl))
  (try simp only [Act.put, List.setIfInBounds_toArray, List.set_cons_zero, List.set_cons_succ])
  refine wpAnyH_take (i := 21) (oi := { dst := some 96, op := Op.move (Operand.tmp 15), type := 3, pos := "extra.go:21", after := #[{ on := 19, ground := Ground.guard }], guard := some (19, true) }) (v := ?hv21) rfl (by kernel_rfl) (by kernel_rfl) (by kernel_rfl) (fun _ _ _ h => h) (Or.inl ⟨by rfl, ?hy21⟩) (by assumption) ?hr21
  case hy21 => (intro w hSw; (try dsimp only at hSw); go_simp; (try with_reducible rfl))
  (try simp only [Act.put, List.setIfInBounds_toArray, List.set_cons_zero, List.set_cons_succ])
  refine wpAnyH_take (i := 22) (oi := { dst := some 97, op := Op.binOp BinOp.geq 3 (Operand.tmp 95) (Operand.tmp 96) 3, type := 4, pos := "extra.go:21", after := #[{ on := 20, ground := Ground.data }, { on := 21, ground := Ground.data }, { on := 19, ground := Ground.guard }], guard := some (19, true) }) (v := ?hv22) rfl (by kernel_rfl) (by kernel_rfl) (by kernel_rfl) (fun _ _ _ h => h) (Or.inl ⟨by rfl, ?hy22⟩) (by assumption) ?hr22
  case hy22 => (intro w hSw; (try dsimp only at hSw); go_simp; (try with_reducible rfl))
  (try simp only [Act.put, List.setIfInBounds_toArray, List.set_cons_zero, List.set_cons_succ])
  refine wpAnyH_take (i := 23) (oi := { dst := some 98, op := Op.pick (Operand.tmp 94) (Operand.tmp 97) (Operand.const (Value.bool false)), type := 4, pos := "extra.go:21", after := #[{ on := 19, ground := Ground.data }, { on := 22, ground := Ground.data }], guard := none }) (v := ?hv23) rfl (by kernel_rfl) (by kernel_rfl) (by kernel_rfl) (fun _ _ _ h => h) (Or.inl ⟨by rfl, ?hy23⟩) (by assumption) ?hr23
  case hy23 => (intro w hSw; (try dsimp only at hSw); go_simp; (try with_reducible rfl))
  (try simp only [Act.put, List.setIfInBounds_toArray, List.set_cons_zero, List.set_cons_succ])
  refine wpAnyH_take (i := 24) (oi := { dst := some 99, op := Op.move (Operand.tmp 98), type := 4, pos := "extra.go:21", after := #[{ on := 23, ground := Ground.data }, { on := 19, ground := Ground.chain }], guard := none }) (v := ?hv24) rfl (by kernel_rfl) (by kernel_rfl) (by kernel_rfl) (fun _ _ _ h => h) (Or.inl ⟨by rfl, ?hy24⟩) (by assumption) ?hr24
  case hy24 => (intro w hSw; (try dsimp only at hSw); go_simp; (try with_reducible rfl))
  (try simp only [Act.put, List.setIfInBounds_toArray, List.set_cons_zero, List.set_cons_succ])
  refine wpAnyH_take (i := 25) (oi := { dst := some 100, op := Op.move (Operand.tmp 17), type := 4, pos := "extra.go:21", after := #[{ on := 24, ground := Ground.guard }], guard := some (24, true) }) (v := ?hv25) rfl (by kernel_rfl) (by kernel_rfl) (by kernel_rfl) (fun _ _ _ h => h) (Or.inl ⟨by rfl, ?hy25⟩) (by assumption) ?hr25
  case hy25 => (intro w hSw; (try dsimp only at hSw); go_simp; (try with_reducible rfl))
  (try simp only [Act.put, List.setIfInBounds_toArray, List.set_cons_zero, List.set_cons_succ])
  refine wpAnyH_take (i := 26) (oi := { dst := some 101, op := Op.unOp UnOp.not 4 (Operand.tmp 100), type := 4, pos := "extra.go:21", after := #[{ on := 25, ground := Ground.data }, { on := 24, ground := Ground.guard }], guard := some (24, true) }) (v := ?hv26) rfl (by kernel_rfl) (by kernel_rfl) (by kernel_rfl) (fun _ _ _ h => h) (Or.inl ⟨by rfl, ?hy26⟩) (by assumption) ?hr26
  case hy26 => (intro w hSw; (try dsimp only at hSw); go_simp; (try with_reducible rfl))
  (try simp only [Act.put, List.setIfInBounds_toArray, List.set_cons_zero, List.set_cons_succ])
  refine wpAnyH_take (i := 27) (oi := { dst := some 102, op := Op.move (Operand.tmp 101), type := 4, pos := "extra.go:21", after := #[{ on := 26, ground := Ground.data }, { on := 24, ground := Ground.chain }, { on := 24, ground := Ground.guard }], guard := some (24, true) }) (v := ?hv27) rfl (by kernel_rfl) (by kernel_rfl) (by kernel_rfl) (fun _ _ _ h => h) (Or.inl ⟨by rfl, ?hy27⟩) (by assumption) ?hr27
  case hy27 => (intro w hSw; (try dsimp only at hSw); go_simp; (try with_reducible rfl))
  (try simp only [Act.put, List.setIfInBounds_toArray, List.set_cons_zero, List.set_cons_succ])
  refine wpAnyH_take (i := 28) (oi := { dst := some 103, op := Op.load 25 (Operand.tmp 6), type := 25, pos := "extra.go:21", after := #[{ on := 27, ground := Ground.guard }], guard := some (27, false) }) (v := ?hv28) rfl (by kernel_rfl) (by kernel_rfl) (by kernel_rfl) (fun _ _ _ h => h) (Or.inl ⟨by rfl, ?hy28⟩) (by assumption) ?hr28
  case hy28 => (intro w hSw; (try dsimp only at hSw); go_simp; (try with_reducible rfl))
  (try simp only [Act.put, List.setIfInBounds_toArray, List.set_cons_zero, List.set_cons_succ])
  refine wpAnyH_take (i := 29) (oi := { dst := some 104, op := Op.move (Operand.tmp 3), type := 3, pos := "extra.go:21", after := #[{ on := 27, ground := Ground.guard }], guard := some (27, false) }) (v := ?hv29) rfl (by kernel_rfl) (by kernel_rfl) (by kernel_rfl) (fun _ _ _ h => h) (Or.inl ⟨by rfl, ?hy29⟩) (by assumption) ?hr29
  case hy29 => (intro w hSw; (try dsimp only at hSw); go_simp; (try with_reducible rfl))
  (try simp only [Act.put, List.setIfInBounds_toArray, List.set_cons_zero, List.set_cons_succ])
  refine wpAnyH_take (i := 30) (oi := { dst := some 105, op := Op.binOp BinOp.add 3 (Operand.tmp 104) (Operand.const (Value.int IntKind.i64 1)) 3, type := 3, pos := "extra.go:21", after := #[{ on := 29, ground := Ground.data }, { on := 27, ground := Ground.guard }], guard := some (27, false) }) (v := ?hv30) rfl (by kernel_rfl) (by kernel_rfl) (by kernel_rfl) (fun _ _ _ h => h) (Or.inl ⟨by rfl, ?hy30⟩) (by assumption) ?hr30
  case hy30 => (intro w hSw; (try dsimp only at hSw); go_simp; (try with_reducible rfl))
  (try simp only [Act.put, List.setIfInBounds_toArray, List.set_cons_zero, List.set_cons_succ])
  refine wpAnyH_take (i := 31) (oi := { dst := some 106, op := Op.move (Operand.tmp 4), type := 30, pos := "extra.go:21", after := #[{ on := 27, ground := Ground.guard }], guard := some (27, false) }) (v := ?hv31) rfl (by kernel_rfl) (by kernel_rfl) (by kernel_rfl) (fun _ _ _ h => h) (Or.inl ⟨by rfl, ?hy31⟩) (by assumption) ?hr31
  case hy31 => (intro w hSw; (try dsimp only at hSw); go_simp; (try with_reducible rfl))
  (try simp only [Act.put, List.setIfInBounds_toArray, List.set_cons_zero, List.set_cons_succ])
  refine wpAnyH_ready (rs := [32]) (by kernel_rfl) (by simp) ?_
  refine AllReadyH.cons (o := { dst := some 107, op := Op.call { callee := Callee.value (Operand.func 23), args := #[Operand.tmp 103, Operand.tmp 105, Operand.tmp 106], argTypes := #[25, 3, 30] }, type := 4, pos := "extra.go:21", after := #[{ on := 28, ground := Ground.data }, { on := 30, ground := Ground.data }, { on := 31, ground := Ground.data }, { on := 27, ground := Ground.chain }, { on := 27, ground := Ground.guard }], guard := some (27, false) }) rfl (fun K hK => ?_) AllReadyH.nil
  go_simp
  (go_at_call 23; (with_reducible refine (HF1.out _ (below_then HB8.out HB8.out.size G10.out)).mono ?_); rintro e w11 ⟨rfl, hb11⟩; have G11 := Aside0.mk (below_then G10.out G10.out.size hb11))
  go_wp2_with fail
  refine hK.out _ _ ?_ (fun hH32 => ?_)
  · (try dsimp only)
    exact HX.out _ (below_then E8.out E8.out.size G11.out)
  clear hK K hH14
  (try simp only [Act.put, List.setIfInBounds_toArray, List.set_cons_zero, List.set_cons_succ])
  refine wpAnyH_take (i := 33) (oi := { dst := some 108, op := Op.move (Operand.tmp 107), type := 4, pos := "extra.go:21", after := #[{ on := 32, ground := Ground.data }, { on := 32, ground := Ground.chain }, { on := 27, ground := Ground.guard }], guard := some (27, false) }) (v := ?hv33) rfl (by kernel_rfl) (by kernel_rfl) (by kernel_rfl) (fun _ _ _ h => h) (Or.inl ⟨by rfl, ?hy33⟩) (by assumption) ?hr33
  case hy33 => (intro w hSw; (try dsimp only at hSw); go_simp; (try with_reducible rfl))
  (try simp only [Act.put, List.setIfInBounds_toArray, List.set_cons_zero, List.set_cons_succ])
  refine wpAnyH_take (i := 34) (oi := { dst := some 109, op := Op.load 25 (Operand.tmp 6), type := 25, pos := "extra.go:21", after := #[{ on := 33, ground := Ground.guard }], guard := some (33, true) }) (v := ?hv34) rfl (by kernel_rfl) (by kernel_rfl) (by kernel_rfl) (fun _ _ _ h => h) (Or.inl ⟨by rfl, ?hy34⟩) (by assumption) ?hr34
  case hy34 => (intro w hSw; (try dsimp only at hSw); go_simp; (try with_reducible rfl))
  (try simp only [Act.put, List.setIfInBounds_toArray, List.set_cons_zero, List.set_cons_succ])
  refine wpAnyH_take (i := 35) (oi := { dst := some 110, op := Op.move (Operand.tmp 3), type := 3, pos := "extra.go:21", after := #[{ on := 33, ground := Ground.guard }], guard := some (33, true) }) (v := ?hv35) rfl (by kernel_rfl) (by kernel_rfl) (by kernel_rfl) (fun _ _ _ h => h) (Or.inl ⟨by rfl, ?hy35⟩) (by assumption) ?hr35
  case hy35 => (intro w hSw; (try dsimp only at hSw); go_simp; (try with_reducible rfl))
  (try simp only [Act.put, List.setIfInBounds_toArray, List.set_cons_zero, List.set_cons_succ])
  refine wpAnyH_take (i := 36) (oi := { dst := some 111, op := Op.move (Operand.tmp 4), type := 30, pos := "extra.go:21", after := #[{ on := 33, ground := Ground.guard }], guard := some (33, true) }) (v := ?hv36) rfl (by kernel_rfl) (by kernel_rfl) (by kernel_rfl) (fun _ _ _ h => h) (Or.inl ⟨by rfl, ?hy36⟩) (by assumption) ?hr36
  case hy36 => (intro w hSw; (try dsimp only at hSw); go_simp; (try with_reducible rfl))
  (try simp only [Act.put, List.setIfInBounds_toArray, List.set_cons_zero, List.set_cons_succ])
  refine wpAnyH_take (i := 37) (oi := { dst := some 112, op := Op.move (Operand.tmp 5), type := 3, pos := "extra.go:21", after := #[{ on := 33, ground := Ground.guard }], guard := some (33, true) }) (v := ?hv37) rfl (by kernel_rfl) (by kernel_rfl) (by kernel_rfl) (fun _ _ _ h => h) (Or.inl ⟨by rfl, ?hy37⟩) (by assumption) ?hr37
  case hy37 => (intro w hSw; (try dsimp only at hSw); go_simp; (try with_reducible rfl))
  (try simp only [Act.put, List.setIfInBounds_toArray, List.set_cons_zero, List.set_cons_succ])
  refine wpAnyH_take (i := 38) (oi := { dst := some 113, op := Op.slice 30 (Operand.tmp 111) none (some (Operand.tmp 112)) none, type := 30, pos := "extra.go:21", after := #[{ on := 36, ground := Ground.data }, { on := 37, ground := Ground.data }, { on := 33, ground := Ground.guard }], guard := some (33, true) }) (v := ?hv38) rfl (by kernel_rfl) (by kernel_rfl) (by kernel_rfl) (fun _ _ _ h => h) (Or.inl ⟨by rfl, ?hy38⟩) (by assumption) ?hr38
  case hy38 => (intro w hSw; (try dsimp only at hSw); go_simp; (try with_reducible rfl))
  (try simp only [Act.put, List.setIfInBounds_toArray, List.set_cons_zero, List.set_cons_succ])
  refine wpAnyH_ready (rs := [39]) (by kernel_rfl) (by simp) ?_
  refine AllReadyH.cons (o := { dst := some 114, op := Op.call { callee := Callee.value (Operand.func 23), args := #[Operand.tmp 109, Operand.tmp 110, Operand.tmp 113], argTypes := #[25, 3, 30] }, type := 4, pos := "extra.go:21", after := #[{ on := 34, ground := Ground.data }, { on := 35, ground := Ground.data }, { on := 38, ground := Ground.data }, { on := 33, ground := Ground.chain }, { on := 33, ground := Ground.guard }], guard := some (33, true) }) rfl (fun K hK => ?_) AllReadyH.nil
  go_simp
  (go_at_call 23; (with_reducible refine (HF2.out _ (below_then HB8.out HB8.out.size G11.out)).mono ?_); rintro e w12 ⟨rfl, hb12⟩; have G12 := Aside0.mk (below_then G11.out G11.out.size hb12))
  go_wp2_with fail
  refine hK.out _ _ ?_ (fun hH39 => ?_)
  · (try dsimp only)
    exact HX.out _ (below_then E8.out E8.out.size G12.out)
  clear hK K hH32
  (try simp only [Act.put, List.setIfInBounds_toArray, List.set_cons_zero, List.set_cons_succ])
  refine wpAnyH_take (i := 40) (oi := { dst := some 115, op := Op.pick (Operand.tmp 108) (Operand.tmp 114) (Operand.const (Value.bool false)), type := 4, pos := "extra.go:21", after := #[{ on := 33, ground := Ground.data }, { on := 39, ground := Ground.data }, { on := 27, ground := Ground.guard }], guard := some (27, false) }) (v := ?hv40) rfl (by kernel_rfl) (by kernel_rfl) (by kernel_rfl) (fun _ _ _ h => h) (Or.inl ⟨by rfl, ?hy40⟩) (by assumption) ?hr40
  case hy40 => (intro w hSw; (try dsimp only at hSw); go_simp; (try with_reducible rfl))
  (try simp only [Act.put, List.setIfInBounds_toArray, List.set_cons_zero, List.set_cons_succ])
  refine wpAnyH_take (i := 41) (oi := { dst := some 116, op := Op.move (Operand.tmp 115), type := 4, pos := "extra.go:21", after := #[{ on := 40, ground := Ground.data }, { on := 39, ground := Ground.chain }, { on := 27, ground := Ground.guard }], guard := some (27, false) }) (v := ?hv41) rfl (by kernel_rfl) (by kernel_rfl) (by kernel_rfl) (fun _ _ _ h => h) (Or.inl ⟨by rfl, ?hy41⟩) (by assumption) ?hr41
  case hy41 => (intro w hSw; (try dsimp only at hSw); go_simp; (try with_reducible rfl))
  (try simp only [Act.put, List.setIfInBounds_toArray, List.set_cons_zero, List.set_cons_succ])
  refine wpAnyH_take (i := 42) (oi := { dst := some 117, op := Op.load 25 (Operand.tmp 6), type := 25, pos := "extra.go:21", after := #[{ on := 41, ground := Ground.guard }], guard := some (41, true) }) (v := ?hv42) rfl (by kernel_rfl) (by kernel_rfl) (by kernel_rfl) (fun _ _ _ h => h) (Or.inl ⟨by rfl, ?hy42⟩) (by assumption) ?hr42
  case hy42 => (intro w hSw; (try dsimp only at hSw); go_simp; (try with_reducible rfl))
  (try simp only [Act.put, List.setIfInBounds_toArray, List.set_cons_zero, List.set_cons_succ])
  refine wpAnyH_take (i := 43) (oi := { dst := some 118, op := Op.move (Operand.tmp 3), type := 3, pos := "extra.go:21", after := #[{ on := 41, ground := Ground.guard }], guard := some (41, true) }) (v := ?hv43) rfl (by kernel_rfl) (by kernel_rfl) (by kernel_rfl) (fun _ _ _ h => h) (Or.inl ⟨by rfl, ?hy43⟩) (by assumption) ?hr43
  case hy43 => (intro w hSw; (try dsimp only at hSw); go_simp; (try with_reducible rfl))
  (try simp only [Act.put, List.setIfInBounds_toArray, List.set_cons_zero, List.set_cons_succ])
  refine wpAnyH_take (i := 44) (oi := { dst := some 119, op := Op.move (Operand.tmp 4), type := 30, pos := "extra.go:21", after := #[{ on := 41, ground := Ground.guard }], guard := some (41, true) }) (v := ?hv44) rfl (by kernel_rfl) (by kernel_rfl) (by kernel_rfl) (fun _ _ _ h => h) (Or.inl ⟨by rfl, ?hy44⟩) (by assumption) ?hr44
  case hy44 => (intro w hSw; (try dsimp only at hSw); go_simp; (try with_reducible rfl))
  (try simp only [Act.put, List.setIfInBounds_toArray, List.set_cons_zero, List.set_cons_succ])
  refine wpAnyH_take (i := 45) (oi := { dst := some 120, op := Op.move (Operand.tmp 5), type := 3, pos := "extra.go:21", after := #[{ on := 41, ground := Ground.guard }], guard := some (41, true) }) (v := ?hv45) rfl (by kernel_rfl) (by kernel_rfl) (by kernel_rfl) (fun _ _ _ h => h) (Or.inl ⟨by rfl, ?hy45⟩) (by assumption) ?hr45
  case hy45 => (intro w hSw; (try dsimp only at hSw); go_simp; (try with_reducible rfl))
  (try simp only [Act.put, List.setIfInBounds_toArray, List.set_cons_zero, List.set_cons_succ])
  refine wpAnyH_take (i := 46) (oi := { dst := some 121, op := Op.slice 30 (Operand.tmp 119) (some (Operand.tmp 120)) none none, type := 30, pos := "extra.go:21", after := #[{ on := 44, ground := Ground.data }, { on := 45, ground := Ground.data }, { on := 41, ground := Ground.guard }], guard := some (41, true) }) (v := ?hv46) rfl (by kernel_rfl) (by kernel_rfl) (by kernel_rfl) (fun _ _ _ h => h) (Or.inl ⟨by rfl, ?hy46⟩) (by assumption) ?hr46
  case hy46 => (intro w hSw; (try dsimp only at hSw); go_simp; (try with_reducible rfl))
  (try simp only [Act.put, List.setIfInBounds_toArray, List.set_cons_zero, List.set_cons_succ])
  refine wpAnyH_ready (rs := [47]) (by kernel_rfl) (by simp) ?_
  refine AllReadyH.cons (o := { dst := some 122, op := Op.call { callee := Callee.value (Operand.func 23), args := #[Operand.tmp 117, Operand.tmp 118, Operand.tmp 121], argTypes := #[25, 3, 30] }, type := 4, pos := "extra.go:21", after := #[{ on := 42, ground := Ground.data }, { on := 43, ground := Ground.data }, { on := 46, ground := Ground.data }, { on := 41, ground := Ground.chain }, { on := 41, ground := Ground.guard }], guard := some (41, true) }) rfl (fun K hK => ?_) AllReadyH.nil
  go_simp
  (go_at_call 23; (with_reducible refine (HF3.out _ (below_then HB8.out HB8.out.size G12.out)).mono ?_); rintro e w13 ⟨rfl, hb13⟩; have G13 := Aside0.mk (below_then G12.out G12.out.size hb13))
  go_wp2_with fail
  refine hK.out _ _ ?_ (fun hH47 => ?_)
  · (try dsimp only)
    exact HX.out _ (below_then E8.out E8.out.size G13.out)
  clear hK K hH39
  (try simp only [Act.put, List.setIfInBounds_toArray, List.set_cons_zero, List.set_cons_succ])
  refine wpAnyH_take (i := 48) (oi := { dst := some 123, op := Op.pick (Operand.tmp 116) (Operand.tmp 122) (Operand.const (Value.bool false)), type := 4, pos := "extra.go:21", after := #[{ on := 41, ground := Ground.data }, { on := 47, ground := Ground.data }, { on := 27, ground := Ground.guard }], guard := some (27, false) }) (v := ?hv48) rfl (by kernel_rfl) (by kernel_rfl) (by kernel_rfl) (fun _ _ _ h => h) (Or.inl ⟨by rfl, ?hy48⟩) (by assumption) ?hr48
  case hy48 => (intro w hSw; (try dsimp only at hSw); go_simp; (try with_reducible rfl))
  (try simp only [Act.put, List.setIfInBounds_toArray, List.set_cons_zero, List.set_cons_succ])
  refine wpAnyH_take (i := 49) (oi := { dst := some 124, op := Op.pick (Operand.tmp 102) (Operand.const (Value.bool true)) (Operand.tmp 123), type := 4, pos := "extra.go:21", after := #[{ on := 27, ground := Ground.data }, { on := 48, ground := Ground.data }, { on := 24, ground := Ground.guard }], guard := some (24, true) }) (v := ?hv49) rfl (by kernel_rfl) (by kernel_rfl) (by kernel_rfl) (fun _ _ _ h => h) (Or.inl ⟨by rfl, ?hy49⟩) (by assumption) ?hr49
  case hy49 => (intro w hSw; (try dsimp only at hSw); go_simp; (try with_reducible rfl))
  (try simp only [Act.put, List.setIfInBounds_toArray, List.set_cons_zero, List.set_cons_succ])
  refine wpAnyH_take (i := 50) (oi := { dst := some 125, op := Op.pick (Operand.tmp 99) (Operand.tmp 124) (Operand.const (Value.bool false)), type := 4, pos := "extra.go:21", after := #[{ on := 24, ground := Ground.data }, { on := 49, ground := Ground.data }], guard := none }) (v := ?hv50) rfl (by kernel_rfl) (by kernel_rfl) (by kernel_rfl) (fun _ _ _ h => h) (Or.inl ⟨by rfl, ?hy50⟩) (by assumption) ?hr50
  case hy50 => (intro w hSw; (try dsimp only at hSw); go_simp; (try with_reducible rfl))
  (try simp only [Act.put, List.setIfInBounds_toArray, List.set_cons_zero, List.set_cons_succ])
  refine wpAnyH_take (i := 51) (oi := { dst := some 126, op := Op.move (Operand.tmp 125), type := 4, pos := "extra.go:21", after := #[{ on := 50, ground := Ground.data }, { on := 47, ground := Ground.chain }], guard := none }) (v := ?hv51) rfl (by kernel_rfl) (by kernel_rfl) (by kernel_rfl) (fun _ _ _ h => h) (Or.inl ⟨by rfl, ?hy51⟩) (by assumption) ?hr51
  case hy51 => (intro w hSw; (try dsimp only at hSw); go_simp; (try with_reducible rfl))
  (try simp only [Act.put, List.setIfInBounds_toArray, List.set_cons_zero, List.set_cons_succ])
  refine wpAnyH_take (i := 52) (oi := { dst := some 127, op := Op.load 25 (Operand.tmp 6), type := 25, pos := "extra.go:21", after := #[{ on := 51, ground := Ground.guard }], guard := some (51, true) }) (v := ?hv52) rfl (by kernel_rfl) (by kernel_rfl) (by kernel_rfl) (fun _ _ _ h => h) (Or.inl ⟨by rfl, ?hy52⟩) (by assumption) ?hr52
  case hy52 => (intro w hSw; (try dsimp only at hSw); go_simp; (try with_reducible rfl))
  (try simp only [Act.put, List.setIfInBounds_toArray, List.set_cons_zero, List.set_cons_succ])
  refine wpAnyH_take (i := 53) (oi := { dst := some 128, op := Op.move (Operand.tmp 4), type := 30, pos := "extra.go:21", after := #[{ on := 51, ground := Ground.guard }], guard := some (51, true) }) (v := ?hv53) rfl (by kernel_rfl) (by kernel_rfl) (by kernel_rfl) (fun _ _ _ h => h) (Or.inl ⟨by rfl, ?hy53⟩) (by assumption) ?hr53
  case hy53 => (intro w hSw; (try dsimp only at hSw); go_simp; (try with_reducible rfl))
  (try simp only [Act.put, List.setIfInBounds_toArray, List.set_cons_zero, List.set_cons_succ])
  refine wpAnyH_ready (rs := [54]) (by kernel_rfl) (by simp) ?_
  refine AllReadyH.cons (o := { dst := some 129, op := Op.call { callee := Callee.value (Operand.func 23), args := #[Operand.tmp 127, Operand.const (Value.int IntKind.i64 0), Operand.tmp 128], argTypes := #[25, 3, 30] }, type := 4, pos := "extra.go:21", after := #[{ on := 52, ground := Ground.data }, { on := 53, ground := Ground.data }, { on := 51, ground := Ground.chain }, { on := 51, ground := Ground.guard }], guard := some (51, true) }) rfl (fun K hK => ?_) AllReadyH.nil
  go_simp
  (go_at_call 23; (with_reducible refine (HFz.out _ (below_then HB8.out HB8.out.size G13.out)).mono ?_); rintro e w14 ⟨rfl, hb14⟩; have G14 := Aside0.mk (below_then G13.out G13.out.size hb14))
  go_wp2_with fail
  refine hK.out _ _ ?_ (fun hH54 => ?_)
  · (try dsimp only)
    exact HX.out _ (below_then E8.out E8.out.size G14.out)
  clear hK K hH47
  (try simp only [Act.put, List.setIfInBounds_toArray, List.set_cons_zero, List.set_cons_succ])
  refine wpAnyH_take (i := 55) (oi := { dst := some 130, op := Op.unOp UnOp.not 4 (Operand.tmp 129), type := 4, pos := "extra.go:21", after := #[{ on := 54, ground := Ground.data }, { on := 51, ground := Ground.guard }], guard := some (51, true) }) (v := ?hv55) rfl (by kernel_rfl) (by kernel_rfl) (by kernel_rfl) (fun _ _ _ h => h) (Or.inl ⟨by rfl, ?hy55⟩) (by assumption) ?hr55
  case hy55 => (intro w hSw; (try dsimp only at hSw); go_simp; (try with_reducible rfl))
  (try simp only [Act.put, List.setIfInBounds_toArray, List.set_cons_zero, List.set_cons_succ])
  refine wpAnyH_take (i := 56) (oi := { dst := some 131, op := Op.pick (Operand.tmp 126) (Operand.tmp 130) (Operand.const (Value.bool false)), type := 4, pos := "extra.go:21", after := #[{ on := 51, ground := Ground.data }, { on := 55, ground := Ground.data }], guard := none }) (v := ?hv56) rfl (by kernel_rfl) (by kernel_rfl) (by kernel_rfl) (fun _ _ _ h => h) (Or.inl ⟨by rfl, ?hy56⟩) (by assumption) ?hr56
  case hy56 => (intro w hSw; (try dsimp only at hSw); go_simp; (try with_reducible rfl))
  (try simp only [Act.put, List.setIfInBounds_toArray, List.set_cons_zero, List.set_cons_succ])
  refine wpAnyH_take (i := 57) (oi := { dst := some 132, op := Op.move (Operand.tmp 131), type := 4, pos := "extra.go:21", after := #[{ on := 56, ground := Ground.data }, { on := 54, ground := Ground.chain }], guard := none }) (v := ?hv57) rfl (by kernel_rfl) (by kernel_rfl) (by kernel_rfl) (fun _ _ _ h => h) (Or.inl ⟨by rfl, ?hy57⟩) (by assumption) ?hr57
  case hy57 => (intro w hSw; (try dsimp only at hSw); go_simp; (try with_reducible rfl))
  (try simp only [Act.put, List.setIfInBounds_toArray, List.set_cons_zero, List.set_cons_succ])
  refine wpAnyH_take (i := 59) (oi := { dst := some 134, op := Op.move (Operand.tmp 1), type := 22, pos := "extra.go:21", after := #[{ on := 57, ground := Ground.guard }], guard := some (57, true) }) (v := ?hv59) rfl (by kernel_rfl) (by kernel_rfl) (by kernel_rfl) (fun _ _ _ h => h) (Or.inl ⟨by rfl, ?hy59⟩) (by assumption) ?hr59
  case hy59 => (intro w hSw; (try dsimp only at hSw); go_simp; (try with_reducible rfl))
  (try simp only [Act.put, List.setIfInBounds_toArray, List.set_cons_zero, List.set_cons_succ])
  refine wpAnyH_take (i := 61) (oi := { dst := some 136, op := Op.move (Operand.tmp 2), type := 22, pos := "extra.go:21", after := #[{ on := 57, ground := Ground.guard }], guard := some (57, true) }) (v := ?hv61) rfl (by kernel_rfl) (by kernel_rfl) (by kernel_rfl) (fun _ _ _ h => h) (Or.inl ⟨by rfl, ?hy61⟩) (by assumption) ?hr61
  case hy61 => (intro w hSw; (try dsimp only at hSw); go_simp; (try with_reducible rfl))
  (try simp only [Act.put, List.setIfInBounds_toArray, List.set_cons_zero, List.set_cons_succ])
  refine wpAnyH_take (i := 64) (oi := { dst := some 139, op := Op.move (Operand.tmp 1), type := 22, pos := "extra.go:21", after := #[{ on := 57, ground := Ground.guard }], guard := some (57, true) }) (v := ?hv64) rfl (by kernel_rfl) (by kernel_rfl) (by kernel_rfl) (fun _ _ _ h => h) (Or.inl ⟨by rfl, ?hy64⟩) (by assumption) ?hr64
  case hy64 => (intro w hSw; (try dsimp only at hSw); go_simp; (try with_reducible rfl))
  (try simp only [Act.put, List.setIfInBounds_toArray, List.set_cons_zero, List.set_cons_succ])
  refine wpAnyH_ready (rs := [58]) (by kernel_rfl) (by simp) ?_
  refine AllReadyH.cons (o := { dst := some 133, op := Op.buildSlice 22 0 #[], type := 22, pos := "extra.go:21", after := #[{ on := 57, ground := Ground.guard }], guard := some (57, true) }) rfl (fun K hK => ?_) AllReadyH.nil
  go_simp
  refine hK.out _ _ ?_ (fun hH58 => ?_)
  · (try dsimp only)
    exact HX.out _ (below_then E8.out E8.out.size (below_alloc G14.out _))
  clear hK K hH54
  (try simp only [Act.put, List.setIfInBounds_toArray, List.set_cons_zero, List.set_cons_succ])
  refine wpAnyH_ready (rs := [60]) (by kernel_rfl) (by simp) ?_
  refine AllReadyH.cons (o := { dst := some 135, op := Op.call { callee := Callee.builtin Builtin.append, args := #[Operand.tmp 133, Operand.tmp 134], argTypes := #[22, 22] }, type := 22, pos := "extra.go:21", after := #[{ on := 58, ground := Ground.data }, { on := 59, ground := Ground.data }, { on := 57, ground := Ground.chain }, { on := 57, ground := Ground.guard }], guard := some (57, true) }) rfl (fun K hK => ?_) AllReadyH.nil
  (refine step_app k54 (by rfl) _ _ 22 54 _ 56 rfl Try.underlying22 info54 rfl (by decide) (by decide) (.slice (some ⟨w14.heap.size, 0, none⟩) 0 0) [] p A1 p.length c1 (by simp [Act.eval, Act.put]) (by simp [Act.eval, Act.put]) (AppV.none_ k54 54 G14.out) HR1c.out (by have := N1.out; simp; omega) ?_; intro v15 w15 hv15; have AV15 := Aside0.mk hv15; have G15 := Aside0.mk hv15.1; clear hv15)
  refine hK.out _ _ ?_ (fun hH60 => ?_)
  · (try dsimp only)
    exact HX.out _ (below_then E8.out E8.out.size G15.out)
  clear hK K hH58
  (try simp only [Act.put, List.setIfInBounds_toArray, List.set_cons_zero, List.set_cons_succ])
  refine wpAnyH_ready (rs := [62]) (by kernel_rfl) (by simp) ?_
  refine AllReadyH.cons (o := { dst := some 137, op := Op.call { callee := Callee.builtin Builtin.append, args := #[Operand.tmp 135, Operand.tmp 136], argTypes := #[22, 22] }, type := 22, pos := "extra.go:21", after := #[{ on := 60, ground := Ground.data }, { on := 61, ground := Ground.data }, { on := 60, ground := Ground.chain }, { on := 57, ground := Ground.guard }], guard := some (57, true) }) rfl (fun K hK => ?_) AllReadyH.nil
  (refine step_app k54 (by rfl) _ _ 22 54 _ 56 rfl Try.underlying22 info54 rfl (by decide) (by decide) v15 _ q A2 q.length c2 (by simp [Act.eval, Act.put]) (by simp [Act.eval, Act.put]) AV15.out HR2c.out (by have := N1.out; simp; omega) ?_; intro v16 w16 hv16; obtain ⟨A7, c7, rfl, hc7, hC7⟩ := hv16.C; simp only [List.nil_append, List.length_append] at hC7 hc7; have HC7 := Aside0.mk hC7; have Hc7 := Aside0.mk hc7; have G16 := Aside0.mk hv16.1; clear hv16 hC7 hc7)
  refine hK.out _ _ ?_ (fun hH62 => ?_)
  · (try dsimp only)
    exact HX.out _ (below_then E8.out E8.out.size G16.out)
  clear hK K hH60
  (try simp only [Act.put, List.setIfInBounds_toArray, List.set_cons_zero, List.set_cons_succ])
  refine wpAnyH_ready (rs := [63]) (by kernel_rfl) (by simp) ?_
  refine AllReadyH.cons (o := { dst := some 138, op := Op.call { callee := Callee.value (Operand.func 24), args := #[Operand.tmp 137], argTypes := #[22] }, type := 4, pos := "extra.go:21", after := #[{ on := 62, ground := Ground.data }, { on := 62, ground := Ground.chain }, { on := 57, ground := Ground.guard }], guard := some (57, true) }) rfl (fun K hK => ?_) AllReadyH.nil
  go_simp
  (go_at_call 24; (with_reducible refine (HPb.out _ A7 c7 HC7.out Hc7.out).mono ?_); rintro e w17 ⟨rfl, hb17⟩; have G17 := Aside0.mk (below_then G16.out G16.out.size hb17))
  go_wp2_with fail
  refine hK.out _ _ ?_ (fun hH63 => ?_)
  · (try dsimp only)
    exact HX.out _ (below_then E8.out E8.out.size G17.out)
  clear hK K hH62
  (try simp only [Act.put, List.setIfInBounds_toArray, List.set_cons_zero, List.set_cons_succ])
  refine wpAnyH_ready (rs := [65]) (by kernel_rfl) (by simp) ?_
  refine AllReadyH.cons (o := { dst := some 140, op := Op.call { callee := Callee.value (Operand.func 24), args := #[Operand.tmp 139], argTypes := #[22] }, type := 4, pos := "extra.go:21", after := #[{ on := 64, ground := Ground.data }, { on := 63, ground := Ground.chain }, { on := 57, ground := Ground.guard }], guard := some (57, true) }) rfl (fun K hK => ?_) AllReadyH.nil
  go_simp
  (go_at_call 24; (with_reducible refine (HPp.out _ (below_then HB8.out HB8.out.size G17.out)).mono ?_); rintro e w18 ⟨rfl, hb18⟩; have G18 := Aside0.mk (below_then G17.out G17.out.size hb18))
  go_wp2_with fail
  refine hK.out _ _ ?_ (fun hH65 => ?_)
  · (try dsimp only)
    exact HX.out _ (below_then E8.out E8.out.size G18.out)
  clear hK K hH63
  (try simp only [Act.put, List.setIfInBounds_toArray, List.set_cons_zero, List.set_cons_succ])
  refine wpAnyH_take (i := 66) (oi := { dst := some 141, op := Op.move (Operand.tmp 140), type := 4, pos := "extra.go:21", after := #[{ on := 65, ground := Ground.data }, { on := 65, ground := Ground.chain }, { on := 57, ground := Ground.guard }], guard := some (57, true) }) (v := ?hv66) rfl (by kernel_rfl) (by kernel_rfl) (by kernel_rfl) (fun _ _ _ h => h) (Or.inl ⟨by rfl, ?hy66⟩) (by assumption) ?hr66
  case hy66 => (intro w hSw; (try dsimp only at hSw); go_simp; (try with_reducible rfl))
  (try simp only [Act.put, List.setIfInBounds_toArray, List.set_cons_zero, List.set_cons_succ])
  refine wpAnyH_take (i := 67) (oi := { dst := some 142, op := Op.move (Operand.tmp 2), type := 22, pos := "extra.go:21", after := #[{ on := 66, ground := Ground.guard }], guard := some (66, true) }) (v := ?hv67) rfl (by kernel_rfl) (by kernel_rfl) (by kernel_rfl) (fun _ _ _ h => h) (Or.inl ⟨by rfl, ?hy67⟩) (by assumption) ?hr67
  case hy67 => (intro w hSw; (try dsimp only at hSw); go_simp; (try with_reducible rfl))
  (try simp only [Act.put, List.setIfInBounds_toArray, List.set_cons_zero, List.set_cons_succ])
  refine wpAnyH_ready (rs := [68]) (by kernel_rfl) (by simp) ?_
  refine AllReadyH.cons (o := { dst := some 143, op := Op.call { callee := Callee.value (Operand.func 24), args := #[Operand.tmp 142], argTypes := #[22] }, type := 4, pos := "extra.go:21", after := #[{ on := 67, ground := Ground.data }, { on := 66, ground := Ground.chain }, { on := 66, ground := Ground.guard }], guard := some (66, true) }) rfl (fun K hK => ?_) AllReadyH.nil
  go_simp
  (go_at_call 24; (with_reducible refine (HPq.out _ (below_then HB8.out HB8.out.size G18.out)).mono ?_); rintro e w19 ⟨rfl, hb19⟩; have G19 := Aside0.mk (below_then G18.out G18.out.size hb19))
  go_wp2_with fail
  refine hK.out _ _ ?_ (fun hH68 => ?_)
  · (try dsimp only)
    exact HX.out _ (below_then E8.out E8.out.size G19.out)
  clear hK K hH65
  (try simp only [Act.put, List.setIfInBounds_toArray, List.set_cons_zero, List.set_cons_succ])
  refine wpAnyH_take (i := 69) (oi := { dst := some 144, op := Op.pick (Operand.tmp 141) (Operand.tmp 143) (Operand.const (Value.bool false)), type := 4, pos := "extra.go:21", after := #[{ on := 66, ground := Ground.data }, { on := 68, ground := Ground.data }, { on := 57, ground := Ground.guard }], guard := some (57, true) }) (v := ?hv69) rfl (by kernel_rfl) (by kernel_rfl) (by kernel_rfl) (fun _ _ _ h => h) (Or.inl ⟨by rfl, ?hy69⟩) (by assumption) ?hr69
  case hy69 => (intro w hSw; (try dsimp only at hSw); go_simp; (try with_reducible rfl))
  (try simp only [Act.put, List.setIfInBounds_toArray, List.set_cons_zero, List.set_cons_succ])
  refine wpAnyH_take (i := 70) (oi := { dst := some 145, op := Op.binOp BinOp.eql 4 (Operand.tmp 138) (Operand.tmp 144) 4, type := 4, pos := "extra.go:21", after := #[{ on := 63, ground := Ground.data }, { on := 69, ground := Ground.data }, { on := 57, ground := Ground.guard }], guard := some (57, true) }) (v := ?hv70) rfl (by kernel_rfl) (by kernel_rfl) (by kernel_rfl) (fun _ _ _ h => h) (Or.inl ⟨by rfl, ?hy70⟩) (by assumption) ?hr70
  case hy70 => (intro w hSw; (try dsimp only at hSw); go_simp; (try with_reducible rfl))
  (try simp only [Act.put, List.setIfInBounds_toArray, List.set_cons_zero, List.set_cons_succ])
  refine wpAnyH_take (i := 71) (oi := { dst := some 146, op := Op.pick (Operand.tmp 132) (Operand.tmp 145) (Operand.const (Value.bool false)), type := 4, pos := "extra.go:21", after := #[{ on := 57, ground := Ground.data }, { on := 70, ground := Ground.data }], guard := none }) (v := ?hv71) rfl (by kernel_rfl) (by kernel_rfl) (by kernel_rfl) (fun _ _ _ h => h) (Or.inl ⟨by rfl, ?hy71⟩) (by assumption) ?hr71
  case hy71 => (intro w hSw; (try dsimp only at hSw); go_simp; (try with_reducible rfl))
  (try simp only [Act.put, List.setIfInBounds_toArray, List.set_cons_zero, List.set_cons_succ])
  refine wpAnyH_take (i := 72) (oi := { dst := some 12, op := Op.assign (Operand.tmp 146), type := 4, pos := "extra.go:21", after := #[{ on := 71, ground := Ground.data }, { on := 68, ground := Ground.chain }, { on := 0, ground := Ground.phase }, { on := 1, ground := Ground.phase }, { on := 2, ground := Ground.phase }, { on := 3, ground := Ground.phase }, { on := 4, ground := Ground.phase }, { on := 5, ground := Ground.phase }, { on := 6, ground := Ground.phase }, { on := 7, ground := Ground.phase }, { on := 8, ground := Ground.phase }, { on := 9, ground := Ground.phase }, { on := 10, ground := Ground.phase }, { on := 11, ground := Ground.phase }, { on := 12, ground := Ground.phase }, { on := 13, ground := Ground.phase }, { on := 14, ground := Ground.phase }, { on := 15, ground := Ground.phase }, { on := 16, ground := Ground.phase }, { on := 17, ground := Ground.phase }, { on := 18, ground := Ground.phase }, { on := 19, ground := Ground.phase }, { on := 20, ground := Ground.phase }, { on := 21, ground := Ground.phase }, { on := 22, ground := Ground.phase }, { on := 23, ground := Ground.phase }, { on := 24, ground := Ground.phase }, { on := 25, ground := Ground.phase }, { on := 26, ground := Ground.phase }, { on := 27, ground := Ground.phase }, { on := 28, ground := Ground.phase }, { on := 29, ground := Ground.phase }, { on := 30, ground := Ground.phase }, { on := 31, ground := Ground.phase }, { on := 32, ground := Ground.phase }, { on := 33, ground := Ground.phase }, { on := 34, ground := Ground.phase }, { on := 35, ground := Ground.phase }, { on := 36, ground := Ground.phase }, { on := 37, ground := Ground.phase }, { on := 38, ground := Ground.phase }, { on := 39, ground := Ground.phase }, { on := 40, ground := Ground.phase }, { on := 41, ground := Ground.phase }, { on := 42, ground := Ground.phase }, { on := 43, ground := Ground.phase }, { on := 44, ground := Ground.phase }, { on := 45, ground := Ground.phase }, { on := 46, ground := Ground.phase }, { on := 47, ground := Ground.phase }, { on := 48, ground := Ground.phase }, { on := 49, ground := Ground.phase }, { on := 50, ground := Ground.phase }, { on := 51, ground := Ground.phase }, { on := 52, ground := Ground.phase }, { on := 53, ground := Ground.phase }, { on := 54, ground := Ground.phase }, { on := 55, ground := Ground.phase }, { on := 56, ground := Ground.phase }, { on := 57, ground := Ground.phase }, { on := 58, ground := Ground.phase }, { on := 59, ground := Ground.phase }, { on := 60, ground := Ground.phase }, { on := 61, ground := Ground.phase }, { on := 62, ground := Ground.phase }, { on := 63, ground := Ground.phase }, { on := 64, ground := Ground.phase }, { on := 65, ground := Ground.phase }, { on := 66, ground := Ground.phase }, { on := 67, ground := Ground.phase }, { on := 68, ground := Ground.phase }, { on := 69, ground := Ground.phase }, { on := 70, ground := Ground.phase }, { on := 71, ground := Ground.phase }], guard := none }) (v := ?hv72) rfl (by kernel_rfl) (by kernel_rfl) (by kernel_rfl) (fun _ _ _ h => h) (Or.inl ⟨by rfl, ?hy72⟩) (by assumption) ?hr72
  case hy72 => (intro w hSw; (try dsimp only at hSw); go_simp; (try with_reducible rfl))
  (try simp only [Act.put, List.setIfInBounds_toArray, List.set_cons_zero, List.set_cons_succ])
  refine wpAnyH_done (by kernel_rfl) ?_ _
  go_wp2
  go_ret
  refine ⟨?_, below_then HB8.out HB8.out.size G19.out⟩
  cases gq <;> rfl
set_option maxHeartbeats 16000000 in
set_option maxRecDepth 100000 in
theorem more_true_false (c : Cf) (A1 : Option Addr) (c1 : Nat) (p : List Ins) (A2 : Option Addr) (c2 : Nat) (q : List Ins) (w : Nat) (A4 : Option Addr) (c4 : Nat) (l : List Int) (cut : Nat) (W : World)
    (hr1 : Kd.C k54 W A1 p.length p) (hc1 : p.length ≤ c1) (hr2 : Kd.C k54 W A2 q.length q) (hc2 : q.length ≤ c2) (hr4 : Kd.C (Kd.int .i64) W A4 l.length l) (hc4 : l.length ≤ c4)
    (b1 : p.length ≤ 60) (b2 : q.length ≤ 60) (b3 : l.length ≤ 300) (b4 : cut ≤ l.length) (b5 : 1 ≤ w) (b6 : w ≤ 300) (b7 : c.f4 ≤ 9223372036854775807) (hfv : fairB l w (manyOf c.f4 c.f11).toNat 0 (l.length + 1 - w) = true) (hgp : bound_Plain.g p = false) :
    Calls Try.prog 5 #[.agg #[.int .i64 c.f0, .int .i64 c.f1, .int .i64 c.f2, .int .i64 c.f3, .int .i64 c.f4, .int .i64 c.f5, .int .i64 c.f6, .int .i64 c.f7, .int .i64 c.f8, .int .i64 c.f9, .int .i64 c.f10, .int .i64 c.f11], .slice A1 p.length c1, .slice A2 q.length c2, .int .i64 (w : Int), .slice A4 l.length c4, .int .i64 (cut : Int)] W fun e w' => e = .returned (.bool true) ∧ Below W.heap.size W w' := by
  have hu25 := Try.underlying25
  obtain ⟨x, y, hx, hy, hxy⟩ := more_win c.f0 c.f1 c.f2 c.f3 c.f4 c.f5 c.f6 c.f7 c.f8 c.f9 c.f10 c.f11 p q b1 b2
  have HF := Aside0.mk (fun W => ltklaw21_first.calls 60 true W first_at)
  have HSp := Aside0.mk (fun V (hb : Below W.heap.size W V) => bound_Steps.calls 200 A1 c1 p (stS p) V (Kd.C_below hr1 hb) hc1 (steps_f p (by omega) (by omega)))
  have HSq := Aside0.mk (fun V (hb : Below W.heap.size W V) => bound_Steps.calls 200 A2 c2 q (stS q) V (Kd.C_below hr2 hb) hc2 (steps_f q (by omega) (by omega)))
  have HSb0 := (fun V A c hr hc => bound_Steps.calls 200 A c (p ++ q) (stS (p ++ q)) V hr hc (steps_f (p ++ q) (by simp; omega) (by simp; omega)))
  simp only [List.length_append] at HSb0
  have HSb := Aside0.mk HSb0
  clear HSb0
  have HWx := Aside0.mk (fun V A hr => bound_Windows.calls 4000 c.f0 c.f1 c.f2 c.f3 c.f4 c.f5 c.f6 c.f7 c.f8 c.f9 c.f10 c.f11 A 1 [[p]] x V hr (Nat.le_refl _) hx)
  have HWy := Aside0.mk (fun V A hr => bound_Windows.calls 4000 c.f0 c.f1 c.f2 c.f3 c.f4 c.f5 c.f6 c.f7 c.f8 c.f9 c.f10 c.f11 A 1 [[p, q]] y V hr (Nat.le_refl _) hy)
  have HPp := Aside0.mk (fun V (hb : Below W.heap.size W V) => bound_Plain.calls A1 c1 p _ V (Kd.C_below hr1 hb) hc1 rfl)
  have HPq := Aside0.mk (fun V (hb : Below W.heap.size W V) => bound_Plain.calls A2 c2 q _ V (Kd.C_below hr2 hb) hc2 rfl)
  have HPb0 := (fun V A c hr hc => bound_Plain.calls A c (p ++ q) _ V hr hc (congrArg some (plain_append p q)))
  simp only [List.length_append] at HPb0
  have HPb := Aside0.mk HPb0
  clear HPb0
  rw [hgp] at HPp HPb
  generalize hgq : bound_Plain.g q = gq at HPq HPb
  obtain ⟨kf, hf0⟩ := fair_ex c b7 w l b3 (by omega)
  rw [if_neg (by omega), hfv] at hf0
  have HF0 := Aside0.mk (fun V (hb : Below W.heap.size W V) => bound_Fair.calls kf c.f0 c.f1 c.f2 c.f3 c.f4 c.f5 c.f6 c.f7 c.f8 c.f9 c.f10 c.f11 (w : Int) A4 c4 l true V (Kd.C_below hr4 hb) hc4 hf0)
  obtain ⟨kz, hfz⟩ := fair_ex c b7 0 l b3 (by omega)
  rw [if_pos rfl] at hfz
  have HFz := Aside0.mk (fun V (hb : Below W.heap.size W V) => bound_Fair.calls kz c.f0 c.f1 c.f2 c.f3 c.f4 c.f5 c.f6 c.f7 c.f8 c.f9 c.f10 c.f11 0 A4 c4 l false V (Kd.C_below hr4 hb) hc4 hfz)
  obtain ⟨m1, m2, m3⟩ := more_fair hfv cut b4
  obtain ⟨i0, hi0, hz0, hz1, hz2⟩ := info_parts (P := Try.prog) info3
  obtain ⟨hcutT, hTC, hTl⟩ := print_take_of (P := Try.prog) (Value.int .i64) 0 30 3 .i64 Try.underlying30 hi0 hz1 A4 c4 l (cut : Int) (by omega) (by omega) hc4
  obtain ⟨A5, hcutD, hDC, hDl⟩ := print_drop_of (P := Try.prog) (Value.int .i64) 0 30 3 .i64 Try.underlying30 hi0 hz1 A4 c4 l (cut : Int) (by omega) (by omega) hc4
  clear hi0 hz0 hz1 hz2
  simp only [Int.toNat_natCast] at hcutT hTC hTl hcutD hDC hDl
  obtain ⟨k1, hf1⟩ := fair_ex c b7 (w + 1) l b3 (by omega)
  rw [if_neg (by omega), m1] at hf1
  obtain ⟨k2, hf2⟩ := fair_ex c b7 w (l.take cut) (by rw [List.length_take]; omega) (by omega)
  rw [if_neg (by omega), m2] at hf2
  obtain ⟨k3, hf3⟩ := fair_ex c b7 w (l.drop cut) (by rw [List.length_drop]; omega) (by omega)
  rw [if_neg (by omega), m3] at hf3
  have ew : ((w + 1 : Nat) : Int) = (w : Int) + 1 := by omega
  rw [ew] at hf1
  have hTC' : ∀ V, Kd.C (Kd.int .i64) V A4 l.length l → Kd.C (Kd.int .i64) V A4 (l.take cut).length (l.take cut) := fun V h => Kd.C_take h b4
  have hDC' : ∀ V, Kd.C (Kd.int .i64) V A4 l.length l → Kd.C (Kd.int .i64) V A5 (l.drop cut).length (l.drop cut) := fun V h => Kd.C_of_reads (hDC V (Kd.reads_of_C h))
  have HF1 := Aside0.mk (fun V (hb : Below W.heap.size W V) => bound_Fair.calls k1 c.f0 c.f1 c.f2 c.f3 c.f4 c.f5 c.f6 c.f7 c.f8 c.f9 c.f10 c.f11 ((w : Int) + 1) A4 c4 l true V (Kd.C_below hr4 hb) hc4 hf1)
  have HF2 := Aside0.mk (fun V (hb : Below W.heap.size W V) => bound_Fair.calls k2 c.f0 c.f1 c.f2 c.f3 c.f4 c.f5 c.f6 c.f7 c.f8 c.f9 c.f10 c.f11 (w : Int) A4 c4 (l.take cut) true V (hTC' V (Kd.C_below hr4 hb)) hTl hf2)
  have HF3 := Aside0.mk (fun V (hb : Below W.heap.size W V) => bound_Fair.calls k3 c.f0 c.f1 c.f2 c.f3 c.f4 c.f5 c.f6 c.f7 c.f8 c.f9 c.f10 c.f11 (w : Int) A5 (c4 - cut) (l.drop cut) true V (hDC' V (Kd.C_below hr4 hb)) hDl hf3)
  generalize hlT : (l.take cut).length = lT at hcutT HF2
  generalize hlD : (l.drop cut).length = lD at hcutD HF3
  clear hTC hTl hDC hDl hTC' hDC' m1 m2 m3 hf1 hf2 hf3 ew hlT hlD
  have n1 : 8 ≤ stS p := by unfold stS; have := (sumS_in p).1; omega
  have n2 : stS p ≤ 2408 := by unfold stS; have := (sumS_in p).2; omega
  have n3 : 8 ≤ stS q := by unfold stS; have := (sumS_in q).1; omega
  have n4 : stS q ≤ 2408 := by unfold stS; have := (sumS_in q).2; omega
  have nb := steps_append p q
  rw [nb] at HSb
  generalize stS p = sp at n1 n2 HSp HSb nb
  generalize stS q = sq at n3 n4 HSq HSb nb
  have N1 := Aside0.mk (And.intro b1 b2)
  have t1 : decide ((p.length : Int) > 60) = false := decide_eq_false (by omega)
  have t1' : decide (60 < p.length) = false := decide_eq_false (by omega)
  have t2 : decide ((q.length : Int) > 60) = false := decide_eq_false (by omega)
  have t2' : decide (60 < q.length) = false := decide_eq_false (by omega)
  have t3 : decide ((l.length : Int) > 300) = false := decide_eq_false (by omega)
  have t3' : decide (300 < l.length) = false := decide_eq_false (by omega)
  have t5 : decide ((cut : Int) > (l.length : Int)) = false := decide_eq_false (by omega)
  have t5' : decide (l.length < cut) = false := decide_eq_false (by omega)
  have t6 : decide ((w : Int) < 1) = false := decide_eq_false (by omega)
  have t6' : decide (w < 1) = false := decide_eq_false (by omega)
  have t6n : decide (w = 0) = false := decide_eq_false (by omega)
  have t7 : decide ((w : Int) > 300) = false := decide_eq_false (by omega)
  have t7' : decide (300 < w) = false := decide_eq_false (by omega)
  have n5 : (0 : Int) ≤ (cut : Int) := by omega
  have n6 : (cut : Int) ≤ (l.length : Int) := by omega
  have n7 : (w : Int) ≤ 300 := by omega
  have n8 : (0 : Int) ≤ (w : Int) := by omega
  have HR1 := Aside0.mk hr1
  have HR2 := Aside0.mk hr2
  have HC1 := Aside0.mk hc1
  have HC2 := Aside0.mk hc2
  have HXY := Aside0.mk hxy
  clear hr1 hc1 hr2 hc2 hr4 hc4 b1 b2 b3 b4 b5 b6 b7 hfv hf0 hfz hx hy hxy nb hgp hgq
  go_enter Try.func5, Try.ntmps5
  go_wp2_with fail
  refine (HF.out _).mono ?_
  rintro e w1 ⟨rfl, hb⟩
  have BK := Aside0.mk (blk_below (blk_new W (.cells #[.int .i64 c.f0, .int .i64 c.f1, .int .i64 c.f2, .int .i64 c.f3, .int .i64 c.f4, .int .i64 c.f5, .int .i64 c.f6, .int .i64 c.f7, .int .i64 c.f8, .int .i64 c.f9, .int .i64 c.f10, .int .i64 c.f11] 25)) hb)
  have HB1 := Aside0.mk (below_then (below_alloc (Below.refl _ _) _) (below_alloc (Below.refl _ _) _).size hb)
  clear hb
  generalize hg : W.heap.size = g at BK
  have HG := Aside0.mk hg
  have HX := Aside0.mk (fun V (hb : Below w1.heap.size w1 V) => (show V.cell? ⟨g, 0, none⟩ = some (.int .i64 c.f0) ∧ V.cell? ⟨g, 1, none⟩ = some (.int .i64 c.f1) ∧ V.cell? ⟨g, 2, none⟩ = some (.int .i64 c.f2) ∧ V.cell? ⟨g, 3, none⟩ = some (.int .i64 c.f3) ∧ V.cell? ⟨g, 4, none⟩ = some (.int .i64 c.f4) ∧ V.cell? ⟨g, 5, none⟩ = some (.int .i64 c.f5) ∧ V.cell? ⟨g, 6, none⟩ = some (.int .i64 c.f6) ∧ V.cell? ⟨g, 7, none⟩ = some (.int .i64 c.f7) ∧ V.cell? ⟨g, 8, none⟩ = some (.int .i64 c.f8) ∧ V.cell? ⟨g, 9, none⟩ = some (.int .i64 c.f9) ∧ V.cell? ⟨g, 10, none⟩ = some (.int .i64 c.f10) ∧ V.cell? ⟨g, 11, none⟩ = some (.int .i64 c.f11) from by
    have h := (hb.block g (Array.getElem?_eq_some_iff.1 BK.out).1).trans BK.out
    exact ⟨(blk_cell h 0).trans rfl, (blk_cell h 1).trans rfl, (blk_cell h 2).trans rfl, (blk_cell h 3).trans rfl, (blk_cell h 4).trans rfl, (blk_cell h 5).trans rfl, (blk_cell h 6).trans rfl, (blk_cell h 7).trans rfl, (blk_cell h 8).trans rfl, (blk_cell h 9).trans rfl, (blk_cell h 10).trans rfl, (blk_cell h 11).trans rfl⟩))
  clear hg
  go_wp2_with fail
  (try rw [HG.out])
  refine (HSp.out _ HB1.out).mono ?_
  rintro e w2 ⟨rfl, hb⟩
  have E2 := Aside0.mk hb
  have HB2 := Aside0.mk (below_then HB1.out HB1.out.size hb)
  clear hb
  have AV0 := Aside0.mk (AppV.none_ k54 54 (Below.refl w2.heap.size w2))
  have HR1b := Aside0.mk (Kd.C_below HR1.out HB2.out)
  have HR2b := Aside0.mk (Kd.C_below HR2.out HB2.out)
  go_wp2_with (at_builtin; refine wpList_app k54 rfl _ _ 22 54 _ 56 rfl Try.underlying22 info54 rfl (by decide) (by decide) (.slice (some ⟨w2.heap.size, 0, none⟩) 0 0) [] p A1 p.length c1 (by simp [Act.eval, Act.put]) (by simp [Act.eval, Act.put]) AV0.out HR1b.out (by have := N1.out; simp; omega) ?_)
  intro v3 w3 hv3
  have AV3 := Aside0.mk hv3
  clear hv3
  go_wp2_with (at_builtin; refine wpList_app k54 rfl _ _ 22 54 _ 56 rfl Try.underlying22 info54 rfl (by decide) (by decide) v3 _ q A2 q.length c2 (by simp [Act.eval, Act.put]) (by simp [Act.eval, Act.put]) AV3.out HR2b.out (by have := N1.out; simp; omega) ?_)
  intro v4 w4 hv4
  obtain ⟨A6, c6, rfl, hc6, hC6⟩ := hv4.C
  simp only [List.nil_append, List.length_append] at hC6 hc6
  have E4 := Aside0.mk (below_then E2.out E2.out.size hv4.1)
  have HC6 := Aside0.mk hC6
  have Hc6 := Aside0.mk hc6
  clear hv4 hC6 hc6
  go_wp2_with fail
  refine (HSb.out _ A6 c6 HC6.out Hc6.out).mono ?_
  rintro e w5 ⟨rfl, hb⟩
  have E5 := Aside0.mk (below_then E4.out E4.out.size hb)
  have HB5 := Aside0.mk (below_then HB1.out HB1.out.size E5.out)
  clear hb AV0 AV3 HR1b HR2b E4 HC6 Hc6
  obtain ⟨x0, x1, x2, x3, x4, x5, x6, x7, x8, x9, x10, x11⟩ := HX.out _ E5.out
  go_wp2_with fail
  refine (HWx.out _ _ (ltklaw21_BoundPolicies.arg (g := w5.heap.size) (by simp) (blk_new w5 _) (Kd.C_alloc (Kd.C_below HR1.out HB5.out) _) HC1.out)).mono ?_
  rintro e w6 ⟨rfl, hb⟩
  have E6 := Aside0.mk (below_then (below_alloc (below_alloc E5.out _) _) (below_alloc (below_alloc E5.out _) _).size hb)
  have HB6 := Aside0.mk (below_then HB1.out HB1.out.size E6.out)
  clear hb E5 HB5 x0 x1 x2 x3 x4 x5 x6 x7 x8 x9 x10 x11
  obtain ⟨x0, x1, x2, x3, x4, x5, x6, x7, x8, x9, x10, x11⟩ := HX.out _ E6.out
  go_wp2_with fail
  refine (HWy.out _ _ (arg2 (g := w6.heap.size) (by simp) (blk_new w6 _) (Kd.C_alloc (Kd.C_below HR1.out HB6.out) _) HC1.out (Kd.C_alloc (Kd.C_below HR2.out HB6.out) _) HC2.out)).mono ?_
  rintro e w7 ⟨rfl, hb⟩
  have E7 := Aside0.mk (below_then (below_alloc (below_alloc E6.out _) _) (below_alloc (below_alloc E6.out _) _).size hb)
  have HB7 := Aside0.mk (below_then HB1.out HB1.out.size E7.out)
  clear hb E6 HB6 x0 x1 x2 x3 x4 x5 x6 x7 x8 x9 x10 x11
  obtain ⟨x0, x1, x2, x3, x4, x5, x6, x7, x8, x9, x10, x11⟩ := HX.out _ E7.out
  go_wp2_with fail
  refine (HF0.out _ HB7.out).mono ?_
  rintro e w8 ⟨rfl, hb⟩
  have E8 := Aside0.mk (below_then E7.out E7.out.size hb)
  have HB8 := Aside0.mk (below_then HB1.out HB1.out.size E8.out)
  clear hb E7 HB7 x0 x1 x2 x3 x4 x5 x6 x7 x8 x9 x10 x11
  obtain ⟨x0, x1, x2, x3, x4, x5, x6, x7, x8, x9, x10, x11⟩ := HX.out _ E8.out
  have HR1c := Aside0.mk (Kd.C_below HR1.out HB8.out)
  have HR2c := Aside0.mk (Kd.C_below HR2.out HB8.out)
  have T1 := Aside0.mk (show decide (sp ≥ 8) = true from decide_eq_true n1)
  have k1 : decide (sp ≥ 8) = true := decide_eq_true n1
  have k1' : decide (8 ≤ sp) = true := decide_eq_true n1
  have k2 : decide (sp + sq - 8 ≥ sp) = true := decide_eq_true (by omega)
  have k2' : decide (sp ≤ sp + sq - 8) = true := decide_eq_true (by omega)
  have k3 : decide (y ≥ x) = true := decide_eq_true HXY.out
  have k3' : decide (x ≤ y) = true := decide_eq_true HXY.out
  have k4 : IntKind.i64.wrap (sp + sq) = sp + sq := IntWalk.i64_in _ (by omega)
  have k5 : IntKind.i64.wrap (sp + sq - 8) = sp + sq - 8 := IntWalk.i64_in _ (by omega)
  have k6 : IntKind.i64.wrap ((w : Int) + 1) = (w : Int) + 1 := IntWalk.i64_in _ (by omega)
  have HBd := Aside0.mk (below_drew (Below.refl w8.heap.size w8))
  go_wp2_with fail

  simp only [List.append_eq, List.cons_append, List.nil_append]
  refine wp_region_held_drew (S := (fun W => W.cell? ⟨g, 0, none⟩ = some (.int .i64 c.f0) ∧ W.cell? ⟨g, 1, none⟩ = some (.int .i64 c.f1) ∧ W.cell? ⟨g, 2, none⟩ = some (.int .i64 c.f2) ∧ W.cell? ⟨g, 3, none⟩ = some (.int .i64 c.f3) ∧ W.cell? ⟨g, 4, none⟩ = some (.int .i64 c.f4) ∧ W.cell? ⟨g, 5, none⟩ = some (.int .i64 c.f5) ∧ W.cell? ⟨g, 6, none⟩ = some (.int .i64 c.f6) ∧ W.cell? ⟨g, 7, none⟩ = some (.int .i64 c.f7) ∧ W.cell? ⟨g, 8, none⟩ = some (.int .i64 c.f8) ∧ W.cell? ⟨g, 9, none⟩ = some (.int .i64 c.f9) ∧ W.cell? ⟨g, 10, none⟩ = some (.int .i64 c.f10) ∧ W.cell? ⟨g, 11, none⟩ = some (.int .i64 c.f11))) (by kernel_rfl) ?_ (fun hH => ?_)
  · exact HX.out _ (below_then E8.out E8.out.size HBd.out)
  refine wpAnyH_ready (rs := [0]) (by kernel_rfl) (by simp) ?_
  refine AllReadyH.cons (o := { dst := some 75, op := Op.call { callee := Callee.value (Operand.func 7), args := #[], argTypes := #[] }, type := 4, pos := "extra.go:21", after := #[], guard := none }) rfl (fun K hK => ?_) AllReadyH.nil
  go_simp
  (go_at_call 7; (with_reducible refine (HF.out _).mono ?_); rintro e w9 ⟨rfl, hb9⟩; have G9 := Aside0.mk (below_then HBd.out HBd.out.size hb9))
  go_wp2_with fail
  refine hK.out _ _ ?_ (fun hH0 => ?_)
  · (try dsimp only)
    exact HX.out _ (below_then E8.out E8.out.size G9.out)
  clear hK K hH
  (try simp only [Act.put, List.setIfInBounds_toArray, List.set_cons_zero, List.set_cons_succ])
  refine wpAnyH_take (i := 1) (oi := { dst := some 76, op := Op.move (Operand.tmp 75), type := 4, pos := "extra.go:21", after := #[{ on := 0, ground := Ground.data }, { on := 0, ground := Ground.chain }], guard := none }) (v := ?hv1) rfl (by kernel_rfl) (by kernel_rfl) (by kernel_rfl) (fun _ _ _ h => h) (Or.inl ⟨by rfl, ?hy1⟩) (by assumption) ?hr1
  case hy1 => (intro w hSw; (try dsimp only at hSw); go_simp; (try with_reducible rfl))
  (try simp only [Act.put, List.setIfInBounds_toArray, List.set_cons_zero, List.set_cons_succ])
  refine wpAnyH_take (i := 2) (oi := { dst := some 77, op := Op.move (Operand.tmp 13), type := 3, pos := "extra.go:21", after := #[{ on := 1, ground := Ground.guard }], guard := some (1, true) }) (v := ?hv2) rfl (by kernel_rfl) (by kernel_rfl) (by kernel_rfl) (fun _ _ _ h => h) (Or.inl ⟨by rfl, ?hy2⟩) (by assumption) ?hr2
  case hy2 => (intro w hSw; (try dsimp only at hSw); go_simp; (try with_reducible rfl))
  (try simp only [Act.put, List.setIfInBounds_toArray, List.set_cons_zero, List.set_cons_succ])
  refine wpAnyH_take (i := 3) (oi := { dst := some 78, op := Op.binOp BinOp.geq 3 (Operand.tmp 77) (Operand.const (Value.int IntKind.i64 8)) 3, type := 4, pos := "extra.go:21", after := #[{ on := 2, ground := Ground.data }, { on := 1, ground := Ground.guard }], guard := some (1, true) }) (v := ?hv3) rfl (by kernel_rfl) (by kernel_rfl) (by kernel_rfl) (fun _ _ _ h => h) (Or.inl ⟨by rfl, ?hy3⟩) (by assumption) ?hr3
  case hy3 => (intro w hSw; (try dsimp only at hSw); go_simp; (try with_reducible rfl))
  (try simp only [Act.put, List.setIfInBounds_toArray, List.set_cons_zero, List.set_cons_succ])
  refine wpAnyH_take (i := 4) (oi := { dst := some 79, op := Op.pick (Operand.tmp 76) (Operand.tmp 78) (Operand.const (Value.bool false)), type := 4, pos := "extra.go:21", after := #[{ on := 1, ground := Ground.data }, { on := 3, ground := Ground.data }], guard := none }) (v := ?hv4) rfl (by kernel_rfl) (by kernel_rfl) (by kernel_rfl) (fun _ _ _ h => h) (Or.inl ⟨by rfl, ?hy4⟩) (by assumption) ?hr4
  case hy4 => (intro w hSw; (try dsimp only at hSw); go_simp; (try with_reducible rfl))
  (try simp only [Act.put, List.setIfInBounds_toArray, List.set_cons_zero, List.set_cons_succ])
  refine wpAnyH_take (i := 5) (oi := { dst := some 80, op := Op.move (Operand.tmp 79), type := 4, pos := "extra.go:21", after := #[{ on := 4, ground := Ground.data }, { on := 1, ground := Ground.chain }], guard := none }) (v := ?hv5) rfl (by kernel_rfl) (by kernel_rfl) (by kernel_rfl) (fun _ _ _ h => h) (Or.inl ⟨by rfl, ?hy5⟩) (by assumption) ?hr5
  case hy5 => (intro w hSw; (try dsimp only at hSw); go_simp; (try with_reducible rfl))
  (try simp only [Act.put, List.setIfInBounds_toArray, List.set_cons_zero, List.set_cons_succ])
  refine wpAnyH_take (i := 6) (oi := { dst := some 81, op := Op.move (Operand.tmp 14), type := 3, pos := "extra.go:21", after := #[{ on := 5, ground := Ground.guard }], guard := some (5, true) }) (v := ?hv6) rfl (by kernel_rfl) (by kernel_rfl) (by kernel_rfl) (fun _ _ _ h => h) (Or.inl ⟨by rfl, ?hy6⟩) (by assumption) ?hr6
  case hy6 => (intro w hSw; (try dsimp only at hSw); go_simp; (try with_reducible rfl))
  (try simp only [Act.put, List.setIfInBounds_toArray, List.set_cons_zero, List.set_cons_succ])
  refine wpAnyH_take (i := 7) (oi := { dst := some 82, op := Op.move (Operand.tmp 13), type := 3, pos := "extra.go:21", after := #[{ on := 5, ground := Ground.guard }], guard := some (5, true) }) (v := ?hv7) rfl (by kernel_rfl) (by kernel_rfl) (by kernel_rfl) (fun _ _ _ h => h) (Or.inl ⟨by rfl, ?hy7⟩) (by assumption) ?hr7
  case hy7 => (intro w hSw; (try dsimp only at hSw); go_simp; (try with_reducible rfl))
  (try simp only [Act.put, List.setIfInBounds_toArray, List.set_cons_zero, List.set_cons_succ])
  refine wpAnyH_take (i := 8) (oi := { dst := some 83, op := Op.binOp BinOp.geq 3 (Operand.tmp 81) (Operand.tmp 82) 3, type := 4, pos := "extra.go:21", after := #[{ on := 6, ground := Ground.data }, { on := 7, ground := Ground.data }, { on := 5, ground := Ground.guard }], guard := some (5, true) }) (v := ?hv8) rfl (by kernel_rfl) (by kernel_rfl) (by kernel_rfl) (fun _ _ _ h => h) (Or.inl ⟨by rfl, ?hy8⟩) (by assumption) ?hr8
  case hy8 => (intro w hSw; (try dsimp only at hSw); go_simp; (try with_reducible rfl))
  (try simp only [Act.put, List.setIfInBounds_toArray, List.set_cons_zero, List.set_cons_succ])
  refine wpAnyH_take (i := 9) (oi := { dst := some 84, op := Op.pick (Operand.tmp 80) (Operand.tmp 83) (Operand.const (Value.bool false)), type := 4, pos := "extra.go:21", after := #[{ on := 5, ground := Ground.data }, { on := 8, ground := Ground.data }], guard := none }) (v := ?hv9) rfl (by kernel_rfl) (by kernel_rfl) (by kernel_rfl) (fun _ _ _ h => h) (Or.inl ⟨by rfl, ?hy9⟩) (by assumption) ?hr9
  case hy9 => (intro w hSw; (try dsimp only at hSw); go_simp; (try with_reducible rfl))
  (try simp only [Act.put, List.setIfInBounds_toArray, List.set_cons_zero, List.set_cons_succ])
  refine wpAnyH_take (i := 10) (oi := { dst := some 85, op := Op.move (Operand.tmp 84), type := 4, pos := "extra.go:21", after := #[{ on := 9, ground := Ground.data }, { on := 5, ground := Ground.chain }], guard := none }) (v := ?hv10) rfl (by kernel_rfl) (by kernel_rfl) (by kernel_rfl) (fun _ _ _ h => h) (Or.inl ⟨by rfl, ?hy10⟩) (by assumption) ?hr10
  case hy10 => (intro w hSw; (try dsimp only at hSw); go_simp; (try with_reducible rfl))
  (try simp only [Act.put, List.setIfInBounds_toArray, List.set_cons_zero, List.set_cons_succ])
  refine wpAnyH_take (i := 11) (oi := { dst := some 86, op := Op.move (Operand.tmp 14), type := 3, pos := "extra.go:21", after := #[{ on := 10, ground := Ground.guard }], guard := some (10, true) }) (v := ?hv11) rfl (by kernel_rfl) (by kernel_rfl) (by kernel_rfl) (fun _ _ _ h => h) (Or.inl ⟨by rfl, ?hy11⟩) (by assumption) ?hr11
  case hy11 => (intro w hSw; (try dsimp only at hSw); go_simp; (try with_reducible rfl))
  (try simp only [Act.put, List.setIfInBounds_toArray, List.set_cons_zero, List.set_cons_succ])
  refine wpAnyH_take (i := 12) (oi := { dst := some 87, op := Op.move (Operand.tmp 13), type := 3, pos := "extra.go:21", after := #[{ on := 10, ground := Ground.guard }], guard := some (10, true) }) (v := ?hv12) rfl (by kernel_rfl) (by kernel_rfl) (by kernel_rfl) (fun _ _ _ h => h) (Or.inl ⟨by rfl, ?hy12⟩) (by assumption) ?hr12
  case hy12 => (intro w hSw; (try dsimp only at hSw); go_simp; (try with_reducible rfl))
  (try simp only [Act.put, List.setIfInBounds_toArray, List.set_cons_zero, List.set_cons_succ])
  refine wpAnyH_take (i := 13) (oi := { dst := some 88, op := Op.move (Operand.tmp 2), type := 22, pos := "extra.go:21", after := #[{ on := 10, ground := Ground.guard }], guard := some (10, true) }) (v := ?hv13) rfl (by kernel_rfl) (by kernel_rfl) (by kernel_rfl) (fun _ _ _ h => h) (Or.inl ⟨by rfl, ?hy13⟩) (by assumption) ?hr13
  case hy13 => (intro w hSw; (try dsimp only at hSw); go_simp; (try with_reducible rfl))
  (try simp only [Act.put, List.setIfInBounds_toArray, List.set_cons_zero, List.set_cons_succ])
  refine wpAnyH_ready (rs := [14]) (by kernel_rfl) (by simp) ?_
  refine AllReadyH.cons (o := { dst := some 89, op := Op.call { callee := Callee.value (Operand.func 22), args := #[Operand.tmp 88], argTypes := #[22] }, type := 3, pos := "extra.go:21", after := #[{ on := 13, ground := Ground.data }, { on := 10, ground := Ground.chain }, { on := 10, ground := Ground.guard }], guard := some (10, true) }) rfl (fun K hK => ?_) AllReadyH.nil
  go_simp
  (go_at_call 22; (with_reducible refine (HSq.out _ (below_then HB8.out HB8.out.size G9.out)).mono ?_); rintro e w10 ⟨rfl, hb10⟩; have G10 := Aside0.mk (below_then G9.out G9.out.size hb10))
  go_wp2_with fail
  refine hK.out _ _ ?_ (fun hH14 => ?_)
  · (try dsimp only)
    exact HX.out _ (below_then E8.out E8.out.size G10.out)
  clear hK K hH0
  (try simp only [Act.put, List.setIfInBounds_toArray, List.set_cons_zero, List.set_cons_succ])
  refine wpAnyH_take (i := 15) (oi := { dst := some 90, op := Op.binOp BinOp.add 3 (Operand.tmp 87) (Operand.tmp 89) 3, type := 3, pos := "extra.go:21", after := #[{ on := 12, ground := Ground.data }, { on := 14, ground := Ground.data }, { on := 10, ground := Ground.guard }], guard := some (10, true) }) (v := ?hv15) rfl (by kernel_rfl) (by kernel_rfl) (by kernel_rfl) (fun _ _ _ h => h) (Or.inl ⟨by rfl, ?hy15⟩) (by assumption) ?hr15
  case hy15 => (intro w hSw; (try dsimp only at hSw); go_simp; (try with_reducible rfl))
  (try simp only [Act.put, List.setIfInBounds_toArray, List.set_cons_zero, List.set_cons_succ])
  refine wpAnyH_take (i := 16) (oi := { dst := some 91, op := Op.binOp BinOp.sub 3 (Operand.tmp 90) (Operand.const (Value.int IntKind.i64 8)) 3, type := 3, pos := "extra.go:21", after := #[{ on := 15, ground := Ground.data }, { on := 10, ground := Ground.guard }], guard := some (10, true) }) (v := ?hv16) rfl (by kernel_rfl) (by kernel_rfl) (by kernel_rfl) (fun _ _ _ h => h) (Or.inl ⟨by rfl, ?hy16⟩) (by assumption) ?hr16
  case hy16 => (intro w hSw; (try dsimp only at hSw); go_simp; (try with_reducible rfl))
  (try simp only [Act.put, List.setIfInBounds_toArray, List.set_cons_zero, List.set_cons_succ])
  refine wpAnyH_take (i := 17) (oi := { dst := some 92, op := Op.binOp BinOp.eql 3 (Operand.tmp 86) (Operand.tmp 91) 3, type := 4, pos := "extra.go:21", after := #[{ on := 11, ground := Ground.data }, { on := 16, ground := Ground.data }, { on := 10, ground := Ground.guard }], guard := some (10, true) }) (v := ?hv17) rfl (by kernel_rfl) (by kernel_rfl) (by kernel_rfl) (fun _ _ _ h => h) (Or.inl ⟨by rfl, ?hy17⟩) (by assumption) ?hr17
  case hy17 => (intro w hSw; (try dsimp only at hSw); go_simp; (try with_reducible rfl))
  (try simp only [Act.put, List.setIfInBounds_toArray, List.set_cons_zero, List.set_cons_succ])
  refine wpAnyH_take (i := 18) (oi := { dst := some 93, op := Op.pick (Operand.tmp 85) (Operand.tmp 92) (Operand.const (Value.bool false)), type := 4, pos := "extra.go:21", after := #[{ on := 10, ground := Ground.data }, { on := 17, ground := Ground.data }], guard := none }) (v := ?hv18) rfl (by kernel_rfl) (by kernel_rfl) (by kernel_rfl) (fun _ _ _ h => h) (Or.inl ⟨by rfl, ?hy18⟩) (by assumption) ?hr18
  case hy18 => (intro w hSw; (try dsimp only at hSw); go_simp; (try with_reducible rfl))
  (try simp only [Act.put, List.setIfInBounds_toArray, List.set_cons_zero, List.set_cons_succ])
  refine wpAnyH_take (i := 19) (oi := { dst := some 94, op := Op.move (Operand.tmp 93), type := 4, pos := "extra.go:21", after := #[{ on := 18, ground := Ground.data }, { on := 14, ground := Ground.chain }], guard := none }) (v := ?hv19) rfl (by kernel_rfl) (by kernel_rfl) (by kernel_rfl) (fun _ _ _ h => h) (Or.inl ⟨by rfl, ?hy19⟩) (by assumption) ?hr19
  case hy19 => (intro w hSw; (try dsimp only at hSw); go_simp; (try with_reducible rfl))
  (try simp only [Act.put, List.setIfInBounds_toArray, List.set_cons_zero, List.set_cons_succ])
  refine wpAnyH_take (i := 20) (oi := { dst := some 95, op := Op.move (Operand.tmp 16), type := 3, pos := "extra.go:21", after := #[{ on := 19, ground := Ground.guard }], guard := some (19, true) }) (v := ?hv20) rfl (by kernel_rfl) (by kernel_rfl) (by kernel_rfl) (fun _ _ _ h => h) (Or.inl ⟨by rfl, ?hy20⟩) (by assumption) ?hr20
  case hy20 => (intro w hSw; (try dsimp only at hSw); go_simp; (try with_reducible rfl))
  (try simp only [Act.put, List.setIfInBounds_toArray, List.set_cons_zero, List.set_cons_succ])
  refine wpAnyH_take (i := 21) (oi := { dst := some 96, op := Op.move (Operand.tmp 15), type := 3, pos := "extra.go:21", after := #[{ on := 19, ground := Ground.guard }], guard := some (19, true) }) (v := ?hv21) rfl (by kernel_rfl) (by kernel_rfl) (by kernel_rfl) (fun _ _ _ h => h) (Or.inl ⟨by rfl, ?hy21⟩) (by assumption) ?hr21
  case hy21 => (intro w hSw; (try dsimp only at hSw); go_simp; (try with_reducible rfl))
  (try simp only [Act.put, List.setIfInBounds_toArray, List.set_cons_zero, List.set_cons_succ])
  refine wpAnyH_take (i := 22) (oi := { dst := some 97, op := Op.binOp BinOp.geq 3 (Operand.tmp 95) (Operand.tmp 96) 3, type := 4, pos := "extra.go:21", after := #[{ on := 20, ground := Ground.data }, { on := 21, ground := Ground.data }, { on := 19, ground := Ground.guard }], guard := some (19, true) }) (v := ?hv22) rfl (by kernel_rfl) (by kernel_rfl) (by kernel_rfl) (fun _ _ _ h => h) (Or.inl ⟨by rfl, ?hy22⟩) (by assumption) ?hr22
  case hy22 => (intro w hSw; (try dsimp only at hSw); go_simp; (try with_reducible rfl))
  (try simp only [Act.put, List.setIfInBounds_toArray, List.set_cons_zero, List.set_cons_succ])
  refine wpAnyH_take (i := 23) (oi := { dst := some 98, op := Op.pick (Operand.tmp 94) (Operand.tmp 97) (Operand.const (Value.bool false)), type := 4, pos := "extra.go:21", after := #[{ on := 19, ground := Ground.data }, { on := 22, ground := Ground.data }], guard := none }) (v := ?hv23) rfl (by kernel_rfl) (by kernel_rfl) (by kernel_rfl) (fun _ _ _ h => h) (Or.inl ⟨by rfl, ?hy23⟩) (by assumption) ?hr23
  case hy23 => (intro w hSw; (try dsimp only at hSw); go_simp; (try with_reducible rfl))
  (try simp only [Act.put, List.setIfInBounds_toArray, List.set_cons_zero, List.set_cons_succ])
  refine wpAnyH_take (i := 24) (oi := { dst := some 99, op := Op.move (Operand.tmp 98), type := 4, pos := "extra.go:21", after := #[{ on := 23, ground := Ground.data }, { on := 19, ground := Ground.chain }], guard := none }) (v := ?hv24) rfl (by kernel_rfl) (by kernel_rfl) (by kernel_rfl) (fun _ _ _ h => h) (Or.inl ⟨by rfl, ?hy24⟩) (by assumption) ?hr24
  case hy24 => (intro w hSw; (try dsimp only at hSw); go_simp; (try with_reducible rfl))
  (try simp only [Act.put, List.setIfInBounds_toArray, List.set_cons_zero, List.set_cons_succ])
  refine wpAnyH_take (i := 25) (oi := { dst := some 100, op := Op.move (Operand.tmp 17), type := 4, pos := "extra.go:21", after := #[{ on := 24, ground := Ground.guard }], guard := some (24, true) }) (v := ?hv25) rfl (by kernel_rfl) (by kernel_rfl) (by kernel_rfl) (fun _ _ _ h => h) (Or.inl ⟨by rfl, ?hy25⟩) (by assumption) ?hr25
  case hy25 => (intro w hSw; (try dsimp only at hSw); go_simp; (try with_reducible rfl))
  (try simp only [Act.put, List.setIfInBounds_toArray, List.set_cons_zero, List.set_cons_succ])
  refine wpAnyH_take (i := 26) (oi := { dst := some 101, op := Op.unOp UnOp.not 4 (Operand.tmp 100), type := 4, pos := "extra.go:21", after := #[{ on := 25, ground := Ground.data }, { on := 24, ground := Ground.guard }], guard := some (24, true) }) (v := ?hv26) rfl (by kernel_rfl) (by kernel_rfl) (by kernel_rfl) (fun _ _ _ h => h) (Or.inl ⟨by rfl, ?hy26⟩) (by assumption) ?hr26
  case hy26 => (intro w hSw; (try dsimp only at hSw); go_simp; (try with_reducible rfl))
  (try simp only [Act.put, List.setIfInBounds_toArray, List.set_cons_zero, List.set_cons_succ])
  refine wpAnyH_take (i := 27) (oi := { dst := some 102, op := Op.move (Operand.tmp 101), type := 4, pos := "extra.go:21", after := #[{ on := 26, ground := Ground.data }, { on := 24, ground := Ground.chain }, { on := 24, ground := Ground.guard }], guard := some (24, true) }) (v := ?hv27) rfl (by kernel_rfl) (by kernel_rfl) (by kernel_rfl) (fun _ _ _ h => h) (Or.inl ⟨by rfl, ?hy27⟩) (by assumption) ?hr27
  case hy27 => (intro w hSw; (try dsimp only at hSw); go_simp; (try with_reducible rfl))
  (try simp only [Act.put, List.setIfInBounds_toArray, List.set_cons_zero, List.set_cons_succ])
  refine wpAnyH_take (i := 28) (oi := { dst := some 103, op := Op.load 25 (Operand.tmp 6), type := 25, pos := "extra.go:21", after := #[{ on := 27, ground := Ground.guard }], guard := some (27, false) }) (v := ?hv28) rfl (by kernel_rfl) (by kernel_rfl) (by kernel_rfl) (fun _ _ _ h => h) (Or.inl ⟨by rfl, ?hy28⟩) (by assumption) ?hr28
  case hy28 => (intro w hSw; (try dsimp only at hSw); go_simp; (try with_reducible rfl))
  (try simp only [Act.put, List.setIfInBounds_toArray, List.set_cons_zero, List.set_cons_succ])
  refine wpAnyH_take (i := 29) (oi := { dst := some 104, op := Op.move (Operand.tmp 3), type := 3, pos := "extra.go:21", after := #[{ on := 27, ground := Ground.guard }], guard := some (27, false) }) (v := ?hv29) rfl (by kernel_rfl) (by kernel_rfl) (by kernel_rfl) (fun _ _ _ h => h) (Or.inl ⟨by rfl, ?hy29⟩) (by assumption) ?hr29
  case hy29 => (intro w hSw; (try dsimp only at hSw); go_simp; (try with_reducible rfl))
  (try simp only [Act.put, List.setIfInBounds_toArray, List.set_cons_zero, List.set_cons_succ])
  refine wpAnyH_take (i := 30) (oi := { dst := some 105, op := Op.binOp BinOp.add 3 (Operand.tmp 104) (Operand.const (Value.int IntKind.i64 1)) 3, type := 3, pos := "extra.go:21", after := #[{ on := 29, ground := Ground.data }, { on := 27, ground := Ground.guard }], guard := some (27, false) }) (v := ?hv30) rfl (by kernel_rfl) (by kernel_rfl) (by kernel_rfl) (fun _ _ _ h => h) (Or.inl ⟨by rfl, ?hy30⟩) (by assumption) ?hr30
  case hy30 => (intro w hSw; (try dsimp only at hSw); go_simp; (try with_reducible rfl))
  (try simp only [Act.put, List.setIfInBounds_toArray, List.set_cons_zero, List.set_cons_succ])
  refine wpAnyH_take (i := 31) (oi := { dst := some 106, op := Op.move (Operand.tmp 4), type := 30, pos := "extra.go:21", after := #[{ on := 27, ground := Ground.guard }], guard := some (27, false) }) (v := ?hv31) rfl (by kernel_rfl) (by kernel_rfl) (by kernel_rfl) (fun _ _ _ h => h) (Or.inl ⟨by rfl, ?hy31⟩) (by assumption) ?hr31
  case hy31 => (intro w hSw; (try dsimp only at hSw); go_simp; (try with_reducible rfl))
  (try simp only [Act.put, List.setIfInBounds_toArray, List.set_cons_zero, List.set_cons_succ])
  refine wpAnyH_ready (rs := [32]) (by kernel_rfl) (by simp) ?_
  refine AllReadyH.cons (o := { dst := some 107, op := Op.call { callee := Callee.value (Operand.func 23), args := #[Operand.tmp 103, Operand.tmp 105, Operand.tmp 106], argTypes := #[25, 3, 30] }, type := 4, pos := "extra.go:21", after := #[{ on := 28, ground := Ground.data }, { on := 30, ground := Ground.data }, { on := 31, ground := Ground.data }, { on := 27, ground := Ground.chain }, { on := 27, ground := Ground.guard }], guard := some (27, false) }) rfl (fun K hK => ?_) AllReadyH.nil
  go_simp
  (go_at_call 23; (with_reducible refine (HF1.out _ (below_then HB8.out HB8.out.size G10.out)).mono ?_); rintro e w11 ⟨rfl, hb11⟩; have G11 := Aside0.mk (below_then G10.out G10.out.size hb11))
  go_wp2_with fail
  refine hK.out _ _ ?_ (fun hH32 => ?_)
  · (try dsimp only)
    exact HX.out _ (below_then E8.out E8.out.size G11.out)
  clear hK K hH14
  (try simp only [Act.put, List.setIfInBounds_toArray, List.set_cons_zero, List.set_cons_succ])
  refine wpAnyH_take (i := 33) (oi := { dst := some 108, op := Op.move (Operand.tmp 107), type := 4, pos := "extra.go:21", after := #[{ on := 32, ground := Ground.data }, { on := 32, ground := Ground.chain }, { on := 27, ground := Ground.guard }], guard := some (27, false) }) (v := ?hv33) rfl (by kernel_rfl) (by kernel_rfl) (by kernel_rfl) (fun _ _ _ h => h) (Or.inl ⟨by rfl, ?hy33⟩) (by assumption) ?hr33
  case hy33 => (intro w hSw; (try dsimp only at hSw); go_simp; (try with_reducible rfl))
  (try simp only [Act.put, List.setIfInBounds_toArray, List.set_cons_zero, List.set_cons_succ])
  refine wpAnyH_take (i := 34) (oi := { dst := some 109, op := Op.load 25 (Operand.tmp 6), type := 25, pos := "extra.go:21", after := #[{ on := 33, ground := Ground.guard }], guard := some (33, true) }) (v := ?hv34) rfl (by kernel_rfl) (by kernel_rfl) (by kernel_rfl) (fun _ _ _ h => h) (Or.inl ⟨by rfl, ?hy34⟩) (by assumption) ?hr34
  case hy34 => (intro w hSw; (try dsimp only at hSw); go_simp; (try with_reducible rfl))
  (try simp only [Act.put, List.setIfInBounds_toArray, List.set_cons_zero, List.set_cons_succ])
  refine wpAnyH_take (i := 35) (oi := { dst := some 110, op := Op.move (Operand.tmp 3), type := 3, pos := "extra.go:21", after := #[{ on := 33, ground := Ground.guard }], guard := some (33, true) }) (v := ?hv35) rfl (by kernel_rfl) (by kernel_rfl) (by kernel_rfl) (fun _ _ _ h => h) (Or.inl ⟨by rfl, ?hy35⟩) (by assumption) ?hr35
  case hy35 => (intro w hSw; (try dsimp only at hSw); go_simp; (try with_reducible rfl))
  (try simp only [Act.put, List.setIfInBounds_toArray, List.set_cons_zero, List.set_cons_succ])
  refine wpAnyH_take (i := 36) (oi := { dst := some 111, op := Op.move (Operand.tmp 4), type := 30, pos := "extra.go:21", after := #[{ on := 33, ground := Ground.guard }], guard := some (33, true) }) (v := ?hv36) rfl (by kernel_rfl) (by kernel_rfl) (by kernel_rfl) (fun _ _ _ h => h) (Or.inl ⟨by rfl, ?hy36⟩) (by assumption) ?hr36
  case hy36 => (intro w hSw; (try dsimp only at hSw); go_simp; (try with_reducible rfl))
  (try simp only [Act.put, List.setIfInBounds_toArray, List.set_cons_zero, List.set_cons_succ])
  refine wpAnyH_take (i := 37) (oi := { dst := some 112, op := Op.move (Operand.tmp 5), type := 3, pos := "extra.go:21", after := #[{ on := 33, ground := Ground.guard }], guard := some (33, true) }) (v := ?hv37) rfl (by kernel_rfl) (by kernel_rfl) (by kernel_rfl) (fun _ _ _ h => h) (Or.inl ⟨by rfl, ?hy37⟩) (by assumption) ?hr37
  case hy37 => (intro w hSw; (try dsimp only at hSw); go_simp; (try with_reducible rfl))
  (try simp only [Act.put, List.setIfInBounds_toArray, List.set_cons_zero, List.set_cons_succ])
  refine wpAnyH_take (i := 38) (oi := { dst := some 113, op := Op.slice 30 (Operand.tmp 111) none (some (Operand.tmp 112)) none, type := 30, pos := "extra.go:21", after := #[{ on := 36, ground := Ground.data }, { on := 37, ground := Ground.data }, { on := 33, ground := Ground.guard }], guard := some (33, true) }) (v := ?hv38) rfl (by kernel_rfl) (by kernel_rfl) (by kernel_rfl) (fun _ _ _ h => h) (Or.inl ⟨by rfl, ?hy38⟩) (by assumption) ?hr38
  case hy38 => (intro w hSw; (try dsimp only at hSw); go_simp; (try with_reducible rfl))
  (try simp only [Act.put, List.setIfInBounds_toArray, List.set_cons_zero, List.set_cons_succ])
  refine wpAnyH_ready (rs := [39]) (by kernel_rfl) (by simp) ?_
  refine AllReadyH.cons (o := { dst := some 114, op := Op.call { callee := Callee.value (Operand.func 23), args := #[Operand.tmp 109, Operand.tmp 110, Operand.tmp 113], argTypes := #[25, 3, 30] }, type := 4, pos := "extra.go:21", after := #[{ on := 34, ground := Ground.data }, { on := 35, ground := Ground.data }, { on := 38, ground := Ground.data }, { on := 33, ground := Ground.chain }, { on := 33, ground := Ground.guard }], guard := some (33, true) }) rfl (fun K hK => ?_) AllReadyH.nil
  go_simp
  (go_at_call 23; (with_reducible refine (HF2.out _ (below_then HB8.out HB8.out.size G11.out)).mono ?_); rintro e w12 ⟨rfl, hb12⟩; have G12 := Aside0.mk (below_then G11.out G11.out.size hb12))
  go_wp2_with fail
  refine hK.out _ _ ?_ (fun hH39 => ?_)
  · (try dsimp only)
    exact HX.out _ (below_then E8.out E8.out.size G12.out)
  clear hK K hH32
  (try simp only [Act.put, List.setIfInBounds_toArray, List.set_cons_zero, List.set_cons_succ])
  refine wpAnyH_take (i := 40) (oi := { dst := some 115, op := Op.pick (Operand.tmp 108) (Operand.tmp 114) (Operand.const (Value.bool false)), type := 4, pos := "extra.go:21", after := #[{ on := 33, ground := Ground.data }, { on := 39, ground := Ground.data }, { on := 27, ground := Ground.guard }], guard := some (27, false) }) (v := ?hv40) rfl (by kernel_rfl) (by kernel_rfl) (by kernel_rfl) (fun _ _ _ h => h) (Or.inl ⟨by rfl, ?hy40⟩) (by assumption) ?hr40
  case hy40 => (intro w hSw; (try dsimp only at hSw); go_simp; (try with_reducible rfl))
  (try simp only [Act.put, List.setIfInBounds_toArray, List.set_cons_zero, List.set_cons_succ])
  refine wpAnyH_take (i := 41) (oi := { dst := some 116, op := Op.move (Operand.tmp 115), type := 4, pos := "extra.go:21", after := #[{ on := 40, ground := Ground.data }, { on := 39, ground := Ground.chain }, { on := 27, ground := Ground.guard }], guard := some (27, false) }) (v := ?hv41) rfl (by kernel_rfl) (by kernel_rfl) (by kernel_rfl) (fun _ _ _ h => h) (Or.inl ⟨by rfl, ?hy41⟩) (by assumption) ?hr41
  case hy41 => (intro w hSw; (try dsimp only at hSw); go_simp; (try with_reducible rfl))
  (try simp only [Act.put, List.setIfInBounds_toArray, List.set_cons_zero, List.set_cons_succ])
  refine wpAnyH_take (i := 42) (oi := { dst := some 117, op := Op.load 25 (Operand.tmp 6), type := 25, pos := "extra.go:21", after := #[{ on := 41, ground := Ground.guard }], guard := some (41, true) }) (v := ?hv42) rfl (by kernel_rfl) (by kernel_rfl) (by kernel_rfl) (fun _ _ _ h => h) (Or.inl ⟨by rfl, ?hy42⟩) (by assumption) ?hr42
  case hy42 => (intro w hSw; (try dsimp only at hSw); go_simp; (try with_reducible rfl))
  (try simp only [Act.put, List.setIfInBounds_toArray, List.set_cons_zero, List.set_cons_succ])
  refine wpAnyH_take (i := 43) (oi := { dst := some 118, op := Op.move (Operand.tmp 3), type := 3, pos := "extra.go:21", after := #[{ on := 41, ground := Ground.guard }], guard := some (41, true) }) (v := ?hv43) rfl (by kernel_rfl) (by kernel_rfl) (by kernel_rfl) (fun _ _ _ h => h) (Or.inl ⟨by rfl, ?hy43⟩) (by assumption) ?hr43
  case hy43 => (intro w hSw; (try dsimp only at hSw); go_simp; (try with_reducible rfl))
  (try simp only [Act.put, List.setIfInBounds_toArray, List.set_cons_zero, List.set_cons_succ])
  refine wpAnyH_take (i := 44) (oi := { dst := some 119, op := Op.move (Operand.tmp 4), type := 30, pos := "extra.go:21", after := #[{ on := 41, ground := Ground.guard }], guard := some (41, true) }) (v := ?hv44) rfl (by kernel_rfl) (by kernel_rfl) (by kernel_rfl) (fun _ _ _ h => h) (Or.inl ⟨by rfl, ?hy44⟩) (by assumption) ?hr44
  case hy44 => (intro w hSw; (try dsimp only at hSw); go_simp; (try with_reducible rfl))
  (try simp only [Act.put, List.setIfInBounds_toArray, List.set_cons_zero, List.set_cons_succ])
  refine wpAnyH_take (i := 45) (oi := { dst := some 120, op := Op.move (Operand.tmp 5), type := 3, pos := "extra.go:21", after := #[{ on := 41, ground := Ground.guard }], guard := some (41, true) }) (v := ?hv45) rfl (by kernel_rfl) (by kernel_rfl) (by kernel_rfl) (fun _ _ _ h => h) (Or.inl ⟨by rfl, ?hy45⟩) (by assumption) ?hr45
  case hy45 => (intro w hSw; (try dsimp only at hSw); go_simp; (try with_reducible rfl))
  (try simp only [Act.put, List.setIfInBounds_toArray, List.set_cons_zero, List.set_cons_succ])
  refine wpAnyH_take (i := 46) (oi := { dst := some 121, op := Op.slice 30 (Operand.tmp 119) (some (Operand.tmp 120)) none none, type := 30, pos := "extra.go:21", after := #[{ on := 44, ground := Ground.data }, { on := 45, ground := Ground.data }, { on := 41, ground := Ground.guard }], guard := some (41, true) }) (v := ?hv46) rfl (by kernel_rfl) (by kernel_rfl) (by kernel_rfl) (fun _ _ _ h => h) (Or.inl ⟨by rfl, ?hy46⟩) (by assumption) ?hr46
  case hy46 => (intro w hSw; (try dsimp only at hSw); go_simp; (try with_reducible rfl))
  (try simp only [Act.put, List.setIfInBounds_toArray, List.set_cons_zero, List.set_cons_succ])
  refine wpAnyH_ready (rs := [47]) (by kernel_rfl) (by simp) ?_
  refine AllReadyH.cons (o := { dst := some 122, op := Op.call { callee := Callee.value (Operand.func 23), args := #[Operand.tmp 117, Operand.tmp 118, Operand.tmp 121], argTypes := #[25, 3, 30] }, type := 4, pos := "extra.go:21", after := #[{ on := 42, ground := Ground.data }, { on := 43, ground := Ground.data }, { on := 46, ground := Ground.data }, { on := 41, ground := Ground.chain }, { on := 41, ground := Ground.guard }], guard := some (41, true) }) rfl (fun K hK => ?_) AllReadyH.nil
  go_simp
  (go_at_call 23; (with_reducible refine (HF3.out _ (below_then HB8.out HB8.out.size G12.out)).mono ?_); rintro e w13 ⟨rfl, hb13⟩; have G13 := Aside0.mk (below_then G12.out G12.out.size hb13))
  go_wp2_with fail
  refine hK.out _ _ ?_ (fun hH47 => ?_)
  · (try dsimp only)
    exact HX.out _ (below_then E8.out E8.out.size G13.out)
  clear hK K hH39
  (try simp only [Act.put, List.setIfInBounds_toArray, List.set_cons_zero, List.set_cons_succ])
  refine wpAnyH_take (i := 48) (oi := { dst := some 123, op := Op.pick (Operand.tmp 116) (Operand.tmp 122) (Operand.const (Value.bool false)), type := 4, pos := "extra.go:21", after := #[{ on := 41, ground := Ground.data }, { on := 47, ground := Ground.data }, { on := 27, ground := Ground.guard }], guard := some (27, false) }) (v := ?hv48) rfl (by kernel_rfl) (by kernel_rfl) (by kernel_rfl) (fun _ _ _ h => h) (Or.inl ⟨by rfl, ?hy48⟩) (by assumption) ?hr48
  case hy48 => (intro w hSw; (try dsimp only at hSw); go_simp; (try with_reducible rfl))
  (try simp only [Act.put, List.setIfInBounds_toArray, List.set_cons_zero, List.set_cons_succ])
  refine wpAnyH_take (i := 49) (oi := { dst := some 124, op := Op.pick (Operand.tmp 102) (Operand.const (Value.bool true)) (Operand.tmp 123), type := 4, pos := "extra.go:21", after := #[{ on := 27, ground := Ground.data }, { on := 48, ground := Ground.data }, { on := 24, ground := Ground.guard }], guard := some (24, true) }) (v := ?hv49) rfl (by kernel_rfl) (by kernel_rfl) (by kernel_rfl) (fun _ _ _ h => h) (Or.inl ⟨by rfl, ?hy49⟩) (by assumption) ?hr49
  case hy49 => (intro w hSw; (try dsimp only at hSw); go_simp; (try with_reducible rfl))
  (try simp only [Act.put, List.setIfInBounds_toArray, List.set_cons_zero, List.set_cons_succ])
  refine wpAnyH_take (i := 50) (oi := { dst := some 125, op := Op.pick (Operand.tmp 99) (Operand.tmp 124) (Operand.const (Value.bool false)), type := 4, pos := "extra.go:21", after := #[{ on := 24, ground := Ground.data }, { on := 49, ground := Ground.data }], guard := none }) (v := ?hv50) rfl (by kernel_rfl) (by kernel_rfl) (by kernel_rfl) (fun _ _ _ h => h) (Or.inl ⟨by rfl, ?hy50⟩) (by assumption) ?hr50
  case hy50 => (intro w hSw; (try dsimp only at hSw); go_simp; (try with_reducible rfl))
  (try simp only [Act.put, List.setIfInBounds_toArray, List.set_cons_zero, List.set_cons_succ])
  refine wpAnyH_take (i := 51) (oi := { dst := some 126, op := Op.move (Operand.tmp 125), type := 4, pos := "extra.go:21", after := #[{ on := 50, ground := Ground.data }, { on := 47, ground := Ground.chain }], guard := none }) (v := ?hv51) rfl (by kernel_rfl) (by kernel_rfl) (by kernel_rfl) (fun _ _ _ h => h) (Or.inl ⟨by rfl, ?hy51⟩) (by assumption) ?hr51
  case hy51 => (intro w hSw; (try dsimp only at hSw); go_simp; (try with_reducible rfl))
  (try simp only [Act.put, List.setIfInBounds_toArray, List.set_cons_zero, List.set_cons_succ])
  refine wpAnyH_take (i := 52) (oi := { dst := some 127, op := Op.load 25 (Operand.tmp 6), type := 25, pos := "extra.go:21", after := #[{ on := 51, ground := Ground.guard }], guard := some (51, true) }) (v := ?hv52) rfl (by kernel_rfl) (by kernel_rfl) (by kernel_rfl) (fun _ _ _ h => h) (Or.inl ⟨by rfl, ?hy52⟩) (by assumption) ?hr52
  case hy52 => (intro w hSw; (try dsimp only at hSw); go_simp; (try with_reducible rfl))
  (try simp only [Act.put, List.setIfInBounds_toArray, List.set_cons_zero, List.set_cons_succ])
  refine wpAnyH_take (i := 53) (oi := { dst := some 128, op := Op.move (Operand.tmp 4), type := 30, pos := "extra.go:21", after := #[{ on := 51, ground := Ground.guard }], guard := some (51, true) }) (v := ?hv53) rfl (by kernel_rfl) (by kernel_rfl) (by kernel_rfl) (fun _ _ _ h => h) (Or.inl ⟨by rfl, ?hy53⟩) (by assumption) ?hr53
  case hy53 => (intro w hSw; (try dsimp only at hSw); go_simp; (try with_reducible rfl))
  (try simp only [Act.put, List.setIfInBounds_toArray, List.set_cons_zero, List.set_cons_succ])
  refine wpAnyH_ready (rs := [54]) (by kernel_rfl) (by simp) ?_
  refine AllReadyH.cons (o := { dst := some 129, op := Op.call { callee := Callee.value (Operand.func 23), args := #[Operand.tmp 127, Operand.const (Value.int IntKind.i64 0), Operand.tmp 128], argTypes := #[25, 3, 30] }, type := 4, pos := "extra.go:21", after := #[{ on := 52, ground := Ground.data }, { on := 53, ground := Ground.data }, { on := 51, ground := Ground.chain }, { on := 51, ground := Ground.guard }], guard := some (51, true) }) rfl (fun K hK => ?_) AllReadyH.nil
  go_simp
  (go_at_call 23; (with_reducible refine (HFz.out _ (below_then HB8.out HB8.out.size G13.out)).mono ?_); rintro e w14 ⟨rfl, hb14⟩; have G14 := Aside0.mk (below_then G13.out G13.out.size hb14))
  go_wp2_with fail
  refine hK.out _ _ ?_ (fun hH54 => ?_)
  · (try dsimp only)
    exact HX.out _ (below_then E8.out E8.out.size G14.out)
  clear hK K hH47
  (try simp only [Act.put, List.setIfInBounds_toArray, List.set_cons_zero, List.set_cons_succ])
  refine wpAnyH_take (i := 55) (oi := { dst := some 130, op := Op.unOp UnOp.not 4 (Operand.tmp 129), type := 4, pos := "extra.go:21", after := #[{ on := 54, ground := Ground.data }, { on := 51, ground := Ground.guard }], guard := some (51, true) }) (v := ?hv55) rfl (by kernel_rfl) (by kernel_rfl) (by kernel_rfl) (fun _ _ _ h => h) (Or.inl ⟨by rfl, ?hy55⟩) (by assumption) ?hr55
  case hy55 => (intro w hSw; (try dsimp only at hSw); go_simp; (try with_reducible rfl))
  (try simp only [Act.put, List.setIfInBounds_toArray, List.set_cons_zero, List.set_cons_succ])
  refine wpAnyH_take (i := 56) (oi := { dst := some 131, op := Op.pick (Operand.tmp 126) (Operand.tmp 130) (Operand.const (Value.bool false)), type := 4, pos := "extra.go:21", after := #[{ on := 51, ground := Ground.data }, { on := 55, ground := Ground.data }], guard := none }) (v := ?hv56) rfl (by kernel_rfl) (by kernel_rfl) (by kernel_rfl) (fun _ _ _ h => h) (Or.inl ⟨by rfl, ?hy56⟩) (by assumption) ?hr56
  case hy56 => (intro w hSw; (try dsimp only at hSw); go_simp; (try with_reducible rfl))
  (try simp only [Act.put, List.setIfInBounds_toArray, List.set_cons_zero, List.set_cons_succ])
  refine wpAnyH_take (i := 57) (oi := { dst := some 132, op := Op.move (Operand.tmp 131), type := 4, pos := "extra.go:21", after := #[{ on := 56, ground := Ground.data }, { on := 54, ground := Ground.chain }], guard := none }) (v := ?hv57) rfl (by kernel_rfl) (by kernel_rfl) (by kernel_rfl) (fun _ _ _ h => h) (Or.inl ⟨by rfl, ?hy57⟩) (by assumption) ?hr57
  case hy57 => (intro w hSw; (try dsimp only at hSw); go_simp; (try with_reducible rfl))
  (try simp only [Act.put, List.setIfInBounds_toArray, List.set_cons_zero, List.set_cons_succ])
  refine wpAnyH_take (i := 59) (oi := { dst := some 134, op := Op.move (Operand.tmp 1), type := 22, pos := "extra.go:21", after := #[{ on := 57, ground := Ground.guard }], guard := some (57, true) }) (v := ?hv59) rfl (by kernel_rfl) (by kernel_rfl) (by kernel_rfl) (fun _ _ _ h => h) (Or.inl ⟨by rfl, ?hy59⟩) (by assumption) ?hr59
  case hy59 => (intro w hSw; (try dsimp only at hSw); go_simp; (try with_reducible rfl))
  (try simp only [Act.put, List.setIfInBounds_toArray, List.set_cons_zero, List.set_cons_succ])
  refine wpAnyH_take (i := 61) (oi := { dst := some 136, op := Op.move (Operand.tmp 2), type := 22, pos := "extra.go:21", after := #[{ on := 57, ground := Ground.guard }], guard := some (57, true) }) (v := ?hv61) rfl (by kernel_rfl) (by kernel_rfl) (by kernel_rfl) (fun _ _ _ h => h) (Or.inl ⟨by rfl, ?hy61⟩) (by assumption) ?hr61
  case hy61 => (intro w hSw; (try dsimp only at hSw); go_simp; (try with_reducible rfl))
  (try simp only [Act.put, List.setIfInBounds_toArray, List.set_cons_zero, List.set_cons_succ])
  refine wpAnyH_take (i := 64) (oi := { dst := some 139, op := Op.move (Operand.tmp 1), type := 22, pos := "extra.go:21", after := #[{ on := 57, ground := Ground.guard }], guard := some (57, true) }) (v := ?hv64) rfl (by kernel_rfl) (by kernel_rfl) (by kernel_rfl) (fun _ _ _ h => h) (Or.inl ⟨by rfl, ?hy64⟩) (by assumption) ?hr64
  case hy64 => (intro w hSw; (try dsimp only at hSw); go_simp; (try with_reducible rfl))
  (try simp only [Act.put, List.setIfInBounds_toArray, List.set_cons_zero, List.set_cons_succ])
  refine wpAnyH_ready (rs := [58]) (by kernel_rfl) (by simp) ?_
  refine AllReadyH.cons (o := { dst := some 133, op := Op.buildSlice 22 0 #[], type := 22, pos := "extra.go:21", after := #[{ on := 57, ground := Ground.guard }], guard := some (57, true) }) rfl (fun K hK => ?_) AllReadyH.nil
  go_simp
  refine hK.out _ _ ?_ (fun hH58 => ?_)
  · (try dsimp only)
    exact HX.out _ (below_then E8.out E8.out.size (below_alloc G14.out _))
  clear hK K hH54
  (try simp only [Act.put, List.setIfInBounds_toArray, List.set_cons_zero, List.set_cons_succ])
  refine wpAnyH_ready (rs := [60]) (by kernel_rfl) (by simp) ?_
  refine AllReadyH.cons (o := { dst := some 135, op := Op.call { callee := Callee.builtin Builtin.append, args := #[Operand.tmp 133, Operand.tmp 134], argTypes := #[22, 22] }, type := 22, pos := "extra.go:21", after := #[{ on := 58, ground := Ground.data }, { on := 59, ground := Ground.data }, { on := 57, ground := Ground.chain }, { on := 57, ground := Ground.guard }], guard := some (57, true) }) rfl (fun K hK => ?_) AllReadyH.nil
  (refine step_app k54 (by rfl) _ _ 22 54 _ 56 rfl Try.underlying22 info54 rfl (by decide) (by decide) (.slice (some ⟨w14.heap.size, 0, none⟩) 0 0) [] p A1 p.length c1 (by simp [Act.eval, Act.put]) (by simp [Act.eval, Act.put]) (AppV.none_ k54 54 G14.out) HR1c.out (by have := N1.out; simp; omega) ?_; intro v15 w15 hv15; have AV15 := Aside0.mk hv15; have G15 := Aside0.mk hv15.1; clear hv15)
  refine hK.out _ _ ?_ (fun hH60 => ?_)
  · (try dsimp only)
    exact HX.out _ (below_then E8.out E8.out.size G15.out)
  clear hK K hH58
  (try simp only [Act.put, List.setIfInBounds_toArray, List.set_cons_zero, List.set_cons_succ])
  refine wpAnyH_ready (rs := [62]) (by kernel_rfl) (by simp) ?_
  refine AllReadyH.cons (o := { dst := some 137, op := Op.call { callee := Callee.builtin Builtin.append, args := #[Operand.tmp 135, Operand.tmp 136], argTypes := #[22, 22] }, type := 22, pos := "extra.go:21", after := #[{ on := 60, ground := Ground.data }, { on := 61, ground := Ground.data }, { on := 60, ground := Ground.chain }, { on := 57, ground := Ground.guard }], guard := some (57, true) }) rfl (fun K hK => ?_) AllReadyH.nil
  (refine step_app k54 (by rfl) _ _ 22 54 _ 56 rfl Try.underlying22 info54 rfl (by decide) (by decide) v15 _ q A2 q.length c2 (by simp [Act.eval, Act.put]) (by simp [Act.eval, Act.put]) AV15.out HR2c.out (by have := N1.out; simp; omega) ?_; intro v16 w16 hv16; obtain ⟨A7, c7, rfl, hc7, hC7⟩ := hv16.C; simp only [List.nil_append, List.length_append] at hC7 hc7; have HC7 := Aside0.mk hC7; have Hc7 := Aside0.mk hc7; have G16 := Aside0.mk hv16.1; clear hv16 hC7 hc7)
  refine hK.out _ _ ?_ (fun hH62 => ?_)
  · (try dsimp only)
    exact HX.out _ (below_then E8.out E8.out.size G16.out)
  clear hK K hH60
  (try simp only [Act.put, List.setIfInBounds_toArray, List.set_cons_zero, List.set_cons_succ])
  refine wpAnyH_ready (rs := [63]) (by kernel_rfl) (by simp) ?_
  refine AllReadyH.cons (o := { dst := some 138, op := Op.call { callee := Callee.value (Operand.func 24), args := #[Operand.tmp 137], argTypes := #[22] }, type := 4, pos := "extra.go:21", after := #[{ on := 62, ground := Ground.data }, { on := 62, ground := Ground.chain }, { on := 57, ground := Ground.guard }], guard := some (57, true) }) rfl (fun K hK => ?_) AllReadyH.nil
  go_simp
  (go_at_call 24; (with_reducible refine (HPb.out _ A7 c7 HC7.out Hc7.out).mono ?_); rintro e w17 ⟨rfl, hb17⟩; have G17 := Aside0.mk (below_then G16.out G16.out.size hb17))
  go_wp2_with fail
  refine hK.out _ _ ?_ (fun hH63 => ?_)
  · (try dsimp only)
    exact HX.out _ (below_then E8.out E8.out.size G17.out)
  clear hK K hH62
  (try simp only [Act.put, List.setIfInBounds_toArray, List.set_cons_zero, List.set_cons_succ])
  refine wpAnyH_ready (rs := [65]) (by kernel_rfl) (by simp) ?_
  refine AllReadyH.cons (o := { dst := some 140, op := Op.call { callee := Callee.value (Operand.func 24), args := #[Operand.tmp 139], argTypes := #[22] }, type := 4, pos := "extra.go:21", after := #[{ on := 64, ground := Ground.data }, { on := 63, ground := Ground.chain }, { on := 57, ground := Ground.guard }], guard := some (57, true) }) rfl (fun K hK => ?_) AllReadyH.nil
  go_simp
  (go_at_call 24; (with_reducible refine (HPp.out _ (below_then HB8.out HB8.out.size G17.out)).mono ?_); rintro e w18 ⟨rfl, hb18⟩; have G18 := Aside0.mk (below_then G17.out G17.out.size hb18))
  go_wp2_with fail
  refine hK.out _ _ ?_ (fun hH65 => ?_)
  · (try dsimp only)
    exact HX.out _ (below_then E8.out E8.out.size G18.out)
  clear hK K hH63
  (try simp only [Act.put, List.setIfInBounds_toArray, List.set_cons_zero, List.set_cons_succ])
  refine wpAnyH_take (i := 66) (oi := { dst := some 141, op := Op.move (Operand.tmp 140), type := 4, pos := "extra.go:21", after := #[{ on := 65, ground := Ground.data }, { on := 65, ground := Ground.chain }, { on := 57, ground := Ground.guard }], guard := some (57, true) }) (v := ?hv66) rfl (by kernel_rfl) (by kernel_rfl) (by kernel_rfl) (fun _ _ _ h => h) (Or.inl ⟨by rfl, ?hy66⟩) (by assumption) ?hr66
  case hy66 => (intro w hSw; (try dsimp only at hSw); go_simp; (try with_reducible rfl))
  (try simp only [Act.put, List.setIfInBounds_toArray, List.set_cons_zero, List.set_cons_succ])
  refine wpAnyH_take (i := 67) (oi := { dst := some 142, op := Op.move (Operand.tmp 2), type := 22, pos := "extra.go:21", after := #[{ on := 66, ground := Ground.guard }], guard := some (66, true) }) (v := undef) rfl (by kernel_rfl) (by kernel_rfl) (by kernel_rfl) (fun _ _ _ h => h) (Or.inr ⟨by rfl, rfl⟩) (by assumption) ?_
  (try simp only [Act.put, List.setIfInBounds_toArray, List.set_cons_zero, List.set_cons_succ])
  refine wpAnyH_take (i := 68) (oi := { dst := some 143, op := Op.call { callee := Callee.value (Operand.func 24), args := #[Operand.tmp 142], argTypes := #[22] }, type := 4, pos := "extra.go:21", after := #[{ on := 67, ground := Ground.data }, { on := 66, ground := Ground.chain }, { on := 66, ground := Ground.guard }], guard := some (66, true) }) (v := undef) rfl (by kernel_rfl) (by kernel_rfl) (by kernel_rfl) (fun _ _ _ h => h) (Or.inr ⟨by rfl, rfl⟩) (by assumption) ?_
  (try simp only [Act.put, List.setIfInBounds_toArray, List.set_cons_zero, List.set_cons_succ])
  refine wpAnyH_take (i := 69) (oi := { dst := some 144, op := Op.pick (Operand.tmp 141) (Operand.tmp 143) (Operand.const (Value.bool false)), type := 4, pos := "extra.go:21", after := #[{ on := 66, ground := Ground.data }, { on := 68, ground := Ground.data }, { on := 57, ground := Ground.guard }], guard := some (57, true) }) (v := ?hv69) rfl (by kernel_rfl) (by kernel_rfl) (by kernel_rfl) (fun _ _ _ h => h) (Or.inl ⟨by rfl, ?hy69⟩) (by assumption) ?hr69
  case hy69 => (intro w hSw; (try dsimp only at hSw); go_simp; (try with_reducible rfl))
  (try simp only [Act.put, List.setIfInBounds_toArray, List.set_cons_zero, List.set_cons_succ])
  refine wpAnyH_take (i := 70) (oi := { dst := some 145, op := Op.binOp BinOp.eql 4 (Operand.tmp 138) (Operand.tmp 144) 4, type := 4, pos := "extra.go:21", after := #[{ on := 63, ground := Ground.data }, { on := 69, ground := Ground.data }, { on := 57, ground := Ground.guard }], guard := some (57, true) }) (v := ?hv70) rfl (by kernel_rfl) (by kernel_rfl) (by kernel_rfl) (fun _ _ _ h => h) (Or.inl ⟨by rfl, ?hy70⟩) (by assumption) ?hr70
  case hy70 => (intro w hSw; (try dsimp only at hSw); go_simp; (try with_reducible rfl))
  (try simp only [Act.put, List.setIfInBounds_toArray, List.set_cons_zero, List.set_cons_succ])
  refine wpAnyH_take (i := 71) (oi := { dst := some 146, op := Op.pick (Operand.tmp 132) (Operand.tmp 145) (Operand.const (Value.bool false)), type := 4, pos := "extra.go:21", after := #[{ on := 57, ground := Ground.data }, { on := 70, ground := Ground.data }], guard := none }) (v := ?hv71) rfl (by kernel_rfl) (by kernel_rfl) (by kernel_rfl) (fun _ _ _ h => h) (Or.inl ⟨by rfl, ?hy71⟩) (by assumption) ?hr71
  case hy71 => (intro w hSw; (try dsimp only at hSw); go_simp; (try with_reducible rfl))
  (try simp only [Act.put, List.setIfInBounds_toArray, List.set_cons_zero, List.set_cons_succ])
  refine wpAnyH_take (i := 72) (oi := { dst := some 12, op := Op.assign (Operand.tmp 146), type := 4, pos := "extra.go:21", after := #[{ on := 71, ground := Ground.data }, { on := 68, ground := Ground.chain }, { on := 0, ground := Ground.phase }, { on := 1, ground := Ground.phase }, { on := 2, ground := Ground.phase }, { on := 3, ground := Ground.phase }, { on := 4, ground := Ground.phase }, { on := 5, ground := Ground.phase }, { on := 6, ground := Ground.phase }, { on := 7, ground := Ground.phase }, { on := 8, ground := Ground.phase }, { on := 9, ground := Ground.phase }, { on := 10, ground := Ground.phase }, { on := 11, ground := Ground.phase }, { on := 12, ground := Ground.phase }, { on := 13, ground := Ground.phase }, { on := 14, ground := Ground.phase }, { on := 15, ground := Ground.phase }, { on := 16, ground := Ground.phase }, { on := 17, ground := Ground.phase }, { on := 18, ground := Ground.phase }, { on := 19, ground := Ground.phase }, { on := 20, ground := Ground.phase }, { on := 21, ground := Ground.phase }, { on := 22, ground := Ground.phase }, { on := 23, ground := Ground.phase }, { on := 24, ground := Ground.phase }, { on := 25, ground := Ground.phase }, { on := 26, ground := Ground.phase }, { on := 27, ground := Ground.phase }, { on := 28, ground := Ground.phase }, { on := 29, ground := Ground.phase }, { on := 30, ground := Ground.phase }, { on := 31, ground := Ground.phase }, { on := 32, ground := Ground.phase }, { on := 33, ground := Ground.phase }, { on := 34, ground := Ground.phase }, { on := 35, ground := Ground.phase }, { on := 36, ground := Ground.phase }, { on := 37, ground := Ground.phase }, { on := 38, ground := Ground.phase }, { on := 39, ground := Ground.phase }, { on := 40, ground := Ground.phase }, { on := 41, ground := Ground.phase }, { on := 42, ground := Ground.phase }, { on := 43, ground := Ground.phase }, { on := 44, ground := Ground.phase }, { on := 45, ground := Ground.phase }, { on := 46, ground := Ground.phase }, { on := 47, ground := Ground.phase }, { on := 48, ground := Ground.phase }, { on := 49, ground := Ground.phase }, { on := 50, ground := Ground.phase }, { on := 51, ground := Ground.phase }, { on := 52, ground := Ground.phase }, { on := 53, ground := Ground.phase }, { on := 54, ground := Ground.phase }, { on := 55, ground := Ground.phase }, { on := 56, ground := Ground.phase }, { on := 57, ground := Ground.phase }, { on := 58, ground := Ground.phase }, { on := 59, ground := Ground.phase }, { on := 60, ground := Ground.phase }, { on := 61, ground := Ground.phase }, { on := 62, ground := Ground.phase }, { on := 63, ground := Ground.phase }, { on := 64, ground := Ground.phase }, { on := 65, ground := Ground.phase }, { on := 66, ground := Ground.phase }, { on := 67, ground := Ground.phase }, { on := 68, ground := Ground.phase }, { on := 69, ground := Ground.phase }, { on := 70, ground := Ground.phase }, { on := 71, ground := Ground.phase }], guard := none }) (v := ?hv72) rfl (by kernel_rfl) (by kernel_rfl) (by kernel_rfl) (fun _ _ _ h => h) (Or.inl ⟨by rfl, ?hy72⟩) (by assumption) ?hr72
  case hy72 => (intro w hSw; (try dsimp only at hSw); go_simp; (try with_reducible rfl))
  (try simp only [Act.put, List.setIfInBounds_toArray, List.set_cons_zero, List.set_cons_succ])
  refine wpAnyH_done (by kernel_rfl) ?_ _
  go_wp2
  go_ret
  refine ⟨?_, below_then HB8.out HB8.out.size G18.out⟩
  cases gq <;> rfl
set_option maxHeartbeats 16000000 in
set_option maxRecDepth 100000 in
theorem more_false_true (c : Cf) (A1 : Option Addr) (c1 : Nat) (p : List Ins) (A2 : Option Addr) (c2 : Nat) (q : List Ins) (w : Nat) (A4 : Option Addr) (c4 : Nat) (l : List Int) (cut : Nat) (W : World)
    (hr1 : Kd.C k54 W A1 p.length p) (hc1 : p.length ≤ c1) (hr2 : Kd.C k54 W A2 q.length q) (hc2 : q.length ≤ c2) (hr4 : Kd.C (Kd.int .i64) W A4 l.length l) (hc4 : l.length ≤ c4)
    (b1 : p.length ≤ 60) (b2 : q.length ≤ 60) (b3 : l.length ≤ 300) (b4 : cut ≤ l.length) (b5 : 1 ≤ w) (b6 : w ≤ 300) (b7 : c.f4 ≤ 9223372036854775807) (hfv : fairB l w (manyOf c.f4 c.f11).toNat 0 (l.length + 1 - w) = false) (hgp : bound_Plain.g p = true) :
    Calls Try.prog 5 #[.agg #[.int .i64 c.f0, .int .i64 c.f1, .int .i64 c.f2, .int .i64 c.f3, .int .i64 c.f4, .int .i64 c.f5, .int .i64 c.f6, .int .i64 c.f7, .int .i64 c.f8, .int .i64 c.f9, .int .i64 c.f10, .int .i64 c.f11], .slice A1 p.length c1, .slice A2 q.length c2, .int .i64 (w : Int), .slice A4 l.length c4, .int .i64 (cut : Int)] W fun e w' => e = .returned (.bool true) ∧ Below W.heap.size W w' := by
  have hu25 := Try.underlying25
  obtain ⟨x, y, hx, hy, hxy⟩ := more_win c.f0 c.f1 c.f2 c.f3 c.f4 c.f5 c.f6 c.f7 c.f8 c.f9 c.f10 c.f11 p q b1 b2
  have HF := Aside0.mk (fun W => ltklaw21_first.calls 60 true W first_at)
  have HSp := Aside0.mk (fun V (hb : Below W.heap.size W V) => bound_Steps.calls 200 A1 c1 p (stS p) V (Kd.C_below hr1 hb) hc1 (steps_f p (by omega) (by omega)))
  have HSq := Aside0.mk (fun V (hb : Below W.heap.size W V) => bound_Steps.calls 200 A2 c2 q (stS q) V (Kd.C_below hr2 hb) hc2 (steps_f q (by omega) (by omega)))
  have HSb0 := (fun V A c hr hc => bound_Steps.calls 200 A c (p ++ q) (stS (p ++ q)) V hr hc (steps_f (p ++ q) (by simp; omega) (by simp; omega)))
  simp only [List.length_append] at HSb0
  have HSb := Aside0.mk HSb0
  clear HSb0
  have HWx := Aside0.mk (fun V A hr => bound_Windows.calls 4000 c.f0 c.f1 c.f2 c.f3 c.f4 c.f5 c.f6 c.f7 c.f8 c.f9 c.f10 c.f11 A 1 [[p]] x V hr (Nat.le_refl _) hx)
  have HWy := Aside0.mk (fun V A hr => bound_Windows.calls 4000 c.f0 c.f1 c.f2 c.f3 c.f4 c.f5 c.f6 c.f7 c.f8 c.f9 c.f10 c.f11 A 1 [[p, q]] y V hr (Nat.le_refl _) hy)
  have HPp := Aside0.mk (fun V (hb : Below W.heap.size W V) => bound_Plain.calls A1 c1 p _ V (Kd.C_below hr1 hb) hc1 rfl)
  have HPq := Aside0.mk (fun V (hb : Below W.heap.size W V) => bound_Plain.calls A2 c2 q _ V (Kd.C_below hr2 hb) hc2 rfl)
  have HPb0 := (fun V A c hr hc => bound_Plain.calls A c (p ++ q) _ V hr hc (congrArg some (plain_append p q)))
  simp only [List.length_append] at HPb0
  have HPb := Aside0.mk HPb0
  clear HPb0
  rw [hgp] at HPp HPb
  generalize hgq : bound_Plain.g q = gq at HPq HPb
  obtain ⟨kf, hf0⟩ := fair_ex c b7 w l b3 (by omega)
  rw [if_neg (by omega), hfv] at hf0
  have HF0 := Aside0.mk (fun V (hb : Below W.heap.size W V) => bound_Fair.calls kf c.f0 c.f1 c.f2 c.f3 c.f4 c.f5 c.f6 c.f7 c.f8 c.f9 c.f10 c.f11 (w : Int) A4 c4 l false V (Kd.C_below hr4 hb) hc4 hf0)
  obtain ⟨kz, hfz⟩ := fair_ex c b7 0 l b3 (by omega)
  rw [if_pos rfl] at hfz
  have HFz := Aside0.mk (fun V (hb : Below W.heap.size W V) => bound_Fair.calls kz c.f0 c.f1 c.f2 c.f3 c.f4 c.f5 c.f6 c.f7 c.f8 c.f9 c.f10 c.f11 0 A4 c4 l false V (Kd.C_below hr4 hb) hc4 hfz)
  have n1 : 8 ≤ stS p := by unfold stS; have := (sumS_in p).1; omega
  have n2 : stS p ≤ 2408 := by unfold stS; have := (sumS_in p).2; omega
  have n3 : 8 ≤ stS q := by unfold stS; have := (sumS_in q).1; omega
  have n4 : stS q ≤ 2408 := by unfold stS; have := (sumS_in q).2; omega
  have nb := steps_append p q
  rw [nb] at HSb
  generalize stS p = sp at n1 n2 HSp HSb nb
  generalize stS q = sq at n3 n4 HSq HSb nb
  have N1 := Aside0.mk (And.intro b1 b2)
  have t1 : decide ((p.length : Int) > 60) = false := decide_eq_false (by omega)
  have t1' : decide (60 < p.length) = false := decide_eq_false (by omega)
  have t2 : decide ((q.length : Int) > 60) = false := decide_eq_false (by omega)
  have t2' : decide (60 < q.length) = false := decide_eq_false (by omega)
  have t3 : decide ((l.length : Int) > 300) = false := decide_eq_false (by omega)
  have t3' : decide (300 < l.length) = false := decide_eq_false (by omega)
  have t5 : decide ((cut : Int) > (l.length : Int)) = false := decide_eq_false (by omega)
  have t5' : decide (l.length < cut) = false := decide_eq_false (by omega)
  have t6 : decide ((w : Int) < 1) = false := decide_eq_false (by omega)
  have t6' : decide (w < 1) = false := decide_eq_false (by omega)
  have t6n : decide (w = 0) = false := decide_eq_false (by omega)
  have t7 : decide ((w : Int) > 300) = false := decide_eq_false (by omega)
  have t7' : decide (300 < w) = false := decide_eq_false (by omega)
  have n5 : (0 : Int) ≤ (cut : Int) := by omega
  have n6 : (cut : Int) ≤ (l.length : Int) := by omega
  have n7 : (w : Int) ≤ 300 := by omega
  have n8 : (0 : Int) ≤ (w : Int) := by omega
  have HR1 := Aside0.mk hr1
  have HR2 := Aside0.mk hr2
  have HC1 := Aside0.mk hc1
  have HC2 := Aside0.mk hc2
  have HXY := Aside0.mk hxy
  clear hr1 hc1 hr2 hc2 hr4 hc4 b1 b2 b3 b4 b5 b6 b7 hfv hf0 hfz hx hy hxy nb hgp hgq
  go_enter Try.func5, Try.ntmps5
  go_wp2_with fail
  refine (HF.out _).mono ?_
  rintro e w1 ⟨rfl, hb⟩
  have BK := Aside0.mk (blk_below (blk_new W (.cells #[.int .i64 c.f0, .int .i64 c.f1, .int .i64 c.f2, .int .i64 c.f3, .int .i64 c.f4, .int .i64 c.f5, .int .i64 c.f6, .int .i64 c.f7, .int .i64 c.f8, .int .i64 c.f9, .int .i64 c.f10, .int .i64 c.f11] 25)) hb)
  have HB1 := Aside0.mk (below_then (below_alloc (Below.refl _ _) _) (below_alloc (Below.refl _ _) _).size hb)
  clear hb
  generalize hg : W.heap.size = g at BK
  have HG := Aside0.mk hg
  have HX := Aside0.mk (fun V (hb : Below w1.heap.size w1 V) => (show V.cell? ⟨g, 0, none⟩ = some (.int .i64 c.f0) ∧ V.cell? ⟨g, 1, none⟩ = some (.int .i64 c.f1) ∧ V.cell? ⟨g, 2, none⟩ = some (.int .i64 c.f2) ∧ V.cell? ⟨g, 3, none⟩ = some (.int .i64 c.f3) ∧ V.cell? ⟨g, 4, none⟩ = some (.int .i64 c.f4) ∧ V.cell? ⟨g, 5, none⟩ = some (.int .i64 c.f5) ∧ V.cell? ⟨g, 6, none⟩ = some (.int .i64 c.f6) ∧ V.cell? ⟨g, 7, none⟩ = some (.int .i64 c.f7) ∧ V.cell? ⟨g, 8, none⟩ = some (.int .i64 c.f8) ∧ V.cell? ⟨g, 9, none⟩ = some (.int .i64 c.f9) ∧ V.cell? ⟨g, 10, none⟩ = some (.int .i64 c.f10) ∧ V.cell? ⟨g, 11, none⟩ = some (.int .i64 c.f11) from by
    have h := (hb.block g (Array.getElem?_eq_some_iff.1 BK.out).1).trans BK.out
    exact ⟨(blk_cell h 0).trans rfl, (blk_cell h 1).trans rfl, (blk_cell h 2).trans rfl, (blk_cell h 3).trans rfl, (blk_cell h 4).trans rfl, (blk_cell h 5).trans rfl, (blk_cell h 6).trans rfl, (blk_cell h 7).trans rfl, (blk_cell h 8).trans rfl, (blk_cell h 9).trans rfl, (blk_cell h 10).trans rfl, (blk_cell h 11).trans rfl⟩))
  clear hg
  go_wp2_with fail
  (try rw [HG.out])
  refine (HSp.out _ HB1.out).mono ?_
  rintro e w2 ⟨rfl, hb⟩
  have E2 := Aside0.mk hb
  have HB2 := Aside0.mk (below_then HB1.out HB1.out.size hb)
  clear hb
  have AV0 := Aside0.mk (AppV.none_ k54 54 (Below.refl w2.heap.size w2))
  have HR1b := Aside0.mk (Kd.C_below HR1.out HB2.out)
  have HR2b := Aside0.mk (Kd.C_below HR2.out HB2.out)
  go_wp2_with (at_builtin; refine wpList_app k54 rfl _ _ 22 54 _ 56 rfl Try.underlying22 info54 rfl (by decide) (by decide) (.slice (some ⟨w2.heap.size, 0, none⟩) 0 0) [] p A1 p.length c1 (by simp [Act.eval, Act.put]) (by simp [Act.eval, Act.put]) AV0.out HR1b.out (by have := N1.out; simp; omega) ?_)
  intro v3 w3 hv3
  have AV3 := Aside0.mk hv3
  clear hv3
  go_wp2_with (at_builtin; refine wpList_app k54 rfl _ _ 22 54 _ 56 rfl Try.underlying22 info54 rfl (by decide) (by decide) v3 _ q A2 q.length c2 (by simp [Act.eval, Act.put]) (by simp [Act.eval, Act.put]) AV3.out HR2b.out (by have := N1.out; simp; omega) ?_)
  intro v4 w4 hv4
  obtain ⟨A6, c6, rfl, hc6, hC6⟩ := hv4.C
  simp only [List.nil_append, List.length_append] at hC6 hc6
  have E4 := Aside0.mk (below_then E2.out E2.out.size hv4.1)
  have HC6 := Aside0.mk hC6
  have Hc6 := Aside0.mk hc6
  clear hv4 hC6 hc6
  go_wp2_with fail
  refine (HSb.out _ A6 c6 HC6.out Hc6.out).mono ?_
  rintro e w5 ⟨rfl, hb⟩
  have E5 := Aside0.mk (below_then E4.out E4.out.size hb)
  have HB5 := Aside0.mk (below_then HB1.out HB1.out.size E5.out)
  clear hb AV0 AV3 HR1b HR2b E4 HC6 Hc6
  obtain ⟨x0, x1, x2, x3, x4, x5, x6, x7, x8, x9, x10, x11⟩ := HX.out _ E5.out
  go_wp2_with fail
  refine (HWx.out _ _ (ltklaw21_BoundPolicies.arg (g := w5.heap.size) (by simp) (blk_new w5 _) (Kd.C_alloc (Kd.C_below HR1.out HB5.out) _) HC1.out)).mono ?_
  rintro e w6 ⟨rfl, hb⟩
  have E6 := Aside0.mk (below_then (below_alloc (below_alloc E5.out _) _) (below_alloc (below_alloc E5.out _) _).size hb)
  have HB6 := Aside0.mk (below_then HB1.out HB1.out.size E6.out)
  clear hb E5 HB5 x0 x1 x2 x3 x4 x5 x6 x7 x8 x9 x10 x11
  obtain ⟨x0, x1, x2, x3, x4, x5, x6, x7, x8, x9, x10, x11⟩ := HX.out _ E6.out
  go_wp2_with fail
  refine (HWy.out _ _ (arg2 (g := w6.heap.size) (by simp) (blk_new w6 _) (Kd.C_alloc (Kd.C_below HR1.out HB6.out) _) HC1.out (Kd.C_alloc (Kd.C_below HR2.out HB6.out) _) HC2.out)).mono ?_
  rintro e w7 ⟨rfl, hb⟩
  have E7 := Aside0.mk (below_then (below_alloc (below_alloc E6.out _) _) (below_alloc (below_alloc E6.out _) _).size hb)
  have HB7 := Aside0.mk (below_then HB1.out HB1.out.size E7.out)
  clear hb E6 HB6 x0 x1 x2 x3 x4 x5 x6 x7 x8 x9 x10 x11
  obtain ⟨x0, x1, x2, x3, x4, x5, x6, x7, x8, x9, x10, x11⟩ := HX.out _ E7.out
  go_wp2_with fail
  refine (HF0.out _ HB7.out).mono ?_
  rintro e w8 ⟨rfl, hb⟩
  have E8 := Aside0.mk (below_then E7.out E7.out.size hb)
  have HB8 := Aside0.mk (below_then HB1.out HB1.out.size E8.out)
  clear hb E7 HB7 x0 x1 x2 x3 x4 x5 x6 x7 x8 x9 x10 x11
  obtain ⟨x0, x1, x2, x3, x4, x5, x6, x7, x8, x9, x10, x11⟩ := HX.out _ E8.out
  have HR1c := Aside0.mk (Kd.C_below HR1.out HB8.out)
  have HR2c := Aside0.mk (Kd.C_below HR2.out HB8.out)
  have T1 := Aside0.mk (show decide (sp ≥ 8) = true from decide_eq_true n1)
  have k1 : decide (sp ≥ 8) = true := decide_eq_true n1
  have k1' : decide (8 ≤ sp) = true := decide_eq_true n1
  have k2 : decide (sp + sq - 8 ≥ sp) = true := decide_eq_true (by omega)
  have k2' : decide (sp ≤ sp + sq - 8) = true := decide_eq_true (by omega)
  have k3 : decide (y ≥ x) = true := decide_eq_true HXY.out
  have k3' : decide (x ≤ y) = true := decide_eq_true HXY.out
  have k4 : IntKind.i64.wrap (sp + sq) = sp + sq := IntWalk.i64_in _ (by omega)
  have k5 : IntKind.i64.wrap (sp + sq - 8) = sp + sq - 8 := IntWalk.i64_in _ (by omega)
  have k6 : IntKind.i64.wrap ((w : Int) + 1) = (w : Int) + 1 := IntWalk.i64_in _ (by omega)
  have HBd := Aside0.mk (below_drew (Below.refl w8.heap.size w8))
  go_wp2_with fail

  simp only [List.append_eq, List.cons_append, List.nil_append]
  refine wp_region_held_drew (S := (fun W => W.cell? ⟨g, 0, none⟩ = some (.int .i64 c.f0) ∧ W.cell? ⟨g, 1, none⟩ = some (.int .i64 c.f1) ∧ W.cell? ⟨g, 2, none⟩ = some (.int .i64 c.f2) ∧ W.cell? ⟨g, 3, none⟩ = some (.int .i64 c.f3) ∧ W.cell? ⟨g, 4, none⟩ = some (.int .i64 c.f4) ∧ W.cell? ⟨g, 5, none⟩ = some (.int .i64 c.f5) ∧ W.cell? ⟨g, 6, none⟩ = some (.int .i64 c.f6) ∧ W.cell? ⟨g, 7, none⟩ = some (.int .i64 c.f7) ∧ W.cell? ⟨g, 8, none⟩ = some (.int .i64 c.f8) ∧ W.cell? ⟨g, 9, none⟩ = some (.int .i64 c.f9) ∧ W.cell? ⟨g, 10, none⟩ = some (.int .i64 c.f10) ∧ W.cell? ⟨g, 11, none⟩ = some (.int .i64 c.f11))) (by kernel_rfl) ?_ (fun hH => ?_)
  · exact HX.out _ (below_then E8.out E8.out.size HBd.out)
  refine wpAnyH_ready (rs := [0]) (by kernel_rfl) (by simp) ?_
  refine AllReadyH.cons (o := { dst := some 75, op := Op.call { callee := Callee.value (Operand.func 7), args := #[], argTypes := #[] }, type := 4, pos := "extra.go:21", after := #[], guard := none }) rfl (fun K hK => ?_) AllReadyH.nil
  go_simp
  (go_at_call 7; (with_reducible refine (HF.out _).mono ?_); rintro e w9 ⟨rfl, hb9⟩; have G9 := Aside0.mk (below_then HBd.out HBd.out.size hb9))
  go_wp2_with fail
  refine hK.out _ _ ?_ (fun hH0 => ?_)
  · (try dsimp only)
    exact HX.out _ (below_then E8.out E8.out.size G9.out)
  clear hK K hH
  (try simp only [Act.put, List.setIfInBounds_toArray, List.set_cons_zero, List.set_cons_succ])
  refine wpAnyH_take (i := 1) (oi := { dst := some 76, op := Op.move (Operand.tmp 75), type := 4, pos := "extra.go:21", after := #[{ on := 0, ground := Ground.data }, { on := 0, ground := Ground.chain }], guard := none }) (v := ?hv1) rfl (by kernel_rfl) (by kernel_rfl) (by kernel_rfl) (fun _ _ _ h => h) (Or.inl ⟨by rfl, ?hy1⟩) (by assumption) ?hr1
  case hy1 => (intro w hSw; (try dsimp only at hSw); go_simp; (try with_reducible rfl))
  (try simp only [Act.put, List.setIfInBounds_toArray, List.set_cons_zero, List.set_cons_succ])
  refine wpAnyH_take (i := 2) (oi := { dst := some 77, op := Op.move (Operand.tmp 13), type := 3, pos := "extra.go:21", after := #[{ on := 1, ground := Ground.guard }], guard := some (1, true) }) (v := ?hv2) rfl (by kernel_rfl) (by kernel_rfl) (by kernel_rfl) (fun _ _ _ h => h) (Or.inl ⟨by rfl, ?hy2⟩) (by assumption) ?hr2
  case hy2 => (intro w hSw; (try dsimp only at hSw); go_simp; (try with_reducible rfl))
  (try simp only [Act.put, List.setIfInBounds_toArray, List.set_cons_zero, List.set_cons_succ])
  refine wpAnyH_take (i := 3) (oi := { dst := some 78, op := Op.binOp BinOp.geq 3 (Operand.tmp 77) (Operand.const (Value.int IntKind.i64 8)) 3, type := 4, pos := "extra.go:21", after := #[{ on := 2, ground := Ground.data }, { on := 1, ground := Ground.guard }], guard := some (1, true) }) (v := ?hv3) rfl (by kernel_rfl) (by kernel_rfl) (by kernel_rfl) (fun _ _ _ h => h) (Or.inl ⟨by rfl, ?hy3⟩) (by assumption) ?hr3
  case hy3 => (intro w hSw; (try dsimp only at hSw); go_simp; (try with_reducible rfl))
  (try simp only [Act.put, List.setIfInBounds_toArray, List.set_cons_zero, List.set_cons_succ])
  refine wpAnyH_take (i := 4) (oi := { dst := some 79, op := Op.pick (Operand.tmp 76) (Operand.tmp 78) (Operand.const (Value.bool false)), type := 4, pos := "extra.go:21", after := #[{ on := 1, ground := Ground.data }, { on := 3, ground := Ground.data }], guard := none }) (v := ?hv4) rfl (by kernel_rfl) (by kernel_rfl) (by kernel_rfl) (fun _ _ _ h => h) (Or.inl ⟨by rfl, ?hy4⟩) (by assumption) ?hr4
  case hy4 => (intro w hSw; (try dsimp only at hSw); go_simp; (try with_reducible rfl))
  (try simp only [Act.put, List.setIfInBounds_toArray, List.set_cons_zero, List.set_cons_succ])
  refine wpAnyH_take (i := 5) (oi := { dst := some 80, op := Op.move (Operand.tmp 79), type := 4, pos := "extra.go:21", after := #[{ on := 4, ground := Ground.data }, { on := 1, ground := Ground.chain }], guard := none }) (v := ?hv5) rfl (by kernel_rfl) (by kernel_rfl) (by kernel_rfl) (fun _ _ _ h => h) (Or.inl ⟨by rfl, ?hy5⟩) (by assumption) ?hr5
  case hy5 => (intro w hSw; (try dsimp only at hSw); go_simp; (try with_reducible rfl))
  (try simp only [Act.put, List.setIfInBounds_toArray, List.set_cons_zero, List.set_cons_succ])
  refine wpAnyH_take (i := 6) (oi := { dst := some 81, op := Op.move (Operand.tmp 14), type := 3, pos := "extra.go:21", after := #[{ on := 5, ground := Ground.guard }], guard := some (5, true) }) (v := ?hv6) rfl (by kernel_rfl) (by kernel_rfl) (by kernel_rfl) (fun _ _ _ h => h) (Or.inl ⟨by rfl, ?hy6⟩) (by assumption) ?hr6
  case hy6 => (intro w hSw; (try dsimp only at hSw); go_simp; (try with_reducible rfl))
  (try simp only [Act.put, List.setIfInBounds_toArray, List.set_cons_zero, List.set_cons_succ])
  refine wpAnyH_take (i := 7) (oi := { dst := some 82, op := Op.move (Operand.tmp 13), type := 3, pos := "extra.go:21", after := #[{ on := 5, ground := Ground.guard }], guard := some (5, true) }) (v := ?hv7) rfl (by kernel_rfl) (by kernel_rfl) (by kernel_rfl) (fun _ _ _ h => h) (Or.inl ⟨by rfl, ?hy7⟩) (by assumption) ?hr7
  case hy7 => (intro w hSw; (try dsimp only at hSw); go_simp; (try with_reducible rfl))
  (try simp only [Act.put, List.setIfInBounds_toArray, List.set_cons_zero, List.set_cons_succ])
  refine wpAnyH_take (i := 8) (oi := { dst := some 83, op := Op.binOp BinOp.geq 3 (Operand.tmp 81) (Operand.tmp 82) 3, type := 4, pos := "extra.go:21", after := #[{ on := 6, ground := Ground.data }, { on := 7, ground := Ground.data }, { on := 5, ground := Ground.guard }], guard := some (5, true) }) (v := ?hv8) rfl (by kernel_rfl) (by kernel_rfl) (by kernel_rfl) (fun _ _ _ h => h) (Or.inl ⟨by rfl, ?hy8⟩) (by assumption) ?hr8
  case hy8 => (intro w hSw; (try dsimp only at hSw); go_simp; (try with_reducible rfl))
  (try simp only [Act.put, List.setIfInBounds_toArray, List.set_cons_zero, List.set_cons_succ])
  refine wpAnyH_take (i := 9) (oi := { dst := some 84, op := Op.pick (Operand.tmp 80) (Operand.tmp 83) (Operand.const (Value.bool false)), type := 4, pos := "extra.go:21", after := #[{ on := 5, ground := Ground.data }, { on := 8, ground := Ground.data }], guard := none }) (v := ?hv9) rfl (by kernel_rfl) (by kernel_rfl) (by kernel_rfl) (fun _ _ _ h => h) (Or.inl ⟨by rfl, ?hy9⟩) (by assumption) ?hr9
  case hy9 => (intro w hSw; (try dsimp only at hSw); go_simp; (try with_reducible rfl))
  (try simp only [Act.put, List.setIfInBounds_toArray, List.set_cons_zero, List.set_cons_succ])
  refine wpAnyH_take (i := 10) (oi := { dst := some 85, op := Op.move (Operand.tmp 84), type := 4, pos := "extra.go:21", after := #[{ on := 9, ground := Ground.data }, { on := 5, ground := Ground.chain }], guard := none }) (v := ?hv10) rfl (by kernel_rfl) (by kernel_rfl) (by kernel_rfl) (fun _ _ _ h => h) (Or.inl ⟨by rfl, ?hy10⟩) (by assumption) ?hr10
  case hy10 => (intro w hSw; (try dsimp only at hSw); go_simp; (try with_reducible rfl))
  (try simp only [Act.put, List.setIfInBounds_toArray, List.set_cons_zero, List.set_cons_succ])
  refine wpAnyH_take (i := 11) (oi := { dst := some 86, op := Op.move (Operand.tmp 14), type := 3, pos := "extra.go:21", after := #[{ on := 10, ground := Ground.guard }], guard := some (10, true) }) (v := ?hv11) rfl (by kernel_rfl) (by kernel_rfl) (by kernel_rfl) (fun _ _ _ h => h) (Or.inl ⟨by rfl, ?hy11⟩) (by assumption) ?hr11
  case hy11 => (intro w hSw; (try dsimp only at hSw); go_simp; (try with_reducible rfl))
  (try simp only [Act.put, List.setIfInBounds_toArray, List.set_cons_zero, List.set_cons_succ])
  refine wpAnyH_take (i := 12) (oi := { dst := some 87, op := Op.move (Operand.tmp 13), type := 3, pos := "extra.go:21", after := #[{ on := 10, ground := Ground.guard }], guard := some (10, true) }) (v := ?hv12) rfl (by kernel_rfl) (by kernel_rfl) (by kernel_rfl) (fun _ _ _ h => h) (Or.inl ⟨by rfl, ?hy12⟩) (by assumption) ?hr12
  case hy12 => (intro w hSw; (try dsimp only at hSw); go_simp; (try with_reducible rfl))
  (try simp only [Act.put, List.setIfInBounds_toArray, List.set_cons_zero, List.set_cons_succ])
  refine wpAnyH_take (i := 13) (oi := { dst := some 88, op := Op.move (Operand.tmp 2), type := 22, pos := "extra.go:21", after := #[{ on := 10, ground := Ground.guard }], guard := some (10, true) }) (v := ?hv13) rfl (by kernel_rfl) (by kernel_rfl) (by kernel_rfl) (fun _ _ _ h => h) (Or.inl ⟨by rfl, ?hy13⟩) (by assumption) ?hr13
  case hy13 => (intro w hSw; (try dsimp only at hSw); go_simp; (try with_reducible rfl))
  (try simp only [Act.put, List.setIfInBounds_toArray, List.set_cons_zero, List.set_cons_succ])
  refine wpAnyH_ready (rs := [14]) (by kernel_rfl) (by simp) ?_
  refine AllReadyH.cons (o := { dst := some 89, op := Op.call { callee := Callee.value (Operand.func 22), args := #[Operand.tmp 88], argTypes := #[22] }, type := 3, pos := "extra.go:21", after := #[{ on := 13, ground := Ground.data }, { on := 10, ground := Ground.chain }, { on := 10, ground := Ground.guard }], guard := some (10, true) }) rfl (fun K hK => ?_) AllReadyH.nil
  go_simp
  (go_at_call 22; (with_reducible refine (HSq.out _ (below_then HB8.out HB8.out.size G9.out)).mono ?_); rintro e w10 ⟨rfl, hb10⟩; have G10 := Aside0.mk (below_then G9.out G9.out.size hb10))
  go_wp2_with fail
  refine hK.out _ _ ?_ (fun hH14 => ?_)
  · (try dsimp only)
    exact HX.out _ (below_then E8.out E8.out.size G10.out)
  clear hK K hH0
  (try simp only [Act.put, List.setIfInBounds_toArray, List.set_cons_zero, List.set_cons_succ])
  refine wpAnyH_take (i := 15) (oi := { dst := some 90, op := Op.binOp BinOp.add 3 (Operand.tmp 87) (Operand.tmp 89) 3, type := 3, pos := "extra.go:21", after := #[{ on := 12, ground := Ground.data }, { on := 14, ground := Ground.data }, { on := 10, ground := Ground.guard }], guard := some (10, true) }) (v := ?hv15) rfl (by kernel_rfl) (by kernel_rfl) (by kernel_rfl) (fun _ _ _ h => h) (Or.inl ⟨by rfl, ?hy15⟩) (by assumption) ?hr15
  case hy15 => (intro w hSw; (try dsimp only at hSw); go_simp; (try with_reducible rfl))
  (try simp only [Act.put, List.setIfInBounds_toArray, List.set_cons_zero, List.set_cons_succ])
  refine wpAnyH_take (i := 16) (oi := { dst := some 91, op := Op.binOp BinOp.sub 3 (Operand.tmp 90) (Operand.const (Value.int IntKind.i64 8)) 3, type := 3, pos := "extra.go:21", after := #[{ on := 15, ground := Ground.data }, { on := 10, ground := Ground.guard }], guard := some (10, true) }) (v := ?hv16) rfl (by kernel_rfl) (by kernel_rfl) (by kernel_rfl) (fun _ _ _ h => h) (Or.inl ⟨by rfl, ?hy16⟩) (by assumption) ?hr16
  case hy16 => (intro w hSw; (try dsimp only at hSw); go_simp; (try with_reducible rfl))
  (try simp only [Act.put, List.setIfInBounds_toArray, List.set_cons_zero, List.set_cons_succ])
  refine wpAnyH_take (i := 17) (oi := { dst := some 92, op := Op.binOp BinOp.eql 3 (Operand.tmp 86) (Operand.tmp 91) 3, type := 4, pos := "extra.go:21", after := #[{ on := 11, ground := Ground.data }, { on := 16, ground := Ground.data }, { on := 10, ground := Ground.guard }], guard := some (10, true) }) (v := ?hv17) rfl (by kernel_rfl) (by kernel_rfl) (by kernel_rfl) (fun _ _ _ h => h) (Or.inl ⟨by rfl, ?hy17⟩) (by assumption) ?hr17
  case hy17 => (intro w hSw; (try dsimp only at hSw); go_simp; (try with_reducible rfl))
  (try simp only [Act.put, List.setIfInBounds_toArray, List.set_cons_zero, List.set_cons_succ])
  refine wpAnyH_take (i := 18) (oi := { dst := some 93, op := Op.pick (Operand.tmp 85) (Operand.tmp 92) (Operand.const (Value.bool false)), type := 4, pos := "extra.go:21", after := #[{ on := 10, ground := Ground.data }, { on := 17, ground := Ground.data }], guard := none }) (v := ?hv18) rfl (by kernel_rfl) (by kernel_rfl) (by kernel_rfl) (fun _ _ _ h => h) (Or.inl ⟨by rfl, ?hy18⟩) (by assumption) ?hr18
  case hy18 => (intro w hSw; (try dsimp only at hSw); go_simp; (try with_reducible rfl))
  (try simp only [Act.put, List.setIfInBounds_toArray, List.set_cons_zero, List.set_cons_succ])
  refine wpAnyH_take (i := 19) (oi := { dst := some 94, op := Op.move (Operand.tmp 93), type := 4, pos := "extra.go:21", after := #[{ on := 18, ground := Ground.data }, { on := 14, ground := Ground.chain }], guard := none }) (v := ?hv19) rfl (by kernel_rfl) (by kernel_rfl) (by kernel_rfl) (fun _ _ _ h => h) (Or.inl ⟨by rfl, ?hy19⟩) (by assumption) ?hr19
  case hy19 => (intro w hSw; (try dsimp only at hSw); go_simp; (try with_reducible rfl))
  (try simp only [Act.put, List.setIfInBounds_toArray, List.set_cons_zero, List.set_cons_succ])
  refine wpAnyH_take (i := 20) (oi := { dst := some 95, op := Op.move (Operand.tmp 16), type := 3, pos := "extra.go:21", after := #[{ on := 19, ground := Ground.guard }], guard := some (19, true) }) (v := ?hv20) rfl (by kernel_rfl) (by kernel_rfl) (by kernel_rfl) (fun _ _ _ h => h) (Or.inl ⟨by rfl, ?hy20⟩) (by assumption) ?hr20
  case hy20 => (intro w hSw; (try dsimp only at hSw); go_simp; (try with_reducible rfl))
  (try simp only [Act.put, List.setIfInBounds_toArray, List.set_cons_zero, List.set_cons_succ])
  refine wpAnyH_take (i := 21) (oi := { dst := some 96, op := Op.move (Operand.tmp 15), type := 3, pos := "extra.go:21", after := #[{ on := 19, ground := Ground.guard }], guard := some (19, true) }) (v := ?hv21) rfl (by kernel_rfl) (by kernel_rfl) (by kernel_rfl) (fun _ _ _ h => h) (Or.inl ⟨by rfl, ?hy21⟩) (by assumption) ?hr21
  case hy21 => (intro w hSw; (try dsimp only at hSw); go_simp; (try with_reducible rfl))
  (try simp only [Act.put, List.setIfInBounds_toArray, List.set_cons_zero, List.set_cons_succ])
  refine wpAnyH_take (i := 22) (oi := { dst := some 97, op := Op.binOp BinOp.geq 3 (Operand.tmp 95) (Operand.tmp 96) 3, type := 4, pos := "extra.go:21", after := #[{ on := 20, ground := Ground.data }, { on := 21, ground := Ground.data }, { on := 19, ground := Ground.guard }], guard := some (19, true) }) (v := ?hv22) rfl (by kernel_rfl) (by kernel_rfl) (by kernel_rfl) (fun _ _ _ h => h) (Or.inl ⟨by rfl, ?hy22⟩) (by assumption) ?hr22
  case hy22 => (intro w hSw; (try dsimp only at hSw); go_simp; (try with_reducible rfl))
  (try simp only [Act.put, List.setIfInBounds_toArray, List.set_cons_zero, List.set_cons_succ])
  refine wpAnyH_take (i := 23) (oi := { dst := some 98, op := Op.pick (Operand.tmp 94) (Operand.tmp 97) (Operand.const (Value.bool false)), type := 4, pos := "extra.go:21", after := #[{ on := 19, ground := Ground.data }, { on := 22, ground := Ground.data }], guard := none }) (v := ?hv23) rfl (by kernel_rfl) (by kernel_rfl) (by kernel_rfl) (fun _ _ _ h => h) (Or.inl ⟨by rfl, ?hy23⟩) (by assumption) ?hr23
  case hy23 => (intro w hSw; (try dsimp only at hSw); go_simp; (try with_reducible rfl))
  (try simp only [Act.put, List.setIfInBounds_toArray, List.set_cons_zero, List.set_cons_succ])
  refine wpAnyH_take (i := 24) (oi := { dst := some 99, op := Op.move (Operand.tmp 98), type := 4, pos := "extra.go:21", after := #[{ on := 23, ground := Ground.data }, { on := 19, ground := Ground.chain }], guard := none }) (v := ?hv24) rfl (by kernel_rfl) (by kernel_rfl) (by kernel_rfl) (fun _ _ _ h => h) (Or.inl ⟨by rfl, ?hy24⟩) (by assumption) ?hr24
  case hy24 => (intro w hSw; (try dsimp only at hSw); go_simp; (try with_reducible rfl))
  (try simp only [Act.put, List.setIfInBounds_toArray, List.set_cons_zero, List.set_cons_succ])
  refine wpAnyH_take (i := 25) (oi := { dst := some 100, op := Op.move (Operand.tmp 17), type := 4, pos := "extra.go:21", after := #[{ on := 24, ground := Ground.guard }], guard := some (24, true) }) (v := ?hv25) rfl (by kernel_rfl) (by kernel_rfl) (by kernel_rfl) (fun _ _ _ h => h) (Or.inl ⟨by rfl, ?hy25⟩) (by assumption) ?hr25
  case hy25 => (intro w hSw; (try dsimp only at hSw); go_simp; (try with_reducible rfl))
  (try simp only [Act.put, List.setIfInBounds_toArray, List.set_cons_zero, List.set_cons_succ])
  refine wpAnyH_take (i := 26) (oi := { dst := some 101, op := Op.unOp UnOp.not 4 (Operand.tmp 100), type := 4, pos := "extra.go:21", after := #[{ on := 25, ground := Ground.data }, { on := 24, ground := Ground.guard }], guard := some (24, true) }) (v := ?hv26) rfl (by kernel_rfl) (by kernel_rfl) (by kernel_rfl) (fun _ _ _ h => h) (Or.inl ⟨by rfl, ?hy26⟩) (by assumption) ?hr26
  case hy26 => (intro w hSw; (try dsimp only at hSw); go_simp; (try with_reducible rfl))
  (try simp only [Act.put, List.setIfInBounds_toArray, List.set_cons_zero, List.set_cons_succ])
  refine wpAnyH_take (i := 27) (oi := { dst := some 102, op := Op.move (Operand.tmp 101), type := 4, pos := "extra.go:21", after := #[{ on := 26, ground := Ground.data }, { on := 24, ground := Ground.chain }, { on := 24, ground := Ground.guard }], guard := some (24, true) }) (v := ?hv27) rfl (by kernel_rfl) (by kernel_rfl) (by kernel_rfl) (fun _ _ _ h => h) (Or.inl ⟨by rfl, ?hy27⟩) (by assumption) ?hr27
  case hy27 => (intro w hSw; (try dsimp only at hSw); go_simp; (try with_reducible rfl))
  (try simp only [Act.put, List.setIfInBounds_toArray, List.set_cons_zero, List.set_cons_succ])
  refine wpAnyH_take (i := 28) (oi := { dst := some 103, op := Op.load 25 (Operand.tmp 6), type := 25, pos := "extra.go:21", after := #[{ on := 27, ground := Ground.guard }], guard := some (27, false) }) (v := undef) rfl (by kernel_rfl) (by kernel_rfl) (by kernel_rfl) (fun _ _ _ h => h) (Or.inr ⟨by rfl, rfl⟩) (by assumption) ?_
  (try simp only [Act.put, List.setIfInBounds_toArray, List.set_cons_zero, List.set_cons_succ])
  refine wpAnyH_take (i := 29) (oi := { dst := some 104, op := Op.move (Operand.tmp 3), type := 3, pos := "extra.go:21", after := #[{ on := 27, ground := Ground.guard }], guard := some (27, false) }) (v := undef) rfl (by kernel_rfl) (by kernel_rfl) (by kernel_rfl) (fun _ _ _ h => h) (Or.inr ⟨by rfl, rfl⟩) (by assumption) ?_
  (try simp only [Act.put, List.setIfInBounds_toArray, List.set_cons_zero, List.set_cons_succ])
  refine wpAnyH_take (i := 30) (oi := { dst := some 105, op := Op.binOp BinOp.add 3 (Operand.tmp 104) (Operand.const (Value.int IntKind.i64 1)) 3, type := 3, pos := "extra.go:21", after := #[{ on := 29, ground := Ground.data }, { on := 27, ground := Ground.guard }], guard := some (27, false) }) (v := undef) rfl (by kernel_rfl) (by kernel_rfl) (by kernel_rfl) (fun _ _ _ h => h) (Or.inr ⟨by rfl, rfl⟩) (by assumption) ?_
  (try simp only [Act.put, List.setIfInBounds_toArray, List.set_cons_zero, List.set_cons_succ])
  refine wpAnyH_take (i := 31) (oi := { dst := some 106, op := Op.move (Operand.tmp 4), type := 30, pos := "extra.go:21", after := #[{ on := 27, ground := Ground.guard }], guard := some (27, false) }) (v := undef) rfl (by kernel_rfl) (by kernel_rfl) (by kernel_rfl) (fun _ _ _ h => h) (Or.inr ⟨by rfl, rfl⟩) (by assumption) ?_
  (try simp only [Act.put, List.setIfInBounds_toArray, List.set_cons_zero, List.set_cons_succ])
  refine wpAnyH_take (i := 32) (oi := { dst := some 107, op := Op.call { callee := Callee.value (Operand.func 23), args := #[Operand.tmp 103, Operand.tmp 105, Operand.tmp 106], argTypes := #[25, 3, 30] }, type := 4, pos := "extra.go:21", after := #[{ on := 28, ground := Ground.data }, { on := 30, ground := Ground.data }, { on := 31, ground := Ground.data }, { on := 27, ground := Ground.chain }, { on := 27, ground := Ground.guard }], guard := some (27, false) }) (v := undef) rfl (by kernel_rfl) (by kernel_rfl) (by kernel_rfl) (fun _ _ _ h => h) (Or.inr ⟨by rfl, rfl⟩) (by assumption) ?_
  (try simp only [Act.put, List.setIfInBounds_toArray, List.set_cons_zero, List.set_cons_succ])
  refine wpAnyH_take (i := 33) (oi := { dst := some 108, op := Op.move (Operand.tmp 107), type := 4, pos := "extra.go:21", after := #[{ on := 32, ground := Ground.data }, { on := 32, ground := Ground.chain }, { on := 27, ground := Ground.guard }], guard := some (27, false) }) (v := undef) rfl (by kernel_rfl) (by kernel_rfl) (by kernel_rfl) (fun _ _ _ h => h) (Or.inr ⟨by rfl, rfl⟩) (by assumption) ?_
  (try simp only [Act.put, List.setIfInBounds_toArray, List.set_cons_zero, List.set_cons_succ])
  refine wpAnyH_take (i := 34) (oi := { dst := some 109, op := Op.load 25 (Operand.tmp 6), type := 25, pos := "extra.go:21", after := #[{ on := 33, ground := Ground.guard }], guard := some (33, true) }) (v := undef) rfl (by kernel_rfl) (by kernel_rfl) (by kernel_rfl) (fun _ _ _ h => h) (Or.inr ⟨by rfl, rfl⟩) (by assumption) ?_
  (try simp only [Act.put, List.setIfInBounds_toArray, List.set_cons_zero, List.set_cons_succ])
  refine wpAnyH_take (i := 35) (oi := { dst := some 110, op := Op.move (Operand.tmp 3), type := 3, pos := "extra.go:21", after := #[{ on := 33, ground := Ground.guard }], guard := some (33, true) }) (v := undef) rfl (by kernel_rfl) (by kernel_rfl) (by kernel_rfl) (fun _ _ _ h => h) (Or.inr ⟨by rfl, rfl⟩) (by assumption) ?_
  (try simp only [Act.put, List.setIfInBounds_toArray, List.set_cons_zero, List.set_cons_succ])
  refine wpAnyH_take (i := 36) (oi := { dst := some 111, op := Op.move (Operand.tmp 4), type := 30, pos := "extra.go:21", after := #[{ on := 33, ground := Ground.guard }], guard := some (33, true) }) (v := undef) rfl (by kernel_rfl) (by kernel_rfl) (by kernel_rfl) (fun _ _ _ h => h) (Or.inr ⟨by rfl, rfl⟩) (by assumption) ?_
  (try simp only [Act.put, List.setIfInBounds_toArray, List.set_cons_zero, List.set_cons_succ])
  refine wpAnyH_take (i := 37) (oi := { dst := some 112, op := Op.move (Operand.tmp 5), type := 3, pos := "extra.go:21", after := #[{ on := 33, ground := Ground.guard }], guard := some (33, true) }) (v := undef) rfl (by kernel_rfl) (by kernel_rfl) (by kernel_rfl) (fun _ _ _ h => h) (Or.inr ⟨by rfl, rfl⟩) (by assumption) ?_
  (try simp only [Act.put, List.setIfInBounds_toArray, List.set_cons_zero, List.set_cons_succ])
  refine wpAnyH_take (i := 38) (oi := { dst := some 113, op := Op.slice 30 (Operand.tmp 111) none (some (Operand.tmp 112)) none, type := 30, pos := "extra.go:21", after := #[{ on := 36, ground := Ground.data }, { on := 37, ground := Ground.data }, { on := 33, ground := Ground.guard }], guard := some (33, true) }) (v := undef) rfl (by kernel_rfl) (by kernel_rfl) (by kernel_rfl) (fun _ _ _ h => h) (Or.inr ⟨by rfl, rfl⟩) (by assumption) ?_
  (try simp only [Act.put, List.setIfInBounds_toArray, List.set_cons_zero, List.set_cons_succ])
  refine wpAnyH_take (i := 39) (oi := { dst := some 114, op := Op.call { callee := Callee.value (Operand.func 23), args := #[Operand.tmp 109, Operand.tmp 110, Operand.tmp 113], argTypes := #[25, 3, 30] }, type := 4, pos := "extra.go:21", after := #[{ on := 34, ground := Ground.data }, { on := 35, ground := Ground.data }, { on := 38, ground := Ground.data }, { on := 33, ground := Ground.chain }, { on := 33, ground := Ground.guard }], guard := some (33, true) }) (v := undef) rfl (by kernel_rfl) (by kernel_rfl) (by kernel_rfl) (fun _ _ _ h => h) (Or.inr ⟨by rfl, rfl⟩) (by assumption) ?_
  (try simp only [Act.put, List.setIfInBounds_toArray, List.set_cons_zero, List.set_cons_succ])
  refine wpAnyH_take (i := 40) (oi := { dst := some 115, op := Op.pick (Operand.tmp 108) (Operand.tmp 114) (Operand.const (Value.bool false)), type := 4, pos := "extra.go:21", after := #[{ on := 33, ground := Ground.data }, { on := 39, ground := Ground.data }, { on := 27, ground := Ground.guard }], guard := some (27, false) }) (v := undef) rfl (by kernel_rfl) (by kernel_rfl) (by kernel_rfl) (fun _ _ _ h => h) (Or.inr ⟨by rfl, rfl⟩) (by assumption) ?_
  (try simp only [Act.put, List.setIfInBounds_toArray, List.set_cons_zero, List.set_cons_succ])
  refine wpAnyH_take (i := 41) (oi := { dst := some 116, op := Op.move (Operand.tmp 115), type := 4, pos := "extra.go:21", after := #[{ on := 40, ground := Ground.data }, { on := 39, ground := Ground.chain }, { on := 27, ground := Ground.guard }], guard := some (27, false) }) (v := undef) rfl (by kernel_rfl) (by kernel_rfl) (by kernel_rfl) (fun _ _ _ h => h) (Or.inr ⟨by rfl, rfl⟩) (by assumption) ?_
  (try simp only [Act.put, List.setIfInBounds_toArray, List.set_cons_zero, List.set_cons_succ])
  refine wpAnyH_take (i := 42) (oi := { dst := some 117, op := Op.load 25 (Operand.tmp 6), type := 25, pos := "extra.go:21", after := #[{ on := 41, ground := Ground.guard }], guard := some (41, true) }) (v := undef) rfl (by kernel_rfl) (by kernel_rfl) (by kernel_rfl) (fun _ _ _ h => h) (Or.inr ⟨by rfl, rfl⟩) (by assumption) ?_
  (try simp only [Act.put, List.setIfInBounds_toArray, List.set_cons_zero, List.set_cons_succ])
  refine wpAnyH_take (i := 43) (oi := { dst := some 118, op := Op.move (Operand.tmp 3), type := 3, pos := "extra.go:21", after := #[{ on := 41, ground := Ground.guard }], guard := some (41, true) }) (v := undef) rfl (by kernel_rfl) (by kernel_rfl) (by kernel_rfl) (fun _ _ _ h => h) (Or.inr ⟨by rfl, rfl⟩) (by assumption) ?_
  (try simp only [Act.put, List.setIfInBounds_toArray, List.set_cons_zero, List.set_cons_succ])
  refine wpAnyH_take (i := 44) (oi := { dst := some 119, op := Op.move (Operand.tmp 4), type := 30, pos := "extra.go:21", after := #[{ on := 41, ground := Ground.guard }], guard := some (41, true) }) (v := undef) rfl (by kernel_rfl) (by kernel_rfl) (by kernel_rfl) (fun _ _ _ h => h) (Or.inr ⟨by rfl, rfl⟩) (by assumption) ?_
  (try simp only [Act.put, List.setIfInBounds_toArray, List.set_cons_zero, List.set_cons_succ])
  refine wpAnyH_take (i := 45) (oi := { dst := some 120, op := Op.move (Operand.tmp 5), type := 3, pos := "extra.go:21", after := #[{ on := 41, ground := Ground.guard }], guard := some (41, true) }) (v := undef) rfl (by kernel_rfl) (by kernel_rfl) (by kernel_rfl) (fun _ _ _ h => h) (Or.inr ⟨by rfl, rfl⟩) (by assumption) ?_
  (try simp only [Act.put, List.setIfInBounds_toArray, List.set_cons_zero, List.set_cons_succ])
  refine wpAnyH_take (i := 46) (oi := { dst := some 121, op := Op.slice 30 (Operand.tmp 119) (some (Operand.tmp 120)) none none, type := 30, pos := "extra.go:21", after := #[{ on := 44, ground := Ground.data }, { on := 45, ground := Ground.data }, { on := 41, ground := Ground.guard }], guard := some (41, true) }) (v := undef) rfl (by kernel_rfl) (by kernel_rfl) (by kernel_rfl) (fun _ _ _ h => h) (Or.inr ⟨by rfl, rfl⟩) (by assumption) ?_
  (try simp only [Act.put, List.setIfInBounds_toArray, List.set_cons_zero, List.set_cons_succ])
  refine wpAnyH_take (i := 47) (oi := { dst := some 122, op := Op.call { callee := Callee.value (Operand.func 23), args := #[Operand.tmp 117, Operand.tmp 118, Operand.tmp 121], argTypes := #[25, 3, 30] }, type := 4, pos := "extra.go:21", after := #[{ on := 42, ground := Ground.data }, { on := 43, ground := Ground.data }, { on := 46, ground := Ground.data }, { on := 41, ground := Ground.chain }, { on := 41, ground := Ground.guard }], guard := some (41, true) }) (v := undef) rfl (by kernel_rfl) (by kernel_rfl) (by kernel_rfl) (fun _ _ _ h => h) (Or.inr ⟨by rfl, rfl⟩) (by assumption) ?_
  (try simp only [Act.put, List.setIfInBounds_toArray, List.set_cons_zero, List.set_cons_succ])
  refine wpAnyH_take (i := 48) (oi := { dst := some 123, op := Op.pick (Operand.tmp 116) (Operand.tmp 122) (Operand.const (Value.bool false)), type := 4, pos := "extra.go:21", after := #[{ on := 41, ground := Ground.data }, { on := 47, ground := Ground.data }, { on := 27, ground := Ground.guard }], guard := some (27, false) }) (v := undef) rfl (by kernel_rfl) (by kernel_rfl) (by kernel_rfl) (fun _ _ _ h => h) (Or.inr ⟨by rfl, rfl⟩) (by assumption) ?_
  (try simp only [Act.put, List.setIfInBounds_toArray, List.set_cons_zero, List.set_cons_succ])
  refine wpAnyH_take (i := 49) (oi := { dst := some 124, op := Op.pick (Operand.tmp 102) (Operand.const (Value.bool true)) (Operand.tmp 123), type := 4, pos := "extra.go:21", after := #[{ on := 27, ground := Ground.data }, { on := 48, ground := Ground.data }, { on := 24, ground := Ground.guard }], guard := some (24, true) }) (v := ?hv49) rfl (by kernel_rfl) (by kernel_rfl) (by kernel_rfl) (fun _ _ _ h => h) (Or.inl ⟨by rfl, ?hy49⟩) (by assumption) ?hr49
  case hy49 => (intro w hSw; (try dsimp only at hSw); go_simp; (try with_reducible rfl))
  (try simp only [Act.put, List.setIfInBounds_toArray, List.set_cons_zero, List.set_cons_succ])
  refine wpAnyH_take (i := 50) (oi := { dst := some 125, op := Op.pick (Operand.tmp 99) (Operand.tmp 124) (Operand.const (Value.bool false)), type := 4, pos := "extra.go:21", after := #[{ on := 24, ground := Ground.data }, { on := 49, ground := Ground.data }], guard := none }) (v := ?hv50) rfl (by kernel_rfl) (by kernel_rfl) (by kernel_rfl) (fun _ _ _ h => h) (Or.inl ⟨by rfl, ?hy50⟩) (by assumption) ?hr50
  case hy50 => (intro w hSw; (try dsimp only at hSw); go_simp; (try with_reducible rfl))
  (try simp only [Act.put, List.setIfInBounds_toArray, List.set_cons_zero, List.set_cons_succ])
  refine wpAnyH_take (i := 51) (oi := { dst := some 126, op := Op.move (Operand.tmp 125), type := 4, pos := "extra.go:21", after := #[{ on := 50, ground := Ground.data }, { on := 47, ground := Ground.chain }], guard := none }) (v := ?hv51) rfl (by kernel_rfl) (by kernel_rfl) (by kernel_rfl) (fun _ _ _ h => h) (Or.inl ⟨by rfl, ?hy51⟩) (by assumption) ?hr51
  case hy51 => (intro w hSw; (try dsimp only at hSw); go_simp; (try with_reducible rfl))
  (try simp only [Act.put, List.setIfInBounds_toArray, List.set_cons_zero, List.set_cons_succ])
  refine wpAnyH_take (i := 52) (oi := { dst := some 127, op := Op.load 25 (Operand.tmp 6), type := 25, pos := "extra.go:21", after := #[{ on := 51, ground := Ground.guard }], guard := some (51, true) }) (v := ?hv52) rfl (by kernel_rfl) (by kernel_rfl) (by kernel_rfl) (fun _ _ _ h => h) (Or.inl ⟨by rfl, ?hy52⟩) (by assumption) ?hr52
  case hy52 => (intro w hSw; (try dsimp only at hSw); go_simp; (try with_reducible rfl))
  (try simp only [Act.put, List.setIfInBounds_toArray, List.set_cons_zero, List.set_cons_succ])
  refine wpAnyH_take (i := 53) (oi := { dst := some 128, op := Op.move (Operand.tmp 4), type := 30, pos := "extra.go:21", after := #[{ on := 51, ground := Ground.guard }], guard := some (51, true) }) (v := ?hv53) rfl (by kernel_rfl) (by kernel_rfl) (by kernel_rfl) (fun _ _ _ h => h) (Or.inl ⟨by rfl, ?hy53⟩) (by assumption) ?hr53
  case hy53 => (intro w hSw; (try dsimp only at hSw); go_simp; (try with_reducible rfl))
  (try simp only [Act.put, List.setIfInBounds_toArray, List.set_cons_zero, List.set_cons_succ])
  refine wpAnyH_ready (rs := [54]) (by kernel_rfl) (by simp) ?_
  refine AllReadyH.cons (o := { dst := some 129, op := Op.call { callee := Callee.value (Operand.func 23), args := #[Operand.tmp 127, Operand.const (Value.int IntKind.i64 0), Operand.tmp 128], argTypes := #[25, 3, 30] }, type := 4, pos := "extra.go:21", after := #[{ on := 52, ground := Ground.data }, { on := 53, ground := Ground.data }, { on := 51, ground := Ground.chain }, { on := 51, ground := Ground.guard }], guard := some (51, true) }) rfl (fun K hK => ?_) AllReadyH.nil
  go_simp
  (go_at_call 23; (with_reducible refine (HFz.out _ (below_then HB8.out HB8.out.size G10.out)).mono ?_); rintro e w14 ⟨rfl, hb14⟩; have G14 := Aside0.mk (below_then G10.out G10.out.size hb14))
  go_wp2_with fail
  refine hK.out _ _ ?_ (fun hH54 => ?_)
  · (try dsimp only)
    exact HX.out _ (below_then E8.out E8.out.size G14.out)
  clear hK K hH14
  (try simp only [Act.put, List.setIfInBounds_toArray, List.set_cons_zero, List.set_cons_succ])
  refine wpAnyH_take (i := 55) (oi := { dst := some 130, op := Op.unOp UnOp.not 4 (Operand.tmp 129), type := 4, pos := "extra.go:21", after := #[{ on := 54, ground := Ground.data }, { on := 51, ground := Ground.guard }], guard := some (51, true) }) (v := ?hv55) rfl (by kernel_rfl) (by kernel_rfl) (by kernel_rfl) (fun _ _ _ h => h) (Or.inl ⟨by rfl, ?hy55⟩) (by assumption) ?hr55
  case hy55 => (intro w hSw; (try dsimp only at hSw); go_simp; (try with_reducible rfl))
  (try simp only [Act.put, List.setIfInBounds_toArray, List.set_cons_zero, List.set_cons_succ])
  refine wpAnyH_take (i := 56) (oi := { dst := some 131, op := Op.pick (Operand.tmp 126) (Operand.tmp 130) (Operand.const (Value.bool false)), type := 4, pos := "extra.go:21", after := #[{ on := 51, ground := Ground.data }, { on := 55, ground := Ground.data }], guard := none }) (v := ?hv56) rfl (by kernel_rfl) (by kernel_rfl) (by kernel_rfl) (fun _ _ _ h => h) (Or.inl ⟨by rfl, ?hy56⟩) (by assumption) ?hr56
  case hy56 => (intro w hSw; (try dsimp only at hSw); go_simp; (try with_reducible rfl))
  (try simp only [Act.put, List.setIfInBounds_toArray, List.set_cons_zero, List.set_cons_succ])
  refine wpAnyH_take (i := 57) (oi := { dst := some 132, op := Op.move (Operand.tmp 131), type := 4, pos := "extra.go:21", after := #[{ on := 56, ground := Ground.data }, { on := 54, ground := Ground.chain }], guard := none }) (v := ?hv57) rfl (by kernel_rfl) (by kernel_rfl) (by kernel_rfl) (fun _ _ _ h => h) (Or.inl ⟨by rfl, ?hy57⟩) (by assumption) ?hr57
  case hy57 => (intro w hSw; (try dsimp only at hSw); go_simp; (try with_reducible rfl))
  (try simp only [Act.put, List.setIfInBounds_toArray, List.set_cons_zero, List.set_cons_succ])
  refine wpAnyH_take (i := 59) (oi := { dst := some 134, op := Op.move (Operand.tmp 1), type := 22, pos := "extra.go:21", after := #[{ on := 57, ground := Ground.guard }], guard := some (57, true) }) (v := ?hv59) rfl (by kernel_rfl) (by kernel_rfl) (by kernel_rfl) (fun _ _ _ h => h) (Or.inl ⟨by rfl, ?hy59⟩) (by assumption) ?hr59
  case hy59 => (intro w hSw; (try dsimp only at hSw); go_simp; (try with_reducible rfl))
  (try simp only [Act.put, List.setIfInBounds_toArray, List.set_cons_zero, List.set_cons_succ])
  refine wpAnyH_take (i := 61) (oi := { dst := some 136, op := Op.move (Operand.tmp 2), type := 22, pos := "extra.go:21", after := #[{ on := 57, ground := Ground.guard }], guard := some (57, true) }) (v := ?hv61) rfl (by kernel_rfl) (by kernel_rfl) (by kernel_rfl) (fun _ _ _ h => h) (Or.inl ⟨by rfl, ?hy61⟩) (by assumption) ?hr61
  case hy61 => (intro w hSw; (try dsimp only at hSw); go_simp; (try with_reducible rfl))
  (try simp only [Act.put, List.setIfInBounds_toArray, List.set_cons_zero, List.set_cons_succ])
  refine wpAnyH_take (i := 64) (oi := { dst := some 139, op := Op.move (Operand.tmp 1), type := 22, pos := "extra.go:21", after := #[{ on := 57, ground := Ground.guard }], guard := some (57, true) }) (v := ?hv64) rfl (by kernel_rfl) (by kernel_rfl) (by kernel_rfl) (fun _ _ _ h => h) (Or.inl ⟨by rfl, ?hy64⟩) (by assumption) ?hr64
  case hy64 => (intro w hSw; (try dsimp only at hSw); go_simp; (try with_reducible rfl))
  (try simp only [Act.put, List.setIfInBounds_toArray, List.set_cons_zero, List.set_cons_succ])
  refine wpAnyH_ready (rs := [58]) (by kernel_rfl) (by simp) ?_
  refine AllReadyH.cons (o := { dst := some 133, op := Op.buildSlice 22 0 #[], type := 22, pos := "extra.go:21", after := #[{ on := 57, ground := Ground.guard }], guard := some (57, true) }) rfl (fun K hK => ?_) AllReadyH.nil
  go_simp
  refine hK.out _ _ ?_ (fun hH58 => ?_)
  · (try dsimp only)
    exact HX.out _ (below_then E8.out E8.out.size (below_alloc G14.out _))
  clear hK K hH54
  (try simp only [Act.put, List.setIfInBounds_toArray, List.set_cons_zero, List.set_cons_succ])
  refine wpAnyH_ready (rs := [60]) (by kernel_rfl) (by simp) ?_
  refine AllReadyH.cons (o := { dst := some 135, op := Op.call { callee := Callee.builtin Builtin.append, args := #[Operand.tmp 133, Operand.tmp 134], argTypes := #[22, 22] }, type := 22, pos := "extra.go:21", after := #[{ on := 58, ground := Ground.data }, { on := 59, ground := Ground.data }, { on := 57, ground := Ground.chain }, { on := 57, ground := Ground.guard }], guard := some (57, true) }) rfl (fun K hK => ?_) AllReadyH.nil
  (refine step_app k54 (by rfl) _ _ 22 54 _ 56 rfl Try.underlying22 info54 rfl (by decide) (by decide) (.slice (some ⟨w14.heap.size, 0, none⟩) 0 0) [] p A1 p.length c1 (by simp [Act.eval, Act.put]) (by simp [Act.eval, Act.put]) (AppV.none_ k54 54 G14.out) HR1c.out (by have := N1.out; simp; omega) ?_; intro v15 w15 hv15; have AV15 := Aside0.mk hv15; have G15 := Aside0.mk hv15.1; clear hv15)
  refine hK.out _ _ ?_ (fun hH60 => ?_)
  · (try dsimp only)
    exact HX.out _ (below_then E8.out E8.out.size G15.out)
  clear hK K hH58
  (try simp only [Act.put, List.setIfInBounds_toArray, List.set_cons_zero, List.set_cons_succ])
  refine wpAnyH_ready (rs := [62]) (by kernel_rfl) (by simp) ?_
  refine AllReadyH.cons (o := { dst := some 137, op := Op.call { callee := Callee.builtin Builtin.append, args := #[Operand.tmp 135, Operand.tmp 136], argTypes := #[22, 22] }, type := 22, pos := "extra.go:21", after := #[{ on := 60, ground := Ground.data }, { on := 61, ground := Ground.data }, { on := 60, ground := Ground.chain }, { on := 57, ground := Ground.guard }], guard := some (57, true) }) rfl (fun K hK => ?_) AllReadyH.nil
  (refine step_app k54 (by rfl) _ _ 22 54 _ 56 rfl Try.underlying22 info54 rfl (by decide) (by decide) v15 _ q A2 q.length c2 (by simp [Act.eval, Act.put]) (by simp [Act.eval, Act.put]) AV15.out HR2c.out (by have := N1.out; simp; omega) ?_; intro v16 w16 hv16; obtain ⟨A7, c7, rfl, hc7, hC7⟩ := hv16.C; simp only [List.nil_append, List.length_append] at hC7 hc7; have HC7 := Aside0.mk hC7; have Hc7 := Aside0.mk hc7; have G16 := Aside0.mk hv16.1; clear hv16 hC7 hc7)
  refine hK.out _ _ ?_ (fun hH62 => ?_)
  · (try dsimp only)
    exact HX.out _ (below_then E8.out E8.out.size G16.out)
  clear hK K hH60
  (try simp only [Act.put, List.setIfInBounds_toArray, List.set_cons_zero, List.set_cons_succ])
  refine wpAnyH_ready (rs := [63]) (by kernel_rfl) (by simp) ?_
  refine AllReadyH.cons (o := { dst := some 138, op := Op.call { callee := Callee.value (Operand.func 24), args := #[Operand.tmp 137], argTypes := #[22] }, type := 4, pos := "extra.go:21", after := #[{ on := 62, ground := Ground.data }, { on := 62, ground := Ground.chain }, { on := 57, ground := Ground.guard }], guard := some (57, true) }) rfl (fun K hK => ?_) AllReadyH.nil
  go_simp
  (go_at_call 24; (with_reducible refine (HPb.out _ A7 c7 HC7.out Hc7.out).mono ?_); rintro e w17 ⟨rfl, hb17⟩; have G17 := Aside0.mk (below_then G16.out G16.out.size hb17))
  go_wp2_with fail
  refine hK.out _ _ ?_ (fun hH63 => ?_)
  · (try dsimp only)
    exact HX.out _ (below_then E8.out E8.out.size G17.out)
  clear hK K hH62
  (try simp only [Act.put, List.setIfInBounds_toArray, List.set_cons_zero, List.set_cons_succ])
  refine wpAnyH_ready (rs := [65]) (by kernel_rfl) (by simp) ?_
  refine AllReadyH.cons (o := { dst := some 140, op := Op.call { callee := Callee.value (Operand.func 24), args := #[Operand.tmp 139], argTypes := #[22] }, type := 4, pos := "extra.go:21", after := #[{ on := 64, ground := Ground.data }, { on := 63, ground := Ground.chain }, { on := 57, ground := Ground.guard }], guard := some (57, true) }) rfl (fun K hK => ?_) AllReadyH.nil
  go_simp
  (go_at_call 24; (with_reducible refine (HPp.out _ (below_then HB8.out HB8.out.size G17.out)).mono ?_); rintro e w18 ⟨rfl, hb18⟩; have G18 := Aside0.mk (below_then G17.out G17.out.size hb18))
  go_wp2_with fail
  refine hK.out _ _ ?_ (fun hH65 => ?_)
  · (try dsimp only)
    exact HX.out _ (below_then E8.out E8.out.size G18.out)
  clear hK K hH63
  (try simp only [Act.put, List.setIfInBounds_toArray, List.set_cons_zero, List.set_cons_succ])
  refine wpAnyH_take (i := 66) (oi := { dst := some 141, op := Op.move (Operand.tmp 140), type := 4, pos := "extra.go:21", after := #[{ on := 65, ground := Ground.data }, { on := 65, ground := Ground.chain }, { on := 57, ground := Ground.guard }], guard := some (57, true) }) (v := ?hv66) rfl (by kernel_rfl) (by kernel_rfl) (by kernel_rfl) (fun _ _ _ h => h) (Or.inl ⟨by rfl, ?hy66⟩) (by assumption) ?hr66
  case hy66 => (intro w hSw; (try dsimp only at hSw); go_simp; (try with_reducible rfl))
  (try simp only [Act.put, List.setIfInBounds_toArray, List.set_cons_zero, List.set_cons_succ])
  refine wpAnyH_take (i := 67) (oi := { dst := some 142, op := Op.move (Operand.tmp 2), type := 22, pos := "extra.go:21", after := #[{ on := 66, ground := Ground.guard }], guard := some (66, true) }) (v := ?hv67) rfl (by kernel_rfl) (by kernel_rfl) (by kernel_rfl) (fun _ _ _ h => h) (Or.inl ⟨by rfl, ?hy67⟩) (by assumption) ?hr67
  case hy67 => (intro w hSw; (try dsimp only at hSw); go_simp; (try with_reducible rfl))
  (try simp only [Act.put, List.setIfInBounds_toArray, List.set_cons_zero, List.set_cons_succ])
  refine wpAnyH_ready (rs := [68]) (by kernel_rfl) (by simp) ?_
  refine AllReadyH.cons (o := { dst := some 143, op := Op.call { callee := Callee.value (Operand.func 24), args := #[Operand.tmp 142], argTypes := #[22] }, type := 4, pos := "extra.go:21", after := #[{ on := 67, ground := Ground.data }, { on := 66, ground := Ground.chain }, { on := 66, ground := Ground.guard }], guard := some (66, true) }) rfl (fun K hK => ?_) AllReadyH.nil
  go_simp
  (go_at_call 24; (with_reducible refine (HPq.out _ (below_then HB8.out HB8.out.size G18.out)).mono ?_); rintro e w19 ⟨rfl, hb19⟩; have G19 := Aside0.mk (below_then G18.out G18.out.size hb19))
  go_wp2_with fail
  refine hK.out _ _ ?_ (fun hH68 => ?_)
  · (try dsimp only)
    exact HX.out _ (below_then E8.out E8.out.size G19.out)
  clear hK K hH65
  (try simp only [Act.put, List.setIfInBounds_toArray, List.set_cons_zero, List.set_cons_succ])
  refine wpAnyH_take (i := 69) (oi := { dst := some 144, op := Op.pick (Operand.tmp 141) (Operand.tmp 143) (Operand.const (Value.bool false)), type := 4, pos := "extra.go:21", after := #[{ on := 66, ground := Ground.data }, { on := 68, ground := Ground.data }, { on := 57, ground := Ground.guard }], guard := some (57, true) }) (v := ?hv69) rfl (by kernel_rfl) (by kernel_rfl) (by kernel_rfl) (fun _ _ _ h => h) (Or.inl ⟨by rfl, ?hy69⟩) (by assumption) ?hr69
  case hy69 => (intro w hSw; (try dsimp only at hSw); go_simp; (try with_reducible rfl))
  (try simp only [Act.put, List.setIfInBounds_toArray, List.set_cons_zero, List.set_cons_succ])
  refine wpAnyH_take (i := 70) (oi := { dst := some 145, op := Op.binOp BinOp.eql 4 (Operand.tmp 138) (Operand.tmp 144) 4, type := 4, pos := "extra.go:21", after := #[{ on := 63, ground := Ground.data }, { on := 69, ground := Ground.data }, { on := 57, ground := Ground.guard }], guard := some (57, true) }) (v := ?hv70) rfl (by kernel_rfl) (by kernel_rfl) (by kernel_rfl) (fun _ _ _ h => h) (Or.inl ⟨by rfl, ?hy70⟩) (by assumption) ?hr70
  case hy70 => (intro w hSw; (try dsimp only at hSw); go_simp; (try with_reducible rfl))
  (try simp only [Act.put, List.setIfInBounds_toArray, List.set_cons_zero, List.set_cons_succ])
  refine wpAnyH_take (i := 71) (oi := { dst := some 146, op := Op.pick (Operand.tmp 132) (Operand.tmp 145) (Operand.const (Value.bool false)), type := 4, pos := "extra.go:21", after := #[{ on := 57, ground := Ground.data }, { on := 70, ground := Ground.data }], guard := none }) (v := ?hv71) rfl (by kernel_rfl) (by kernel_rfl) (by kernel_rfl) (fun _ _ _ h => h) (Or.inl ⟨by rfl, ?hy71⟩) (by assumption) ?hr71
  case hy71 => (intro w hSw; (try dsimp only at hSw); go_simp; (try with_reducible rfl))
  (try simp only [Act.put, List.setIfInBounds_toArray, List.set_cons_zero, List.set_cons_succ])
  refine wpAnyH_take (i := 72) (oi := { dst := some 12, op := Op.assign (Operand.tmp 146), type := 4, pos := "extra.go:21", after := #[{ on := 71, ground := Ground.data }, { on := 68, ground := Ground.chain }, { on := 0, ground := Ground.phase }, { on := 1, ground := Ground.phase }, { on := 2, ground := Ground.phase }, { on := 3, ground := Ground.phase }, { on := 4, ground := Ground.phase }, { on := 5, ground := Ground.phase }, { on := 6, ground := Ground.phase }, { on := 7, ground := Ground.phase }, { on := 8, ground := Ground.phase }, { on := 9, ground := Ground.phase }, { on := 10, ground := Ground.phase }, { on := 11, ground := Ground.phase }, { on := 12, ground := Ground.phase }, { on := 13, ground := Ground.phase }, { on := 14, ground := Ground.phase }, { on := 15, ground := Ground.phase }, { on := 16, ground := Ground.phase }, { on := 17, ground := Ground.phase }, { on := 18, ground := Ground.phase }, { on := 19, ground := Ground.phase }, { on := 20, ground := Ground.phase }, { on := 21, ground := Ground.phase }, { on := 22, ground := Ground.phase }, { on := 23, ground := Ground.phase }, { on := 24, ground := Ground.phase }, { on := 25, ground := Ground.phase }, { on := 26, ground := Ground.phase }, { on := 27, ground := Ground.phase }, { on := 28, ground := Ground.phase }, { on := 29, ground := Ground.phase }, { on := 30, ground := Ground.phase }, { on := 31, ground := Ground.phase }, { on := 32, ground := Ground.phase }, { on := 33, ground := Ground.phase }, { on := 34, ground := Ground.phase }, { on := 35, ground := Ground.phase }, { on := 36, ground := Ground.phase }, { on := 37, ground := Ground.phase }, { on := 38, ground := Ground.phase }, { on := 39, ground := Ground.phase }, { on := 40, ground := Ground.phase }, { on := 41, ground := Ground.phase }, { on := 42, ground := Ground.phase }, { on := 43, ground := Ground.phase }, { on := 44, ground := Ground.phase }, { on := 45, ground := Ground.phase }, { on := 46, ground := Ground.phase }, { on := 47, ground := Ground.phase }, { on := 48, ground := Ground.phase }, { on := 49, ground := Ground.phase }, { on := 50, ground := Ground.phase }, { on := 51, ground := Ground.phase }, { on := 52, ground := Ground.phase }, { on := 53, ground := Ground.phase }, { on := 54, ground := Ground.phase }, { on := 55, ground := Ground.phase }, { on := 56, ground := Ground.phase }, { on := 57, ground := Ground.phase }, { on := 58, ground := Ground.phase }, { on := 59, ground := Ground.phase }, { on := 60, ground := Ground.phase }, { on := 61, ground := Ground.phase }, { on := 62, ground := Ground.phase }, { on := 63, ground := Ground.phase }, { on := 64, ground := Ground.phase }, { on := 65, ground := Ground.phase }, { on := 66, ground := Ground.phase }, { on := 67, ground := Ground.phase }, { on := 68, ground := Ground.phase }, { on := 69, ground := Ground.phase }, { on := 70, ground := Ground.phase }, { on := 71, ground := Ground.phase }], guard := none }) (v := ?hv72) rfl (by kernel_rfl) (by kernel_rfl) (by kernel_rfl) (fun _ _ _ h => h) (Or.inl ⟨by rfl, ?hy72⟩) (by assumption) ?hr72
  case hy72 => (intro w hSw; (try dsimp only at hSw); go_simp; (try with_reducible rfl))
  (try simp only [Act.put, List.setIfInBounds_toArray, List.set_cons_zero, List.set_cons_succ])
  refine wpAnyH_done (by kernel_rfl) ?_ _
  go_wp2
  go_ret
  refine ⟨?_, below_then HB8.out HB8.out.size G19.out⟩
  cases gq <;> rfl
set_option maxHeartbeats 16000000 in
set_option maxRecDepth 100000 in
theorem more_false_false (c : Cf) (A1 : Option Addr) (c1 : Nat) (p : List Ins) (A2 : Option Addr) (c2 : Nat) (q : List Ins) (w : Nat) (A4 : Option Addr) (c4 : Nat) (l : List Int) (cut : Nat) (W : World)
    (hr1 : Kd.C k54 W A1 p.length p) (hc1 : p.length ≤ c1) (hr2 : Kd.C k54 W A2 q.length q) (hc2 : q.length ≤ c2) (hr4 : Kd.C (Kd.int .i64) W A4 l.length l) (hc4 : l.length ≤ c4)
    (b1 : p.length ≤ 60) (b2 : q.length ≤ 60) (b3 : l.length ≤ 300) (b4 : cut ≤ l.length) (b5 : 1 ≤ w) (b6 : w ≤ 300) (b7 : c.f4 ≤ 9223372036854775807) (hfv : fairB l w (manyOf c.f4 c.f11).toNat 0 (l.length + 1 - w) = false) (hgp : bound_Plain.g p = false) :
    Calls Try.prog 5 #[.agg #[.int .i64 c.f0, .int .i64 c.f1, .int .i64 c.f2, .int .i64 c.f3, .int .i64 c.f4, .int .i64 c.f5, .int .i64 c.f6, .int .i64 c.f7, .int .i64 c.f8, .int .i64 c.f9, .int .i64 c.f10, .int .i64 c.f11], .slice A1 p.length c1, .slice A2 q.length c2, .int .i64 (w : Int), .slice A4 l.length c4, .int .i64 (cut : Int)] W fun e w' => e = .returned (.bool true) ∧ Below W.heap.size W w' := by
  have hu25 := Try.underlying25
  obtain ⟨x, y, hx, hy, hxy⟩ := more_win c.f0 c.f1 c.f2 c.f3 c.f4 c.f5 c.f6 c.f7 c.f8 c.f9 c.f10 c.f11 p q b1 b2
  have HF := Aside0.mk (fun W => ltklaw21_first.calls 60 true W first_at)
  have HSp := Aside0.mk (fun V (hb : Below W.heap.size W V) => bound_Steps.calls 200 A1 c1 p (stS p) V (Kd.C_below hr1 hb) hc1 (steps_f p (by omega) (by omega)))
  have HSq := Aside0.mk (fun V (hb : Below W.heap.size W V) => bound_Steps.calls 200 A2 c2 q (stS q) V (Kd.C_below hr2 hb) hc2 (steps_f q (by omega) (by omega)))
  have HSb0 := (fun V A c hr hc => bound_Steps.calls 200 A c (p ++ q) (stS (p ++ q)) V hr hc (steps_f (p ++ q) (by simp; omega) (by simp; omega)))
  simp only [List.length_append] at HSb0
  have HSb := Aside0.mk HSb0
  clear HSb0
  have HWx := Aside0.mk (fun V A hr => bound_Windows.calls 4000 c.f0 c.f1 c.f2 c.f3 c.f4 c.f5 c.f6 c.f7 c.f8 c.f9 c.f10 c.f11 A 1 [[p]] x V hr (Nat.le_refl _) hx)
  have HWy := Aside0.mk (fun V A hr => bound_Windows.calls 4000 c.f0 c.f1 c.f2 c.f3 c.f4 c.f5 c.f6 c.f7 c.f8 c.f9 c.f10 c.f11 A 1 [[p, q]] y V hr (Nat.le_refl _) hy)
  have HPp := Aside0.mk (fun V (hb : Below W.heap.size W V) => bound_Plain.calls A1 c1 p _ V (Kd.C_below hr1 hb) hc1 rfl)
  have HPq := Aside0.mk (fun V (hb : Below W.heap.size W V) => bound_Plain.calls A2 c2 q _ V (Kd.C_below hr2 hb) hc2 rfl)
  have HPb0 := (fun V A c hr hc => bound_Plain.calls A c (p ++ q) _ V hr hc (congrArg some (plain_append p q)))
  simp only [List.length_append] at HPb0
  have HPb := Aside0.mk HPb0
  clear HPb0
  rw [hgp] at HPp HPb
  generalize hgq : bound_Plain.g q = gq at HPq HPb
  obtain ⟨kf, hf0⟩ := fair_ex c b7 w l b3 (by omega)
  rw [if_neg (by omega), hfv] at hf0
  have HF0 := Aside0.mk (fun V (hb : Below W.heap.size W V) => bound_Fair.calls kf c.f0 c.f1 c.f2 c.f3 c.f4 c.f5 c.f6 c.f7 c.f8 c.f9 c.f10 c.f11 (w : Int) A4 c4 l false V (Kd.C_below hr4 hb) hc4 hf0)
  obtain ⟨kz, hfz⟩ := fair_ex c b7 0 l b3 (by omega)
  rw [if_pos rfl] at hfz
  have HFz := Aside0.mk (fun V (hb : Below W.heap.size W V) => bound_Fair.calls kz c.f0 c.f1 c.f2 c.f3 c.f4 c.f5 c.f6 c.f7 c.f8 c.f9 c.f10 c.f11 0 A4 c4 l false V (Kd.C_below hr4 hb) hc4 hfz)
  have n1 : 8 ≤ stS p := by unfold stS; have := (sumS_in p).1; omega
  have n2 : stS p ≤ 2408 := by unfold stS; have := (sumS_in p).2; omega
  have n3 : 8 ≤ stS q := by unfold stS; have := (sumS_in q).1; omega
  have n4 : stS q ≤ 2408 := by unfold stS; have := (sumS_in q).2; omega
  have nb := steps_append p q
  rw [nb] at HSb
  generalize stS p = sp at n1 n2 HSp HSb nb
  generalize stS q = sq at n3 n4 HSq HSb nb
  have N1 := Aside0.mk (And.intro b1 b2)
  have t1 : decide ((p.length : Int) > 60) = false := decide_eq_false (by omega)
  have t1' : decide (60 < p.length) = false := decide_eq_false (by omega)
  have t2 : decide ((q.length : Int) > 60) = false := decide_eq_false (by omega)
  have t2' : decide (60 < q.length) = false := decide_eq_false (by omega)
  have t3 : decide ((l.length : Int) > 300) = false := decide_eq_false (by omega)
  have t3' : decide (300 < l.length) = false := decide_eq_false (by omega)
  have t5 : decide ((cut : Int) > (l.length : Int)) = false := decide_eq_false (by omega)
  have t5' : decide (l.length < cut) = false := decide_eq_false (by omega)
  have t6 : decide ((w : Int) < 1) = false := decide_eq_false (by omega)
  have t6' : decide (w < 1) = false := decide_eq_false (by omega)
  have t6n : decide (w = 0) = false := decide_eq_false (by omega)
  have t7 : decide ((w : Int) > 300) = false := decide_eq_false (by omega)
  have t7' : decide (300 < w) = false := decide_eq_false (by omega)
  have n5 : (0 : Int) ≤ (cut : Int) := by omega
  have n6 : (cut : Int) ≤ (l.length : Int) := by omega
  have n7 : (w : Int) ≤ 300 := by omega
  have n8 : (0 : Int) ≤ (w : Int) := by omega
  have HR1 := Aside0.mk hr1
  have HR2 := Aside0.mk hr2
  have HC1 := Aside0.mk hc1
  have HC2 := Aside0.mk hc2
  have HXY := Aside0.mk hxy
  clear hr1 hc1 hr2 hc2 hr4 hc4 b1 b2 b3 b4 b5 b6 b7 hfv hf0 hfz hx hy hxy nb hgp hgq
  go_enter Try.func5, Try.ntmps5
  go_wp2_with fail
  refine (HF.out _).mono ?_
  rintro e w1 ⟨rfl, hb⟩
  have BK := Aside0.mk (blk_below (blk_new W (.cells #[.int .i64 c.f0, .int .i64 c.f1, .int .i64 c.f2, .int .i64 c.f3, .int .i64 c.f4, .int .i64 c.f5, .int .i64 c.f6, .int .i64 c.f7, .int .i64 c.f8, .int .i64 c.f9, .int .i64 c.f10, .int .i64 c.f11] 25)) hb)
  have HB1 := Aside0.mk (below_then (below_alloc (Below.refl _ _) _) (below_alloc (Below.refl _ _) _).size hb)
  clear hb
  generalize hg : W.heap.size = g at BK
  have HG := Aside0.mk hg
  have HX := Aside0.mk (fun V (hb : Below w1.heap.size w1 V) => (show V.cell? ⟨g, 0, none⟩ = some (.int .i64 c.f0) ∧ V.cell? ⟨g, 1, none⟩ = some (.int .i64 c.f1) ∧ V.cell? ⟨g, 2, none⟩ = some (.int .i64 c.f2) ∧ V.cell? ⟨g, 3, none⟩ = some (.int .i64 c.f3) ∧ V.cell? ⟨g, 4, none⟩ = some (.int .i64 c.f4) ∧ V.cell? ⟨g, 5, none⟩ = some (.int .i64 c.f5) ∧ V.cell? ⟨g, 6, none⟩ = some (.int .i64 c.f6) ∧ V.cell? ⟨g, 7, none⟩ = some (.int .i64 c.f7) ∧ V.cell? ⟨g, 8, none⟩ = some (.int .i64 c.f8) ∧ V.cell? ⟨g, 9, none⟩ = some (.int .i64 c.f9) ∧ V.cell? ⟨g, 10, none⟩ = some (.int .i64 c.f10) ∧ V.cell? ⟨g, 11, none⟩ = some (.int .i64 c.f11) from by
    have h := (hb.block g (Array.getElem?_eq_some_iff.1 BK.out).1).trans BK.out
    exact ⟨(blk_cell h 0).trans rfl, (blk_cell h 1).trans rfl, (blk_cell h 2).trans rfl, (blk_cell h 3).trans rfl, (blk_cell h 4).trans rfl, (blk_cell h 5).trans rfl, (blk_cell h 6).trans rfl, (blk_cell h 7).trans rfl, (blk_cell h 8).trans rfl, (blk_cell h 9).trans rfl, (blk_cell h 10).trans rfl, (blk_cell h 11).trans rfl⟩))
  clear hg
  go_wp2_with fail
  (try rw [HG.out])
  refine (HSp.out _ HB1.out).mono ?_
  rintro e w2 ⟨rfl, hb⟩
  have E2 := Aside0.mk hb
  have HB2 := Aside0.mk (below_then HB1.out HB1.out.size hb)
  clear hb
  have AV0 := Aside0.mk (AppV.none_ k54 54 (Below.refl w2.heap.size w2))
  have HR1b := Aside0.mk (Kd.C_below HR1.out HB2.out)
  have HR2b := Aside0.mk (Kd.C_below HR2.out HB2.out)
  go_wp2_with (at_builtin; refine wpList_app k54 rfl _ _ 22 54 _ 56 rfl Try.underlying22 info54 rfl (by decide) (by decide) (.slice (some ⟨w2.heap.size, 0, none⟩) 0 0) [] p A1 p.length c1 (by simp [Act.eval, Act.put]) (by simp [Act.eval, Act.put]) AV0.out HR1b.out (by have := N1.out; simp; omega) ?_)
  intro v3 w3 hv3
  have AV3 := Aside0.mk hv3
  clear hv3
  go_wp2_with (at_builtin; refine wpList_app k54 rfl _ _ 22 54 _ 56 rfl Try.underlying22 info54 rfl (by decide) (by decide) v3 _ q A2 q.length c2 (by simp [Act.eval, Act.put]) (by simp [Act.eval, Act.put]) AV3.out HR2b.out (by have := N1.out; simp; omega) ?_)
  intro v4 w4 hv4
  obtain ⟨A6, c6, rfl, hc6, hC6⟩ := hv4.C
  simp only [List.nil_append, List.length_append] at hC6 hc6
  have E4 := Aside0.mk (below_then E2.out E2.out.size hv4.1)
  have HC6 := Aside0.mk hC6
  have Hc6 := Aside0.mk hc6
  clear hv4 hC6 hc6
  go_wp2_with fail
  refine (HSb.out _ A6 c6 HC6.out Hc6.out).mono ?_
  rintro e w5 ⟨rfl, hb⟩
  have E5 := Aside0.mk (below_then E4.out E4.out.size hb)
  have HB5 := Aside0.mk (below_then HB1.out HB1.out.size E5.out)
  clear hb AV0 AV3 HR1b HR2b E4 HC6 Hc6
  obtain ⟨x0, x1, x2, x3, x4, x5, x6, x7, x8, x9, x10, x11⟩ := HX.out _ E5.out
  go_wp2_with fail
  refine (HWx.out _ _ (ltklaw21_BoundPolicies.arg (g := w5.heap.size) (by simp) (blk_new w5 _) (Kd.C_alloc (Kd.C_below HR1.out HB5.out) _) HC1.out)).mono ?_
  rintro e w6 ⟨rfl, hb⟩
  have E6 := Aside0.mk (below_then (below_alloc (below_alloc E5.out _) _) (below_alloc (below_alloc E5.out _) _).size hb)
  have HB6 := Aside0.mk (below_then HB1.out HB1.out.size E6.out)
  clear hb E5 HB5 x0 x1 x2 x3 x4 x5 x6 x7 x8 x9 x10 x11
  obtain ⟨x0, x1, x2, x3, x4, x5, x6, x7, x8, x9, x10, x11⟩ := HX.out _ E6.out
  go_wp2_with fail
  refine (HWy.out _ _ (arg2 (g := w6.heap.size) (by simp) (blk_new w6 _) (Kd.C_alloc (Kd.C_below HR1.out HB6.out) _) HC1.out (Kd.C_alloc (Kd.C_below HR2.out HB6.out) _) HC2.out)).mono ?_
  rintro e w7 ⟨rfl, hb⟩
  have E7 := Aside0.mk (below_then (below_alloc (below_alloc E6.out _) _) (below_alloc (below_alloc E6.out _) _).size hb)
  have HB7 := Aside0.mk (below_then HB1.out HB1.out.size E7.out)
  clear hb E6 HB6 x0 x1 x2 x3 x4 x5 x6 x7 x8 x9 x10 x11
  obtain ⟨x0, x1, x2, x3, x4, x5, x6, x7, x8, x9, x10, x11⟩ := HX.out _ E7.out
  go_wp2_with fail
  refine (HF0.out _ HB7.out).mono ?_
  rintro e w8 ⟨rfl, hb⟩
  have E8 := Aside0.mk (below_then E7.out E7.out.size hb)
  have HB8 := Aside0.mk (below_then HB1.out HB1.out.size E8.out)
  clear hb E7 HB7 x0 x1 x2 x3 x4 x5 x6 x7 x8 x9 x10 x11
  obtain ⟨x0, x1, x2, x3, x4, x5, x6, x7, x8, x9, x10, x11⟩ := HX.out _ E8.out
  have HR1c := Aside0.mk (Kd.C_below HR1.out HB8.out)
  have HR2c := Aside0.mk (Kd.C_below HR2.out HB8.out)
  have T1 := Aside0.mk (show decide (sp ≥ 8) = true from decide_eq_true n1)
  have k1 : decide (sp ≥ 8) = true := decide_eq_true n1
  have k1' : decide (8 ≤ sp) = true := decide_eq_true n1
  have k2 : decide (sp + sq - 8 ≥ sp) = true := decide_eq_true (by omega)
  have k2' : decide (sp ≤ sp + sq - 8) = true := decide_eq_true (by omega)
  have k3 : decide (y ≥ x) = true := decide_eq_true HXY.out
  have k3' : decide (x ≤ y) = true := decide_eq_true HXY.out
  have k4 : IntKind.i64.wrap (sp + sq) = sp + sq := IntWalk.i64_in _ (by omega)
  have k5 : IntKind.i64.wrap (sp + sq - 8) = sp + sq - 8 := IntWalk.i64_in _ (by omega)
  have k6 : IntKind.i64.wrap ((w : Int) + 1) = (w : Int) + 1 := IntWalk.i64_in _ (by omega)
  have HBd := Aside0.mk (below_drew (Below.refl w8.heap.size w8))
  go_wp2_with fail

  simp only [List.append_eq, List.cons_append, List.nil_append]
  refine wp_region_held_drew (S := (fun W => W.cell? ⟨g, 0, none⟩ = some (.int .i64 c.f0) ∧ W.cell? ⟨g, 1, none⟩ = some (.int .i64 c.f1) ∧ W.cell? ⟨g, 2, none⟩ = some (.int .i64 c.f2) ∧ W.cell? ⟨g, 3, none⟩ = some (.int .i64 c.f3) ∧ W.cell? ⟨g, 4, none⟩ = some (.int .i64 c.f4) ∧ W.cell? ⟨g, 5, none⟩ = some (.int .i64 c.f5) ∧ W.cell? ⟨g, 6, none⟩ = some (.int .i64 c.f6) ∧ W.cell? ⟨g, 7, none⟩ = some (.int .i64 c.f7) ∧ W.cell? ⟨g, 8, none⟩ = some (.int .i64 c.f8) ∧ W.cell? ⟨g, 9, none⟩ = some (.int .i64 c.f9) ∧ W.cell? ⟨g, 10, none⟩ = some (.int .i64 c.f10) ∧ W.cell? ⟨g, 11, none⟩ = some (.int .i64 c.f11))) (by kernel_rfl) ?_ (fun hH => ?_)
  · exact HX.out _ (below_then E8.out E8.out.size HBd.out)
  refine wpAnyH_ready (rs := [0]) (by kernel_rfl) (by simp) ?_
  refine AllReadyH.cons (o := { dst := some 75, op := Op.call { callee := Callee.value (Operand.func 7), args := #[], argTypes := #[] }, type := 4, pos := "extra.go:21", after := #[], guard := none }) rfl (fun K hK => ?_) AllReadyH.nil
  go_simp
  (go_at_call 7; (with_reducible refine (HF.out _).mono ?_); rintro e w9 ⟨rfl, hb9⟩; have G9 := Aside0.mk (below_then HBd.out HBd.out.size hb9))
  go_wp2_with fail
  refine hK.out _ _ ?_ (fun hH0 => ?_)
  · (try dsimp only)
    exact HX.out _ (below_then E8.out E8.out.size G9.out)
  clear hK K hH
  (try simp only [Act.put, List.setIfInBounds_toArray, List.set_cons_zero, List.set_cons_succ])
  refine wpAnyH_take (i := 1) (oi := { dst := some 76, op := Op.move (Operand.tmp 75), type := 4, pos := "extra.go:21", after := #[{ on := 0, ground := Ground.data }, { on := 0, ground := Ground.chain }], guard := none }) (v := ?hv1) rfl (by kernel_rfl) (by kernel_rfl) (by kernel_rfl) (fun _ _ _ h => h) (Or.inl ⟨by rfl, ?hy1⟩) (by assumption) ?hr1
  case hy1 => (intro w hSw; (try dsimp only at hSw); go_simp; (try with_reducible rfl))
  (try simp only [Act.put, List.setIfInBounds_toArray, List.set_cons_zero, List.set_cons_succ])
  refine wpAnyH_take (i := 2) (oi := { dst := some 77, op := Op.move (Operand.tmp 13), type := 3, pos := "extra.go:21", after := #[{ on := 1, ground := Ground.guard }], guard := some (1, true) }) (v := ?hv2) rfl (by kernel_rfl) (by kernel_rfl) (by kernel_rfl) (fun _ _ _ h => h) (Or.inl ⟨by rfl, ?hy2⟩) (by assumption) ?hr2
  case hy2 => (intro w hSw; (try dsimp only at hSw); go_simp; (try with_reducible rfl))
  (try simp only [Act.put, List.setIfInBounds_toArray, List.set_cons_zero, List.set_cons_succ])
  refine wpAnyH_take (i := 3) (oi := { dst := some 78, op := Op.binOp BinOp.geq 3 (Operand.tmp 77) (Operand.const (Value.int IntKind.i64 8)) 3, type := 4, pos := "extra.go:21", after := #[{ on := 2, ground := Ground.data }, { on := 1, ground := Ground.guard }], guard := some (1, true) }) (v := ?hv3) rfl (by kernel_rfl) (by kernel_rfl) (by kernel_rfl) (fun _ _ _ h => h) (Or.inl ⟨by rfl, ?hy3⟩) (by assumption) ?hr3
  case hy3 => (intro w hSw; (try dsimp only at hSw); go_simp; (try with_reducible rfl))
  (try simp only [Act.put, List.setIfInBounds_toArray, List.set_cons_zero, List.set_cons_succ])
  refine wpAnyH_take (i := 4) (oi := { dst := some 79, op := Op.pick (Operand.tmp 76) (Operand.tmp 78) (Operand.const (Value.bool false)), type := 4, pos := "extra.go:21", after := #[{ on := 1, ground := Ground.data }, { on := 3, ground := Ground.data }], guard := none }) (v := ?hv4) rfl (by kernel_rfl) (by kernel_rfl) (by kernel_rfl) (fun _ _ _ h => h) (Or.inl ⟨by rfl, ?hy4⟩) (by assumption) ?hr4
  case hy4 => (intro w hSw; (try dsimp only at hSw); go_simp; (try with_reducible rfl))
  (try simp only [Act.put, List.setIfInBounds_toArray, List.set_cons_zero, List.set_cons_succ])
  refine wpAnyH_take (i := 5) (oi := { dst := some 80, op := Op.move (Operand.tmp 79), type := 4, pos := "extra.go:21", after := #[{ on := 4, ground := Ground.data }, { on := 1, ground := Ground.chain }], guard := none }) (v := ?hv5) rfl (by kernel_rfl) (by kernel_rfl) (by kernel_rfl) (fun _ _ _ h => h) (Or.inl ⟨by rfl, ?hy5⟩) (by assumption) ?hr5
  case hy5 => (intro w hSw; (try dsimp only at hSw); go_simp; (try with_reducible rfl))
  (try simp only [Act.put, List.setIfInBounds_toArray, List.set_cons_zero, List.set_cons_succ])
  refine wpAnyH_take (i := 6) (oi := { dst := some 81, op := Op.move (Operand.tmp 14), type := 3, pos := "extra.go:21", after := #[{ on := 5, ground := Ground.guard }], guard := some (5, true) }) (v := ?hv6) rfl (by kernel_rfl) (by kernel_rfl) (by kernel_rfl) (fun _ _ _ h => h) (Or.inl ⟨by rfl, ?hy6⟩) (by assumption) ?hr6
  case hy6 => (intro w hSw; (try dsimp only at hSw); go_simp; (try with_reducible rfl))
  (try simp only [Act.put, List.setIfInBounds_toArray, List.set_cons_zero, List.set_cons_succ])
  refine wpAnyH_take (i := 7) (oi := { dst := some 82, op := Op.move (Operand.tmp 13), type := 3, pos := "extra.go:21", after := #[{ on := 5, ground := Ground.guard }], guard := some (5, true) }) (v := ?hv7) rfl (by kernel_rfl) (by kernel_rfl) (by kernel_rfl) (fun _ _ _ h => h) (Or.inl ⟨by rfl, ?hy7⟩) (by assumption) ?hr7
  case hy7 => (intro w hSw; (try dsimp only at hSw); go_simp; (try with_reducible rfl))
  (try simp only [Act.put, List.setIfInBounds_toArray, List.set_cons_zero, List.set_cons_succ])
  refine wpAnyH_take (i := 8) (oi := { dst := some 83, op := Op.binOp BinOp.geq 3 (Operand.tmp 81) (Operand.tmp 82) 3, type := 4, pos := "extra.go:21", after := #[{ on := 6, ground := Ground.data }, { on := 7, ground := Ground.data }, { on := 5, ground := Ground.guard }], guard := some (5, true) }) (v := ?hv8) rfl (by kernel_rfl) (by kernel_rfl) (by kernel_rfl) (fun _ _ _ h => h) (Or.inl ⟨by rfl, ?hy8⟩) (by assumption) ?hr8
  case hy8 => (intro w hSw; (try dsimp only at hSw); go_simp; (try with_reducible rfl))
  (try simp only [Act.put, List.setIfInBounds_toArray, List.set_cons_zero, List.set_cons_succ])
  refine wpAnyH_take (i := 9) (oi := { dst := some 84, op := Op.pick (Operand.tmp 80) (Operand.tmp 83) (Operand.const (Value.bool false)), type := 4, pos := "extra.go:21", after := #[{ on := 5, ground := Ground.data }, { on := 8, ground := Ground.data }], guard := none }) (v := ?hv9) rfl (by kernel_rfl) (by kernel_rfl) (by kernel_rfl) (fun _ _ _ h => h) (Or.inl ⟨by rfl, ?hy9⟩) (by assumption) ?hr9
  case hy9 => (intro w hSw; (try dsimp only at hSw); go_simp; (try with_reducible rfl))
  (try simp only [Act.put, List.setIfInBounds_toArray, List.set_cons_zero, List.set_cons_succ])
  refine wpAnyH_take (i := 10) (oi := { dst := some 85, op := Op.move (Operand.tmp 84), type := 4, pos := "extra.go:21", after := #[{ on := 9, ground := Ground.data }, { on := 5, ground := Ground.chain }], guard := none }) (v := ?hv10) rfl (by kernel_rfl) (by kernel_rfl) (by kernel_rfl) (fun _ _ _ h => h) (Or.inl ⟨by rfl, ?hy10⟩) (by assumption) ?hr10
  case hy10 => (intro w hSw; (try dsimp only at hSw); go_simp; (try with_reducible rfl))
  (try simp only [Act.put, List.setIfInBounds_toArray, List.set_cons_zero, List.set_cons_succ])
  refine wpAnyH_take (i := 11) (oi := { dst := some 86, op := Op.move (Operand.tmp 14), type := 3, pos := "extra.go:21", after := #[{ on := 10, ground := Ground.guard }], guard := some (10, true) }) (v := ?hv11) rfl (by kernel_rfl) (by kernel_rfl) (by kernel_rfl) (fun _ _ _ h => h) (Or.inl ⟨by rfl, ?hy11⟩) (by assumption) ?hr11
  case hy11 => (intro w hSw; (try dsimp only at hSw); go_simp; (try with_reducible rfl))
  (try simp only [Act.put, List.setIfInBounds_toArray, List.set_cons_zero, List.set_cons_succ])
  refine wpAnyH_take (i := 12) (oi := { dst := some 87, op := Op.move (Operand.tmp 13), type := 3, pos := "extra.go:21", after := #[{ on := 10, ground := Ground.guard }], guard := some (10, true) }) (v := ?hv12) rfl (by kernel_rfl) (by kernel_rfl) (by kernel_rfl) (fun _ _ _ h => h) (Or.inl ⟨by rfl, ?hy12⟩) (by assumption) ?hr12
  case hy12 => (intro w hSw; (try dsimp only at hSw); go_simp; (try with_reducible rfl))
  (try simp only [Act.put, List.setIfInBounds_toArray, List.set_cons_zero, List.set_cons_succ])
  refine wpAnyH_take (i := 13) (oi := { dst := some 88, op := Op.move (Operand.tmp 2), type := 22, pos := "extra.go:21", after := #[{ on := 10, ground := Ground.guard }], guard := some (10, true) }) (v := ?hv13) rfl (by kernel_rfl) (by kernel_rfl) (by kernel_rfl) (fun _ _ _ h => h) (Or.inl ⟨by rfl, ?hy13⟩) (by assumption) ?hr13
  case hy13 => (intro w hSw; (try dsimp only at hSw); go_simp; (try with_reducible rfl))
  (try simp only [Act.put, List.setIfInBounds_toArray, List.set_cons_zero, List.set_cons_succ])
  refine wpAnyH_ready (rs := [14]) (by kernel_rfl) (by simp) ?_
  refine AllReadyH.cons (o := { dst := some 89, op := Op.call { callee := Callee.value (Operand.func 22), args := #[Operand.tmp 88], argTypes := #[22] }, type := 3, pos := "extra.go:21", after := #[{ on := 13, ground := Ground.data }, { on := 10, ground := Ground.chain }, { on := 10, ground := Ground.guard }], guard := some (10, true) }) rfl (fun K hK => ?_) AllReadyH.nil
  go_simp
  (go_at_call 22; (with_reducible refine (HSq.out _ (below_then HB8.out HB8.out.size G9.out)).mono ?_); rintro e w10 ⟨rfl, hb10⟩; have G10 := Aside0.mk (below_then G9.out G9.out.size hb10))
  go_wp2_with fail
  refine hK.out _ _ ?_ (fun hH14 => ?_)
  · (try dsimp only)
    exact HX.out _ (below_then E8.out E8.out.size G10.out)
  clear hK K hH0
  (try simp only [Act.put, List.setIfInBounds_toArray, List.set_cons_zero, List.set_cons_succ])
  refine wpAnyH_take (i := 15) (oi := { dst := some 90, op := Op.binOp BinOp.add 3 (Operand.tmp 87) (Operand.tmp 89) 3, type := 3, pos := "extra.go:21", after := #[{ on := 12, ground := Ground.data }, { on := 14, ground := Ground.data }, { on := 10, ground := Ground.guard }], guard := some (10, true) }) (v := ?hv15) rfl (by kernel_rfl) (by kernel_rfl) (by kernel_rfl) (fun _ _ _ h => h) (Or.inl ⟨by rfl, ?hy15⟩) (by assumption) ?hr15
  case hy15 => (intro w hSw; (try dsimp only at hSw); go_simp; (try with_reducible rfl))
  (try simp only [Act.put, List.setIfInBounds_toArray, List.set_cons_zero, List.set_cons_succ])
  refine wpAnyH_take (i := 16) (oi := { dst := some 91, op := Op.binOp BinOp.sub 3 (Operand.tmp 90) (Operand.const (Value.int IntKind.i64 8)) 3, type := 3, pos := "extra.go:21", after := #[{ on := 15, ground := Ground.data }, { on := 10, ground := Ground.guard }], guard := some (10, true) }) (v := ?hv16) rfl (by kernel_rfl) (by kernel_rfl) (by kernel_rfl) (fun _ _ _ h => h) (Or.inl ⟨by rfl, ?hy16⟩) (by assumption) ?hr16
  case hy16 => (intro w hSw; (try dsimp only at hSw); go_simp; (try with_reducible rfl))
  (try simp only [Act.put, List.setIfInBounds_toArray, List.set_cons_zero, List.set_cons_succ])
  refine wpAnyH_take (i := 17) (oi := { dst := some 92, op := Op.binOp BinOp.eql 3 (Operand.tmp 86) (Operand.tmp 91) 3, type := 4, pos := "extra.go:21", after := #[{ on := 11, ground := Ground.data }, { on := 16, ground := Ground.data }, { on := 10, ground := Ground.guard }], guard := some (10, true) }) (v := ?hv17) rfl (by kernel_rfl) (by kernel_rfl) (by kernel_rfl) (fun _ _ _ h => h) (Or.inl ⟨by rfl, ?hy17⟩) (by assumption) ?hr17
  case hy17 => (intro w hSw; (try dsimp only at hSw); go_simp; (try with_reducible rfl))
  (try simp only [Act.put, List.setIfInBounds_toArray, List.set_cons_zero, List.set_cons_succ])
  refine wpAnyH_take (i := 18) (oi := { dst := some 93, op := Op.pick (Operand.tmp 85) (Operand.tmp 92) (Operand.const (Value.bool false)), type := 4, pos := "extra.go:21", after := #[{ on := 10, ground := Ground.data }, { on := 17, ground := Ground.data }], guard := none }) (v := ?hv18) rfl (by kernel_rfl) (by kernel_rfl) (by kernel_rfl) (fun _ _ _ h => h) (Or.inl ⟨by rfl, ?hy18⟩) (by assumption) ?hr18
  case hy18 => (intro w hSw; (try dsimp only at hSw); go_simp; (try with_reducible rfl))
  (try simp only [Act.put, List.setIfInBounds_toArray, List.set_cons_zero, List.set_cons_succ])
  refine wpAnyH_take (i := 19) (oi := { dst := some 94, op := Op.move (Operand.tmp 93), type := 4, pos := "extra.go:21", after := #[{ on := 18, ground := Ground.data }, { on := 14, ground := Ground.chain }], guard := none }) (v := ?hv19) rfl (by kernel_rfl) (by kernel_rfl) (by kernel_rfl) (fun _ _ _ h => h) (Or.inl ⟨by rfl, ?hy19⟩) (by assumption) ?hr19
  case hy19 => (intro w hSw; (try dsimp only at hSw); go_simp; (try with_reducible rfl))
  (try simp only [Act.put, List.setIfInBounds_toArray, List.set_cons_zero, List.set_cons_succ])
  refine wpAnyH_take (i := 20) (oi := { dst := some 95, op := Op.move (Operand.tmp 16), type := 3, pos := "extra.go:21", after := #[{ on := 19, ground := Ground.guard }], guard := some (19, true) }) (v := ?hv20) rfl (by kernel_rfl) (by kernel_rfl) (by kernel_rfl) (fun _ _ _ h => h) (Or.inl ⟨by rfl, ?hy20⟩) (by assumption) ?hr20
  case hy20 => (intro w hSw; (try dsimp only at hSw); go_simp; (try with_reducible rfl))
  (try simp only [Act.put, List.setIfInBounds_toArray, List.set_cons_zero, List.set_cons_succ])
  refine wpAnyH_take (i := 21) (oi := { dst := some 96, op := Op.move (Operand.tmp 15), type := 3, pos := "extra.go:21", after := #[{ on := 19, ground := Ground.guard }], guard := some (19, true) }) (v := ?hv21) rfl (by kernel_rfl) (by kernel_rfl) (by kernel_rfl) (fun _ _ _ h => h) (Or.inl ⟨by rfl, ?hy21⟩) (by assumption) ?hr21
  case hy21 => (intro w hSw; (try dsimp only at hSw); go_simp; (try with_reducible rfl))
  (try simp only [Act.put, List.setIfInBounds_toArray, List.set_cons_zero, List.set_cons_succ])
  refine wpAnyH_take (i := 22) (oi := { dst := some 97, op := Op.binOp BinOp.geq 3 (Operand.tmp 95) (Operand.tmp 96) 3, type := 4, pos := "extra.go:21", after := #[{ on := 20, ground := Ground.data }, { on := 21, ground := Ground.data }, { on := 19, ground := Ground.guard }], guard := some (19, true) }) (v := ?hv22) rfl (by kernel_rfl) (by kernel_rfl) (by kernel_rfl) (fun _ _ _ h => h) (Or.inl ⟨by rfl, ?hy22⟩) (by assumption) ?hr22
  case hy22 => (intro w hSw; (try dsimp only at hSw); go_simp; (try with_reducible rfl))
  (try simp only [Act.put, List.setIfInBounds_toArray, List.set_cons_zero, List.set_cons_succ])
  refine wpAnyH_take (i := 23) (oi := { dst := some 98, op := Op.pick (Operand.tmp 94) (Operand.tmp 97) (Operand.const (Value.bool false)), type := 4, pos := "extra.go:21", after := #[{ on := 19, ground := Ground.data }, { on := 22, ground := Ground.data }], guard := none }) (v := ?hv23) rfl (by kernel_rfl) (by kernel_rfl) (by kernel_rfl) (fun _ _ _ h => h) (Or.inl ⟨by rfl, ?hy23⟩) (by assumption) ?hr23
  case hy23 => (intro w hSw; (try dsimp only at hSw); go_simp; (try with_reducible rfl))
  (try simp only [Act.put, List.setIfInBounds_toArray, List.set_cons_zero, List.set_cons_succ])
  refine wpAnyH_take (i := 24) (oi := { dst := some 99, op := Op.move (Operand.tmp 98), type := 4, pos := "extra.go:21", after := #[{ on := 23, ground := Ground.data }, { on := 19, ground := Ground.chain }], guard := none }) (v := ?hv24) rfl (by kernel_rfl) (by kernel_rfl) (by kernel_rfl) (fun _ _ _ h => h) (Or.inl ⟨by rfl, ?hy24⟩) (by assumption) ?hr24
  case hy24 => (intro w hSw; (try dsimp only at hSw); go_simp; (try with_reducible rfl))
  (try simp only [Act.put, List.setIfInBounds_toArray, List.set_cons_zero, List.set_cons_succ])
  refine wpAnyH_take (i := 25) (oi := { dst := some 100, op := Op.move (Operand.tmp 17), type := 4, pos := "extra.go:21", after := #[{ on := 24, ground := Ground.guard }], guard := some (24, true) }) (v := ?hv25) rfl (by kernel_rfl) (by kernel_rfl) (by kernel_rfl) (fun _ _ _ h => h) (Or.inl ⟨by rfl, ?hy25⟩) (by assumption) ?hr25
  case hy25 => (intro w hSw; (try dsimp only at hSw); go_simp; (try with_reducible rfl))
  (try simp only [Act.put, List.setIfInBounds_toArray, List.set_cons_zero, List.set_cons_succ])
  refine wpAnyH_take (i := 26) (oi := { dst := some 101, op := Op.unOp UnOp.not 4 (Operand.tmp 100), type := 4, pos := "extra.go:21", after := #[{ on := 25, ground := Ground.data }, { on := 24, ground := Ground.guard }], guard := some (24, true) }) (v := ?hv26) rfl (by kernel_rfl) (by kernel_rfl) (by kernel_rfl) (fun _ _ _ h => h) (Or.inl ⟨by rfl, ?hy26⟩) (by assumption) ?hr26
  case hy26 => (intro w hSw; (try dsimp only at hSw); go_simp; (try with_reducible rfl))
  (try simp only [Act.put, List.setIfInBounds_toArray, List.set_cons_zero, List.set_cons_succ])
  refine wpAnyH_take (i := 27) (oi := { dst := some 102, op := Op.move (Operand.tmp 101), type := 4, pos := "extra.go:21", after := #[{ on := 26, ground := Ground.data }, { on := 24, ground := Ground.chain }, { on := 24, ground := Ground.guard }], guard := some (24, true) }) (v := ?hv27) rfl (by kernel_rfl) (by kernel_rfl) (by kernel_rfl) (fun _ _ _ h => h) (Or.inl ⟨by rfl, ?hy27⟩) (by assumption) ?hr27
  case hy27 => (intro w hSw; (try dsimp only at hSw); go_simp; (try with_reducible rfl))
  (try simp only [Act.put, List.setIfInBounds_toArray, List.set_cons_zero, List.set_cons_succ])
  refine wpAnyH_take (i := 28) (oi := { dst := some 103, op := Op.load 25 (Operand.tmp 6), type := 25, pos := "extra.go:21", after := #[{ on := 27, ground := Ground.guard }], guard := some (27, false) }) (v := undef) rfl (by kernel_rfl) (by kernel_rfl) (by kernel_rfl) (fun _ _ _ h => h) (Or.inr ⟨by rfl, rfl⟩) (by assumption) ?_
  (try simp only [Act.put, List.setIfInBounds_toArray, List.set_cons_zero, List.set_cons_succ])
  refine wpAnyH_take (i := 29) (oi := { dst := some 104, op := Op.move (Operand.tmp 3), type := 3, pos := "extra.go:21", after := #[{ on := 27, ground := Ground.guard }], guard := some (27, false) }) (v := undef) rfl (by kernel_rfl) (by kernel_rfl) (by kernel_rfl) (fun _ _ _ h => h) (Or.inr ⟨by rfl, rfl⟩) (by assumption) ?_
  (try simp only [Act.put, List.setIfInBounds_toArray, List.set_cons_zero, List.set_cons_succ])
  refine wpAnyH_take (i := 30) (oi := { dst := some 105, op := Op.binOp BinOp.add 3 (Operand.tmp 104) (Operand.const (Value.int IntKind.i64 1)) 3, type := 3, pos := "extra.go:21", after := #[{ on := 29, ground := Ground.data }, { on := 27, ground := Ground.guard }], guard := some (27, false) }) (v := undef) rfl (by kernel_rfl) (by kernel_rfl) (by kernel_rfl) (fun _ _ _ h => h) (Or.inr ⟨by rfl, rfl⟩) (by assumption) ?_
  (try simp only [Act.put, List.setIfInBounds_toArray, List.set_cons_zero, List.set_cons_succ])
  refine wpAnyH_take (i := 31) (oi := { dst := some 106, op := Op.move (Operand.tmp 4), type := 30, pos := "extra.go:21", after := #[{ on := 27, ground := Ground.guard }], guard := some (27, false) }) (v := undef) rfl (by kernel_rfl) (by kernel_rfl) (by kernel_rfl) (fun _ _ _ h => h) (Or.inr ⟨by rfl, rfl⟩) (by assumption) ?_
  (try simp only [Act.put, List.setIfInBounds_toArray, List.set_cons_zero, List.set_cons_succ])
  refine wpAnyH_take (i := 32) (oi := { dst := some 107, op := Op.call { callee := Callee.value (Operand.func 23), args := #[Operand.tmp 103, Operand.tmp 105, Operand.tmp 106], argTypes := #[25, 3, 30] }, type := 4, pos := "extra.go:21", after := #[{ on := 28, ground := Ground.data }, { on := 30, ground := Ground.data }, { on := 31, ground := Ground.data }, { on := 27, ground := Ground.chain }, { on := 27, ground := Ground.guard }], guard := some (27, false) }) (v := undef) rfl (by kernel_rfl) (by kernel_rfl) (by kernel_rfl) (fun _ _ _ h => h) (Or.inr ⟨by rfl, rfl⟩) (by assumption) ?_
  (try simp only [Act.put, List.setIfInBounds_toArray, List.set_cons_zero, List.set_cons_succ])
  refine wpAnyH_take (i := 33) (oi := { dst := some 108, op := Op.move (Operand.tmp 107), type := 4, pos := "extra.go:21", after := #[{ on := 32, ground := Ground.data }, { on := 32, ground := Ground.chain }, { on := 27, ground := Ground.guard }], guard := some (27, false) }) (v := undef) rfl (by kernel_rfl) (by kernel_rfl) (by kernel_rfl) (fun _ _ _ h => h) (Or.inr ⟨by rfl, rfl⟩) (by assumption) ?_
  (try simp only [Act.put, List.setIfInBounds_toArray, List.set_cons_zero, List.set_cons_succ])
  refine wpAnyH_take (i := 34) (oi := { dst := some 109, op := Op.load 25 (Operand.tmp 6), type := 25, pos := "extra.go:21", after := #[{ on := 33, ground := Ground.guard }], guard := some (33, true) }) (v := undef) rfl (by kernel_rfl) (by kernel_rfl) (by kernel_rfl) (fun _ _ _ h => h) (Or.inr ⟨by rfl, rfl⟩) (by assumption) ?_
  (try simp only [Act.put, List.setIfInBounds_toArray, List.set_cons_zero, List.set_cons_succ])
  refine wpAnyH_take (i := 35) (oi := { dst := some 110, op := Op.move (Operand.tmp 3), type := 3, pos := "extra.go:21", after := #[{ on := 33, ground := Ground.guard }], guard := some (33, true) }) (v := undef) rfl (by kernel_rfl) (by kernel_rfl) (by kernel_rfl) (fun _ _ _ h => h) (Or.inr ⟨by rfl, rfl⟩) (by assumption) ?_
  (try simp only [Act.put, List.setIfInBounds_toArray, List.set_cons_zero, List.set_cons_succ])
  refine wpAnyH_take (i := 36) (oi := { dst := some 111, op := Op.move (Operand.tmp 4), type := 30, pos := "extra.go:21", after := #[{ on := 33, ground := Ground.guard }], guard := some (33, true) }) (v := undef) rfl (by kernel_rfl) (by kernel_rfl) (by kernel_rfl) (fun _ _ _ h => h) (Or.inr ⟨by rfl, rfl⟩) (by assumption) ?_
  (try simp only [Act.put, List.setIfInBounds_toArray, List.set_cons_zero, List.set_cons_succ])
  refine wpAnyH_take (i := 37) (oi := { dst := some 112, op := Op.move (Operand.tmp 5), type := 3, pos := "extra.go:21", after := #[{ on := 33, ground := Ground.guard }], guard := some (33, true) }) (v := undef) rfl (by kernel_rfl) (by kernel_rfl) (by kernel_rfl) (fun _ _ _ h => h) (Or.inr ⟨by rfl, rfl⟩) (by assumption) ?_
  (try simp only [Act.put, List.setIfInBounds_toArray, List.set_cons_zero, List.set_cons_succ])
  refine wpAnyH_take (i := 38) (oi := { dst := some 113, op := Op.slice 30 (Operand.tmp 111) none (some (Operand.tmp 112)) none, type := 30, pos := "extra.go:21", after := #[{ on := 36, ground := Ground.data }, { on := 37, ground := Ground.data }, { on := 33, ground := Ground.guard }], guard := some (33, true) }) (v := undef) rfl (by kernel_rfl) (by kernel_rfl) (by kernel_rfl) (fun _ _ _ h => h) (Or.inr ⟨by rfl, rfl⟩) (by assumption) ?_
  (try simp only [Act.put, List.setIfInBounds_toArray, List.set_cons_zero, List.set_cons_succ])
  refine wpAnyH_take (i := 39) (oi := { dst := some 114, op := Op.call { callee := Callee.value (Operand.func 23), args := #[Operand.tmp 109, Operand.tmp 110, Operand.tmp 113], argTypes := #[25, 3, 30] }, type := 4, pos := "extra.go:21", after := #[{ on := 34, ground := Ground.data }, { on := 35, ground := Ground.data }, { on := 38, ground := Ground.data }, { on := 33, ground := Ground.chain }, { on := 33, ground := Ground.guard }], guard := some (33, true) }) (v := undef) rfl (by kernel_rfl) (by kernel_rfl) (by kernel_rfl) (fun _ _ _ h => h) (Or.inr ⟨by rfl, rfl⟩) (by assumption) ?_
  (try simp only [Act.put, List.setIfInBounds_toArray, List.set_cons_zero, List.set_cons_succ])
  refine wpAnyH_take (i := 40) (oi := { dst := some 115, op := Op.pick (Operand.tmp 108) (Operand.tmp 114) (Operand.const (Value.bool false)), type := 4, pos := "extra.go:21", after := #[{ on := 33, ground := Ground.data }, { on := 39, ground := Ground.data }, { on := 27, ground := Ground.guard }], guard := some (27, false) }) (v := undef) rfl (by kernel_rfl) (by kernel_rfl) (by kernel_rfl) (fun _ _ _ h => h) (Or.inr ⟨by rfl, rfl⟩) (by assumption) ?_
  (try simp only [Act.put, List.setIfInBounds_toArray, List.set_cons_zero, List.set_cons_succ])
  refine wpAnyH_take (i := 41) (oi := { dst := some 116, op := Op.move (Operand.tmp 115), type := 4, pos := "extra.go:21", after := #[{ on := 40, ground := Ground.data }, { on := 39, ground := Ground.chain }, { on := 27, ground := Ground.guard }], guard := some (27, false) }) (v := undef) rfl (by kernel_rfl) (by kernel_rfl) (by kernel_rfl) (fun _ _ _ h => h) (Or.inr ⟨by rfl, rfl⟩) (by assumption) ?_
  (try simp only [Act.put, List.setIfInBounds_toArray, List.set_cons_zero, List.set_cons_succ])
  refine wpAnyH_take (i := 42) (oi := { dst := some 117, op := Op.load 25 (Operand.tmp 6), type := 25, pos := "extra.go:21", after := #[{ on := 41, ground := Ground.guard }], guard := some (41, true) }) (v := undef) rfl (by kernel_rfl) (by kernel_rfl) (by kernel_rfl) (fun _ _ _ h => h) (Or.inr ⟨by rfl, rfl⟩) (by assumption) ?_
  (try simp only [Act.put, List.setIfInBounds_toArray, List.set_cons_zero, List.set_cons_succ])
  refine wpAnyH_take (i := 43) (oi := { dst := some 118, op := Op.move (Operand.tmp 3), type := 3, pos := "extra.go:21", after := #[{ on := 41, ground := Ground.guard }], guard := some (41, true) }) (v := undef) rfl (by kernel_rfl) (by kernel_rfl) (by kernel_rfl) (fun _ _ _ h => h) (Or.inr ⟨by rfl, rfl⟩) (by assumption) ?_
  (try simp only [Act.put, List.setIfInBounds_toArray, List.set_cons_zero, List.set_cons_succ])
  refine wpAnyH_take (i := 44) (oi := { dst := some 119, op := Op.move (Operand.tmp 4), type := 30, pos := "extra.go:21", after := #[{ on := 41, ground := Ground.guard }], guard := some (41, true) }) (v := undef) rfl (by kernel_rfl) (by kernel_rfl) (by kernel_rfl) (fun _ _ _ h => h) (Or.inr ⟨by rfl, rfl⟩) (by assumption) ?_
  (try simp only [Act.put, List.setIfInBounds_toArray, List.set_cons_zero, List.set_cons_succ])
  refine wpAnyH_take (i := 45) (oi := { dst := some 120, op := Op.move (Operand.tmp 5), type := 3, pos := "extra.go:21", after := #[{ on := 41, ground := Ground.guard }], guard := some (41, true) }) (v := undef) rfl (by kernel_rfl) (by kernel_rfl) (by kernel_rfl) (fun _ _ _ h => h) (Or.inr ⟨by rfl, rfl⟩) (by assumption) ?_
  (try simp only [Act.put, List.setIfInBounds_toArray, List.set_cons_zero, List.set_cons_succ])
  refine wpAnyH_take (i := 46) (oi := { dst := some 121, op := Op.slice 30 (Operand.tmp 119) (some (Operand.tmp 120)) none none, type := 30, pos := "extra.go:21", after := #[{ on := 44, ground := Ground.data }, { on := 45, ground := Ground.data }, { on := 41, ground := Ground.guard }], guard := some (41, true) }) (v := undef) rfl (by kernel_rfl) (by kernel_rfl) (by kernel_rfl) (fun _ _ _ h => h) (Or.inr ⟨by rfl, rfl⟩) (by assumption) ?_
  (try simp only [Act.put, List.setIfInBounds_toArray, List.set_cons_zero, List.set_cons_succ])
  refine wpAnyH_take (i := 47) (oi := { dst := some 122, op := Op.call { callee := Callee.value (Operand.func 23), args := #[Operand.tmp 117, Operand.tmp 118, Operand.tmp 121], argTypes := #[25, 3, 30] }, type := 4, pos := "extra.go:21", after := #[{ on := 42, ground := Ground.data }, { on := 43, ground := Ground.data }, { on := 46, ground := Ground.data }, { on := 41, ground := Ground.chain }, { on := 41, ground := Ground.guard }], guard := some (41, true) }) (v := undef) rfl (by kernel_rfl) (by kernel_rfl) (by kernel_rfl) (fun _ _ _ h => h) (Or.inr ⟨by rfl, rfl⟩) (by assumption) ?_
  (try simp only [Act.put, List.setIfInBounds_toArray, List.set_cons_zero, List.set_cons_succ])
  refine wpAnyH_take (i := 48) (oi := { dst := some 123, op := Op.pick (Operand.tmp 116) (Operand.tmp 122) (Operand.const (Value.bool false)), type := 4, pos := "extra.go:21", after := #[{ on := 41, ground := Ground.data }, { on := 47, ground := Ground.data }, { on := 27, ground := Ground.guard }], guard := some (27, false) }) (v := undef) rfl (by kernel_rfl) (by kernel_rfl) (by kernel_rfl) (fun _ _ _ h => h) (Or.inr ⟨by rfl, rfl⟩) (by assumption) ?_
  (try simp only [Act.put, List.setIfInBounds_toArray, List.set_cons_zero, List.set_cons_succ])
  refine wpAnyH_take (i := 49) (oi := { dst := some 124, op := Op.pick (Operand.tmp 102) (Operand.const (Value.bool true)) (Operand.tmp 123), type := 4, pos := "extra.go:21", after := #[{ on := 27, ground := Ground.data }, { on := 48, ground := Ground.data }, { on := 24, ground := Ground.guard }], guard := some (24, true) }) (v := ?hv49) rfl (by kernel_rfl) (by kernel_rfl) (by kernel_rfl) (fun _ _ _ h => h) (Or.inl ⟨by rfl, ?hy49⟩) (by assumption) ?hr49
  case hy49 => (intro w hSw; (try dsimp only at hSw); go_simp; (try with_reducible rfl))
  (try simp only [Act.put, List.setIfInBounds_toArray, List.set_cons_zero, List.set_cons_succ])
  refine wpAnyH_take (i := 50) (oi := { dst := some 125, op := Op.pick (Operand.tmp 99) (Operand.tmp 124) (Operand.const (Value.bool false)), type := 4, pos := "extra.go:21", after := #[{ on := 24, ground := Ground.data }, { on := 49, ground := Ground.data }], guard := none }) (v := ?hv50) rfl (by kernel_rfl) (by kernel_rfl) (by kernel_rfl) (fun _ _ _ h => h) (Or.inl ⟨by rfl, ?hy50⟩) (by assumption) ?hr50
  case hy50 => (intro w hSw; (try dsimp only at hSw); go_simp; (try with_reducible rfl))
  (try simp only [Act.put, List.setIfInBounds_toArray, List.set_cons_zero, List.set_cons_succ])
  refine wpAnyH_take (i := 51) (oi := { dst := some 126, op := Op.move (Operand.tmp 125), type := 4, pos := "extra.go:21", after := #[{ on := 50, ground := Ground.data }, { on := 47, ground := Ground.chain }], guard := none }) (v := ?hv51) rfl (by kernel_rfl) (by kernel_rfl) (by kernel_rfl) (fun _ _ _ h => h) (Or.inl ⟨by rfl, ?hy51⟩) (by assumption) ?hr51
  case hy51 => (intro w hSw; (try dsimp only at hSw); go_simp; (try with_reducible rfl))
  (try simp only [Act.put, List.setIfInBounds_toArray, List.set_cons_zero, List.set_cons_succ])
  refine wpAnyH_take (i := 52) (oi := { dst := some 127, op := Op.load 25 (Operand.tmp 6), type := 25, pos := "extra.go:21", after := #[{ on := 51, ground := Ground.guard }], guard := some (51, true) }) (v := ?hv52) rfl (by kernel_rfl) (by kernel_rfl) (by kernel_rfl) (fun _ _ _ h => h) (Or.inl ⟨by rfl, ?hy52⟩) (by assumption) ?hr52
  case hy52 => (intro w hSw; (try dsimp only at hSw); go_simp; (try with_reducible rfl))
  (try simp only [Act.put, List.setIfInBounds_toArray, List.set_cons_zero, List.set_cons_succ])
  refine wpAnyH_take (i := 53) (oi := { dst := some 128, op := Op.move (Operand.tmp 4), type := 30, pos := "extra.go:21", after := #[{ on := 51, ground := Ground.guard }], guard := some (51, true) }) (v := ?hv53) rfl (by kernel_rfl) (by kernel_rfl) (by kernel_rfl) (fun _ _ _ h => h) (Or.inl ⟨by rfl, ?hy53⟩) (by assumption) ?hr53
  case hy53 => (intro w hSw; (try dsimp only at hSw); go_simp; (try with_reducible rfl))
  (try simp only [Act.put, List.setIfInBounds_toArray, List.set_cons_zero, List.set_cons_succ])
  refine wpAnyH_ready (rs := [54]) (by kernel_rfl) (by simp) ?_
  refine AllReadyH.cons (o := { dst := some 129, op := Op.call { callee := Callee.value (Operand.func 23), args := #[Operand.tmp 127, Operand.const (Value.int IntKind.i64 0), Operand.tmp 128], argTypes := #[25, 3, 30] }, type := 4, pos := "extra.go:21", after := #[{ on := 52, ground := Ground.data }, { on := 53, ground := Ground.data }, { on := 51, ground := Ground.chain }, { on := 51, ground := Ground.guard }], guard := some (51, true) }) rfl (fun K hK => ?_) AllReadyH.nil
  go_simp
  (go_at_call 23; (with_reducible refine (HFz.out _ (below_then HB8.out HB8.out.size G10.out)).mono ?_); rintro e w14 ⟨rfl, hb14⟩; have G14 := Aside0.mk (below_then G10.out G10.out.size hb14))
  go_wp2_with fail
  refine hK.out _ _ ?_ (fun hH54 => ?_)
  · (try dsimp only)
    exact HX.out _ (below_then E8.out E8.out.size G14.out)
  clear hK K hH14
  (try simp only [Act.put, List.setIfInBounds_toArray, List.set_cons_zero, List.set_cons_succ])
  refine wpAnyH_take (i := 55) (oi := { dst := some 130, op := Op.unOp UnOp.not 4 (Operand.tmp 129), type := 4, pos := "extra.go:21", after := #[{ on := 54, ground := Ground.data }, { on := 51, ground := Ground.guard }], guard := some (51, true) }) (v := ?hv55) rfl (by kernel_rfl) (by kernel_rfl) (by kernel_rfl) (fun _ _ _ h => h) (Or.inl ⟨by rfl, ?hy55⟩) (by assumption) ?hr55
  case hy55 => (intro w hSw; (try dsimp only at hSw); go_simp; (try with_reducible rfl))
  (try simp only [Act.put, List.setIfInBounds_toArray, List.set_cons_zero, List.set_cons_succ])
  refine wpAnyH_take (i := 56) (oi := { dst := some 131, op := Op.pick (Operand.tmp 126) (Operand.tmp 130) (Operand.const (Value.bool false)), type := 4, pos := "extra.go:21", after := #[{ on := 51, ground := Ground.data }, { on := 55, ground := Ground.data }], guard := none }) (v := ?hv56) rfl (by kernel_rfl) (by kernel_rfl) (by kernel_rfl) (fun _ _ _ h => h) (Or.inl ⟨by rfl, ?hy56⟩) (by assumption) ?hr56
  case hy56 => (intro w hSw; (try dsimp only at hSw); go_simp; (try with_reducible rfl))
  (try simp only [Act.put, List.setIfInBounds_toArray, List.set_cons_zero, List.set_cons_succ])
  refine wpAnyH_take (i := 57) (oi := { dst := some 132, op := Op.move (Operand.tmp 131), type := 4, pos := "extra.go:21", after := #[{ on := 56, ground := Ground.data }, { on := 54, ground := Ground.chain }], guard := none }) (v := ?hv57) rfl (by kernel_rfl) (by kernel_rfl) (by kernel_rfl) (fun _ _ _ h => h) (Or.inl ⟨by rfl, ?hy57⟩) (by assumption) ?hr57
  case hy57 => (intro w hSw; (try dsimp only at hSw); go_simp; (try with_reducible rfl))
  (try simp only [Act.put, List.setIfInBounds_toArray, List.set_cons_zero, List.set_cons_succ])
  refine wpAnyH_take (i := 59) (oi := { dst := some 134, op := Op.move (Operand.tmp 1), type := 22, pos := "extra.go:21", after := #[{ on := 57, ground := Ground.guard }], guard := some (57, true) }) (v := ?hv59) rfl (by kernel_rfl) (by kernel_rfl) (by kernel_rfl) (fun _ _ _ h => h) (Or.inl ⟨by rfl, ?hy59⟩) (by assumption) ?hr59
  case hy59 => (intro w hSw; (try dsimp only at hSw); go_simp; (try with_reducible rfl))
  (try simp only [Act.put, List.setIfInBounds_toArray, List.set_cons_zero, List.set_cons_succ])
  refine wpAnyH_take (i := 61) (oi := { dst := some 136, op := Op.move (Operand.tmp 2), type := 22, pos := "extra.go:21", after := #[{ on := 57, ground := Ground.guard }], guard := some (57, true) }) (v := ?hv61) rfl (by kernel_rfl) (by kernel_rfl) (by kernel_rfl) (fun _ _ _ h => h) (Or.inl ⟨by rfl, ?hy61⟩) (by assumption) ?hr61
  case hy61 => (intro w hSw; (try dsimp only at hSw); go_simp; (try with_reducible rfl))
  (try simp only [Act.put, List.setIfInBounds_toArray, List.set_cons_zero, List.set_cons_succ])
  refine wpAnyH_take (i := 64) (oi := { dst := some 139, op := Op.move (Operand.tmp 1), type := 22, pos := "extra.go:21", after := #[{ on := 57, ground := Ground.guard }], guard := some (57, true) }) (v := ?hv64) rfl (by kernel_rfl) (by kernel_rfl) (by kernel_rfl) (fun _ _ _ h => h) (Or.inl ⟨by rfl, ?hy64⟩) (by assumption) ?hr64
  case hy64 => (intro w hSw; (try dsimp only at hSw); go_simp; (try with_reducible rfl))
  (try simp only [Act.put, List.setIfInBounds_toArray, List.set_cons_zero, List.set_cons_succ])
  refine wpAnyH_ready (rs := [58]) (by kernel_rfl) (by simp) ?_
  refine AllReadyH.cons (o := { dst := some 133, op := Op.buildSlice 22 0 #[], type := 22, pos := "extra.go:21", after := #[{ on := 57, ground := Ground.guard }], guard := some (57, true) }) rfl (fun K hK => ?_) AllReadyH.nil
  go_simp
  refine hK.out _ _ ?_ (fun hH58 => ?_)
  · (try dsimp only)
    exact HX.out _ (below_then E8.out E8.out.size (below_alloc G14.out _))
  clear hK K hH54
  (try simp only [Act.put, List.setIfInBounds_toArray, List.set_cons_zero, List.set_cons_succ])
  refine wpAnyH_ready (rs := [60]) (by kernel_rfl) (by simp) ?_
  refine AllReadyH.cons (o := { dst := some 135, op := Op.call { callee := Callee.builtin Builtin.append, args := #[Operand.tmp 133, Operand.tmp 134], argTypes := #[22, 22] }, type := 22, pos := "extra.go:21", after := #[{ on := 58, ground := Ground.data }, { on := 59, ground := Ground.data }, { on := 57, ground := Ground.chain }, { on := 57, ground := Ground.guard }], guard := some (57, true) }) rfl (fun K hK => ?_) AllReadyH.nil
  (refine step_app k54 (by rfl) _ _ 22 54 _ 56 rfl Try.underlying22 info54 rfl (by decide) (by decide) (.slice (some ⟨w14.heap.size, 0, none⟩) 0 0) [] p A1 p.length c1 (by simp [Act.eval, Act.put]) (by simp [Act.eval, Act.put]) (AppV.none_ k54 54 G14.out) HR1c.out (by have := N1.out; simp; omega) ?_; intro v15 w15 hv15; have AV15 := Aside0.mk hv15; have G15 := Aside0.mk hv15.1; clear hv15)
  refine hK.out _ _ ?_ (fun hH60 => ?_)
  · (try dsimp only)
    exact HX.out _ (below_then E8.out E8.out.size G15.out)
  clear hK K hH58
  (try simp only [Act.put, List.setIfInBounds_toArray, List.set_cons_zero, List.set_cons_succ])
  refine wpAnyH_ready (rs := [62]) (by kernel_rfl) (by simp) ?_
  refine AllReadyH.cons (o := { dst := some 137, op := Op.call { callee := Callee.builtin Builtin.append, args := #[Operand.tmp 135, Operand.tmp 136], argTypes := #[22, 22] }, type := 22, pos := "extra.go:21", after := #[{ on := 60, ground := Ground.data }, { on := 61, ground := Ground.data }, { on := 60, ground := Ground.chain }, { on := 57, ground := Ground.guard }], guard := some (57, true) }) rfl (fun K hK => ?_) AllReadyH.nil
  (refine step_app k54 (by rfl) _ _ 22 54 _ 56 rfl Try.underlying22 info54 rfl (by decide) (by decide) v15 _ q A2 q.length c2 (by simp [Act.eval, Act.put]) (by simp [Act.eval, Act.put]) AV15.out HR2c.out (by have := N1.out; simp; omega) ?_; intro v16 w16 hv16; obtain ⟨A7, c7, rfl, hc7, hC7⟩ := hv16.C; simp only [List.nil_append, List.length_append] at hC7 hc7; have HC7 := Aside0.mk hC7; have Hc7 := Aside0.mk hc7; have G16 := Aside0.mk hv16.1; clear hv16 hC7 hc7)
  refine hK.out _ _ ?_ (fun hH62 => ?_)
  · (try dsimp only)
    exact HX.out _ (below_then E8.out E8.out.size G16.out)
  clear hK K hH60
  (try simp only [Act.put, List.setIfInBounds_toArray, List.set_cons_zero, List.set_cons_succ])
  refine wpAnyH_ready (rs := [63]) (by kernel_rfl) (by simp) ?_
  refine AllReadyH.cons (o := { dst := some 138, op := Op.call { callee := Callee.value (Operand.func 24), args := #[Operand.tmp 137], argTypes := #[22] }, type := 4, pos := "extra.go:21", after := #[{ on := 62, ground := Ground.data }, { on := 62, ground := Ground.chain }, { on := 57, ground := Ground.guard }], guard := some (57, true) }) rfl (fun K hK => ?_) AllReadyH.nil
  go_simp
  (go_at_call 24; (with_reducible refine (HPb.out _ A7 c7 HC7.out Hc7.out).mono ?_); rintro e w17 ⟨rfl, hb17⟩; have G17 := Aside0.mk (below_then G16.out G16.out.size hb17))
  go_wp2_with fail
  refine hK.out _ _ ?_ (fun hH63 => ?_)
  · (try dsimp only)
    exact HX.out _ (below_then E8.out E8.out.size G17.out)
  clear hK K hH62
  (try simp only [Act.put, List.setIfInBounds_toArray, List.set_cons_zero, List.set_cons_succ])
  refine wpAnyH_ready (rs := [65]) (by kernel_rfl) (by simp) ?_
  refine AllReadyH.cons (o := { dst := some 140, op := Op.call { callee := Callee.value (Operand.func 24), args := #[Operand.tmp 139], argTypes := #[22] }, type := 4, pos := "extra.go:21", after := #[{ on := 64, ground := Ground.data }, { on := 63, ground := Ground.chain }, { on := 57, ground := Ground.guard }], guard := some (57, true) }) rfl (fun K hK => ?_) AllReadyH.nil
  go_simp
  (go_at_call 24; (with_reducible refine (HPp.out _ (below_then HB8.out HB8.out.size G17.out)).mono ?_); rintro e w18 ⟨rfl, hb18⟩; have G18 := Aside0.mk (below_then G17.out G17.out.size hb18))
  go_wp2_with fail
  refine hK.out _ _ ?_ (fun hH65 => ?_)
  · (try dsimp only)
    exact HX.out _ (below_then E8.out E8.out.size G18.out)
  clear hK K hH63
  (try simp only [Act.put, List.setIfInBounds_toArray, List.set_cons_zero, List.set_cons_succ])
  refine wpAnyH_take (i := 66) (oi := { dst := some 141, op := Op.move (Operand.tmp 140), type := 4, pos := "extra.go:21", after := #[{ on := 65, ground := Ground.data }, { on := 65, ground := Ground.chain }, { on := 57, ground := Ground.guard }], guard := some (57, true) }) (v := ?hv66) rfl (by kernel_rfl) (by kernel_rfl) (by kernel_rfl) (fun _ _ _ h => h) (Or.inl ⟨by rfl, ?hy66⟩) (by assumption) ?hr66
  case hy66 => (intro w hSw; (try dsimp only at hSw); go_simp; (try with_reducible rfl))
  (try simp only [Act.put, List.setIfInBounds_toArray, List.set_cons_zero, List.set_cons_succ])
  refine wpAnyH_take (i := 67) (oi := { dst := some 142, op := Op.move (Operand.tmp 2), type := 22, pos := "extra.go:21", after := #[{ on := 66, ground := Ground.guard }], guard := some (66, true) }) (v := undef) rfl (by kernel_rfl) (by kernel_rfl) (by kernel_rfl) (fun _ _ _ h => h) (Or.inr ⟨by rfl, rfl⟩) (by assumption) ?_
  (try simp only [Act.put, List.setIfInBounds_toArray, List.set_cons_zero, List.set_cons_succ])
  refine wpAnyH_take (i := 68) (oi := { dst := some 143, op := Op.call { callee := Callee.value (Operand.func 24), args := #[Operand.tmp 142], argTypes := #[22] }, type := 4, pos := "extra.go:21", after := #[{ on := 67, ground := Ground.data }, { on := 66, ground := Ground.chain }, { on := 66, ground := Ground.guard }], guard := some (66, true) }) (v := undef) rfl (by kernel_rfl) (by kernel_rfl) (by kernel_rfl) (fun _ _ _ h => h) (Or.inr ⟨by rfl, rfl⟩) (by assumption) ?_
  (try simp only [Act.put, List.setIfInBounds_toArray, List.set_cons_zero, List.set_cons_succ])
  refine wpAnyH_take (i := 69) (oi := { dst := some 144, op := Op.pick (Operand.tmp 141) (Operand.tmp 143) (Operand.const (Value.bool false)), type := 4, pos := "extra.go:21", after := #[{ on := 66, ground := Ground.data }, { on := 68, ground := Ground.data }, { on := 57, ground := Ground.guard }], guard := some (57, true) }) (v := ?hv69) rfl (by kernel_rfl) (by kernel_rfl) (by kernel_rfl) (fun _ _ _ h => h) (Or.inl ⟨by rfl, ?hy69⟩) (by assumption) ?hr69
  case hy69 => (intro w hSw; (try dsimp only at hSw); go_simp; (try with_reducible rfl))
  (try simp only [Act.put, List.setIfInBounds_toArray, List.set_cons_zero, List.set_cons_succ])
  refine wpAnyH_take (i := 70) (oi := { dst := some 145, op := Op.binOp BinOp.eql 4 (Operand.tmp 138) (Operand.tmp 144) 4, type := 4, pos := "extra.go:21", after := #[{ on := 63, ground := Ground.data }, { on := 69, ground := Ground.data }, { on := 57, ground := Ground.guard }], guard := some (57, true) }) (v := ?hv70) rfl (by kernel_rfl) (by kernel_rfl) (by kernel_rfl) (fun _ _ _ h => h) (Or.inl ⟨by rfl, ?hy70⟩) (by assumption) ?hr70
  case hy70 => (intro w hSw; (try dsimp only at hSw); go_simp; (try with_reducible rfl))
  (try simp only [Act.put, List.setIfInBounds_toArray, List.set_cons_zero, List.set_cons_succ])
  refine wpAnyH_take (i := 71) (oi := { dst := some 146, op := Op.pick (Operand.tmp 132) (Operand.tmp 145) (Operand.const (Value.bool false)), type := 4, pos := "extra.go:21", after := #[{ on := 57, ground := Ground.data }, { on := 70, ground := Ground.data }], guard := none }) (v := ?hv71) rfl (by kernel_rfl) (by kernel_rfl) (by kernel_rfl) (fun _ _ _ h => h) (Or.inl ⟨by rfl, ?hy71⟩) (by assumption) ?hr71
  case hy71 => (intro w hSw; (try dsimp only at hSw); go_simp; (try with_reducible rfl))
  (try simp only [Act.put, List.setIfInBounds_toArray, List.set_cons_zero, List.set_cons_succ])
  refine wpAnyH_take (i := 72) (oi := { dst := some 12, op := Op.assign (Operand.tmp 146), type := 4, pos := "extra.go:21", after := #[{ on := 71, ground := Ground.data }, { on := 68, ground := Ground.chain }, { on := 0, ground := Ground.phase }, { on := 1, ground := Ground.phase }, { on := 2, ground := Ground.phase }, { on := 3, ground := Ground.phase }, { on := 4, ground := Ground.phase }, { on := 5, ground := Ground.phase }, { on := 6, ground := Ground.phase }, { on := 7, ground := Ground.phase }, { on := 8, ground := Ground.phase }, { on := 9, ground := Ground.phase }, { on := 10, ground := Ground.phase }, { on := 11, ground := Ground.phase }, { on := 12, ground := Ground.phase }, { on := 13, ground := Ground.phase }, { on := 14, ground := Ground.phase }, { on := 15, ground := Ground.phase }, { on := 16, ground := Ground.phase }, { on := 17, ground := Ground.phase }, { on := 18, ground := Ground.phase }, { on := 19, ground := Ground.phase }, { on := 20, ground := Ground.phase }, { on := 21, ground := Ground.phase }, { on := 22, ground := Ground.phase }, { on := 23, ground := Ground.phase }, { on := 24, ground := Ground.phase }, { on := 25, ground := Ground.phase }, { on := 26, ground := Ground.phase }, { on := 27, ground := Ground.phase }, { on := 28, ground := Ground.phase }, { on := 29, ground := Ground.phase }, { on := 30, ground := Ground.phase }, { on := 31, ground := Ground.phase }, { on := 32, ground := Ground.phase }, { on := 33, ground := Ground.phase }, { on := 34, ground := Ground.phase }, { on := 35, ground := Ground.phase }, { on := 36, ground := Ground.phase }, { on := 37, ground := Ground.phase }, { on := 38, ground := Ground.phase }, { on := 39, ground := Ground.phase }, { on := 40, ground := Ground.phase }, { on := 41, ground := Ground.phase }, { on := 42, ground := Ground.phase }, { on := 43, ground := Ground.phase }, { on := 44, ground := Ground.phase }, { on := 45, ground := Ground.phase }, { on := 46, ground := Ground.phase }, { on := 47, ground := Ground.phase }, { on := 48, ground := Ground.phase }, { on := 49, ground := Ground.phase }, { on := 50, ground := Ground.phase }, { on := 51, ground := Ground.phase }, { on := 52, ground := Ground.phase }, { on := 53, ground := Ground.phase }, { on := 54, ground := Ground.phase }, { on := 55, ground := Ground.phase }, { on := 56, ground := Ground.phase }, { on := 57, ground := Ground.phase }, { on := 58, ground := Ground.phase }, { on := 59, ground := Ground.phase }, { on := 60, ground := Ground.phase }, { on := 61, ground := Ground.phase }, { on := 62, ground := Ground.phase }, { on := 63, ground := Ground.phase }, { on := 64, ground := Ground.phase }, { on := 65, ground := Ground.phase }, { on := 66, ground := Ground.phase }, { on := 67, ground := Ground.phase }, { on := 68, ground := Ground.phase }, { on := 69, ground := Ground.phase }, { on := 70, ground := Ground.phase }, { on := 71, ground := Ground.phase }], guard := none }) (v := ?hv72) rfl (by kernel_rfl) (by kernel_rfl) (by kernel_rfl) (fun _ _ _ h => h) (Or.inl ⟨by rfl, ?hy72⟩) (by assumption) ?hr72
  case hy72 => (intro w hSw; (try dsimp only at hSw); go_simp; (try with_reducible rfl))
  (try simp only [Act.put, List.setIfInBounds_toArray, List.set_cons_zero, List.set_cons_succ])
  refine wpAnyH_done (by kernel_rfl) ?_ _
  go_wp2
  go_ret
  refine ⟨?_, below_then HB8.out HB8.out.size G18.out⟩
  cases gq <;> rfl
theorem more_walk (c : Cf) (A1 : Option Addr) (c1 : Nat) (p : List Ins) (A2 : Option Addr) (c2 : Nat) (q : List Ins) (w : Int) (A4 : Option Addr) (c4 : Nat) (l : List Int) (cut : Int) (W : World)
    (b7 : (Lit.int .i64 c.f4).wf = true) (hr1 : Kd.C k54 W A1 p.length p) (hc1 : p.length ≤ c1) (hw1 : p.length ≤ maxLen) (hr2 : Kd.C k54 W A2 q.length q) (hc2 : q.length ≤ c2) (hw2 : q.length ≤ maxLen) (hr4 : Kd.C (Kd.int .i64) W A4 l.length l) (hc4 : l.length ≤ c4) (hw4 : l.length ≤ maxLen) :
    Calls Try.prog 5 #[.agg #[.int .i64 c.f0, .int .i64 c.f1, .int .i64 c.f2, .int .i64 c.f3, .int .i64 c.f4, .int .i64 c.f5, .int .i64 c.f6, .int .i64 c.f7, .int .i64 c.f8, .int .i64 c.f9, .int .i64 c.f10, .int .i64 c.f11], .slice A1 p.length c1, .slice A2 q.length c2, .int .i64 w, .slice A4 l.length c4, .int .i64 cut] W fun e w' => e = .returned (.bool true) ∧ Below W.heap.size W w' := by
  by_cases h : 60 < p.length ∨ 60 < q.length ∨ 300 < l.length ∨ cut < 0 ∨ (l.length : Int) < cut ∨ w < 1 ∨ 300 < w
  · exact more_early c A1 c1 p A2 c2 q w A4 c4 l cut W h
  · obtain ⟨w, rfl⟩ : ∃ n : Nat, w = n := ⟨w.toNat, by omega⟩
    obtain ⟨cut, rfl⟩ : ∃ n : Nat, cut = n := ⟨cut.toNat, by omega⟩
    have h4 : c.f4 ≤ 9223372036854775807 := by
      simp [Lit.wf] at b7
      have e2 : IntKind.i64.max = 9223372036854775807 := rfl
      omega
    cases hf : fairB l w (manyOf c.f4 c.f11).toNat 0 (l.length + 1 - w) with
    | true =>
      cases hg : bound_Plain.g p with
      | true => exact more_true_true c A1 c1 p A2 c2 q w A4 c4 l cut W hr1 hc1 hr2 hc2 hr4 hc4 (by omega) (by omega) (by omega) (by omega) (by omega) (by omega) h4 hf hg
      | false => exact more_true_false c A1 c1 p A2 c2 q w A4 c4 l cut W hr1 hc1 hr2 hc2 hr4 hc4 (by omega) (by omega) (by omega) (by omega) (by omega) (by omega) h4 hf hg
    | false =>
      cases hg : bound_Plain.g p with
      | true => exact more_false_true c A1 c1 p A2 c2 q w A4 c4 l cut W hr1 hc1 hr2 hc2 hr4 hc4 (by omega) (by omega) (by omega) (by omega) (by omega) (by omega) h4 hf hg
      | false => exact more_false_false c A1 c1 p A2 c2 q w A4 c4 l cut W hr1 hc1 hr2 hc2 hr4 hc4 (by omega) (by omega) (by omega) (by omega) (by omega) (by omega) h4 hf hg
end Go.Proofs.Ytfdnhhjggophcaa.Bo
