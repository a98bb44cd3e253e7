import Derived.Test.YtkceadieigpolaaGreatRn
import Derived.Test.YtkceadieigpolaaGreatTC
namespace Go.Proofs.YtkceadieigpolaaGreat.Ln
open Go.RowKit Go.Proofs.YtkceadieigpolaaGreatW.PrintWords Go.Proofs.YtkceadieigpolaaGreatW.PrintLast Go.Proofs.YtkceadieigpolaaGreatW.PrintMore Go.Proofs.YtkceadieigpolaaGreat.PMd
open Go.Sort (grow)
set_option linter.unusedVariables false
set_option linter.unusedSimpArgs false
def lvU (j : Int) : Int := if j = 0 then 0 else if j = 1 then 1 else 2
def paU (j : Int) : Int := if j = 0 then -1 else if j = 1 then 0 else 1
def c1P : Cf := ⟨1, 1, 1, 1, 1, 0, 1, 9, 1, 0, 1, 0⟩
theorem c1_lv : ∀ j : Fin 3, shape_Level.f 20 1 1 1 1 1 0 1 9 1 0 1 0 (j.val : Int) = some (lvU j.val) := by decide +kernel
theorem c1_pa : ∀ j : Fin 3, shape_Parent.f 20 1 1 1 1 1 0 1 9 1 0 1 0 (j.val : Int) = some (paU j.val) := by decide +kernel
theorem c1_path : shape_Path.f 1 1 1 1 1 0 1 9 1 0 1 0 0 = some (0, 1, 2, 0) := by kernel_rfl
theorem c1_next : nextT 0 1 2 (holdsT t0 0 0) (holdsT t0 0 1) (holdsT t0 0 2) c1P.f9 (stripesT t0 0 lvU paU 1) false = (⟨0, 1⟩, true) := by kernel_rfl
theorem c1_lv' : ∀ j : Nat, j < t0.length → shape_Level.f 20 c1P.f0 c1P.f1 c1P.f2 c1P.f3 c1P.f4 c1P.f5 c1P.f6 c1P.f7 c1P.f8 c1P.f9 c1P.f10 c1P.f11 (j : Int) = some (lvU j) := fun j hj => c1_lv ⟨j, hj⟩
theorem c1_pa' : ∀ j : Nat, j < t0.length → shape_Parent.f 20 c1P.f0 c1P.f1 c1P.f2 c1P.f3 c1P.f4 c1P.f5 c1P.f6 c1P.f7 c1P.f8 c1P.f9 c1P.f10 c1P.f11 (j : Int) = some (paU j) := fun j hj => c1_pa ⟨j, hj⟩
theorem t0_inv : LInv t0 := fun i hi => by
  have e : t0.getD i zL = zL := by
    match i, hi with
    | 0, _ => rfl
    | 1, _ => rfl
    | 2, _ => rfl
  rw [e]; exact inv_nil
set_option maxHeartbeats 8000000 in
set_option maxRecDepth 100000 in
theorem firstP_ (w : World) : Calls Tryz.prog 5 #[] w fun e w' => e = .returned (.bool true) ∧ Below w.heap.size w w' := by
  have hu41 := Tryz.underlying23
  have hu38 := Tryz.underlying41
  have hx := blk_new w (.cells #[.int .i64 1, .int .i64 1, .int .i64 1, .int .i64 1, .int .i64 1, .int .i64 0, .int .i64 1, .int .i64 9, .int .i64 1, .int .i64 0, .int .i64 1, .int .i64 0] 23)
  have HBc := Aside0.mk (below_alloc (Below.refl w.heap.size w) (.cells #[.int .i64 1, .int .i64 1, .int .i64 1, .int .i64 1, .int .i64 1, .int .i64 0, .int .i64 1, .int .i64 9, .int .i64 1, .int .i64 0, .int .i64 1, .int .i64 0] 23))
  have HN := Aside0.mk (fun W => NewT_ 3 9 W (by decide) (by decide) (by decide) (by decide))
  have HX := Aside0.mk hx
  have e1 := Aside0.mk (show (w.alloc (.cells #[.int .i64 1, .int .i64 1, .int .i64 1, .int .i64 1, .int .i64 1, .int .i64 0, .int .i64 1, .int .i64 9, .int .i64 1, .int .i64 0, .int .i64 1, .int .i64 0] 23)).heap.size = w.heap.size + 1 by simp)
  clear hx
  go_enter Tryz.func5, Tryz.ntmps5
  go_wp2_with fail
  refine (HN.out _).mono ?_
  rintro e w1 ⟨rfl, hT, hb⟩
  rw [e1.out] at hT
  have hx1 := (hb.block w.heap.size (by simp)).trans HX.out
  have x0 : w1.cell? ⟨w.heap.size, 0, none⟩ = some (.int .i64 1) := (blk_cell hx1 0).trans rfl
  have x1 : w1.cell? ⟨w.heap.size, 1, none⟩ = some (.int .i64 1) := (blk_cell hx1 1).trans rfl
  have x2 : w1.cell? ⟨w.heap.size, 2, none⟩ = some (.int .i64 1) := (blk_cell hx1 2).trans rfl
  have x3 : w1.cell? ⟨w.heap.size, 3, none⟩ = some (.int .i64 1) := (blk_cell hx1 3).trans rfl
  have x4 : w1.cell? ⟨w.heap.size, 4, none⟩ = some (.int .i64 1) := (blk_cell hx1 4).trans rfl
  have x5 : w1.cell? ⟨w.heap.size, 5, none⟩ = some (.int .i64 0) := (blk_cell hx1 5).trans rfl
  have x6 : w1.cell? ⟨w.heap.size, 6, none⟩ = some (.int .i64 1) := (blk_cell hx1 6).trans rfl
  have x7 : w1.cell? ⟨w.heap.size, 7, none⟩ = some (.int .i64 9) := (blk_cell hx1 7).trans rfl
  have x8 : w1.cell? ⟨w.heap.size, 8, none⟩ = some (.int .i64 1) := (blk_cell hx1 8).trans rfl
  have x9 : w1.cell? ⟨w.heap.size, 9, none⟩ = some (.int .i64 0) := (blk_cell hx1 9).trans rfl
  have x10 : w1.cell? ⟨w.heap.size, 10, none⟩ = some (.int .i64 1) := (blk_cell hx1 10).trans rfl
  have x11 : w1.cell? ⟨w.heap.size, 11, none⟩ = some (.int .i64 0) := (blk_cell hx1 11).trans rfl
  have HB1 := Aside0.mk (below_then HBc.out (by simp) hb)
  have HC : Aside0 (Calls Tryz.prog 13 #[.agg #[.int .i64 1, .int .i64 1, .int .i64 1, .int .i64 1, .int .i64 1, .int .i64 0, .int .i64 1, .int .i64 9, .int .i64 1, .int .i64 0, .int .i64 1, .int .i64 0], .pointer (some ⟨w.heap.size + 1 + 1, 0, none⟩), .int .i64 0, .int .i64 0, .bool false] w1 (fun e w' =>
      e = .returned (.tuple #[.agg #[.int .i64 0, .int .i64 1], .bool true, .int .i64 0]) ∧ Below w1.heap.size w1 w')) := ⟨NextT_ (show IsTab w1 _ _ t0 9 0 f0 from hT) t0_inv (by decide) c1P 0 0 false lvU paU c1_lv' c1_pa' 0 1 2 c1_path _ c1_next⟩
  clear hT hb hx1 HN
  go_wp2_with fail
  refine HC.out.mono ?_
  rintro e w2 ⟨rfl, hb⟩
  have HB2 := Aside0.mk (below_then HB1.out HB1.out.size hb)
  clear hb HC x0 x1 x2 x3 x4 x5 x6 x7 x8 x9 x10 x11
  go_wp2
  go_ret
  exact ⟨rfl, below_alloc HB2.out _⟩
theorem getD_memQ {l : List Op4} {i : Nat} (h : i < l.length) : l.getD i zOp4 ∈ l := by
  rw [List.getD_eq_getElem?_getD, List.getElem?_eq_getElem h]; exact List.getElem_mem h
theorem next_both {w : World} {a b : Nat} {FA FB : Nat → Prop} {ls : List LS} {most : Int} {N : Nat} {f : At} (h1 : IsTab w a FA ls most N f) (h2 : IsTR w b FB ls most) (hi : LInv ls) (hn : ls.length ≤ 10000) (c : Cf) (who ad : Int) (wr : Bool) :
    ∃ (x y : Int) (z : Bool) (er : Int), (∀ W, Below w.heap.size w W → Calls Tryz.prog 13 #[.agg #[.int .i64 c.f0, .int .i64 c.f1, .int .i64 c.f2, .int .i64 c.f3, .int .i64 c.f4, .int .i64 c.f5, .int .i64 c.f6, .int .i64 c.f7, .int .i64 c.f8, .int .i64 c.f9, .int .i64 c.f10, .int .i64 c.f11], .pointer (some ⟨a, 0, none⟩), .int .i64 who, .int .i64 ad, .bool wr] W fun e w' => e = .returned (.tuple #[.agg #[.int .i64 x, .int .i64 y], .bool z, .int .i64 er]) ∧ Below W.heap.size W w') ∧
      ∀ W, Below w.heap.size w W → Calls Tryz.prog 14 #[.agg #[.int .i64 c.f0, .int .i64 c.f1, .int .i64 c.f2, .int .i64 c.f3, .int .i64 c.f4, .int .i64 c.f5, .int .i64 c.f6, .int .i64 c.f7, .int .i64 c.f8, .int .i64 c.f9, .int .i64 c.f10, .int .i64 c.f11], .pointer (some ⟨b, 0, none⟩), .int .i64 who, .int .i64 ad, .bool wr] W fun e w' => e = .returned (.tuple #[.agg #[.int .i64 x, .int .i64 y], .bool z, .int .i64 er]) ∧ Below W.heap.size W w' := by
  rcases path_both c ad with ⟨p1, p2⟩ | ⟨r, o, s, p1, p2⟩
  · exact ⟨0, 0, false, 1, fun W hb => NextT_err (h1.below hb) c who ad wr p1, fun W hb => NextTR_err (h2.below hb) c who ad wr p2⟩
  · exact ⟨_, _, _, 0, fun W hb => NextT_ (h1.below hb) hi hn c who ad wr (lvX c) (paX c) (fun j _ => lv_prog c j) (fun j _ => pa_prog c j) r o s p1 _ rfl, fun W hb => NextTR_ (h2.below hb) hi hn c who ad wr (lvX c) (paX c) (fun j _ => lv_ref c j) (fun j _ => pa_ref c j) r o s p2 _ rfl⟩
set_option maxHeartbeats 8000000 in
set_option maxRecDepth 100000 in
theorem tells_long (c : Cf) (A : Option Addr) (cc : Nat) (l : List Op4) (who ad : Int) (wr : Bool) (w : World) (h1 : 300 < l.length) :
    Calls Tryz.prog 3 #[.agg #[.int .i64 c.f0, .int .i64 c.f1, .int .i64 c.f2, .int .i64 c.f3, .int .i64 c.f4, .int .i64 c.f5, .int .i64 c.f6, .int .i64 c.f7, .int .i64 c.f8, .int .i64 c.f9, .int .i64 c.f10, .int .i64 c.f11], .slice A l.length cc, .int .i64 who, .int .i64 ad, .bool wr] w fun e w' => e = .returned (.bool true) ∧ Below w.heap.size w w' := by
  have hu41 := Tryz.underlying23
  have a1 : decide ((l.length : Int) > 300) = true := decide_eq_true (by omega)
  have a2 : decide (300 < l.length) = true := decide_eq_true h1
  have HB0 := Aside0.mk (below_alloc (Below.refl w.heap.size w) (.cells #[.int .i64 c.f0, .int .i64 c.f1, .int .i64 c.f2, .int .i64 c.f3, .int .i64 c.f4, .int .i64 c.f5, .int .i64 c.f6, .int .i64 c.f7, .int .i64 c.f8, .int .i64 c.f9, .int .i64 c.f10, .int .i64 c.f11] 23))
  clear h1
  go_enter Tryz.func3, Tryz.ntmps3
  go_wp2_with fail
  refine (firstP_ _).mono ?_
  rintro e w1 ⟨rfl, hb⟩
  have HB1 := Aside0.mk (below_then HB0.out (by simp) hb)
  clear hb
  go_wp2_with fail
  refine (firstP_ w1).mono ?_
  rintro e w2 ⟨rfl, hb⟩
  have HB2 := Aside0.mk (below_then HB1.out HB1.out.size hb)
  clear hb
  go_wp2
  go_ret
  exact ⟨rfl, HB2.out⟩
set_option maxHeartbeats 64000000 in
set_option maxRecDepth 100000 in
theorem tells_in (c : Cf) (A : Option Addr) (cc : Nat) (l : List Op4) (who ad : Int) (wr : Bool) (w : World) (hr : Kd.C kOp4 w A l.length l) (hc : l.length ≤ cc) (hl : ∀ x ∈ l, ok64 x.f0 ∧ ok64 x.f1 ∧ ok64 x.f2 ∧ ok64 x.f3) (h1 : l.length ≤ 300) :
    Calls Tryz.prog 3 #[.agg #[.int .i64 c.f0, .int .i64 c.f1, .int .i64 c.f2, .int .i64 c.f3, .int .i64 c.f4, .int .i64 c.f5, .int .i64 c.f6, .int .i64 c.f7, .int .i64 c.f8, .int .i64 c.f9, .int .i64 c.f10, .int .i64 c.f11], .slice A l.length cc, .int .i64 who, .int .i64 ad, .bool wr] w fun e w' => e = .returned (.bool true) ∧ Below w.heap.size w w' := by
  have mixed : Tryz.prog.follows Departure.mixedOrders = true := by kernel_rfl
  have hu41 := Tryz.underlying23
  have hu38 := Tryz.underlying41
  have hu33 := Tryz.underlying35
  obtain ⟨n0, hn0, hn1⟩ := nodes_num c
  have HR := Aside0.mk (Kd.C_below hr (below_alloc (Below.refl w.heap.size w) (.cells #[.int .i64 c.f0, .int .i64 c.f1, .int .i64 c.f2, .int .i64 c.f3, .int .i64 c.f4, .int .i64 c.f5, .int .i64 c.f6, .int .i64 c.f7, .int .i64 c.f8, .int .i64 c.f9, .int .i64 c.f10, .int .i64 c.f11] 23)))
  have HN := Aside0.mk (And.intro h1 (And.intro hc hn1))
  have HW := Aside0.mk hl
  have b3 : decide ((l.length : Int) > 300) = false := decide_eq_false (by omega)
  have b4 : decide (l.length > 300) = false := decide_eq_false (by omega)
  have HB0 := Aside0.mk (below_alloc (Below.refl w.heap.size w) (.cells #[.int .i64 c.f0, .int .i64 c.f1, .int .i64 c.f2, .int .i64 c.f3, .int .i64 c.f4, .int .i64 c.f5, .int .i64 c.f6, .int .i64 c.f7, .int .i64 c.f8, .int .i64 c.f9, .int .i64 c.f10, .int .i64 c.f11] 23))
  have HZ := Aside0.mk (blk_new w (.cells #[.int .i64 c.f0, .int .i64 c.f1, .int .i64 c.f2, .int .i64 c.f3, .int .i64 c.f4, .int .i64 c.f5, .int .i64 c.f6, .int .i64 c.f7, .int .i64 c.f8, .int .i64 c.f9, .int .i64 c.f10, .int .i64 c.f11] 23))
  have HNo := Aside0.mk (fun W => nodes_at c (n0 : Int) W hn0)
  clear hr hc hl h1 hn0 hn1
  go_enter Tryz.func3, Tryz.ntmps3
  go_wp2_with fail
  obtain ⟨w0, hw0⟩ : ∃ W, W = w.alloc (.cells #[.int .i64 c.f0, .int .i64 c.f1, .int .i64 c.f2, .int .i64 c.f3, .int .i64 c.f4, .int .i64 c.f5, .int .i64 c.f6, .int .i64 c.f7, .int .i64 c.f8, .int .i64 c.f9, .int .i64 c.f10, .int .i64 c.f11] 23) := ⟨_, rfl⟩
  obtain ⟨g, hg⟩ : ∃ g, g = w.heap.size := ⟨_, rfl⟩
  rw [← hw0, ← hg] at HZ
  rw [← hw0] at HB0 HR
  rw [← hw0, ← hg]
  have HC0 := Aside0.mk (fun (W : World) (hb : Below w0.heap.size w0 W) => (show CfAt c g W from cf_at ((hb.block g (Array.getElem?_eq_some_iff.1 HZ.out).1).trans HZ.out)))
  have HGL := Aside0.mk (Array.getElem?_eq_some_iff.1 HZ.out).1
  clear hw0 hg
  refine (firstP_ w0).mono ?_
  rintro e w1 ⟨rfl, hb1⟩
  have HB1 := Aside0.mk hb1
  obtain ⟨x0, x1, x2, x3, x4, x5, x6, x7, x8, x9, x10, x11⟩ := HC0.out _ hb1
  clear hb1
  go_wp2_with fail
  refine (HNo.out w1).mono ?_
  rintro e w2 ⟨rfl, hb⟩
  have HB2 := Aside0.mk (below_then HB1.out HB1.out.size hb)
  clear hb HNo x0 x1 x2 x3 x4 x5 x6 x7 x8 x9 x10 x11 b3 b4
  obtain ⟨n, hn, hn1, hn2⟩ : ∃ n : Nat, max (n0 : Int) 1 = (n : Int) ∧ 1 ≤ n ∧ n ≤ 1000 := ⟨max n0 1, by omega, by omega, by have := HN.out; omega⟩
  have HNn := Aside0.mk (And.intro hn1 hn2)
  have HNew := Aside0.mk (fun W => NewT_ n 200 W hn1 (by omega) (by decide) (by decide))
  have HNewR := Aside0.mk (fun W => NewTR_ n 200 W hn1 (by omega) (by decide) (by decide))
  have HO0 := Aside0.mk (oinv_zero n (show (0 : Int) ≤ 200 by decide))
  clear hn1 hn2
  go_wp2_with fail
  refine (HNew.out w2).mono ?_
  rintro e w3 ⟨rfl, hT, hb⟩
  have HT2 := Aside0.mk (And.intro hT hb)
  clear hT hb HNew
  go_wp2_with fail
  refine (HNewR.out w3).mono ?_
  rintro e w4 ⟨rfl, hTR, hb⟩
  have HT := Aside0.mk (show TwT (fun _ => False) w0 w4 (w2.heap.size + 1) w3.heap.size (List.replicate n zL) f0 0 (List.replicate n zL) 200 from by
    have s1 := HB2.out.size
    have s2 := HT2.out.2.size
    have s3 := hb.size
    have s0 := HT2.out.1.lt
    refine ⟨fun k => w2.heap.size ≤ k ∧ k < w3.heap.size, fun k => w3.heap.size ≤ k ∧ k < w4.heap.size, (HT2.out.1.mono (fun k hk h => ⟨h, hk⟩)).below hb, hTR.mono (fun k hk h => ⟨h, hk⟩), fun k hk => ⟨by omega, by omega, id⟩, fun k hk => ⟨by omega, by omega, id⟩, fun k hk hk2 => by omega, fun _ h => h.elim, below_then (below_then HB2.out HB2.out.size HT2.out.2) (by omega) hb⟩)
  clear hTR hb HNewR HT2 HB2 HB1
  generalize w2.heap.size + 1 = a at HT ⊢
  generalize w3.heap.size = b at HT ⊢
  go_wp2_with fail
  go_loopg [16] l.length (fun gg v wr' => ∃ (i : Nat) (ls : List LS) (f : At), i ≤ l.length ∧ l.length - i ≤ gg ∧ v = .int .i64 i ∧ Aside0 (TwT (fun _ => False) w0 wr' a b ls f i ls 200) ∧ Aside0 (OInv n 200 i ls f))
  case atStart => exact ⟨0, _, _, by omega, by omega, rfl, HT, HO0⟩
  case round =>
    clear HT HO0
    obtain ⟨wq, rfl⟩ : ∃ x, x = wr := ⟨_, rfl⟩
    obtain ⟨i, ls, f, hi, hgg, rfl, HTi, HV⟩ := hrel
    by_cases hlt : i < l.length
    · have t1 : (i : Int) < l.length := by omega
      have t0 : 0 ≤ (i : Int) := by omega
      have HLT := Aside0.mk (And.intro hlt (And.intro hgg (show i + 1 ≤ 301 by have := HN.out; omega)))
      have W3 := Aside0.mk (show wrap64 ((i : Int) + 1) = ((i + 1 : Nat) : Int) by have := HN.out; unfold wrap64; omega)
      obtain ⟨aa, rfl, q0, q1, q2, q3⟩ := at_Op4 (Kd.C_below HR.out HTi.out.bw) i hlt
      obtain ⟨_, eaa, p0, p1, p2, p3⟩ := at_Op4 HR.out i hlt
      injection eaa with eaa
      subst eaa
      have HQ := Aside0.mk (fun (W : World) (hb : Below w0.heap.size w0 W) => (And.intro (cell_be p1 hb) (And.intro (cell_be p2 hb) (cell_be p3 hb))))
      have HWo := Aside0.mk (HW.out _ (getD_memQ hlt))
      generalize l.getD i zOp4 = o at q0 q1 q2 q3 HWo HQ p0 p1 p2 p3
      clear hi hgg hlt p0 p1 p2 p3
      by_cases hkd : o.f0 = 0
      · have k0 : (o.f0 == 0) = true := beq_iff_eq.2 hkd
        have hfw := fW_is HV.out.t
        have HAA := Aside0.mk (AskTA (HTi.out.below (below_drew (Below.refl _ _))) (HV.out.small (by have := HLT.out; omega) (by have := HNn.out; omega)) (by have := HLT.out; omega) o.f1 o.f2 o.f3 HWo.out.2.1)
        have HAB := Aside0.mk (fun W l2 f2 N (t : TwT (fun _ => False) w0 W a b l2 f2 N ls 200) => AskTB t (HV.out.small (by have := HLT.out; omega) (by have := HNn.out; omega)) HV.out.t.inv o.f1 o.f2 o.f3 hfw)
        have HV1 := Aside0.mk (HV.out.ask HWo.out.2.1 o.f2 o.f3)
        generalize askT ls 200 f o.f1 o.f2 o.f3 = R at HAA HAB HV1
        obtain ⟨r, er, ls2, f2⟩ := R
        dsimp only at HAA HAB HV1
        clear hkd hfw
        go_wp2_with fail
        go_region_held3 (fun W => W.cell? ⟨(aa.add (i * 4)).block, (aa.add (i * 4)).off + 1, none⟩ = some (.int .i64 o.f1) ∧ W.cell? ⟨(aa.add (i * 4)).block, (aa.add (i * 4)).off + 2, none⟩ = some (.int .i64 o.f2) ∧ W.cell? ⟨(aa.add (i * 4)).block, (aa.add (i * 4)).off + 3, none⟩ = some (.int .i64 o.f3))
          (first | exact ⟨q1, q2, q3⟩ | exact ⟨n1, n2, n3⟩)
          (first | (go_at_call 9; refine HAA.out.mono ?_; rintro e w5 ⟨rfl, t5, g5⟩; have T5 := Aside0.mk t5; obtain ⟨n1, n2, n3⟩ := HQ.out _ t5.bw; clear t5 g5))
        clear q0 q1 q2 q3 HAA
        have HABd := Aside0.mk (HAB.out _ _ _ _ (T5.out.below (below_drew (Below.refl _ _))))
        go_wp2_with fail
        go_region_held3 (fun W => W.cell? ⟨(aa.add (i * 4)).block, (aa.add (i * 4)).off + 1, none⟩ = some (.int .i64 o.f1) ∧ W.cell? ⟨(aa.add (i * 4)).block, (aa.add (i * 4)).off + 2, none⟩ = some (.int .i64 o.f2) ∧ W.cell? ⟨(aa.add (i * 4)).block, (aa.add (i * 4)).off + 3, none⟩ = some (.int .i64 o.f3))
          (first | exact ⟨n1, n2, n3⟩ | exact ⟨m1, m2, m3⟩)
          (first | (go_at_call 10; refine HABd.out.mono ?_; rintro e w6 ⟨rfl, t6, g6⟩; have T6 := Aside0.mk t6; obtain ⟨m1, m2, m3⟩ := HQ.out _ t6.bw; clear t6 g6))
        clear n1 n2 n3 m1 m2 m3 HABd HAB
        go_wp2_with fail
        go_roundg (l.length - (i + 1))
        case measure => have := HLT.out; omega
        case rel => exact ⟨i + 1, ls2, f2, by have := HLT.out; omega, by have := HLT.out; omega, by rw [W3.out], T6, HV1⟩
      · have k0 : (o.f0 == 0) = false := beq_eq_false_iff_ne.2 hkd
        have HAA := Aside0.mk (DropTA HTi.out (by rw [HV.out.len]; have := HNn.out; omega) (by rw [HV.out.len]; have := HNn.out; omega) (HV.out.mS (by have := HLT.out; omega)) o.f1 HWo.out.2.1 (HV.out.outs o.f1))
        have HAB := Aside0.mk (fun W X l2 f2 N (t : TwT X w0 W a b l2 f2 N ls 200) => DropTB t (by rw [HV.out.len]; have := HNn.out; omega) (HV.out.mS (by have := HLT.out; omega)) HV.out.t.inv o.f1)
        have HV1 := Aside0.mk ((HV.out.drop o.f1).more)
        generalize dropO ls o.f1 0 = rr at HAA HAB
        generalize dropL ls o.f1 0 = ls2 at HAA HAB HV1
        generalize dropF ls f o.f1 = f2 at HAA HV1
        clear hkd
        go_wp2_with fail
        refine HAA.out.mono ?_
        rintro e w5 ⟨A5, c5, rfl, -, t5, -⟩
        have T5 := Aside0.mk t5
        obtain ⟨n1, n2, n3⟩ := HQ.out _ t5.bw
        clear t5 HAA q0 q1 q2 q3
        go_wp2_with fail
        refine (HAB.out _ _ _ _ _ T5.out).mono ?_
        rintro e w6 ⟨A6, c6, rfl, -, t6, -⟩
        have T6 := Aside0.mk ((t6.less (Y := fun _ => False) (fun _ h => h.elim)).moreN (Nat.le_succ i))
        clear t6 HAB n1 n2 n3
        go_wp2_with fail
        go_roundg (l.length - (i + 1))
        case measure => have := HLT.out; omega
        case rel => exact ⟨i + 1, ls2, f2, by have := HLT.out; omega, by have := HLT.out; omega, by rw [W3.out], T6, HV1⟩
    · obtain rfl : i = l.length := by omega
      have t1 : ¬ ((l.length : Int) < (l.length : Int)) := by omega
      have HBw := Aside0.mk HTi.out.bw
      obtain ⟨FA, hta⟩ := HTi.out.ta
      obtain ⟨FB, htb⟩ := HTi.out.tb
      obtain ⟨x, y, z, er, hA, hB⟩ := next_both hta htb HV.out.t.inv (by rw [HV.out.len]; have := HNn.out; omega) c who ad wr
      have HA := Aside0.mk hA
      have HB := Aside0.mk hB
      have HSA := Aside0.mk (fun (W : World) (hb : Below wq.heap.size wq W) (o : Int) => Stripes_ (hta.below hb) (by rw [HV.out.len]; have := HNn.out; omega) c who o (lvX c) (paX c) (fun j _ => lv_prog c j) (fun j _ => pa_prog c j))
      have HSB := Aside0.mk (fun (W : World) (hb : Below wq.heap.size wq W) (o : Int) => StripesTR_ (htb.below hb) (by rw [HV.out.len]; have := HNn.out; omega) c who o (lvX c) (paX c) (fun j _ => lv_ref c j) (fun j _ => pa_ref c j))
      obtain ⟨x0, x1, x2, x3, x4, x5, x6, x7, x8, x9, x10, x11⟩ := HC0.out _ HBw.out
      clear hta htb hA hB hlt hgg hi
      go_wp2_with fail
      refine (HA.out wq (Below.refl _ _)).mono ?_
      rintro e w5 ⟨rfl, hb5⟩
      have HB5 := Aside0.mk (below_alloc hb5 (.cells #[.int .i64 x, .int .i64 y] 41))
      have P5 := Aside0.mk (blk_new w5 (.cells #[.int .i64 x, .int .i64 y] 41))
      clear x0 x1 x2 x3 x4 x5 x6 x7 x8 x9 x10 x11 t1 hb5 HA
      obtain ⟨x0, x1, x2, x3, x4, x5, x6, x7, x8, x9, x10, x11⟩ := HC0.out _ (below_then HBw.out HBw.out.size HB5.out)
      go_wp2_with fail
      refine (HB.out _ HB5.out).mono ?_
      rintro e w6 ⟨rfl, hb6⟩
      have HB66 := Aside0.mk (below_alloc hb6 (.cells #[.int .i64 x, .int .i64 y] 41))
      have HB6 := Aside0.mk (below_then HB5.out HB5.out.size HB66.out)
      have P6 := Aside0.mk ((HB66.out.block w5.heap.size (Array.getElem?_eq_some_iff.1 P5.out).1).trans P5.out)
      have Q6 := Aside0.mk (blk_new w6 (.cells #[.int .i64 x, .int .i64 y] 41))
      clear hb6 HB x0 x1 x2 x3 x4 x5 x6 x7 x8 x9 x10 x11 P5 HB66
      go_wp2_with fail
      go_loopg [23] (n + 2) (fun gg v wr' => ∃ k : Nat, k ≤ n + 2 ∧ n + 2 - k ≤ gg ∧ v = .int .i64 ((k : Int) - 1) ∧ Aside0 (Below (w6.alloc (.cells #[.int .i64 x, .int .i64 y] 41)).heap.size (w6.alloc (.cells #[.int .i64 x, .int .i64 y] 41)) wr'))
      case atStart => exact ⟨0, by omega, by omega, by first | rfl | simp, ⟨Below.refl _ _⟩⟩
      case round =>
        obtain ⟨k, hk, hgk, rfl, HBk⟩ := hrel
        have HBq := Aside0.mk (below_then HB6.out HB6.out.size HBk.out)
        by_cases hlk : k < n + 2
        · have s1 : (k : Int) - 1 ≤ (n : Int) := by omega
          have s2 : decide ((k : Int) - 1 ≤ (n : Int)) = true := decide_eq_true s1
          have WK := Aside0.mk (show wrap64 (k : Int) = ((k + 1 : Nat) : Int) - 1 by have := HNn.out; unfold wrap64; omega)
          have HKL := Aside0.mk (And.intro hlk hgk)
          obtain ⟨x0, x1, x2, x3, x4, x5, x6, x7, x8, x9, x10, x11⟩ := HC0.out _ (below_then HBw.out HBw.out.size HBq.out)
          have g0 := fun d os => cell_gr x0 d os
          have g1 := fun d os => cell_gr x1 d os
          have g2 := fun d os => cell_gr x2 d os
          have g3 := fun d os => cell_gr x3 d os
          have g4 := fun d os => cell_gr x4 d os
          have g5 := fun d os => cell_gr x5 d os
          have g6 := fun d os => cell_gr x6 d os
          have g7 := fun d os => cell_gr x7 d os
          have g8 := fun d os => cell_gr x8 d os
          have g9 := fun d os => cell_gr x9 d os
          have g10 := fun d os => cell_gr x10 d os
          have g11 := fun d os => cell_gr x11 d os
          have HSa := Aside0.mk (fun d os => HSA.out (grow (wat wr d) os) (below_then HBq.out HBq.out.size (below_gr wr d os)) ((k : Int) - 1))
          have HSb := Aside0.mk (fun d os => HSB.out (grow (wat wr d) os) (below_then HBq.out HBq.out.size (below_gr wr d os)) ((k : Int) - 1))
          generalize stripesT ls who (lvX c) (paX c) ((k : Int) - 1) = st at HSa HSb
          clear hk hgk hlk
          go_wp2_with fail
          refine wp_region_gr mixed (by kernel_rfl) ?_
          repeat (go_big_quiet_step (first | exact Calls.gr_of (HSa.out _ _) | exact Calls.gr_of (HSb.out _ _)))
          refine wpQuiet_nil ?_
          intro _ hw'
          obtain ⟨⟨d, os⟩, rfl⟩ := hw'
          have HBn := Aside0.mk (below_then HBk.out HBk.out.size (below_gr wr d os))
          clear x0 x1 x2 x3 x4 x5 x6 x7 x8 x9 x10 x11 g0 g1 g2 g3 g4 g5 g6 g7 g8 g9 g10 g11 HSa HSb s1 s2
          generalize grow (wat wr d) os = wn at HBn ⊢
          go_wp2_with fail
          go_roundg (n + 2 - (k + 1))
          case measure => have := HKL.out; omega
          case rel => exact ⟨k + 1, by have := HKL.out; omega, by have := HKL.out; omega, by rw [WK.out], HBn⟩
        · obtain rfl : k = n + 2 := by omega
          have s1 : ¬ (((n + 2 : Nat) : Int) - 1 ≤ (n : Int)) := by omega
          have s2 : decide (((n + 2 : Nat) : Int) - 1 ≤ (n : Int)) = false := decide_eq_false s1
          clear hk hgk hlk
          go_wp2_with fail
          refine (firstP_ wr).mono ?_
          rintro e w9 ⟨rfl, hb9⟩
          have hbb := below_then HBk.out HBk.out.size hb9
          have HB9 := Aside0.mk (below_then HBq.out HBq.out.size hb9)
          have zp := (hbb.block w5.heap.size (Array.getElem?_eq_some_iff.1 P6.out).1).trans P6.out
          have zq := (hbb.block w6.heap.size (Array.getElem?_eq_some_iff.1 Q6.out).1).trans Q6.out
          have c1 : w9.cell? ⟨w5.heap.size, 0, none⟩ = some (.int .i64 x) := (blk_cell zp 0).trans rfl
          have c2 : w9.cell? ⟨w5.heap.size, 1, none⟩ = some (.int .i64 y) := (blk_cell zp 1).trans rfl
          have c3 : w9.cell? ⟨w6.heap.size, 0, none⟩ = some (.int .i64 x) := (blk_cell zq 0).trans rfl
          have c4 : w9.cell? ⟨w6.heap.size, 1, none⟩ = some (.int .i64 y) := (blk_cell zq 1).trans rfl
          clear hb9 hbb zp zq
          go_wp2
          go_ret
          exact ⟨by first | rfl | simp, below_then HB0.out HB0.out.size (below_then HBw.out HBw.out.size HB9.out)⟩
theorem tells_walk (c : Cf) (A : Option Addr) (cc : Nat) (l : List Op4) (who ad : Int) (wr : Bool) (w : World) (hr : Kd.C kOp4 w A l.length l) (hc : l.length ≤ cc) (hw : l.length ≤ maxLen) (hl : ∀ x ∈ l, ok64 x.f0 ∧ ok64 x.f1 ∧ ok64 x.f2 ∧ ok64 x.f3) (hwho : ok64 who) (had : ok64 ad) :
    Calls Tryz.prog 3 #[.agg #[.int .i64 c.f0, .int .i64 c.f1, .int .i64 c.f2, .int .i64 c.f3, .int .i64 c.f4, .int .i64 c.f5, .int .i64 c.f6, .int .i64 c.f7, .int .i64 c.f8, .int .i64 c.f9, .int .i64 c.f10, .int .i64 c.f11], .slice A l.length cc, .int .i64 who, .int .i64 ad, .bool wr] w fun e w' => e = .returned (.bool true) ∧ Below w.heap.size w w' := by
  by_cases h : l.length ≤ 300
  · exact tells_in c A cc l who ad wr w hr hc hl h
  · exact tells_long c A cc l who ad wr w (by omega)
end Go.Proofs.YtkceadieigpolaaGreat.Ln
