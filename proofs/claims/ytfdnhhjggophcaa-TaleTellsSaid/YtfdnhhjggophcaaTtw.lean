/- TaleTells: its walk. -/
import Derived.Test.YtfdnhhjggophcaaTtP
import Derived.Deep.RegionHeld3
import Derived.Outline
namespace Go.Proofs.Ytfdnhhjggophcaa.Tc
open Go.RowKit Go.Proofs.Ytfdnhhjggophcaa.PAb Go.Proofs.YtfdnhhjggophcaaW.PrintWords Go.Proofs.YtfdnhhjggophcaaW.PrintLast Go.Proofs.YtfdnhhjggophcaaW.PrintMore
set_option linter.unusedVariables false
set_option linter.unusedSimpArgs false
/-- A configuration. -/
structure Cf where
  (f0 f1 f2 f3 f4 f5 f6 f7 f8 f9 f10 f11 : Int)
theorem cell_be2 {w w' : World} {a : Addr} {v : Value} (hc : w.cell? a = some v) (h : Below w.heap.size w w') : w'.cell? a = some v := (h.cell (World.block_lt_of_cell? w _ hc)).trans hc
theorem small_any (n pol : Int) : ∃ m p, tale_Small.f n pol = some (2, 2, 2, 2, m, 2, 4, 200, 20, 2, 200, p) := by
  unfold tale_Small.f calc_Wrap.f
  rw [if_neg (by omega), if_neg (by omega)]
  by_cases h : Int.tmod pol 3 < 0
  · rw [if_pos h]; exact ⟨_, _, rfl⟩
  · rw [if_neg h]; exact ⟨_, _, rfl⟩
set_option maxHeartbeats 4000000 in
theorem tells_early (A0 : Option Addr) (c0 : Nat) (l0 : List Int) (n pol : Int) (c : Cf) (A4 : Option Addr) (c4 : Nat) (l4 : List Int) (w : World) (h : 3000 < l0.length ∨ 5000 < l4.length) :
    Calls Try.prog 4 #[.slice A0 l0.length c0, .int .i64 n, .int .i64 pol, .agg #[.int .i64 c.f0, .int .i64 c.f1, .int .i64 c.f2, .int .i64 c.f3, .int .i64 c.f4, .int .i64 c.f5, .int .i64 c.f6, .int .i64 c.f7, .int .i64 c.f8, .int .i64 c.f9, .int .i64 c.f10, .int .i64 c.f11], .slice A4 l4.length c4] w fun e w' => e = .returned (.bool true) ∧ Below w.heap.size w w' := by
  have HF := Aside0.mk (fun W => ltklaw23_first.calls 200 true W first_at)
  have key : ∀ a b : Bool, decide (l0.length > 3000) = a → decide (l4.length > 5000) = b → (a || b) = true →
      Calls Try.prog 4 #[.slice A0 l0.length c0, .int .i64 n, .int .i64 pol, .agg #[.int .i64 c.f0, .int .i64 c.f1, .int .i64 c.f2, .int .i64 c.f3, .int .i64 c.f4, .int .i64 c.f5, .int .i64 c.f6, .int .i64 c.f7, .int .i64 c.f8, .int .i64 c.f9, .int .i64 c.f10, .int .i64 c.f11], .slice A4 l4.length c4] w fun e w' => e = .returned (.bool true) ∧ Below w.heap.size w w' := by
    intro a b ha hb h
    have ha' : decide ((l0.length : Int) > 3000) = a := by rw [← ha]; exact decide_eq_decide.2 (by omega)
    have hb' : decide ((l4.length : Int) > 5000) = b := by rw [← hb]; exact decide_eq_decide.2 (by omega)
    cases a with
    | true =>
      go_enter Try.func4, Try.ntmps4
      go_wp2_with fail
      refine (HF.out _).mono ?_
      rintro e w1 ⟨rfl, hb1⟩
      have HB := Aside0.mk (below_then (below_alloc (Below.refl _ _) _) (below_alloc (Below.refl _ _) _).size hb1)
      clear hb1
      go_wp2_with fail
      refine (HF.out w1).mono ?_
      rintro e w2 ⟨rfl, hb2⟩
      have HB2 := Aside0.mk (below_then HB.out HB.out.size hb2)
      clear hb2
      go_wp2
      go_ret
      exact ⟨rfl, HB2.out⟩
    | false =>
    cases b with
    | true =>
      go_enter Try.func4, Try.ntmps4
      go_wp2_with fail
      refine (HF.out _).mono ?_
      rintro e w1 ⟨rfl, hb1⟩
      have HB := Aside0.mk (below_then (below_alloc (Below.refl _ _) _) (below_alloc (Below.refl _ _) _).size hb1)
      clear hb1
      go_wp2_with fail
      refine (HF.out w1).mono ?_
      rintro e w2 ⟨rfl, hb2⟩
      have HB2 := Aside0.mk (below_then HB.out HB.out.size hb2)
      clear hb2
      go_wp2
      go_ret
      exact ⟨rfl, HB2.out⟩
    | false =>
    cases h
  refine key _ _ rfl rfl ?_
  simp only [Bool.or_eq_true, decide_eq_true_eq]
  omega
set_option maxHeartbeats 16000000 in
set_option maxRecDepth 100000 in
theorem tells_in (A0 : Option Addr) (c0 : Nat) (l0 : List Int) (n pol : Int) (c : Cf) (A4 : Option Addr) (c4 : Nat) (l4 : List Int) (w : World) (hr0 : Kd.C (Kd.int .u8) w A0 l0.length l0) (hc0 : l0.length ≤ c0) (hb0 : ∀ x ∈ l0, byt x) (hn : n ≤ 9223372036854775807)
    (hr4 : Kd.C (Kd.int .i64) w A4 l4.length l4) (hc4 : l4.length ≤ c4) (h0 : l0.length ≤ 3000) (h4 : l4.length ≤ 5000) :
    Calls Try.prog 4 #[.slice A0 l0.length c0, .int .i64 n, .int .i64 pol, .agg #[.int .i64 c.f0, .int .i64 c.f1, .int .i64 c.f2, .int .i64 c.f3, .int .i64 c.f4, .int .i64 c.f5, .int .i64 c.f6, .int .i64 c.f7, .int .i64 c.f8, .int .i64 c.f9, .int .i64 c.f10, .int .i64 c.f11], .slice A4 l4.length c4] w fun e w' => e = .returned (.bool true) ∧ Below w.heap.size w w' := by
  obtain ⟨sm, sp, hsm⟩ := small_any n pol
  obtain ⟨HP_, hHl, hH1, hH2⟩ := heap_any c.f0 c.f1 c.f2 c.f3 c.f4 c.f5 c.f6 c.f7 c.f8 c.f9 c.f10 c.f11 l4
  have hu25 := Try.underlying25
  have HF := Aside0.mk (fun W => ltklaw23_first.calls 200 true W first_at)
  have HT1 := Aside0.mk (fun W (hb : Below w.heap.size w W) => tale_Threads.calls 1000 A0 c0 l0 n (thS l0 n) W (Kd.C_below hr0 hb) hc0 (threads_f l0 (by omega) hb0 n (by omega)))
  have HT2 := Aside0.mk (fun W (hb : Below w.heap.size w W) => ltkref20_Threads.calls 1000 A0 c0 l0 n (thS l0 n) W (Kd.C_below hr0 hb) hc0 (refthreads_f l0 (by omega) hb0 n (by omega)))
  have HPl := Aside0.mk (thS_plain l0 n)
  generalize thS l0 n = T at HT1 HT2 HPl
  have HSm := Aside0.mk (fun q W A B cA cB hA hcA hB hcB => ltkref5_Same.calls 300 A cA (progS q) B cB (progS q) true W hA hcA hB hcB (same_prog q))
  have HS1 := Aside0.mk (fun W => tale_Small.calls n pol 2 2 2 2 sm 2 4 200 20 2 200 sp W hsm)
  have HS2 := Aside0.mk (fun W => ltkref20_Small.calls n pol 2 2 2 2 sm 2 4 200 20 2 200 sp W ((small_same n pol).trans hsm))
  have HP1 := Aside0.mk (fun W (hb : Below w.heap.size w W) => tale_Prog.calls 200 A0 c0 l0 (progS l0) W (Kd.C_below hr0 hb) hc0 (prog_f l0 (by omega) hb0 (by omega)))
  have HP2 := Aside0.mk (fun W (hb : Below w.heap.size w W) => ltkref20_Prog.calls 300 A0 c0 l0 (progS l0) W (Kd.C_below hr0 hb) hc0 (refprog_f l0 (by omega) hb0 (by omega)))
  have hpl := picks_small l0 n h0
  have HK1 := Aside0.mk (fun W (hb : Below w.heap.size w W) => tale_Picks.calls 5000 A0 c0 l0 n (if n < 1 then [] else picksS l0 n) W (Kd.C_below hr0 hb) hc0 (picks_f l0 (by omega) hb0 n (by omega)))
  have HK2 := Aside0.mk (fun W (hb : Below w.heap.size w W) => ltkref20_Picks.calls 5000 A0 c0 l0 n (if n < 1 then [] else picksS l0 n) W (Kd.C_below hr0 hb) hc0 (refpicks_f l0 (by omega) hb0 n hn (by omega)))
  generalize (if n < 1 then ([] : List Int) else picksS l0 n) = PK at hpl HK1 HK2
  have HI1 := Aside0.mk (fun W A B cA cB hA hcA hB hcB => ltkref_Ints.calls 70000 A cA PK B cB PK true W hA hcA hB hcB (ints_same PK (by omega) (by omega)))
  have HI2 := Aside0.mk (fun W A B cA cB hA hcA hB hcB => ltkref_Ints.calls 70000 A cA HP_ B cB HP_ true W hA hcA hB hcB (ints_same HP_ (by omega) (by omega)))
  have HH1 := Aside0.mk (fun W (hb : Below w.heap.size w W) => tale_Heap.calls c.f0 c.f1 c.f2 c.f3 c.f4 c.f5 c.f6 c.f7 c.f8 c.f9 c.f10 c.f11 A4 c4 l4 HP_ W (Kd.C_below hr4 hb) hc4 hH1)
  have HH2 := Aside0.mk (fun W (hb : Below w.heap.size w W) => ltkref20_Heap.calls 10 c.f0 c.f1 c.f2 c.f3 c.f4 c.f5 c.f6 c.f7 c.f8 c.f9 c.f10 c.f11 A4 c4 l4 HP_ W (Kd.C_below hr4 hb) hc4 hH2)
  have a1 : decide ((l0.length : Int) > 3000) = false := decide_eq_false (by omega)
  have a2 : decide (l0.length > 3000) = false := decide_eq_false (by omega)
  have a5 : decide ((l4.length : Int) > 5000) = false := decide_eq_false (by omega)
  have a6 : decide (l4.length > 5000) = false := decide_eq_false (by omega)
  clear hr0 hc0 hr4 hc4 h0 h4 hn hsm hH1 hH2 hHl hpl hb0
  go_enter Try.func4, Try.ntmps4
  go_wp2_with fail
  refine (HF.out _).mono ?_
  rintro e w1 ⟨rfl, hb⟩
  have BK := Aside0.mk (blk_below (blk_new w (.cells #[.int .i64 c.f0, .int .i64 c.f1, .int .i64 c.f2, .int .i64 c.f3, .int .i64 c.f4, .int .i64 c.f5, .int .i64 c.f6, .int .i64 c.f7, .int .i64 c.f8, .int .i64 c.f9, .int .i64 c.f10, .int .i64 c.f11] 25)) hb)
  have HB1 := Aside0.mk (below_then (below_alloc (Below.refl _ _) _) (below_alloc (Below.refl _ _) _).size hb)
  clear hb
  generalize hg : w.heap.size = g at BK
  have HG := Aside0.mk hg
  have HX := Aside0.mk (fun W (hb : Below w1.heap.size w1 W) => (show W.cell? ⟨g, 0, none⟩ = some (.int .i64 c.f0) ∧ W.cell? ⟨g, 1, none⟩ = some (.int .i64 c.f1) ∧ W.cell? ⟨g, 2, none⟩ = some (.int .i64 c.f2) ∧ W.cell? ⟨g, 3, none⟩ = some (.int .i64 c.f3) ∧ W.cell? ⟨g, 4, none⟩ = some (.int .i64 c.f4) ∧ W.cell? ⟨g, 5, none⟩ = some (.int .i64 c.f5) ∧ W.cell? ⟨g, 6, none⟩ = some (.int .i64 c.f6) ∧ W.cell? ⟨g, 7, none⟩ = some (.int .i64 c.f7) ∧ W.cell? ⟨g, 8, none⟩ = some (.int .i64 c.f8) ∧ W.cell? ⟨g, 9, none⟩ = some (.int .i64 c.f9) ∧ W.cell? ⟨g, 10, none⟩ = some (.int .i64 c.f10) ∧ W.cell? ⟨g, 11, none⟩ = some (.int .i64 c.f11) from by
    have h := (hb.block g (Array.getElem?_eq_some_iff.1 BK.out).1).trans BK.out
    exact ⟨(blk_cell h 0).trans rfl, (blk_cell h 1).trans rfl, (blk_cell h 2).trans rfl, (blk_cell h 3).trans rfl, (blk_cell h 4).trans rfl, (blk_cell h 5).trans rfl, (blk_cell h 6).trans rfl, (blk_cell h 7).trans rfl, (blk_cell h 8).trans rfl, (blk_cell h 9).trans rfl, (blk_cell h 10).trans rfl, (blk_cell h 11).trans rfl⟩))
  clear hg
  go_wp2_with fail
  (try rw [HG.out])
  refine (HT1.out _ HB1.out).mono ?_
  rintro e w2 ⟨v0, rfl, hN, hb⟩
  obtain ⟨A2, c2, rfl, hc2, hC2⟩ := Kd.N_reads hN
  have E2 := Aside0.mk hb
  have HB2 := Aside0.mk (below_then HB1.out HB1.out.size hb)
  clear hN hb
  go_wp2_with fail
  refine (HT2.out _ HB2.out).mono ?_
  rintro e w3 ⟨v0, rfl, hN, hb⟩
  obtain ⟨A3, c3, rfl, hc3, hC3⟩ := Kd.N_reads hN
  have HC2 := Aside0.mk (Kd.C_below hC2 hb)
  have HC3 := Aside0.mk hC3
  have E3 := Aside0.mk (below_then E2.out E2.out.size hb)
  clear hN hb hC2 hC3 hc2 hc3 E2 HB2 a1 a2 a5 a6
  go_wp2_with fail
  go_loopg [13] T.length (fun gg v wr => ∃ i : Nat, i ≤ T.length ∧ T.length - i ≤ gg ∧ v = .int .i64 i ∧ Aside0 (Below w3.heap.size w3 wr))
  case atStart => exact ⟨0, by omega, by omega, rfl, ⟨Below.refl _ _⟩⟩
  case round =>
    obtain ⟨i, hi, hgi, rfl, HC⟩ := hrel
    obtain ⟨wo, rfl⟩ : ∃ wo : World, wo = wr := ⟨_, rfl⟩
    by_cases hlt : i < T.length
    · obtain ⟨ad2, B2, cB2, rfl, r2, hcB2, hCB2⟩ := at_L5 (Kd.C_below HC2.out HC.out) (i : Int) (by omega) (by omega)
      obtain ⟨ad3, B3, cB3, rfl, r3, hcB3, hCB3⟩ := at_L5 (Kd.C_below HC3.out HC.out) (i : Int) (by omega) (by omega)
      have ht := HPl.out.two i hlt
      rw [ht] at r2 r3 hcB2 hcB3 hCB2 hCB3
      rw [Int.toNat_natCast] at r2 r3
      have HCB2 := Aside0.mk hCB2
      have HCB3 := Aside0.mk hCB3
      have HLT := Aside0.mk (And.intro hlt hgi)
      have HQ := Aside0.mk (fun j (hj : j < 2) => HPl.out.prog i j hlt hj)
      have t1 : (i : Int) < (T.length : Int) := by omega
      have t0 : 0 ≤ (i : Int) := by omega
      have W3 := Aside0.mk (show wrap64 ((i : Int) + 1) = ((i + 1 : Nat) : Int) by have := HPl.out.len; rw [wrap_in (by omega) (by omega)]; omega)
      have HS := Aside0.mk (fun W (hb : Below wo.heap.size wo W) => (show W.cell? (ad2.add i) = some (.slice B2 2 cB2) ∧ W.cell? (ad3.add i) = some (.slice B3 2 cB3) from ⟨cell_be2 r2 hb, cell_be2 r3 hb⟩))
      clear hlt hgi hi ht hcB2 hcB3 hCB2 hCB3 r2 r3
      go_wp2_with fail
      refine wp_region_held_drew (S := (fun W => W.cell? (ad2.add i) = some (.slice B2 2 cB2) ∧ W.cell? (ad3.add i) = some (.slice B3 2 cB3))) (by kernel_rfl) ?_ (fun hH => ?_)
      · exact HS.out _ (below_drew (Below.refl _ _))
      refine wpAnyH_take (i := 0) (oi := { dst := some 43, op := Op.move (Operand.tmp 11), type := 31, pos := "law.go:37", after := #[], guard := none }) (v := ?av0) rfl (by kernel_rfl) (by kernel_rfl) (by kernel_rfl) (fun _ _ _ h => h) (Or.inl ⟨by rfl, ?ay0⟩) (by assumption) ?ar0
      case ay0 => (intro w hSw; (try dsimp only at hSw); go_simp; (try with_reducible rfl))
      (try simp only [Act.put, List.setIfInBounds_toArray, List.set_cons_zero, List.set_cons_succ])
      refine wpAnyH_take (i := 1) (oi := { dst := some 44, op := Op.move (Operand.tmp 13), type := 3, pos := "law.go:37", after := #[], guard := none }) (v := ?av1) rfl (by kernel_rfl) (by kernel_rfl) (by kernel_rfl) (fun _ _ _ h => h) (Or.inl ⟨by rfl, ?ay1⟩) (by assumption) ?ar1
      case ay1 => (intro w hSw; (try dsimp only at hSw); go_simp; (try with_reducible rfl))
      (try simp only [Act.put, List.setIfInBounds_toArray, List.set_cons_zero, List.set_cons_succ])
      refine wpAnyH_take (i := 2) (oi := { dst := some 45, op := Op.indexAddr 31 (Operand.tmp 43) (Operand.tmp 44), type := 0, pos := "law.go:37", after := #[{ on := 0, ground := Ground.data }, { on := 1, ground := Ground.data }], guard := none }) (v := ?av2) rfl (by kernel_rfl) (by kernel_rfl) (by kernel_rfl) (fun _ _ _ h => h) (Or.inl ⟨by rfl, ?ay2⟩) (by assumption) ?ar2
      case ay2 => (intro w hSw; (try dsimp only at hSw); go_simp; (try with_reducible rfl))
      (try simp only [Act.put, List.setIfInBounds_toArray, List.set_cons_zero, List.set_cons_succ])
      refine wpAnyH_take (i := 3) (oi := { dst := some 46, op := Op.load 26 (Operand.tmp 45), type := 26, pos := "law.go:37", after := #[{ on := 2, ground := Ground.data }], guard := none }) (v := ?av3) rfl (by kernel_rfl) (by kernel_rfl) (by kernel_rfl) (fun _ _ _ h => h) (Or.inl ⟨by rfl, ?ay3⟩) (by assumption) ?ar3
      case ay3 => (intro w hSw; (try dsimp only at hSw); go_simp; (try with_reducible rfl))
      (try simp only [Act.put, List.setIfInBounds_toArray, List.set_cons_zero, List.set_cons_succ])
      refine wpAnyH_take (i := 4) (oi := { dst := some 47, op := Op.call { callee := Callee.builtin Builtin.len, args := #[Operand.tmp 46], argTypes := #[26] }, type := 3, pos := "law.go:37", after := #[{ on := 3, ground := Ground.data }], guard := none }) (v := ?av4) rfl (by kernel_rfl) (by kernel_rfl) (by kernel_rfl) (fun _ _ _ h => h) (Or.inl ⟨by rfl, ?ay4⟩) (by assumption) ?ar4
      case ay4 => (intro w hSw; (try dsimp only at hSw); go_simp; (try with_reducible rfl))
      (try simp only [Act.put, List.setIfInBounds_toArray, List.set_cons_zero, List.set_cons_succ])
      refine wpAnyH_take (i := 5) (oi := { dst := some 48, op := Op.move (Operand.tmp 12), type := 31, pos := "law.go:37", after := #[], guard := none }) (v := ?av5) rfl (by kernel_rfl) (by kernel_rfl) (by kernel_rfl) (fun _ _ _ h => h) (Or.inl ⟨by rfl, ?ay5⟩) (by assumption) ?ar5
      case ay5 => (intro w hSw; (try dsimp only at hSw); go_simp; (try with_reducible rfl))
      (try simp only [Act.put, List.setIfInBounds_toArray, List.set_cons_zero, List.set_cons_succ])
      refine wpAnyH_take (i := 6) (oi := { dst := some 49, op := Op.move (Operand.tmp 13), type := 3, pos := "law.go:37", after := #[], guard := none }) (v := ?av6) rfl (by kernel_rfl) (by kernel_rfl) (by kernel_rfl) (fun _ _ _ h => h) (Or.inl ⟨by rfl, ?ay6⟩) (by assumption) ?ar6
      case ay6 => (intro w hSw; (try dsimp only at hSw); go_simp; (try with_reducible rfl))
      (try simp only [Act.put, List.setIfInBounds_toArray, List.set_cons_zero, List.set_cons_succ])
      refine wpAnyH_take (i := 7) (oi := { dst := some 50, op := Op.indexAddr 31 (Operand.tmp 48) (Operand.tmp 49), type := 0, pos := "law.go:37", after := #[{ on := 5, ground := Ground.data }, { on := 6, ground := Ground.data }], guard := none }) (v := ?av7) rfl (by kernel_rfl) (by kernel_rfl) (by kernel_rfl) (fun _ _ _ h => h) (Or.inl ⟨by rfl, ?ay7⟩) (by assumption) ?ar7
      case ay7 => (intro w hSw; (try dsimp only at hSw); go_simp; (try with_reducible rfl))
      (try simp only [Act.put, List.setIfInBounds_toArray, List.set_cons_zero, List.set_cons_succ])
      refine wpAnyH_take (i := 8) (oi := { dst := some 51, op := Op.load 26 (Operand.tmp 50), type := 26, pos := "law.go:37", after := #[{ on := 7, ground := Ground.data }], guard := none }) (v := ?av8) rfl (by kernel_rfl) (by kernel_rfl) (by kernel_rfl) (fun _ _ _ h => h) (Or.inl ⟨by rfl, ?ay8⟩) (by assumption) ?ar8
      case ay8 => (intro w hSw; (try dsimp only at hSw); go_simp; (try with_reducible rfl))
      (try simp only [Act.put, List.setIfInBounds_toArray, List.set_cons_zero, List.set_cons_succ])
      refine wpAnyH_take (i := 9) (oi := { dst := some 52, op := Op.call { callee := Callee.builtin Builtin.len, args := #[Operand.tmp 51], argTypes := #[26] }, type := 3, pos := "law.go:37", after := #[{ on := 8, ground := Ground.data }], guard := none }) (v := ?av9) rfl (by kernel_rfl) (by kernel_rfl) (by kernel_rfl) (fun _ _ _ h => h) (Or.inl ⟨by rfl, ?ay9⟩) (by assumption) ?ar9
      case ay9 => (intro w hSw; (try dsimp only at hSw); go_simp; (try with_reducible rfl))
      (try simp only [Act.put, List.setIfInBounds_toArray, List.set_cons_zero, List.set_cons_succ])
      refine wpAnyH_take (i := 10) (oi := { dst := some 53, op := Op.binOp BinOp.neq 3 (Operand.tmp 47) (Operand.tmp 52) 3, type := 4, pos := "law.go:37", after := #[{ on := 4, ground := Ground.data }, { on := 9, ground := Ground.data }], guard := none }) (v := ?av10) rfl (by kernel_rfl) (by kernel_rfl) (by kernel_rfl) (fun _ _ _ h => h) (Or.inl ⟨by rfl, ?ay10⟩) (by assumption) ?ar10
      case ay10 => (intro w hSw; (try dsimp only at hSw); go_simp; (try with_reducible rfl))
      (try simp only [Act.put, List.setIfInBounds_toArray, List.set_cons_zero, List.set_cons_succ])
      refine wpAnyH_done (by kernel_rfl) ?_ _
      go_wp2_with fail
      have HDr := Aside0.mk (below_drew (Below.refl wo.heap.size wo))
      go_loopg [14] 2 (fun gg v wr2 => ∃ k : Nat, k ≤ 2 ∧ 2 - k ≤ gg ∧ v = .int .i64 k ∧ Aside0 (Below wo.heap.size wo wr2))
      case atStart => exact ⟨0, by omega, by omega, rfl, HDr⟩
      case round =>
        obtain ⟨k, hk, hgk, rfl, HD⟩ := hrel
        obtain ⟨q0_, q1_⟩ := HS.out _ HD.out
        by_cases hlk : k < 2
        · have t5 : (k : Int) < 2 := by omega
          have t6 : 0 ≤ (k : Int) := by omega
          obtain ⟨adB, C2, cC2, rfl, r2, hcC2, hCC2⟩ := at_L4 (Kd.C_below HCB2.out HD.out) (k : Int) (by omega) (by omega)
          obtain ⟨adD, C3, cC3, rfl, r3, hcC3, hCC3⟩ := at_L4 (Kd.C_below HCB3.out HD.out) (k : Int) (by omega) (by omega)
          obtain ⟨q, hq⟩ := HQ.out k hlk
          rw [hq] at r2 r3 hcC2 hCC2 hcC3 hCC3
          rw [Int.toNat_natCast] at r2 r3
          have HKk := Aside0.mk (And.intro hlk hgk)
          have HSq := Aside0.mk (HSm.out q)
          generalize progS q = PQ at r2 r3 hcC2 hCC2 hcC3 hCC3 HSq
          have HS6 := Aside0.mk (fun W (hb : Below wr.heap.size wr W) => (show W.cell? (ad2.add i) = some (.slice (some adB) 2 cB2) ∧ W.cell? (ad3.add i) = some (.slice (some adD) 2 cB3) ∧ W.cell? (adB.add k) = some (.slice C2 PQ.length cC2) ∧ W.cell? (adD.add k) = some (.slice C3 PQ.length cC3) from ⟨cell_be2 q0_ hb, cell_be2 q1_ hb, cell_be2 r2 hb, cell_be2 r3 hb⟩))
          have HBd := Aside0.mk (below_drew (Below.refl wr.heap.size wr))
          have HCC2 := Aside0.mk (Kd.C_below hCC2 HBd.out)
          have HCC3 := Aside0.mk (Kd.C_below hCC3 HBd.out)
          have HcC2 := Aside0.mk hcC2
          have HcC3 := Aside0.mk hcC3
          have WK := Aside0.mk (show wrap64 ((k : Int) + 1) = ((k + 1 : Nat) : Int) by rw [wrap_in (by omega) (by omega)]; omega)
          clear hq hCC2 hcC2 hCC3 hcC3 hlk hgk hk r2 r3
          go_wp2_with fail
          refine wp_region_held_drew (S := (fun W => W.cell? (ad2.add i) = some (.slice (some adB) 2 cB2) ∧ W.cell? (ad3.add i) = some (.slice (some adD) 2 cB3) ∧ W.cell? (adB.add k) = some (.slice C2 PQ.length cC2) ∧ W.cell? (adD.add k) = some (.slice C3 PQ.length cC3))) (by kernel_rfl) ?_ (fun hH => ?_)
          · exact HS6.out _ HBd.out
          refine wpAnyH_take (i := 0) (oi := { dst := some 63, op := Op.move (Operand.tmp 11), type := 31, pos := "law.go:41", after := #[], guard := none }) (v := ?bv0) rfl (by kernel_rfl) (by kernel_rfl) (by kernel_rfl) (fun _ _ _ h => h) (Or.inl ⟨by rfl, ?by0⟩) (by assumption) ?br0
          case by0 => (intro w hSw; (try dsimp only at hSw); go_simp; (try with_reducible rfl))
          (try simp only [Act.put, List.setIfInBounds_toArray, List.set_cons_zero, List.set_cons_succ])
          refine wpAnyH_take (i := 1) (oi := { dst := some 64, op := Op.move (Operand.tmp 13), type := 3, pos := "law.go:41", after := #[], guard := none }) (v := ?bv1) rfl (by kernel_rfl) (by kernel_rfl) (by kernel_rfl) (fun _ _ _ h => h) (Or.inl ⟨by rfl, ?by1⟩) (by assumption) ?br1
          case by1 => (intro w hSw; (try dsimp only at hSw); go_simp; (try with_reducible rfl))
          (try simp only [Act.put, List.setIfInBounds_toArray, List.set_cons_zero, List.set_cons_succ])
          refine wpAnyH_take (i := 2) (oi := { dst := some 65, op := Op.indexAddr 31 (Operand.tmp 63) (Operand.tmp 64), type := 0, pos := "law.go:41", after := #[{ on := 0, ground := Ground.data }, { on := 1, ground := Ground.data }], guard := none }) (v := ?bv2) rfl (by kernel_rfl) (by kernel_rfl) (by kernel_rfl) (fun _ _ _ h => h) (Or.inl ⟨by rfl, ?by2⟩) (by assumption) ?br2
          case by2 => (intro w hSw; (try dsimp only at hSw); go_simp; (try with_reducible rfl))
          (try simp only [Act.put, List.setIfInBounds_toArray, List.set_cons_zero, List.set_cons_succ])
          refine wpAnyH_take (i := 3) (oi := { dst := some 66, op := Op.load 26 (Operand.tmp 65), type := 26, pos := "law.go:41", after := #[{ on := 2, ground := Ground.data }], guard := none }) (v := ?bv3) rfl (by kernel_rfl) (by kernel_rfl) (by kernel_rfl) (fun _ _ _ h => h) (Or.inl ⟨by rfl, ?by3⟩) (by assumption) ?br3
          case by3 => (intro w hSw; (try dsimp only at hSw); go_simp; (try with_reducible rfl))
          (try simp only [Act.put, List.setIfInBounds_toArray, List.set_cons_zero, List.set_cons_succ])
          refine wpAnyH_take (i := 4) (oi := { dst := some 67, op := Op.move (Operand.tmp 14), type := 3, pos := "law.go:41", after := #[], guard := none }) (v := ?bv4) rfl (by kernel_rfl) (by kernel_rfl) (by kernel_rfl) (fun _ _ _ h => h) (Or.inl ⟨by rfl, ?by4⟩) (by assumption) ?br4
          case by4 => (intro w hSw; (try dsimp only at hSw); go_simp; (try with_reducible rfl))
          (try simp only [Act.put, List.setIfInBounds_toArray, List.set_cons_zero, List.set_cons_succ])
          refine wpAnyH_take (i := 5) (oi := { dst := some 68, op := Op.indexAddr 26 (Operand.tmp 66) (Operand.tmp 67), type := 0, pos := "law.go:41", after := #[{ on := 3, ground := Ground.data }, { on := 4, ground := Ground.data }], guard := none }) (v := ?bv5) rfl (by kernel_rfl) (by kernel_rfl) (by kernel_rfl) (fun _ _ _ h => h) (Or.inl ⟨by rfl, ?by5⟩) (by assumption) ?br5
          case by5 => (intro w hSw; (try dsimp only at hSw); go_simp; (try with_reducible rfl))
          (try simp only [Act.put, List.setIfInBounds_toArray, List.set_cons_zero, List.set_cons_succ])
          refine wpAnyH_take (i := 6) (oi := { dst := some 69, op := Op.load 22 (Operand.tmp 68), type := 22, pos := "law.go:41", after := #[{ on := 5, ground := Ground.data }], guard := none }) (v := ?bv6) rfl (by kernel_rfl) (by kernel_rfl) (by kernel_rfl) (fun _ _ _ h => h) (Or.inl ⟨by rfl, ?by6⟩) (by assumption) ?br6
          case by6 => (intro w hSw; (try dsimp only at hSw); go_simp; (try with_reducible rfl))
          (try simp only [Act.put, List.setIfInBounds_toArray, List.set_cons_zero, List.set_cons_succ])
          refine wpAnyH_take (i := 7) (oi := { dst := some 70, op := Op.move (Operand.tmp 12), type := 31, pos := "law.go:41", after := #[], guard := none }) (v := ?bv7) rfl (by kernel_rfl) (by kernel_rfl) (by kernel_rfl) (fun _ _ _ h => h) (Or.inl ⟨by rfl, ?by7⟩) (by assumption) ?br7
          case by7 => (intro w hSw; (try dsimp only at hSw); go_simp; (try with_reducible rfl))
          (try simp only [Act.put, List.setIfInBounds_toArray, List.set_cons_zero, List.set_cons_succ])
          refine wpAnyH_take (i := 8) (oi := { dst := some 71, op := Op.move (Operand.tmp 13), type := 3, pos := "law.go:41", after := #[], guard := none }) (v := ?bv8) rfl (by kernel_rfl) (by kernel_rfl) (by kernel_rfl) (fun _ _ _ h => h) (Or.inl ⟨by rfl, ?by8⟩) (by assumption) ?br8
          case by8 => (intro w hSw; (try dsimp only at hSw); go_simp; (try with_reducible rfl))
          (try simp only [Act.put, List.setIfInBounds_toArray, List.set_cons_zero, List.set_cons_succ])
          refine wpAnyH_take (i := 9) (oi := { dst := some 72, op := Op.indexAddr 31 (Operand.tmp 70) (Operand.tmp 71), type := 0, pos := "law.go:41", after := #[{ on := 7, ground := Ground.data }, { on := 8, ground := Ground.data }], guard := none }) (v := ?bv9) rfl (by kernel_rfl) (by kernel_rfl) (by kernel_rfl) (fun _ _ _ h => h) (Or.inl ⟨by rfl, ?by9⟩) (by assumption) ?br9
          case by9 => (intro w hSw; (try dsimp only at hSw); go_simp; (try with_reducible rfl))
          (try simp only [Act.put, List.setIfInBounds_toArray, List.set_cons_zero, List.set_cons_succ])
          refine wpAnyH_take (i := 10) (oi := { dst := some 73, op := Op.load 26 (Operand.tmp 72), type := 26, pos := "law.go:41", after := #[{ on := 9, ground := Ground.data }], guard := none }) (v := ?bv10) rfl (by kernel_rfl) (by kernel_rfl) (by kernel_rfl) (fun _ _ _ h => h) (Or.inl ⟨by rfl, ?by10⟩) (by assumption) ?br10
          case by10 => (intro w hSw; (try dsimp only at hSw); go_simp; (try with_reducible rfl))
          (try simp only [Act.put, List.setIfInBounds_toArray, List.set_cons_zero, List.set_cons_succ])
          refine wpAnyH_take (i := 11) (oi := { dst := some 74, op := Op.move (Operand.tmp 14), type := 3, pos := "law.go:41", after := #[], guard := none }) (v := ?bv11) rfl (by kernel_rfl) (by kernel_rfl) (by kernel_rfl) (fun _ _ _ h => h) (Or.inl ⟨by rfl, ?by11⟩) (by assumption) ?br11
          case by11 => (intro w hSw; (try dsimp only at hSw); go_simp; (try with_reducible rfl))
          (try simp only [Act.put, List.setIfInBounds_toArray, List.set_cons_zero, List.set_cons_succ])
          refine wpAnyH_take (i := 12) (oi := { dst := some 75, op := Op.indexAddr 26 (Operand.tmp 73) (Operand.tmp 74), type := 0, pos := "law.go:41", after := #[{ on := 10, ground := Ground.data }, { on := 11, ground := Ground.data }], guard := none }) (v := ?bv12) rfl (by kernel_rfl) (by kernel_rfl) (by kernel_rfl) (fun _ _ _ h => h) (Or.inl ⟨by rfl, ?by12⟩) (by assumption) ?br12
          case by12 => (intro w hSw; (try dsimp only at hSw); go_simp; (try with_reducible rfl))
          (try simp only [Act.put, List.setIfInBounds_toArray, List.set_cons_zero, List.set_cons_succ])
          refine wpAnyH_take (i := 13) (oi := { dst := some 76, op := Op.load 22 (Operand.tmp 75), type := 22, pos := "law.go:41", after := #[{ on := 12, ground := Ground.data }], guard := none }) (v := ?bv13) rfl (by kernel_rfl) (by kernel_rfl) (by kernel_rfl) (fun _ _ _ h => h) (Or.inl ⟨by rfl, ?by13⟩) (by assumption) ?br13
          case by13 => (intro w hSw; (try dsimp only at hSw); go_simp; (try with_reducible rfl))
          (try simp only [Act.put, List.setIfInBounds_toArray, List.set_cons_zero, List.set_cons_succ])
          refine wpAnyH_ready (rs := [14]) (by kernel_rfl) (by simp) ?_
          refine AllReadyH.cons (o := { dst := some 77, op := Op.call { callee := Callee.value (Operand.func 12), args := #[Operand.tmp 69, Operand.tmp 76], argTypes := #[22, 22] }, type := 4, pos := "law.go:41", after := #[{ on := 6, ground := Ground.data }, { on := 13, ground := Ground.data }], guard := none }) rfl (fun K hK => ?_) AllReadyH.nil
          go_simp
          (go_at_call 12; (with_reducible refine (HSq.out _ C2 C3 cC2 cC3 HCC2.out HcC2.out HCC3.out HcC3.out).mono ?_); rintro e w5 ⟨rfl, hb5⟩; have G5 := Aside0.mk (below_then HBd.out HBd.out.size hb5); clear hb5)
          go_wp2_with fail
          refine hK.out _ _ ?_ (fun hH14 => ?_)
          · (try dsimp only)
            exact HS6.out _ G5.out
          clear hK K hH
          (try simp only [Act.put, List.setIfInBounds_toArray, List.set_cons_zero, List.set_cons_succ])
          refine wpAnyH_take (i := 15) (oi := { dst := some 78, op := Op.unOp UnOp.not 4 (Operand.tmp 77), type := 4, pos := "law.go:41", after := #[{ on := 14, ground := Ground.data }], guard := none }) (v := ?bv15) rfl (by kernel_rfl) (by kernel_rfl) (by kernel_rfl) (fun _ _ _ h => h) (Or.inl ⟨by rfl, ?by15⟩) (by assumption) ?br15
          case by15 => (intro w hSw; (try dsimp only at hSw); go_simp; (try with_reducible rfl))
          (try simp only [Act.put, List.setIfInBounds_toArray, List.set_cons_zero, List.set_cons_succ])
          refine wpAnyH_done (by kernel_rfl) ?_ _
          have HE := Aside0.mk (below_then HD.out HD.out.size G5.out)
          clear q0_ q1_ HBd
          go_wp2
          go_roundg (2 - (k + 1))
          case measure => have := HKk.out; omega
          case rel => exact ⟨k + 1, by have := HKk.out; omega, by have := HKk.out; omega, by first | (rw [WK.out]; done) | (simp; done), HE⟩
        · obtain rfl : k = 2 := by omega
          clear hlk hgk hk
          have HE := Aside0.mk (below_then HC.out HC.out.size HD.out)
          go_wp2
          go_roundg (T.length - (i + 1))
          case measure => have := HLT.out; omega
          case rel => exact ⟨i + 1, by have := HLT.out; omega, by have := HLT.out; omega, by first | (rw [W3.out]; done) | (simp; done), HE⟩
    · obtain rfl : i = T.length := by omega
      have t1 : ¬ (T.length : Int) < (T.length : Int) := by omega
      clear hlt hgi hi
      have E4 := Aside0.mk (below_then E3.out E3.out.size HC.out)
      have HB4 := Aside0.mk (below_then HB1.out HB1.out.size E4.out)
      have HBd := Aside0.mk (below_drew (Below.refl wo.heap.size wo))
      obtain ⟨x0, x1, x2, x3, x4, x5, x6, x7, x8, x9, x10, x11⟩ := HX.out _ E4.out
      go_wp2_with fail
      refine wp_region_held_drew (S := (fun W => W.cell? ⟨g, 0, none⟩ = some (.int .i64 c.f0) ∧ W.cell? ⟨g, 1, none⟩ = some (.int .i64 c.f1) ∧ W.cell? ⟨g, 2, none⟩ = some (.int .i64 c.f2) ∧ W.cell? ⟨g, 3, none⟩ = some (.int .i64 c.f3) ∧ W.cell? ⟨g, 4, none⟩ = some (.int .i64 c.f4) ∧ W.cell? ⟨g, 5, none⟩ = some (.int .i64 c.f5) ∧ W.cell? ⟨g, 6, none⟩ = some (.int .i64 c.f6) ∧ W.cell? ⟨g, 7, none⟩ = some (.int .i64 c.f7) ∧ W.cell? ⟨g, 8, none⟩ = some (.int .i64 c.f8) ∧ W.cell? ⟨g, 9, none⟩ = some (.int .i64 c.f9) ∧ W.cell? ⟨g, 10, none⟩ = some (.int .i64 c.f10) ∧ W.cell? ⟨g, 11, none⟩ = some (.int .i64 c.f11))) (by kernel_rfl) ?_ (fun hH => ?_)
      · exact HX.out _ (below_then E4.out E4.out.size HBd.out)
      refine wpAnyH_ready (rs := [0]) (by kernel_rfl) (by simp) ?_
      refine AllReadyH.cons (o := { dst := some 79, op := Op.call { callee := Callee.value (Operand.func 9), args := #[], argTypes := #[] }, type := 4, pos := "law.go:46", after := #[], guard := none }) rfl (fun K hK => ?_) AllReadyH.nil
      go_simp
      (go_at_call 9; (with_reducible refine (HF.out _).mono ?_); rintro e w11 ⟨rfl, hb11⟩; have G11 := Aside0.mk (below_then HBd.out HBd.out.size hb11))
      go_wp2_with fail
      refine hK.out _ _ ?_ (fun hH0 => ?_)
      · (try dsimp only)
        exact HX.out _ (below_then E4.out E4.out.size G11.out)
      clear hK K hH
      (try simp only [Act.put, List.setIfInBounds_toArray, List.set_cons_zero, List.set_cons_succ])
      refine wpAnyH_take (i := 1) (oi := { dst := some 80, op := Op.move (Operand.tmp 79), type := 4, pos := "law.go:46", after := #[{ on := 0, ground := Ground.data }, { on := 0, ground := Ground.chain }], guard := none }) (v := ?cv1) rfl (by kernel_rfl) (by kernel_rfl) (by kernel_rfl) (fun _ _ _ h => h) (Or.inl ⟨by rfl, ?cy1⟩) (by assumption) ?cr1
      case cy1 => (intro w hSw; (try dsimp only at hSw); go_simp; (try with_reducible rfl))
      (try simp only [Act.put, List.setIfInBounds_toArray, List.set_cons_zero, List.set_cons_succ])
      refine wpAnyH_take (i := 2) (oi := { dst := some 81, op := Op.move (Operand.tmp 1), type := 3, pos := "law.go:46", after := #[{ on := 1, ground := Ground.guard }], guard := some (1, true) }) (v := ?cv2) rfl (by kernel_rfl) (by kernel_rfl) (by kernel_rfl) (fun _ _ _ h => h) (Or.inl ⟨by rfl, ?cy2⟩) (by assumption) ?cr2
      case cy2 => (intro w hSw; (try dsimp only at hSw); go_simp; (try with_reducible rfl))
      (try simp only [Act.put, List.setIfInBounds_toArray, List.set_cons_zero, List.set_cons_succ])
      refine wpAnyH_take (i := 3) (oi := { dst := some 82, op := Op.move (Operand.tmp 2), type := 3, pos := "law.go:46", after := #[{ on := 1, ground := Ground.guard }], guard := some (1, true) }) (v := ?cv3) rfl (by kernel_rfl) (by kernel_rfl) (by kernel_rfl) (fun _ _ _ h => h) (Or.inl ⟨by rfl, ?cy3⟩) (by assumption) ?cr3
      case cy3 => (intro w hSw; (try dsimp only at hSw); go_simp; (try with_reducible rfl))
      (try simp only [Act.put, List.setIfInBounds_toArray, List.set_cons_zero, List.set_cons_succ])
      refine wpAnyH_take (i := 5) (oi := { dst := some 84, op := Op.move (Operand.tmp 1), type := 3, pos := "law.go:46", after := #[{ on := 1, ground := Ground.guard }], guard := some (1, true) }) (v := ?cv5) rfl (by kernel_rfl) (by kernel_rfl) (by kernel_rfl) (fun _ _ _ h => h) (Or.inl ⟨by rfl, ?cy5⟩) (by assumption) ?cr5
      case cy5 => (intro w hSw; (try dsimp only at hSw); go_simp; (try with_reducible rfl))
      (try simp only [Act.put, List.setIfInBounds_toArray, List.set_cons_zero, List.set_cons_succ])
      refine wpAnyH_take (i := 6) (oi := { dst := some 85, op := Op.move (Operand.tmp 2), type := 3, pos := "law.go:46", after := #[{ on := 1, ground := Ground.guard }], guard := some (1, true) }) (v := ?cv6) rfl (by kernel_rfl) (by kernel_rfl) (by kernel_rfl) (fun _ _ _ h => h) (Or.inl ⟨by rfl, ?cy6⟩) (by assumption) ?cr6
      case cy6 => (intro w hSw; (try dsimp only at hSw); go_simp; (try with_reducible rfl))
      (try simp only [Act.put, List.setIfInBounds_toArray, List.set_cons_zero, List.set_cons_succ])
      refine wpAnyH_ready (rs := [4]) (by kernel_rfl) (by simp) ?_
      refine AllReadyH.cons (o := { dst := some 83, op := Op.call { callee := Callee.value (Operand.func 13), args := #[Operand.tmp 81, Operand.tmp 82], argTypes := #[3, 3] }, type := 25, pos := "law.go:46", after := #[{ on := 2, ground := Ground.data }, { on := 3, ground := Ground.data }, { on := 1, ground := Ground.chain }, { on := 1, ground := Ground.guard }], guard := some (1, true) }) rfl (fun K hK => ?_) AllReadyH.nil
      go_simp
      (go_at_call 13; (with_reducible refine (HS1.out _).mono ?_); rintro e w12 ⟨rfl, hb12⟩; have G12 := Aside0.mk (below_then G11.out G11.out.size hb12))
      go_wp2_with fail
      refine hK.out _ _ ?_ (fun hH4 => ?_)
      · (try dsimp only)
        exact HX.out _ (below_then E4.out E4.out.size G12.out)
      clear hK K hH0
      (try simp only [Act.put, List.setIfInBounds_toArray, List.set_cons_zero, List.set_cons_succ])
      refine wpAnyH_ready (rs := [7]) (by kernel_rfl) (by simp) ?_
      refine AllReadyH.cons (o := { dst := some 86, op := Op.call { callee := Callee.value (Operand.func 14), args := #[Operand.tmp 84, Operand.tmp 85], argTypes := #[3, 3] }, type := 25, pos := "law.go:46", after := #[{ on := 5, ground := Ground.data }, { on := 6, ground := Ground.data }, { on := 4, ground := Ground.chain }, { on := 1, ground := Ground.guard }], guard := some (1, true) }) rfl (fun K hK => ?_) AllReadyH.nil
      go_simp
      (go_at_call 14; (with_reducible refine (HS2.out _).mono ?_); rintro e w13 ⟨rfl, hb13⟩; have G13 := Aside0.mk (below_then G12.out G12.out.size hb13))
      go_wp2_with fail
      refine hK.out _ _ ?_ (fun hH7 => ?_)
      · (try dsimp only)
        exact HX.out _ (below_then E4.out E4.out.size G13.out)
      clear hK K hH4
      (try simp only [Act.put, List.setIfInBounds_toArray, List.set_cons_zero, List.set_cons_succ])
      refine wpAnyH_take (i := 8) (oi := { dst := some 87, op := Op.binOp BinOp.eql 25 (Operand.tmp 83) (Operand.tmp 86) 25, type := 4, pos := "law.go:46", after := #[{ on := 4, ground := Ground.data }, { on := 7, ground := Ground.data }, { on := 1, ground := Ground.guard }], guard := some (1, true) }) (v := ?cv8) rfl (by kernel_rfl) (by kernel_rfl) (by kernel_rfl) (fun _ _ _ h => h) (Or.inl ⟨by rfl, ?cy8⟩) (by assumption) ?cr8
      case cy8 => (intro w hSw; (try dsimp only at hSw); go_simp; (try with_reducible rfl))
      (try simp only [Act.put, List.setIfInBounds_toArray, List.set_cons_zero, List.set_cons_succ])
      refine wpAnyH_take (i := 9) (oi := { dst := some 88, op := Op.pick (Operand.tmp 80) (Operand.tmp 87) (Operand.const (Value.bool false)), type := 4, pos := "law.go:46", after := #[{ on := 1, ground := Ground.data }, { on := 8, ground := Ground.data }], guard := none }) (v := ?cv9) rfl (by kernel_rfl) (by kernel_rfl) (by kernel_rfl) (fun _ _ _ h => h) (Or.inl ⟨by rfl, ?cy9⟩) (by assumption) ?cr9
      case cy9 => (intro w hSw; (try dsimp only at hSw); go_simp; (try with_reducible rfl))
      (try simp only [Act.put, List.setIfInBounds_toArray, List.set_cons_zero, List.set_cons_succ])
      refine wpAnyH_take (i := 10) (oi := { dst := some 89, op := Op.move (Operand.tmp 88), type := 4, pos := "law.go:46", after := #[{ on := 9, ground := Ground.data }, { on := 7, ground := Ground.chain }], guard := none }) (v := ?cv10) rfl (by kernel_rfl) (by kernel_rfl) (by kernel_rfl) (fun _ _ _ h => h) (Or.inl ⟨by rfl, ?cy10⟩) (by assumption) ?cr10
      case cy10 => (intro w hSw; (try dsimp only at hSw); go_simp; (try with_reducible rfl))
      (try simp only [Act.put, List.setIfInBounds_toArray, List.set_cons_zero, List.set_cons_succ])
      refine wpAnyH_take (i := 11) (oi := { dst := some 90, op := Op.move (Operand.tmp 0), type := 29, pos := "law.go:46", after := #[{ on := 10, ground := Ground.guard }], guard := some (10, true) }) (v := ?cv11) rfl (by kernel_rfl) (by kernel_rfl) (by kernel_rfl) (fun _ _ _ h => h) (Or.inl ⟨by rfl, ?cy11⟩) (by assumption) ?cr11
      case cy11 => (intro w hSw; (try dsimp only at hSw); go_simp; (try with_reducible rfl))
      (try simp only [Act.put, List.setIfInBounds_toArray, List.set_cons_zero, List.set_cons_succ])
      refine wpAnyH_take (i := 13) (oi := { dst := some 92, op := Op.move (Operand.tmp 0), type := 29, pos := "law.go:46", after := #[{ on := 10, ground := Ground.guard }], guard := some (10, true) }) (v := ?cv13) rfl (by kernel_rfl) (by kernel_rfl) (by kernel_rfl) (fun _ _ _ h => h) (Or.inl ⟨by rfl, ?cy13⟩) (by assumption) ?cr13
      case cy13 => (intro w hSw; (try dsimp only at hSw); go_simp; (try with_reducible rfl))
      (try simp only [Act.put, List.setIfInBounds_toArray, List.set_cons_zero, List.set_cons_succ])
      refine wpAnyH_ready (rs := [12]) (by kernel_rfl) (by simp) ?_
      refine AllReadyH.cons (o := { dst := some 91, op := Op.call { callee := Callee.value (Operand.func 15), args := #[Operand.tmp 90], argTypes := #[29] }, type := 22, pos := "law.go:46", after := #[{ on := 11, ground := Ground.data }, { on := 10, ground := Ground.chain }, { on := 10, ground := Ground.guard }], guard := some (10, true) }) rfl (fun K hK => ?_) AllReadyH.nil
      go_simp
      (go_at_call 15; (with_reducible refine (HP1.out _ (below_then HB4.out HB4.out.size G13.out)).mono ?_); rintro e w14 ⟨v0, rfl, hS14, hb14⟩; have G14 := Aside0.mk (below_then G13.out G13.out.size hb14); obtain ⟨A14, c14, rfl, hc14, hC14⟩ := Kd.N_reads (Kd.S_N hS14); have HC14 := Aside0.mk hC14; have Hc14 := Aside0.mk hc14; clear hS14 hC14 hc14)
      go_wp2_with fail
      refine hK.out _ _ ?_ (fun hH12 => ?_)
      · (try dsimp only)
        exact HX.out _ (below_then E4.out E4.out.size G14.out)
      clear hK K hH7
      (try simp only [Act.put, List.setIfInBounds_toArray, List.set_cons_zero, List.set_cons_succ])
      refine wpAnyH_ready (rs := [14]) (by kernel_rfl) (by simp) ?_
      refine AllReadyH.cons (o := { dst := some 93, op := Op.call { callee := Callee.value (Operand.func 16), args := #[Operand.tmp 92], argTypes := #[29] }, type := 22, pos := "law.go:46", after := #[{ on := 13, ground := Ground.data }, { on := 12, ground := Ground.chain }, { on := 10, ground := Ground.guard }], guard := some (10, true) }) rfl (fun K hK => ?_) AllReadyH.nil
      go_simp
      (go_at_call 16; (with_reducible refine (HP2.out _ (below_then HB4.out HB4.out.size G14.out)).mono ?_); rintro e w15 ⟨v0, rfl, hS15, hb15⟩; have G15 := Aside0.mk (below_then G14.out G14.out.size hb15); obtain ⟨A15, c15, rfl, hc15, hC15⟩ := Kd.N_reads (Kd.S_N hS15); have HC15 := Aside0.mk hC15; have Hc15 := Aside0.mk hc15; have HC14b := Aside0.mk (Kd.C_below HC14.out hb15); clear hS15 hC15 hc15)
      go_wp2_with fail
      refine hK.out _ _ ?_ (fun hH14 => ?_)
      · (try dsimp only)
        exact HX.out _ (below_then E4.out E4.out.size G15.out)
      clear hK K hH12
      (try simp only [Act.put, List.setIfInBounds_toArray, List.set_cons_zero, List.set_cons_succ])
      refine wpAnyH_ready (rs := [15]) (by kernel_rfl) (by simp) ?_
      refine AllReadyH.cons (o := { dst := some 94, op := Op.call { callee := Callee.value (Operand.func 12), args := #[Operand.tmp 91, Operand.tmp 93], argTypes := #[22, 22] }, type := 4, pos := "law.go:46", after := #[{ on := 12, ground := Ground.data }, { on := 14, ground := Ground.data }, { on := 14, ground := Ground.chain }, { on := 10, ground := Ground.guard }], guard := some (10, true) }) rfl (fun K hK => ?_) AllReadyH.nil
      go_simp
      (go_at_call 12; (with_reducible refine (HSm.out l0 _ A14 A15 c14 c15 HC14b.out Hc14.out HC15.out Hc15.out).mono ?_); rintro e w16 ⟨rfl, hb16⟩; have G16 := Aside0.mk (below_then G15.out G15.out.size hb16))
      go_wp2_with fail
      refine hK.out _ _ ?_ (fun hH15 => ?_)
      · (try dsimp only)
        exact HX.out _ (below_then E4.out E4.out.size G16.out)
      clear hK K hH14
      (try simp only [Act.put, List.setIfInBounds_toArray, List.set_cons_zero, List.set_cons_succ])
      refine wpAnyH_take (i := 16) (oi := { dst := some 95, op := Op.pick (Operand.tmp 89) (Operand.tmp 94) (Operand.const (Value.bool false)), type := 4, pos := "law.go:46", after := #[{ on := 10, ground := Ground.data }, { on := 15, ground := Ground.data }], guard := none }) (v := ?cv16) rfl (by kernel_rfl) (by kernel_rfl) (by kernel_rfl) (fun _ _ _ h => h) (Or.inl ⟨by rfl, ?cy16⟩) (by assumption) ?cr16
      case cy16 => (intro w hSw; (try dsimp only at hSw); go_simp; (try with_reducible rfl))
      (try simp only [Act.put, List.setIfInBounds_toArray, List.set_cons_zero, List.set_cons_succ])
      refine wpAnyH_take (i := 17) (oi := { dst := some 96, op := Op.move (Operand.tmp 95), type := 4, pos := "law.go:46", after := #[{ on := 16, ground := Ground.data }, { on := 15, ground := Ground.chain }], guard := none }) (v := ?cv17) rfl (by kernel_rfl) (by kernel_rfl) (by kernel_rfl) (fun _ _ _ h => h) (Or.inl ⟨by rfl, ?cy17⟩) (by assumption) ?cr17
      case cy17 => (intro w hSw; (try dsimp only at hSw); go_simp; (try with_reducible rfl))
      (try simp only [Act.put, List.setIfInBounds_toArray, List.set_cons_zero, List.set_cons_succ])
      refine wpAnyH_take (i := 18) (oi := { dst := some 97, op := Op.move (Operand.tmp 0), type := 29, pos := "law.go:46", after := #[{ on := 17, ground := Ground.guard }], guard := some (17, true) }) (v := ?cv18) rfl (by kernel_rfl) (by kernel_rfl) (by kernel_rfl) (fun _ _ _ h => h) (Or.inl ⟨by rfl, ?cy18⟩) (by assumption) ?cr18
      case cy18 => (intro w hSw; (try dsimp only at hSw); go_simp; (try with_reducible rfl))
      (try simp only [Act.put, List.setIfInBounds_toArray, List.set_cons_zero, List.set_cons_succ])
      refine wpAnyH_take (i := 19) (oi := { dst := some 98, op := Op.move (Operand.tmp 1), type := 3, pos := "law.go:46", after := #[{ on := 17, ground := Ground.guard }], guard := some (17, true) }) (v := ?cv19) rfl (by kernel_rfl) (by kernel_rfl) (by kernel_rfl) (fun _ _ _ h => h) (Or.inl ⟨by rfl, ?cy19⟩) (by assumption) ?cr19
      case cy19 => (intro w hSw; (try dsimp only at hSw); go_simp; (try with_reducible rfl))
      (try simp only [Act.put, List.setIfInBounds_toArray, List.set_cons_zero, List.set_cons_succ])
      refine wpAnyH_take (i := 21) (oi := { dst := some 100, op := Op.move (Operand.tmp 0), type := 29, pos := "law.go:46", after := #[{ on := 17, ground := Ground.guard }], guard := some (17, true) }) (v := ?cv21) rfl (by kernel_rfl) (by kernel_rfl) (by kernel_rfl) (fun _ _ _ h => h) (Or.inl ⟨by rfl, ?cy21⟩) (by assumption) ?cr21
      case cy21 => (intro w hSw; (try dsimp only at hSw); go_simp; (try with_reducible rfl))
      (try simp only [Act.put, List.setIfInBounds_toArray, List.set_cons_zero, List.set_cons_succ])
      refine wpAnyH_take (i := 22) (oi := { dst := some 101, op := Op.move (Operand.tmp 1), type := 3, pos := "law.go:46", after := #[{ on := 17, ground := Ground.guard }], guard := some (17, true) }) (v := ?cv22) rfl (by kernel_rfl) (by kernel_rfl) (by kernel_rfl) (fun _ _ _ h => h) (Or.inl ⟨by rfl, ?cy22⟩) (by assumption) ?cr22
      case cy22 => (intro w hSw; (try dsimp only at hSw); go_simp; (try with_reducible rfl))
      (try simp only [Act.put, List.setIfInBounds_toArray, List.set_cons_zero, List.set_cons_succ])
      refine wpAnyH_ready (rs := [20]) (by kernel_rfl) (by simp) ?_
      refine AllReadyH.cons (o := { dst := some 99, op := Op.call { callee := Callee.value (Operand.func 18), args := #[Operand.tmp 97, Operand.tmp 98], argTypes := #[29, 3] }, type := 30, pos := "law.go:46", after := #[{ on := 18, ground := Ground.data }, { on := 19, ground := Ground.data }, { on := 17, ground := Ground.chain }, { on := 17, ground := Ground.guard }], guard := some (17, true) }) rfl (fun K hK => ?_) AllReadyH.nil
      go_simp
      (go_at_call 18; (with_reducible refine (HK1.out _ (below_then HB4.out HB4.out.size G16.out)).mono ?_); rintro e w17 ⟨v0, rfl, hS17, hb17⟩; have G17 := Aside0.mk (below_then G16.out G16.out.size hb17); obtain ⟨A17, c17, rfl, hc17, hC17⟩ := Kd.N_reads (Kd.R_N hS17); have HC17 := Aside0.mk hC17; have Hc17 := Aside0.mk hc17; clear hS17 hC17 hc17)
      go_wp2_with fail
      refine hK.out _ _ ?_ (fun hH20 => ?_)
      · (try dsimp only)
        exact HX.out _ (below_then E4.out E4.out.size G17.out)
      clear hK K hH15
      (try simp only [Act.put, List.setIfInBounds_toArray, List.set_cons_zero, List.set_cons_succ])
      refine wpAnyH_ready (rs := [23]) (by kernel_rfl) (by simp) ?_
      refine AllReadyH.cons (o := { dst := some 102, op := Op.call { callee := Callee.value (Operand.func 19), args := #[Operand.tmp 100, Operand.tmp 101], argTypes := #[29, 3] }, type := 30, pos := "law.go:46", after := #[{ on := 21, ground := Ground.data }, { on := 22, ground := Ground.data }, { on := 20, ground := Ground.chain }, { on := 17, ground := Ground.guard }], guard := some (17, true) }) rfl (fun K hK => ?_) AllReadyH.nil
      go_simp
      (go_at_call 19; (with_reducible refine (HK2.out _ (below_then HB4.out HB4.out.size G17.out)).mono ?_); rintro e w18 ⟨v0, rfl, hS18, hb18⟩; have G18 := Aside0.mk (below_then G17.out G17.out.size hb18); obtain ⟨A18, c18, rfl, hc18, hC18⟩ := Kd.N_reads (Kd.R_N hS18); have HC18 := Aside0.mk hC18; have Hc18 := Aside0.mk hc18; have HC17b := Aside0.mk (Kd.C_below HC17.out hb18); clear hS18 hC18 hc18)
      go_wp2_with fail
      refine hK.out _ _ ?_ (fun hH23 => ?_)
      · (try dsimp only)
        exact HX.out _ (below_then E4.out E4.out.size G18.out)
      clear hK K hH20
      (try simp only [Act.put, List.setIfInBounds_toArray, List.set_cons_zero, List.set_cons_succ])
      refine wpAnyH_ready (rs := [24]) (by kernel_rfl) (by simp) ?_
      refine AllReadyH.cons (o := { dst := some 103, op := Op.call { callee := Callee.value (Operand.func 17), args := #[Operand.tmp 99, Operand.tmp 102], argTypes := #[30, 30] }, type := 4, pos := "law.go:46", after := #[{ on := 20, ground := Ground.data }, { on := 23, ground := Ground.data }, { on := 23, ground := Ground.chain }, { on := 17, ground := Ground.guard }], guard := some (17, true) }) rfl (fun K hK => ?_) AllReadyH.nil
      go_simp
      (go_at_call 17; (with_reducible refine (HI1.out _ A17 A18 c17 c18 HC17b.out Hc17.out HC18.out Hc18.out).mono ?_); rintro e w19 ⟨rfl, hb19⟩; have G19 := Aside0.mk (below_then G18.out G18.out.size hb19.below))
      go_wp2_with fail
      refine hK.out _ _ ?_ (fun hH24 => ?_)
      · (try dsimp only)
        exact HX.out _ (below_then E4.out E4.out.size G19.out)
      clear hK K hH23
      (try simp only [Act.put, List.setIfInBounds_toArray, List.set_cons_zero, List.set_cons_succ])
      refine wpAnyH_take (i := 25) (oi := { dst := some 104, op := Op.pick (Operand.tmp 96) (Operand.tmp 103) (Operand.const (Value.bool false)), type := 4, pos := "law.go:46", after := #[{ on := 17, ground := Ground.data }, { on := 24, ground := Ground.data }], guard := none }) (v := ?cv25) rfl (by kernel_rfl) (by kernel_rfl) (by kernel_rfl) (fun _ _ _ h => h) (Or.inl ⟨by rfl, ?cy25⟩) (by assumption) ?cr25
      case cy25 => (intro w hSw; (try dsimp only at hSw); go_simp; (try with_reducible rfl))
      (try simp only [Act.put, List.setIfInBounds_toArray, List.set_cons_zero, List.set_cons_succ])
      refine wpAnyH_take (i := 26) (oi := { dst := some 105, op := Op.move (Operand.tmp 104), type := 4, pos := "law.go:46", after := #[{ on := 25, ground := Ground.data }, { on := 24, ground := Ground.chain }], guard := none }) (v := ?cv26) rfl (by kernel_rfl) (by kernel_rfl) (by kernel_rfl) (fun _ _ _ h => h) (Or.inl ⟨by rfl, ?cy26⟩) (by assumption) ?cr26
      case cy26 => (intro w hSw; (try dsimp only at hSw); go_simp; (try with_reducible rfl))
      (try simp only [Act.put, List.setIfInBounds_toArray, List.set_cons_zero, List.set_cons_succ])
      refine wpAnyH_take (i := 27) (oi := { dst := some 106, op := Op.load 25 (Operand.tmp 8), type := 25, pos := "law.go:46", after := #[{ on := 26, ground := Ground.guard }], guard := some (26, true) }) (v := ?cv27) rfl (by kernel_rfl) (by kernel_rfl) (by kernel_rfl) (fun _ _ _ h => h) (Or.inl ⟨by rfl, ?cy27⟩) (by assumption) ?cr27
      case cy27 => (intro w hSw; (try dsimp only at hSw); go_simp; (try with_reducible rfl))
      (try simp only [Act.put, List.setIfInBounds_toArray, List.set_cons_zero, List.set_cons_succ])
      refine wpAnyH_take (i := 28) (oi := { dst := some 107, op := Op.move (Operand.tmp 4), type := 30, pos := "law.go:46", after := #[{ on := 26, ground := Ground.guard }], guard := some (26, true) }) (v := ?cv28) rfl (by kernel_rfl) (by kernel_rfl) (by kernel_rfl) (fun _ _ _ h => h) (Or.inl ⟨by rfl, ?cy28⟩) (by assumption) ?cr28
      case cy28 => (intro w hSw; (try dsimp only at hSw); go_simp; (try with_reducible rfl))
      (try simp only [Act.put, List.setIfInBounds_toArray, List.set_cons_zero, List.set_cons_succ])
      refine wpAnyH_take (i := 30) (oi := { dst := some 109, op := Op.load 25 (Operand.tmp 8), type := 25, pos := "law.go:46", after := #[{ on := 26, ground := Ground.guard }], guard := some (26, true) }) (v := ?cv30) rfl (by kernel_rfl) (by kernel_rfl) (by kernel_rfl) (fun _ _ _ h => h) (Or.inl ⟨by rfl, ?cy30⟩) (by assumption) ?cr30
      case cy30 => (intro w hSw; (try dsimp only at hSw); go_simp; (try with_reducible rfl))
      (try simp only [Act.put, List.setIfInBounds_toArray, List.set_cons_zero, List.set_cons_succ])
      refine wpAnyH_take (i := 31) (oi := { dst := some 110, op := Op.move (Operand.tmp 4), type := 30, pos := "law.go:46", after := #[{ on := 26, ground := Ground.guard }], guard := some (26, true) }) (v := ?cv31) rfl (by kernel_rfl) (by kernel_rfl) (by kernel_rfl) (fun _ _ _ h => h) (Or.inl ⟨by rfl, ?cy31⟩) (by assumption) ?cr31
      case cy31 => (intro w hSw; (try dsimp only at hSw); go_simp; (try with_reducible rfl))
      (try simp only [Act.put, List.setIfInBounds_toArray, List.set_cons_zero, List.set_cons_succ])
      refine wpAnyH_ready (rs := [29]) (by kernel_rfl) (by simp) ?_
      refine AllReadyH.cons (o := { dst := some 108, op := Op.call { callee := Callee.value (Operand.func 20), args := #[Operand.tmp 106, Operand.tmp 107], argTypes := #[25, 30] }, type := 30, pos := "law.go:46", after := #[{ on := 27, ground := Ground.data }, { on := 28, ground := Ground.data }, { on := 26, ground := Ground.chain }, { on := 26, ground := Ground.guard }], guard := some (26, true) }) rfl (fun K hK => ?_) AllReadyH.nil
      go_simp
      (go_at_call 20; (with_reducible refine (HH1.out _ (below_then HB4.out HB4.out.size G19.out)).mono ?_); rintro e w20 ⟨v0, rfl, hS20, hb20⟩; have G20 := Aside0.mk (below_then G19.out G19.out.size hb20); obtain ⟨A20, c20, rfl, hc20, hC20⟩ := Kd.N_reads (Kd.R_N hS20); have HC20 := Aside0.mk hC20; have Hc20 := Aside0.mk hc20; clear hS20 hC20 hc20)
      go_wp2_with fail
      refine hK.out _ _ ?_ (fun hH29 => ?_)
      · (try dsimp only)
        exact HX.out _ (below_then E4.out E4.out.size G20.out)
      clear hK K hH24
      (try simp only [Act.put, List.setIfInBounds_toArray, List.set_cons_zero, List.set_cons_succ])
      refine wpAnyH_ready (rs := [32]) (by kernel_rfl) (by simp) ?_
      refine AllReadyH.cons (o := { dst := some 111, op := Op.call { callee := Callee.value (Operand.func 21), args := #[Operand.tmp 109, Operand.tmp 110], argTypes := #[25, 30] }, type := 30, pos := "law.go:46", after := #[{ on := 30, ground := Ground.data }, { on := 31, ground := Ground.data }, { on := 29, ground := Ground.chain }, { on := 26, ground := Ground.guard }], guard := some (26, true) }) rfl (fun K hK => ?_) AllReadyH.nil
      go_simp
      (go_at_call 21; (with_reducible refine (HH2.out _ (below_then HB4.out HB4.out.size G20.out)).mono ?_); rintro e w21 ⟨v0, rfl, hS21, hb21⟩; have G21 := Aside0.mk (below_then G20.out G20.out.size hb21); obtain ⟨A21, c21, rfl, hc21, hC21⟩ := Kd.N_reads (Kd.R_N hS21); have HC21 := Aside0.mk hC21; have Hc21 := Aside0.mk hc21; have HC20b := Aside0.mk (Kd.C_below HC20.out hb21); clear hS21 hC21 hc21)
      go_wp2_with fail
      refine hK.out _ _ ?_ (fun hH32 => ?_)
      · (try dsimp only)
        exact HX.out _ (below_then E4.out E4.out.size G21.out)
      clear hK K hH29
      (try simp only [Act.put, List.setIfInBounds_toArray, List.set_cons_zero, List.set_cons_succ])
      refine wpAnyH_ready (rs := [33]) (by kernel_rfl) (by simp) ?_
      refine AllReadyH.cons (o := { dst := some 112, op := Op.call { callee := Callee.value (Operand.func 17), args := #[Operand.tmp 108, Operand.tmp 111], argTypes := #[30, 30] }, type := 4, pos := "law.go:46", after := #[{ on := 29, ground := Ground.data }, { on := 32, ground := Ground.data }, { on := 32, ground := Ground.chain }, { on := 26, ground := Ground.guard }], guard := some (26, true) }) rfl (fun K hK => ?_) AllReadyH.nil
      go_simp
      (go_at_call 17; (with_reducible refine (HI2.out _ A20 A21 c20 c21 HC20b.out Hc20.out HC21.out Hc21.out).mono ?_); rintro e w22 ⟨rfl, hb22⟩; have G22 := Aside0.mk (below_then G21.out G21.out.size hb22.below))
      go_wp2_with fail
      refine hK.out _ _ ?_ (fun hH33 => ?_)
      · (try dsimp only)
        exact HX.out _ (below_then E4.out E4.out.size G22.out)
      clear hK K hH32
      (try simp only [Act.put, List.setIfInBounds_toArray, List.set_cons_zero, List.set_cons_succ])
      refine wpAnyH_take (i := 34) (oi := { dst := some 113, op := Op.pick (Operand.tmp 105) (Operand.tmp 112) (Operand.const (Value.bool false)), type := 4, pos := "law.go:46", after := #[{ on := 26, ground := Ground.data }, { on := 33, ground := Ground.data }], guard := none }) (v := ?cv34) rfl (by kernel_rfl) (by kernel_rfl) (by kernel_rfl) (fun _ _ _ h => h) (Or.inl ⟨by rfl, ?cy34⟩) (by assumption) ?cr34
      case cy34 => (intro w hSw; (try dsimp only at hSw); go_simp; (try with_reducible rfl))
      (try simp only [Act.put, List.setIfInBounds_toArray, List.set_cons_zero, List.set_cons_succ])
      refine wpAnyH_take (i := 35) (oi := { dst := some 10, op := Op.assign (Operand.tmp 113), type := 4, pos := "law.go:46", after := #[{ on := 34, ground := Ground.data }, { on := 33, ground := Ground.chain }, { on := 0, ground := Ground.phase }, { on := 1, ground := Ground.phase }, { on := 2, ground := Ground.phase }, { on := 3, ground := Ground.phase }, { on := 4, ground := Ground.phase }, { on := 5, ground := Ground.phase }, { on := 6, ground := Ground.phase }, { on := 7, ground := Ground.phase }, { on := 8, ground := Ground.phase }, { on := 9, ground := Ground.phase }, { on := 10, ground := Ground.phase }, { on := 11, ground := Ground.phase }, { on := 12, ground := Ground.phase }, { on := 13, ground := Ground.phase }, { on := 14, ground := Ground.phase }, { on := 15, ground := Ground.phase }, { on := 16, ground := Ground.phase }, { on := 17, ground := Ground.phase }, { on := 18, ground := Ground.phase }, { on := 19, ground := Ground.phase }, { on := 20, ground := Ground.phase }, { on := 21, ground := Ground.phase }, { on := 22, ground := Ground.phase }, { on := 23, ground := Ground.phase }, { on := 24, ground := Ground.phase }, { on := 25, ground := Ground.phase }, { on := 26, ground := Ground.phase }, { on := 27, ground := Ground.phase }, { on := 28, ground := Ground.phase }, { on := 29, ground := Ground.phase }, { on := 30, ground := Ground.phase }, { on := 31, ground := Ground.phase }, { on := 32, ground := Ground.phase }, { on := 33, ground := Ground.phase }, { on := 34, ground := Ground.phase }], guard := none }) (v := ?cv35) rfl (by kernel_rfl) (by kernel_rfl) (by kernel_rfl) (fun _ _ _ h => h) (Or.inl ⟨by rfl, ?cy35⟩) (by assumption) ?cr35
      case cy35 => (intro w hSw; (try dsimp only at hSw); go_simp; (try with_reducible rfl))
      (try simp only [Act.put, List.setIfInBounds_toArray, List.set_cons_zero, List.set_cons_succ])
      refine wpAnyH_done (by kernel_rfl) ?_ _
      go_wp2
      go_ret
      exact ⟨rfl, below_then HB4.out HB4.out.size G22.out⟩
theorem tells_walk (A0 : Option Addr) (c0 : Nat) (l0 : List Int) (n pol : Int) (c : Cf) (A4 : Option Addr) (c4 : Nat) (l4 : List Int) (w : World) (hr0 : Kd.C (Kd.int .u8) w A0 l0.length l0) (hc0 : l0.length ≤ c0) (hw0 : l0.length ≤ maxLen) (hb0 : ∀ x ∈ l0, (Lit.int .u8 x).wf = true)
    (wn : (Lit.int .i64 n).wf = true) (wp : (Lit.int .i64 pol).wf = true) (hr4 : Kd.C (Kd.int .i64) w A4 l4.length l4) (hc4 : l4.length ≤ c4) (hw4 : l4.length ≤ maxLen) (hb4 : ∀ x ∈ l4, (Lit.int .i64 x).wf = true) :
    Calls Try.prog 4 #[.slice A0 l0.length c0, .int .i64 n, .int .i64 pol, .agg #[.int .i64 c.f0, .int .i64 c.f1, .int .i64 c.f2, .int .i64 c.f3, .int .i64 c.f4, .int .i64 c.f5, .int .i64 c.f6, .int .i64 c.f7, .int .i64 c.f8, .int .i64 c.f9, .int .i64 c.f10, .int .i64 c.f11], .slice A4 l4.length c4] w fun e w' => e = .returned (.bool true) ∧ Below w.heap.size w w' := by
  by_cases h : 3000 < l0.length ∨ 5000 < l4.length
  · exact tells_early A0 c0 l0 n pol c A4 c4 l4 w h
  · have hn : n ≤ 9223372036854775807 := by
      simp [Lit.wf] at wn
      have e2 : IntKind.i64.max = 9223372036854775807 := rfl
      omega
    exact tells_in A0 c0 l0 n pol c A4 c4 l4 w hr0 hc0 (bytes_of hb0) hn hr4 hc4 (by omega) (by omega)
end Go.Proofs.Ytfdnhhjggophcaa.Tc
