/- TaleChecks: its walk. -/
import Derived.Test.YtfdnhhjggophcaaTcP
import Derived.Deep.RegionHeld3
namespace Go.Proofs.Ytfdnhhjggophcaa.Tc
open Go.RowKit Go.Proofs.Ytfdnhhjggophcaa.PAb Go.Proofs.YtfdnhhjggophcaaW.PrintWords Go.Proofs.YtfdnhhjggophcaaW.PrintLast Go.Proofs.YtfdnhhjggophcaaW.PrintMore
set_option linter.unusedVariables false
set_option linter.unusedSimpArgs false
theorem cell_be1 {w w' : World} {a : Addr} {v : Value} (hc : w.cell? a = some v) (h : Below w.heap.size w w') : w'.cell? a = some v := (h.cell (World.block_lt_of_cell? w _ hc)).trans hc
theorem checks_early (A0 : Option Addr) (c0 : Nat) (l0 : List Int) (m pol : Int) (A3 : Option Addr) (c3 : Nat) (l3 : List Int) (w : World) (h : 3000 < l0.length ∨ m < 1 ∨ m > 60 ∨ 5000 < l3.length) :
    Calls Try.prog 6 #[.slice A0 l0.length c0, .int .i64 m, .int .i64 pol, .slice A3 l3.length c3] w fun e w' => e = .returned (.bool true) ∧ Below w.heap.size w w' := by
  have HF := Aside0.mk (fun W => ltklaw23_first.calls 200 true W first_at)
  have key : ∀ a b c1 d : Bool, decide (l0.length > 3000) = a → decide (m < 1) = b → decide (m > 60) = c1 → decide (l3.length > 5000) = d → (a || b || c1 || d) = true →
      Calls Try.prog 6 #[.slice A0 l0.length c0, .int .i64 m, .int .i64 pol, .slice A3 l3.length c3] w fun e w' => e = .returned (.bool true) ∧ Below w.heap.size w w' := by
    intro a b c1 d ha hb hc hd h
    have ha' : decide ((l0.length : Int) > 3000) = a := by rw [← ha]; exact decide_eq_decide.2 (by omega)
    have hd' : decide ((l3.length : Int) > 5000) = d := by rw [← hd]; exact decide_eq_decide.2 (by omega)
    cases a with
    | true =>
      go_enter Try.func6, Try.ntmps6
      go_wp2_with fail
      refine (HF.out w).mono ?_
      rintro e w1 ⟨rfl, hb1⟩
      have HB := Aside0.mk hb1
      clear hb1
      go_wp2_with fail
      refine (HF.out w1).mono ?_
      rintro e w2 ⟨rfl, hb2⟩
      have HB2 := Aside0.mk (below_then HB.out HB.out.size hb2)
      clear hb2
      go_wp2
      go_ret
      exact ⟨rfl, HB2.out⟩
    | false =>
    cases b with
    | true =>
      go_enter Try.func6, Try.ntmps6
      go_wp2_with fail
      refine (HF.out w).mono ?_
      rintro e w1 ⟨rfl, hb1⟩
      have HB := Aside0.mk hb1
      clear hb1
      go_wp2_with fail
      refine (HF.out w1).mono ?_
      rintro e w2 ⟨rfl, hb2⟩
      have HB2 := Aside0.mk (below_then HB.out HB.out.size hb2)
      clear hb2
      go_wp2
      go_ret
      exact ⟨rfl, HB2.out⟩
    | false =>
    cases c1 with
    | true =>
      go_enter Try.func6, Try.ntmps6
      go_wp2_with fail
      refine (HF.out w).mono ?_
      rintro e w1 ⟨rfl, hb1⟩
      have HB := Aside0.mk hb1
      clear hb1
      go_wp2_with fail
      refine (HF.out w1).mono ?_
      rintro e w2 ⟨rfl, hb2⟩
      have HB2 := Aside0.mk (below_then HB.out HB.out.size hb2)
      clear hb2
      go_wp2
      go_ret
      exact ⟨rfl, HB2.out⟩
    | false =>
    cases d with
    | true =>
      go_enter Try.func6, Try.ntmps6
      go_wp2_with fail
      refine (HF.out w).mono ?_
      rintro e w1 ⟨rfl, hb1⟩
      have HB := Aside0.mk hb1
      clear hb1
      go_wp2_with fail
      refine (HF.out w1).mono ?_
      rintro e w2 ⟨rfl, hb2⟩
      have HB2 := Aside0.mk (below_then HB.out HB.out.size hb2)
      clear hb2
      go_wp2
      go_ret
      exact ⟨rfl, HB2.out⟩
    | false => cases h
  refine key _ _ _ _ rfl rfl rfl rfl ?_
  simp only [Bool.or_eq_true, decide_eq_true_eq]
  omega
set_option maxHeartbeats 16000000 in
set_option maxRecDepth 100000 in
theorem checks_in (A0 : Option Addr) (c0 : Nat) (l0 : List Int) (n : Nat) (pol : Int) (A3 : Option Addr) (c3 : Nat) (l3 : List Int) (w : World) (hr0 : Kd.C (Kd.int .u8) w A0 l0.length l0) (hc0 : l0.length ≤ c0) (hb0 : ∀ x ∈ l0, byt x)
    (hr3 : Kd.C (Kd.int .i64) w A3 l3.length l3) (hc3 : l3.length ≤ c3) (h0 : l0.length ≤ 3000) (n1 : 1 ≤ n) (n2 : n ≤ 60) (h3 : l3.length ≤ 5000) :
    Calls Try.prog 6 #[.slice A0 l0.length c0, .int .i64 (n : Int), .int .i64 pol, .slice A3 l3.length c3] w fun e w' => e = .returned (.bool true) ∧ Below w.heap.size w w' := by
  obtain ⟨p, p0, p2, hs⟩ := small_f (n : Int) pol (by omega) (by omega)
  have ht := threads_f l0 (by omega) hb0 (n : Int) (k := 1000) (by omega)
  rw [if_neg (by omega), Int.toNat_natCast] at ht
  have hheap : tale_Heap.f 2 2 2 2 (n : Int) 2 4 200 20 2 200 p l3 = some (tale_Heap.hp 16 l3) := by
    unfold tale_Heap.f
    rw [words_f (n : Int) p (by omega) (by omega) p0 p2]
    simp only [Option.bind_some]
    rw [if_pos (by omega)]
    rfl
  have hhl : (tale_Heap.hp 16 l3).length = 16 := by
    unfold tale_Heap.hp
    rw [List.length_append, List.length_take, List.length_replicate]
    omega
  have hpk := picks_f l0 (by omega) hb0 (n : Int) (k := 5000) (by omega)
  rw [if_neg (by omega)] at hpk
  have hrf := ref_f (n : Int) p (by omega) (by omega) p0 p2 (k := 10) (by omega)
  have hu25 := Try.underlying25
  have HF := Aside0.mk (fun W => ltklaw23_first.calls 200 true W first_at)
  have HSm := Aside0.mk (fun W => tale_Small.calls (n : Int) pol 2 2 2 2 (n : Int) 2 4 200 20 2 200 p W hs)
  have HCk := Aside0.mk (fun W => shape_Check.calls 2 2 2 2 (n : Int) 2 4 200 20 2 200 p 0 W (check_f (n : Int) p (by omega) (by omega) p0 p2))
  have HPg := Aside0.mk (fun W (hb : Below w.heap.size w W) => tale_Prog.calls 200 A0 c0 l0 (progS l0) W (Kd.C_below hr0 hb) hc0 (prog_f l0 (by omega) hb0 (by omega)))
  have HPc := Aside0.mk (fun q W A c hr hc => prog_Check.calls 200 2 2 2 2 (n : Int) 2 4 200 20 2 200 p A c (progS q) 0 W hr hc (chk_f q (n : Int) p (by omega) (by omega) p0 p2 (by omega)))
  have HFw := Aside0.mk (fun q W A c hr hc => ltklaw6_Few.calls 200 A c (progS q) true W hr hc (few_f q (by omega)))
  have HHp := Aside0.mk (fun W (hb : Below w.heap.size w W) => tale_Heap.calls 2 2 2 2 (n : Int) 2 4 200 20 2 200 p A3 c3 l3 (tale_Heap.hp 16 l3) W (Kd.C_below hr3 hb) hc3 hheap)
  have HWd := Aside0.mk (fun W => shape_Words.calls 2 2 2 2 (n : Int) 2 4 200 20 2 200 p 16 W (words_f (n : Int) p (by omega) (by omega) p0 p2))
  have HTh := Aside0.mk (fun W (hb : Below w.heap.size w W) => tale_Threads.calls 1000 A0 c0 l0 (n : Int) (threadsS l0 n) W (Kd.C_below hr0 hb) hc0 ht)
  have HPk := Aside0.mk (fun W (hb : Below w.heap.size w W) => tale_Picks.calls 5000 A0 c0 l0 (n : Int) (picksS l0 n) W (Kd.C_below hr0 hb) hc0 hpk)
  have HRf := Aside0.mk (fun W => ltkref1_Check.calls 10 2 2 2 2 (n : Int) 2 4 200 20 2 200 p 0 W hrf)
  have HHl := Aside0.mk hhl
  have HN := Aside0.mk (And.intro h0 (And.intro n1 (And.intro n2 (And.intro h3 hc0))))
  have HPl := Aside0.mk (show (picksS l0 (n : Int)).length = l0.length by unfold picksS; rw [List.length_map])
  have HPi := Aside0.mk (show ∀ x ∈ picksS l0 (n : Int), 0 ≤ x ∧ x ≤ n by
    intro x hx
    unfold picksS at hx
    obtain ⟨c, _, rfl⟩ := List.mem_map.1 hx
    have h1 := topS_pos (n := (n : Int)) (by omega)
    have h2 : topS (n : Int) = n + 1 := by unfold topS mx; rw [wrap_in (by omega) (by omega)]; split <;> omega
    rw [h2]
    exact ⟨Int.emod_nonneg _ (by omega), by have := Int.emod_lt_of_pos c (show (0 : Int) < n + 1 by omega); omega⟩)
  have HTl := Aside0.mk (show (threadsS l0 n).length = n by simp [threadsS])
  have HTa := Aside0.mk (fun i (hi : i < n) => threads_at l0 n i hi)
  have a1 : decide ((l0.length : Int) > 3000) = false := decide_eq_false (by omega)
  have a2 : decide (l0.length > 3000) = false := decide_eq_false (by omega)
  have a3 : decide ((n : Int) < 1) = false := decide_eq_false (by omega)
  have a4 : decide ((n : Int) > 60) = false := decide_eq_false (by omega)
  have a5 : decide ((l3.length : Int) > 5000) = false := decide_eq_false (by omega)
  have a6 : decide (l3.length > 5000) = false := decide_eq_false (by omega)
  clear hr0 hc0 hr3 hc3 h0 n1 n2 h3 ht hheap hhl hpk hrf hs
  go_enter Try.func6, Try.ntmps6
  go_wp2_with fail
  refine (HF.out w).mono ?_
  rintro e w1 ⟨rfl, hb⟩
  have HB1 := Aside0.mk hb
  clear hb
  go_wp2_with fail
  refine (HSm.out w1).mono ?_
  rintro e w2 ⟨rfl, hb⟩
  have HB2 := Aside0.mk (below_alloc (below_then HB1.out HB1.out.size hb) (.cells #[.int .i64 2, .int .i64 2, .int .i64 2, .int .i64 2, .int .i64 (n : Int), .int .i64 2, .int .i64 4, .int .i64 200, .int .i64 20, .int .i64 2, .int .i64 200, .int .i64 p] 25))
  have BK := Aside0.mk (blk_new w2 (.cells #[.int .i64 2, .int .i64 2, .int .i64 2, .int .i64 2, .int .i64 (n : Int), .int .i64 2, .int .i64 4, .int .i64 200, .int .i64 20, .int .i64 2, .int .i64 200, .int .i64 p] 25))
  obtain ⟨w3, hw3⟩ : ∃ W, w2.alloc (.cells #[.int .i64 2, .int .i64 2, .int .i64 2, .int .i64 2, .int .i64 (n : Int), .int .i64 2, .int .i64 4, .int .i64 200, .int .i64 20, .int .i64 2, .int .i64 200, .int .i64 p] 25) = W := ⟨_, rfl⟩
  have HW3 := Aside0.mk hw3
  rw [hw3] at HB2 BK
  generalize hg : w2.heap.size = g at BK
  have HG := Aside0.mk hg
  have HX := Aside0.mk (fun W (hb : Below w3.heap.size w3 W) => (show W.cell? ⟨g, 0, none⟩ = some (.int .i64 2) ∧ W.cell? ⟨g, 1, none⟩ = some (.int .i64 2) ∧ W.cell? ⟨g, 2, none⟩ = some (.int .i64 2) ∧ W.cell? ⟨g, 3, none⟩ = some (.int .i64 2) ∧ W.cell? ⟨g, 4, none⟩ = some (.int .i64 (n : Int)) ∧ W.cell? ⟨g, 5, none⟩ = some (.int .i64 2) ∧ W.cell? ⟨g, 6, none⟩ = some (.int .i64 4) ∧ W.cell? ⟨g, 7, none⟩ = some (.int .i64 200) ∧ W.cell? ⟨g, 8, none⟩ = some (.int .i64 20) ∧ W.cell? ⟨g, 9, none⟩ = some (.int .i64 2) ∧ W.cell? ⟨g, 10, none⟩ = some (.int .i64 200) ∧ W.cell? ⟨g, 11, none⟩ = some (.int .i64 p) from by
    have h := (hb.block g (Array.getElem?_eq_some_iff.1 BK.out).1).trans BK.out
    exact ⟨(blk_cell h 0).trans rfl, (blk_cell h 1).trans rfl, (blk_cell h 2).trans rfl, (blk_cell h 3).trans rfl, (blk_cell h 4).trans rfl, (blk_cell h 5).trans rfl, (blk_cell h 6).trans rfl, (blk_cell h 7).trans rfl, (blk_cell h 8).trans rfl, (blk_cell h 9).trans rfl, (blk_cell h 10).trans rfl, (blk_cell h 11).trans rfl⟩))
  clear hb hw3 hg a1 a2 a3 a4 a5 a6
  go_wp2_with fail
  rw [HG.out, HW3.out]
  obtain ⟨x0, x1, x2, x3, x4, x5, x6, x7, x8, x9, x10, x11⟩ := HX.out _ (Below.refl _ _)
  have hbd := below_drew (Below.refl w3.heap.size w3)
  have HBd := Aside0.mk hbd
  have D0 := Aside0.mk (below_then HB2.out HB2.out.size hbd)
  clear hbd
  go_region_held3 (fun W => W.cell? ⟨g, 0, none⟩ = some (.int .i64 2) ∧ W.cell? ⟨g, 1, none⟩ = some (.int .i64 2) ∧ W.cell? ⟨g, 2, none⟩ = some (.int .i64 2) ∧ W.cell? ⟨g, 3, none⟩ = some (.int .i64 2) ∧ W.cell? ⟨g, 4, none⟩ = some (.int .i64 (n : Int)) ∧ W.cell? ⟨g, 5, none⟩ = some (.int .i64 2) ∧ W.cell? ⟨g, 6, none⟩ = some (.int .i64 4) ∧ W.cell? ⟨g, 7, none⟩ = some (.int .i64 200) ∧ W.cell? ⟨g, 8, none⟩ = some (.int .i64 20) ∧ W.cell? ⟨g, 9, none⟩ = some (.int .i64 2) ∧ W.cell? ⟨g, 10, none⟩ = some (.int .i64 200) ∧ W.cell? ⟨g, 11, none⟩ = some (.int .i64 p))
    (first | exact HX.out _ (Below.refl _ _) | exact HX.out _ HBd.out | exact HX.out _ E1.out | exact HX.out _ E2.out | exact HX.out _ E3.out | exact HX.out _ E4.out | exact HX.out _ E5.out)
    (first
      | (go_at_call 25; refine (HCk.out _).mono ?_; rintro e w5 ⟨rfl, hb⟩; have E1 := Aside0.mk (below_then HBd.out HBd.out.size hb))
      | (go_at_call 15; refine (HPg.out _ (below_then HB2.out HB2.out.size E1.out)).mono ?_; rintro e w6 ⟨v0, rfl, hS, hb⟩; have E2 := Aside0.mk (below_then E1.out E1.out.size hb); obtain ⟨Ap, cp, rfl, hcp, hCp⟩ := Kd.N_reads (Kd.S_N hS))
      | (go_at_call 26; refine (HPc.out l0 _ Ap cp hCp hcp).mono ?_; rintro e w7 ⟨rfl, hb⟩; have E3 := Aside0.mk (below_then E2.out E2.out.size hb))
      | (go_at_call 20; refine (HHp.out _ (below_then HB2.out HB2.out.size E3.out)).mono ?_; rintro e w8 ⟨v0, rfl, hR, hb⟩; have E4 := Aside0.mk (below_then E3.out E3.out.size hb); obtain ⟨Ah, ch, rfl, hch, hCh⟩ := Kd.N_reads (Kd.R_N hR); rw [HHl.out])
      | (go_at_call 27; refine (HWd.out _).mono ?_; rintro e w9 ⟨rfl, hb⟩; have E5 := Aside0.mk (below_then E4.out E4.out.size hb)))
  clear x0 x1 x2 x3 x4 x5 x6 x7 x8 x9 x10 x11
  have D5 := Aside0.mk (below_then HB2.out HB2.out.size E5.out)
  go_wp2_with fail
  refine (HTh.out _ D5.out).mono ?_
  rintro e w10 ⟨v0, rfl, hN, hb⟩
  obtain ⟨A10, c10, rfl, hc10, hC10⟩ := Kd.N_reads hN
  have E10 := Aside0.mk (below_then E5.out E5.out.size hb)
  have HC10 := Aside0.mk hC10
  rw [HTl.out]
  clear hN hb hC10 hc10 hS hR hcp hCp hch hCh E1 E2 E3 E4 E5 D5
  go_wp2_with fail
  go_loopg [11] n (fun gg v wr => ∃ i : Nat, i ≤ n ∧ n - i ≤ gg ∧ v = .int .i64 i ∧ Aside0 (Below w10.heap.size w10 wr))
  case atStart => exact ⟨0, by omega, by omega, rfl, ⟨Below.refl _ _⟩⟩
  case round =>
    obtain ⟨i, hi, hgi, rfl, HC⟩ := hrel
    by_cases hlt : i < n
    · have t1 : (i : Int) < (n : Int) := by omega
      have t0 : 0 ≤ (i : Int) := by omega
      have HLT := Aside0.mk (And.intro hlt hgi)
      have W3 := Aside0.mk (show wrap64 ((i : Int) + 1) = ((i + 1 : Nat) : Int) by have := HN.out; rw [wrap_in (by omega) (by omega)]; omega)
      clear hlt hgi hi
      go_wp2_with fail
      go_loopg [12] 2 (fun gg v wr2 => ∃ k : Nat, k ≤ 2 ∧ 2 - k ≤ gg ∧ v = .int .i64 k ∧ Aside0 (Below w10.heap.size w10 wr2))
      case atStart => exact ⟨0, by omega, by omega, rfl, HC⟩
      case round =>
        clear HC
        obtain ⟨k, hk, hgk, rfl, HD⟩ := hrel
        obtain ⟨ad10, B0, cB, rfl, r0, hcB, hCB⟩ := at_L5 (Kd.C_below HC10.out HD.out) (i : Int) (by omega) (by rw [HTl.out]; omega)
        rw [HTa.out i HLT.out.1] at r0 hcB hCB
        rw [two_len] at r0 hcB hCB
        rw [Int.toNat_natCast] at r0
        by_cases hlk : k < 2
        · have t5 : (k : Int) < 2 := by omega
          have t6 : 0 ≤ (k : Int) := by omega
          obtain ⟨adB, C0, cC, rfl, r1, hcC, hCC⟩ := at_L4 hCB (k : Int) (by omega) (by omega)
          obtain ⟨q, hq⟩ := two_prog l0 (l0.length / n) i k hlk
          rw [hq] at r1 hcC hCC
          rw [Int.toNat_natCast] at r1
          have HCC := Aside0.mk hCC
          have HcC := Aside0.mk hcC
          have HKk := Aside0.mk (And.intro hlk hgk)
          have HS := Aside0.mk (fun W (hb : Below wr.heap.size wr W) => (show W.cell? (ad10.add i) = some (.slice (some adB) 2 cB) ∧ W.cell? (adB.add k) = some (.slice C0 (progS q).length cC) ∧ W.cell? ⟨g, 0, none⟩ = some (.int .i64 2) ∧ W.cell? ⟨g, 1, none⟩ = some (.int .i64 2) ∧ W.cell? ⟨g, 2, none⟩ = some (.int .i64 2) ∧ W.cell? ⟨g, 3, none⟩ = some (.int .i64 2) ∧ W.cell? ⟨g, 4, none⟩ = some (.int .i64 (n : Int)) ∧ W.cell? ⟨g, 5, none⟩ = some (.int .i64 2) ∧ W.cell? ⟨g, 6, none⟩ = some (.int .i64 4) ∧ W.cell? ⟨g, 7, none⟩ = some (.int .i64 200) ∧ W.cell? ⟨g, 8, none⟩ = some (.int .i64 20) ∧ W.cell? ⟨g, 9, none⟩ = some (.int .i64 2) ∧ W.cell? ⟨g, 10, none⟩ = some (.int .i64 200) ∧ W.cell? ⟨g, 11, none⟩ = some (.int .i64 p) from
            ⟨cell_be1 r0 hb, cell_be1 r1 hb, HX.out W (below_then (below_then E10.out E10.out.size HD.out) (below_then E10.out E10.out.size HD.out).size hb)⟩))
          have WK := Aside0.mk (show wrap64 ((k : Int) + 1) = ((k + 1 : Nat) : Int) by rw [wrap_in (by omega) (by omega)]; omega)
          clear hq hCC hcC hcB hCB hlk hgk hk
          have HFq := Aside0.mk (HFw.out q)
          have HPq := Aside0.mk (HPc.out q)
          generalize progS q = PQ at r1 HCC HcC HS HFq HPq
          obtain ⟨q0_, q1_, x0, x1, x2, x3, x4, x5, x6, x7, x8, x9, x10, x11⟩ := HS.out _ (Below.refl _ _)
          go_wp2_with fail
          have HBd := Aside0.mk (below_drew (Below.refl wr.heap.size wr))
          go_region_held3 (fun W => W.cell? (ad10.add i) = some (.slice (some adB) 2 cB) ∧ W.cell? (adB.add k) = some (.slice C0 PQ.length cC) ∧ W.cell? ⟨g, 0, none⟩ = some (.int .i64 2) ∧ W.cell? ⟨g, 1, none⟩ = some (.int .i64 2) ∧ W.cell? ⟨g, 2, none⟩ = some (.int .i64 2) ∧ W.cell? ⟨g, 3, none⟩ = some (.int .i64 2) ∧ W.cell? ⟨g, 4, none⟩ = some (.int .i64 (n : Int)) ∧ W.cell? ⟨g, 5, none⟩ = some (.int .i64 2) ∧ W.cell? ⟨g, 6, none⟩ = some (.int .i64 4) ∧ W.cell? ⟨g, 7, none⟩ = some (.int .i64 200) ∧ W.cell? ⟨g, 8, none⟩ = some (.int .i64 20) ∧ W.cell? ⟨g, 9, none⟩ = some (.int .i64 2) ∧ W.cell? ⟨g, 10, none⟩ = some (.int .i64 200) ∧ W.cell? ⟨g, 11, none⟩ = some (.int .i64 p))
            (first | exact HS.out _ (Below.refl _ _) | exact HS.out _ HBd.out | exact HS.out _ F1.out | exact HS.out _ F2.out)
            (first
              | (go_at_call 28; refine (HFq.out _ _ _ (Kd.C_below HCC.out HBd.out) HcC.out).mono ?_; rintro e w12 ⟨rfl, hb⟩; have F1 := Aside0.mk (below_then HBd.out HBd.out.size hb.below))
              | (go_at_call 26; refine (HPq.out _ _ _ (Kd.C_below HCC.out F1.out) HcC.out).mono ?_; rintro e w13 ⟨rfl, hb⟩; have F2 := Aside0.mk (below_then F1.out F1.out.size hb)))
          have HE := Aside0.mk (below_then HD.out HD.out.size F2.out)
          clear x0 x1 x2 x3 x4 x5 x6 x7 x8 x9 x10 x11 r0 r1 q0_ q1_ F1 HBd
          go_wp2
          go_roundg (2 - (k + 1))
          case measure => have := HKk.out; omega
          case rel => exact ⟨k + 1, by have := HKk.out; omega, by have := HKk.out; omega, by first | (rw [WK.out]; done) | (simp; done), HE⟩
        · obtain rfl : k = 2 := by omega
          have HE := Aside0.mk HD.out
          clear hlk hgk hk hcB hCB
          go_wp2
          go_roundg (n - (i + 1))
          case measure => have := HLT.out; omega
          case rel => exact ⟨i + 1, by have := HLT.out; omega, by have := HLT.out; omega, by first | (rw [W3.out]; done) | (simp; done), HD⟩
    · obtain rfl : i = n := by omega
      have t1 : ¬ (i : Int) < (i : Int) := by omega
      clear hlt hgi hi
      go_wp2_with fail
      refine (HPk.out _ (below_then (below_then HB2.out HB2.out.size E10.out) (below_then HB2.out HB2.out.size E10.out).size HC.out)).mono ?_
      rintro e w14 ⟨v0, rfl, hR, hb⟩
      obtain ⟨A13, c13, rfl, hc13, hC13⟩ := Kd.N_reads (Kd.R_N hR)
      have E14 := Aside0.mk (below_then (below_then E10.out E10.out.size HC.out) (below_then E10.out E10.out.size HC.out).size hb)
      have HC13 := Aside0.mk hC13
      rw [HPl.out]
      clear hR hb hC13 hc13 HC
      go_wp2_with fail
      go_loopg [14] l0.length (fun gg v wr2 => ∃ j : Nat, j ≤ l0.length ∧ l0.length - j ≤ gg ∧ v = .int .i64 j ∧ Aside0 (Below w14.heap.size w14 wr2))
      case atStart => exact ⟨0, by omega, by omega, rfl, ⟨Below.refl _ _⟩⟩
      case round =>
        obtain ⟨j, hj, hgj, rfl, HD⟩ := hrel
        by_cases hlj : j < l0.length
        · have t5 : (j : Int) < (l0.length : Int) := by omega
          have t6 : 0 ≤ (j : Int) := by omega
          obtain ⟨ad13, rfl, r2⟩ := Kd.at_int (Kd.C_below HC13.out HD.out) (j : Int) (by omega) (by rw [HPl.out]; omega)
          rw [Int.toNat_natCast, show rd (picksS l0 (i : Int)) (j : Int) = (picksS l0 (i : Int)).getD j 0 from by simp [rd]] at r2
          have hx := HPi.out ((picksS l0 (i : Int)).getD j 0) (by rw [List.getD_eq_getElem?_getD, List.getElem?_eq_getElem (by rw [HPl.out]; exact hlj)]; exact List.getElem_mem _)
          generalize (picksS l0 (i : Int)).getD j 0 = x at r2 hx
          have b1 : decide (x < 0) = false := decide_eq_false (by omega)
          have b2 : decide (x > (i : Int)) = false := decide_eq_false (by omega)
          have HJ := Aside0.mk (And.intro hlj hgj)
          have WJ := Aside0.mk (show wrap64 ((j : Int) + 1) = ((j + 1 : Nat) : Int) by have := HN.out; rw [wrap_in (by omega) (by omega)]; omega)
          clear hx hlj hgj hj
          go_wp2_with fail
          go_roundg (l0.length - (j + 1))
          case measure => have := HJ.out; omega
          case rel => exact ⟨j + 1, by have := HJ.out; omega, by have := HJ.out; omega, by first | (rw [WJ.out]; done) | (simp; done), HD⟩
        · obtain rfl : j = l0.length := by omega
          have t5 : ¬ (l0.length : Int) < (l0.length : Int) := by omega
          clear hlj hgj hj
          go_wp2_with fail
          refine (HF.out _).mono ?_
          rintro e w15 ⟨rfl, hb⟩
          have E15 := Aside0.mk (below_then (below_then E14.out E14.out.size HD.out) (below_then E14.out E14.out.size HD.out).size hb)
          clear hb
          obtain ⟨x0, x1, x2, x3, x4, x5, x6, x7, x8, x9, x10, x11⟩ := HX.out _ E15.out
          go_wp2_with fail
          refine (HRf.out _).mono ?_
          rintro e w16 ⟨rfl, hb⟩
          have E16 := Aside0.mk (below_then HB2.out HB2.out.size (below_then E15.out E15.out.size hb))
          clear hb
          clear x0 x1 x2 x3 x4 x5 x6 x7 x8 x9 x10 x11
          go_wp2
          go_ret
          exact ⟨rfl, E16.out⟩
theorem checks_walk (A0 : Option Addr) (c0 : Nat) (l0 : List Int) (m pol : Int) (A3 : Option Addr) (c3 : Nat) (l3 : List Int) (w : World) (hr0 : Kd.C (Kd.int .u8) w A0 l0.length l0) (hc0 : l0.length ≤ c0) (hw0 : l0.length ≤ maxLen) (hb0 : ∀ x ∈ l0, (Lit.int .u8 x).wf = true)
    (wm : (Lit.int .i64 m).wf = true) (wp : (Lit.int .i64 pol).wf = true) (hr3 : Kd.C (Kd.int .i64) w A3 l3.length l3) (hc3 : l3.length ≤ c3) (hw3 : l3.length ≤ maxLen) (hb3 : ∀ x ∈ l3, (Lit.int .i64 x).wf = true) :
    Calls Try.prog 6 #[.slice A0 l0.length c0, .int .i64 m, .int .i64 pol, .slice A3 l3.length c3] w fun e w' => e = .returned (.bool true) ∧ Below w.heap.size w w' := by
  by_cases h : 3000 < l0.length ∨ m < 1 ∨ m > 60 ∨ 5000 < l3.length
  · exact checks_early A0 c0 l0 m pol A3 c3 l3 w h
  · obtain ⟨n, rfl⟩ : ∃ n : Nat, m = n := ⟨m.toNat, by omega⟩
    exact checks_in A0 c0 l0 n pol A3 c3 l3 w hr0 hc0 (bytes_of hb0) hr3 hc3 (by omega) (by omega) (by omega) (by omega)
end Go.Proofs.Ytfdnhhjggophcaa.Tc
