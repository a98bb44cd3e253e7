/- TableCircle: its walk. -/
import Derived.Test.YtagdgkimjgomlaaTb15
namespace Go.Proofs.Ytagdgkimjgomlaa.Ln
open Go.RowKit Go.Proofs.YtagdgkimjgomlaaW.PrintWords Go.Proofs.YtagdgkimjgomlaaW.PrintLast Go.Proofs.YtagdgkimjgomlaaW.PrintMore Go.Proofs.Ytagdgkimjgomlaa.PMd
open Go.Maps
open Go.Sort (grow)
set_option linter.unusedVariables false
set_option linter.unusedSimpArgs false
theorem su_tmod {n i : Nat} : Int.tmod ((i : Int) + 1) (n : Int) = ((su n i : Nat) : Int) := by
  rw [show (i : Int) + 1 = ((i + 1 : Nat) : Int) by omega, Int.tmod_eq_emod_of_nonneg (by omega)]
  unfold su; rfl
theorem pr_tmod {n g : Nat} (h : 1 ≤ n) : Int.tmod ((g : Int) + (n : Int) - 1) (n : Int) = ((pr n g : Nat) : Int) := by
  rw [show (g : Int) + (n : Int) - 1 = ((g + n - 1 : Nat) : Int) by omega, Int.tmod_eq_emod_of_nonneg (by omega)]
  unfold pr; rfl
theorem g15_waits {n g : Nat} (h2 : 2 ≤ n) (hg : g < n) : waitsT (TM n (C15l n g)) (g15 n g) ((pr n g : Nat) : Int) = (0, 0, false) := by
  unfold waitsT
  rw [show g15 n g ((pr n g : Nat) : Int) = none by rw [g15_at h2 hg, if_pos (.inr rfl)]]
set_option maxHeartbeats 8000000 in
set_option maxRecDepth 100000 in
theorem circ_bad (nodes gone : Int) (w : World) (h : (decide (nodes < 2) || decide (nodes > 30) || decide (gone < 0) || decide (gone ≥ nodes)) = true) :
    Calls Try.prog 16 #[.int .i64 nodes, .int .i64 gone] w fun e w' => e = .returned (.bool true) ∧ Below w.heap.size w w' := by
  have key : ∀ a b c d : Bool, decide (nodes < 2) = a → decide (nodes > 30) = b → decide (gone < 0) = c → decide (gone ≥ nodes) = d → (a || b || c || d) = true →
      Calls Try.prog 16 #[.int .i64 nodes, .int .i64 gone] w fun e w' => e = .returned (.bool true) ∧ Below w.heap.size w w' := by
    intro a b c d ha hb hc hd h
    cases a with
    | true =>
      go_enter Try.func16, Try.ntmps16
      go_wp2_with fail
      refine (firstT_ w).mono ?_
      rintro e w1 ⟨rfl, hb⟩
      have HB1 := Aside0.mk hb
      clear hb
      go_wp2_with fail
      refine (firstT_ w1).mono ?_
      rintro e w2 ⟨rfl, hb⟩
      have HB2 := Aside0.mk (below_then HB1.out HB1.out.size hb)
      clear hb
      go_wp2
      go_ret
      exact ⟨rfl, HB2.out⟩
    | false =>
    cases b with
    | true =>
      go_enter Try.func16, Try.ntmps16
      go_wp2_with fail
      refine (firstT_ w).mono ?_
      rintro e w1 ⟨rfl, hb⟩
      have HB1 := Aside0.mk hb
      clear hb
      go_wp2_with fail
      refine (firstT_ w1).mono ?_
      rintro e w2 ⟨rfl, hb⟩
      have HB2 := Aside0.mk (below_then HB1.out HB1.out.size hb)
      clear hb
      go_wp2
      go_ret
      exact ⟨rfl, HB2.out⟩
    | false =>
    cases c with
    | true =>
      go_enter Try.func16, Try.ntmps16
      go_wp2_with fail
      refine (firstT_ w).mono ?_
      rintro e w1 ⟨rfl, hb⟩
      have HB1 := Aside0.mk hb
      clear hb
      go_wp2_with fail
      refine (firstT_ w1).mono ?_
      rintro e w2 ⟨rfl, hb⟩
      have HB2 := Aside0.mk (below_then HB1.out HB1.out.size hb)
      clear hb
      go_wp2
      go_ret
      exact ⟨rfl, HB2.out⟩
    | false =>
    cases d with
    | true =>
      go_enter Try.func16, Try.ntmps16
      go_wp2_with fail
      refine (firstT_ w).mono ?_
      rintro e w1 ⟨rfl, hb⟩
      have HB1 := Aside0.mk hb
      clear hb
      go_wp2_with fail
      refine (firstT_ w1).mono ?_
      rintro e w2 ⟨rfl, hb⟩
      have HB2 := Aside0.mk (below_then HB1.out HB1.out.size hb)
      clear hb
      go_wp2
      go_ret
      exact ⟨rfl, HB2.out⟩
    | false => cases h
  exact key _ _ _ _ rfl rfl rfl rfl h
set_option maxHeartbeats 8000000 in
set_option maxRecDepth 100000 in
theorem circ_in (n g : Nat) (w : World) (n1 : 2 ≤ n) (n2 : n ≤ 30) (hg : g < n) :
    Calls Try.prog 16 #[.int .i64 (n : Int), .int .i64 (g : Int)] w fun e w' => e = .returned (.bool true) ∧ Below w.heap.size w w' := by
  have mixed : Try.prog.follows Departure.mixedOrders = true := by kernel_rfl
  have a1 : decide ((n : Int) < 2) = false := decide_eq_false (by omega)
  have a2 : decide ((n : Int) > 30) = false := decide_eq_false (by omega)
  have a3 : decide ((g : Int) < 0) = false := decide_eq_false (by omega)
  have a4 : decide ((g : Int) ≥ (n : Int)) = false := decide_eq_false (by omega)
  have a5 : decide (n ≤ g) = false := decide_eq_false (by omega)
  have hz : (n : Int) ≠ 0 := by omega
  have hz2 : ((n : Int) == 0) = false := beq_eq_false_iff_ne.2 hz
  have HN := Aside0.mk (And.intro n1 (And.intro n2 hg))
  have HNew := Aside0.mk (fun W => NewT_ n 100 W (by omega) (by omega) (by decide) (by decide))
  have hu38 := Try.underlying38
  have hu87 := Try.underlying87
  clear n1 n2 hg
  go_enter Try.func16, Try.ntmps16
  go_wp2_with fail
  refine (firstT_ w).mono ?_
  rintro e w1 ⟨rfl, hb⟩
  have HB1 := Aside0.mk hb
  clear hb
  go_wp2_with fail
  refine (HNew.out w1).mono ?_
  rintro e w2 ⟨rfl, hT, hb⟩
  have T2 := Aside0.mk (show IsTab w2 (w1.heap.size + 1) (fun k => w1.heap.size ≤ k) (A15 n 0) 100 0 f0 by
    rw [show A15 n 0 = List.replicate n zL by rw [TM_zero]; exact TM_congr (fun k _ => if_neg (by omega))]
    exact hT)
  have C2 := Aside0.mk hb
  clear hT hb HNew
  generalize w1.heap.size + 1 = B at T2 ⊢
  go_wp2_with fail
  go_loopg [7] n (fun gg v wr => ∃ i : Nat, i ≤ n ∧ n - i ≤ gg ∧ v = .int .i64 i ∧ Aside0 (IsTab wr B (fun k => w1.heap.size ≤ k) (A15 n i) 100 i f0) ∧ Aside0 (Below w1.heap.size w1 wr))
  case atStart => exact ⟨0, by omega, by omega, rfl, T2, C2⟩
  case round =>
    clear T2 C2
    obtain ⟨i, hi, hgg, rfl, HT, HC⟩ := hrel
    by_cases hlt : i < n
    · have t1 : (i : Int) < (n : Int) := by omega
      have W3 := Aside0.mk (show wrap64 ((i : Int) + 1) = ((i + 1 : Nat) : Int) by have := HN.out; unfold wrap64; omega)
      have HA := Aside0.mk (AskT_0 HT.out HC.out (TM_small (m := 1) (by have := HN.out; omega) (fun k _ => (a15_len1 (n := n) k).1) (by decide)) (by have := HN.out; omega) (i : Int) (i : Int) 5 (ok64_to (by have := HN.out; unfold wrap64; omega)))
      rw [a15_ask (i := i) HN.out.2.1 hlt] at HA
      clear hlt HT
      go_wp2_with fail
      refine HA.out.mono ?_
      rintro e w5 ⟨rfl, hT, hb⟩
      have HT5 := Aside0.mk hT
      have HC5 := Aside0.mk hb
      clear hT hb HA
      go_wp2
      go_roundg (n - (i + 1))
      case measure => omega
      case rel => exact ⟨i + 1, by omega, by omega, by rw [W3.out], HT5, HC5⟩
    · obtain rfl : i = n := by omega
      have t1 : ¬ (i : Int) < (i : Int) := by omega
      have T3 := Aside0.mk (show IsTab wr B (fun k => w1.heap.size ≤ k) (B15 i 0) 100 i (f15 i 0) by rw [← a15_b15, f15_zero]; exact HT.out)
      have C3 := HC
      clear HT HC hlt hgg hi
      go_wp2_with fail
      clear t1
      go_loopg [8] i (fun gg v wr => ∃ j : Nat, j ≤ i ∧ i - j ≤ gg ∧ v = .int .i64 j ∧ Aside0 (IsTab wr B (fun k => w1.heap.size ≤ k) (B15 i j) 100 (i + 2 * j) (f15 i j)) ∧ Aside0 (Below w1.heap.size w1 wr))
      case atStart => exact ⟨0, by omega, by omega, rfl, T3, C3⟩
      case round =>
        clear T3 C3
        obtain ⟨j, hj, hgg, rfl, HT, HC⟩ := hrel
        by_cases hlt : j < i
        · have t1 : (j : Int) < (i : Int) := by omega
          have W3 : wrap64 ((j : Int) + 1) = (j : Int) + 1 := by have := HN.out; unfold wrap64; omega
          have HTm := Aside0.mk (su_tmod (n := i) (i := j))
          have HA := Aside0.mk (AskT_0 HT.out HC.out (TM_small (m := 2) (by have := HN.out; omega) (fun k _ => b15_len1 k) (by decide)) (by have := HN.out; omega) (j : Int) ((su i j : Nat) : Int) 5 (ok64_to (by have := HN.out; unfold wrap64; omega)))
          rw [b15_ask HN.out.1 HN.out.2.1 hlt] at HA
          have HLT := Aside0.mk hlt
          generalize ((su i j : Nat) : Int) = u at HTm HA
          clear hlt HT
          have tm := HTm.out
          go_wp2_with fail
          refine HA.out.mono ?_
          rintro e w5 ⟨rfl, hT, hb⟩
          have HA2 := Aside0.mk (AskT_0 (show IsTab w5 B (fun k => w1.heap.size ≤ k) (B15 i (j + 1)) 100 (i + 2 * j + 1) (f15 i (j + 1)) from hT) hb (TM_small (m := 2) (by have := HN.out; omega) (fun k _ => b15_len1 k) (by decide)) (by have := HN.out; have := HLT.out; omega) (j : Int) (j : Int) 5 (ok64_to (by have := HN.out; have := HLT.out; unfold wrap64; omega)))
          rw [b15_again HLT.out] at HA2
          clear hT hb HA HC tm HTm
          go_wp2_with fail
          refine HA2.out.mono ?_
          rintro e w6 ⟨rfl, hT, hb⟩
          have HT6 := Aside0.mk hT
          have HC6 := Aside0.mk hb
          clear hT hb HA2
          go_wp2
          go_roundg (i - (j + 1))
          case measure => have := HLT.out; omega
          case rel => exact ⟨j + 1, by have := HLT.out; omega, by have := HLT.out; omega, by first | rfl | (rw [W3]; rfl) | simp, HT6, HC6⟩
        · obtain rfl : j = i := by omega
          have t1 : ¬ (j : Int) < (j : Int) := by omega
          have HE := Aside0.mk (EdgesT_ HT.out (TM_small (m := 2) (by have := HN.out; omega) (fun k _ => b15_len1 k) (by decide)) (by have := HN.out; omega) (f15_lt HN.out.1))
          clear hlt hgg hj
          go_wp2_with fail
          refine HE.out.mono ?_
          rintro e w7 ⟨l, hnd, hl, A7, c7, rfl, hR, -, hb⟩
          rw [edges15 HN.out.1 HN.out.2.1 hnd hl] at hR ⊢
          rw [e15_len] at hR ⊢
          have HR7 := Aside0.mk hR
          have HT7 := Aside0.mk (HT.out.below hb)
          have HC7 := Aside0.mk (below_then HC.out HC.out.size hb)
          clear hb hR hnd hl HE HT HC t1
          go_wp2_with fail
          go_loopg [14] j (fun gg v wr => ∃ k : Nat, k ≤ j ∧ j - k ≤ gg ∧ v = .int .i64 k ∧ Aside0 (IsTab wr B (fun k => w1.heap.size ≤ k) (B15 j j) 100 (j + 2 * j) (f15 j j)) ∧ Aside0 (Below w1.heap.size w1 wr) ∧ Aside0 (Row wr 87 2 A7 j c7 (flatP (E15 j))))
          case atStart => exact ⟨0, by omega, by omega, rfl, HT7, HC7, HR7⟩
          case round =>
            clear HT7 HC7 HR7
            obtain ⟨k, hk, hgg, rfl, HT, HC, HR⟩ := hrel
            by_cases hlt : k < j
            · have t1 : (k : Int) < (j : Int) := by omega
              have t0 : 0 ≤ (k : Int) := by omega
              have W3 : wrap64 ((k : Int) + 1) = (k : Int) + 1 := by have := HN.out; unfold wrap64; omega
              have HTm := Aside0.mk (su_tmod (n := j) (i := k))
              obtain ⟨g7, o7, hA7, q0, q1⟩ := HR.out.edge (e15_len j) hlt
              subst hA7
              rw [e15_at hlt] at q0 q1
              have HLT := Aside0.mk hlt
              dsimp only at q0 q1
              generalize ((su j k : Nat) : Int) = u at HTm q1
              have q0' := fun d os => cell_gr q0 d os
              have q1' := fun d os => cell_gr q1 d os
              clear hlt hk
              have tm := HTm.out
              go_wp2_with fail
              refine wp_region_gr mixed (by kernel_rfl) ?_
              repeat (first | go_big_quiet_step (fail) | simp only [Bool.not_true, Bool.not_false])
              refine wpQuiet_nil ?_
              intro _ hw'
              obtain ⟨⟨d, os⟩, rfl⟩ := hw'
              have hgr := below_gr wr d os
              have HT2 := Aside0.mk (HT.out.below hgr)
              have HC2 := Aside0.mk (below_then HC.out HC.out.size hgr)
              have HR2 := Aside0.mk (HR.out.below hgr)
              clear q0 q1 q0' q1' hgr tm HTm
              go_wp2
              go_roundg (j - (k + 1))
              case measure => have := HLT.out; omega
              case rel => exact ⟨k + 1, by have := HLT.out; omega, by have := HLT.out; omega, by first | rfl | (rw [W3]; rfl) | simp, HT2, HC2, HR2⟩
            · obtain rfl : k = j := by omega
              have t1 : ¬ (k : Int) < (k : Int) := by omega
              have w3 : wrap64 ((g : Int) + (k : Int)) = (g : Int) + (k : Int) := by have := HN.out; unfold wrap64; omega
              have w4 : wrap64 ((g : Int) + (k : Int) - 1) = (g : Int) + (k : Int) - 1 := by have := HN.out; unfold wrap64; omega
              have HTm := Aside0.mk (pr_tmod (n := k) (g := g) (by have := HN.out; omega))
              have hpl := pr_lt (n := k) (k := g) HN.out.1
              have HD := Aside0.mk (DropT_0 HT.out HC.out (by rw [show (B15 k k).length = k from TM_len _ _]; have := HN.out; omega) (by rw [show (B15 k k).length = k from TM_len _ _]; have := HN.out; omega) (TM_mS (m := 2) (fun k _ => b15_len1 k) (by decide)) (g : Int) (ok64_to (by have := HN.out; unfold wrap64; omega)) (by
                rw [c15_out HN.out.1 HN.out.2.2]
                intro x hx
                obtain rfl := List.mem_singleton.1 hx
                exact ok64_to (by have := HN.out; unfold wrap64; omega)))
              clear hlt hgg hk HR
              go_wp2_with fail
              refine HD.out.mono ?_
              rintro e w8 ⟨A8, c8, rfl, hR, hk8, hT, hb⟩
              rw [c15_out HN.out.1 HN.out.2.2] at hR ⊢
              have HT8 := Aside0.mk (show IsTab w8 B (fun k => w1.heap.size ≤ k) (TM k (C15l k g)) 100 (k + 2 * k) (g15 k g) by
                rw [← c15_tab HN.out.1 HN.out.2.2]
                exact hT.mono (fun k _ hk => hk.1))
              have HC8 := Aside0.mk hb
              have HR8 := Aside0.mk hR
              have HW := Aside0.mk (WaitsT_ HT8.out ((pr k g : Nat) : Int) (ok64_to (by have := HN.out; unfold wrap64; omega)) (fun k h => g15_lt HN.out.1 HN.out.2.2 _ k h))
              rw [g15_waits HN.out.1 HN.out.2.2] at HW
              have HH := Aside0.mk (c15_holds HN.out.1 HN.out.2.2)
              generalize hu : ((pr k g : Nat) : Int) = u at HTm HW HR8 HH ⊢
              clear hR hT hb HD hk8 HT HC hpl
              have tm := HTm.out
              go_wp2_with fail
              clear tm
              refine HW.out.mono ?_
              rintro e w9 ⟨rfl, hb⟩
              have HT9 := Aside0.mk ((HT8.out.below hb).below (below_alloc (Below.refl _ _) (.cells #[.int .i64 0, .int .i64 0] 38)))
              have HC9 := Aside0.mk (below_alloc (below_then HC8.out HC8.out.size hb) (.cells #[.int .i64 0, .int .i64 0] 38))
              have HR9 := Aside0.mk ((HR8.out.below hb).alloc (.cells #[.int .i64 0, .int .i64 0] 38))
              clear hb HW HT8 HC8 HR8
              go_wp2_with fail
              refine (firstT_ _).mono ?_
              rintro e w10 ⟨rfl, hb⟩
              have HT10 := Aside0.mk ((HT9.out.below hb).below (below_alloc (Below.refl _ _) (.cells #[.int .i64 u] 3)))
              have HC10 := Aside0.mk (below_alloc (below_then HC9.out HC9.out.size hb) (.cells #[.int .i64 u] 3))
              have HR10 := Aside0.mk ((HR9.out.below hb).alloc (.cells #[.int .i64 u] 3))
              have HI := Aside0.mk (Ints_same A8 c8 [u] (some ⟨w10.heap.size, 0, none⟩) 1 (w10.alloc (.cells #[.int .i64 u] 3)) HR10.out.readsI HR10.out.2.1 (slice_one u) (Nat.le_refl _) (by simp))
              clear hb HT9 HC9 HR9 HR10
              go_wp2_with fail
              refine HI.out.mono ?_
              rintro e w11 ⟨rfl, hd⟩
              have hb11 : Below (w10.alloc (.cells #[.int .i64 u] 3)).heap.size (w10.alloc (.cells #[.int .i64 u] 3)) w11 := by obtain ⟨q, rfl⟩ := hd.out; exact pw_below_drewN (Below.refl _ _) _
              have HT11 := Aside0.mk (HT10.out.below hb11)
              have HC11 := Aside0.mk (below_then HC10.out HC10.out.size hb11)
              have HH2 := Aside0.mk (HoldsT_ HT11.out u (g : Int))
              rw [HH.out] at HH2
              clear hd hb11 HI HT10 HC10
              go_wp2_with fail
              refine HH2.out.mono ?_
              rintro e w12 ⟨rfl, hb⟩
              have HT12 := Aside0.mk (HT11.out.below hb)
              have HC12 := Aside0.mk (below_then HC11.out HC11.out.size hb)
              have HE := Aside0.mk (EdgesT_ HT12.out (TM_small (m := 2) (by have := HN.out; omega) (fun k _ => c15_len1 k) (by decide)) (by have := HN.out; omega) (g15_lt HN.out.1 HN.out.2.2))
              clear hb HH2 HT11 HC11
              go_wp2_with fail
              refine HE.out.mono ?_
              rintro e w13 ⟨l, hnd, hl, A13, c13, rfl, -, -, hb⟩
              have hlen := edges15c HN.out.1 HN.out.2.1 HN.out.2.2 hnd hl
              have HC13 := Aside0.mk (below_then HB1.out HB1.out.size (below_then HC12.out HC12.out.size hb))
              clear hb hnd hl HE HT12 HC12
              generalize (edUp (TM k (C15l k g)) (g15 k g) (sortedI l) l.length).length = len at hlen ⊢
              have e5 : wrap64 ((k : Int) - 2) = (len : Int) := by have := HN.out; unfold wrap64; omega
              have e6 : ((len : Int) == (len : Int)) = true := beq_self_eq_true _
              clear hlen
              go_wp2
              go_ret
              exact ⟨rfl, HC13.out⟩
theorem circ_walk (nodes gone : Int) (w : World) :
    Calls Try.prog 16 #[.int .i64 nodes, .int .i64 gone] w fun e w' => e = .returned (.bool true) ∧ Below w.heap.size w w' := by
  by_cases h : (decide (nodes < 2) || decide (nodes > 30) || decide (gone < 0) || decide (gone ≥ nodes)) = true
  · exact circ_bad nodes gone w h
  · simp only [Bool.or_eq_true, decide_eq_true_eq] at h
    have := circ_in nodes.toNat gone.toNat w (by omega) (by omega) (by omega)
    rwa [show ((nodes.toNat : Nat) : Int) = nodes by omega, show ((gone.toNat : Nat) : Int) = gone by omega] at this
end Go.Proofs.Ytagdgkimjgomlaa.Ln
