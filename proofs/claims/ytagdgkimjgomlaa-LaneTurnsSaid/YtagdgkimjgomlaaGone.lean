/- LaneGone: one that waits and leaves is out of the queue; those behind it that may are granted by that. n in 0 to 20. -/
import Derived.Test.YtagdgkimjgomlaaLn14
namespace Go.Proofs.Ytagdgkimjgomlaa.Ln
open Go.RowKit Go.Proofs.YtagdgkimjgomlaaW.PrintWords Go.Proofs.YtagdgkimjgomlaaW.PrintLast Go.Proofs.YtagdgkimjgomlaaW.PrintMore Go.Proofs.Ytagdgkimjgomlaa.PMd
set_option linter.unusedVariables false
set_option linter.unusedSimpArgs false
instance : DecidableEq E := fun a b => decidable_of_iff (a.f0 = b.f0 ∧ a.f1 = b.f1) ⟨fun h => by cases a; cases b; simp_all, fun h => by subst h; exact ⟨rfl, rfl⟩⟩
def gL (n : Nat) : List E := (List.range n).map fun (i : Nat) => ⟨10 + (i : Int), 1⟩
def gQ (n : Nat) : List E := ⟨2, 5⟩ :: gL n
def gI (n : Nat) : List Int := (List.range n).map fun (i : Nat) => 10 + (i : Int)
def gH (n : Nat) : List E := ⟨1, 3⟩ :: gL n
theorem gL_len (n : Nat) : (gL n).length = n := by simp [gL]
theorem gI_len (n : Nat) : (gI n).length = n := by simp [gI]
theorem gQ_len (n : Nat) : (gQ n).length = n + 1 := by simp [gQ, gL_len]
theorem gH_len (n : Nat) : (gH n).length = n + 1 := by simp [gH, gL_len]
theorem g0 : askIn [⟨1, 3⟩] [] 2 5 = (2, [⟨1, 3⟩], gQ 0) := by kernel_rfl
theorem g1f : ∀ k : Fin 20, askIn [⟨1, 3⟩] (gQ k.val) (10 + (k.val : Int)) 1 = (2, [⟨1, 3⟩], gQ (k.val + 1)) := by decide +kernel
theorem g2f : ∀ n : Fin 21, leaveIn [⟨1, 3⟩] (gQ n.val) 99 = ([], [⟨1, 3⟩], gQ n.val) := by decide +kernel
theorem g3f : ∀ n : Fin 21, ix (fun x => x.f0 == 2) (gQ n.val) = 0 ∧ blocksAt [⟨1, 3⟩] (gQ n.val) 2 0 = [1] := by decide +kernel
theorem g4f : ∀ n : Fin 21, leaveIn [⟨1, 3⟩] (gQ n.val) 2 = (gI n.val, gH n.val, []) := by decide +kernel
theorem g5f : ∀ n : Fin 21, ∀ i : Fin 21, i.val < n.val → toldIn (gH n.val) (10 + (i.val : Int)) = 1 ∧ (gI n.val).getD i.val 0 = 10 + (i.val : Int) := by decide +kernel
theorem g6f : ∀ n : Fin 21, toldIn (gH n.val) 1 = 3 := by decide +kernel
theorem g1 {k : Nat} (h : k < 20) : askIn [⟨1, 3⟩] (gQ k) (10 + (k : Int)) 1 = (2, [⟨1, 3⟩], gQ (k + 1)) := g1f ⟨k, h⟩
theorem g2 {n : Nat} (h : n < 21) : leaveIn [⟨1, 3⟩] (gQ n) 99 = ([], [⟨1, 3⟩], gQ n) := g2f ⟨n, h⟩
theorem g3 {n : Nat} (h : n < 21) : blocksIn [⟨1, 3⟩] (gQ n) 2 = [1] := by
  obtain ⟨i, e⟩ := g3f ⟨n, h⟩
  unfold blocksIn
  rw [show ix (fun x => x.f0 == 2) (gQ n) = 0 from i, if_neg (by decide)]
  show Lib.compact (sortedI (blocksAt _ _ 2 0)) = _
  rw [show blocksAt [⟨1, 3⟩] (gQ n) 2 0 = [1] from e, sortedI_of (by simp)]
  kernel_rfl
theorem g4 {n : Nat} (h : n < 21) : leaveIn [⟨1, 3⟩] (gQ n) 2 = (gI n, gH n, []) := g4f ⟨n, h⟩
theorem blocks_nil (hs : List E) (who : Int) : blocksIn hs [] who = [] := rfl
theorem has_one : ltkref_Has.f 3 [1] 1 = some true := by decide +kernel
set_option maxHeartbeats 8000000 in
set_option maxRecDepth 100000 in
theorem gone_out (a0 : Int) (w : World) (h : a0 < 0 ∨ 20 < a0) : Calls Try.prog 10 #[.int .i64 a0] w fun e w' => e = .returned (.bool true) ∧ Below w.heap.size w w' := by
  have h' : a0 < 0 ∨ (¬ a0 < 0 ∧ 20 < a0) := by omega
  clear h
  rcases h' with h1 | ⟨h1, h2⟩
  all_goals
    go_enter Try.func10, Try.ntmps10
    go_wp2_with fail
    refine (first_ w w (Below.refl _ _)).mono ?_
    rintro e w1 ⟨rfl, hb⟩
    have HB := Aside0.mk hb
    clear hb
    go_wp2_with fail
    refine (New_L w w1 HB.out).mono ?_
    rintro e w2 ⟨rfl, hL, _⟩
    have HL := Aside0.mk hL
    clear hL
    go_wp2_with fail
    refine (first_ w w2 HL.out.2.2).mono ?_
    rintro e w3 ⟨rfl, hb3⟩
    have HB3 := Aside0.mk (below_then HL.out.2.2 HL.out.2.2.size hb3)
    clear hb3
    go_wp2
    go_ret
    exact ⟨rfl, HB3.out⟩
set_option maxHeartbeats 8000000 in
set_option maxRecDepth 100000 in
theorem gone_in (n : Nat) (w : World) (hn : n < 21) : Calls Try.prog 10 #[.int .i64 n] w fun e w' => e = .returned (.bool true) ∧ Below w.heap.size w w' := by
  have p1 : decide ((n : Int) < 0) = false := decide_eq_false (by omega)
  have p2 : decide ((n : Int) > 20) = false := decide_eq_false (by omega)
  have HN := Aside0.mk hn
  go_enter Try.func10, Try.ntmps10
  go_wp2_with fail
  refine (first_ w w (Below.refl _ _)).mono ?_
  rintro e w1 ⟨rfl, hb⟩
  have HB := Aside0.mk hb
  clear hb
  go_wp2_with fail
  refine (New_L w w1 HB.out).mono ?_
  rintro e w2 ⟨rfl, hL, _⟩
  have HL := Aside0.mk hL
  clear hL HB
  go_wp2_with fail
  have hA := Ask_L 1 3 HL.out (by simp) (by simp)
  rw [f1] at hA
  refine hA.mono ?_
  clear hA
  rintro e w3 ⟨rfl, hL⟩
  have HL3 := Aside0.mk hL
  clear hL HL
  go_wp2_with fail
  have hA := Ask_L 2 5 HL3.out (by simp) (by simp)
  rw [g0] at hA
  refine hA.mono ?_
  clear hA
  rintro e w4 ⟨rfl, hL⟩
  have HL4 := Aside0.mk hL
  clear hL HL3
  generalize hB : w1.heap.size = B at HL4 ⊢
  clear hB
  go_wp2_with fail
  go_loopg [4] n (fun gg v wr => ∃ k : Nat, k ≤ n ∧ n - k ≤ gg ∧ v = .int .i64 k ∧ Aside0 (Live w wr B [⟨1, 3⟩] (gQ k)))
  case atStart => exact ⟨0, by omega, by omega, rfl, HL4⟩
  case round =>
    clear HL4
    obtain ⟨k, hk, hgg, rfl, HL5⟩ := hrel
    by_cases hlt : k < n
    · have t1 : (k : Int) < n := by omega
      have e1 : wrap64 (10 + (k : Int)) = 10 + (k : Int) := by unfold wrap64; omega
      have hA := Ask_L (10 + (k : Int)) 1 HL5.out (by simp) (by rw [gQ_len]; omega)
      rw [g1 (by omega)] at hA
      have HA := Aside0.mk hA
      clear hA
      go_wp2_with fail
      refine HA.out.mono ?_
      rintro e w6 ⟨rfl, hL⟩
      have HL6 := Aside0.mk hL
      clear hL HL5 e1
      go_wp2
      go_roundg (n - (k + 1))
      case measure => omega
      case rel => exact ⟨k + 1, by omega, by omega, by go_num, HL6⟩
    · have ek : k = n := by omega
      subst ek
      have HLa := Aside0.mk (Leave_L 99 HL5.out (by rw [gQ_len]; simp; omega))
      rw [g2 hn] at HLa
      clear hlt hgg hk
      go_wp2_with fail
      refine HLa.out.mono ?_
      rintro e w6 ⟨A6, c6, rfl, _, _, hL⟩
      have HQ := Aside0.mk (Queue_L hL (by rw [gQ_len]; omega))
      rw [gQ_len] at HQ
      clear hL HLa HL5
      have e2 : wrap64 ((k : Int) + 1) = (k : Int) + 1 := by unfold wrap64; omega
      go_wp2_with fail
      have e3 : ((k + 1 : Nat) : Int) = (k : Int) + 1 := by omega
      refine HQ.out.mono ?_
      rintro e w7 ⟨A7, c7, rfl, _, _, hL, _⟩
      have HBl := Aside0.mk (Blocks_L 2 hL (by simp) (by rw [gQ_len]; omega))
      rw [g3 hn] at HBl
      clear hL HQ
      go_wp2_with fail
      refine HBl.out.mono ?_
      rintro e w8 ⟨A8, c8, rfl, hK, hc, hL, _⟩
      have HH := Aside0.mk (ltkref_Has.calls 3 A8 c8 [1] 1 true w8 hK hc has_one)
      have HL8 := Aside0.mk hL
      clear hL hK hc HBl
      go_wp2_with fail
      refine HH.out.mono ?_
      rintro e w9 ⟨rfl, hd⟩
      obtain ⟨n9, rfl⟩ := hd.out
      have HLv := Aside0.mk (Leave_L 2 (HL8.out.below (pw_below_drewN (Below.refl _ _) n9)) (by rw [gQ_len]; simp; omega))
      rw [g4 hn] at HLv
      clear HH HL8 hd
      go_wp2_with fail
      refine HLv.out.mono ?_
      rintro e w10 ⟨A10, c10, rfl, hK, hc, hL⟩
      have HK10 := Aside0.mk hK
      have HL10 := Aside0.mk hL
      rw [gI_len] at HK10 ⊢
      rw [gI_len] at hc
      clear hL hK HLv
      go_wp2_with fail
      go_loopg [6] k (fun gg v wr => ∃ i : Nat, i ≤ k ∧ k - i ≤ gg ∧ v = .int .i64 i ∧ Aside0 (Live w wr B (gH k) []) ∧ Aside0 (Kd.C (Kd.int .i64) wr A10 k (gI k)))
      case atStart => exact ⟨0, by omega, by omega, rfl, HL10, HK10⟩
      case round =>
        clear HL10 HK10
        obtain ⟨i, hi, hgg, rfl, HL11, HK11⟩ := hrel
        by_cases hlt : i < k
        · obtain ⟨h5, h6⟩ := g5f ⟨k, hn⟩ ⟨i, by omega⟩ hlt
          have t1 : (i : Int) < k := by omega
          have t2 : 0 ≤ (i : Int) := by omega
          obtain ⟨ad, rfl, q0⟩ := Kd.at_int HK11.out (i : Int) (by omega) (by omega)
          have hrd : rd (gI k) (i : Int) = 10 + (i : Int) := by
            have e : rd (gI k) (i : Int) = (gI k).getD i 0 := by simp [rd]
            rw [e]; exact h6
          rw [hrd] at q0
          simp only [Int.toNat_natCast] at q0
          have e4 : wrap64 (10 + (i : Int)) = 10 + (i : Int) := by unfold wrap64; omega
          have HH := Aside0.mk (Holds_L (10 + (i : Int)) HL11.out)
          rw [show toldIn (gH k) (10 + (i : Int)) = 1 from h5] at HH
          clear h5 h6 hrd
          go_wp2_with fail
          refine HH.out.mono ?_
          rintro e w12 ⟨rfl, hL, hb⟩
          have HBl := Aside0.mk (Blocks_L (10 + (i : Int)) hL (by rw [gH_len]; omega) (by simp))
          rw [blocks_nil] at HBl
          have HK12 := Aside0.mk (Kd.C_below HK11.out hb)
          clear hL hb HH HK11 HL11 q0
          go_wp2_with fail
          refine HBl.out.mono ?_
          rintro e w13 ⟨A13, c13, rfl, _, _, hL, hb⟩
          have HL13 := Aside0.mk hL
          have HK13 := Aside0.mk (Kd.C_below HK12.out hb)
          clear hL hb HBl HK12 e4
          go_wp2
          go_roundg (k - (i + 1))
          case measure => omega
          case rel => exact ⟨i + 1, by omega, by omega, by go_num, HL13, HK13⟩
        · have ei : i = k := by omega
          subst ei
          clear hi hgg hlt
          have hlt2 : ¬ i < i := Nat.lt_irrefl _
          go_wp2_with fail
          refine (first_ w wr HL11.out.2.2).mono ?_
          rintro e w12 ⟨rfl, hb⟩
          have HQ := Aside0.mk (Queue_L (HL11.out.below hb) (by simp))
          clear hb HL11
          go_wp2_with fail
          refine HQ.out.mono ?_
          rintro e w13 ⟨A13, c13, rfl, _, _, hL, _⟩
          have HHo := Aside0.mk (Holders_L hL (by rw [gH_len]; omega))
          rw [gH_len] at HHo
          clear hL HQ
          go_wp2_with fail
          refine HHo.out.mono ?_
          rintro e w14 ⟨A14, c14, rfl, _, _, hL, _⟩
          have HH := Aside0.mk (Holds_L 1 hL)
          rw [show toldIn (gH i) 1 = 3 from g6f ⟨i, hn⟩] at HH
          clear hL HHo
          go_wp2_with fail
          refine HH.out.mono ?_
          rintro e w15 ⟨rfl, hL, _⟩
          have HL15 := Aside0.mk hL
          clear hL HH
          go_wp2
          go_ret
          exact ⟨rfl, HL15.out.2.2⟩
theorem gone_walk (a0 : Int) (w : World) : Calls Try.prog 10 #[.int .i64 a0] w fun e w' => e = .returned (.bool true) ∧ Below w.heap.size w w' := by
  by_cases h : a0 < 0 ∨ 20 < a0
  · exact gone_out a0 w h
  · obtain ⟨n, rfl⟩ : ∃ n : Nat, a0 = (n : Int) := ⟨a0.toNat, (Int.toNat_of_nonneg (by omega)).symm⟩
    exact gone_in n w (by omega)
end Go.Proofs.Ytagdgkimjgomlaa.Ln
