/- LaneQueue: readers are granted together; a writer waits for all, and who comes behind it waits, too. readers in 1 to 20, behind in 0 to 20. -/
import Derived.Test.YtagdgkimjgomlaaGone
namespace Go.Proofs.Ytagdgkimjgomlaa.Ln
open Go.RowKit Go.Proofs.YtagdgkimjgomlaaW.PrintWords Go.Proofs.YtagdgkimjgomlaaW.PrintLast Go.Proofs.YtagdgkimjgomlaaW.PrintMore Go.Proofs.Ytagdgkimjgomlaa.PMd
set_option linter.unusedVariables false
set_option linter.unusedSimpArgs false
def rH (n : Nat) : List E := (List.range n).map fun (i : Nat) => ⟨(i : Int), 3⟩
def rT (r i : Nat) : List E := (List.range (r - i)).map fun (k : Nat) => ⟨(i : Int) + (k : Int), 3⟩
def bL (m : Nat) : List E := (List.range m).map fun (i : Nat) => ⟨200 + (i : Int), 3⟩
def bQ (m : Nat) : List E := ⟨100, 5⟩ :: bL m
def bI (m : Nat) : List Int := (List.range m).map fun (i : Nat) => 200 + (i : Int)
theorem rH_len (n : Nat) : (rH n).length = n := by simp [rH]
theorem rT_len (r i : Nat) : (rT r i).length = r - i := by simp [rT]
theorem bL_len (m : Nat) : (bL m).length = m := by simp [bL]
theorem bI_len (m : Nat) : (bI m).length = m := by simp [bI]
theorem bQ_len (m : Nat) : (bQ m).length = m + 1 := by simp [bQ, bL_len]
theorem rT_zero (r : Nat) : rT r 0 = rH r := by unfold rT rH; simp
theorem q1f : ∀ k : Fin 20, askIn (rH k.val) [] (k.val : Int) 3 = (1, rH (k.val + 1), []) := by decide +kernel
theorem q2f : ∀ r : Fin 20, askIn (rH (r.val + 1)) [] 100 5 = (2, rH (r.val + 1), bQ 0) := by decide +kernel
theorem q3f : ∀ r : Fin 20, ∀ j : Fin 20, askIn (rH (r.val + 1)) (bQ j.val) (200 + (j.val : Int)) 3 = (2, rH (r.val + 1), bQ (j.val + 1)) := by decide +kernel
theorem q4f : ∀ r : Fin 21, ∀ i : Fin 20, i.val < r.val → fl (rT r.val i.val) (i.val : Int) = rT r.val (i.val + 1) := by decide +kernel
theorem q5f : ∀ m : Fin 21, ∀ i : Fin 20, fl (bQ m.val) (i.val : Int) = bQ m.val := by decide +kernel
theorem q6f : ∀ r : Fin 21, ∀ i : Fin 20, i.val + 1 < r.val → fitsAll (rT r.val (i.val + 1)) 100 5 = false := by decide +kernel
theorem q7f : ∀ m : Fin 21, serveQ [] (bQ m.val) = ([100], [⟨100, 5⟩], bL m.val) := by decide +kernel
theorem q8f : ∀ m : Fin 21, leaveIn [⟨100, 5⟩] (bL m.val) 100 = (bI m.val, bL m.val, []) := by decide +kernel
theorem q9f : ∀ m : Fin 21, ∀ i : Fin 21, i.val < m.val → (bI m.val).getD i.val 0 = 200 + (i.val : Int) := by decide +kernel
theorem q_leave {r i m : Nat} (hr : r < 21) (hi : i + 1 < r) (hm : m < 21) : leaveIn (rT r i) (bQ m) (i : Int) = ([], rT r (i + 1), bQ m) := by
  unfold leaveIn
  rw [show fl (rT r i) (i : Int) = rT r (i + 1) from q4f ⟨r, hr⟩ ⟨i, by omega⟩ (by show i < r; omega), show fl (bQ m) (i : Int) = bQ m from q5f ⟨m, hm⟩ ⟨i, by omega⟩]
  show serveQ (rT r (i + 1)) (⟨100, 5⟩ :: bL m) = _
  unfold serveQ
  rw [show fitsAll (rT r (i + 1)) 100 5 = false from q6f ⟨r, hr⟩ ⟨i, by omega⟩ hi]
  rfl
theorem q_last {r i m : Nat} (hr : r < 21) (hi : i + 1 = r) (hm : m < 21) : leaveIn (rT r i) (bQ m) (i : Int) = ([100], [⟨100, 5⟩], bL m) := by
  unfold leaveIn
  rw [show fl (rT r i) (i : Int) = rT r (i + 1) from q4f ⟨r, hr⟩ ⟨i, by omega⟩ (by show i < r; omega), show fl (bQ m) (i : Int) = bQ m from q5f ⟨m, hm⟩ ⟨i, by omega⟩]
  have e : rT r (i + 1) = [] := by unfold rT; rw [show r - (i + 1) = 0 by omega]; rfl
  rw [e]
  exact q7f ⟨m, hm⟩
set_option maxHeartbeats 8000000 in
set_option maxRecDepth 100000 in
theorem queue_out (a0 a1 : Int) (w : World) (h : a0 < 1 ∨ 20 < a0 ∨ a1 < 0 ∨ 20 < a1) : Calls Try.prog 9 #[.int .i64 a0, .int .i64 a1] w fun e w' => e = .returned (.bool true) ∧ Below w.heap.size w w' := by
  have h' : a0 < 1 ∨ (¬ a0 < 1 ∧ 20 < a0) ∨ (¬ a0 < 1 ∧ ¬ 20 < a0 ∧ a1 < 0) ∨ (¬ a0 < 1 ∧ ¬ 20 < a0 ∧ ¬ a1 < 0 ∧ 20 < a1) := by omega
  clear h
  rcases h' with h1 | ⟨h1, h2⟩ | ⟨h1, h2, h3⟩ | ⟨h1, h2, h3, h4⟩
  all_goals
    go_enter Try.func9, Try.ntmps9
    go_wp2_with fail
    refine (first_ w w (Below.refl _ _)).mono ?_
    rintro e w1 ⟨rfl, hb⟩
    have HB := Aside0.mk hb
    clear hb
    go_wp2_with fail
    refine (New_L w w1 HB.out).mono ?_
    rintro e w2 ⟨rfl, hL, _⟩
    have HL := Aside0.mk hL
    clear hL
    go_wp2_with fail
    refine (first_ w w2 HL.out.2.2).mono ?_
    rintro e w3 ⟨rfl, hb3⟩
    have HB3 := Aside0.mk (below_then HL.out.2.2 HL.out.2.2.size hb3)
    clear hb3
    go_wp2
    go_ret
    exact ⟨rfl, HB3.out⟩
set_option maxHeartbeats 8000000 in
set_option maxRecDepth 100000 in
theorem queue_in (r m : Nat) (w : World) (hr0 : 1 ≤ r) (hr : r < 21) (hm : m < 21) : Calls Try.prog 9 #[.int .i64 r, .int .i64 m] w fun e w' => e = .returned (.bool true) ∧ Below w.heap.size w w' := by
  have p1 : decide ((r : Int) < 1) = false := decide_eq_false (by omega)
  have p2 : decide ((r : Int) > 20) = false := decide_eq_false (by omega)
  have p3 : decide ((m : Int) < 0) = false := decide_eq_false (by omega)
  have p4 : decide ((m : Int) > 20) = false := decide_eq_false (by omega)
  go_enter Try.func9, Try.ntmps9
  go_wp2_with fail
  refine (first_ w w (Below.refl _ _)).mono ?_
  rintro e w1 ⟨rfl, hb⟩
  have HB := Aside0.mk hb
  clear hb
  go_wp2_with fail
  refine (New_L w w1 HB.out).mono ?_
  rintro e w2 ⟨rfl, hL, _⟩
  have HL := Aside0.mk hL
  clear hL HB
  generalize hB : w1.heap.size = B at HL ⊢
  clear hB
  go_wp2_with fail
  go_loopg [6] r (fun gg v wr => ∃ k : Nat, k ≤ r ∧ r - k ≤ gg ∧ v = .int .i64 k ∧ Aside0 (Live w wr B (rH k) []))
  case atStart => exact ⟨0, by omega, by omega, rfl, HL⟩
  case round =>
    clear HL
    obtain ⟨k, hk, hgg, rfl, HL3⟩ := hrel
    by_cases hlt : k < r
    · have t1 : (k : Int) < r := by omega
      have HA := Aside0.mk (Ask_L (k : Int) 3 HL3.out (by rw [rH_len]; omega) (by simp))
      rw [show askIn (rH k) [] (k : Int) 3 = (1, rH (k + 1), []) from q1f ⟨k, by omega⟩] at HA
      go_wp2_with fail
      refine HA.out.mono ?_
      rintro e w6 ⟨rfl, hL⟩
      have HL6 := Aside0.mk hL
      clear hL HL3
      go_wp2
      go_roundg (r - (k + 1))
      case measure => omega
      case rel => exact ⟨k + 1, by omega, by omega, by go_num, HL6⟩
    · have ek : k = r := by omega
      subst ek
      clear hk hgg hlt
      have hlt2 : ¬ k < k := Nat.lt_irrefl _
      obtain ⟨r', rfl⟩ : ∃ r', k = r' + 1 := ⟨k - 1, by omega⟩
      have HA := Aside0.mk (Ask_L 100 5 HL3.out (by rw [rH_len]; omega) (by simp))
      rw [show askIn (rH (r' + 1)) [] 100 5 = (2, rH (r' + 1), bQ 0) from q2f ⟨r', by omega⟩] at HA
      generalize hR : r' + 1 = R at *
      go_wp2_with fail
      refine HA.out.mono ?_
      rintro e w6 ⟨rfl, hL⟩
      have HL6 := Aside0.mk hL
      clear hL HL3
      go_wp2_with fail
      go_loopg [7] m (fun gg v wr => ∃ j : Nat, j ≤ m ∧ m - j ≤ gg ∧ v = .int .i64 j ∧ Aside0 (Live w wr B (rH R) (bQ j)))
      case atStart => exact ⟨0, by omega, by omega, rfl, HL6⟩
      case round =>
        clear HL6
        obtain ⟨j, hj, hgg, rfl, HL7⟩ := hrel
        by_cases hlt : j < m
        · have t1 : (j : Int) < m := by omega
          have e1 : wrap64 (200 + (j : Int)) = 200 + (j : Int) := by unfold wrap64; omega
          have HA := Aside0.mk (Ask_L (200 + (j : Int)) 3 HL7.out (by rw [rH_len]; omega) (by rw [bQ_len]; omega))
          rw [← hR, show askIn (rH (r' + 1)) (bQ j) (200 + (j : Int)) 3 = (2, rH (r' + 1), bQ (j + 1)) from q3f ⟨r', by omega⟩ ⟨j, by omega⟩, hR] at HA
          go_wp2_with fail
          refine HA.out.mono ?_
          rintro e w8 ⟨rfl, hL⟩
          have HL8 := Aside0.mk hL
          clear hL HL7 e1
          go_wp2
          go_roundg (m - (j + 1))
          case measure => omega
          case rel => exact ⟨j + 1, by omega, by omega, by go_num, HL8⟩
        · have ej : j = m := by omega
          subst ej
          clear hj hgg hlt
          have hlt3 : ¬ j < j := Nat.lt_irrefl _
          have HL7' := Aside0.mk (show Live w wr B (rT R 0) (bQ j) from by rw [rT_zero]; exact HL7.out)
          clear HL7 HA
          go_wp2_with fail
          have w1 : wrap64 ((R : Int) - 1) = (R : Int) - 1 := by unfold wrap64; omega
          go_loopg [8] R (fun gg v wr => ∃ i : Nat, i ≤ R ∧ R - i ≤ gg ∧ v = .int .i64 i ∧ Aside0 ((i < R → Live w wr B (rT R i) (bQ j)) ∧ (i = R → Live w wr B [⟨100, 5⟩] (bL j))))
          case atStart => exact ⟨0, by omega, by omega, rfl, ⟨fun _ => HL7'.out, fun h => by omega⟩⟩
          case round =>
            clear HL7'
            obtain ⟨i, hi, hgg, rfl, HLi⟩ := hrel
            by_cases hlt : i < R
            · have t1 : (i : Int) < R := by omega
              by_cases hlast : i + 1 = R
              · have HLv := Aside0.mk (Leave_L (i : Int) (HLi.out.1 hlt) (by rw [rT_len, bQ_len]; omega))
                rw [q_last hr hlast hm] at HLv
                have s1 : decide ((i : Int) < (R : Int) - 1) = false := decide_eq_false (by omega)
                have s2 : ((i : Int) == (R : Int) - 1) = true := beq_iff_eq.2 (by omega)
                go_wp2_with fail
                refine HLv.out.mono ?_
                rintro e w8 ⟨A8, c8, rfl, hK, hc, hL⟩
                have HL8 := Aside0.mk (hL.alloc (.cells #[.int .i64 100] 3))
                have HI := Aside0.mk (Ints_same A8 c8 [100] (some ⟨w8.heap.size, 0, none⟩) 1 (w8.alloc (.cells #[.int .i64 100] 3)) (Kd.C_alloc hK _) hc (slice_one 100) (Nat.le_refl _) (by simp))
                clear hK hc hL HLv
                go_wp2_with fail
                refine HI.out.mono ?_
                rintro e w9 ⟨rfl, hd⟩
                obtain ⟨n9, rfl⟩ := hd.out
                have HL9 := Aside0.mk (HL8.out.below (pw_below_drewN (Below.refl _ _) n9))
                clear HI HL8 hd HLi
                go_wp2
                go_roundg (R - (i + 1))
                case measure => omega
                case rel => exact ⟨i + 1, by omega, by omega, by go_num, ⟨fun h => by omega, fun _ => HL9.out⟩⟩
              · have HLv := Aside0.mk (Leave_L (i : Int) (HLi.out.1 hlt) (by rw [rT_len, bQ_len]; omega))
                rw [q_leave hr (by omega) hm] at HLv
                have s1 : decide ((i : Int) < (R : Int) - 1) = true := decide_eq_true (by omega)
                have s2 : ((i : Int) == (R : Int) - 1) = false := beq_eq_false_iff_ne.2 (by omega)
                go_wp2_with fail
                refine HLv.out.mono ?_
                rintro e w8 ⟨A8, c8, rfl, hK, hc, hL⟩
                have HL8 := Aside0.mk hL
                clear hK hc hL HLv HLi
                go_wp2
                go_roundg (R - (i + 1))
                case measure => omega
                case rel => exact ⟨i + 1, by omega, by omega, by go_num, ⟨fun _ => HL8.out, fun h => by omega⟩⟩
            · have ei : i = R := by omega
              have HL8 := Aside0.mk (HLi.out.2 ei)
              subst ei
              clear hi hgg hlt HLi w1
              have hlt4 : ¬ i < i := Nat.lt_irrefl _
              have HLv := Aside0.mk (Leave_L 100 HL8.out (by rw [bL_len]; simp; omega))
              rw [show leaveIn [⟨100, 5⟩] (bL j) 100 = (bI j, bL j, []) from q8f ⟨j, hm⟩] at HLv
              go_wp2_with fail
              refine HLv.out.mono ?_
              rintro e w9 ⟨A9, c9, rfl, hK, hc, hL⟩
              have HK9 := Aside0.mk hK
              have HL9 := Aside0.mk hL
              rw [bI_len] at HK9 ⊢
              rw [bI_len] at hc
              clear hK hL HLv HL8
              go_wp2_with fail
              go_loopg [11] j (fun gg v wr => ∃ q : Nat, q ≤ j ∧ j - q ≤ gg ∧ v = .int .i64 q ∧ Aside0 (Live w wr B (bL j) []) ∧ Aside0 (Kd.C (Kd.int .i64) wr A9 j (bI j)))
              case atStart => exact ⟨0, by omega, by omega, rfl, HL9, HK9⟩
              case round =>
                clear HL9 HK9
                obtain ⟨q, hq, hgg, rfl, HLq, HKq⟩ := hrel
                by_cases hlt : q < j
                · have t1 : (q : Int) < j := by omega
                  have t2 : 0 ≤ (q : Int) := by omega
                  obtain ⟨ad, rfl, q0⟩ := Kd.at_int HKq.out (q : Int) (by omega) (by omega)
                  have hrd : rd (bI j) (q : Int) = 200 + (q : Int) := by
                    have e : rd (bI j) (q : Int) = (bI j).getD q 0 := by simp [rd]
                    rw [e]; exact q9f ⟨j, hm⟩ ⟨q, by omega⟩ hlt
                  rw [hrd] at q0
                  simp only [Int.toNat_natCast] at q0
                  have e4 : wrap64 (200 + (q : Int)) = 200 + (q : Int) := by unfold wrap64; omega
                  clear hrd
                  go_wp2
                  clear e4 q0
                  go_roundg (j - (q + 1))
                  case measure => omega
                  case rel => exact ⟨q + 1, by omega, by omega, by go_num, HLq, HKq⟩
                · have eq : q = j := by omega
                  subst eq
                  clear hq hgg hlt
                  have hlt5 : ¬ q < q := Nat.lt_irrefl _
                  go_wp2_with fail
                  refine (first_ w wr HLq.out.2.2).mono ?_
                  rintro e w12 ⟨rfl, hb⟩
                  have HHo := Aside0.mk (Holders_L (HLq.out.below hb) (by rw [bL_len]; omega))
                  rw [bL_len] at HHo
                  clear hb HLq HKq
                  go_wp2_with fail
                  refine HHo.out.mono ?_
                  rintro e w13 ⟨A13, c13, rfl, _, _, hL, _⟩
                  have HQ := Aside0.mk (Queue_L hL (by simp))
                  clear hL HHo
                  go_wp2_with fail
                  refine HQ.out.mono ?_
                  rintro e w14 ⟨A14, c14, rfl, _, _, hL, _⟩
                  have HL14 := Aside0.mk hL
                  clear hL HQ
                  go_wp2
                  go_ret
                  exact ⟨rfl, HL14.out.2.2⟩
theorem queue_walk (a0 a1 : Int) (w : World) : Calls Try.prog 9 #[.int .i64 a0, .int .i64 a1] w fun e w' => e = .returned (.bool true) ∧ Below w.heap.size w w' := by
  by_cases h : a0 < 1 ∨ 20 < a0 ∨ a1 < 0 ∨ 20 < a1
  · exact queue_out a0 a1 w h
  · obtain ⟨n, rfl⟩ : ∃ n : Nat, a0 = (n : Int) := ⟨a0.toNat, (Int.toNat_of_nonneg (by omega)).symm⟩
    obtain ⟨m, rfl⟩ : ∃ n : Nat, a1 = (n : Int) := ⟨a1.toNat, (Int.toNat_of_nonneg (by omega)).symm⟩
    exact queue_in n m w (by omega) (by omega) (by omega)
end Go.Proofs.Ytagdgkimjgomlaa.Ln
