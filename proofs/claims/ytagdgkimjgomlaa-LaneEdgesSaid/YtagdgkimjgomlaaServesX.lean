import Derived.Test.YtagdgkimjgomlaaInvX
import Derived.Test.YtagdgkimjgomlaaLn14
import Derived.Test.YtagdgkimjgomlaaQuiet
import Derived.StillTailTactics
/- ltklaw8.serve: one leaves: those that are granted waited, and hold what they waited for. -/
namespace Go.Proofs.Ytagdgkimjgomlaa.Ln
open Go.RowKit Go.Proofs.YtagdgkimjgomlaaW.PrintWords Go.Proofs.YtagdgkimjgomlaaW.PrintLast Go.Proofs.YtagdgkimjgomlaaW.PrintMore Go.Proofs.Ytagdgkimjgomlaa.PMd
open Go.Sort (grow)
set_option linter.unusedVariables false
set_option linter.unusedSimpArgs false
theorem rd_getD (l : List Int) (i : Nat) : rd l (i : Int) = l.getD i 0 := by simp [rd]
theorem rdT_getD (l : List E) (i : Nat) : rd_T67 l (i : Int) = l.getD i z67 := by simp [rd_T67]
set_option maxHeartbeats 8000000 in
set_option maxRecDepth 100000 in
theorem serve_ (w0 w : World) (b : Nat) (hs qs : List E) (who : Int) (h : Live w0 w b hs qs) (hi : Inv hs qs) (hl : hs.length + qs.length ≤ 1000) :
    Calls Try.prog 62 #[.pointer (some ⟨b, 0, none⟩), .int .i64 who] w fun e w' => e = .returned (.bool true) ∧ Live w0 w' b (leaveIn hs qs who).2.1 (leaveIn hs qs who).2.2 := by
  have mixed : Try.prog.follows Departure.mixedOrders = true := by kernel_rfl
  have HL := Aside0.mk h
  have HI := Aside0.mk hi
  have HN := Aside0.mk hl
  clear h hi hl
  go_enter Try.func62, Try.ntmps62
  go_wp2_with fail
  refine (Queue_X HL.out (by have := HN.out; omega)).mono ?_
  rintro e w1 ⟨A5, c5, rfl, hR, hL⟩
  have HL1 := Aside0.mk hL
  have HR1 := Aside0.mk hR
  clear hL hR HL
  go_wp2_with fail
  refine (Leave_X who HL1.out (by have := HN.out; omega)).mono ?_
  rintro e w2 ⟨A6, c6, rfl, hK, hc, hL, hG⟩
  have HK2 := Aside0.mk hK
  have HL2 := Aside0.mk hL
  have HR2 := Aside0.mk (HR1.out.grew hG (fun k hk h => h.2 hk))
  clear hK hL hG HL1 HR1
  have HT := Aside0.mk (leave_told HI.out who)
  generalize hgot : (leaveIn hs qs who).1 = got at HK2 HT ⊢ hc
  generalize hhs : (leaveIn hs qs who).2.1 = hs2 at HL2 HT ⊢
  generalize hqs : (leaveIn hs qs who).2.2 = qs2 at HL2 HT ⊢
  have HG := Aside0.mk hgot
  have HS1 := Aside0.mk hhs
  have HS2 := Aside0.mk hqs
  clear hgot hhs hqs
  have HQL := Aside0.mk (show qs.length ≤ 1000 by have := HN.out; omega)
  have HGL := Aside0.mk (show got.length ≤ 1000 by
    obtain ⟨n, hn, h1, _⟩ := leave_spec HI.out who
    rw [← HG.out, h1, List.length_map, List.length_take]
    have := fl_len qs who
    have := HQL.out
    omega)
  go_wp2_with fail
  have hql := HQL.out
  have hgl := HGL.out
  go_loopg [7, 8] got.length (fun gg v7 v8 wr => ∃ i p : Nat, i ≤ got.length ∧ p ≤ qs.length ∧ got.length - i ≤ gg ∧ v7 = .int .i64 p ∧ v8 = .int .i64 i ∧ Aside0 (fl (qs.take p) who = (fl qs who).take i) ∧ Aside0 (LiveX (blk A5) w0 wr b hs2 qs2) ∧ Aside0 (Row wr 67 2 A5 qs.length c5 (flat qs)) ∧ Aside0 (Kd.C (Kd.int .i64) wr A6 got.length got))
  case atStart => exact ⟨0, 0, by omega, by omega, by omega, rfl, rfl, ⟨by simp [fl]⟩, HL2, HR2, HK2⟩
  case round =>
    clear HL2 HR2 HK2
    obtain ⟨i, p, hi, hp, hgg, rfl, rfl, HF, HLi, HRi, HKi⟩ := hrel
    by_cases hlt : i < got.length
    · have t1 : (i : Int) < got.length := by omega
      go_wp2_with fail
      go_loopg [7] qs.length (fun hh v7 ws => ∃ p : Nat, p ≤ qs.length ∧ qs.length - p ≤ hh ∧ v7 = .int .i64 p ∧ Aside0 (fl (qs.take p) who = (fl qs who).take i) ∧ Aside0 (LiveX (blk A5) w0 ws b hs2 qs2) ∧ Aside0 (Row ws 67 2 A5 qs.length c5 (flat qs)) ∧ Aside0 (Kd.C (Kd.int .i64) ws A6 got.length got))
      case atStart => exact ⟨p, by omega, by omega, rfl, HF, HLi, HRi, HKi⟩
      case round =>
        clear HF HLi HRi HKi hp
        obtain ⟨p, hp, hhh, rfl, HF, HLi, HRi, HKi⟩ := hrel
        have HTi := Aside0.mk (HT.out i hlt)
        by_cases hpl : p < qs.length
        · have t2 : (p : Int) < qs.length := by omega
          have p0 : 0 ≤ (p : Int) := by omega
          obtain ⟨ad, rfl, q0, q1⟩ := at_T67 HRi.out.reads (p : Int) (by omega) (by omega)
          rw [rdT_getD] at q0 q1
          simp only [Int.toNat_natCast] at q0 q1
          by_cases hw : (qs.getD p z67).f0 = who
          · have HF2 := Aside0.mk (fl_skip hpl HF.out hw)
            have s1 : ((qs.getD p z67).f0 == who) = true := beq_iff_eq.2 hw
            clear hw HTi
            generalize qs.getD p z67 = x at q0 q1 s1
            go_wp2
            go_roundg (qs.length - (p + 1))
            case measure => omega
            case rel => exact ⟨p + 1, by omega, by omega, by go_num, HF2, HLi, HRi, HKi⟩
          · have hA := fl_at hpl HF.out (by have := HTi.out.1; omega) hw
            have s1 : ((qs.getD p z67).f0 == who) = false := beq_eq_false_iff_ne.2 hw
            have i0 : 0 ≤ (i : Int) := by omega
            obtain ⟨ag, rfl, g0⟩ := Kd.at_int HKi.out (i : Int) (by omega) (by omega)
            rw [rd_getD, HTi.out.2.1, hA.1] at g0
            simp only [Int.toNat_natCast] at g0
            have HHo := Aside0.mk (fun (W : World) (hb : Below wr.heap.size wr W) => Holds_ W b _ hs2 qs2 (qs.getD p z67).f0 (HLi.out.1.below hb))
            have HWa := Aside0.mk (fun (W : World) (hb : Below wr.heap.size wr W) => Waits_ W b _ hs2 qs2 (qs.getD p z67).f0 (HLi.out.1.below hb))
            have e1 := HTi.out.2.2.1
            have e2 := HTi.out.2.2.2
            rw [hA.1] at e1 e2
            rw [e1] at HHo
            rw [e2] at HWa
            have HF2 := Aside0.mk hA.2.2
            clear hA e1 e2 hw
            generalize qs.getD p z67 = x at q0 q1 g0 s1 HHo HWa
            have s2 : (x.f0 != x.f0) = false := by simp
            have s3 : (x.f1 != x.f1) = false := by simp
            have d1 : decide (qs.length ≤ p) = false := decide_eq_false (by omega)
            go_wp2_with fail
            have c0 := fun d os => cell_gr q0 d os
            have c1 := fun d os => cell_gr q1 d os
            have c2 := fun d os => cell_gr g0 d os
            refine wp_region_gr mixed (by kernel_rfl) ?_
            repeat (go_big_quiet_step (first | exact Calls.gr_of (HHo.out _ (below_gr _ _ _)) | exact Calls.gr_of (HWa.out _ (below_gr _ _ _))))
            refine wpQuiet_nil ?_
            intro _ hw'
            obtain ⟨⟨d, os⟩, rfl⟩ := hw'
            have hgr := below_gr wr d os
            have HL3 := Aside0.mk (HLi.out.below hgr)
            have HR3 := Aside0.mk (HRi.out.below hgr)
            have HK3 := Aside0.mk (Kd.C_below HKi.out hgr)
            generalize grow (wat wr d) os = w3 at HL3 HR3 HK3 ⊢
            clear c0 c1 c2 q0 q1 g0 hgr HHo HWa HLi HRi HKi
            go_wp2
            go_roundg (got.length - (i + 1))
            case measure => omega
            case rel => exact ⟨i + 1, p + 1, by omega, by omega, by omega, by go_num, by go_num, HF2, HL3, HR3, HK3⟩
        · exact absurd (fl_end (by omega) HF.out) (by have := HTi.out.1; omega)
    · have ei : i = got.length := by omega
      subst ei
      clear hi hgg hlt
      have hlt2 : ¬ got.length < got.length := Nat.lt_irrefl _
      go_wp2
      go_ret
      exact ⟨rfl, by rw [HS1.out, HS2.out]; exact HLi.out.live⟩
end Go.Proofs.Ytagdgkimjgomlaa.Ln
/- LaneServes: asks, leavings in any order, then all leave one by one: nobody is forgotten. -/
namespace Go.Proofs.Ytagdgkimjgomlaa.Ln
open Go.RowKit Go.Proofs.YtagdgkimjgomlaaW.PrintWords Go.Proofs.YtagdgkimjgomlaaW.PrintLast Go.Proofs.YtagdgkimjgomlaaW.PrintMore Go.Proofs.Ytagdgkimjgomlaa.PMd
open Go.Sort (grow)
set_option linter.unusedVariables false
set_option linter.unusedSimpArgs false
/-- The lane behind the first i operations, each taken for an asking. -/
def st (l : List Op3) (i : Nat) : List E × List E := (l.take i).foldl (fun s o => (askIn s.1 s.2 o.f1 o.f2).2) ([], [])
theorem st_succ {l : List Op3} {i : Nat} (h : i < l.length) : st l (i + 1) = (askIn (st l i).1 (st l i).2 (l.getD i zOp).f1 (l.getD i zOp).f2).2 := by
  unfold st
  have e : l.take (i + 1) = l.take i ++ [l.getD i zOp] := by
    rw [List.take_add_one, List.getD_eq_getElem?_getD, List.getElem?_eq_getElem h]; rfl
  rw [e, List.foldl_append]
  rfl
theorem st_inv (l : List Op3) (i : Nat) (h : i ≤ l.length) : Inv (st l i).1 (st l i).2 ∧ (st l i).1.length + (st l i).2.length ≤ i := by
  induction i with
  | zero => exact ⟨inv_nil, Nat.le_refl _⟩
  | succ i ih =>
    obtain ⟨h1, h2⟩ := ih (by omega)
    rw [st_succ (by omega)]
    refine ⟨inv_ask h1 _ _, ?_⟩
    have := ask_len (st l i).1 (st l i).2 (l.getD i zOp).f1 (l.getD i zOp).f2
    omega
theorem first_E {hs qs : List E} (h : Inv hs qs) (hn : ¬ (hs = [] ∧ qs = [])) : hs ≠ [] := by
  rintro rfl
  cases qs with
  | nil => exact hn ⟨rfl, rfl⟩
  | cons x l =>
    have := h.head x l rfl
    simp [fitsAll] at this
set_option maxHeartbeats 8000000 in
set_option maxRecDepth 100000 in
theorem serves_long (A : Option Addr) (c : Nat) (l : List Op3) (A1 : Option Addr) (c1 : Nat) (l1 : List Int) (w : World) (h : 300 < l.length ∨ 100 < l1.length) :
    Calls Try.prog 13 #[.slice A l.length c, .slice A1 l1.length c1] w fun e w' => e = .returned (.bool true) ∧ Below w.heap.size w w' := by
  have h' : 300 < l.length ∨ (¬ 300 < l.length ∧ 100 < l1.length) := by omega
  clear h
  rcases h' with h1 | ⟨h1, h2⟩
  all_goals
    go_enter Try.func13, Try.ntmps13
    go_wp2_with fail
    refine (first_ w w (Below.refl _ _)).mono ?_
    rintro e w1 ⟨rfl, hb⟩
    have HB := Aside0.mk hb
    clear hb
    go_wp2_with fail
    refine (New_L w w1 HB.out).mono ?_
    rintro e w2 ⟨rfl, hL, _⟩
    have HL := Aside0.mk hL
    clear hL
    go_wp2_with fail
    refine (first_ w w2 HL.out.2.2).mono ?_
    rintro e w3 ⟨rfl, hb3⟩
    have HB3 := Aside0.mk (below_then HL.out.2.2 HL.out.2.2.size hb3)
    clear hb3
    go_wp2
    go_ret
    exact ⟨rfl, HB3.out⟩
set_option maxHeartbeats 8000000 in
set_option maxRecDepth 100000 in
theorem serves_in (A : Option Addr) (c : Nat) (l : List Op3) (A1 : Option Addr) (c1 : Nat) (l1 : List Int) (w : World) (hr : Kd.C kOp w A l.length l) (hc : l.length ≤ c) (hr1 : Kd.C (Kd.int .i64) w A1 l1.length l1) (hc1 : l1.length ≤ c1)
    (h1 : l.length ≤ 300) (h2 : l1.length ≤ 100) :
    Calls Try.prog 13 #[.slice A l.length c, .slice A1 l1.length c1] w fun e w' => e = .returned (.bool true) ∧ Below w.heap.size w w' := by
  have HR := Aside0.mk hr
  have HR1 := Aside0.mk hr1
  clear hr hr1
  go_enter Try.func13, Try.ntmps13
  go_wp2_with fail
  refine (first_ w w (Below.refl _ _)).mono ?_
  rintro e w1 ⟨rfl, hb⟩
  have HB := Aside0.mk hb
  clear hb
  go_wp2_with fail
  refine (New_L w w1 HB.out).mono ?_
  rintro e w2 ⟨rfl, hL, _⟩
  have HL := Aside0.mk hL
  clear hL HB
  generalize hB : w1.heap.size = B at HL ⊢
  clear hB
  go_wp2_with fail
  go_loopg [6] l.length (fun gg v wr => ∃ i : Nat, i ≤ l.length ∧ l.length - i ≤ gg ∧ v = .int .i64 i ∧ Aside0 (Live w wr B (st l i).1 (st l i).2))
  case atStart => exact ⟨0, by omega, by omega, rfl, HL⟩
  case round =>
    clear HL
    obtain ⟨i, hi, hgg, rfl, HLi⟩ := hrel
    by_cases hlt : i < l.length
    · have t1 : (i : Int) < l.length := by omega
      have t0 : 0 ≤ (i : Int) := by omega
      obtain ⟨ad, rfl, q0, q1, q2⟩ := at_Op (Kd.C_below HR.out HLi.out.2.2) i hlt
      have HA := Aside0.mk (Ask_L (l.getD i zOp).f1 (l.getD i zOp).f2 (HLi.out.below (below_drew (Below.refl wr.heap.size wr))) (by have := (st_inv l i hi).2; omega) (by have := (st_inv l i hi).2; omega))
      have HS := Aside0.mk (st_succ hlt)
      generalize l.getD i zOp = o at q0 q1 q2 HA HS
      go_wp2_with fail
      go_still_tail 11, (by kernel_rfl)
      change wpList _ _ _ _ _ wr.drew
      clear q0 q1 q2
      generalize wr.drew = w4 at HA ⊢
      go_wp2_with fail
      refine HA.out.mono ?_
      rintro e w6 ⟨rfl, hL⟩
      have HL6 := Aside0.mk (show Live w w6 B (st l (i + 1)).1 (st l (i + 1)).2 from by rw [HS.out]; exact hL)
      clear hL HA HS HLi
      go_wp2
      go_roundg (l.length - (i + 1))
      case measure => omega
      case rel => exact ⟨i + 1, by omega, by omega, by go_num, HL6⟩
    · have ei : i = l.length := by omega
      have HV := Aside0.mk (st_inv l i hi)
      subst ei
      clear hi hgg hlt
      generalize hH : (st l l.length).1 = H0 at HLi HV
      generalize hQ : (st l l.length).2 = Q0 at HLi HV
      clear hH hQ
      have HV2 := Aside0.mk (show Inv H0 Q0 ∧ H0.length + Q0.length ≤ 300 from ⟨HV.out.1, Nat.le_trans HV.out.2 h1⟩)
      clear HV
      have hlt2 : ¬ l.length < l.length := Nat.lt_irrefl _
      go_wp2_with fail
      go_loopg [7] l1.length (fun gg v wr => ∃ (j : Nat) (hs qs : List E), j ≤ l1.length ∧ l1.length - j ≤ gg ∧ v = .int .i64 j ∧ Aside0 (Live w wr B hs qs) ∧ Aside0 (Inv hs qs ∧ hs.length + qs.length ≤ 300))
      case atStart => exact ⟨0, H0, Q0, by omega, by omega, rfl, HLi, HV2⟩
      case round =>
        clear HLi HV2
        obtain ⟨j, hs, qs, hj, hgg, rfl, HLj, HVj⟩ := hrel
        by_cases hlt : j < l1.length
        · have t1 : (j : Int) < l1.length := by omega
          have t0 : 0 ≤ (j : Int) := by omega
          obtain ⟨ad, rfl, q0⟩ := Kd.at_int (Kd.C_below HR1.out HLj.out.2.2) (j : Int) (by omega) (by omega)
          simp only [Int.toNat_natCast] at q0
          have HS := Aside0.mk (serve_ w wr B hs qs (rd l1 (j : Int)) HLj.out HVj.out.1 (by have := HVj.out.2; omega))
          generalize rd l1 (j : Int) = k at q0 HS
          go_wp2_with fail
          refine HS.out.mono ?_
          rintro e w6 ⟨rfl, hL⟩
          have HL6 := Aside0.mk hL
          have HV6 := Aside0.mk (show Inv (leaveIn hs qs k).2.1 (leaveIn hs qs k).2.2 ∧ (leaveIn hs qs k).2.1.length + (leaveIn hs qs k).2.2.length ≤ 300 from by
            obtain ⟨_, _, _, _, h3, _⟩ := leave_spec HVj.out.1 k
            have h4 := leave_len HVj.out.1 k
            have h5 := HVj.out.2
            have h6 := fl_len hs k
            have h7 := fl_len qs k
            exact ⟨h3, by omega⟩)
          clear hL HS HLj HVj q0
          go_wp2
          go_roundg (l1.length - (j + 1))
          case measure => omega
          case rel => exact ⟨j + 1, _, _, by omega, by omega, by go_num, HL6, HV6⟩
        · have ej : j = l1.length := by omega
          subst ej
          clear hj hgg hlt
          have hlt3 : ¬ l1.length < l1.length := Nat.lt_irrefl _
          go_wp2_with fail
          go_loopg [8] 300 (fun gg v wr => ∃ (j : Nat) (hs qs : List E), hs.length + qs.length ≤ gg ∧ j + (hs.length + qs.length) ≤ 300 ∧ v = .int .i64 j ∧ Aside0 (Live w wr B hs qs) ∧ Aside0 (Inv hs qs))
          case atStart => exact ⟨0, hs, qs, HVj.out.2, by have := HVj.out.2; omega, rfl, HLj, ⟨HVj.out.1⟩⟩
          case round =>
            clear HLj HVj
            obtain ⟨j, hs, qs, hgg, hj, rfl, HLj, HVj⟩ := hrel
            have t1 : (j : Int) < 400 := by omega
            by_cases hem : hs = [] ∧ qs = []
            · obtain ⟨rfl, rfl⟩ := hem
              have HE := Aside0.mk (Empty_L HLj.out)
              go_wp2_with fail
              refine HE.out.mono ?_
              rintro e w6 ⟨rfl, hL, _⟩
              have HL6 := Aside0.mk hL
              clear hL HE HLj
              go_wp2_with fail
              refine (first_ w w6 HL6.out.2.2).mono ?_
              rintro e w12 ⟨rfl, hb⟩
              have HE := Aside0.mk (Empty_L (HL6.out.below hb))
              clear hb HL6
              go_wp2_with fail
              refine HE.out.mono ?_
              rintro e w7 ⟨rfl, hL, _⟩
              have HL7 := Aside0.mk hL
              clear hL HE
              go_wp2
              go_ret
              exact ⟨rfl, HL7.out.2.2⟩
            · have hne := first_E HVj.out hem
              have hemp : (hs.isEmpty && qs.isEmpty) = false := by
                cases hs with
                | nil => exact absurd rfl hne
                | cons _ _ => rfl
              have HE := Aside0.mk (Empty_L HLj.out)
              rw [hemp] at HE
              clear hemp hem
              go_wp2_with fail
              refine HE.out.mono ?_
              rintro e w6 ⟨rfl, hL, _⟩
              have HH := Aside0.mk (Holders_L hL (by omega))
              clear hL HE HLj
              go_wp2_with fail
              refine HH.out.mono ?_
              rintro e w7 ⟨A7, c7, rfl, hK, hc7, hL, _⟩
              have HL7 := Aside0.mk hL
              have hpos : 0 < hs.length := List.length_pos_iff.2 hne
              obtain ⟨ad, rfl, q0, q1⟩ := at_T67 hK 0 (by decide) (by omega)
              simp only [Int.toNat_zero, Nat.zero_mul, Addr.add_zero'] at q0 q1
              have hx := getD_mem' hpos
              have HX := Aside0.mk (show rd_T67 hs 0 ∈ hs from hx)
              have HS := Aside0.mk (serve_ w w7 B hs qs (rd_T67 hs 0).f0 hL HVj.out (by omega))
              have s1 : ((hs.length : Int) == 0) = false := beq_eq_false_iff_ne.2 (by omega)
              clear hK hL HH hx hne
              generalize rd_T67 hs 0 = x at q0 q1 HS HX
              go_wp2_with fail
              refine HS.out.mono ?_
              rintro e w8 ⟨rfl, hL⟩
              have HL8 := Aside0.mk hL
              have HV8 := Aside0.mk (show Inv (leaveIn hs qs x.f0).2.1 (leaveIn hs qs x.f0).2.2 ∧ (leaveIn hs qs x.f0).2.1.length + (leaveIn hs qs x.f0).2.2.length + 1 ≤ hs.length + qs.length from by
                obtain ⟨_, _, _, _, h3, _⟩ := leave_spec HVj.out x.f0
                have h4 := leave_len HVj.out x.f0
                have h6 := fl_len_lt ⟨x, HX.out, rfl⟩
                have h7 := fl_len qs x.f0
                exact ⟨h3, by omega⟩)
              clear hL HS q0 q1 HL7 s1
              go_wp2
              go_roundg (hs.length + qs.length - 1)
              case measure => omega
              case rel => exact ⟨j + 1, _, _, by have := HV8.out.2; omega, by have := HV8.out.2; omega, by go_num, HL8, ⟨HV8.out.1⟩⟩
theorem serves_walk (A : Option Addr) (c : Nat) (l : List Op3) (A1 : Option Addr) (c1 : Nat) (l1 : List Int) (w : World) (hr : Kd.C kOp w A l.length l) (hc : l.length ≤ c) (hw : l.length ≤ maxLen) (hr1 : Kd.C (Kd.int .i64) w A1 l1.length l1) (hc1 : l1.length ≤ c1) (hw1 : l1.length ≤ maxLen) :
    Calls Try.prog 13 #[.slice A l.length c, .slice A1 l1.length c1] w fun e w' => e = .returned (.bool true) ∧ Below w.heap.size w w' := by
  by_cases h : 300 < l.length ∨ 100 < l1.length
  · exact serves_long A c l A1 c1 l1 w h
  · exact serves_in A c l A1 c1 l1 w hr hc hr1 hc1 (by omega) (by omega)
end Go.Proofs.Ytagdgkimjgomlaa.Ln
