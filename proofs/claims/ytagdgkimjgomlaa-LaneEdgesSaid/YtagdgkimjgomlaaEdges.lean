/- LaneEdges: when all that block one have left, it is granted, and not before. -/
import Derived.Test.YtagdgkimjgomlaaServesX
namespace Go.Proofs.Ytagdgkimjgomlaa.Ln
open Go.RowKit Go.Proofs.YtagdgkimjgomlaaW.PrintWords Go.Proofs.YtagdgkimjgomlaaW.PrintLast Go.Proofs.YtagdgkimjgomlaaW.PrintMore Go.Proofs.Ytagdgkimjgomlaa.PMd
open Go.Sort (grow)
set_option linter.unusedVariables false
set_option linter.unusedSimpArgs false
theorem compact_mem {zs : List Int} {x : Int} : x ∈ Lib.compact zs ↔ x ∈ zs := by
  constructor
  · intro h
    unfold Lib.compact Lib.compactUpTo at h
    obtain ⟨i, hi, rfl⟩ := List.mem_map.1 h
    have hi' : i < zs.length := List.mem_range.1 (List.mem_filter.1 hi).1
    simp [getElem!_pos, hi']
  · intro h
    have key : ∀ m j, j < m → zs.toArray[j]! ∈ Lib.compactUpTo zs.toArray m := by
      intro m
      induction m with
      | zero => intro j hj; omega
      | succ m ih =>
        intro j hj
        rw [Lib.compactUpTo_succ, List.mem_append]
        by_cases hjm : j < m
        · exact .inl (ih j hjm)
        · obtain rfl : j = m := by omega
          cases hk : Lib.keeps zs.toArray j with
          | true => exact .inr (by simp)
          | false =>
            unfold Lib.keeps at hk
            have hk2 := of_decide_eq_false hk
            have h0 : j ≠ 0 := fun h => hk2 (.inl h)
            have h1 : zs.toArray[j]! = zs.toArray[j - 1]! := Classical.byContradiction fun h => hk2 (.inr h)
            rw [h1]
            exact .inl (ih (j - 1) (by omega))
    obtain ⟨i, hi, rfl⟩ := List.mem_iff_getElem.1 h
    have := key zs.length i hi
    simp [getElem!_pos, hi] at this
    unfold Lib.compact
    exact this
theorem blocks_mem {hs Q1 : List E} {who t k : Int} (hn : ∀ x ∈ Q1, x.f0 ≠ who) : k ∈ blocksIn hs (Q1 ++ [⟨who, t⟩]) who ↔ (∃ x ∈ Q1, x.f0 = k) ∨ ∃ h ∈ hs, h.f0 = k ∧ h.f0 ≠ who ∧ fitsM h.f1 t = false := by
  have e0 : (Q1 ++ [(⟨who, t⟩ : E)]).getD Q1.length z67 = ⟨who, t⟩ := by simp [List.getD_eq_getElem?_getD]
  have e1 : ix (fun x => x.f0 == who) (Q1 ++ [⟨who, t⟩]) = (Q1.length : Int) := by
    refine ix_hit (by simp) (by rw [e0]; simp) (fun i hi => ?_)
    have : (Q1 ++ [(⟨who, t⟩ : E)]).getD i z67 ∈ Q1 := by
      rw [List.getD_eq_getElem?_getD, List.getElem?_append_left hi, List.getElem?_eq_getElem hi]; exact List.getElem_mem hi
    exact beq_eq_false_iff_ne.2 (hn _ this)
  unfold blocksIn
  rw [if_neg (by rw [e1]; omega), compact_mem, e1, Int.toNat_natCast]
  unfold sortedI
  rw [List.mem_mergeSort]
  unfold blocksAt
  rw [e0, List.take_left', List.mem_append, List.mem_map, List.mem_map]
  · constructor
    · rintro (h | ⟨x, hx, e⟩)
      · exact .inl h
      · rw [List.mem_filter] at hx
        obtain ⟨h1, h2⟩ := hx
        unfold inWay at h2
        rw [Bool.and_eq_true, Bool.not_eq_true', Bool.not_eq_true'] at h2
        exact .inr ⟨x, h1, e, by simpa using h2.1, h2.2⟩
    · rintro (h | ⟨x, hx, e, h1, h2⟩)
      · exact .inl h
      · refine .inr ⟨x, List.mem_filter.2 ⟨hx, ?_⟩, e⟩
        unfold inWay
        rw [h2]
        simp [h1]
  · rfl
/-- One waits, last; whoever is in its way is still to leave. -/
def EdW (who t : Int) (rem : List Int) (hs qs : List E) : Prop :=
  ∃ Q1, qs = Q1 ++ [⟨who, t⟩] ∧ (∀ x ∈ Q1, x.f0 ∈ rem ∧ x.f0 ≠ who) ∧ ∀ h ∈ hs, h.f0 ≠ who → h.f0 ∈ rem ∨ fitsM h.f1 t = true
/-- It was granted. -/
def EdG (who t : Int) (hs qs : List E) : Prop := (∀ x ∈ qs, x.f0 ≠ who) ∧ (⟨who, t⟩ : E) ∈ hs
theorem edW_told {who t : Int} {rem : List Int} {hs qs : List E} (hi : Inv hs qs) (h : EdW who t rem hs qs) : toldIn qs who = t ∧ t ≠ 0 := by
  obtain ⟨Q1, rfl, _, _⟩ := h
  have hm : (⟨who, t⟩ : E) ∈ Q1 ++ [⟨who, t⟩] := by simp
  exact ⟨told_mem hi.dq hm, (hi.mq _ hm).2⟩
theorem edG_told {who t : Int} {hs qs : List E} (hi : Inv hs qs) (h : EdG who t hs qs) : toldIn qs who = 0 ∧ toldIn hs who = t := ⟨told_no h.1, told_mem hi.asc.dis h.2⟩
theorem edG_fits {who t k : Int} {hs qs : List E} (hi : Inv hs qs) (h : EdG who t hs qs) (hk : k ≠ who) : fitsM t (toldIn hs k) = true := by
  have ht := (hi.mh _ h.2).1
  rcases told_cases hs k with ⟨h1, _⟩ | ⟨x, hx, e, h1⟩
  · rw [h1]; exact fits_zero ht
  · rw [h1]
    exact hi.fit _ h.2 x hx (fun e2 => hk (e.symm.trans e2.symm))
theorem edW_end {who t : Int} {hs qs : List E} (hi : Inv hs qs) (h : EdW who t [] hs qs) : False := by
  obtain ⟨Q1, rfl, h1, h2⟩ := h
  cases Q1 with
  | cons x l => have := (h1 x (by simp)).1; cases this
  | nil =>
    have h3 := hi.head ⟨who, t⟩ [] rfl
    have h4 : fitsAll hs who t = true := fitsAll_iff.2 (fun x hx hw => (h2 x hx hw).resolve_left (fun h => by cases h))
    rw [h4] at h3
    cases h3
theorem edW_step {who t k : Int} {rem : List Int} {hs qs : List E} (hi : Inv hs qs) (h : EdW who t (k :: rem) hs qs) (hk : k ≠ who) :
    EdW who t rem (leaveIn hs qs k).2.1 (leaveIn hs qs k).2.2 ∨ EdG who t (leaveIn hs qs k).2.1 (leaveIn hs qs k).2.2 := by
  obtain ⟨Q1, rfl, h1, h2⟩ := h
  obtain ⟨n, hn, _, g2, g3, g4, _⟩ := leave_spec hi k
  have e : fl (Q1 ++ [⟨who, t⟩]) k = fl Q1 k ++ [⟨who, t⟩] := by
    unfold fl
    rw [List.filter_append]
    congr 1
    have : (who == k) = false := beq_eq_false_iff_ne.2 (Ne.symm hk)
    simp [this]
  rw [e] at hn g2 g4
  have hmem : ∀ x ∈ fl Q1 k, x.f0 ∈ rem ∧ x.f0 ≠ who := fun x hx => by
    obtain ⟨h3, h4⟩ := fl_mem.1 hx
    obtain ⟨h5, h6⟩ := h1 x h3
    rcases List.mem_cons.1 h5 with h7 | h7
    · exact absurd h7 h4
    · exact ⟨h7, h6⟩
  rcases Nat.lt_or_ge (fl Q1 k).length n with hlt | hge
  · right
    have hn2 : n = (fl Q1 k ++ [(⟨who, t⟩ : E)]).length := by rw [List.length_append] at hn ⊢; simp at hn ⊢; omega
    refine ⟨?_, (g4 _).2 (.inl ?_)⟩
    · rw [g2, hn2, List.drop_length]; nofun
    · rw [hn2, List.take_length]; simp
  · left
    refine ⟨(fl Q1 k).drop n, ?_, fun x hx => hmem x (List.mem_of_mem_drop hx), ?_⟩
    · rw [g2, List.drop_append_of_le_length hge]
    · intro y hy hw
      rw [List.take_append_of_le_length hge] at g4
      rcases (g4 y).1 hy with hy | ⟨hy, _⟩
      · exact .inl (hmem y (List.mem_of_mem_take hy)).1
      · obtain ⟨h3, h4⟩ := fl_mem.1 hy
        rcases h2 y h3 hw with h5 | h5
        · rcases List.mem_cons.1 h5 with h6 | h6
          · exact absurd h6 h4
          · exact .inl h6
        · exact .inr h5
theorem edW_start {who t : Int} {hs Q1 : List E} (hi : Inv hs (Q1 ++ [⟨who, t⟩])) : EdW who t (blocksIn hs (Q1 ++ [⟨who, t⟩]) who) hs (Q1 ++ [⟨who, t⟩]) ∧ ∀ k ∈ blocksIn hs (Q1 ++ [⟨who, t⟩]) who, k ≠ who := by
  have hn : ∀ x ∈ Q1, x.f0 ≠ who := fun x hx => (List.pairwise_append.1 hi.dq).2.2 x hx ⟨who, t⟩ (by simp)
  refine ⟨⟨Q1, rfl, fun x hx => ⟨(blocks_mem hn).2 (.inl ⟨x, hx, rfl⟩), hn x hx⟩, fun h hh hw => ?_⟩, fun k hk => ?_⟩
  · cases hf : fitsM h.f1 t with
    | true => exact .inr rfl
    | false => exact .inl ((blocks_mem hn).2 (.inr ⟨h, hh, rfl, hw, hf⟩))
  · rcases (blocks_mem hn).1 hk with ⟨x, hx, e⟩ | ⟨x, _, e, hw, _⟩
    · rw [← e]; exact hn x hx
    · rw [← e]; exact hw
theorem drop_getD {l : List Int} {i : Nat} (h : i < l.length) : l.drop i = l.getD i 0 :: l.drop (i + 1) := by
  rw [List.drop_eq_getElem_cons h, List.getD_eq_getElem?_getD, List.getElem?_eq_getElem h]; rfl
theorem getD_memI {l : List Int} {i : Nat} (h : i < l.length) : l.getD i 0 ∈ l := by
  rw [List.getD_eq_getElem?_getD, List.getElem?_eq_getElem h]; exact List.getElem_mem h
set_option maxHeartbeats 8000000 in
set_option maxRecDepth 100000 in
theorem edges_long (A : Option Addr) (c : Nat) (l : List Op3) (w : World) (h1 : 300 < l.length) :
    Calls Try.prog 11 #[.slice A l.length c] w fun e w' => e = .returned (.bool true) ∧ Below w.heap.size w w' := by
  go_enter Try.func11, Try.ntmps11
  go_wp2_with fail
  refine (first_ w w (Below.refl _ _)).mono ?_
  rintro e w1 ⟨rfl, hb⟩
  have HB := Aside0.mk hb
  clear hb
  go_wp2_with fail
  refine (New_L w w1 HB.out).mono ?_
  rintro e w2 ⟨rfl, hL, _⟩
  have HL := Aside0.mk hL
  clear hL
  go_wp2_with fail
  refine (first_ w w2 HL.out.2.2).mono ?_
  rintro e w3 ⟨rfl, hb3⟩
  have HB3 := Aside0.mk (below_then HL.out.2.2 HL.out.2.2.size hb3)
  clear hb3
  go_wp2
  go_ret
  exact ⟨rfl, HB3.out⟩
set_option maxHeartbeats 8000000 in
set_option maxRecDepth 100000 in
theorem edges_in (A : Option Addr) (c : Nat) (l : List Op3) (w : World) (hr : Kd.C kOp w A l.length l) (hc : l.length ≤ c) (h1 : l.length ≤ 300) :
    Calls Try.prog 11 #[.slice A l.length c] w fun e w' => e = .returned (.bool true) ∧ Below w.heap.size w w' := by
  have mixed : Try.prog.follows Departure.mixedOrders = true := by kernel_rfl
  have HR := Aside0.mk hr
  clear hr
  go_enter Try.func11, Try.ntmps11
  go_wp2_with fail
  refine (first_ w w (Below.refl _ _)).mono ?_
  rintro e w1 ⟨rfl, hb⟩
  have HB := Aside0.mk hb
  clear hb
  go_wp2_with fail
  refine (New_L w w1 HB.out).mono ?_
  rintro e w2 ⟨rfl, hL, _⟩
  have HL := Aside0.mk hL
  clear hL HB
  generalize hB : w1.heap.size = B at HL ⊢
  clear hB
  go_wp2_with fail
  go_loopg [4] l.length (fun gg v wr => ∃ i : Nat, i ≤ l.length ∧ l.length - i ≤ gg ∧ v = .int .i64 i ∧ Aside0 (Live w wr B (st l i).1 (st l i).2))
  case atStart => exact ⟨0, by omega, by omega, rfl, HL⟩
  case round =>
    clear HL
    obtain ⟨i, hi, hgg, rfl, HLi⟩ := hrel
    by_cases hlt : i < l.length
    · have t1 : (i : Int) < l.length := by omega
      have t0 : 0 ≤ (i : Int) := by omega
      obtain ⟨ad, rfl, q0, q1, q2⟩ := at_Op (Kd.C_below HR.out HLi.out.2.2) i hlt
      have HA := Aside0.mk (Ask_L (l.getD i zOp).f1 (l.getD i zOp).f2 (HLi.out.below (below_drew (Below.refl wr.heap.size wr))) (by have := (st_inv l i hi).2; omega) (by have := (st_inv l i hi).2; omega))
      have HS := Aside0.mk (st_succ hlt)
      generalize l.getD i zOp = o at q0 q1 q2 HA HS
      go_wp2_with fail
      go_still_tail 11, (by kernel_rfl)
      change wpList _ _ _ _ _ wr.drew
      clear q0 q1 q2
      generalize wr.drew = w4 at HA ⊢
      go_wp2_with fail
      refine HA.out.mono ?_
      rintro e w6 ⟨rfl, hL⟩
      have HL6 := Aside0.mk (show Live w w6 B (st l (i + 1)).1 (st l (i + 1)).2 from by rw [HS.out]; exact hL)
      clear hL HA HS HLi
      go_wp2
      go_roundg (l.length - (i + 1))
      case measure => omega
      case rel => exact ⟨i + 1, by omega, by omega, by go_num, HL6⟩
    · have ei : i = l.length := by omega
      have HV := Aside0.mk (st_inv l i hi)
      subst ei
      clear hi hgg hlt
      generalize hH : (st l l.length).1 = H0 at HLi HV
      generalize hQ : (st l l.length).2 = Q0 at HLi HV
      clear hH hQ
      have HV2 := Aside0.mk (show Inv H0 Q0 ∧ H0.length + Q0.length ≤ 300 from ⟨HV.out.1, Nat.le_trans HV.out.2 h1⟩)
      clear HV
      have hlt2 : ¬ l.length < l.length := Nat.lt_irrefl _
      have HQ := Aside0.mk (Queue_L HLi.out (by have := HV2.out.2; omega))
      go_wp2_with fail
      refine HQ.out.mono ?_
      rintro e w3 ⟨A5, c5, rfl, hK, hc5, hL, _⟩
      have HL3 := Aside0.mk hL
      have HK3 := Aside0.mk hK
      clear hL hK HQ HLi
      rcases List.eq_nil_or_concat Q0 with rfl | ⟨Q1, x, rfl⟩
      · go_wp2_with fail
        refine (first_ w w3 HL3.out.2.2).mono ?_
        rintro e w4 ⟨rfl, hb⟩
        have HB4 := Aside0.mk (below_then HL3.out.2.2 HL3.out.2.2.size hb)
        clear hb
        go_wp2
        go_ret
        exact ⟨rfl, HB4.out⟩
      · obtain ⟨who, t⟩ := x
        rw [List.concat_eq_append] at *
        have HN := Aside0.mk (show (Q1 ++ [(⟨who, t⟩ : E)]).length = Q1.length + 1 by simp)
        have HQ1 := Aside0.mk (show Q1.length ≤ 300 by have := HV2.out.2; rw [HN.out] at this; omega)
        rw [HN.out] at HK3 hc5 ⊢
        have p0 : 0 ≤ (Q1.length : Int) := by omega
        obtain ⟨ad, rfl, q0, q1⟩ := at_T67 HK3.out (Q1.length : Int) p0 (by omega)
        rw [show rd_T67 (Q1 ++ [(⟨who, t⟩ : E)]) (Q1.length : Int) = ⟨who, t⟩ from by simp [rd_T67, List.getD_eq_getElem?_getD]] at q0 q1
        simp only [Int.toNat_natCast] at q0 q1
        have HBl := Aside0.mk (fun (W : World) (hb : Below w3.heap.size w3 W) => Blocks_X who (HL3.out.below hb) (by have := HV2.out.2; omega) (by have := HV2.out.2; omega))
        have HSt := Aside0.mk (edW_start HV2.out.1)
        have hqm := HQ1.out
        generalize hqn : Q1.length = qn at *
        generalize hQ : Q1 ++ [(⟨who, t⟩ : E)] = Q0 at *
        clear hQ hqn
        have z1 : (((qn + 1 : Nat) : Int) == 0) = false := beq_eq_false_iff_ne.2 (by omega)
        have z2 : ((qn : Int) + 1 == 0) = false := beq_eq_false_iff_ne.2 (by omega)
        have z3 : IntKind.i64.wrap ((qn : Int) + 1 - 1) = (qn : Int) := by rw [show (qn : Int) + 1 - 1 = (qn : Int) by omega]; exact IntWalk.i64_in _ (by omega)
        have z4 : IntKind.i64.wrap (qn : Int) = (qn : Int) := IntWalk.i64_in _ (by omega)
        have z5 : (qn : Int) + 1 - 1 = (qn : Int) := by omega
        have z6 : (qn : Int) < (qn : Int) + 1 := by omega
        have z7 : qn < qn + 1 := by omega
        have c0 := fun d os => cell_gr q0 d os
        have c1 := fun d os => cell_gr q1 d os
        go_wp2_with fail
        refine wp_region_gr mixed (by kernel_rfl) ?_
        repeat (go_big_quiet_step (fail))
        refine wpQuiet_nil ?_
        intro _ hw'
        obtain ⟨⟨d, os⟩, rfl⟩ := hw'
        have HBL := Aside0.mk (HBl.out _ (below_gr w3 d os))
        clear HBl
        generalize grow (wat w3 d) os = w4 at HBL ⊢
        clear c0 c1 q0 q1 z1 z2 z3 z4 z5 z6 z7
        go_wp2_with fail
        refine HBL.out.mono ?_
        rintro e w5 ⟨A8, c8, rfl, hR, hL⟩
        have HR5 := Aside0.mk hR
        have HL5 := Aside0.mk hL
        clear hR hL HBL HL3 HK3
        have HST := Aside0.mk HSt.out.1
        have HNE := Aside0.mk HSt.out.2
        clear HSt
        have hbl := HR5.out.2.2.1
        unfold maxLen at hbl
        have hbc := HR5.out.2.1
        generalize blocksIn H0 Q0 who = b at HR5 HST HNE hbc ⊢
        go_wp2_with fail
        go_loopg [9] b.length (fun gg v wr => ∃ (j : Nat) (hs qs : List E), j ≤ b.length ∧ b.length - j ≤ gg ∧ v = .int .i64 j ∧ Aside0 (LiveX (blk A8) w wr B hs qs) ∧ Aside0 (Inv hs qs ∧ hs.length + qs.length ≤ 300) ∧ Aside0 (Row wr 3 1 A8 b.length c8 (ints b)) ∧ Aside0 (EdW who t (b.drop j) hs qs ∨ EdG who t hs qs))
        case atStart => exact ⟨0, H0, Q0, by omega, by omega, rfl, HL5, HV2, HR5, ⟨.inl HST.out⟩⟩
        case round =>
          clear HL5 HV2 HR5 HST
          obtain ⟨j, hs, qs, hj, hgg, rfl, HLj, HVj, HRj, HEj⟩ := hrel
          by_cases hlt : j < b.length
          · have t1 : (j : Int) < b.length := by omega
            have t0 : 0 ≤ (j : Int) := by omega
            have HKj := Aside0.mk HRj.out.readsI
            obtain ⟨ad, rfl, q0⟩ := Kd.at_int HKj.out (j : Int) (by omega) (by omega)
            rw [rd_getD] at q0
            simp only [Int.toNat_natCast] at q0
            have hk := HNE.out _ (getD_memI hlt)
            have hd := drop_getD hlt
            have HWa := Aside0.mk (Waits_L who HLj.out.live)
            rcases HEj.out with hE | hE
            · have hT := edW_told HVj.out.1 hE
              rw [hT.1] at HWa
              have s1 : (t == 0) = false := beq_eq_false_iff_ne.2 hT.2
              rw [hd] at hE
              have HE := Aside0.mk (edW_step HVj.out.1 hE hk)
              generalize b.getD j 0 = k at q0 HE
              clear hd hk hT hE HEj
              go_wp2_with fail
              refine HWa.out.mono ?_
              rintro e w6 ⟨rfl, hL, hb⟩
              have HLv := Aside0.mk (Leave_X k (HLj.out.below hb) (by have := HVj.out.2; omega))
              have HR6 := Aside0.mk (HRj.out.below hb)
              have q0' := cell_be q0 hb
              clear hL hb HWa HLj HRj HKj q0
              go_wp2_with fail
              refine HLv.out.mono ?_
              rintro e w7 ⟨A9, c9, rfl, _, _, hL, hG⟩
              have HL7 := Aside0.mk hL
              have HR7 := Aside0.mk (HR6.out.grew hG (fun k hk h => h.2 hk))
              have HV7 := Aside0.mk (show Inv (leaveIn hs qs k).2.1 (leaveIn hs qs k).2.2 ∧ (leaveIn hs qs k).2.1.length + (leaveIn hs qs k).2.2.length ≤ 300 from by
                obtain ⟨_, _, _, _, h3, _⟩ := leave_spec HVj.out.1 k
                have h4 := leave_len HVj.out.1 k
                have h5 := HVj.out.2
                have h6 := fl_len hs k
                have h7 := fl_len qs k
                exact ⟨h3, by omega⟩)
              clear hL hG HLv HR6 q0'
              go_wp2
              go_roundg (b.length - (j + 1))
              case measure => omega
              case rel => exact ⟨j + 1, _, _, by omega, by omega, by go_num, HL7, HV7, HR7, HE⟩
            · have hT := edG_told HVj.out.1 hE
              rw [hT.1] at HWa
              have HFt := Aside0.mk (edG_fits HVj.out.1 hE hk)
              have HE := Aside0.mk hE
              generalize b.getD j 0 = k at q0 HFt
              clear hd hk hT hE HEj
              go_wp2_with fail
              refine HWa.out.mono ?_
              rintro e w6 ⟨rfl, hL, hb⟩
              have HHo := Aside0.mk (Holds_L k hL)
              have HL6 := Aside0.mk (HLj.out.below hb)
              have HR6 := Aside0.mk (HRj.out.below hb)
              have q0' := cell_be q0 hb
              clear hL hb HWa HLj HRj HKj q0
              go_wp2_with fail
              refine HHo.out.mono ?_
              rintro e w7 ⟨rfl, hL, hb⟩
              have HL7 := Aside0.mk (HL6.out.below hb)
              have HR7 := Aside0.mk (HR6.out.below hb)
              have hC := Fits_B t (toldIn hs k) w7
              rw [HFt.out] at hC
              have HC := Aside0.mk hC
              clear hL hb hC HHo HL6 HR6 q0'
              go_wp2_with fail
              refine HC.out.mono ?_
              rintro e w8 ⟨rfl, hb⟩
              have HL8 := Aside0.mk (HL7.out.below hb)
              have HR8 := Aside0.mk (HR7.out.below hb)
              clear hb HC HL7 HR7
              go_wp2
              go_roundg (b.length - (j + 1))
              case measure => omega
              case rel => exact ⟨j + 1, hs, qs, by omega, by omega, by go_num, HL8, HVj, HR8, ⟨.inr HE.out⟩⟩
          · have ej : j = b.length := by omega
            subst ej
            have hE : EdG who t hs qs := by
              rcases HEj.out with h | h
              · rw [List.drop_length] at h
                exact (edW_end HVj.out.1 h).elim
              · exact h
            have hT := edG_told HVj.out.1 hE
            clear hj hgg hlt hE HEj
            have hlt3 : ¬ b.length < b.length := Nat.lt_irrefl _
            have s1 : (t == t) = true := beq_self_eq_true t
            go_wp2_with fail
            refine (first_ w wr HLj.out.live.2.2).mono ?_
            rintro e w12 ⟨rfl, hb⟩
            have HWa := Aside0.mk (Waits_L who (HLj.out.live.below hb))
            rw [hT.1] at HWa
            clear hb HLj
            go_wp2_with fail
            refine HWa.out.mono ?_
            rintro e w13 ⟨rfl, hL, _⟩
            have HHo := Aside0.mk (Holds_L who hL)
            rw [hT.2] at HHo
            clear hL HWa
            go_wp2_with fail
            refine HHo.out.mono ?_
            rintro e w14 ⟨rfl, hL, _⟩
            have HL14 := Aside0.mk hL
            clear hL HHo
            go_wp2
            go_ret
            exact ⟨rfl, HL14.out.2.2⟩
theorem edges_walk (A : Option Addr) (c : Nat) (l : List Op3) (w : World) (hr : Kd.C kOp w A l.length l) (hc : l.length ≤ c) (hw : l.length ≤ maxLen) :
    Calls Try.prog 11 #[.slice A l.length c] w fun e w' => e = .returned (.bool true) ∧ Below w.heap.size w w' := by
  by_cases h : 300 < l.length
  · exact edges_long A c l w h
  · exact edges_in A c l w hr hc (by omega)
end Go.Proofs.Ytagdgkimjgomlaa.Ln
