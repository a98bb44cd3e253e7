/- A lane's Blocks. -/
import Derived.Test.YtagdgkimjgomlaaLn11
namespace Go.Proofs.Ytagdgkimjgomlaa.Ln
open Go.RowKit Go.Proofs.YtagdgkimjgomlaaW.PrintWords Go.Proofs.YtagdgkimjgomlaaW.PrintLast Go.Proofs.YtagdgkimjgomlaaW.PrintMore Go.Proofs.Ytagdgkimjgomlaa.PMd
open Go.Sort (grow)
set_option linter.unusedVariables false
set_option linter.unusedSimpArgs false
/-- Who of those that hold is in the way of x. -/
def inWay (who t : Int) (y : E) : Bool := !(y.f0 == who) && !fitsM y.f1 t
def blocksAt (hs qs : List E) (who : Int) (i : Nat) : List Int := (qs.take i).map (·.f0) ++ (hs.filter (inWay who (qs.getD i z67).f1)).map (·.f0)
def blocksIn (hs qs : List E) (who : Int) : List Int :=
  if ix (fun x => x.f0 == who) qs < 0 then [] else Lib.compact (sortedI (blocksAt hs qs who (ix (fun x => x.f0 == who) qs).toNat))
theorem Fits_B (a b : Int) (w : World) : Calls Try.prog 45 #[.int .i64 a, .int .i64 b] w fun e w' => e = .returned (.bool (fitsM a b)) ∧ Below w.heap.size w w' :=
  (Fits_ a b w).mono fun _ _ ⟨h1, h2⟩ => ⟨h1, by obtain ⟨n, rfl⟩ := h2.out; exact pw_below_drewN (Below.refl _ _) _⟩
theorem filter_step (hs : List E) (q : Nat) (P : E → Bool) (h : q < hs.length) : (hs.take (q + 1)).filter P = (hs.take q).filter P ++ (if P (hs.getD q z67) = true then [hs.getD q z67] else []) := by
  rw [List.take_add_one, get_getD h, List.filter_append]
  congr 1
  cases hp : P (hs.getD q z67) with
  | true => rw [if_pos rfl, Option.toList_some, List.filter_cons_of_pos hp, List.filter_nil]
  | false => rw [if_neg (by decide), Option.toList_some, List.filter_cons_of_neg (by rw [hp]; decide), List.filter_nil]
/-- Where a range stands: so many numbers in a row of the call's own. -/
def Out1 (w : World) (l : List Int) (v : Value) (wr : World) : Prop :=
  ∃ A' c', v = .slice A' l.length c' ∧ Row wr 3 1 A' l.length c' (ints l) ∧ (∀ k, blk A' k → w.heap.size ≤ k) ∧ Below w.heap.size w wr
def BlPost (w : World) (l : List Int) (e : Ending) (w' : World) : Prop :=
  ∃ A' c', e = .returned (.slice A' l.length c') ∧ Row w' 3 1 A' l.length c' (ints l) ∧ (∀ k, blk A' k → w.heap.size ≤ k) ∧ Below w.heap.size w w'
set_option maxHeartbeats 8000000 in
set_option maxRecDepth 100000 in
theorem Blocks_none (w : World) (b : Nat) (F : Nat → Prop) (hs qs : List E) (who : Int) (hI : IsLane w b F hs qs) (hx : ix (fun x => x.f0 == who) qs < 0) :
    Calls Try.prog 53 #[.pointer (some ⟨b, 0, none⟩), .int .i64 who] w (BlPost w (blocksIn hs qs who)) := by
  have hu := Try.underlying105
  obtain ⟨hA, hc, qA, qc, c0, c1, l0, l1, r0, r1⟩ := hI.open_
  have HR := Aside0.mk (show blocksIn hs qs who = [] from if_pos hx)
  have HO := Aside0.mk (of_ qA qc qs who w r1 l1)
  have p1 : decide (ix (fun x => x.f0 == who) qs < 0) = true := decide_eq_true hx
  generalize ix (fun x => x.f0 == who) qs = i at HO p1
  clear hI r0 r1 l0 l1 c0 hx
  go_enter Try.func53, Try.ntmps53
  go_wp2_with fail
  refine HO.out.mono ?_
  rintro e w3 ⟨rfl, hb⟩
  have HB := Aside0.mk hb
  clear hb
  go_wp2
  go_ret
  unfold BlPost
  rw [HR.out]
  exact ⟨none, 0, rfl, Row.zero _ _ _, fun k h => (blk_none h).elim, HB.out⟩
set_option maxHeartbeats 8000000 in
set_option maxRecDepth 100000 in
theorem Blocks_some (w : World) (b : Nat) (F : Nat → Prop) (hs qs : List E) (who : Int) (hI : IsLane w b F hs qs) (i : Nat) (hx : ix (fun x => x.f0 == who) qs = i) (hl : hs.length ≤ 400000) (hl2 : qs.length ≤ 400000) :
    Calls Try.prog 53 #[.pointer (some ⟨b, 0, none⟩), .int .i64 who] w (BlPost w (blocksIn hs qs who)) := by
  have hu := Try.underlying105
  have hu67 := Try.underlying67
  obtain ⟨hil, _, _⟩ := ix_hit' hx
  have HI := Aside0.mk hI
  obtain ⟨hA, hc, qA, qc, c0, c1, l0, l1, r0, r1⟩ := hI.open_
  have HR := Aside0.mk (show blocksIn hs qs who = Lib.compact (sortedI (blocksAt hs qs who i)) from by unfold blocksIn; rw [hx, if_neg (by omega)]; rfl)
  have HO := Aside0.mk (of_ qA qc qs who w r1 l1)
  rw [hx] at HO
  have p1 : decide ((i : Int) < 0) = false := decide_eq_false (by omega)
  have p2 : 0 ≤ (i : Int) := by omega
  have p3 : (i : Int) ≤ qc := by omega
  have hl1 : qs.length ≤ 400000 := hl2
  have hl0 : hs.length ≤ 400000 := hl
  have HIL := Aside0.mk hil
  have R1 := Aside0.mk r1
  have R0 := Aside0.mk r0
  clear hI r0 r1 l0 hx hl hl2
  go_enter Try.func53, Try.ntmps53
  go_wp2_with fail
  refine HO.out.mono ?_
  rintro e w3 ⟨rfl, hb⟩
  have HB := Aside0.mk hb
  have C0 := Aside0.mk c0
  have C1 := Aside0.mk c1
  have d0 := cell_be c0 hb
  have d1 := cell_be c1 hb
  clear hb c0 c1
  go_wp2_with fail
  go_loopg [6, 26] i (fun gg v6 v26 wr => ∃ j : Nat, j ≤ i ∧ i - j ≤ gg ∧ v26 = .int .i64 j ∧ Aside0 (Out1 w ((qs.take j).map (·.f0)) v6 wr))
  case atStart => exact ⟨0, by omega, by omega, rfl, ⟨none, 0, rfl, Row.zero _ _ _, fun k h => (blk_none h).elim, HB.out⟩⟩
  case round =>
    obtain ⟨j, hj, hgg, rfl, HO1⟩ := hrel
    obtain ⟨A', c', rfl, hR1, hk1, hb1⟩ := HO1.out
    clear HO1
    by_cases hlt : j < i
    · have t1 : (j : Int) < i := by omega
      have t2 : 0 ≤ (j : Int) := by omega
      obtain ⟨ad, rfl, q0, q1⟩ := at_T67 (Kd.C_below R1.out hb1) (j : Int) (by omega) (by have := HIL.out; omega)
      have hrd : rd_T67 qs j = qs.getD j z67 := by simp [rd_T67]
      simp only [Int.toNat_natCast, hrd] at q0 q1
      clear hrd
      have HE := Aside0.mk (show (qs.take (j + 1)).map (·.f0) = (qs.take j).map (·.f0) ++ [(qs.getD j z67).f0] from by
        rw [List.take_add_one, get_getD (by have := HIL.out; omega), List.map_append]; rfl)
      have HLE := Aside0.mk (show ((qs.take j).map (·.f0)).length = j from by rw [List.length_map, List.length_take]; have := HIL.out; omega)
      rw [HLE.out] at hR1
      rw [HLE.out]
      generalize (qs.take j).map (·.f0) = L at hR1 HE HLE
      generalize qs.getD j z67 = y at q0 q1 HE
      have bx := blk_new wr (.cells #[.int .i64 y.f0, .int .i64 y.f1] 67)
      have bx0 : (wr.alloc (.cells #[.int .i64 y.f0, .int .i64 y.f1] 67)).cell? ⟨wr.heap.size, 0, none⟩ = some (.int .i64 y.f0) := (blk_cell bx 0).trans rfl
      have HR1 := Aside0.mk ((hR1.alloc (.cells #[.int .i64 y.f0, .int .i64 y.f1] 67)).alloc (.cells #[.int .i64 y.f0] 3))
      have HK1 := Aside0.mk hk1
      have HB1 := Aside0.mk hb1
      have HB1a := Aside0.mk (below_alloc (below_alloc hb1 (.cells #[.int .i64 y.f0, .int .i64 y.f1] 67)) (.cells #[.int .i64 y.f0] 3))
      have bs := blk_new (wr.alloc (.cells #[.int .i64 y.f0, .int .i64 y.f1] 67)) (.cells #[.int .i64 y.f0] 3)
      rw [show (wr.alloc (.cells #[.int .i64 y.f0, .int .i64 y.f1] 67)).heap.size = wr.heap.size + 1 from by simp] at bs
      have BS := Aside0.mk bs
      clear bx hR1 hk1 hb1 bs
      go_wp2_with (at_builtin; refine wpList_append_info rfl _ _ 53 rfl 3 _ 1 8 Try.underlying53 info3 rfl A' j c' (ints L) (by simp [Act.eval, Act.put]) HR1.out ⟨wr.heap.size + 1, 0, none⟩ 1 1 [.int .i64 y.f0] (by simp [Act.eval, Act.put]) rfl (one_at BS.out) (one_one _) (by have := HIL.out; unfold maxLen; omega) (by have := HIL.out; omega) ?_)
      intro A2 c2 w6 hR6 hG6 hk6
      have HR6 := Aside0.mk hR6
      have HB6 := Aside0.mk (hG6.to_below HB1a.out (by have := HB1a.out.size; omega) (fun k h => HK1.out k h))
      have HK6 := Aside0.mk (show ∀ k, blk A2 k → w.heap.size ≤ k from fun k h => (hk6 k h).elim (HK1.out k) (fun h2 => by have h3 := HB1.out.size; have h4 : wr.heap.size + 1 + 1 ≤ k := (by simpa using h2); omega))
      clear hR6 hG6 hk6 bx0 q0 q1
      go_wp2
      go_roundg (i - (j + 1))
      case measure => omega
      case rel =>
        refine ⟨j + 1, by omega, by omega, by go_num, ⟨?_⟩⟩
        have e1 : ints L ++ [.int .i64 y.f0] = ints (L ++ [y.f0]) := by simp [ints]
        have e2 : (L ++ [y.f0]).length = j + 1 := by simp [HLE.out]
        rw [HE.out]
        unfold Out1
        rw [e2]
        exact ⟨A2, c2, rfl, by rw [← e1]; exact HR6.out, HK6.out, HB6.out⟩
    · have ej : j = i := by omega
      subst ej
      have HLE := Aside0.mk (show ((qs.take j).map (·.f0)).length = j from by rw [List.length_map, List.length_take]; have := HIL.out; omega)
      have z0 := cell_be C0.out hb1
      have z1 := cell_be C1.out hb1
      have HBASE := Aside0.mk (show blocksAt hs qs who j = (qs.take j).map (·.f0) ++ (hs.filter (inWay who (qs.getD j z67).f1)).map (·.f0) from rfl)
      have HGQ := Aside0.mk (Kd.C_below R1.out hb1)
      generalize (qs.take j).map (·.f0) = L at hR1 HLE HBASE
      obtain ⟨T, hT⟩ : ∃ T, T = (qs.getD j z67).f1 := ⟨_, rfl⟩
      rw [← hT] at HBASE
      have HT := Aside0.mk hT
      clear hT
      have HR1 := Aside0.mk hR1
      have HK1 := Aside0.mk hk1
      have HB1 := Aside0.mk hb1
      have t1 : ¬ j < j := Nat.lt_irrefl _
      clear hR1 hk1 hb1 d0 d1 hlt hgg hj
      go_wp2_with fail
      clear z0 z1
      go_loopg [6, 41] hs.length (fun gg v6 v41 wr => ∃ q : Nat, q ≤ hs.length ∧ hs.length - q ≤ gg ∧ v41 = .int .i64 q ∧ Aside0 (Out1 w (L ++ ((hs.take q).filter (inWay who T)).map (·.f0)) v6 wr))
      case atStart => exact ⟨0, by omega, by omega, rfl, ⟨A', c', by simp [HLE.out], by simpa using HR1.out, HK1.out, HB1.out⟩⟩
      case round =>
        clear HR1 HK1 HB1 HGQ
        obtain ⟨q, hq, hgg, rfl, HO1⟩ := hrel
        obtain ⟨A2, c2, rfl, hR1, hk1, hb1⟩ := HO1.out
        clear HO1
        by_cases hlt : q < hs.length
        · have t3 : (q : Int) < hs.length := by omega
          have t4 : 0 ≤ (q : Int) := by omega
          obtain ⟨adh, rfl, q0, q1⟩ := at_T67 (Kd.C_below R0.out hb1) (q : Int) (by omega) (by omega)
          have hrd : rd_T67 hs q = hs.getD q z67 := by simp [rd_T67]
          simp only [Int.toNat_natCast, hrd] at q0 q1
          clear hrd
          have s1 := cell_al (cell_be C1.out hb1) (.cells #[.int .i64 (hs.getD q z67).f0, .int .i64 (hs.getD q z67).f1] 67)
          obtain ⟨adq, rfl, e0, e1⟩ := at_T67 (Kd.C_alloc (Kd.C_below R1.out hb1) (.cells #[.int .i64 (hs.getD q z67).f0, .int .i64 (hs.getD q z67).f1] 67)) (j : Int) (by omega) (by have := HIL.out; omega)
          have hrd : rd_T67 qs j = qs.getD j z67 := by simp [rd_T67]
          simp only [Int.toNat_natCast, hrd, ← HT.out] at e0 e1
          clear hrd e0
          have HF := Aside0.mk (filter_step hs q (inWay who T) hlt)
          have HOL := Aside0.mk (show (L ++ ((hs.take q).filter (inWay who T)).map (·.f0)).length ≤ 800000 from by
            have h1 := List.length_filter_le (inWay who T) (hs.take q)
            rw [List.length_take] at h1
            rw [List.length_append, HLE.out, List.length_map]
            have := HIL.out
            omega)
          generalize hs.getD q z67 = y at q0 q1 e1 s1 HF
          generalize hOL : L ++ ((hs.take q).filter (inWay who T)).map (·.f0) = O at hR1 HOL ⊢
          have HOE := Aside0.mk hOL
          clear hOL
          have bx := blk_new wr (.cells #[.int .i64 y.f0, .int .i64 y.f1] 67)
          have bx0 : (wr.alloc (.cells #[.int .i64 y.f0, .int .i64 y.f1] 67)).cell? ⟨wr.heap.size, 0, none⟩ = some (.int .i64 y.f0) := (blk_cell bx 0).trans rfl
          have bx1 : (wr.alloc (.cells #[.int .i64 y.f0, .int .i64 y.f1] 67)).cell? ⟨wr.heap.size, 1, none⟩ = some (.int .i64 y.f1) := (blk_cell bx 1).trans rfl
          have g0 := fun d os => cell_gr bx0 d os
          have g1 := fun d os => cell_gr bx1 d os
          have gs := fun d os => cell_gr s1 d os
          have ge := fun d os => cell_gr e1 d os
          have mixed : Try.prog.follows Departure.mixedOrders = true := by kernel_rfl
          have u1 : (j : Int) < qs.length := by have := HIL.out; omega
          have HX0 := Aside0.mk bx0
          have HR1 := Aside0.mk (hR1.alloc (.cells #[.int .i64 y.f0, .int .i64 y.f1] 67))
          have HK1 := Aside0.mk hk1
          have HB1 := Aside0.mk (below_alloc hb1 (.cells #[.int .i64 y.f0, .int .i64 y.f1] 67))
          clear bx hR1 hk1 hb1 s1 e1
          by_cases hw : y.f0 = who
          · have w1 : (y.f0 != who) = false := bne_eq_false_iff_eq.2 hw
            have HP := Aside0.mk (show inWay who T y = false from by unfold inWay; rw [beq_iff_eq.2 hw]; rfl)
            clear hw
            go_wp2_with fail
            refine wp_region_gr mixed (by kernel_rfl) ?_
            repeat (go_big_quiet_step (fail))
            refine wpQuiet_nil ?_
            intro _ hw'
            obtain ⟨⟨d, os⟩, rfl⟩ := hw'
            have hgr := below_gr (wr.alloc (.cells #[.int .i64 y.f0, .int .i64 y.f1] 67)) d os
            have HR2 := Aside0.mk (HR1.out.below hgr)
            have HB2 := Aside0.mk (below_then HB1.out HB1.out.size hgr)
            generalize grow (wat (wr.alloc (.cells #[.int .i64 y.f0, .int .i64 y.f1] 67)) d) os = w2 at HR2 HB2 ⊢
            clear g0 g1 gs ge bx0 bx1 hgr q0 q1
            go_wp2
            go_roundg (hs.length - (q + 1))
            case measure => omega
            case rel =>
              refine ⟨q + 1, by omega, by omega, by go_num, ⟨?_⟩⟩
              rw [HF.out, HP.out, if_neg (by decide), List.append_nil, HOE.out]
              exact ⟨A2, c2, rfl, HR2.out, HK1.out, HB2.out⟩
          · have w1 : (y.f0 != who) = true := bne_iff_ne.2 hw
            have HFT := Aside0.mk (fun w => Fits_B y.f1 T w)
            cases hf : fitsM y.f1 T with
            | true =>
              rw [hf] at HFT
              have HP := Aside0.mk (show inWay who T y = false from by unfold inWay; rw [hf]; simp)
              clear hw hf
              go_wp2_with fail
              refine wp_region_gr mixed (by kernel_rfl) ?_
              repeat (go_big_quiet_step (exact Calls.gr_of (HFT.out _)))
              refine wpQuiet_nil ?_
              intro _ hw'
              obtain ⟨⟨d, os⟩, rfl⟩ := hw'
              have hgr := below_gr (wr.alloc (.cells #[.int .i64 y.f0, .int .i64 y.f1] 67)) d os
              have HR2 := Aside0.mk (HR1.out.below hgr)
              have HB2 := Aside0.mk (below_then HB1.out HB1.out.size hgr)
              generalize grow (wat (wr.alloc (.cells #[.int .i64 y.f0, .int .i64 y.f1] 67)) d) os = w2 at HR2 HB2 ⊢
              clear g0 g1 gs ge bx0 bx1 hgr q0 q1
              go_wp2
              go_roundg (hs.length - (q + 1))
              case measure => omega
              case rel =>
                refine ⟨q + 1, by omega, by omega, by go_num, ⟨?_⟩⟩
                rw [HF.out, HP.out, if_neg (by decide), List.append_nil, HOE.out]
                exact ⟨A2, c2, rfl, HR2.out, HK1.out, HB2.out⟩
            | false =>
              rw [hf] at HFT
              have HP := Aside0.mk (show inWay who T y = true from by unfold inWay; rw [hf, beq_eq_false_iff_ne.2 hw]; rfl)
              clear hw hf
              go_wp2_with fail
              refine wp_region_gr mixed (by kernel_rfl) ?_
              repeat (go_big_quiet_step (exact Calls.gr_of (HFT.out _)))
              refine wpQuiet_nil ?_
              intro _ hw'
              obtain ⟨⟨d, os⟩, rfl⟩ := hw'
              have hgr := below_gr (wr.alloc (.cells #[.int .i64 y.f0, .int .i64 y.f1] 67)) d os
              have x0 := cell_be HX0.out hgr
              have HR2 := Aside0.mk (HR1.out.below hgr)
              have HB2 := Aside0.mk (below_then HB1.out HB1.out.size hgr)
              generalize grow (wat (wr.alloc (.cells #[.int .i64 y.f0, .int .i64 y.f1] 67)) d) os = w2 at x0 HR2 HB2 ⊢
              clear g0 g1 gs ge bx0 bx1 hgr q0 q1
              have bs := blk_new w2 (.cells #[.int .i64 y.f0] 3)
              have BS := Aside0.mk bs
              clear bs
              go_wp2_with (at_builtin; refine wpList_append_info rfl _ _ 53 rfl 3 _ 1 8 Try.underlying53 info3 rfl A2 O.length c2 (ints O) (by simp [Act.eval, Act.put]) (HR2.out.alloc _) ⟨w2.heap.size, 0, none⟩ 1 1 [.int .i64 y.f0] (by simp [Act.eval, Act.put]) rfl (one_at BS.out) (one_one _) (by have := HOL.out; unfold maxLen; omega) (by have := HOL.out; omega) ?_)
              intro A3 c3 w6 hR6 hG6 hk6
              have HR6 := Aside0.mk hR6
              have HB6 := Aside0.mk (hG6.to_below (below_alloc HB2.out _) (by have := HB2.out.size; simp; omega) (fun k h => HK1.out k h))
              have HK6 := Aside0.mk (show ∀ k, blk A3 k → w.heap.size ≤ k from fun k h => (hk6 k h).elim (HK1.out k) (fun h2 => by have h3 := HB2.out.size; have h4 : w2.heap.size + 1 ≤ k := (by simpa using h2); omega))
              clear hR6 hG6 hk6 x0
              go_wp2
              go_roundg (hs.length - (q + 1))
              case measure => omega
              case rel =>
                refine ⟨q + 1, by omega, by omega, by go_num, ⟨?_⟩⟩
                rw [HF.out, HP.out, List.map_append, ← List.append_assoc, HOE.out]
                have e1 : ints O ++ [.int .i64 y.f0] = ints (O ++ [y.f0]) := by simp [ints]
                unfold Out1
                rw [if_pos rfl, show O ++ List.map (·.f0) [y] = O ++ [y.f0] from rfl, show (O ++ [y.f0]).length = O.length + 1 from by simp]
                exact ⟨A3, c3, rfl, by rw [← e1]; exact HR6.out, HK6.out, HB6.out⟩
        · have eq : q = hs.length := by omega
          subst eq
          rw [List.take_length, ← HBASE.out] at hR1
          rw [List.take_length, ← HBASE.out]
          have hbl : (blocksAt hs qs who j).length ≤ 800000 := by
            have h1 := List.length_filter_le (inWay who T) hs
            rw [HBASE.out, List.length_append, HLE.out, List.length_map]
            have := HIL.out
            omega
          have hso : (sortedI (blocksAt hs qs who j)).length = (blocksAt hs qs who j).length := by unfold sortedI; exact List.length_mergeSort ..
          generalize blocksAt hs qs who j = O at hR1 hbl hso HR ⊢
          have HS := Aside0.mk (Sort_ A2 c2 O wr hR1 (by omega))
          have HSO := Aside0.mk hso
          have HBL := Aside0.mk hbl
          have HK1 := Aside0.mk hk1
          have HB1 := Aside0.mk hb1
          have hlt2 : ¬ hs.length < hs.length := Nat.lt_irrefl _
          clear hR1 hk1 hb1 hso hbl hlt
          go_wp2_with fail
          refine HS.out.mono ?_
          rintro e w5 ⟨rfl, hR5, hG5⟩
          have HC := Aside0.mk (Compact_ A2 c2 (sortedI O) w5 (by rw [HSO.out]; exact hR5) (by rw [HSO.out]; have := HBL.out; omega))
          rw [HSO.out] at HC
          have HB5 := Aside0.mk (hG5.to_below HB1.out HB1.out.size HK1.out)
          clear hR5 hG5
          go_wp2_with fail
          refine HC.out.mono ?_
          rintro e w6 ⟨rfl, hR6, hG6⟩
          have HR6 := Aside0.mk hR6
          have HB6 := Aside0.mk (hG6.to_below HB5.out HB5.out.size HK1.out)
          clear hR6 hG6
          go_wp2
          go_ret
          unfold BlPost
          rw [HR.out]
          exact ⟨A2, c2, rfl, HR6.out, HK1.out, HB6.out⟩
theorem Blocks_ (w : World) (b : Nat) (F : Nat → Prop) (hs qs : List E) (who : Int) (hI : IsLane w b F hs qs) (hl : hs.length ≤ 400000) (hl2 : qs.length ≤ 400000) :
    Calls Try.prog 53 #[.pointer (some ⟨b, 0, none⟩), .int .i64 who] w (BlPost w (blocksIn hs qs who)) := by
  by_cases h : ix (fun x => x.f0 == who) qs < 0
  · exact Blocks_none w b F hs qs who hI h
  · exact Blocks_some w b F hs qs who hI (ix (fun x => x.f0 == who) qs).toNat (Int.toNat_of_nonneg (by omega)).symm hl hl2
end Go.Proofs.Ytagdgkimjgomlaa.Ln
