import Derived.Test.YtaaekmcmpjljgaaGreatLB
import Derived.Test.YtaaekmcmpjljgaaGreatLnSortI
import Derived.Shelf.Slices.In.SortNone
import Derived.Test.YtaaekmcmpjljgaaGreatLA
namespace Go.Proofs.YtaaekmcmpjljgaaGreat.Ln
open Go.RowKit Go.Proofs.YtaaekmcmpjljgaaGreatW.PrintWords Go.Proofs.YtaaekmcmpjljgaaGreatW.PrintLast Go.Proofs.YtaaekmcmpjljgaaGreatW.PrintMore Go.Proofs.YtaaekmcmpjljgaaGreat.PMd
open Go.Sort (putRow putCells mapBlock onCells grow Holds)
set_option linter.unusedVariables false
set_option linter.unusedSimpArgs false
theorem putRow_ints (w : World) (g off : Nat) (d : Array Int) : putRow (Value.int .i64) w g off d = putRow id w g off (ints d.toList).toArray := by
  unfold putRow
  congr 1
  funext c
  unfold putCells
  congr 1
  funext k x
  simp only [List.size_toArray, ints, List.length_map, Array.length_toList]
  by_cases h : off ≤ k ∧ k < off + d.size
  · rw [if_pos h, if_pos h, getElem!_pos d (k - off) (by omega), getElem!_pos _ (k - off) (by simp; omega)]
    simp
  · rw [if_neg h, if_neg h]
theorem holds_ints {w : World} {g off n cap : Nat} {l : List Int} (h : Row w 3 1 (some ⟨g, off, none⟩) n cap (ints l)) (hn : l.length = n) : Holds (Value.int .i64) w g off l.toArray := by
  intro j hj
  have hj' : j < l.length := by simpa using hj
  obtain ⟨g', off', cur, e, _, _, hc⟩ := h.at_ (by omega)
  cases e
  have := hc j (.int .i64 (l.toArray[j]!)) (by
    rw [getElem!_pos _ j hj]
    simp [ints, List.getElem?_map, List.getElem?_eq_getElem hj'])
  exact this
theorem ints_len (l : List Int) : (ints l).length = l.length := by simp [ints]
def sortedI (l : List Int) : List Int := l.mergeSort fun x y => decide (x ≤ y)
theorem Sort_ (A : Option Addr) (cap : Nat) (l : List Int) (w : World) (hR : Row w 3 1 A l.length cap (ints l)) (hl : l.length ≤ 1000000) :
    Calls Tryz.prog 77 #[.slice A l.length cap] w fun e w' => e = .returned (.tuple #[]) ∧ Row w' 3 1 A l.length cap (ints (sortedI l)) ∧ Grew (blk A) w w' := by
  by_cases h0 : l.length = 0
  · obtain rfl : l = [] := List.eq_nil_of_length_eq_zero h0
    exact (Any.slices_Sort_int_none sortI A cap w).mono fun e w' ⟨h1, h2⟩ => ⟨h1, by rw [h2, show sortedI [] = [] from by simp [sortedI]]; exact hR, by rw [h2]; exact Grew.refl _ _⟩
  · obtain ⟨g, off, cur, rfl, hg, _, _⟩ := hR.at_ (by omega)
    refine (Any.slices_Sort_int sortI g off cap l w (holds_ints hR rfl) (Array.getElem?_eq_some_iff.1 hg).1 (by omega)).mono ?_
    rintro e w' ⟨he, n, os, rfl⟩
    refine ⟨he, ?_, ?_⟩
    · rw [putRow_ints]
      exact hR.putRow n _ (by simp [ints_len]) os
    · rw [putRow_ints]
      exact (Grew.putRow w g off n _ os).mono (fun i _ h => ⟨_, rfl, h.symm⟩)
theorem compact_le (l : List Int) : (Lib.compact l).length ≤ l.length := by
  unfold Lib.compact Lib.compactUpTo
  rw [List.length_map]
  exact Nat.le_trans (List.length_filter_le _ _) (by simp)
theorem Compact_ (A : Option Addr) (cap : Nat) (l : List Int) (w : World) (hR : Row w 3 1 A l.length cap (ints l)) (hl : l.length ≤ 1000000) :
    Calls Tryz.prog 110 #[.slice A l.length cap] w fun e w' => e = .returned (.slice A (Lib.compact l).length cap) ∧ Row w' 3 1 A (Lib.compact l).length cap (ints (Lib.compact l)) ∧ Grew (blk A) w w' := by
  by_cases h0 : l.length = 0
  · obtain rfl : l = [] := List.eq_nil_of_length_eq_zero h0
    exact (Any.slices_Compact_int_empty compI A cap w).mono fun e w' ⟨h1, h2⟩ => ⟨h1, by rw [h2]; exact hR, by rw [h2]; exact Grew.refl _ _⟩
  · obtain ⟨g, off, cur, rfl, hg, _, _⟩ := hR.at_ (by omega)
    refine (Any.slices_Compact_int compI g off cap l w (holds_ints hR rfl) (by omega) hR.2.1).mono ?_
    rintro e w' ⟨he, n, rfl⟩
    have hlen := compact_le l
    have hsz : (ints (Lib.compact l ++ List.replicate (l.length - (Lib.compact l).length) 0)).length = l.length := by rw [ints_len]; simp; omega
    have hr := hR.putRow n (ints (Lib.compact l ++ List.replicate (l.length - (Lib.compact l).length) 0)).toArray (by simpa using hsz) #[]
    rw [Go.Sort.grow_empty] at hr
    have hg2 := Grew.putRow w g off n (ints (Lib.compact l ++ List.replicate (l.length - (Lib.compact l).length) 0)).toArray #[]
    rw [Go.Sort.grow_empty] at hg2
    refine ⟨he, ?_, ?_⟩
    · rw [putRow_ints]
      have h3 := hr.upto (Lib.compact l).length hlen
      have e3 : (ints (Lib.compact l ++ List.replicate (l.length - (Lib.compact l).length) 0)).take ((Lib.compact l).length * 1) = ints (Lib.compact l) := by
        simp [ints, List.take_left' (List.length_map ..)]
      rw [← e3]
      exact h3
    · rw [putRow_ints]
      exact hg2.mono (fun i _ h => ⟨_, rfl, h.symm⟩)
end Go.Proofs.YtaaekmcmpjljgaaGreat.Ln
namespace Go.Proofs.YtaaekmcmpjljgaaGreat.Ln
open Go.RowKit Go.Proofs.YtaaekmcmpjljgaaGreatW.PrintWords Go.Proofs.YtaaekmcmpjljgaaGreatW.PrintLast Go.Proofs.YtaaekmcmpjljgaaGreatW.PrintMore Go.Proofs.YtaaekmcmpjljgaaGreat.PMd
open Go.Sort (grow)
set_option linter.unusedVariables false
set_option linter.unusedSimpArgs false
def inWay (who t : Int) (y : E) : Bool := !(y.f0 == who) && !fitsM y.f1 t
def blocksAt (hs qs : List E) (who : Int) (i : Nat) : List Int := (qs.take i).map (·.f0) ++ (hs.filter (inWay who (qs.getD i z113).f1)).map (·.f0)
def blocksIn (hs qs : List E) (who : Int) : List Int :=
  if ix (fun x => x.f0 == who) qs < 0 then [] else Lib.compact (sortedI (blocksAt hs qs who (ix (fun x => x.f0 == who) qs).toNat))
theorem Fits_B (a b : Int) (w : World) : Calls Tryz.prog 90 #[.int .i64 a, .int .i64 b] w fun e w' => e = .returned (.bool (fitsM a b)) ∧ Below w.heap.size w w' :=
  (Fits_ a b w).mono fun _ _ ⟨h1, h2⟩ => ⟨h1, by obtain ⟨n, rfl⟩ := h2.out; exact pw_below_drewN (Below.refl _ _) _⟩
theorem filter_step (hs : List E) (q : Nat) (P : E → Bool) (h : q < hs.length) : (hs.take (q + 1)).filter P = (hs.take q).filter P ++ (if P (hs.getD q z113) = true then [hs.getD q z113] else []) := by
  rw [List.take_add_one, get_getD h, List.filter_append]
  congr 1
  cases hp : P (hs.getD q z113) with
  | true => rw [if_pos rfl, Option.toList_some, List.filter_cons_of_pos hp, List.filter_nil]
  | false => rw [if_neg (by decide), Option.toList_some, List.filter_cons_of_neg (by rw [hp]; decide), List.filter_nil]
def Out1 (w : World) (l : List Int) (v : Value) (wr : World) : Prop :=
  ∃ A' c', v = .slice A' l.length c' ∧ Row wr 3 1 A' l.length c' (ints l) ∧ (∀ k, blk A' k → w.heap.size ≤ k) ∧ Below w.heap.size w wr
def BlPost (w : World) (l : List Int) (e : Ending) (w' : World) : Prop :=
  ∃ A' c', e = .returned (.slice A' l.length c') ∧ Row w' 3 1 A' l.length c' (ints l) ∧ (∀ k, blk A' k → w.heap.size ≤ k) ∧ Below w.heap.size w w'
set_option maxHeartbeats 8000000 in
set_option maxRecDepth 100000 in
theorem Blocks_none (w : World) (b : Nat) (F : Nat → Prop) (hs qs : List E) (who : Int) (hI : IsLane w b F hs qs) (hx : ix (fun x => x.f0 == who) qs < 0) :
    Calls Tryz.prog 78 #[.pointer (some ⟨b, 0, none⟩), .int .i64 who] w (BlPost w (blocksIn hs qs who)) := by
  have hu := Tryz.underlying116
  obtain ⟨hA, hc, qA, qc, c0, c1, l0, l1, r0, r1⟩ := hI.open_
  have HR := Aside0.mk (show blocksIn hs qs who = [] from if_pos hx)
  have HO := Aside0.mk (of_ qA qc qs who w r1 l1)
  have p1 : decide (ix (fun x => x.f0 == who) qs < 0) = true := decide_eq_true hx
  generalize ix (fun x => x.f0 == who) qs = i at HO p1
  clear hI r0 r1 l0 l1 c0 hx
  go_enter Tryz.func78, Tryz.ntmps78
  go_wp2_with fail
  refine HO.out.mono ?_
  rintro e w3 ⟨rfl, hb⟩
  have HB := Aside0.mk hb
  clear hb
  go_wp2
  go_ret
  unfold BlPost
  rw [HR.out]
  exact ⟨none, 0, rfl, Row.zero _ _ _, fun k h => (blk_none h).elim, HB.out⟩
set_option maxHeartbeats 8000000 in
set_option maxRecDepth 100000 in
theorem Blocks_some (w : World) (b : Nat) (F : Nat → Prop) (hs qs : List E) (who : Int) (hI : IsLane w b F hs qs) (i : Nat) (hx : ix (fun x => x.f0 == who) qs = i) (hl : hs.length ≤ 400000) (hl2 : qs.length ≤ 400000) :
    Calls Tryz.prog 78 #[.pointer (some ⟨b, 0, none⟩), .int .i64 who] w (BlPost w (blocksIn hs qs who)) := by
  have hu := Tryz.underlying116
  have hu67 := Tryz.underlying113
  obtain ⟨hil, _, _⟩ := ix_hit' hx
  have HI := Aside0.mk hI
  obtain ⟨hA, hc, qA, qc, c0, c1, l0, l1, r0, r1⟩ := hI.open_
  have HR := Aside0.mk (show blocksIn hs qs who = Lib.compact (sortedI (blocksAt hs qs who i)) from by unfold blocksIn; rw [hx, if_neg (by omega)]; rfl)
  have HO := Aside0.mk (of_ qA qc qs who w r1 l1)
  rw [hx] at HO
  have p1 : decide ((i : Int) < 0) = false := decide_eq_false (by omega)
  have p2 : 0 ≤ (i : Int) := by omega
  have p3 : (i : Int) ≤ qc := by omega
  have hl1 : qs.length ≤ 400000 := hl2
  have hl0 : hs.length ≤ 400000 := hl
  have HIL := Aside0.mk hil
  have R1 := Aside0.mk r1
  have R0 := Aside0.mk r0
  clear hI r0 r1 l0 hx hl hl2
  go_enter Tryz.func78, Tryz.ntmps78
  go_wp2_with fail
  refine HO.out.mono ?_
  rintro e w3 ⟨rfl, hb⟩
  have HB := Aside0.mk hb
  have C0 := Aside0.mk c0
  have C1 := Aside0.mk c1
  have d0 := cell_be c0 hb
  have d1 := cell_be c1 hb
  clear hb c0 c1
  go_wp2_with fail
  go_loopg [6, 26] i (fun gg v6 v26 wr => ∃ j : Nat, j ≤ i ∧ i - j ≤ gg ∧ v26 = .int .i64 j ∧ Aside0 (Out1 w ((qs.take j).map (·.f0)) v6 wr))
  case atStart => exact ⟨0, by omega, by omega, rfl, ⟨none, 0, rfl, Row.zero _ _ _, fun k h => (blk_none h).elim, HB.out⟩⟩
  case round =>
    obtain ⟨j, hj, hgg, rfl, HO1⟩ := hrel
    obtain ⟨A', c', rfl, hR1, hk1, hb1⟩ := HO1.out
    clear HO1
    by_cases hlt : j < i
    · have t1 : (j : Int) < i := by omega
      have t2 : 0 ≤ (j : Int) := by omega
      obtain ⟨ad, rfl, q0, q1⟩ := at_T113 (Kd.C_below R1.out hb1) (j : Int) (by omega) (by have := HIL.out; omega)
      have hrd : rd_T113 qs j = qs.getD j z113 := by simp [rd_T113]
      simp only [Int.toNat_natCast, hrd] at q0 q1
      clear hrd
      have HE := Aside0.mk (show (qs.take (j + 1)).map (·.f0) = (qs.take j).map (·.f0) ++ [(qs.getD j z113).f0] from by
        rw [List.take_add_one, get_getD (by have := HIL.out; omega), List.map_append]; rfl)
      have HLE := Aside0.mk (show ((qs.take j).map (·.f0)).length = j from by rw [List.length_map, List.length_take]; have := HIL.out; omega)
      rw [HLE.out] at hR1
      rw [HLE.out]
      generalize (qs.take j).map (·.f0) = L at hR1 HE HLE
      generalize qs.getD j z113 = y at q0 q1 HE
      have bx := blk_new wr (.cells #[.int .i64 y.f0, .int .i64 y.f1] 113)
      have bx0 : (wr.alloc (.cells #[.int .i64 y.f0, .int .i64 y.f1] 113)).cell? ⟨wr.heap.size, 0, none⟩ = some (.int .i64 y.f0) := (blk_cell bx 0).trans rfl
      have HR1 := Aside0.mk ((hR1.alloc (.cells #[.int .i64 y.f0, .int .i64 y.f1] 113)).alloc (.cells #[.int .i64 y.f0] 3))
      have HK1 := Aside0.mk hk1
      have HB1 := Aside0.mk hb1
      have HB1a := Aside0.mk (below_alloc (below_alloc hb1 (.cells #[.int .i64 y.f0, .int .i64 y.f1] 113)) (.cells #[.int .i64 y.f0] 3))
      have bs := blk_new (wr.alloc (.cells #[.int .i64 y.f0, .int .i64 y.f1] 113)) (.cells #[.int .i64 y.f0] 3)
      rw [show (wr.alloc (.cells #[.int .i64 y.f0, .int .i64 y.f1] 113)).heap.size = wr.heap.size + 1 from by simp] at bs
      have BS := Aside0.mk bs
      clear bx hR1 hk1 hb1 bs
      go_wp2_with (at_builtin; refine wpList_append_info rfl _ _ 29 rfl 3 _ 1 8 Tryz.underlying29 info3 rfl A' j c' (ints L) (by simp [Act.eval, Act.put]) HR1.out ⟨wr.heap.size + 1, 0, none⟩ 1 1 [.int .i64 y.f0] (by simp [Act.eval, Act.put]) rfl (one_at BS.out) (one_one _) (by have := HIL.out; unfold maxLen; omega) (by have := HIL.out; omega) ?_)
      intro A2 c2 w6 hR6 hG6 hk6
      have HR6 := Aside0.mk hR6
      have HB6 := Aside0.mk (hG6.to_below HB1a.out (by have := HB1a.out.size; omega) (fun k h => HK1.out k h))
      have HK6 := Aside0.mk (show ∀ k, blk A2 k → w.heap.size ≤ k from fun k h => (hk6 k h).elim (HK1.out k) (fun h2 => by have h3 := HB1.out.size; have h4 : wr.heap.size + 1 + 1 ≤ k := (by simpa using h2); omega))
      clear hR6 hG6 hk6 bx0 q0 q1
      go_wp2
      go_roundg (i - (j + 1))
      case measure => omega
      case rel =>
        refine ⟨j + 1, by omega, by omega, by go_num, ⟨?_⟩⟩
        have e1 : ints L ++ [.int .i64 y.f0] = ints (L ++ [y.f0]) := by simp [ints]
        have e2 : (L ++ [y.f0]).length = j + 1 := by simp [HLE.out]
        rw [HE.out]
        unfold Out1
        rw [e2]
        exact ⟨A2, c2, rfl, by rw [← e1]; exact HR6.out, HK6.out, HB6.out⟩
    · have ej : j = i := by omega
      subst ej
      have HLE := Aside0.mk (show ((qs.take j).map (·.f0)).length = j from by rw [List.length_map, List.length_take]; have := HIL.out; omega)
      have z0 := cell_be C0.out hb1
      have z1 := cell_be C1.out hb1
      have HBASE := Aside0.mk (show blocksAt hs qs who j = (qs.take j).map (·.f0) ++ (hs.filter (inWay who (qs.getD j z113).f1)).map (·.f0) from rfl)
      have HGQ := Aside0.mk (Kd.C_below R1.out hb1)
      generalize (qs.take j).map (·.f0) = L at hR1 HLE HBASE
      obtain ⟨T, hT⟩ : ∃ T, T = (qs.getD j z113).f1 := ⟨_, rfl⟩
      rw [← hT] at HBASE
      have HT := Aside0.mk hT
      clear hT
      have HR1 := Aside0.mk hR1
      have HK1 := Aside0.mk hk1
      have HB1 := Aside0.mk hb1
      have t1 : ¬ j < j := Nat.lt_irrefl _
      clear hR1 hk1 hb1 d0 d1 hlt hgg hj
      go_wp2_with fail
      clear z0 z1
      go_loopg [6, 41] hs.length (fun gg v6 v41 wr => ∃ q : Nat, q ≤ hs.length ∧ hs.length - q ≤ gg ∧ v41 = .int .i64 q ∧ Aside0 (Out1 w (L ++ ((hs.take q).filter (inWay who T)).map (·.f0)) v6 wr))
      case atStart => exact ⟨0, by omega, by omega, rfl, ⟨A', c', by simp [HLE.out], by simpa using HR1.out, HK1.out, HB1.out⟩⟩
      case round =>
        clear HR1 HK1 HB1 HGQ
        obtain ⟨q, hq, hgg, rfl, HO1⟩ := hrel
        obtain ⟨A2, c2, rfl, hR1, hk1, hb1⟩ := HO1.out
        clear HO1
        by_cases hlt : q < hs.length
        · have t3 : (q : Int) < hs.length := by omega
          have t4 : 0 ≤ (q : Int) := by omega
          obtain ⟨adh, rfl, q0, q1⟩ := at_T113 (Kd.C_below R0.out hb1) (q : Int) (by omega) (by omega)
          have hrd : rd_T113 hs q = hs.getD q z113 := by simp [rd_T113]
          simp only [Int.toNat_natCast, hrd] at q0 q1
          clear hrd
          have s1 := cell_al (cell_be C1.out hb1) (.cells #[.int .i64 (hs.getD q z113).f0, .int .i64 (hs.getD q z113).f1] 113)
          obtain ⟨adq, rfl, e0, e1⟩ := at_T113 (Kd.C_alloc (Kd.C_below R1.out hb1) (.cells #[.int .i64 (hs.getD q z113).f0, .int .i64 (hs.getD q z113).f1] 113)) (j : Int) (by omega) (by have := HIL.out; omega)
          have hrd : rd_T113 qs j = qs.getD j z113 := by simp [rd_T113]
          simp only [Int.toNat_natCast, hrd, ← HT.out] at e0 e1
          clear hrd e0
          have HF := Aside0.mk (filter_step hs q (inWay who T) hlt)
          have HOL := Aside0.mk (show (L ++ ((hs.take q).filter (inWay who T)).map (·.f0)).length ≤ 800000 from by
            have h1 := List.length_filter_le (inWay who T) (hs.take q)
            rw [List.length_take] at h1
            rw [List.length_append, HLE.out, List.length_map]
            have := HIL.out
            omega)
          generalize hs.getD q z113 = y at q0 q1 e1 s1 HF
          generalize hOL : L ++ ((hs.take q).filter (inWay who T)).map (·.f0) = O at hR1 HOL ⊢
          have HOE := Aside0.mk hOL
          clear hOL
          have bx := blk_new wr (.cells #[.int .i64 y.f0, .int .i64 y.f1] 113)
          have bx0 : (wr.alloc (.cells #[.int .i64 y.f0, .int .i64 y.f1] 113)).cell? ⟨wr.heap.size, 0, none⟩ = some (.int .i64 y.f0) := (blk_cell bx 0).trans rfl
          have bx1 : (wr.alloc (.cells #[.int .i64 y.f0, .int .i64 y.f1] 113)).cell? ⟨wr.heap.size, 1, none⟩ = some (.int .i64 y.f1) := (blk_cell bx 1).trans rfl
          have g0 := fun d os => cell_gr bx0 d os
          have g1 := fun d os => cell_gr bx1 d os
          have gs := fun d os => cell_gr s1 d os
          have ge := fun d os => cell_gr e1 d os
          have mixed : Tryz.prog.follows Departure.mixedOrders = true := by kernel_rfl
          have u1 : (j : Int) < qs.length := by have := HIL.out; omega
          have HX0 := Aside0.mk bx0
          have HR1 := Aside0.mk (hR1.alloc (.cells #[.int .i64 y.f0, .int .i64 y.f1] 113))
          have HK1 := Aside0.mk hk1
          have HB1 := Aside0.mk (below_alloc hb1 (.cells #[.int .i64 y.f0, .int .i64 y.f1] 113))
          clear bx hR1 hk1 hb1 s1 e1
          by_cases hw : y.f0 = who
          · have w1 : (y.f0 != who) = false := bne_eq_false_iff_eq.2 hw
            have HP := Aside0.mk (show inWay who T y = false from by unfold inWay; rw [beq_iff_eq.2 hw]; rfl)
            clear hw
            go_wp2_with fail
            refine wp_region_gr mixed (by kernel_rfl) ?_
            repeat (go_big_quiet_step (fail))
            refine wpQuiet_nil ?_
            intro _ hw'
            obtain ⟨⟨d, os⟩, rfl⟩ := hw'
            have hgr := below_gr (wr.alloc (.cells #[.int .i64 y.f0, .int .i64 y.f1] 113)) d os
            have HR2 := Aside0.mk (HR1.out.below hgr)
            have HB2 := Aside0.mk (below_then HB1.out HB1.out.size hgr)
            generalize grow (wat (wr.alloc (.cells #[.int .i64 y.f0, .int .i64 y.f1] 113)) d) os = w2 at HR2 HB2 ⊢
            clear g0 g1 gs ge bx0 bx1 hgr q0 q1
            go_wp2
            go_roundg (hs.length - (q + 1))
            case measure => omega
            case rel =>
              refine ⟨q + 1, by omega, by omega, by go_num, ⟨?_⟩⟩
              rw [HF.out, HP.out, if_neg (by decide), List.append_nil, HOE.out]
              exact ⟨A2, c2, rfl, HR2.out, HK1.out, HB2.out⟩
          · have w1 : (y.f0 != who) = true := bne_iff_ne.2 hw
            have HFT := Aside0.mk (fun w => Fits_B y.f1 T w)
            cases hf : fitsM y.f1 T with
            | true =>
              rw [hf] at HFT
              have HP := Aside0.mk (show inWay who T y = false from by unfold inWay; rw [hf]; simp)
              clear hw hf
              go_wp2_with fail
              refine wp_region_gr mixed (by kernel_rfl) ?_
              repeat (go_big_quiet_step (exact Calls.gr_of (HFT.out _)))
              refine wpQuiet_nil ?_
              intro _ hw'
              obtain ⟨⟨d, os⟩, rfl⟩ := hw'
              have hgr := below_gr (wr.alloc (.cells #[.int .i64 y.f0, .int .i64 y.f1] 113)) d os
              have HR2 := Aside0.mk (HR1.out.below hgr)
              have HB2 := Aside0.mk (below_then HB1.out HB1.out.size hgr)
              generalize grow (wat (wr.alloc (.cells #[.int .i64 y.f0, .int .i64 y.f1] 113)) d) os = w2 at HR2 HB2 ⊢
              clear g0 g1 gs ge bx0 bx1 hgr q0 q1
              go_wp2
              go_roundg (hs.length - (q + 1))
              case measure => omega
              case rel =>
                refine ⟨q + 1, by omega, by omega, by go_num, ⟨?_⟩⟩
                rw [HF.out, HP.out, if_neg (by decide), List.append_nil, HOE.out]
                exact ⟨A2, c2, rfl, HR2.out, HK1.out, HB2.out⟩
            | false =>
              rw [hf] at HFT
              have HP := Aside0.mk (show inWay who T y = true from by unfold inWay; rw [hf, beq_eq_false_iff_ne.2 hw]; rfl)
              clear hw hf
              go_wp2_with fail
              refine wp_region_gr mixed (by kernel_rfl) ?_
              repeat (go_big_quiet_step (exact Calls.gr_of (HFT.out _)))
              refine wpQuiet_nil ?_
              intro _ hw'
              obtain ⟨⟨d, os⟩, rfl⟩ := hw'
              have hgr := below_gr (wr.alloc (.cells #[.int .i64 y.f0, .int .i64 y.f1] 113)) d os
              have x0 := cell_be HX0.out hgr
              have HR2 := Aside0.mk (HR1.out.below hgr)
              have HB2 := Aside0.mk (below_then HB1.out HB1.out.size hgr)
              generalize grow (wat (wr.alloc (.cells #[.int .i64 y.f0, .int .i64 y.f1] 113)) d) os = w2 at x0 HR2 HB2 ⊢
              clear g0 g1 gs ge bx0 bx1 hgr q0 q1
              have bs := blk_new w2 (.cells #[.int .i64 y.f0] 3)
              have BS := Aside0.mk bs
              clear bs
              go_wp2_with (at_builtin; refine wpList_append_info rfl _ _ 29 rfl 3 _ 1 8 Tryz.underlying29 info3 rfl A2 O.length c2 (ints O) (by simp [Act.eval, Act.put]) (HR2.out.alloc _) ⟨w2.heap.size, 0, none⟩ 1 1 [.int .i64 y.f0] (by simp [Act.eval, Act.put]) rfl (one_at BS.out) (one_one _) (by have := HOL.out; unfold maxLen; omega) (by have := HOL.out; omega) ?_)
              intro A3 c3 w6 hR6 hG6 hk6
              have HR6 := Aside0.mk hR6
              have HB6 := Aside0.mk (hG6.to_below (below_alloc HB2.out _) (by have := HB2.out.size; simp; omega) (fun k h => HK1.out k h))
              have HK6 := Aside0.mk (show ∀ k, blk A3 k → w.heap.size ≤ k from fun k h => (hk6 k h).elim (HK1.out k) (fun h2 => by have h3 := HB2.out.size; have h4 : w2.heap.size + 1 ≤ k := (by simpa using h2); omega))
              clear hR6 hG6 hk6 x0
              go_wp2
              go_roundg (hs.length - (q + 1))
              case measure => omega
              case rel =>
                refine ⟨q + 1, by omega, by omega, by go_num, ⟨?_⟩⟩
                rw [HF.out, HP.out, List.map_append, ← List.append_assoc, HOE.out]
                have e1 : ints O ++ [.int .i64 y.f0] = ints (O ++ [y.f0]) := by simp [ints]
                unfold Out1
                rw [if_pos rfl, show O ++ List.map (·.f0) [y] = O ++ [y.f0] from rfl, show (O ++ [y.f0]).length = O.length + 1 from by simp]
                exact ⟨A3, c3, rfl, by rw [← e1]; exact HR6.out, HK6.out, HB6.out⟩
        · have eq : q = hs.length := by omega
          subst eq
          rw [List.take_length, ← HBASE.out] at hR1
          rw [List.take_length, ← HBASE.out]
          have hbl : (blocksAt hs qs who j).length ≤ 800000 := by
            have h1 := List.length_filter_le (inWay who T) hs
            rw [HBASE.out, List.length_append, HLE.out, List.length_map]
            have := HIL.out
            omega
          have hso : (sortedI (blocksAt hs qs who j)).length = (blocksAt hs qs who j).length := by unfold sortedI; exact List.length_mergeSort ..
          generalize blocksAt hs qs who j = O at hR1 hbl hso HR ⊢
          have HS := Aside0.mk (Sort_ A2 c2 O wr hR1 (by omega))
          have HSO := Aside0.mk hso
          have HBL := Aside0.mk hbl
          have HK1 := Aside0.mk hk1
          have HB1 := Aside0.mk hb1
          have hlt2 : ¬ hs.length < hs.length := Nat.lt_irrefl _
          clear hR1 hk1 hb1 hso hbl hlt
          go_wp2_with fail
          refine HS.out.mono ?_
          rintro e w5 ⟨rfl, hR5, hG5⟩
          have HC := Aside0.mk (Compact_ A2 c2 (sortedI O) w5 (by rw [HSO.out]; exact hR5) (by rw [HSO.out]; have := HBL.out; omega))
          rw [HSO.out] at HC
          have HB5 := Aside0.mk (hG5.to_below HB1.out HB1.out.size HK1.out)
          clear hR5 hG5
          go_wp2_with fail
          refine HC.out.mono ?_
          rintro e w6 ⟨rfl, hR6, hG6⟩
          have HR6 := Aside0.mk hR6
          have HB6 := Aside0.mk (hG6.to_below HB5.out HB5.out.size HK1.out)
          clear hR6 hG6
          go_wp2
          go_ret
          unfold BlPost
          rw [HR.out]
          exact ⟨A2, c2, rfl, HR6.out, HK1.out, HB6.out⟩
theorem Blocks_ (w : World) (b : Nat) (F : Nat → Prop) (hs qs : List E) (who : Int) (hI : IsLane w b F hs qs) (hl : hs.length ≤ 400000) (hl2 : qs.length ≤ 400000) :
    Calls Tryz.prog 78 #[.pointer (some ⟨b, 0, none⟩), .int .i64 who] w (BlPost w (blocksIn hs qs who)) := by
  by_cases h : ix (fun x => x.f0 == who) qs < 0
  · exact Blocks_none w b F hs qs who hI h
  · exact Blocks_some w b F hs qs who hI (ix (fun x => x.f0 == who) qs).toNat (Int.toNat_of_nonneg (by omega)).symm hl hl2
end Go.Proofs.YtaaekmcmpjljgaaGreat.Ln
namespace Go.Proofs.YtaaekmcmpjljgaaGreat.Ln
open Go.RowKit Go.Proofs.YtaaekmcmpjljgaaGreatW.PrintWords Go.Proofs.YtaaekmcmpjljgaaGreatW.PrintLast Go.Proofs.YtaaekmcmpjljgaaGreatW.PrintMore Go.Proofs.YtaaekmcmpjljgaaGreat.PMd
set_option linter.unusedVariables false
set_option linter.unusedSimpArgs false
def Live (w0 w : World) (b : Nat) (hs qs : List E) : Prop := IsLane w b (fun k => w0.heap.size ≤ k) hs qs ∧ Asc hs ∧ Below w0.heap.size w0 w
section
variable {w0 w w' : World} {b : Nat} {hs qs : List E}
theorem Live.below (h : Live w0 w b hs qs) (hb : Below w.heap.size w w') : Live w0 w' b hs qs := ⟨h.1.below hb, h.2.1, below_then h.2.2 h.2.2.size hb⟩
theorem Live.alloc (h : Live w0 w b hs qs) (o : Obj) : Live w0 (w.alloc o) b hs qs := h.below (below_alloc (Below.refl _ _) o)
end
theorem asc_ask {hs qs : List E} {who m : Int} (h : Asc hs) : Asc (askIn hs qs who m).2.1 := by
  unfold askIn
  split
  · exact h
  · split
    · exact asc_grants h
    · exact h
theorem asc_serve (hs qs : List E) (h : Asc hs) : Asc (serveQ hs qs).2.1 := by
  induction qs generalizing hs with
  | nil => exact h
  | cons x qs ih =>
    unfold serveQ
    split
    · exact ih _ (asc_grants h)
    · exact h
theorem asc_leave {hs qs : List E} {who : Int} (h : Asc hs) : Asc (leaveIn hs qs who).2.1 := asc_serve _ _ (List.Pairwise.filter _ h)
theorem Row.readsI {w : World} {A : Option Addr} {c : Nat} {l : List Int} (h : Row w 3 1 A l.length c (ints l)) : Kd.C (Kd.int .i64) w A l.length l := by
  refine ⟨rfl, by have h1 := h.2.1; have h2 := h.2.2.1; unfold maxLen at h2; omega, fun hn => ?_⟩
  obtain ⟨g, off, cur, rfl, _, _, hc⟩ := h.at_ hn
  refine ⟨_, rfl, fun j p hj => ⟨[.int .i64 p], rfl, rfl, fun i u hu => ?_⟩⟩
  rw [Addr.add_lit]
  match i, hu with
  | 0, hu => obtain rfl : Value.int .i64 p = u := by simpa using hu
             rw [Nat.add_zero]
             show w.cell? ⟨g, off + j * 1, none⟩ = _
             rw [Nat.mul_one]
             exact (hc j _ (by simp [ints, hj])).1
  | i + 1, hu => simp at hu
end Go.Proofs.YtaaekmcmpjljgaaGreat.Ln
namespace Go.Proofs.YtaaekmcmpjljgaaGreat.Ln
open Go.RowKit Go.Proofs.YtaaekmcmpjljgaaGreatW.PrintWords Go.Proofs.YtaaekmcmpjljgaaGreatW.PrintLast Go.Proofs.YtaaekmcmpjljgaaGreatW.PrintMore Go.Proofs.YtaaekmcmpjljgaaGreat.PMd
set_option linter.unusedVariables false
set_option linter.unusedSimpArgs false
theorem f1 : askIn [] [] 1 3 = (1, [⟨1, 3⟩], []) := by kernel_rfl
theorem f2 : askIn [⟨1, 3⟩] [] 2 3 = (1, [⟨1, 3⟩, ⟨2, 3⟩], []) := by kernel_rfl
theorem f3 : askIn [⟨1, 3⟩, ⟨2, 3⟩] [] 1 5 = (2, [⟨1, 3⟩, ⟨2, 3⟩], [⟨1, 5⟩]) := by kernel_rfl
theorem f4 : askIn [⟨1, 3⟩, ⟨2, 3⟩] [⟨1, 5⟩] 2 5 = (2, [⟨1, 3⟩, ⟨2, 3⟩], [⟨1, 5⟩, ⟨2, 5⟩]) := by kernel_rfl
theorem sortedI_of {l : List Int} (h : l.Pairwise (· ≤ ·)) : sortedI l = l := by
  unfold sortedI
  exact List.mergeSort_of_pairwise (h.imp (fun h => by simpa using h))
theorem f5 : blocksIn [⟨1, 3⟩, ⟨2, 3⟩] [⟨1, 5⟩, ⟨2, 5⟩] 1 = [2] := by
  have e : blocksAt [⟨1, 3⟩, ⟨2, 3⟩] [⟨1, 5⟩, ⟨2, 5⟩] 1 0 = [2] := by kernel_rfl
  have i : ix (fun x => x.f0 == 1) ([⟨1, 5⟩, ⟨2, 5⟩] : List E) = 0 := by kernel_rfl
  unfold blocksIn
  rw [i, if_neg (by decide)]
  show Lib.compact (sortedI (blocksAt _ _ 1 0)) = _
  rw [e, sortedI_of (by simp)]
  kernel_rfl
theorem f6 : blocksIn [⟨1, 3⟩, ⟨2, 3⟩] [⟨1, 5⟩, ⟨2, 5⟩] 2 = [1] := by
  have e : blocksAt [⟨1, 3⟩, ⟨2, 3⟩] [⟨1, 5⟩, ⟨2, 5⟩] 2 1 = [1, 1] := by kernel_rfl
  have i : ix (fun x => x.f0 == 2) ([⟨1, 5⟩, ⟨2, 5⟩] : List E) = 1 := by kernel_rfl
  unfold blocksIn
  rw [i, if_neg (by decide)]
  show Lib.compact (sortedI (blocksAt _ _ 2 1)) = _
  rw [e, sortedI_of (by simp)]
  kernel_rfl
end Go.Proofs.YtaaekmcmpjljgaaGreat.Ln
namespace Go.Proofs.YtaaekmcmpjljgaaGreat.Ln
open Go.RowKit Go.Proofs.YtaaekmcmpjljgaaGreatW.PrintWords Go.Proofs.YtaaekmcmpjljgaaGreatW.PrintLast Go.Proofs.YtaaekmcmpjljgaaGreatW.PrintMore Go.Proofs.YtaaekmcmpjljgaaGreat.PMd
set_option linter.unusedVariables false
set_option linter.unusedSimpArgs false
theorem told_cases (l : List E) (who : Int) : (toldIn l who = 0 ∧ ∀ x ∈ l, x.f0 ≠ who) ∨ ∃ x ∈ l, x.f0 = who ∧ toldIn l who = x.f1 := by
  unfold toldIn
  by_cases h : ix (fun x => x.f0 == who) l ≥ 0
  · obtain ⟨i, hi⟩ : ∃ i : Nat, ix (fun x => x.f0 == who) l = (i : Int) := ⟨_, (Int.toNat_of_nonneg h).symm⟩
    obtain ⟨h1, h2, _⟩ := ix_hit' hi
    refine .inr ⟨l.getD i z113, ?_, by simpa using h2, ?_⟩
    · rw [List.getD_eq_getElem?_getD, List.getElem?_eq_getElem h1]; exact List.getElem_mem h1
    · rw [if_pos h, hi]; simp [rd_T113]
  · refine .inl ⟨if_neg h, fun x hx hw => ?_⟩
    have := ix_none (by omega : ix (fun x => x.f0 == who) l < 0) x hx
    simp [hw] at this
def Dis (l : List E) : Prop := l.Pairwise fun a b => a.f0 ≠ b.f0
theorem Asc.dis {l : List E} (h : Asc l) : Dis l := List.Pairwise.imp (fun h => by omega) h
theorem dis_eq {l : List E} (h : Dis l) {x y : E} (hx : x ∈ l) (hy : y ∈ l) (e : x.f0 = y.f0) : x = y := by
  induction l with
  | nil => cases hx
  | cons z l ih =>
    obtain ⟨h1, h2⟩ := List.pairwise_cons.1 h
    rcases List.mem_cons.1 hx with rfl | hx'
    · rcases List.mem_cons.1 hy with rfl | hy'
      · rfl
      · exact absurd e (h1 y hy')
    · rcases List.mem_cons.1 hy with rfl | hy'
      · exact absurd e.symm (h1 x hx')
      · exact ih h2 hx' hy'
theorem told_mem {l : List E} (h : Dis l) {x : E} (hx : x ∈ l) : toldIn l x.f0 = x.f1 := by
  rcases told_cases l x.f0 with ⟨_, h2⟩ | ⟨y, hy, e, h2⟩
  · exact absurd rfl (h2 x hx)
  · rw [h2, dis_eq h hy hx e]
theorem told_no {l : List E} {who : Int} (h : ∀ x ∈ l, x.f0 ≠ who) : toldIn l who = 0 := by
  rcases told_cases l who with ⟨h1, _⟩ | ⟨y, hy, e, _⟩
  · exact h1
  · exact absurd e (h y hy)
theorem told_same {l l' : List E} {who : Int} (hd : Dis l) (hd' : Dis l') (h : ∀ y : E, y.f0 = who → (y ∈ l ↔ y ∈ l')) : toldIn l who = toldIn l' who := by
  rcases told_cases l who with ⟨h1, h2⟩ | ⟨y, hy, e, h2⟩
  · rw [h1, told_no (fun x hx hw => h2 x ((h x hw).2 hx) hw)]
  · have := told_mem hd' ((h y e).1 hy)
    rw [e] at this
    rw [h2, this]
theorem ix_yes {l : List E} {who : Int} : ix (fun x => x.f0 == who) l ≥ 0 ↔ ∃ x ∈ l, x.f0 = who := by
  have := ix_any (fun x : E => x.f0 == who) l
  constructor
  · intro h
    rw [decide_eq_true h] at this
    obtain ⟨x, hx, hp⟩ := List.any_eq_true.1 this.symm
    exact ⟨x, hx, by simpa using hp⟩
  · rintro ⟨x, hx, hp⟩
    have h2 : l.any (fun x : E => x.f0 == who) = true := List.any_eq_true.2 ⟨x, hx, by simpa using hp⟩
    rw [h2] at this
    exact of_decide_eq_true this
theorem fl_mem {l : List E} {who : Int} {y : E} : y ∈ fl l who ↔ y ∈ l ∧ y.f0 ≠ who := by
  unfold fl
  rw [List.mem_filter]
  simp
theorem insAt_perm (l : List E) (i : Nat) (x : E) : (insAt l i x).Perm (x :: l) := by
  unfold insAt
  have h := @List.perm_middle _ x (l.take i) (l.drop i)
  rwa [List.take_append_drop] at h
theorem insAt_mem {l : List E} {i : Nat} {x y : E} : y ∈ insAt l i x ↔ y = x ∨ y ∈ l := by
  rw [(insAt_perm l i x).mem_iff, List.mem_cons]
theorem grants_mem {hs : List E} {who m : Int} (ha : Asc hs) {y : E} : y ∈ grantsIn hs who m ↔ y = ⟨who, m⟩ ∨ (y ∈ hs ∧ y.f0 ≠ who) := by
  unfold grantsIn
  by_cases h : ix (fun x => x.f0 == who) hs ≥ 0
  · rw [if_pos h]
    obtain ⟨i, hi⟩ : ∃ i : Nat, ix (fun x => x.f0 == who) hs = (i : Int) := ⟨_, (Int.toNat_of_nonneg h).symm⟩
    obtain ⟨h1, h2, _⟩ := ix_hit' hi
    rw [hi, Int.toNat_natCast]
    have hw : (hs.getD i z113).f0 = who := by simpa using h2
    have hm : hs.getD i z113 ∈ hs := by rw [List.getD_eq_getElem?_getD, List.getElem?_eq_getElem h1]; exact List.getElem_mem h1
    rw [hw]
    constructor
    · intro hy
      obtain ⟨k, hk⟩ := List.mem_iff_getElem?.1 hy
      rw [List.getElem?_set] at hk
      by_cases hik : i = k
      · subst hik
        rw [if_pos rfl, if_pos h1] at hk
        exact .inl (Option.some.inj hk).symm
      · rw [if_neg hik] at hk
        have hy' : y ∈ hs := List.mem_of_getElem? hk
        refine .inr ⟨hy', fun hyw => hik ?_⟩
        have e := dis_eq ha.dis hm hy' (hw.trans hyw.symm)
        have hk1 : k < hs.length := (List.getElem?_eq_some_iff.1 hk).1
        have e1 : hs[i] = hs[k] := by
          have e2 : hs[k] = y := (List.getElem?_eq_some_iff.1 hk).2
          rw [e2, ← e, List.getD_eq_getElem?_getD, List.getElem?_eq_getElem h1]; rfl
        rcases Nat.lt_trichotomy i k with hlt | heq | hgt
        · have := List.pairwise_iff_getElem.1 ha i k h1 hk1 hlt
          rw [e1] at this; omega
        · exact heq
        · have := List.pairwise_iff_getElem.1 ha k i hk1 h1 hgt
          rw [e1] at this; omega
    · rintro (rfl | ⟨hy, hyw⟩)
      · exact List.mem_iff_getElem?.2 ⟨i, by rw [List.getElem?_set, if_pos rfl, if_pos h1]⟩
      · obtain ⟨k, hk⟩ := List.mem_iff_getElem?.1 hy
        refine List.mem_iff_getElem?.2 ⟨k, ?_⟩
        rw [List.getElem?_set, if_neg ?_]
        · exact hk
        · rintro rfl
          apply hyw
          rw [← hw, List.getD_eq_getElem?_getD, hk]; rfl
  · rw [if_neg h, (insE_perm hs ⟨who, m⟩).mem_iff, List.mem_append, List.mem_singleton]
    have hn := fun x hx hw => h (ix_yes.2 ⟨x, hx, hw⟩)
    constructor
    · rintro (hy | hy)
      · exact .inr ⟨hy, hn y hy⟩
      · exact .inl hy
    · rintro (hy | ⟨hy, _⟩)
      · exact .inr hy
      · exact .inl hy
theorem fitsAll_iff {hs : List E} {who t : Int} : fitsAll hs who t = true ↔ ∀ x ∈ hs, x.f0 ≠ who → fitsM x.f1 t = true := by
  unfold fitsAll
  rw [Bool.not_eq_true', List.any_eq_false]
  constructor
  · intro h x hx hw
    have := h x hx
    cases hf : fitsM x.f1 t <;> simp [hw, hf] at this ⊢
  · intro h x hx
    by_cases hw : x.f0 = who
    · simp [hw]
    · simp [h x hx hw]
theorem fitsAll_no {hs : List E} {who t : Int} (h : fitsAll hs who t = false) : ∃ x ∈ hs, x.f0 ≠ who ∧ fitsM x.f1 t = false := by
  apply Classical.byContradiction
  intro hn
  have : fitsAll hs who t = true := fitsAll_iff.2 (fun x hx hw => by
    cases hf : fitsM x.f1 t with
    | true => rfl
    | false => exact absurd ⟨x, hx, hw, hf⟩ hn)
  rw [h] at this
  cases this
abbrev md (a : Int) : Prop := 0 ≤ a ∧ a ≤ 5
theorem fin6 {a : Int} (h : md a) : ∃ n : Fin 6, a = (n.val : Int) := ⟨⟨a.toNat, by omega⟩, by simp; omega⟩
theorem fits_symm_f : ∀ a b : Fin 6, fitsM (a.val : Int) (b.val : Int) = fitsM (b.val : Int) (a.val : Int) := by decide +kernel
theorem sup_md_f : ∀ a b : Fin 6, md (supM (a.val : Int) (b.val : Int)) ∧ (b.val ≠ 0 → supM (a.val : Int) (b.val : Int) ≠ 0) := by decide +kernel
theorem sup_abs_f : ∀ a b : Fin 6, supM (supM (a.val : Int) (b.val : Int)) (a.val : Int) = supM (a.val : Int) (b.val : Int) ∧ supM (supM (a.val : Int) (b.val : Int)) (b.val : Int) = supM (a.val : Int) (b.val : Int) := by decide +kernel
theorem fits_mono_f : ∀ a b c : Fin 6, fitsM (supM (a.val : Int) (b.val : Int)) (c.val : Int) = true → fitsM (a.val : Int) (c.val : Int) = true := by decide +kernel
theorem fits_symm {a b : Int} (ha : md a) (hb : md b) : fitsM a b = fitsM b a := by
  obtain ⟨x, rfl⟩ := fin6 ha; obtain ⟨y, rfl⟩ := fin6 hb; exact fits_symm_f x y
theorem sup_md {a b : Int} (ha : md a) (hb : md b) : md (supM a b) := by obtain ⟨x, rfl⟩ := fin6 ha; obtain ⟨y, rfl⟩ := fin6 hb; exact (sup_md_f x y).1
theorem sup_pos {a b : Int} (ha : md a) (hb : md b) (h : b ≠ 0) : supM a b ≠ 0 := by
  obtain ⟨x, rfl⟩ := fin6 ha; obtain ⟨y, rfl⟩ := fin6 hb; exact (sup_md_f x y).2 (by omega)
theorem sup_abs {a b : Int} (ha : md a) (hb : md b) : supM (supM a b) a = supM a b := by obtain ⟨x, rfl⟩ := fin6 ha; obtain ⟨y, rfl⟩ := fin6 hb; exact (sup_abs_f x y).1
theorem fits_mono {a b c : Int} (ha : md a) (hb : md b) (hc : md c) (h : fitsM (supM a b) c = true) : fitsM a c = true := by
  obtain ⟨x, rfl⟩ := fin6 ha; obtain ⟨y, rfl⟩ := fin6 hb; obtain ⟨z, rfl⟩ := fin6 hc; exact fits_mono_f x y z h
structure InvS (hs qs : List E) : Prop where
  asc : Asc hs
  dq : Dis qs
  mh : ∀ x ∈ hs, md x.f1 ∧ x.f1 ≠ 0
  mq : ∀ x ∈ qs, md x.f1 ∧ x.f1 ≠ 0
  fit : ∀ x ∈ hs, ∀ y ∈ hs, x.f0 ≠ y.f0 → fitsM x.f1 y.f1 = true
  conv : qs.Pairwise fun a b => toldIn hs b.f0 ≠ 0 → toldIn hs a.f0 ≠ 0
  cov : ∀ x ∈ qs, supM x.f1 (toldIn hs x.f0) = x.f1
structure Inv (hs qs : List E) : Prop extends InvS hs qs where
  head : ∀ x l, qs = x :: l → fitsAll hs x.f0 x.f1 = false
theorem inv_nil : Inv [] [] := ⟨⟨List.Pairwise.nil, List.Pairwise.nil, nofun, nofun, nofun, List.Pairwise.nil, nofun⟩, nofun⟩
theorem InvS.told_md {hs qs : List E} (h : InvS hs qs) (who : Int) : md (toldIn hs who) := by
  rcases told_cases hs who with ⟨h1, _⟩ | ⟨x, hx, _, h1⟩
  · rw [h1]; exact ⟨by decide, by decide⟩
  · rw [h1]; exact (h.mh x hx).1
theorem told_grants_ne {hs : List E} (ha : Asc hs) {who m k : Int} (hk : k ≠ who) : toldIn (grantsIn hs who m) k = toldIn hs k :=
  told_same (asc_grants ha).dis ha.dis (fun y hy => by
    rw [grants_mem ha]
    constructor
    · rintro (rfl | h)
      · exact absurd hy.symm hk
      · exact h.1
    · intro h
      exact .inr ⟨h, fun e => hk (hy.symm.trans e)⟩)
theorem pair_imp {l : List E} {R S : E → E → Prop} (h : l.Pairwise R) (hi : ∀ a ∈ l, ∀ b ∈ l, R a b → S a b) : l.Pairwise S :=
  List.Pairwise.imp_of_mem (fun ha hb => hi _ ha _ hb) h
theorem InvS.grant {hs qs : List E} (h : InvS hs qs) {who m : Int} (hm : md m) (h0 : m ≠ 0) (hf : fitsAll hs who m = true) (hq : ∀ x ∈ qs, x.f0 ≠ who) : InvS (grantsIn hs who m) qs := by
  refine ⟨asc_grants h.asc, h.dq, ?_, h.mq, ?_, ?_, ?_⟩
  · intro x hx
    rcases (grants_mem h.asc).1 hx with rfl | ⟨hx, _⟩
    · exact ⟨hm, h0⟩
    · exact h.mh x hx
  · intro x hx y hy hne
    rcases (grants_mem h.asc).1 hx with rfl | ⟨hx, hxw⟩
    · rcases (grants_mem h.asc).1 hy with rfl | ⟨hy, hyw⟩
      · exact absurd rfl hne
      · have := fitsAll_iff.1 hf y hy hyw
        rw [fits_symm hm (h.mh y hy).1]
        exact this
    · rcases (grants_mem h.asc).1 hy with rfl | ⟨hy, hyw⟩
      · exact fitsAll_iff.1 hf x hx hxw
      · exact h.fit x hx y hy hne
  · refine pair_imp h.conv (fun a ha b hb hab => ?_)
    rw [told_grants_ne h.asc (hq a ha), told_grants_ne h.asc (hq b hb)]
    exact hab
  · intro x hx
    rw [told_grants_ne h.asc (hq x hx)]
    exact h.cov x hx
theorem InvS.fl {hs qs : List E} (h : InvS hs qs) (who : Int) : InvS (fl hs who) (fl qs who) := by
  have ha : Asc (Ln.fl hs who) := List.Pairwise.filter _ h.asc
  have ht : ∀ k, k ≠ who → toldIn (Ln.fl hs who) k = toldIn hs k := fun k hk =>
    told_same ha.dis h.asc.dis (fun y hy => by rw [fl_mem]; exact ⟨fun h => h.1, fun h => ⟨h, fun e => hk (hy.symm.trans e)⟩⟩)
  refine ⟨ha, List.Pairwise.filter _ h.dq, fun x hx => h.mh x (fl_mem.1 hx).1, fun x hx => h.mq x (fl_mem.1 hx).1, fun x hx y hy => h.fit x (fl_mem.1 hx).1 y (fl_mem.1 hy).1, ?_, ?_⟩
  · refine pair_imp (List.Pairwise.filter _ h.conv) (fun a ha b hb hab => ?_)
    rw [ht a.f0 (fl_mem.1 ha).2, ht b.f0 (fl_mem.1 hb).2]
    exact hab
  · intro x hx
    rw [ht x.f0 (fl_mem.1 hx).2]
    exact h.cov x (fl_mem.1 hx).1
theorem InvS.tail {hs qs : List E} {x : E} (h : InvS hs (x :: qs)) : InvS hs qs :=
  ⟨h.asc, (List.pairwise_cons.1 h.dq).2, h.mh, fun y hy => h.mq y (List.mem_cons_of_mem _ hy), h.fit, (List.pairwise_cons.1 h.conv).2, fun y hy => h.cov y (List.mem_cons_of_mem _ hy)⟩
theorem serve_spec (hs qs : List E) (h : InvS hs qs) : ∃ n, n ≤ qs.length ∧ (serveQ hs qs).1 = (qs.take n).map (·.f0) ∧ (serveQ hs qs).2.2 = qs.drop n ∧ Inv (serveQ hs qs).2.1 (serveQ hs qs).2.2 ∧
    (∀ y, y ∈ (serveQ hs qs).2.1 ↔ y ∈ qs.take n ∨ (y ∈ hs ∧ ∀ x ∈ qs.take n, x.f0 ≠ y.f0)) ∧ (serveQ hs qs).2.1.length ≤ hs.length + n := by
  induction qs generalizing hs with
  | nil => exact ⟨0, Nat.le_refl _, rfl, rfl, ⟨h, nofun⟩, fun y => by simp [serveQ], by simp [serveQ]⟩
  | cons x qs ih =>
    unfold serveQ
    cases hf : fitsAll hs x.f0 x.f1 with
    | false =>
      refine ⟨0, Nat.zero_le _, rfl, rfl, ⟨h, ?_⟩, fun y => by simp, by simp⟩
      intro y l e
      obtain ⟨rfl, rfl⟩ := List.cons.inj e
      exact hf
    | true =>
      have hx := h.mq x (List.mem_cons_self ..)
      have hne := (List.pairwise_cons.1 h.dq).1
      have hg : InvS (grantsIn hs x.f0 x.f1) qs := h.tail.grant hx.1 hx.2 hf (fun y hy => (hne y hy).symm)
      obtain ⟨n, hn, h1, h2, h3, h4, h5⟩ := ih _ hg
      refine ⟨n + 1, by simpa using hn, ?_, ?_, h3, ?_, ?_⟩
      · show x.f0 :: _ = _
        rw [List.take_succ_cons, List.map_cons, h1]
      · rw [List.drop_succ_cons]; exact h2
      · intro y
        rw [if_pos rfl]
        show y ∈ (serveQ (grantsIn hs x.f0 x.f1) qs).2.1 ↔ _
        rw [h4, grants_mem h.asc, List.take_succ_cons]
        constructor
        · rintro (hy | ⟨rfl | ⟨hy, hyw⟩, hall⟩)
          · exact .inl (List.mem_cons_of_mem _ hy)
          · exact .inl (List.mem_cons_self ..)
          · refine .inr ⟨hy, fun z hz => ?_⟩
            rcases List.mem_cons.1 hz with rfl | hz
            · exact fun e => hyw e.symm
            · exact hall z hz
        · rintro (hy | ⟨hy, hall⟩)
          · rcases List.mem_cons.1 hy with rfl | hy
            · exact .inr ⟨.inl rfl, fun z hz => (hne z (List.mem_of_mem_take hz)).symm⟩
            · exact .inl hy
          · exact .inr ⟨.inr ⟨hy, fun e => hall x (List.mem_cons_self ..) e.symm⟩, fun z hz => hall z (List.mem_cons_of_mem _ hz)⟩
      · rw [if_pos rfl]
        show (serveQ (grantsIn hs x.f0 x.f1) qs).2.1.length ≤ _
        have := grants_len hs x.f0 x.f1
        omega
theorem convs_le (hs qs : List E) : convs hs qs ≤ qs.length := by
  unfold convs
  exact List.Sublist.length_le (List.takeWhile_sublist _)
theorem ahead_le (hs qs : List E) (who : Int) : aheadOf hs qs who ≤ qs.length := by
  unfold aheadOf
  split
  · exact Nat.le_refl _
  · exact convs_le hs qs
theorem convs_take (hs qs : List E) : ∀ x ∈ qs.take (convs hs qs), toldIn hs x.f0 ≠ 0 := by
  unfold convs
  induction qs with
  | nil => simp
  | cons y qs ih =>
    rw [List.takeWhile_cons]
    by_cases hy : toldIn hs y.f0 = 0
    · simp [hy]
    · rw [if_pos (by simpa using hy), List.length_cons, List.take_succ_cons]
      intro x hx
      rcases List.mem_cons.1 hx with rfl | hx
      · exact hy
      · exact ih x hx
theorem grants_same {hs : List E} (ha : Asc hs) {who : Int} (h : toldIn hs who ≠ 0) : grantsIn hs who (toldIn hs who) = hs := by
  refine (asc_unique ?_ (asc_grants ha) ha)
  have nd : ∀ {l : List E}, Dis l → l.Nodup := fun h => List.Pairwise.imp (fun h e => h (by rw [e])) h
  refine (List.perm_ext_iff_of_nodup (nd (asc_grants ha).dis) (nd ha.dis)).2 (fun y => ?_)
  rw [grants_mem ha]
  rcases told_cases hs who with ⟨h1, _⟩ | ⟨x, hx, e, h1⟩
  · exact absurd h1 h
  · rw [h1]
    constructor
    · rintro (rfl | hy)
      · rw [← e]; exact hx
      · exact hy.1
    · intro hy
      by_cases hw : y.f0 = who
      · rw [dis_eq ha.dis hy hx (hw.trans e.symm), ← e]; exact .inl rfl
      · exact .inr ⟨hy, hw⟩
theorem inv_ask {hs qs : List E} (h : Inv hs qs) (who m : Int) : Inv (askIn hs qs who m).2.1 (askIn hs qs who m).2.2 := by
  unfold askIn
  cases hb : askBad qs who m with
  | true => exact h
  | false =>
    have hb' : md m ∧ m ≠ 0 ∧ ∀ x ∈ qs, x.f0 ≠ who := by
      unfold askBad knownM at hb
      simp only [Bool.or_eq_false_iff, Bool.not_eq_false', decide_eq_true_eq, beq_eq_false_iff_ne, decide_eq_false_iff_not] at hb
      exact ⟨hb.1.1, hb.1.2, fun x hx hw => hb.2 (ix_yes.2 ⟨x, hx, hw⟩)⟩
    obtain ⟨hm, h0, hq⟩ := hb'
    have ht := h.toInvS.told_md who
    have hT := sup_md ht hm
    have hT0 := sup_pos ht hm h0
    rw [if_neg (by simp)]
    cases hg : askGo hs qs who m with
    | true =>
      rw [if_pos rfl]
      unfold askGo at hg
      rw [Bool.or_eq_true] at hg
      by_cases he : supM (toldIn hs who) m = toldIn hs who
      · show Inv (grantsIn hs who _) qs
        rw [he, grants_same h.asc (by rw [← he]; exact hT0)]
        exact h
      · have hg2 : aheadOf hs qs who = 0 ∧ fitsAll hs who (supM (toldIn hs who) m) = true := by
          rcases hg with hg | hg
          · exact absurd (by simpa using hg) he
          · simpa using hg
        refine ⟨h.toInvS.grant hT hT0 hg2.2 hq, ?_⟩
        intro x l e
        replace e : qs = x :: l := e
        obtain ⟨z, hz, hzx, hzf⟩ := fitsAll_no (h.head x l e)
        have hxq : x ∈ qs := by rw [e]; exact List.mem_cons_self ..
        cases hn : fitsAll (grantsIn hs who (supM (toldIn hs who) m)) x.f0 x.f1 with
        | false => rfl
        | true =>
          have hall := fitsAll_iff.1 hn
          by_cases hzw : z.f0 = who
          · have e1 : toldIn hs who = z.f1 := by rw [← hzw]; exact told_mem h.asc.dis hz
            have := hall ⟨who, supM (toldIn hs who) m⟩ ((grants_mem h.asc).2 (.inl rfl)) (fun e => hq x hxq e.symm)
            have h3 := fits_mono ht hm (h.mq x hxq).1 this
            rw [e1, hzf] at h3
            cases h3
          · have := hall z ((grants_mem h.asc).2 (.inr ⟨hz, hzw⟩)) hzx
            rw [hzf] at this
            cases this
    | false =>
      rw [if_neg (by simp)]
      unfold askGo at hg
      rw [Bool.or_eq_false_iff] at hg
      have hle := ahead_le hs qs who
      show Inv hs (insAt qs (aheadOf hs qs who) ⟨who, supM (toldIn hs who) m⟩)
      refine ⟨⟨h.asc, ?_, h.mh, ?_, h.fit, ?_, ?_⟩, ?_⟩
      · refine ((insAt_perm qs _ _).pairwise_iff (fun {a b} h => h.symm)).2 (List.pairwise_cons.2 ⟨fun y hy => (hq y hy).symm, h.dq⟩)
      · intro x hx
        rcases insAt_mem.1 hx with rfl | hx
        · exact ⟨hT, hT0⟩
        · exact h.mq x hx
      · unfold insAt
        have hp := h.conv
        rw [← List.take_append_drop (aheadOf hs qs who) qs] at hp
        obtain ⟨p1, p2, p3⟩ := List.pairwise_append.1 hp
        refine List.pairwise_append.2 ⟨p1, List.pairwise_cons.2 ⟨?_, p2⟩, ?_⟩
        · intro b hb _
          show toldIn hs who ≠ 0
          intro e0
          unfold aheadOf at hb
          rw [if_pos e0, List.drop_length] at hb
          cases hb
        · intro a ha b hb
          rcases List.mem_cons.1 hb with rfl | hb
          · intro hn
            have hn' : toldIn hs who ≠ 0 := hn
            unfold aheadOf at ha
            rw [if_neg hn'] at ha
            exact convs_take hs qs a ha
          · exact p3 a ha b hb
      · intro x hx
        rcases insAt_mem.1 hx with rfl | hx
        · exact sup_abs ht hm
        · exact h.cov x hx
      · intro x l e
        unfold insAt at e
        cases ha : aheadOf hs qs who with
        | zero =>
          rw [ha] at e
          obtain ⟨rfl, _⟩ := List.cons.inj (show (⟨who, supM (toldIn hs who) m⟩ : E) :: qs = x :: l from by simpa using e)
          rw [ha] at hg
          simpa using hg.2
        | succ n =>
          cases qs with
          | nil => rw [ha] at hle; simp at hle
          | cons y q2 =>
            rw [ha, List.take_succ_cons, List.cons_append] at e
            obtain ⟨rfl, _⟩ := List.cons.inj e
            exact h.head y q2 rfl
theorem ask_len (hs qs : List E) (who m : Int) : (askIn hs qs who m).2.1.length + (askIn hs qs who m).2.2.length ≤ hs.length + qs.length + 1 := by
  unfold askIn
  split
  · show hs.length + qs.length ≤ _; omega
  · split
    · show (grantsIn hs who _).length + qs.length ≤ _
      have := grants_len hs who (supM (toldIn hs who) m)
      omega
    · show hs.length + (insAt qs _ _).length ≤ _
      have := (insAt_perm qs (aheadOf hs qs who) ⟨who, supM (toldIn hs who) m⟩).length_eq
      rw [this, List.length_cons]; omega
theorem leave_spec {hs qs : List E} (h : Inv hs qs) (who : Int) : ∃ n, n ≤ (fl qs who).length ∧ (leaveIn hs qs who).1 = ((fl qs who).take n).map (·.f0) ∧ (leaveIn hs qs who).2.2 = (fl qs who).drop n ∧ Inv (leaveIn hs qs who).2.1 (leaveIn hs qs who).2.2 ∧
    (∀ y, y ∈ (leaveIn hs qs who).2.1 ↔ y ∈ (fl qs who).take n ∨ (y ∈ fl hs who ∧ ∀ x ∈ (fl qs who).take n, x.f0 ≠ y.f0)) ∧ (leaveIn hs qs who).2.1.length ≤ (fl hs who).length + n :=
  serve_spec _ _ (h.toInvS.fl who)
end Go.Proofs.YtaaekmcmpjljgaaGreat.Ln
namespace Go.Proofs.YtaaekmcmpjljgaaGreat.Ln
open Go.RowKit Go.Proofs.YtaaekmcmpjljgaaGreatW.PrintWords Go.Proofs.YtaaekmcmpjljgaaGreatW.PrintLast Go.Proofs.YtaaekmcmpjljgaaGreatW.PrintMore Go.Proofs.YtaaekmcmpjljgaaGreat.PMd
set_option linter.unusedVariables false
set_option linter.unusedSimpArgs false
def LiveX (X : Nat → Prop) (w0 w : World) (b : Nat) (hs qs : List E) : Prop :=
  IsLane w b (fun k => w0.heap.size ≤ k ∧ ¬ X k) hs qs ∧ Asc hs ∧ Below w0.heap.size w0 w ∧ ∀ k, X k → k < w.heap.size
section
variable {X : Nat → Prop} {w0 w w' : World} {b : Nat} {hs qs : List E}
theorem Live.keep (h : Live w0 w b hs qs) (hb : Below w.heap.size w w') (hX : ∀ k, X k → w.heap.size ≤ k ∧ k < w'.heap.size) : LiveX X w0 w' b hs qs := by
  obtain ⟨F0, hI, hF⟩ := h.1.exact_
  refine ⟨(hI.below hb).mono (fun k _ hk => ⟨(hF k hk).1, fun hx => ?_⟩), h.2.1, below_then h.2.2 h.2.2.size hb, fun k hk => (hX k hk).2⟩
  have h1 := (hX k hx).1
  have h2 := (hF k hk).2
  omega
theorem LiveX.live (h : LiveX X w0 w b hs qs) : Live w0 w b hs qs := ⟨h.1.mono (fun k _ hk => hk.1), h.2.1, h.2.2.1⟩
theorem LiveX.below (h : LiveX X w0 w b hs qs) (hb : Below w.heap.size w w') : LiveX X w0 w' b hs qs := ⟨h.1.below hb, h.2.1, below_then h.2.2.1 h.2.2.1.size hb, fun k hk => Nat.lt_of_lt_of_le (h.2.2.2 k hk) hb.size⟩
end
theorem leave_len {hs qs : List E} (h : Inv hs qs) (who : Int) : (leaveIn hs qs who).2.1.length + (leaveIn hs qs who).2.2.length ≤ (fl hs who).length + (fl qs who).length := by
  obtain ⟨n, hn, _, h2, _, _, h5⟩ := leave_spec h who
  rw [h2, List.length_drop]
  omega
theorem fl_len (l : List E) (who : Int) : (fl l who).length ≤ l.length := List.length_filter_le _ _
end Go.Proofs.YtaaekmcmpjljgaaGreat.Ln
namespace Go.Proofs.YtaaekmcmpjljgaaGreat.Ln
open Go.RowKit Go.Proofs.YtaaekmcmpjljgaaGreatW.PrintWords Go.Proofs.YtaaekmcmpjljgaaGreatW.PrintLast Go.Proofs.YtaaekmcmpjljgaaGreatW.PrintMore Go.Proofs.YtaaekmcmpjljgaaGreat.PMd
set_option linter.unusedVariables false
set_option linter.unusedSimpArgs false
structure Op3 where
  f0 : Int
  f1 : Int
  f2 : Int
end Go.Proofs.YtaaekmcmpjljgaaGreat.Ln
namespace Go.Proofs.YtaaekmcmpjljgaaGreat.Ln
open Go.RowKit Go.Proofs.YtaaekmcmpjljgaaGreatW.PrintWords Go.Proofs.YtaaekmcmpjljgaaGreatW.PrintLast Go.Proofs.YtaaekmcmpjljgaaGreatW.PrintMore Go.Proofs.YtaaekmcmpjljgaaGreat.PMd
open Go.Sort (grow)
set_option linter.unusedVariables false
set_option linter.unusedSimpArgs false
theorem compact_mem {zs : List Int} {x : Int} : x ∈ Lib.compact zs ↔ x ∈ zs := by
  constructor
  · intro h
    unfold Lib.compact Lib.compactUpTo at h
    obtain ⟨i, hi, rfl⟩ := List.mem_map.1 h
    have hi' : i < zs.length := List.mem_range.1 (List.mem_filter.1 hi).1
    simp [getElem!_pos, hi']
  · intro h
    have key : ∀ m j, j < m → zs.toArray[j]! ∈ Lib.compactUpTo zs.toArray m := by
      intro m
      induction m with
      | zero => intro j hj; omega
      | succ m ih =>
        intro j hj
        rw [Lib.compactUpTo_succ, List.mem_append]
        by_cases hjm : j < m
        · exact .inl (ih j hjm)
        · obtain rfl : j = m := by omega
          cases hk : Lib.keeps zs.toArray j with
          | true => exact .inr (by simp)
          | false =>
            unfold Lib.keeps at hk
            have hk2 := of_decide_eq_false hk
            have h0 : j ≠ 0 := fun h => hk2 (.inl h)
            have h1 : zs.toArray[j]! = zs.toArray[j - 1]! := Classical.byContradiction fun h => hk2 (.inr h)
            rw [h1]
            exact .inl (ih (j - 1) (by omega))
    obtain ⟨i, hi, rfl⟩ := List.mem_iff_getElem.1 h
    have := key zs.length i hi
    simp [getElem!_pos, hi] at this
    unfold Lib.compact
    exact this
theorem leave_gone {hs qs : List E} (hi : Inv hs qs) (who : Int) : toldIn (leaveIn hs qs who).2.1 who = 0 ∧ toldIn (leaveIn hs qs who).2.2 who = 0 := by
  obtain ⟨n, hn, _, g2, g3, g4, _⟩ := leave_spec hi who
  refine ⟨told_no (fun x hx => ?_), told_no (fun x hx => ?_)⟩
  · rcases (g4 x).1 hx with h | ⟨h, _⟩
    · exact (fl_mem.1 (List.mem_of_mem_take h)).2
    · exact (fl_mem.1 h).2
  · rw [g2] at hx
    exact (fl_mem.1 (List.mem_of_mem_drop hx)).2
end Go.Proofs.YtaaekmcmpjljgaaGreat.Ln
