import Derived.Test.YtfpnadalfopmcaaLA
/- The document's lane in memory; those of its methods that change nothing. -/
namespace Go.Proofs.Ytfpnadalfopmcaa.Ln
open Go.RowKit Go.Proofs.YtfpnadalfopmcaaW.PrintWords Go.Proofs.YtfpnadalfopmcaaW.PrintWords.Kd Go.Proofs.YtfpnadalfopmcaaW.PrintLast Go.Proofs.YtfpnadalfopmcaaW.PrintMore Go.Proofs.Ytfpnadalfopmcaa.PMd
set_option linter.unusedVariables false
set_option linter.unusedSimpArgs false
abbrev zE : E := z50
/-- The document's lane at block b. -/
def IsLR (w : World) (b : Nat) (F : Nat → Prop) (hs qs : List E) : Prop :=
  ∃ hA hc qA qc, w.heap[b]? = some (.cells #[.slice hA hs.length hc, .slice qA qs.length qc] 29 (0, 0)) ∧ F b ∧
    Row w 50 2 hA hs.length hc (flat hs) ∧ (∀ k, blk hA k → F k) ∧ Row w 50 2 qA qs.length qc (flat qs) ∧ (∀ k, blk qA k → F k) ∧ (∀ k, blk hA k → blk qA k → False)
section
variable {w w' : World} {b : Nat} {F F' : Nat → Prop} {hs qs : List E}
theorem IsLR.move (h : IsLR w b F hs qs) (hm : ∀ k, F k → k < w.heap.size → w'.heap[k]? = w.heap[k]?) : IsLR w' b F hs qs := by
  obtain ⟨hA, hc, qA, qc, h1, h2, h3, h4, h5, h6, h7⟩ := h
  exact ⟨hA, hc, qA, qc, (hm b h2 (Array.getElem?_eq_some_iff.1 h1).1).trans h1, h2, h3.move (fun k hk hl => hm k (h4 k hk) hl), h4, h5.move (fun k hk hl => hm k (h6 k hk) hl), h6, h7⟩
theorem IsLR.below (h : IsLR w b F hs qs) (hb : Below w.heap.size w w') : IsLR w' b F hs qs := h.move (fun k _ hk => hb.block k hk)
theorem IsLR.grew {S : Nat → Prop} (h : IsLR w b F hs qs) (hg : Grew S w w') (hs_ : ∀ k, F k → ¬ S k) : IsLR w' b F hs qs := h.move (fun k hk hl => hg.block k hl (hs_ k hk))
theorem IsLR.open_ (h : IsLR w b F hs qs) : ∃ hA hc qA qc, w.cell? ⟨b, 0, none⟩ = some (.slice hA hs.length hc) ∧ w.cell? ⟨b, 1, none⟩ = some (.slice qA qs.length qc) ∧ hs.length ≤ hc ∧ qs.length ≤ qc ∧
    Kd.C k50 w hA hs.length hs ∧ Kd.C k50 w qA qs.length qs := by
  obtain ⟨hA, hc, qA, qc, h1, h2, h3, h4, h5, h6, h7⟩ := h
  exact ⟨hA, hc, qA, qc, (blk_cell h1 0).trans rfl, (blk_cell h1 1).trans rfl, h3.2.1, h5.2.1, h3.reads, h5.reads⟩
end
set_option maxHeartbeats 8000000 in
set_option maxRecDepth 100000 in
theorem Holds_R (w : World) (b : Nat) (F : Nat → Prop) (hs qs : List E) (who : Int) (hI : IsLR w b F hs qs) :
    Calls Try.prog 12 #[.pointer (some ⟨b, 0, none⟩), .int .i64 who] w fun e w' => e = .returned (.int .i64 (toldIn hs who)) ∧ w' = w := by
  have hu := Try.underlying29
  have hu2 := Try.underlying50
  obtain ⟨hA, hc, qA, qc, c0, c1, l0, l1, r0, r1⟩ := hI.open_
  have HR := Aside0.mk r0
  have hm := r0.2.1
  clear hI r0 r1 l0 l1
  go_enter Try.func12, Try.ntmps12
  go_wp2_with fail
  go_loop [5] (fun u => ∃ k : Nat, k ≤ hs.length ∧ u = .int .i64 k ∧ Aside0 (∀ i, i < k → ((hs.getD i zE).f0 == who) = false)) (fun u => hs.length - (intOf u).toNat)
  case atStart => exact ⟨0, by omega, rfl, ⟨fun i hi => by omega⟩⟩
  case round =>
    obtain ⟨k, hk, rfl, HT⟩ := hrel
    by_cases hlt : k < hs.length
    · obtain ⟨ad, e4, q0, q1⟩ := at_T50 HR.out (k : Int) (by omega) (by omega)
      cases e4
      have p1 : 0 ≤ (k : Int) := by omega
      have p2 : (k : Int) < hs.length := by omega
      have hrd : rd_T50 hs (k : Int) = hs.getD k zE := by simp [rd_T50, zE]
      rw [hrd] at q0 q1
      simp only [Int.toNat_natCast] at q0 q1
      by_cases hq : (hs.getD k zE).f0 = who
      · have hb : ((hs.getD k zE).f0 == who) = true := beq_iff_eq.2 hq
        have HF := Aside0.mk (show toldIn hs who = (hs.getD k zE).f1 by
          unfold toldIn
          rw [ix_hit hlt hb HT.out, if_pos (by omega), hrd])
        generalize (hs.getD k zE).f0 = x at q0 hb
        generalize (hs.getD k zE).f1 = y at q1 HF
        clear hq hrd
        go_wp2
        go_ret
        exact ⟨by rw [HF.out]; first | done | rfl, rfl⟩
      · have hb : ((hs.getD k zE).f0 == who) = false := beq_eq_false_iff_ne.2 hq
        have HT1 := Aside0.mk (show ∀ i, i < k + 1 → ((hs.getD i zE).f0 == who) = false from fun i hi => by
          by_cases e : i = k
          · subst e; exact hb
          · exact HT.out i (by omega))
        generalize (hs.getD k zE).f0 = x at q0 hb
        generalize (hs.getD k zE).f1 = y at q1
        clear hq hrd HT
        go_wp2
        go_round
        case rel => exact ⟨k + 1, by omega, by go_num, HT1⟩
        case measure => simp [intOf]; omega
    · have HF := Aside0.mk (show toldIn hs who = 0 by
        unfold toldIn
        rw [ix_miss (fun i hi => HT.out i (by omega)), if_neg (by omega)])
      go_wp2
      go_ret
      exact ⟨by rw [HF.out]; first | done | rfl, rfl⟩
set_option maxHeartbeats 8000000 in
set_option maxRecDepth 100000 in
theorem Waits_R (w : World) (b : Nat) (F : Nat → Prop) (hs qs : List E) (who : Int) (hI : IsLR w b F hs qs) :
    Calls Try.prog 14 #[.pointer (some ⟨b, 0, none⟩), .int .i64 who] w fun e w' => e = .returned (.int .i64 (toldIn qs who)) ∧ w' = w := by
  have hu := Try.underlying29
  have hu2 := Try.underlying50
  obtain ⟨hA, hc, qA, qc, c0, c1, l0, l1, r0, r1⟩ := hI.open_
  have HR := Aside0.mk r1
  have hm := r1.2.1
  clear hI r0 r1 l0 l1
  go_enter Try.func14, Try.ntmps14
  go_wp2_with fail
  go_loop [5] (fun u => ∃ k : Nat, k ≤ qs.length ∧ u = .int .i64 k ∧ Aside0 (∀ i, i < k → ((qs.getD i zE).f0 == who) = false)) (fun u => qs.length - (intOf u).toNat)
  case atStart => exact ⟨0, by omega, rfl, ⟨fun i hi => by omega⟩⟩
  case round =>
    obtain ⟨k, hk, rfl, HT⟩ := hrel
    by_cases hlt : k < qs.length
    · obtain ⟨ad, e4, q0, q1⟩ := at_T50 HR.out (k : Int) (by omega) (by omega)
      cases e4
      have p1 : 0 ≤ (k : Int) := by omega
      have p2 : (k : Int) < qs.length := by omega
      have hrd : rd_T50 qs (k : Int) = qs.getD k zE := by simp [rd_T50, zE]
      rw [hrd] at q0 q1
      simp only [Int.toNat_natCast] at q0 q1
      by_cases hq : (qs.getD k zE).f0 = who
      · have hb : ((qs.getD k zE).f0 == who) = true := beq_iff_eq.2 hq
        have HF := Aside0.mk (show toldIn qs who = (qs.getD k zE).f1 by
          unfold toldIn
          rw [ix_hit hlt hb HT.out, if_pos (by omega), hrd])
        generalize (qs.getD k zE).f0 = x at q0 hb
        generalize (qs.getD k zE).f1 = y at q1 HF
        clear hq hrd
        go_wp2
        go_ret
        exact ⟨by rw [HF.out]; first | done | rfl, rfl⟩
      · have hb : ((qs.getD k zE).f0 == who) = false := beq_eq_false_iff_ne.2 hq
        have HT1 := Aside0.mk (show ∀ i, i < k + 1 → ((qs.getD i zE).f0 == who) = false from fun i hi => by
          by_cases e : i = k
          · subst e; exact hb
          · exact HT.out i (by omega))
        generalize (qs.getD k zE).f0 = x at q0 hb
        generalize (qs.getD k zE).f1 = y at q1
        clear hq hrd HT
        go_wp2
        go_round
        case rel => exact ⟨k + 1, by omega, by go_num, HT1⟩
        case measure => simp [intOf]; omega
    · have HF := Aside0.mk (show toldIn qs who = 0 by
        unfold toldIn
        rw [ix_miss (fun i hi => HT.out i (by omega)), if_neg (by omega)])
      go_wp2
      go_ret
      exact ⟨by rw [HF.out]; first | done | rfl, rfl⟩
set_option maxHeartbeats 8000000 in
set_option maxRecDepth 100000 in
theorem convs_R (w : World) (b : Nat) (F : Nat → Prop) (hs qs : List E) (hI : IsLR w b F hs qs) :
    Calls Try.prog 30 #[.pointer (some ⟨b, 0, none⟩)] w fun e w' => e = .returned (.int .i64 (qs.countP fun x => toldIn hs x.f0 != 0 : Nat)) ∧ w' = w := by
  have hu := Try.underlying29
  have hu2 := Try.underlying50
  have HH := Aside0.mk (fun who => Holds_R w b F hs qs who hI)
  obtain ⟨hA, hc, qA, qc, c0, c1, l0, l1, r0, r1⟩ := hI.open_
  have HR := Aside0.mk r1
  have HM := Aside0.mk r1.2.1
  clear hI r0 r1 l0 l1 c0
  go_enter Try.func30, Try.ntmps30
  go_wp2_with fail
  go_loopg [3, 4] qs.length (fun gg v3 v4 wr => ∃ k : Nat, k ≤ qs.length ∧ qs.length - k ≤ gg ∧ v4 = .int .i64 k ∧ v3 = .int .i64 ((qs.take k).countP fun x => toldIn hs x.f0 != 0 : Nat) ∧ Aside0 (wr = w))
  case atStart => exact ⟨0, by omega, by omega, rfl, rfl, ⟨rfl⟩⟩
  case round =>
    obtain ⟨k, hk, hgg, rfl, rfl, HW⟩ := hrel
    obtain rfl := HW.out
    by_cases hlt : k < qs.length
    · obtain ⟨ad, e4, q0, q1⟩ := at_T50 HR.out (k : Int) (by omega) (by omega)
      cases e4
      have p1 : 0 ≤ (k : Int) := by omega
      have p2 : (k : Int) < qs.length := by omega
      have hrd : rd_T50 qs (k : Int) = qs[k] := by simp [rd_T50, List.getElem?_eq_getElem hlt]
      rw [hrd] at q0 q1
      simp only [Int.toNat_natCast] at q0 q1
      have hn : (qs.take (k + 1)).countP (fun x => toldIn hs x.f0 != 0) = (qs.take k).countP (fun x => toldIn hs x.f0 != 0) + (if toldIn hs qs[k].f0 != 0 then 1 else 0) := by
        rw [List.take_succ_eq_append_getElem hlt, List.countP_append, List.countP_singleton]
      have hle : (qs.take k).countP (fun x => toldIn hs x.f0 != 0) ≤ k := Nat.le_trans List.countP_le_length (by rw [List.length_take]; omega)
      have HCL := Aside0.mk (HH.out qs[k].f0)
      have HN := Aside0.mk hn
      have HJ := Aside0.mk (And.intro hlt hgg)
      have W3 := Aside0.mk (show wrap64 ((k : Int) + 1) = ((k + 1 : Nat) : Int) by have := HM.out; unfold wrap64; omega)
      have W4 := Aside0.mk (show wrap64 (((qs.take k).countP (fun x => toldIn hs x.f0 != 0) : Nat) + 1 : Int) = (((qs.take k).countP (fun x => toldIn hs x.f0 != 0) + 1 : Nat) : Int) by have := HM.out; unfold wrap64; omega)
      generalize (qs.take k).countP (fun x => toldIn hs x.f0 != 0) = m at HN W4 ⊢
      generalize qs[k].f0 = x at q0 HCL HN
      clear hrd hn hle hlt hgg hk q1
      go_wp2_with fail
      refine HCL.out.mono ?_
      rintro e w3 ⟨rfl, rfl⟩
      by_cases ht : toldIn hs x = 0
      · have hb : (toldIn hs x != 0) = false := by simp [ht]
        have HN1 := Aside0.mk (show (qs.take (k + 1)).countP (fun x => toldIn hs x.f0 != 0) = m by rw [HN.out, hb]; rfl)
        generalize toldIn hs x = tx at hb
        clear ht
        go_wp2
        go_roundg (qs.length - (k + 1))
        case measure => have := HJ.out; omega
        case rel => exact ⟨k + 1, by have := HJ.out; omega, by have := HJ.out; omega, by rw [W3.out], by rw [HN1.out], ⟨rfl⟩⟩
      · have hb : (toldIn hs x != 0) = true := by simp [ht]
        have HN1 := Aside0.mk (show (qs.take (k + 1)).countP (fun x => toldIn hs x.f0 != 0) = m + 1 by rw [HN.out, hb]; rfl)
        generalize toldIn hs x = tx at hb
        clear ht
        go_wp2
        go_roundg (qs.length - (k + 1))
        case measure => have := HJ.out; omega
        case rel => exact ⟨k + 1, by have := HJ.out; omega, by have := HJ.out; omega, by rw [W3.out], by rw [HN1.out, W4.out], ⟨rfl⟩⟩
    · obtain rfl : k = qs.length := by omega
      have HF := Aside0.mk (show (qs.take qs.length).countP (fun x => toldIn hs x.f0 != 0) = qs.countP (fun x => toldIn hs x.f0 != 0) by rw [List.take_length])
      have t1 : ¬ ((qs.length : Int) < (qs.length : Int)) := by omega
      clear hk hgg hlt
      go_wp2
      go_ret
      exact ⟨by first | rfl | (rw [HF.out]; rfl), rfl⟩
end Go.Proofs.Ytfpnadalfopmcaa.Ln
