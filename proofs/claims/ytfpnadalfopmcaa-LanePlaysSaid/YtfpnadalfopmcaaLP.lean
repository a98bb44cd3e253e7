import Derived.Test.YtfpnadalfopmcaaLr8
import Derived.Test.YtfpnadalfopmcaaLr9
import Derived.Test.YtfpnadalfopmcaaLr10
import Derived.Test.YtfpnadalfopmcaaLC
import Derived.Deep.RegionHeld3
import Derived.IntWalk
/- LanePlays: the program's lane beside the document's. -/
namespace Go.Proofs.Ytfpnadalfopmcaa.Ln
open Go.RowKit Go.Proofs.YtfpnadalfopmcaaW.PrintWords Go.Proofs.YtfpnadalfopmcaaW.PrintWords.Kd Go.Proofs.YtfpnadalfopmcaaW.PrintLast Go.Proofs.YtfpnadalfopmcaaW.PrintMore Go.Proofs.Ytfpnadalfopmcaa.PMd Go.Proofs.Ytfpnadalfopmcaa
open Go.Sort (grow)
set_option linter.unusedVariables false
set_option linter.unusedSimpArgs false
/-- Two lanes, apart, and blocks beside them that stay. -/
def Twin (X : Nat → Prop) (w0 w : World) (a b : Nat) (h q h' q' : List E) : Prop :=
  ∃ FA FB : Nat → Prop, IsLane w a FA h q ∧ IsLR w b FB h' q' ∧ (∀ k, FA k → w0.heap.size ≤ k ∧ k < w.heap.size ∧ ¬ X k) ∧ (∀ k, FB k → w0.heap.size ≤ k ∧ k < w.heap.size ∧ ¬ X k) ∧ (∀ k, FA k → FB k → False) ∧ (∀ k, X k → k < w.heap.size) ∧ Below w0.heap.size w0 w
section
variable {X : Nat → Prop} {w0 w w' : World} {a b : Nat} {h q h' q' h2 q2 : List E}
theorem Twin.bw (t : Twin X w0 w a b h q h' q') : Below w0.heap.size w0 w := by obtain ⟨_, _, _, _, _, _, _, _, h7⟩ := t; exact h7
theorem Twin.below (t : Twin X w0 w a b h q h' q') (hb : Below w.heap.size w w') : Twin X w0 w' a b h q h' q' := by
  obtain ⟨FA, FB, h1, h2, h3, h4, h5, h6, h7⟩ := t
  have s := hb.size
  exact ⟨FA, FB, h1.below hb, h2.below hb, fun k hk => ⟨(h3 k hk).1, by have := (h3 k hk).2.1; omega, (h3 k hk).2.2⟩, fun k hk => ⟨(h4 k hk).1, by have := (h4 k hk).2.1; omega, (h4 k hk).2.2⟩, h5, fun k hk => by have := h6 k hk; omega, below_then h7 h7.size hb⟩
theorem Twin.more (t : Twin X w0 w a b h q h' q') (hb : Below w.heap.size w w') {Y : Nat → Prop} (hY : ∀ k, Y k → w.heap.size ≤ k ∧ k < w'.heap.size) : Twin (fun k => X k ∨ Y k) w0 w' a b h q h' q' := by
  obtain ⟨FA, FB, h1, h2, h3, h4, h5, h6, h7⟩ := t
  have s := hb.size
  exact ⟨FA, FB, h1.below hb, h2.below hb, fun k hk => ⟨(h3 k hk).1, by have := (h3 k hk).2.1; omega, fun hx => hx.elim (h3 k hk).2.2 (fun hy => by have := hY k hy; have := (h3 k hk).2.1; omega)⟩, fun k hk => ⟨(h4 k hk).1, by have := (h4 k hk).2.1; omega, fun hx => hx.elim (h4 k hk).2.2 (fun hy => by have := hY k hy; have := (h4 k hk).2.1; omega)⟩, h5, fun k hk => hk.elim (fun hx => by have := h6 k hx; omega) (fun hy => (hY k hy).2), below_then h7 h7.size hb⟩
theorem Twin.less {Y : Nat → Prop} (t : Twin X w0 w a b h q h' q') (hY : ∀ k, Y k → X k) : Twin Y w0 w a b h q h' q' := by
  obtain ⟨FA, FB, h1, h2, h3, h4, h5, h6, h7⟩ := t
  exact ⟨FA, FB, h1, h2, fun k hk => ⟨(h3 k hk).1, (h3 k hk).2.1, fun hy => (h3 k hk).2.2 (hY k hy)⟩, fun k hk => ⟨(h4 k hk).1, (h4 k hk).2.1, fun hy => (h4 k hk).2.2 (hY k hy)⟩, h5, fun k hk => h6 k (hY k hk), h7⟩
/-- The program's lane has changed. -/
theorem Twin.stepA {FA FB : Nat → Prop} (h2 : IsLR w b FB h' q') (h3 : ∀ k, FA k → w0.heap.size ≤ k ∧ k < w.heap.size ∧ ¬ X k) (h4 : ∀ k, FB k → w0.heap.size ≤ k ∧ k < w.heap.size ∧ ¬ X k) (h5 : ∀ k, FA k → FB k → False) (h6 : ∀ k, X k → k < w.heap.size) (h7 : Below w0.heap.size w0 w)
    {hn qn : List E} {G : Nat → Prop} (hI : IsLane w' a G hn qn) (hG : ∀ k, G k → FA k ∨ w.heap.size ≤ k) (hg : Grew FA w w') : Twin X w0 w' a b hn qn h' q' ∧ Grew (fun k => ¬ X k) w w' := by
  obtain ⟨F1, i1, i2⟩ := hI.exact_
  have s := hg.size
  refine ⟨⟨F1, FB, i1, h2.move (fun k hk hl => hg.block k hl (fun h => h5 k h hk)), fun k hk => ?_, fun k hk => ⟨(h4 k hk).1, by have := (h4 k hk).2.1; omega, (h4 k hk).2.2⟩, fun k hk hk2 => ?_, fun k hk => by have := h6 k hk; omega, hg.to_below h7 h7.size (fun k hk => (h3 k hk).1)⟩, hg.mono (fun k _ hk => (h3 k hk).2.2)⟩
  · have h8 := i2 k hk
    rcases hG k h8.1 with h9 | h9
    · exact ⟨(h3 k h9).1, h8.2, (h3 k h9).2.2⟩
    · exact ⟨Nat.le_trans h7.size h9, h8.2, fun hx => by have := h6 k hx; omega⟩
  · rcases hG k (i2 k hk).1 with h9 | h9
    · exact h5 k h9 hk2
    · have := (h4 k hk2).2.1; omega
/-- The document's lane has changed. -/
theorem Twin.stepB {FA FB : Nat → Prop} (h1 : IsLane w a FA h q) (h3 : ∀ k, FA k → w0.heap.size ≤ k ∧ k < w.heap.size ∧ ¬ X k) (h4 : ∀ k, FB k → w0.heap.size ≤ k ∧ k < w.heap.size ∧ ¬ X k) (h5 : ∀ k, FA k → FB k → False) (h6 : ∀ k, X k → k < w.heap.size) (h7 : Below w0.heap.size w0 w)
    {hn qn : List E} {G : Nat → Prop} (hI : IsLR w' b G hn qn) (hG : ∀ k, G k → FB k ∨ w.heap.size ≤ k) (hg : Grew FB w w') : Twin X w0 w' a b h q hn qn ∧ Grew (fun k => ¬ X k) w w' := by
  obtain ⟨F1, i1, i2⟩ := hI.exact_
  have s := hg.size
  refine ⟨⟨FA, F1, h1.move (fun k hk hl => hg.block k hl (fun h => h5 k hk h)), i1, fun k hk => ⟨(h3 k hk).1, by have := (h3 k hk).2.1; omega, (h3 k hk).2.2⟩, fun k hk => ?_, fun k hk hk2 => ?_, fun k hk => by have := h6 k hk; omega, hg.to_below h7 h7.size (fun k hk => (h4 k hk).1)⟩, hg.mono (fun k _ hk => (h4 k hk).2.2)⟩
  · have h8 := i2 k hk
    rcases hG k h8.1 with h9 | h9
    · exact ⟨(h4 k h9).1, h8.2, (h4 k h9).2.2⟩
    · exact ⟨Nat.le_trans h7.size h9, h8.2, fun hx => by have := h6 k hx; omega⟩
  · rcases hG k (i2 k hk2).1 with h9 | h9
    · exact h5 k hk h9
    · have := (h3 k hk).2.1; omega
theorem AskA (t : Twin X w0 w a b h q h' q') (ha : Asc h) (hl : h.length ≤ 1000) (hl2 : q.length ≤ 1000) (who m : Int) :
    Calls Try.prog 6 #[.pointer (some ⟨a, 0, none⟩), .int .i64 who, .int .i64 m] w fun e w' => e = .returned (.int .i64 (askIn h q who m).1) ∧ Twin X w0 w' a b (askIn h q who m).2.1 (askIn h q who m).2.2 h' q' ∧ Grew (fun k => ¬ X k) w w' := by
  obtain ⟨FA, FB, h1, h2, h3, h4, h5, h6, h7⟩ := t
  refine (Ask_ w a FA h q who m h1 ha (by omega) (by omega)).mono ?_
  rintro e w' ⟨he, hI, hg⟩
  exact ⟨he, Twin.stepA h2 h3 h4 h5 h6 h7 hI (fun k hk => hk) hg⟩
theorem AskB (t : Twin X w0 w a b h q h' q') (hv : InvS h' q') (hl : h'.length ≤ 1000) (hl2 : q'.length ≤ 1000) (who m : Int) :
    Calls Try.prog 7 #[.pointer (some ⟨b, 0, none⟩), .int .i64 who, .int .i64 m] w fun e w' => e = .returned (.int .i64 (askIn h' q' who m).1) ∧ Twin X w0 w' a b h q (askIn h' q' who m).2.1 (askIn h' q' who m).2.2 ∧ Grew (fun k => ¬ X k) w w' := by
  obtain ⟨FA, FB, h1, h2, h3, h4, h5, h6, h7⟩ := t
  refine (Ask_R w b FB h' q' who m h2 hv (by omega) (by omega)).mono ?_
  rintro e w' ⟨he, hI, hg⟩
  exact ⟨he, Twin.stepB h1 h3 h4 h5 h6 h7 hI (fun k hk => hk) hg⟩
theorem LeaveA (t : Twin X w0 w a b h q h' q') (ha : Asc h) (hl : h.length ≤ 1000) (hl2 : q.length ≤ 1000) (who : Int) :
    Calls Try.prog 9 #[.pointer (some ⟨a, 0, none⟩), .int .i64 who] w fun e w' => ∃ A' c', e = .returned (.slice A' (leaveIn h q who).1.length c') ∧ Row w' 3 1 A' (leaveIn h q who).1.length c' (ints (leaveIn h q who).1) ∧
      Twin (fun k => X k ∨ blk A' k) w0 w' a b (leaveIn h q who).2.1 (leaveIn h q who).2.2 h' q' ∧ Grew (fun k => ¬ X k) w w' := by
  obtain ⟨FA, FB, h1, h2, h3, h4, h5, h6, h7⟩ := t
  refine (Leave_ w a FA h q who h1 ha (by omega) (fun k hk => (h3 k hk).2.1)).mono ?_
  rintro e w' ⟨A', c', he, hR, hk, hI, hg⟩
  obtain ⟨F1, j1, j2⟩ := hI.exact_
  have s := hg.size
  refine ⟨A', c', he, hR, ⟨F1, FB, j1, h2.move (fun k hk' hl => hg.block k hl (fun h => h5 k h hk')), fun k hk' => ⟨?_, (j2 k hk').2, fun hx => hx.elim (fun hx => ?_) (fun hb => (j2 k hk').1.2 hb)⟩, fun k hk' => ⟨(h4 k hk').1, by have := (h4 k hk').2.1; omega, fun hx => hx.elim (h4 k hk').2.2 (fun hb => by have := hk k hb; have := (h4 k hk').2.1; omega)⟩, fun k hk' hk2 => ?_, fun k hx => hx.elim (fun hx => by have := h6 k hx; omega) (fun hb => hR.lt hb), hg.to_below h7 h7.size (fun k hk => (h3 k hk).1)⟩, hg.mono (fun k _ hk => (h3 k hk).2.2)⟩
  · rcases (j2 k hk').1.1 with h9 | h9
    · exact (h3 k h9).1
    · exact Nat.le_trans h7.size h9
  · rcases (j2 k hk').1.1 with h9 | h9
    · exact (h3 k h9).2.2 hx
    · have := h6 k hx; omega
  · rcases (j2 k hk').1.1 with h9 | h9
    · exact h5 k h9 hk2
    · have := (h4 k hk2).2.1; omega
theorem LeaveB (t : Twin X w0 w a b h q h' q') (ha : Asc h') (hm1 : ∀ x ∈ h', md x.f1) (hm2 : ∀ x ∈ q', md x.f1) (hl : h'.length ≤ 1000) (hl2 : q'.length ≤ 1000) (who : Int) :
    Calls Try.prog 10 #[.pointer (some ⟨b, 0, none⟩), .int .i64 who] w fun e w' => ∃ A' c', e = .returned (.slice A' (leaveIn h' q' who).1.length c') ∧ Row w' 3 1 A' (leaveIn h' q' who).1.length c' (ints (leaveIn h' q' who).1) ∧
      Twin X w0 w' a b h q (leaveIn h' q' who).2.1 (leaveIn h' q' who).2.2 ∧ Grew (fun k => ¬ X k) w w' := by
  obtain ⟨FA, FB, h1, h2, h3, h4, h5, h6, h7⟩ := t
  refine (Leave_R w b FB h' q' who h2 ha hm1 hm2 (by omega) (fun k hk => (h4 k hk).2.1)).mono ?_
  rintro e w' ⟨A', c', he, hR, hk, hI, hg⟩
  obtain ⟨t2, g2⟩ := Twin.stepB (a := a) h1 h3 h4 h5 h6 h7 hI (fun k hk => hk.1) hg
  exact ⟨A', c', he, hR, t2, g2⟩
/-- What an end finds: both lanes can be read. -/
theorem Twin.la (t : Twin X w0 w a b h q h' q') : ∃ F, IsLane w a F h q := by obtain ⟨FA, FB, h1, _⟩ := t; exact ⟨FA, h1⟩
theorem Twin.lb (t : Twin X w0 w a b h q h' q') : ∃ F, IsLR w b F h' q' := by obtain ⟨FA, FB, _, h2, _⟩ := t; exact ⟨FB, h2⟩
end
theorem same_l0 (l : List E) (hl : l.length ≤ 1000000) (d : Nat) : ∀ i k : Nat, i + d = l.length → d < k → ltkref8_SameEntries.l0 k l l (i : Int) = some true := by
  induction d with
  | zero =>
    intro i k h hk
    obtain ⟨k, rfl⟩ : ∃ j, k = j + 1 := ⟨k - 1, by omega⟩
    simp only [ltkref8_SameEntries.l0]
    rw [if_neg (by omega)]
  | succ d ih =>
    intro i k h hk
    obtain ⟨k, rfl⟩ : ∃ j, k = j + 1 := ⟨k - 1, by omega⟩
    have hw : wrap64 ((i : Int) + 1) = ((i + 1 : Nat) : Int) := by unfold wrap64; omega
    simp only [ltkref8_SameEntries.l0]
    rw [if_pos (by omega)]
    simp only [hw, ih (i + 1) k (by omega) (by omega)]
    simp
    omega
theorem Same_E (A : Option Addr) (c : Nat) (l : List E) (A1 : Option Addr) (c1 : Nat) (w : World) (hr0 : Kd.C k50 w A l.length l) (hc0 : l.length ≤ c) (hr1 : Kd.C k50 w A1 l.length l) (hc1 : l.length ≤ c1) (hl : l.length ≤ 1000000) :
    Calls Try.prog 17 #[.slice A l.length c, .slice A1 l.length c1] w fun e w' => e = .returned (.bool true) ∧ Below w.heap.size w w' :=
  (ltkref8_SameEntries.calls (l.length + 1) A c l A1 c1 l true w hr0 hc0 hr1 hc1 (by unfold ltkref8_SameEntries.f; rw [if_pos rfl]; exact same_l0 l hl l.length 0 _ (by omega) (by omega))).mono fun _ _ ⟨h1, h2⟩ => ⟨h1, by obtain ⟨n, rfl⟩ := h2.out; exact pw_below_drewN (Below.refl _ _) _⟩
theorem Ints_B (A : Option Addr) (c : Nat) (l : List Int) (A1 : Option Addr) (c1 : Nat) (w : World) (hr0 : Row w 3 1 A l.length c (ints l)) (hr1 : Row w 3 1 A1 l.length c1 (ints l)) (hl : l.length ≤ 1000000) :
    Calls Try.prog 8 #[.slice A l.length c, .slice A1 l.length c1] w fun e w' => e = .returned (.bool true) ∧ Below w.heap.size w w' :=
  (Ints_same A c l A1 c1 w hr0.readsI hr0.2.1 hr1.readsI hr1.2.1 hl).mono fun _ _ ⟨h1, h2⟩ => ⟨h1, by obtain ⟨n, rfl⟩ := h2.out; exact pw_below_drewN (Below.refl _ _) _⟩
theorem blocks_len' (hs qs : List E) (who : Int) : (blocksIn hs qs who).length ≤ hs.length + qs.length := by
  unfold blocksIn
  split
  · simp
  · refine Nat.le_trans (compact_le _) ?_
    unfold sortedI blocksAt
    rw [List.length_mergeSort, List.length_append, List.length_map, List.length_map, List.length_take]
    have := List.length_filter_le (inWay who (qs.getD (ix (fun x => x.f0 == who) qs).toNat z50).f1) hs
    omega
theorem leave1_len {hs qs : List E} (h : Inv hs qs) (who : Int) : (leaveIn hs qs who).1.length ≤ qs.length := by
  obtain ⟨n, hn, h1, _⟩ := leave_spec h who
  rw [h1, List.length_map, List.length_take]
  have : (fl qs who).length ≤ qs.length := List.length_filter_le _ _
  omega
theorem leave2_len {hs qs : List E} (h : Inv hs qs) (who : Int) : (leaveIn hs qs who).2.1.length + (leaveIn hs qs who).2.2.length ≤ hs.length + qs.length := by
  have h1 := leave_len h who
  have h2 : (fl qs who).length ≤ qs.length := List.length_filter_le _ _
  have h3 : (fl hs who).length ≤ hs.length := List.length_filter_le _ _
  omega
set_option maxHeartbeats 16000000 in
set_option maxRecDepth 100000 in
theorem plays_long (A : Option Addr) (c : Nat) (l : List Op3) (w : World) (h1 : 300 < l.length) :
    Calls Try.prog 3 #[.slice A l.length c] w fun e w' => e = .returned (.bool true) ∧ Below w.heap.size w w' := by
  go_enter Try.func3, Try.ntmps3
  go_wp2_with fail
  refine (first_ w w (Below.refl _ _)).mono ?_
  rintro e w1 ⟨rfl, hb⟩
  have HB := Aside0.mk hb
  clear hb
  go_wp2_with fail
  refine (New_L w w1 HB.out).mono ?_
  rintro e w2 ⟨rfl, hL, _⟩
  have HL := Aside0.mk hL
  have HB2 := Aside0.mk (below_alloc hL.2.2 (.cells #[.slice none 0 0, .slice none 0 0] 29))
  clear hL
  go_wp2_with fail
  refine (first_ w _ HB2.out).mono ?_
  rintro e w3 ⟨rfl, hb3⟩
  have HB3 := Aside0.mk (below_then HB2.out HB2.out.size hb3)
  clear hb3
  go_wp2
  go_ret
  exact ⟨rfl, HB3.out⟩
set_option maxHeartbeats 64000000 in
set_option maxRecDepth 100000 in
theorem plays_in (A : Option Addr) (c : Nat) (l : List Op3) (w : World) (hr : Kd.C kOp w A l.length l) (hc : l.length ≤ c) (h1 : l.length ≤ 300) :
    Calls Try.prog 3 #[.slice A l.length c] w fun e w' => e = .returned (.bool true) ∧ Below w.heap.size w w' := by
  have mixed : Try.prog.follows Departure.mixedOrders = true := by kernel_rfl
  have hu73 := Try.underlying31
  have hu := Try.underlying29
  have HR := Aside0.mk hr
  clear hr
  go_enter Try.func3, Try.ntmps3
  go_wp2_with fail
  refine (first_ w w (Below.refl _ _)).mono ?_
  rintro e w1 ⟨rfl, hb⟩
  have HB := Aside0.mk hb
  clear hb
  go_wp2_with fail
  refine (New_L w w1 HB.out).mono ?_
  rintro e w2 ⟨rfl, hL, _⟩
  have HT := Aside0.mk (show Twin (fun _ => False) w (w2.alloc (.cells #[.slice none 0 0, .slice none 0 0] 29)) w1.heap.size w2.heap.size [] [] [] [] from by
    obtain ⟨F0, i1, i2⟩ := hL.1.exact_
    refine ⟨F0, fun k => k = w2.heap.size, i1.below (below_alloc (Below.refl _ _) _), ⟨none, 0, none, 0, blk_new w2 _, rfl, Row.zero _ _ _, fun k h => (blk_none h).elim, Row.zero _ _ _, fun k h => (blk_none h).elim, fun k h => (blk_none h).elim⟩, fun k hk => ⟨(i2 k hk).1, by have := (i2 k hk).2; simp; omega, id⟩, fun k hk => ⟨by have := hL.2.2.size; omega, by simp; omega, id⟩, fun k hk h2 => by have := (i2 k hk).2; omega, fun _ h => h.elim, below_alloc hL.2.2 _⟩)
  clear hL HB
  go_wp2_with fail
  obtain ⟨W3, hW3⟩ : ∃ W, W = w2.alloc (.cells #[.slice none 0 0, .slice none 0 0] 29) := ⟨_, rfl⟩
  rw [← hW3] at HT ⊢
  obtain ⟨a, ha⟩ : ∃ a, a = w1.heap.size := ⟨_, rfl⟩
  obtain ⟨b, hb⟩ : ∃ b, b = w2.heap.size := ⟨_, rfl⟩
  rw [← ha, ← hb] at HT
  rw [← ha, ← hb]
  clear hW3 ha hb
  go_loopg [5] l.length (fun gg v wr => ∃ (i : Nat) (h q : List E), i ≤ l.length ∧ l.length - i ≤ gg ∧ v = .int .i64 i ∧ Aside0 (Twin (fun _ => False) w wr a b h q h q) ∧ Aside0 (Inv h q ∧ h.length + q.length ≤ i))
  case atStart => exact ⟨0, [], [], by omega, by omega, rfl, HT, ⟨inv_nil, Nat.le_refl _⟩⟩
  case round =>
    clear HT
    obtain ⟨i, h, q, hi, hgg, rfl, HTi, HVi⟩ := hrel
    by_cases hlt : i < l.length
    · have t1 : (i : Int) < l.length := by omega
      have t0 : 0 ≤ (i : Int) := by omega
      have HI := Aside0.mk (And.intro hlt (And.intro h1 hgg))
      have W3 := Aside0.mk (show wrap64 ((i : Int) + 1) = ((i + 1 : Nat) : Int) by unfold wrap64; omega)
      obtain ⟨ad, rfl, q0, q1, q2⟩ := at_Op (Kd.C_below HR.out HTi.out.bw) i hlt
      generalize l.getD i zOp = o at q0 q1 q2
      obtain ⟨g, hg⟩ : ∃ g, g = wr.heap.size := ⟨_, rfl⟩
      have HBX := Aside0.mk (blk_new wr (.cells #[.int .i64 o.f0, .int .i64 o.f1, .int .i64 o.f2] 31))
      have HTX := Aside0.mk ((HTi.out.more (below_alloc (Below.refl wr.heap.size wr) (.cells #[.int .i64 o.f0, .int .i64 o.f1, .int .i64 o.f2] 31)) (Y := fun k => k = wr.heap.size) (fun k hk => by subst hk; exact ⟨Nat.le_refl _, by simp⟩)).less (Y := fun k => k = wr.heap.size) (fun k hk => .inr hk))
      obtain ⟨wx, hwx⟩ : ∃ W, W = wr.alloc (.cells #[.int .i64 o.f0, .int .i64 o.f1, .int .i64 o.f2] 31) := ⟨_, rfl⟩
      go_upto_if 36 with fail
      rw [← hwx, ← hg] at HBX
      rw [← hwx, ← hg] at HTX
      rw [← hwx]
      (try rw [← hg])
      have x0 : wx.cell? ⟨g, 0, none⟩ = some (.int .i64 o.f0) := (blk_cell HBX.out 0).trans rfl
      have HX1 := Aside0.mk (show wx.cell? ⟨g, 1, none⟩ = some (.int .i64 o.f1) from (blk_cell HBX.out 1).trans rfl)
      have HX2 := Aside0.mk (show wx.cell? ⟨g, 2, none⟩ = some (.int .i64 o.f2) from (blk_cell HBX.out 2).trans rfl)
      have HI1 := Aside0.mk (show h.length ≤ 1000 ∧ q.length ≤ 1000 by have := HVi.out.2; omega)
      clear q0 q1 q2 hg hwx HTi HBX
      go_cut [] (fun wy => ∃ h2 q2 : List E, Aside0 (Twin (fun k => k = g) w wy a b h2 q2 h2 q2) ∧ Aside0 (Inv h2 q2 ∧ h2.length + q2.length ≤ i + 1) ∧ Aside0 (wy.cell? ⟨g, 1, none⟩ = some (.int .i64 o.f1)))
      case first =>
        have HTd := Aside0.mk (HTX.out.below (below_drew (Below.refl _ _)))
        have D0 := Aside0.mk (show wx.drew.cell? ⟨g, 1, none⟩ = some (.int .i64 o.f1) ∧ wx.drew.cell? ⟨g, 2, none⟩ = some (.int .i64 o.f2) from ⟨HX1.out, HX2.out⟩)
        by_cases hkd : o.f0 = 0
        · have k0 : (o.f0 == 0) = true := beq_iff_eq.2 hkd
          have HAA := Aside0.mk (fun W (t : Twin (fun k => k = g) w W a b h q h q) => AskA t HVi.out.1.asc HI1.out.1 HI1.out.2 o.f1 o.f2)
          have HAB := Aside0.mk (fun W h2 q2 (t : Twin (fun k => k = g) w W a b h2 q2 h q) => AskB t HVi.out.1.toInvS HI1.out.1 HI1.out.2 o.f1 o.f2)
          have HV2 := Aside0.mk (show Inv (askIn h q o.f1 o.f2).2.1 (askIn h q o.f1 o.f2).2.2 ∧ (askIn h q o.f1 o.f2).2.1.length + (askIn h q o.f1 o.f2).2.2.length ≤ i + 1 from ⟨inv_ask HVi.out.1 _ _, by have := ask_len h q o.f1 o.f2; have := HVi.out.2; omega⟩)
          generalize (askIn h q o.f1 o.f2).2.1 = h2 at HAA HAB HV2
          generalize (askIn h q o.f1 o.f2).2.2 = q2 at HAA HAB HV2
          generalize (askIn h q o.f1 o.f2).1 = r at HAA HAB
          clear hkd x0
          go_wp2_with fail
          refine wp_region_held_drew (S := (fun W => W.cell? ⟨g, 1, none⟩ = some (.int .i64 o.f1) ∧ W.cell? ⟨g, 2, none⟩ = some (.int .i64 o.f2))) (by kernel_rfl) ?_ (fun hH => ?_)
          · exact D0.out
          refine wpAnyH_take (i := 0) (oi := { dst := some 37, op := Op.move (Operand.tmp 3), type := 24, pos := "law.go:37", after := #[], guard := none }) (v := ?va1) rfl (by kernel_rfl) (by kernel_rfl) (by kernel_rfl) (fun _ _ _ h => h) (Or.inl ⟨by rfl, ?ya1⟩) (by assumption) ?ra1
          case ya1 => (intro w hSw; (try dsimp only at hSw); go_simp; (try with_reducible rfl))
          (try simp only [Act.put, List.setIfInBounds_toArray, List.set_cons_zero, List.set_cons_succ])
          refine wpAnyH_take (i := 1) (oi := { dst := some 38, op := Op.fieldAddr 31 (Operand.tmp 6) 1, type := 0, pos := "law.go:37", after := #[], guard := none }) (v := ?va2) rfl (by kernel_rfl) (by kernel_rfl) (by kernel_rfl) (fun _ _ _ h => h) (Or.inl ⟨by rfl, ?ya2⟩) (by assumption) ?ra2
          case ya2 => (intro w hSw; (try dsimp only at hSw); go_simp; (try with_reducible rfl))
          (try simp only [Act.put, List.setIfInBounds_toArray, List.set_cons_zero, List.set_cons_succ])
          refine wpAnyH_take (i := 2) (oi := { dst := some 39, op := Op.load 3 (Operand.tmp 38), type := 3, pos := "law.go:37", after := #[{ on := 1, ground := Ground.data }], guard := none }) (v := ?va3) rfl (by kernel_rfl) (by kernel_rfl) (by kernel_rfl) (fun _ _ _ h => h) (Or.inl ⟨by rfl, ?ya3⟩) (by assumption) ?ra3
          case ya3 => (intro w hSw; (try dsimp only at hSw); go_simp; (try with_reducible rfl))
          (try simp only [Act.put, List.setIfInBounds_toArray, List.set_cons_zero, List.set_cons_succ])
          refine wpAnyH_take (i := 3) (oi := { dst := some 40, op := Op.fieldAddr 31 (Operand.tmp 6) 2, type := 0, pos := "law.go:37", after := #[], guard := none }) (v := ?va4) rfl (by kernel_rfl) (by kernel_rfl) (by kernel_rfl) (fun _ _ _ h => h) (Or.inl ⟨by rfl, ?ya4⟩) (by assumption) ?ra4
          case ya4 => (intro w hSw; (try dsimp only at hSw); go_simp; (try with_reducible rfl))
          (try simp only [Act.put, List.setIfInBounds_toArray, List.set_cons_zero, List.set_cons_succ])
          refine wpAnyH_take (i := 4) (oi := { dst := some 41, op := Op.load 3 (Operand.tmp 40), type := 3, pos := "law.go:37", after := #[{ on := 3, ground := Ground.data }], guard := none }) (v := ?va5) rfl (by kernel_rfl) (by kernel_rfl) (by kernel_rfl) (fun _ _ _ h => h) (Or.inl ⟨by rfl, ?ya5⟩) (by assumption) ?ra5
          case ya5 => (intro w hSw; (try dsimp only at hSw); go_simp; (try with_reducible rfl))
          (try simp only [Act.put, List.setIfInBounds_toArray, List.set_cons_zero, List.set_cons_succ])
          refine wpAnyH_take (i := 6) (oi := { dst := some 43, op := Op.move (Operand.tmp 4), type := 26, pos := "law.go:37", after := #[], guard := none }) (v := ?va6) rfl (by kernel_rfl) (by kernel_rfl) (by kernel_rfl) (fun _ _ _ h => h) (Or.inl ⟨by rfl, ?ya6⟩) (by assumption) ?ra6
          case ya6 => (intro w hSw; (try dsimp only at hSw); go_simp; (try with_reducible rfl))
          (try simp only [Act.put, List.setIfInBounds_toArray, List.set_cons_zero, List.set_cons_succ])
          refine wpAnyH_take (i := 7) (oi := { dst := some 44, op := Op.fieldAddr 31 (Operand.tmp 6) 1, type := 0, pos := "law.go:37", after := #[], guard := none }) (v := ?va7) rfl (by kernel_rfl) (by kernel_rfl) (by kernel_rfl) (fun _ _ _ h => h) (Or.inl ⟨by rfl, ?ya7⟩) (by assumption) ?ra7
          case ya7 => (intro w hSw; (try dsimp only at hSw); go_simp; (try with_reducible rfl))
          (try simp only [Act.put, List.setIfInBounds_toArray, List.set_cons_zero, List.set_cons_succ])
          refine wpAnyH_take (i := 8) (oi := { dst := some 45, op := Op.load 3 (Operand.tmp 44), type := 3, pos := "law.go:37", after := #[{ on := 7, ground := Ground.data }], guard := none }) (v := ?va8) rfl (by kernel_rfl) (by kernel_rfl) (by kernel_rfl) (fun _ _ _ h => h) (Or.inl ⟨by rfl, ?ya8⟩) (by assumption) ?ra8
          case ya8 => (intro w hSw; (try dsimp only at hSw); go_simp; (try with_reducible rfl))
          (try simp only [Act.put, List.setIfInBounds_toArray, List.set_cons_zero, List.set_cons_succ])
          refine wpAnyH_take (i := 9) (oi := { dst := some 46, op := Op.fieldAddr 31 (Operand.tmp 6) 2, type := 0, pos := "law.go:37", after := #[], guard := none }) (v := ?va9) rfl (by kernel_rfl) (by kernel_rfl) (by kernel_rfl) (fun _ _ _ h => h) (Or.inl ⟨by rfl, ?ya9⟩) (by assumption) ?ra9
          case ya9 => (intro w hSw; (try dsimp only at hSw); go_simp; (try with_reducible rfl))
          (try simp only [Act.put, List.setIfInBounds_toArray, List.set_cons_zero, List.set_cons_succ])
          refine wpAnyH_take (i := 10) (oi := { dst := some 47, op := Op.load 3 (Operand.tmp 46), type := 3, pos := "law.go:37", after := #[{ on := 9, ground := Ground.data }], guard := none }) (v := ?va10) rfl (by kernel_rfl) (by kernel_rfl) (by kernel_rfl) (fun _ _ _ h => h) (Or.inl ⟨by rfl, ?ya10⟩) (by assumption) ?ra10
          case ya10 => (intro w hSw; (try dsimp only at hSw); go_simp; (try with_reducible rfl))
          (try simp only [Act.put, List.setIfInBounds_toArray, List.set_cons_zero, List.set_cons_succ])
          refine wpAnyH_ready (rs := [5]) (by kernel_rfl) (by simp) ?_
          refine AllReadyH.cons (o := { dst := some 42, op := Op.call { callee := Callee.value (Operand.func 6), args := #[Operand.tmp 37, Operand.tmp 39, Operand.tmp 41], argTypes := #[24, 3, 3] }, type := 3, pos := "law.go:37", after := #[{ on := 0, ground := Ground.data }, { on := 2, ground := Ground.data }, { on := 4, ground := Ground.data }], guard := none }) rfl (fun K hK => ?_) AllReadyH.nil
          go_simp
          (go_at_call 6; (with_reducible refine (HAA.out _ HTd.out).mono ?_); rintro e w5 ⟨rfl, t5, g5⟩; have T5 := Aside0.mk t5; have D5 := Aside0.mk (And.intro (g5.cell D0.out.1 (fun h => h rfl)) (g5.cell D0.out.2 (fun h => h rfl))); clear t5 g5)
          go_wp2_with fail
          refine hK.out _ _ ?_ (fun hHa10 => ?_)
          · (try dsimp only)
            exact D5.out
          clear hK K hH
          (try simp only [Act.put, List.setIfInBounds_toArray, List.set_cons_zero, List.set_cons_succ])
          refine wpAnyH_ready (rs := [11]) (by kernel_rfl) (by simp) ?_
          refine AllReadyH.cons (o := { dst := some 48, op := Op.call { callee := Callee.value (Operand.func 7), args := #[Operand.tmp 43, Operand.tmp 45, Operand.tmp 47], argTypes := #[26, 3, 3] }, type := 3, pos := "law.go:37", after := #[{ on := 6, ground := Ground.data }, { on := 8, ground := Ground.data }, { on := 10, ground := Ground.data }, { on := 5, ground := Ground.chain }], guard := none }) rfl (fun K hK => ?_) AllReadyH.nil
          go_simp
          (go_at_call 7; (with_reducible refine (HAB.out _ _ _ T5.out).mono ?_); rintro e w11 ⟨rfl, t11, g11⟩; have T11 := Aside0.mk t11; have D11 := Aside0.mk (And.intro (g11.cell D5.out.1 (fun h => h rfl)) (g11.cell D5.out.2 (fun h => h rfl))); clear t11 g11)
          go_wp2_with fail
          refine hK.out _ _ ?_ (fun hHa11 => ?_)
          · (try dsimp only)
            exact D11.out
          clear hK K hHa10
          (try simp only [Act.put, List.setIfInBounds_toArray, List.set_cons_zero, List.set_cons_succ])
          refine wpAnyH_take (i := 12) (oi := { dst := some 49, op := Op.binOp BinOp.neq 3 (Operand.tmp 42) (Operand.tmp 48) 3, type := 4, pos := "law.go:37", after := #[{ on := 5, ground := Ground.data }, { on := 11, ground := Ground.data }], guard := none }) (v := ?va13) rfl (by kernel_rfl) (by kernel_rfl) (by kernel_rfl) (fun _ _ _ h => h) (Or.inl ⟨by rfl, ?ya13⟩) (by assumption) ?ra13
          case ya13 => (intro w hSw; (try dsimp only at hSw); go_simp; (try with_reducible rfl))
          (try simp only [Act.put, List.setIfInBounds_toArray, List.set_cons_zero, List.set_cons_succ])
          refine wpAnyH_done (by kernel_rfl) ?_ _
          go_wp2_with fail
          go_meet
          case rel => exact ⟨h2, q2, T11, HV2, ⟨D11.out.1⟩⟩
        · have k0 : (o.f0 == 0) = false := beq_eq_false_iff_ne.2 hkd
          have HAA := Aside0.mk (fun W (t : Twin (fun k => k = g) w W a b h q h q) => LeaveA t HVi.out.1.asc HI1.out.1 HI1.out.2 o.f1)
          have HAB := Aside0.mk (fun W X h2 q2 (t : Twin X w W a b h2 q2 h q) => LeaveB t HVi.out.1.asc (fun x hx => (HVi.out.1.mh x hx).1) (fun x hx => (HVi.out.1.mq x hx).1) HI1.out.1 HI1.out.2 o.f1)
          have HV2 := Aside0.mk (show Inv (leaveIn h q o.f1).2.1 (leaveIn h q o.f1).2.2 ∧ (leaveIn h q o.f1).2.1.length + (leaveIn h q o.f1).2.2.length ≤ i + 1 from ⟨by obtain ⟨n, _, _, _, h9, _⟩ := leave_spec HVi.out.1 o.f1; exact h9, by have := leave2_len HVi.out.1 o.f1; have := HVi.out.2; omega⟩)
          have HRL := Aside0.mk (show (leaveIn h q o.f1).1.length ≤ 1000000 by have := leave1_len HVi.out.1 o.f1; have := HI1.out; omega)
          generalize (leaveIn h q o.f1).2.1 = h2 at HAA HAB HV2
          generalize (leaveIn h q o.f1).2.2 = q2 at HAA HAB HV2
          generalize (leaveIn h q o.f1).1 = r at HAA HAB HRL
          clear hkd x0
          go_wp2_with fail
          refine wp_region_held_drew (S := (fun W => W.cell? ⟨g, 1, none⟩ = some (.int .i64 o.f1) ∧ W.cell? ⟨g, 2, none⟩ = some (.int .i64 o.f2))) (by kernel_rfl) ?_ (fun hH => ?_)
          · exact D0.out
          refine wpAnyH_take (i := 0) (oi := { dst := some 50, op := Op.move (Operand.tmp 3), type := 24, pos := "law.go:40", after := #[], guard := none }) (v := ?vb1) rfl (by kernel_rfl) (by kernel_rfl) (by kernel_rfl) (fun _ _ _ h => h) (Or.inl ⟨by rfl, ?yb1⟩) (by assumption) ?rb1
          case yb1 => (intro w hSw; (try dsimp only at hSw); go_simp; (try with_reducible rfl))
          (try simp only [Act.put, List.setIfInBounds_toArray, List.set_cons_zero, List.set_cons_succ])
          refine wpAnyH_take (i := 1) (oi := { dst := some 51, op := Op.fieldAddr 31 (Operand.tmp 6) 1, type := 0, pos := "law.go:40", after := #[], guard := none }) (v := ?vb2) rfl (by kernel_rfl) (by kernel_rfl) (by kernel_rfl) (fun _ _ _ h => h) (Or.inl ⟨by rfl, ?yb2⟩) (by assumption) ?rb2
          case yb2 => (intro w hSw; (try dsimp only at hSw); go_simp; (try with_reducible rfl))
          (try simp only [Act.put, List.setIfInBounds_toArray, List.set_cons_zero, List.set_cons_succ])
          refine wpAnyH_take (i := 2) (oi := { dst := some 52, op := Op.load 3 (Operand.tmp 51), type := 3, pos := "law.go:40", after := #[{ on := 1, ground := Ground.data }], guard := none }) (v := ?vb3) rfl (by kernel_rfl) (by kernel_rfl) (by kernel_rfl) (fun _ _ _ h => h) (Or.inl ⟨by rfl, ?yb3⟩) (by assumption) ?rb3
          case yb3 => (intro w hSw; (try dsimp only at hSw); go_simp; (try with_reducible rfl))
          (try simp only [Act.put, List.setIfInBounds_toArray, List.set_cons_zero, List.set_cons_succ])
          refine wpAnyH_take (i := 4) (oi := { dst := some 54, op := Op.move (Operand.tmp 4), type := 26, pos := "law.go:40", after := #[], guard := none }) (v := ?vb4) rfl (by kernel_rfl) (by kernel_rfl) (by kernel_rfl) (fun _ _ _ h => h) (Or.inl ⟨by rfl, ?yb4⟩) (by assumption) ?rb4
          case yb4 => (intro w hSw; (try dsimp only at hSw); go_simp; (try with_reducible rfl))
          (try simp only [Act.put, List.setIfInBounds_toArray, List.set_cons_zero, List.set_cons_succ])
          refine wpAnyH_take (i := 5) (oi := { dst := some 55, op := Op.fieldAddr 31 (Operand.tmp 6) 1, type := 0, pos := "law.go:40", after := #[], guard := none }) (v := ?vb5) rfl (by kernel_rfl) (by kernel_rfl) (by kernel_rfl) (fun _ _ _ h => h) (Or.inl ⟨by rfl, ?yb5⟩) (by assumption) ?rb5
          case yb5 => (intro w hSw; (try dsimp only at hSw); go_simp; (try with_reducible rfl))
          (try simp only [Act.put, List.setIfInBounds_toArray, List.set_cons_zero, List.set_cons_succ])
          refine wpAnyH_take (i := 6) (oi := { dst := some 56, op := Op.load 3 (Operand.tmp 55), type := 3, pos := "law.go:40", after := #[{ on := 5, ground := Ground.data }], guard := none }) (v := ?vb6) rfl (by kernel_rfl) (by kernel_rfl) (by kernel_rfl) (fun _ _ _ h => h) (Or.inl ⟨by rfl, ?yb6⟩) (by assumption) ?rb6
          case yb6 => (intro w hSw; (try dsimp only at hSw); go_simp; (try with_reducible rfl))
          (try simp only [Act.put, List.setIfInBounds_toArray, List.set_cons_zero, List.set_cons_succ])
          refine wpAnyH_ready (rs := [3]) (by kernel_rfl) (by simp) ?_
          refine AllReadyH.cons (o := { dst := some 53, op := Op.call { callee := Callee.value (Operand.func 9), args := #[Operand.tmp 50, Operand.tmp 52], argTypes := #[24, 3] }, type := 34, pos := "law.go:40", after := #[{ on := 0, ground := Ground.data }, { on := 2, ground := Ground.data }], guard := none }) rfl (fun K hK => ?_) AllReadyH.nil
          go_simp
          (go_at_call 9; (with_reducible refine (HAA.out _ HTd.out).mono ?_); rintro e w5 ⟨A5, c5, rfl, r5, t5, g5⟩; have R5 := Aside0.mk r5; have T5 := Aside0.mk t5; have D3 := Aside0.mk (And.intro (g5.cell D0.out.1 (fun h => h rfl)) (g5.cell D0.out.2 (fun h => h rfl))); clear r5 t5 g5)
          go_wp2_with fail
          refine hK.out _ _ ?_ (fun hHb6 => ?_)
          · (try dsimp only)
            exact D3.out
          clear hK K hH
          (try simp only [Act.put, List.setIfInBounds_toArray, List.set_cons_zero, List.set_cons_succ])
          refine wpAnyH_ready (rs := [7]) (by kernel_rfl) (by simp) ?_
          refine AllReadyH.cons (o := { dst := some 57, op := Op.call { callee := Callee.value (Operand.func 10), args := #[Operand.tmp 54, Operand.tmp 56], argTypes := #[26, 3] }, type := 34, pos := "law.go:40", after := #[{ on := 4, ground := Ground.data }, { on := 6, ground := Ground.data }, { on := 3, ground := Ground.chain }], guard := none }) rfl (fun K hK => ?_) AllReadyH.nil
          go_simp
          (go_at_call 10; (with_reducible refine (HAB.out _ _ _ _ T5.out).mono ?_); rintro e w7 ⟨A7, c7, rfl, r7, t7, g7⟩; have R7 := Aside0.mk r7; have T7 := Aside0.mk t7; have R57 := Aside0.mk (R5.out.grew g7 (fun k hk h => h (.inr hk))); have D7 := Aside0.mk (And.intro (g7.cell D3.out.1 (fun h => h (.inl rfl))) (g7.cell D3.out.2 (fun h => h (.inl rfl)))); clear r7 t7 g7)
          go_wp2_with fail
          refine hK.out _ _ ?_ (fun hHb7 => ?_)
          · (try dsimp only)
            exact D7.out
          clear hK K hHb6
          (try simp only [Act.put, List.setIfInBounds_toArray, List.set_cons_zero, List.set_cons_succ])
          refine wpAnyH_ready (rs := [8]) (by kernel_rfl) (by simp) ?_
          refine AllReadyH.cons (o := { dst := some 58, op := Op.call { callee := Callee.value (Operand.func 8), args := #[Operand.tmp 53, Operand.tmp 57], argTypes := #[34, 34] }, type := 4, pos := "law.go:40", after := #[{ on := 3, ground := Ground.data }, { on := 7, ground := Ground.data }, { on := 7, ground := Ground.chain }], guard := none }) rfl (fun K hK => ?_) AllReadyH.nil
          go_simp
          (go_at_call 8; (with_reducible refine (Ints_B A5 c5 r A7 c7 _ R57.out R7.out HRL.out).mono ?_); rintro e w9 ⟨rfl, b9⟩; have T9 := Aside0.mk ((T7.out.below b9).less (fun k hk => .inl hk)); have D8 := Aside0.mk (And.intro (cell_be D7.out.1 b9) (cell_be D7.out.2 b9)); have D9 := D8; clear b9)
          go_wp2_with fail
          refine hK.out _ _ ?_ (fun hHb8 => ?_)
          · (try dsimp only)
            exact D8.out
          clear hK K hHb7
          (try simp only [Act.put, List.setIfInBounds_toArray, List.set_cons_zero, List.set_cons_succ])
          refine wpAnyH_take (i := 9) (oi := { dst := some 59, op := Op.unOp UnOp.not 4 (Operand.tmp 58), type := 4, pos := "law.go:40", after := #[{ on := 8, ground := Ground.data }], guard := none }) (v := ?vb10) rfl (by kernel_rfl) (by kernel_rfl) (by kernel_rfl) (fun _ _ _ h => h) (Or.inl ⟨by rfl, ?yb10⟩) (by assumption) ?rb10
          case yb10 => (intro w hSw; (try dsimp only at hSw); go_simp; (try with_reducible rfl))
          (try simp only [Act.put, List.setIfInBounds_toArray, List.set_cons_zero, List.set_cons_succ])
          refine wpAnyH_done (by kernel_rfl) ?_ _
          go_wp2_with fail
          go_meet
          case rel => exact ⟨h2, q2, ⟨T9.out⟩, HV2, ⟨D9.out.1⟩⟩
      case rest =>
        clear HTX HX1 HX2 x0 HVi HI1
        obtain ⟨h2, q2, HT, HV, HX1⟩ := hcut
        obtain ⟨FA, hla⟩ := HT.out.la
        obtain ⟨FB, hlb⟩ := HT.out.lb
        have HN := Aside0.mk (show h2.length ≤ 1000 ∧ q2.length ≤ 1000 by have := HV.out.2; have := HI.out; omega)
        obtain ⟨hB, cB, qB, dB, b0, b1, l0, l1, r0, r1⟩ := hlb.open_
        have HB0 := Aside0.mk (fun W (hb : Below wc.heap.size wc W) => (show W.cell? ⟨g, 1, none⟩ = some (.int .i64 o.f1) ∧ W.cell? ⟨b, 0, none⟩ = some (.slice hB h2.length cB) ∧ W.cell? ⟨b, 1, none⟩ = some (.slice qB q2.length dB) from ⟨cell_be HX1.out hb, cell_be b0 hb, cell_be b1 hb⟩))
        have C3 := Aside0.mk (fun W (hb : Below wc.heap.size wc W) => Holds_ W a FA h2 q2 o.f1 (hla.below hb))
        have C7 := Aside0.mk (fun W (hb : Below wc.heap.size wc W) => Holds_R W b FB h2 q2 o.f1 (hlb.below hb))
        have C13 := Aside0.mk (fun W (hb : Below wc.heap.size wc W) => Waits_ W a FA h2 q2 o.f1 (hla.below hb))
        have C17 := Aside0.mk (fun W (hb : Below wc.heap.size wc W) => Waits_R W b FB h2 q2 o.f1 (hlb.below hb))
        have C24 := Aside0.mk (fun W (hb : Below wc.heap.size wc W) => Blocks_ W a FA h2 q2 o.f1 (hla.below hb) (by have := HN.out; omega) (by have := HN.out; omega))
        have C28 := Aside0.mk (fun W (hb : Below wc.heap.size wc W) => Blocks_R W b FB h2 q2 o.f1 (hlb.below hb) HV.out.1.toInvS (by have := HN.out; omega) (by have := HN.out; omega))
        have C34 := Aside0.mk (fun W (hb : Below wc.heap.size wc W) => Holders_ W a FA h2 q2 (hla.below hb) (by have := HN.out; omega))
        have C44 := Aside0.mk (fun W (hb : Below wc.heap.size wc W) => Queue_ W a FA h2 q2 (hla.below hb) (by have := HN.out; omega))
        have C54 := Aside0.mk (fun W (hb : Below wc.heap.size wc W) => Empty_ W a FA h2 q2 (hla.below hb))
        have C39 := Aside0.mk (fun W (hb : Below wc.heap.size wc W) A c (hr : Row W 50 2 A h2.length c (flat h2)) => Same_E A c h2 hB cB W hr.reads hr.2.1 (C_below r0 hb) l0 (by have := HN.out; omega))
        have C49 := Aside0.mk (fun W (hb : Below wc.heap.size wc W) A c (hr : Row W 50 2 A q2.length c (flat q2)) => Same_E A c q2 qB dB W hr.reads hr.2.1 (C_below r1 hb) l1 (by have := HN.out; omega))
        have HBL := Aside0.mk (show (blocksIn h2 q2 o.f1).length ≤ 1000000 by have := blocks_len' h2 q2 o.f1; have := HN.out; omega)
        have HEM := Aside0.mk (show (IntKind.i64.wrap ((h2.length : Int) + q2.length) == 0) = (h2.isEmpty && q2.isEmpty) by
          rw [show IntKind.i64.wrap ((h2.length : Int) + q2.length) = (h2.length : Int) + q2.length from IntWalk.i64_in _ (by have := HN.out; omega)]
          cases h2 <;> cases q2 <;> simp <;> omega)
        have HBd := Aside0.mk (below_drew (Below.refl wc.heap.size wc))
        generalize (h2.isEmpty && q2.isEmpty) = em at C54 HEM
        generalize toldIn h2 o.f1 = th at C3 C7
        generalize toldIn q2 o.f1 = tq at C13 C17
        generalize blocksIn h2 q2 o.f1 = bl at C24 C28 HBL
        clear hla hlb b0 b1 l0 l1 r0 r1
        have hem := HEM.out
        go_wp2_with fail
        simp only [List.append_eq, List.cons_append, List.nil_append]
        refine wp_region_held_drew (S := (fun W => W.cell? ⟨g, 1, none⟩ = some (.int .i64 o.f1) ∧ W.cell? ⟨b, 0, none⟩ = some (.slice hB h2.length cB) ∧ W.cell? ⟨b, 1, none⟩ = some (.slice qB q2.length dB))) (by kernel_rfl) ?_ (fun hH => ?_)
        · exact HB0.out _ HBd.out
        refine wpAnyH_take (i := 0) (oi := { dst := some 60, op := Op.move (Operand.tmp 3), type := 24, pos := "law.go:43", after := #[], guard := none }) (v := ?vc1) rfl (by kernel_rfl) (by kernel_rfl) (by kernel_rfl) (fun _ _ _ h => h) (Or.inl ⟨by rfl, ?yc1⟩) (by assumption) ?rc1
        case yc1 => (intro w hSw; (try dsimp only at hSw); go_simp; (try with_reducible rfl))
        (try simp only [Act.put, List.setIfInBounds_toArray, List.set_cons_zero, List.set_cons_succ])
        refine wpAnyH_take (i := 1) (oi := { dst := some 61, op := Op.fieldAddr 31 (Operand.tmp 6) 1, type := 0, pos := "law.go:43", after := #[], guard := none }) (v := ?vc2) rfl (by kernel_rfl) (by kernel_rfl) (by kernel_rfl) (fun _ _ _ h => h) (Or.inl ⟨by rfl, ?yc2⟩) (by assumption) ?rc2
        case yc2 => (intro w hSw; (try dsimp only at hSw); go_simp; (try with_reducible rfl))
        (try simp only [Act.put, List.setIfInBounds_toArray, List.set_cons_zero, List.set_cons_succ])
        refine wpAnyH_take (i := 2) (oi := { dst := some 62, op := Op.load 3 (Operand.tmp 61), type := 3, pos := "law.go:43", after := #[{ on := 1, ground := Ground.data }], guard := none }) (v := ?vc3) rfl (by kernel_rfl) (by kernel_rfl) (by kernel_rfl) (fun _ _ _ h => h) (Or.inl ⟨by rfl, ?yc3⟩) (by assumption) ?rc3
        case yc3 => (intro w hSw; (try dsimp only at hSw); go_simp; (try with_reducible rfl))
        (try simp only [Act.put, List.setIfInBounds_toArray, List.set_cons_zero, List.set_cons_succ])
        refine wpAnyH_take (i := 4) (oi := { dst := some 64, op := Op.move (Operand.tmp 4), type := 26, pos := "law.go:43", after := #[], guard := none }) (v := ?vc4) rfl (by kernel_rfl) (by kernel_rfl) (by kernel_rfl) (fun _ _ _ h => h) (Or.inl ⟨by rfl, ?yc4⟩) (by assumption) ?rc4
        case yc4 => (intro w hSw; (try dsimp only at hSw); go_simp; (try with_reducible rfl))
        (try simp only [Act.put, List.setIfInBounds_toArray, List.set_cons_zero, List.set_cons_succ])
        refine wpAnyH_take (i := 5) (oi := { dst := some 65, op := Op.fieldAddr 31 (Operand.tmp 6) 1, type := 0, pos := "law.go:43", after := #[], guard := none }) (v := ?vc5) rfl (by kernel_rfl) (by kernel_rfl) (by kernel_rfl) (fun _ _ _ h => h) (Or.inl ⟨by rfl, ?yc5⟩) (by assumption) ?rc5
        case yc5 => (intro w hSw; (try dsimp only at hSw); go_simp; (try with_reducible rfl))
        (try simp only [Act.put, List.setIfInBounds_toArray, List.set_cons_zero, List.set_cons_succ])
        refine wpAnyH_take (i := 6) (oi := { dst := some 66, op := Op.load 3 (Operand.tmp 65), type := 3, pos := "law.go:43", after := #[{ on := 5, ground := Ground.data }], guard := none }) (v := ?vc6) rfl (by kernel_rfl) (by kernel_rfl) (by kernel_rfl) (fun _ _ _ h => h) (Or.inl ⟨by rfl, ?yc6⟩) (by assumption) ?rc6
        case yc6 => (intro w hSw; (try dsimp only at hSw); go_simp; (try with_reducible rfl))
        (try simp only [Act.put, List.setIfInBounds_toArray, List.set_cons_zero, List.set_cons_succ])
        refine wpAnyH_ready (rs := [3]) (by kernel_rfl) (by simp) ?_
        refine AllReadyH.cons (o := { dst := some 63, op := Op.call { callee := Callee.value (Operand.func 11), args := #[Operand.tmp 60, Operand.tmp 62], argTypes := #[24, 3] }, type := 3, pos := "law.go:43", after := #[{ on := 0, ground := Ground.data }, { on := 2, ground := Ground.data }], guard := none }) rfl (fun K hK => ?_) AllReadyH.nil
        go_simp
        (go_at_call 11; (with_reducible refine (C3.out _ HBd.out).mono ?_); rintro e w3 ⟨rfl, b3⟩; have B3 := Aside0.mk (below_then HBd.out HBd.out.size b3); clear b3)
        go_wp2_with fail
        refine hK.out _ _ ?_ (fun hHc6 => ?_)
        · (try dsimp only)
          exact HB0.out _ B3.out
        clear hK K hH
        (try simp only [Act.put, List.setIfInBounds_toArray, List.set_cons_zero, List.set_cons_succ])
        refine wpAnyH_ready (rs := [7]) (by kernel_rfl) (by simp) ?_
        refine AllReadyH.cons (o := { dst := some 67, op := Op.call { callee := Callee.value (Operand.func 12), args := #[Operand.tmp 64, Operand.tmp 66], argTypes := #[26, 3] }, type := 3, pos := "law.go:43", after := #[{ on := 4, ground := Ground.data }, { on := 6, ground := Ground.data }, { on := 3, ground := Ground.chain }], guard := none }) rfl (fun K hK => ?_) AllReadyH.nil
        go_simp
        (go_at_call 12; (with_reducible refine (C7.out _ B3.out).mono ?_); rintro e w7 ⟨rfl, rfl⟩; have B7 := B3)
        go_wp2_with fail
        refine hK.out _ _ ?_ (fun hHc7 => ?_)
        · (try dsimp only)
          exact HB0.out _ B7.out
        clear hK K hHc6
        (try simp only [Act.put, List.setIfInBounds_toArray, List.set_cons_zero, List.set_cons_succ])
        refine wpAnyH_take (i := 8) (oi := { dst := some 68, op := Op.binOp BinOp.neq 3 (Operand.tmp 63) (Operand.tmp 67) 3, type := 4, pos := "law.go:43", after := #[{ on := 3, ground := Ground.data }, { on := 7, ground := Ground.data }], guard := none }) (v := ?vc9) rfl (by kernel_rfl) (by kernel_rfl) (by kernel_rfl) (fun _ _ _ h => h) (Or.inl ⟨by rfl, ?yc9⟩) (by assumption) ?rc9
        case yc9 => (intro w hSw; (try dsimp only at hSw); go_simp; (try with_reducible rfl))
        (try simp only [Act.put, List.setIfInBounds_toArray, List.set_cons_zero, List.set_cons_succ])
        refine wpAnyH_take (i := 9) (oi := { dst := some 69, op := Op.move (Operand.tmp 68), type := 4, pos := "law.go:43", after := #[{ on := 8, ground := Ground.data }, { on := 7, ground := Ground.chain }], guard := none }) (v := ?vc10) rfl (by kernel_rfl) (by kernel_rfl) (by kernel_rfl) (fun _ _ _ h => h) (Or.inl ⟨by rfl, ?yc10⟩) (by assumption) ?rc10
        case yc10 => (intro w hSw; (try dsimp only at hSw); go_simp; (try with_reducible rfl))
        (try simp only [Act.put, List.setIfInBounds_toArray, List.set_cons_zero, List.set_cons_succ])
        refine wpAnyH_take (i := 10) (oi := { dst := some 70, op := Op.move (Operand.tmp 3), type := 24, pos := "law.go:43", after := #[{ on := 9, ground := Ground.guard }], guard := some (9, false) }) (v := ?vc11) rfl (by kernel_rfl) (by kernel_rfl) (by kernel_rfl) (fun _ _ _ h => h) (Or.inl ⟨by rfl, ?yc11⟩) (by assumption) ?rc11
        case yc11 => (intro w hSw; (try dsimp only at hSw); go_simp; (try with_reducible rfl))
        (try simp only [Act.put, List.setIfInBounds_toArray, List.set_cons_zero, List.set_cons_succ])
        refine wpAnyH_take (i := 11) (oi := { dst := some 71, op := Op.fieldAddr 31 (Operand.tmp 6) 1, type := 0, pos := "law.go:43", after := #[{ on := 9, ground := Ground.guard }], guard := some (9, false) }) (v := ?vc12) rfl (by kernel_rfl) (by kernel_rfl) (by kernel_rfl) (fun _ _ _ h => h) (Or.inl ⟨by rfl, ?yc12⟩) (by assumption) ?rc12
        case yc12 => (intro w hSw; (try dsimp only at hSw); go_simp; (try with_reducible rfl))
        (try simp only [Act.put, List.setIfInBounds_toArray, List.set_cons_zero, List.set_cons_succ])
        refine wpAnyH_take (i := 12) (oi := { dst := some 72, op := Op.load 3 (Operand.tmp 71), type := 3, pos := "law.go:43", after := #[{ on := 11, ground := Ground.data }, { on := 9, ground := Ground.guard }], guard := some (9, false) }) (v := ?vc13) rfl (by kernel_rfl) (by kernel_rfl) (by kernel_rfl) (fun _ _ _ h => h) (Or.inl ⟨by rfl, ?yc13⟩) (by assumption) ?rc13
        case yc13 => (intro w hSw; (try dsimp only at hSw); go_simp; (try with_reducible rfl))
        (try simp only [Act.put, List.setIfInBounds_toArray, List.set_cons_zero, List.set_cons_succ])
        refine wpAnyH_take (i := 14) (oi := { dst := some 74, op := Op.move (Operand.tmp 4), type := 26, pos := "law.go:43", after := #[{ on := 9, ground := Ground.guard }], guard := some (9, false) }) (v := ?vc14) rfl (by kernel_rfl) (by kernel_rfl) (by kernel_rfl) (fun _ _ _ h => h) (Or.inl ⟨by rfl, ?yc14⟩) (by assumption) ?rc14
        case yc14 => (intro w hSw; (try dsimp only at hSw); go_simp; (try with_reducible rfl))
        (try simp only [Act.put, List.setIfInBounds_toArray, List.set_cons_zero, List.set_cons_succ])
        refine wpAnyH_take (i := 15) (oi := { dst := some 75, op := Op.fieldAddr 31 (Operand.tmp 6) 1, type := 0, pos := "law.go:43", after := #[{ on := 9, ground := Ground.guard }], guard := some (9, false) }) (v := ?vc15) rfl (by kernel_rfl) (by kernel_rfl) (by kernel_rfl) (fun _ _ _ h => h) (Or.inl ⟨by rfl, ?yc15⟩) (by assumption) ?rc15
        case yc15 => (intro w hSw; (try dsimp only at hSw); go_simp; (try with_reducible rfl))
        (try simp only [Act.put, List.setIfInBounds_toArray, List.set_cons_zero, List.set_cons_succ])
        refine wpAnyH_take (i := 16) (oi := { dst := some 76, op := Op.load 3 (Operand.tmp 75), type := 3, pos := "law.go:43", after := #[{ on := 15, ground := Ground.data }, { on := 9, ground := Ground.guard }], guard := some (9, false) }) (v := ?vc16) rfl (by kernel_rfl) (by kernel_rfl) (by kernel_rfl) (fun _ _ _ h => h) (Or.inl ⟨by rfl, ?yc16⟩) (by assumption) ?rc16
        case yc16 => (intro w hSw; (try dsimp only at hSw); go_simp; (try with_reducible rfl))
        (try simp only [Act.put, List.setIfInBounds_toArray, List.set_cons_zero, List.set_cons_succ])
        refine wpAnyH_ready (rs := [13]) (by kernel_rfl) (by simp) ?_
        refine AllReadyH.cons (o := { dst := some 73, op := Op.call { callee := Callee.value (Operand.func 13), args := #[Operand.tmp 70, Operand.tmp 72], argTypes := #[24, 3] }, type := 3, pos := "law.go:43", after := #[{ on := 10, ground := Ground.data }, { on := 12, ground := Ground.data }, { on := 9, ground := Ground.chain }, { on := 9, ground := Ground.guard }], guard := some (9, false) }) rfl (fun K hK => ?_) AllReadyH.nil
        go_simp
        (go_at_call 13; (with_reducible refine (C13.out _ B7.out).mono ?_); rintro e w13 ⟨rfl, b13⟩; have B13 := Aside0.mk (below_then B7.out B7.out.size b13); clear b13)
        go_wp2_with fail
        refine hK.out _ _ ?_ (fun hHc16 => ?_)
        · (try dsimp only)
          exact HB0.out _ B13.out
        clear hK K hHc7
        (try simp only [Act.put, List.setIfInBounds_toArray, List.set_cons_zero, List.set_cons_succ])
        refine wpAnyH_ready (rs := [17]) (by kernel_rfl) (by simp) ?_
        refine AllReadyH.cons (o := { dst := some 77, op := Op.call { callee := Callee.value (Operand.func 14), args := #[Operand.tmp 74, Operand.tmp 76], argTypes := #[26, 3] }, type := 3, pos := "law.go:43", after := #[{ on := 14, ground := Ground.data }, { on := 16, ground := Ground.data }, { on := 13, ground := Ground.chain }, { on := 9, ground := Ground.guard }], guard := some (9, false) }) rfl (fun K hK => ?_) AllReadyH.nil
        go_simp
        (go_at_call 14; (with_reducible refine (C17.out _ B13.out).mono ?_); rintro e w17 ⟨rfl, rfl⟩; have B17 := B13)
        go_wp2_with fail
        refine hK.out _ _ ?_ (fun hHc17 => ?_)
        · (try dsimp only)
          exact HB0.out _ B17.out
        clear hK K hHc16
        (try simp only [Act.put, List.setIfInBounds_toArray, List.set_cons_zero, List.set_cons_succ])
        refine wpAnyH_take (i := 18) (oi := { dst := some 78, op := Op.binOp BinOp.neq 3 (Operand.tmp 73) (Operand.tmp 77) 3, type := 4, pos := "law.go:43", after := #[{ on := 13, ground := Ground.data }, { on := 17, ground := Ground.data }, { on := 9, ground := Ground.guard }], guard := some (9, false) }) (v := ?vc19) rfl (by kernel_rfl) (by kernel_rfl) (by kernel_rfl) (fun _ _ _ h => h) (Or.inl ⟨by rfl, ?yc19⟩) (by assumption) ?rc19
        case yc19 => (intro w hSw; (try dsimp only at hSw); go_simp; (try with_reducible rfl))
        (try simp only [Act.put, List.setIfInBounds_toArray, List.set_cons_zero, List.set_cons_succ])
        refine wpAnyH_take (i := 19) (oi := { dst := some 79, op := Op.pick (Operand.tmp 69) (Operand.const (Value.bool true)) (Operand.tmp 78), type := 4, pos := "law.go:43", after := #[{ on := 9, ground := Ground.data }, { on := 18, ground := Ground.data }], guard := none }) (v := ?vc20) rfl (by kernel_rfl) (by kernel_rfl) (by kernel_rfl) (fun _ _ _ h => h) (Or.inl ⟨by rfl, ?yc20⟩) (by assumption) ?rc20
        case yc20 => (intro w hSw; (try dsimp only at hSw); go_simp; (try with_reducible rfl))
        (try simp only [Act.put, List.setIfInBounds_toArray, List.set_cons_zero, List.set_cons_succ])
        refine wpAnyH_take (i := 20) (oi := { dst := some 80, op := Op.move (Operand.tmp 79), type := 4, pos := "law.go:43", after := #[{ on := 19, ground := Ground.data }, { on := 17, ground := Ground.chain }], guard := none }) (v := ?vc21) rfl (by kernel_rfl) (by kernel_rfl) (by kernel_rfl) (fun _ _ _ h => h) (Or.inl ⟨by rfl, ?yc21⟩) (by assumption) ?rc21
        case yc21 => (intro w hSw; (try dsimp only at hSw); go_simp; (try with_reducible rfl))
        (try simp only [Act.put, List.setIfInBounds_toArray, List.set_cons_zero, List.set_cons_succ])
        refine wpAnyH_take (i := 21) (oi := { dst := some 81, op := Op.move (Operand.tmp 3), type := 24, pos := "law.go:43", after := #[{ on := 20, ground := Ground.guard }], guard := some (20, false) }) (v := ?vc22) rfl (by kernel_rfl) (by kernel_rfl) (by kernel_rfl) (fun _ _ _ h => h) (Or.inl ⟨by rfl, ?yc22⟩) (by assumption) ?rc22
        case yc22 => (intro w hSw; (try dsimp only at hSw); go_simp; (try with_reducible rfl))
        (try simp only [Act.put, List.setIfInBounds_toArray, List.set_cons_zero, List.set_cons_succ])
        refine wpAnyH_take (i := 22) (oi := { dst := some 82, op := Op.fieldAddr 31 (Operand.tmp 6) 1, type := 0, pos := "law.go:43", after := #[{ on := 20, ground := Ground.guard }], guard := some (20, false) }) (v := ?vc23) rfl (by kernel_rfl) (by kernel_rfl) (by kernel_rfl) (fun _ _ _ h => h) (Or.inl ⟨by rfl, ?yc23⟩) (by assumption) ?rc23
        case yc23 => (intro w hSw; (try dsimp only at hSw); go_simp; (try with_reducible rfl))
        (try simp only [Act.put, List.setIfInBounds_toArray, List.set_cons_zero, List.set_cons_succ])
        refine wpAnyH_take (i := 23) (oi := { dst := some 83, op := Op.load 3 (Operand.tmp 82), type := 3, pos := "law.go:43", after := #[{ on := 22, ground := Ground.data }, { on := 20, ground := Ground.guard }], guard := some (20, false) }) (v := ?vc24) rfl (by kernel_rfl) (by kernel_rfl) (by kernel_rfl) (fun _ _ _ h => h) (Or.inl ⟨by rfl, ?yc24⟩) (by assumption) ?rc24
        case yc24 => (intro w hSw; (try dsimp only at hSw); go_simp; (try with_reducible rfl))
        (try simp only [Act.put, List.setIfInBounds_toArray, List.set_cons_zero, List.set_cons_succ])
        refine wpAnyH_take (i := 25) (oi := { dst := some 85, op := Op.move (Operand.tmp 4), type := 26, pos := "law.go:43", after := #[{ on := 20, ground := Ground.guard }], guard := some (20, false) }) (v := ?vc25) rfl (by kernel_rfl) (by kernel_rfl) (by kernel_rfl) (fun _ _ _ h => h) (Or.inl ⟨by rfl, ?yc25⟩) (by assumption) ?rc25
        case yc25 => (intro w hSw; (try dsimp only at hSw); go_simp; (try with_reducible rfl))
        (try simp only [Act.put, List.setIfInBounds_toArray, List.set_cons_zero, List.set_cons_succ])
        refine wpAnyH_take (i := 26) (oi := { dst := some 86, op := Op.fieldAddr 31 (Operand.tmp 6) 1, type := 0, pos := "law.go:43", after := #[{ on := 20, ground := Ground.guard }], guard := some (20, false) }) (v := ?vc26) rfl (by kernel_rfl) (by kernel_rfl) (by kernel_rfl) (fun _ _ _ h => h) (Or.inl ⟨by rfl, ?yc26⟩) (by assumption) ?rc26
        case yc26 => (intro w hSw; (try dsimp only at hSw); go_simp; (try with_reducible rfl))
        (try simp only [Act.put, List.setIfInBounds_toArray, List.set_cons_zero, List.set_cons_succ])
        refine wpAnyH_take (i := 27) (oi := { dst := some 87, op := Op.load 3 (Operand.tmp 86), type := 3, pos := "law.go:43", after := #[{ on := 26, ground := Ground.data }, { on := 20, ground := Ground.guard }], guard := some (20, false) }) (v := ?vc27) rfl (by kernel_rfl) (by kernel_rfl) (by kernel_rfl) (fun _ _ _ h => h) (Or.inl ⟨by rfl, ?yc27⟩) (by assumption) ?rc27
        case yc27 => (intro w hSw; (try dsimp only at hSw); go_simp; (try with_reducible rfl))
        (try simp only [Act.put, List.setIfInBounds_toArray, List.set_cons_zero, List.set_cons_succ])
        refine wpAnyH_ready (rs := [24]) (by kernel_rfl) (by simp) ?_
        refine AllReadyH.cons (o := { dst := some 84, op := Op.call { callee := Callee.value (Operand.func 15), args := #[Operand.tmp 81, Operand.tmp 83], argTypes := #[24, 3] }, type := 34, pos := "law.go:43", after := #[{ on := 21, ground := Ground.data }, { on := 23, ground := Ground.data }, { on := 20, ground := Ground.chain }, { on := 20, ground := Ground.guard }], guard := some (20, false) }) rfl (fun K hK => ?_) AllReadyH.nil
        go_simp
        (go_at_call 15; (with_reducible refine (C24.out _ B17.out).mono ?_); rintro e w24 ⟨A24, c24, rfl, r24, k24, b24⟩; have R24 := Aside0.mk r24; clear r24 k24; have B24 := Aside0.mk (below_then B17.out B17.out.size b24); clear b24)
        go_wp2_with fail
        refine hK.out _ _ ?_ (fun hHc27 => ?_)
        · (try dsimp only)
          exact HB0.out _ B24.out
        clear hK K hHc17
        (try simp only [Act.put, List.setIfInBounds_toArray, List.set_cons_zero, List.set_cons_succ])
        refine wpAnyH_ready (rs := [28]) (by kernel_rfl) (by simp) ?_
        refine AllReadyH.cons (o := { dst := some 88, op := Op.call { callee := Callee.value (Operand.func 16), args := #[Operand.tmp 85, Operand.tmp 87], argTypes := #[26, 3] }, type := 34, pos := "law.go:43", after := #[{ on := 25, ground := Ground.data }, { on := 27, ground := Ground.data }, { on := 24, ground := Ground.chain }, { on := 20, ground := Ground.guard }], guard := some (20, false) }) rfl (fun K hK => ?_) AllReadyH.nil
        go_simp
        (go_at_call 16; (with_reducible refine (C28.out _ B24.out).mono ?_); rintro e w28 ⟨A28, c28, rfl, r28, k28, b28⟩; have R28 := Aside0.mk r28; have R24b := Aside0.mk (R24.out.below b28); clear r28 k28; have B28 := Aside0.mk (below_then B24.out B24.out.size b28); clear b28)
        go_wp2_with fail
        refine hK.out _ _ ?_ (fun hHc28 => ?_)
        · (try dsimp only)
          exact HB0.out _ B28.out
        clear hK K hHc27
        (try simp only [Act.put, List.setIfInBounds_toArray, List.set_cons_zero, List.set_cons_succ])
        refine wpAnyH_ready (rs := [29]) (by kernel_rfl) (by simp) ?_
        refine AllReadyH.cons (o := { dst := some 89, op := Op.call { callee := Callee.value (Operand.func 8), args := #[Operand.tmp 84, Operand.tmp 88], argTypes := #[34, 34] }, type := 4, pos := "law.go:43", after := #[{ on := 24, ground := Ground.data }, { on := 28, ground := Ground.data }, { on := 28, ground := Ground.chain }, { on := 20, ground := Ground.guard }], guard := some (20, false) }) rfl (fun K hK => ?_) AllReadyH.nil
        go_simp
        (go_at_call 8; (with_reducible refine (Ints_B A24 c24 bl A28 c28 _ R24b.out R28.out HBL.out).mono ?_); rintro e w29 ⟨rfl, b29⟩; have B29 := Aside0.mk (below_then B28.out B28.out.size b29); clear b29)
        go_wp2_with fail
        refine hK.out _ _ ?_ (fun hHc29 => ?_)
        · (try dsimp only)
          exact HB0.out _ B29.out
        clear hK K hHc28
        (try simp only [Act.put, List.setIfInBounds_toArray, List.set_cons_zero, List.set_cons_succ])
        refine wpAnyH_take (i := 30) (oi := { dst := some 90, op := Op.unOp UnOp.not 4 (Operand.tmp 89), type := 4, pos := "law.go:43", after := #[{ on := 29, ground := Ground.data }, { on := 20, ground := Ground.guard }], guard := some (20, false) }) (v := ?vc31) rfl (by kernel_rfl) (by kernel_rfl) (by kernel_rfl) (fun _ _ _ h => h) (Or.inl ⟨by rfl, ?yc31⟩) (by assumption) ?rc31
        case yc31 => (intro w hSw; (try dsimp only at hSw); go_simp; (try with_reducible rfl))
        (try simp only [Act.put, List.setIfInBounds_toArray, List.set_cons_zero, List.set_cons_succ])
        refine wpAnyH_take (i := 31) (oi := { dst := some 91, op := Op.pick (Operand.tmp 80) (Operand.const (Value.bool true)) (Operand.tmp 90), type := 4, pos := "law.go:43", after := #[{ on := 20, ground := Ground.data }, { on := 30, ground := Ground.data }], guard := none }) (v := ?vc32) rfl (by kernel_rfl) (by kernel_rfl) (by kernel_rfl) (fun _ _ _ h => h) (Or.inl ⟨by rfl, ?yc32⟩) (by assumption) ?rc32
        case yc32 => (intro w hSw; (try dsimp only at hSw); go_simp; (try with_reducible rfl))
        (try simp only [Act.put, List.setIfInBounds_toArray, List.set_cons_zero, List.set_cons_succ])
        refine wpAnyH_take (i := 32) (oi := { dst := some 92, op := Op.move (Operand.tmp 91), type := 4, pos := "law.go:43", after := #[{ on := 31, ground := Ground.data }, { on := 29, ground := Ground.chain }], guard := none }) (v := ?vc33) rfl (by kernel_rfl) (by kernel_rfl) (by kernel_rfl) (fun _ _ _ h => h) (Or.inl ⟨by rfl, ?yc33⟩) (by assumption) ?rc33
        case yc33 => (intro w hSw; (try dsimp only at hSw); go_simp; (try with_reducible rfl))
        (try simp only [Act.put, List.setIfInBounds_toArray, List.set_cons_zero, List.set_cons_succ])
        refine wpAnyH_take (i := 33) (oi := { dst := some 93, op := Op.move (Operand.tmp 3), type := 24, pos := "law.go:43", after := #[{ on := 32, ground := Ground.guard }], guard := some (32, false) }) (v := ?vc34) rfl (by kernel_rfl) (by kernel_rfl) (by kernel_rfl) (fun _ _ _ h => h) (Or.inl ⟨by rfl, ?yc34⟩) (by assumption) ?rc34
        case yc34 => (intro w hSw; (try dsimp only at hSw); go_simp; (try with_reducible rfl))
        (try simp only [Act.put, List.setIfInBounds_toArray, List.set_cons_zero, List.set_cons_succ])
        refine wpAnyH_take (i := 35) (oi := { dst := some 95, op := Op.move (Operand.tmp 4), type := 26, pos := "law.go:43", after := #[{ on := 32, ground := Ground.guard }], guard := some (32, false) }) (v := ?vc35) rfl (by kernel_rfl) (by kernel_rfl) (by kernel_rfl) (fun _ _ _ h => h) (Or.inl ⟨by rfl, ?yc35⟩) (by assumption) ?rc35
        case yc35 => (intro w hSw; (try dsimp only at hSw); go_simp; (try with_reducible rfl))
        (try simp only [Act.put, List.setIfInBounds_toArray, List.set_cons_zero, List.set_cons_succ])
        refine wpAnyH_take (i := 36) (oi := { dst := some 96, op := Op.nilCheck (Operand.tmp 95), type := 0, pos := "law.go:43", after := #[{ on := 35, ground := Ground.data }, { on := 32, ground := Ground.guard }], guard := some (32, false) }) (v := ?vc36) rfl (by kernel_rfl) (by kernel_rfl) (by kernel_rfl) (fun _ _ _ h => h) (Or.inl ⟨by rfl, ?yc36⟩) (by assumption) ?rc36
        case yc36 => (intro w hSw; (try dsimp only at hSw); go_simp; (try with_reducible rfl))
        (try simp only [Act.put, List.setIfInBounds_toArray, List.set_cons_zero, List.set_cons_succ])
        refine wpAnyH_take (i := 37) (oi := { dst := some 97, op := Op.fieldAddr 29 (Operand.tmp 96) 0, type := 0, pos := "law.go:43", after := #[{ on := 36, ground := Ground.data }, { on := 32, ground := Ground.guard }], guard := some (32, false) }) (v := ?vc37) rfl (by kernel_rfl) (by kernel_rfl) (by kernel_rfl) (fun _ _ _ h => h) (Or.inl ⟨by rfl, ?yc37⟩) (by assumption) ?rc37
        case yc37 => (intro w hSw; (try dsimp only at hSw); go_simp; (try with_reducible rfl))
        (try simp only [Act.put, List.setIfInBounds_toArray, List.set_cons_zero, List.set_cons_succ])
        refine wpAnyH_take (i := 38) (oi := { dst := some 98, op := Op.load 27 (Operand.tmp 97), type := 27, pos := "law.go:43", after := #[{ on := 37, ground := Ground.data }, { on := 32, ground := Ground.guard }], guard := some (32, false) }) (v := ?vc38) rfl (by kernel_rfl) (by kernel_rfl) (by kernel_rfl) (fun _ _ _ h => h) (Or.inl ⟨by rfl, ?yc38⟩) (by assumption) ?rc38
        case yc38 => (intro w hSw; (try dsimp only at hSw); go_simp; (try with_reducible rfl))
        (try simp only [Act.put, List.setIfInBounds_toArray, List.set_cons_zero, List.set_cons_succ])
        refine wpAnyH_ready (rs := [34]) (by kernel_rfl) (by simp) ?_
        refine AllReadyH.cons (o := { dst := some 94, op := Op.call { callee := Callee.value (Operand.func 18), args := #[Operand.tmp 93], argTypes := #[24] }, type := 27, pos := "law.go:43", after := #[{ on := 33, ground := Ground.data }, { on := 32, ground := Ground.chain }, { on := 32, ground := Ground.guard }], guard := some (32, false) }) rfl (fun K hK => ?_) AllReadyH.nil
        go_simp
        (go_at_call 18; (with_reducible refine (C34.out _ B29.out).mono ?_); rintro e w34 ⟨A34, c34, rfl, r34, k34, b34⟩; have R34 := Aside0.mk r34; clear r34 k34; have B34 := Aside0.mk (below_then B29.out B29.out.size b34); clear b34)
        go_wp2_with fail
        refine hK.out _ _ ?_ (fun hHc38 => ?_)
        · (try dsimp only)
          exact HB0.out _ B34.out
        clear hK K hHc29
        (try simp only [Act.put, List.setIfInBounds_toArray, List.set_cons_zero, List.set_cons_succ])
        refine wpAnyH_ready (rs := [39]) (by kernel_rfl) (by simp) ?_
        refine AllReadyH.cons (o := { dst := some 99, op := Op.call { callee := Callee.value (Operand.func 17), args := #[Operand.tmp 94, Operand.tmp 98], argTypes := #[27, 27] }, type := 4, pos := "law.go:43", after := #[{ on := 34, ground := Ground.data }, { on := 38, ground := Ground.data }, { on := 34, ground := Ground.chain }, { on := 32, ground := Ground.guard }], guard := some (32, false) }) rfl (fun K hK => ?_) AllReadyH.nil
        go_simp
        (go_at_call 17; (with_reducible refine (C39.out _ B34.out A34 c34 R34.out).mono ?_); rintro e w39 ⟨rfl, b39⟩; have B39 := Aside0.mk (below_then B34.out B34.out.size b39); clear b39)
        go_wp2_with fail
        refine hK.out _ _ ?_ (fun hHc39 => ?_)
        · (try dsimp only)
          exact HB0.out _ B39.out
        clear hK K hHc38
        (try simp only [Act.put, List.setIfInBounds_toArray, List.set_cons_zero, List.set_cons_succ])
        refine wpAnyH_take (i := 40) (oi := { dst := some 100, op := Op.unOp UnOp.not 4 (Operand.tmp 99), type := 4, pos := "law.go:43", after := #[{ on := 39, ground := Ground.data }, { on := 32, ground := Ground.guard }], guard := some (32, false) }) (v := ?vc41) rfl (by kernel_rfl) (by kernel_rfl) (by kernel_rfl) (fun _ _ _ h => h) (Or.inl ⟨by rfl, ?yc41⟩) (by assumption) ?rc41
        case yc41 => (intro w hSw; (try dsimp only at hSw); go_simp; (try with_reducible rfl))
        (try simp only [Act.put, List.setIfInBounds_toArray, List.set_cons_zero, List.set_cons_succ])
        refine wpAnyH_take (i := 41) (oi := { dst := some 101, op := Op.pick (Operand.tmp 92) (Operand.const (Value.bool true)) (Operand.tmp 100), type := 4, pos := "law.go:43", after := #[{ on := 32, ground := Ground.data }, { on := 40, ground := Ground.data }], guard := none }) (v := ?vc42) rfl (by kernel_rfl) (by kernel_rfl) (by kernel_rfl) (fun _ _ _ h => h) (Or.inl ⟨by rfl, ?yc42⟩) (by assumption) ?rc42
        case yc42 => (intro w hSw; (try dsimp only at hSw); go_simp; (try with_reducible rfl))
        (try simp only [Act.put, List.setIfInBounds_toArray, List.set_cons_zero, List.set_cons_succ])
        refine wpAnyH_take (i := 42) (oi := { dst := some 102, op := Op.move (Operand.tmp 101), type := 4, pos := "law.go:43", after := #[{ on := 41, ground := Ground.data }, { on := 39, ground := Ground.chain }], guard := none }) (v := ?vc43) rfl (by kernel_rfl) (by kernel_rfl) (by kernel_rfl) (fun _ _ _ h => h) (Or.inl ⟨by rfl, ?yc43⟩) (by assumption) ?rc43
        case yc43 => (intro w hSw; (try dsimp only at hSw); go_simp; (try with_reducible rfl))
        (try simp only [Act.put, List.setIfInBounds_toArray, List.set_cons_zero, List.set_cons_succ])
        refine wpAnyH_take (i := 43) (oi := { dst := some 103, op := Op.move (Operand.tmp 3), type := 24, pos := "law.go:43", after := #[{ on := 42, ground := Ground.guard }], guard := some (42, false) }) (v := ?vc44) rfl (by kernel_rfl) (by kernel_rfl) (by kernel_rfl) (fun _ _ _ h => h) (Or.inl ⟨by rfl, ?yc44⟩) (by assumption) ?rc44
        case yc44 => (intro w hSw; (try dsimp only at hSw); go_simp; (try with_reducible rfl))
        (try simp only [Act.put, List.setIfInBounds_toArray, List.set_cons_zero, List.set_cons_succ])
        refine wpAnyH_take (i := 45) (oi := { dst := some 105, op := Op.move (Operand.tmp 4), type := 26, pos := "law.go:43", after := #[{ on := 42, ground := Ground.guard }], guard := some (42, false) }) (v := ?vc45) rfl (by kernel_rfl) (by kernel_rfl) (by kernel_rfl) (fun _ _ _ h => h) (Or.inl ⟨by rfl, ?yc45⟩) (by assumption) ?rc45
        case yc45 => (intro w hSw; (try dsimp only at hSw); go_simp; (try with_reducible rfl))
        (try simp only [Act.put, List.setIfInBounds_toArray, List.set_cons_zero, List.set_cons_succ])
        refine wpAnyH_take (i := 46) (oi := { dst := some 106, op := Op.nilCheck (Operand.tmp 105), type := 0, pos := "law.go:43", after := #[{ on := 45, ground := Ground.data }, { on := 42, ground := Ground.guard }], guard := some (42, false) }) (v := ?vc46) rfl (by kernel_rfl) (by kernel_rfl) (by kernel_rfl) (fun _ _ _ h => h) (Or.inl ⟨by rfl, ?yc46⟩) (by assumption) ?rc46
        case yc46 => (intro w hSw; (try dsimp only at hSw); go_simp; (try with_reducible rfl))
        (try simp only [Act.put, List.setIfInBounds_toArray, List.set_cons_zero, List.set_cons_succ])
        refine wpAnyH_take (i := 47) (oi := { dst := some 107, op := Op.fieldAddr 29 (Operand.tmp 106) 1, type := 0, pos := "law.go:43", after := #[{ on := 46, ground := Ground.data }, { on := 42, ground := Ground.guard }], guard := some (42, false) }) (v := ?vc47) rfl (by kernel_rfl) (by kernel_rfl) (by kernel_rfl) (fun _ _ _ h => h) (Or.inl ⟨by rfl, ?yc47⟩) (by assumption) ?rc47
        case yc47 => (intro w hSw; (try dsimp only at hSw); go_simp; (try with_reducible rfl))
        (try simp only [Act.put, List.setIfInBounds_toArray, List.set_cons_zero, List.set_cons_succ])
        refine wpAnyH_take (i := 48) (oi := { dst := some 108, op := Op.load 27 (Operand.tmp 107), type := 27, pos := "law.go:43", after := #[{ on := 47, ground := Ground.data }, { on := 42, ground := Ground.guard }], guard := some (42, false) }) (v := ?vc48) rfl (by kernel_rfl) (by kernel_rfl) (by kernel_rfl) (fun _ _ _ h => h) (Or.inl ⟨by rfl, ?yc48⟩) (by assumption) ?rc48
        case yc48 => (intro w hSw; (try dsimp only at hSw); go_simp; (try with_reducible rfl))
        (try simp only [Act.put, List.setIfInBounds_toArray, List.set_cons_zero, List.set_cons_succ])
        refine wpAnyH_ready (rs := [44]) (by kernel_rfl) (by simp) ?_
        refine AllReadyH.cons (o := { dst := some 104, op := Op.call { callee := Callee.value (Operand.func 19), args := #[Operand.tmp 103], argTypes := #[24] }, type := 27, pos := "law.go:43", after := #[{ on := 43, ground := Ground.data }, { on := 42, ground := Ground.chain }, { on := 42, ground := Ground.guard }], guard := some (42, false) }) rfl (fun K hK => ?_) AllReadyH.nil
        go_simp
        (go_at_call 19; (with_reducible refine (C44.out _ B39.out).mono ?_); rintro e w44 ⟨A44, c44, rfl, r44, k44, b44⟩; have R44 := Aside0.mk r44; clear r44 k44; have B44 := Aside0.mk (below_then B39.out B39.out.size b44); clear b44)
        go_wp2_with fail
        refine hK.out _ _ ?_ (fun hHc48 => ?_)
        · (try dsimp only)
          exact HB0.out _ B44.out
        clear hK K hHc39
        (try simp only [Act.put, List.setIfInBounds_toArray, List.set_cons_zero, List.set_cons_succ])
        refine wpAnyH_ready (rs := [49]) (by kernel_rfl) (by simp) ?_
        refine AllReadyH.cons (o := { dst := some 109, op := Op.call { callee := Callee.value (Operand.func 17), args := #[Operand.tmp 104, Operand.tmp 108], argTypes := #[27, 27] }, type := 4, pos := "law.go:43", after := #[{ on := 44, ground := Ground.data }, { on := 48, ground := Ground.data }, { on := 44, ground := Ground.chain }, { on := 42, ground := Ground.guard }], guard := some (42, false) }) rfl (fun K hK => ?_) AllReadyH.nil
        go_simp
        (go_at_call 17; (with_reducible refine (C49.out _ B44.out A44 c44 R44.out).mono ?_); rintro e w49 ⟨rfl, b49⟩; have B49 := Aside0.mk (below_then B44.out B44.out.size b49); clear b49)
        go_wp2_with fail
        refine hK.out _ _ ?_ (fun hHc49 => ?_)
        · (try dsimp only)
          exact HB0.out _ B49.out
        clear hK K hHc48
        (try simp only [Act.put, List.setIfInBounds_toArray, List.set_cons_zero, List.set_cons_succ])
        refine wpAnyH_take (i := 50) (oi := { dst := some 110, op := Op.unOp UnOp.not 4 (Operand.tmp 109), type := 4, pos := "law.go:43", after := #[{ on := 49, ground := Ground.data }, { on := 42, ground := Ground.guard }], guard := some (42, false) }) (v := ?vc51) rfl (by kernel_rfl) (by kernel_rfl) (by kernel_rfl) (fun _ _ _ h => h) (Or.inl ⟨by rfl, ?yc51⟩) (by assumption) ?rc51
        case yc51 => (intro w hSw; (try dsimp only at hSw); go_simp; (try with_reducible rfl))
        (try simp only [Act.put, List.setIfInBounds_toArray, List.set_cons_zero, List.set_cons_succ])
        refine wpAnyH_take (i := 51) (oi := { dst := some 111, op := Op.pick (Operand.tmp 102) (Operand.const (Value.bool true)) (Operand.tmp 110), type := 4, pos := "law.go:43", after := #[{ on := 42, ground := Ground.data }, { on := 50, ground := Ground.data }], guard := none }) (v := ?vc52) rfl (by kernel_rfl) (by kernel_rfl) (by kernel_rfl) (fun _ _ _ h => h) (Or.inl ⟨by rfl, ?yc52⟩) (by assumption) ?rc52
        case yc52 => (intro w hSw; (try dsimp only at hSw); go_simp; (try with_reducible rfl))
        (try simp only [Act.put, List.setIfInBounds_toArray, List.set_cons_zero, List.set_cons_succ])
        refine wpAnyH_take (i := 52) (oi := { dst := some 112, op := Op.move (Operand.tmp 111), type := 4, pos := "law.go:43", after := #[{ on := 51, ground := Ground.data }, { on := 49, ground := Ground.chain }], guard := none }) (v := ?vc53) rfl (by kernel_rfl) (by kernel_rfl) (by kernel_rfl) (fun _ _ _ h => h) (Or.inl ⟨by rfl, ?yc53⟩) (by assumption) ?rc53
        case yc53 => (intro w hSw; (try dsimp only at hSw); go_simp; (try with_reducible rfl))
        (try simp only [Act.put, List.setIfInBounds_toArray, List.set_cons_zero, List.set_cons_succ])
        refine wpAnyH_take (i := 53) (oi := { dst := some 113, op := Op.move (Operand.tmp 3), type := 24, pos := "law.go:43", after := #[{ on := 52, ground := Ground.guard }], guard := some (52, false) }) (v := ?vc54) rfl (by kernel_rfl) (by kernel_rfl) (by kernel_rfl) (fun _ _ _ h => h) (Or.inl ⟨by rfl, ?yc54⟩) (by assumption) ?rc54
        case yc54 => (intro w hSw; (try dsimp only at hSw); go_simp; (try with_reducible rfl))
        (try simp only [Act.put, List.setIfInBounds_toArray, List.set_cons_zero, List.set_cons_succ])
        refine wpAnyH_take (i := 55) (oi := { dst := some 115, op := Op.move (Operand.tmp 4), type := 26, pos := "law.go:43", after := #[{ on := 52, ground := Ground.guard }], guard := some (52, false) }) (v := ?vc55) rfl (by kernel_rfl) (by kernel_rfl) (by kernel_rfl) (fun _ _ _ h => h) (Or.inl ⟨by rfl, ?yc55⟩) (by assumption) ?rc55
        case yc55 => (intro w hSw; (try dsimp only at hSw); go_simp; (try with_reducible rfl))
        (try simp only [Act.put, List.setIfInBounds_toArray, List.set_cons_zero, List.set_cons_succ])
        refine wpAnyH_take (i := 56) (oi := { dst := some 116, op := Op.nilCheck (Operand.tmp 115), type := 0, pos := "law.go:43", after := #[{ on := 55, ground := Ground.data }, { on := 52, ground := Ground.guard }], guard := some (52, false) }) (v := ?vc56) rfl (by kernel_rfl) (by kernel_rfl) (by kernel_rfl) (fun _ _ _ h => h) (Or.inl ⟨by rfl, ?yc56⟩) (by assumption) ?rc56
        case yc56 => (intro w hSw; (try dsimp only at hSw); go_simp; (try with_reducible rfl))
        (try simp only [Act.put, List.setIfInBounds_toArray, List.set_cons_zero, List.set_cons_succ])
        refine wpAnyH_take (i := 57) (oi := { dst := some 117, op := Op.fieldAddr 29 (Operand.tmp 116) 0, type := 0, pos := "law.go:43", after := #[{ on := 56, ground := Ground.data }, { on := 52, ground := Ground.guard }], guard := some (52, false) }) (v := ?vc57) rfl (by kernel_rfl) (by kernel_rfl) (by kernel_rfl) (fun _ _ _ h => h) (Or.inl ⟨by rfl, ?yc57⟩) (by assumption) ?rc57
        case yc57 => (intro w hSw; (try dsimp only at hSw); go_simp; (try with_reducible rfl))
        (try simp only [Act.put, List.setIfInBounds_toArray, List.set_cons_zero, List.set_cons_succ])
        refine wpAnyH_take (i := 58) (oi := { dst := some 118, op := Op.load 27 (Operand.tmp 117), type := 27, pos := "law.go:43", after := #[{ on := 57, ground := Ground.data }, { on := 52, ground := Ground.guard }], guard := some (52, false) }) (v := ?vc58) rfl (by kernel_rfl) (by kernel_rfl) (by kernel_rfl) (fun _ _ _ h => h) (Or.inl ⟨by rfl, ?yc58⟩) (by assumption) ?rc58
        case yc58 => (intro w hSw; (try dsimp only at hSw); go_simp; (try with_reducible rfl))
        (try simp only [Act.put, List.setIfInBounds_toArray, List.set_cons_zero, List.set_cons_succ])
        refine wpAnyH_take (i := 59) (oi := { dst := some 119, op := Op.call { callee := Callee.builtin Builtin.len, args := #[Operand.tmp 118], argTypes := #[27] }, type := 3, pos := "law.go:43", after := #[{ on := 58, ground := Ground.data }, { on := 52, ground := Ground.guard }], guard := some (52, false) }) (v := ?vc59) rfl (by kernel_rfl) (by kernel_rfl) (by kernel_rfl) (fun _ _ _ h => h) (Or.inl ⟨by rfl, ?yc59⟩) (by assumption) ?rc59
        case yc59 => (intro w hSw; (try dsimp only at hSw); go_simp; (try with_reducible rfl))
        (try simp only [Act.put, List.setIfInBounds_toArray, List.set_cons_zero, List.set_cons_succ])
        refine wpAnyH_take (i := 60) (oi := { dst := some 120, op := Op.move (Operand.tmp 4), type := 26, pos := "law.go:43", after := #[{ on := 52, ground := Ground.guard }], guard := some (52, false) }) (v := ?vc60) rfl (by kernel_rfl) (by kernel_rfl) (by kernel_rfl) (fun _ _ _ h => h) (Or.inl ⟨by rfl, ?yc60⟩) (by assumption) ?rc60
        case yc60 => (intro w hSw; (try dsimp only at hSw); go_simp; (try with_reducible rfl))
        (try simp only [Act.put, List.setIfInBounds_toArray, List.set_cons_zero, List.set_cons_succ])
        refine wpAnyH_take (i := 61) (oi := { dst := some 121, op := Op.nilCheck (Operand.tmp 120), type := 0, pos := "law.go:43", after := #[{ on := 60, ground := Ground.data }, { on := 52, ground := Ground.guard }], guard := some (52, false) }) (v := ?vc61) rfl (by kernel_rfl) (by kernel_rfl) (by kernel_rfl) (fun _ _ _ h => h) (Or.inl ⟨by rfl, ?yc61⟩) (by assumption) ?rc61
        case yc61 => (intro w hSw; (try dsimp only at hSw); go_simp; (try with_reducible rfl))
        (try simp only [Act.put, List.setIfInBounds_toArray, List.set_cons_zero, List.set_cons_succ])
        refine wpAnyH_take (i := 62) (oi := { dst := some 122, op := Op.fieldAddr 29 (Operand.tmp 121) 1, type := 0, pos := "law.go:43", after := #[{ on := 61, ground := Ground.data }, { on := 52, ground := Ground.guard }], guard := some (52, false) }) (v := ?vc62) rfl (by kernel_rfl) (by kernel_rfl) (by kernel_rfl) (fun _ _ _ h => h) (Or.inl ⟨by rfl, ?yc62⟩) (by assumption) ?rc62
        case yc62 => (intro w hSw; (try dsimp only at hSw); go_simp; (try with_reducible rfl))
        (try simp only [Act.put, List.setIfInBounds_toArray, List.set_cons_zero, List.set_cons_succ])
        refine wpAnyH_take (i := 63) (oi := { dst := some 123, op := Op.load 27 (Operand.tmp 122), type := 27, pos := "law.go:43", after := #[{ on := 62, ground := Ground.data }, { on := 52, ground := Ground.guard }], guard := some (52, false) }) (v := ?vc63) rfl (by kernel_rfl) (by kernel_rfl) (by kernel_rfl) (fun _ _ _ h => h) (Or.inl ⟨by rfl, ?yc63⟩) (by assumption) ?rc63
        case yc63 => (intro w hSw; (try dsimp only at hSw); go_simp; (try with_reducible rfl))
        (try simp only [Act.put, List.setIfInBounds_toArray, List.set_cons_zero, List.set_cons_succ])
        refine wpAnyH_take (i := 64) (oi := { dst := some 124, op := Op.call { callee := Callee.builtin Builtin.len, args := #[Operand.tmp 123], argTypes := #[27] }, type := 3, pos := "law.go:43", after := #[{ on := 63, ground := Ground.data }, { on := 52, ground := Ground.guard }], guard := some (52, false) }) (v := ?vc64) rfl (by kernel_rfl) (by kernel_rfl) (by kernel_rfl) (fun _ _ _ h => h) (Or.inl ⟨by rfl, ?yc64⟩) (by assumption) ?rc64
        case yc64 => (intro w hSw; (try dsimp only at hSw); go_simp; (try with_reducible rfl))
        (try simp only [Act.put, List.setIfInBounds_toArray, List.set_cons_zero, List.set_cons_succ])
        refine wpAnyH_take (i := 65) (oi := { dst := some 125, op := Op.binOp BinOp.add 3 (Operand.tmp 119) (Operand.tmp 124) 3, type := 3, pos := "law.go:43", after := #[{ on := 59, ground := Ground.data }, { on := 64, ground := Ground.data }, { on := 52, ground := Ground.guard }], guard := some (52, false) }) (v := ?vc65) rfl (by kernel_rfl) (by kernel_rfl) (by kernel_rfl) (fun _ _ _ h => h) (Or.inl ⟨by rfl, ?yc65⟩) (by assumption) ?rc65
        case yc65 => (intro w hSw; (try dsimp only at hSw); go_simp; (try with_reducible rfl))
        (try simp only [Act.put, List.setIfInBounds_toArray, List.set_cons_zero, List.set_cons_succ])
        refine wpAnyH_take (i := 66) (oi := { dst := some 126, op := Op.binOp BinOp.eql 3 (Operand.tmp 125) (Operand.const (Value.int IntKind.i64 0)) 3, type := 4, pos := "law.go:43", after := #[{ on := 65, ground := Ground.data }, { on := 52, ground := Ground.guard }], guard := some (52, false) }) (v := ?vc66) rfl (by kernel_rfl) (by kernel_rfl) (by kernel_rfl) (fun _ _ _ h => h) (Or.inl ⟨by rfl, ?yc66⟩) (by assumption) ?rc66
        case yc66 => (intro w hSw; (try dsimp only at hSw); go_simp; (try with_reducible rfl))
        (try simp only [Act.put, List.setIfInBounds_toArray, List.set_cons_zero, List.set_cons_succ])
        refine wpAnyH_ready (rs := [54]) (by kernel_rfl) (by simp) ?_
        refine AllReadyH.cons (o := { dst := some 114, op := Op.call { callee := Callee.value (Operand.func 20), args := #[Operand.tmp 113], argTypes := #[24] }, type := 4, pos := "law.go:43", after := #[{ on := 53, ground := Ground.data }, { on := 52, ground := Ground.chain }, { on := 52, ground := Ground.guard }], guard := some (52, false) }) rfl (fun K hK => ?_) AllReadyH.nil
        go_simp
        (go_at_call 20; (with_reducible refine (C54.out _ B49.out).mono ?_); rintro e w54 ⟨rfl, b54⟩; have B54 := Aside0.mk (below_then B49.out B49.out.size b54); clear b54)
        go_wp2_with fail
        refine hK.out _ _ ?_ (fun hHc66 => ?_)
        · (try dsimp only)
          exact HB0.out _ B54.out
        clear hK K hHc49
        (try simp only [Act.put, List.setIfInBounds_toArray, List.set_cons_zero, List.set_cons_succ])
        refine wpAnyH_take (i := 67) (oi := { dst := some 127, op := Op.binOp BinOp.neq 4 (Operand.tmp 114) (Operand.tmp 126) 4, type := 4, pos := "law.go:43", after := #[{ on := 54, ground := Ground.data }, { on := 66, ground := Ground.data }, { on := 52, ground := Ground.guard }], guard := some (52, false) }) (v := ?vc68) rfl (by kernel_rfl) (by kernel_rfl) (by kernel_rfl) (fun _ _ _ h => h) (Or.inl ⟨by rfl, ?yc68⟩) (by assumption) ?rc68
        case yc68 => (intro w hSw; (try dsimp only at hSw); go_simp; (try with_reducible rfl))
        (try simp only [Act.put, List.setIfInBounds_toArray, List.set_cons_zero, List.set_cons_succ])
        refine wpAnyH_take (i := 68) (oi := { dst := some 128, op := Op.pick (Operand.tmp 112) (Operand.const (Value.bool true)) (Operand.tmp 127), type := 4, pos := "law.go:43", after := #[{ on := 52, ground := Ground.data }, { on := 67, ground := Ground.data }], guard := none }) (v := ?vc69) rfl (by kernel_rfl) (by kernel_rfl) (by kernel_rfl) (fun _ _ _ h => h) (Or.inl ⟨by rfl, ?yc69⟩) (by assumption) ?rc69
        case yc69 => (intro w hSw; (try dsimp only at hSw); go_simp; (try with_reducible rfl))
        (try simp only [Act.put, List.setIfInBounds_toArray, List.set_cons_zero, List.set_cons_succ])
        refine wpAnyH_done (by kernel_rfl) ?_ _
        go_wp2_with fail
        go_roundg (l.length - (i + 1))
        case measure => have := HI.out; omega
        case rel => exact ⟨i + 1, h2, q2, by have := HI.out; omega, by have := HI.out; omega, by first | rw [W3.out] | simp, ⟨(HT.out.less (fun _ h => h.elim)).below B54.out⟩, HV⟩
    · obtain rfl : i = l.length := by omega
      have t1 : ¬ ((l.length : Int) < (l.length : Int)) := by omega
      have HB := Aside0.mk HTi.out.bw
      clear hlt
      go_wp2_with fail
      refine (first_ w wr HB.out).mono ?_
      rintro e w3 ⟨rfl, hb3⟩
      have HB3 := Aside0.mk (below_then HB.out HB.out.size hb3)
      clear hb3
      go_wp2
      go_ret
      exact ⟨rfl, HB3.out⟩
theorem plays_walk (A : Option Addr) (c : Nat) (l : List Op3) (w : World) (hr : Kd.C kOp w A l.length l) (hc : l.length ≤ c) (hw : l.length ≤ maxLen) :
    Calls Try.prog 3 #[.slice A l.length c] w fun e w' => e = .returned (.bool true) ∧ Below w.heap.size w w' := by
  by_cases h : l.length ≤ 300
  · exact plays_in A c l w hr hc h
  · exact plays_long A c l w (by omega)
end Go.Proofs.Ytfpnadalfopmcaa.Ln
