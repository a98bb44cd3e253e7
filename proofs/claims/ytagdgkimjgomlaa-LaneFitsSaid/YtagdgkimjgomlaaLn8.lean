/- A lane's Ask. -/
import Derived.Test.YtagdgkimjgomlaaLn7
import Derived.Test.YtagdgkimjgomlaaSup
namespace Go.Proofs.Ytagdgkimjgomlaa.Ln
open Go.RowKit Go.Proofs.YtagdgkimjgomlaaW.PrintWords Go.Proofs.YtagdgkimjgomlaaW.PrintLast Go.Proofs.YtagdgkimjgomlaaW.PrintMore Go.Proofs.Ytagdgkimjgomlaa.PMd
set_option linter.unusedVariables false
set_option linter.unusedSimpArgs false
def supM (a b : Int) : Int := Sup.sup [a, b]
theorem Sup_ (a b : Int) (A : Option Addr) (c : Nat) (w : World) (hr : Kd.C (Kd.int .i64) w A 2 [a, b]) (hc : 2 ≤ c) : Calls Try.prog 46 #[.slice A 2 c] w fun e w' => e = .returned (.int .i64 (supM a b)) ∧ Drawn0 w w' :=
  mode_Sup.calls 20 A c [a, b] _ w hr hc (Sup.sup_f [a, b] (by simp) (by simp))
/-- What an Ask makes: the answer, the holders, the queue. -/
def askBad (qs : List E) (who m : Int) : Bool := !knownM m || m == 0 || decide (ix (fun x => x.f0 == who) qs ≥ 0)
def aheadOf (hs qs : List E) (who : Int) : Nat := if toldIn hs who = 0 then qs.length else convs hs qs
def askGo (hs qs : List E) (who m : Int) : Bool := supM (toldIn hs who) m == toldIn hs who || aheadOf hs qs who == 0 && fitsAll hs who (supM (toldIn hs who) m)
def askIn (hs qs : List E) (who m : Int) : Int × List E × List E :=
  if askBad qs who m then (0, hs, qs)
  else if askGo hs qs who m then (1, grantsIn hs who (supM (toldIn hs who) m), qs)
  else (2, hs, insAt qs (aheadOf hs qs who) ⟨who, supM (toldIn hs who) m⟩)
def AskPost (b : Nat) (F : Nat → Prop) (hs qs : List E) (who m : Int) (w : World) (e : Ending) (w' : World) : Prop :=
  e = .returned (.int .i64 (askIn hs qs who m).1) ∧ IsLane w' b (fun k => F k ∨ w.heap.size ≤ k) (askIn hs qs who m).2.1 (askIn hs qs who m).2.2 ∧ Grew F w w'
set_option maxHeartbeats 8000000 in
set_option maxRecDepth 100000 in
theorem Ask_bad (w : World) (b : Nat) (F : Nat → Prop) (hs qs : List E) (who m : Int) (hI : IsLane w b F hs qs) (hbad : askBad qs who m = true) :
    Calls Try.prog 44 #[.pointer (some ⟨b, 0, none⟩), .int .i64 who, .int .i64 m] w (AskPost b F hs qs who m w) := by
  have hu := Try.underlying105
  have HP := Aside0.mk (show askIn hs qs who m = (0, hs, qs) from if_pos hbad)
  have HI := Aside0.mk hI
  obtain ⟨hA, hc, qA, qc, c0, c1, l0, l1, r0, r1⟩ := hI.open_
  have HK := Aside0.mk (fun w => Known_ m w)
  have HO := Aside0.mk (fun w' (hb : Below w.heap.size w w') => of_ qA qc qs who w' (Kd.C_below r1 hb) l1)
  clear hI r0 r1 l0 l1 c0
  have fin : ∀ w', Below w.heap.size w w' → AskPost b F hs qs who m w (.returned (.int .i64 0)) w' := fun w' hb => by
    unfold AskPost
    rw [HP.out]
    exact ⟨rfl, (HI.out.below hb).mono (fun k _ h => .inl h), Grew.of_below hb⟩
  have FIN := Aside0.mk fin
  clear fin HP
  unfold askBad at hbad
  cases hk : knownM m with
  | false =>
    rw [hk] at HK
    clear hbad hk
    go_enter Try.func44, Try.ntmps44
    go_wp2_with fail
    refine (HK.out _).mono ?_
    rintro e w3 ⟨rfl, hd⟩
    obtain ⟨n, rfl⟩ := hd.out
    go_wp2_with fail
    go_ret
    exact FIN.out _ (pw_below_drewN (Below.refl _ _) _)
  | true =>
    rw [hk] at hbad HK
    by_cases hm : m = 0
    · have m1 : (m == 0) = true := beq_iff_eq.2 hm
      clear hbad hk hm
      go_enter Try.func44, Try.ntmps44
      go_wp2_with fail
      refine (HK.out _).mono ?_
      rintro e w3 ⟨rfl, hd⟩
      obtain ⟨n, rfl⟩ := hd.out
      go_wp2_with fail
      go_ret
      exact FIN.out _ (pw_below_drewN (Below.refl _ _) _)
    · have m1 : (m == 0) = false := beq_eq_false_iff_ne.2 hm
      rw [m1] at hbad
      have hx : decide (ix (fun x => x.f0 == who) qs ≥ 0) = true := by simpa using hbad
      generalize ix (fun x => x.f0 == who) qs = i at hx HO
      clear hbad hk hm
      go_enter Try.func44, Try.ntmps44
      go_wp2_with fail
      refine (HK.out _).mono ?_
      rintro e w3 ⟨rfl, hd⟩
      obtain ⟨n, rfl⟩ := hd.out
      go_wp2_with fail
      refine (HO.out _ (pw_below_drewN (Below.refl _ _) _)).mono ?_
      rintro e w4 ⟨rfl, hb⟩
      have HB := Aside0.mk (below_then (pw_below_drewN (Below.refl w.heap.size w) n) (Nat.le_refl _) hb)
      clear hb
      go_wp2_with fail
      go_ret
      exact FIN.out _ HB.out
/-! ### the ways -/
theorem slice_two {w : World} (x y : Int) : Kd.C (Kd.int .i64) (w.alloc (.cells #[.int .i64 x, .int .i64 y] 3)) (some ⟨w.heap.size, 0, none⟩) 2 [x, y] := by
  refine ⟨rfl, by omega, fun _ => ⟨_, rfl, fun j p hj => ?_⟩⟩
  match j, hj with
  | 0, hj => obtain rfl : x = p := by simpa using hj
             exact ⟨[.int .i64 x], rfl, rfl, fun i u hu => by
               match i, hu with
               | 0, hu => obtain rfl : Value.int .i64 x = u := by simpa using hu
                          exact (blk_cell (blk_new w _) 0).trans rfl
               | i + 1, hu => simp at hu⟩
  | 1, hj => obtain rfl : y = p := by simpa using hj
             exact ⟨[.int .i64 y], rfl, rfl, fun i u hu => by
               match i, hu with
               | 0, hu => obtain rfl : Value.int .i64 y = u := by simpa using hu
                          exact (blk_cell (blk_new w _) 1).trans rfl
               | i + 1, hu => simp at hu⟩
  | j + 2, hj => simp at hj
set_option maxHeartbeats 8000000 in
set_option maxRecDepth 100000 in
theorem Ask_0_same (w : World) (b : Nat) (F : Nat → Prop) (hs qs : List E) (who m : Int) (hI : IsLane w b F hs qs) (ha : Asc hs) (hl : hs.length ≤ 1000000) (hl2 : qs.length ≤ 1000000) (hbad : askBad qs who m = false)
    (e1 : toldIn hs who = 0) (e2 : supM (toldIn hs who) m = toldIn hs who) :
    Calls Try.prog 44 #[.pointer (some ⟨b, 0, none⟩), .int .i64 who, .int .i64 m] w (AskPost b F hs qs who m w) := by
  have hu := Try.underlying105
  have hu67 := Try.underlying67
  have hgo : askGo hs qs who m = true := by
    unfold askGo
    rw [beq_iff_eq.2 e2]; rfl
  have HP := Aside0.mk (show askIn hs qs who m = (1, grantsIn hs who (supM (toldIn hs who) m), qs) from by unfold askIn; rw [hbad, hgo]; rfl)
  have eA : aheadOf hs qs who = qs.length := by unfold aheadOf; rw [if_pos e1]
  clear eA hgo
  have HI := Aside0.mk hI
  obtain ⟨hA, hc, qA, qc, c0, c1, l0, l1, r0, r1⟩ := hI.open_
  unfold askBad at hbad
  have hk : knownM m = true := by cases h : knownM m <;> simp [h] at hbad ⊢
  have m1 : (m == 0) = false := by cases h : (m == 0) <;> simp [h, hk] at hbad ⊢
  have hx : decide (ix (fun x => x.f0 == who) qs ≥ 0) = false := by simpa [hk, m1] using hbad
  have HK := Aside0.mk (fun w => Known_ m w)
  rw [hk] at HK
  have HO := Aside0.mk (fun w' (hb : Below w.heap.size w w') => of_ qA qc qs who w' (Kd.C_below r1 hb) l1)
  generalize ix (fun x => x.f0 == who) qs = i at hx HO
  have HH := Aside0.mk (fun w' (h : IsLane w' b F hs qs) => Holds_ w' b F hs qs who h)
  have HF := Aside0.mk (fun w' (h : IsLane w' b F hs qs) => fits_ w' b F hs qs who (supM (toldIn hs who) m) h)
  have HC := Aside0.mk (fun w' (h : IsLane w' b F hs qs) => conversions_ w' b F hs qs h)
  have HG := Aside0.mk (fun w' (h : IsLane w' b F hs qs) => grants_ w' b F hs qs who (supM (toldIn hs who) m) h ha hl)
  have HS := Aside0.mk (fun w' A c hr hc => Sup_ (toldIn hs who) m A c w' hr hc)
  have HL2 := Aside0.mk hl2
  generalize supM (toldIn hs who) m = T at e2 HF HG HS HP
  generalize toldIn hs who = H at e1 e2 HH HS
  have t1 : (H != 0) = false := bne_eq_false_iff_eq.2 e1
  have t2 : (T == H) = true := beq_iff_eq.2 e2
  clear hI r0 r1 l0 l1 c0 hbad hk ha hl hl2 e1 e2
  go_enter Try.func44, Try.ntmps44
  go_wp2_with fail
  refine (HK.out _).mono ?_
  rintro e w3 ⟨rfl, hd⟩
  obtain ⟨n, rfl⟩ := hd.out
  go_wp2_with fail
  refine (HO.out _ (pw_below_drewN (Below.refl _ _) _)).mono ?_
  rintro e w4 ⟨rfl, hb⟩
  have HB := Aside0.mk (below_then (pw_below_drewN (Below.refl w.heap.size w) n) (Nat.le_refl _) hb)
  clear hb
  go_wp2_with fail
  refine (HH.out _ (HI.out.below HB.out)).mono ?_
  rintro e w5 ⟨rfl, hb⟩
  have HB5 := Aside0.mk (below_then HB.out HB.out.size hb)
  clear hb HB
  go_wp2_with fail
  refine (HS.out _ _ _ (slice_two _ _) (Nat.le_refl _)).mono ?_
  rintro e w6 ⟨rfl, hd⟩
  obtain ⟨n2, rfl⟩ := hd.out
  have HB6 := Aside0.mk (pw_below_drewN (below_alloc HB5.out (.cells #[.int .i64 H, .int .i64 m] 3)) n2)
  have c6 := cell_be c1 HB6.out
  clear HB5
  generalize (w5.alloc (.cells #[.int .i64 H, .int .i64 m] 3)).drewN n2 = w6 at HB6 c6 ⊢
  go_wp2_with fail
  refine (HG.out _ (HI.out.below HB6.out)).mono ?_
  rintro e w9 ⟨rfl, hI9, hG9⟩
  have HI9 := Aside0.mk hI9
  have HG9 := Aside0.mk hG9
  clear hI9 hG9
  go_wp2
  go_ret
  unfold AskPost
  rw [HP.out]
  refine ⟨rfl, HI9.out.mono (fun k hk h => h.elim .inl (fun h2 => .inr (Nat.le_trans HB6.out.size h2))), (Grew.of_below HB6.out).trans HG9.out (fun _ h => .inl h)⟩
set_option maxHeartbeats 8000000 in
set_option maxRecDepth 100000 in
theorem Ask_0_fits (w : World) (b : Nat) (F : Nat → Prop) (hs qs : List E) (who m : Int) (hI : IsLane w b F hs qs) (ha : Asc hs) (hl : hs.length ≤ 1000000) (hl2 : qs.length ≤ 1000000) (hbad : askBad qs who m = false)
    (e1 : toldIn hs who = 0) (e2 : supM (toldIn hs who) m ≠ toldIn hs who) (e3 : aheadOf hs qs who = 0) (e4 : fitsAll hs who (supM (toldIn hs who) m) = true) :
    Calls Try.prog 44 #[.pointer (some ⟨b, 0, none⟩), .int .i64 who, .int .i64 m] w (AskPost b F hs qs who m w) := by
  have hu := Try.underlying105
  have hu67 := Try.underlying67
  have hgo : askGo hs qs who m = true := by
    unfold askGo
    rw [beq_eq_false_iff_ne.2 e2, e3, e4]; rfl
  have HP := Aside0.mk (show askIn hs qs who m = (1, grantsIn hs who (supM (toldIn hs who) m), qs) from by unfold askIn; rw [hbad, hgo]; rfl)
  have eA : aheadOf hs qs who = qs.length := by unfold aheadOf; rw [if_pos e1]
  rw [eA] at e3
  clear eA hgo
  have HI := Aside0.mk hI
  obtain ⟨hA, hc, qA, qc, c0, c1, l0, l1, r0, r1⟩ := hI.open_
  unfold askBad at hbad
  have hk : knownM m = true := by cases h : knownM m <;> simp [h] at hbad ⊢
  have m1 : (m == 0) = false := by cases h : (m == 0) <;> simp [h, hk] at hbad ⊢
  have hx : decide (ix (fun x => x.f0 == who) qs ≥ 0) = false := by simpa [hk, m1] using hbad
  have HK := Aside0.mk (fun w => Known_ m w)
  rw [hk] at HK
  have HO := Aside0.mk (fun w' (hb : Below w.heap.size w w') => of_ qA qc qs who w' (Kd.C_below r1 hb) l1)
  generalize ix (fun x => x.f0 == who) qs = i at hx HO
  have HH := Aside0.mk (fun w' (h : IsLane w' b F hs qs) => Holds_ w' b F hs qs who h)
  have HF := Aside0.mk (fun w' (h : IsLane w' b F hs qs) => fits_ w' b F hs qs who (supM (toldIn hs who) m) h)
  have HC := Aside0.mk (fun w' (h : IsLane w' b F hs qs) => conversions_ w' b F hs qs h)
  have HG := Aside0.mk (fun w' (h : IsLane w' b F hs qs) => grants_ w' b F hs qs who (supM (toldIn hs who) m) h ha hl)
  have HS := Aside0.mk (fun w' A c hr hc => Sup_ (toldIn hs who) m A c w' hr hc)
  have HL2 := Aside0.mk hl2
  rw [e4] at HF
  generalize supM (toldIn hs who) m = T at e2 HF HG HS HP
  generalize toldIn hs who = H at e1 e2 HH HS
  have t1 : (H != 0) = false := bne_eq_false_iff_eq.2 e1
  have t2 : (T == H) = false := beq_eq_false_iff_ne.2 e2
  have t3 : (((qs.length : Nat) : Int) == 0) = true := beq_iff_eq.2 (by omega)
  clear hI r0 r1 l0 l1 c0 hbad hk ha hl hl2 e1 e2 e3
  go_enter Try.func44, Try.ntmps44
  go_wp2_with fail
  refine (HK.out _).mono ?_
  rintro e w3 ⟨rfl, hd⟩
  obtain ⟨n, rfl⟩ := hd.out
  go_wp2_with fail
  refine (HO.out _ (pw_below_drewN (Below.refl _ _) _)).mono ?_
  rintro e w4 ⟨rfl, hb⟩
  have HB := Aside0.mk (below_then (pw_below_drewN (Below.refl w.heap.size w) n) (Nat.le_refl _) hb)
  clear hb
  go_wp2_with fail
  refine (HH.out _ (HI.out.below HB.out)).mono ?_
  rintro e w5 ⟨rfl, hb⟩
  have HB5 := Aside0.mk (below_then HB.out HB.out.size hb)
  clear hb HB
  go_wp2_with fail
  refine (HS.out _ _ _ (slice_two _ _) (Nat.le_refl _)).mono ?_
  rintro e w6 ⟨rfl, hd⟩
  obtain ⟨n2, rfl⟩ := hd.out
  have HB6 := Aside0.mk (pw_below_drewN (below_alloc HB5.out (.cells #[.int .i64 H, .int .i64 m] 3)) n2)
  have c6 := cell_be c1 HB6.out
  clear HB5
  generalize (w5.alloc (.cells #[.int .i64 H, .int .i64 m] 3)).drewN n2 = w6 at HB6 c6 ⊢
  go_wp2_with fail
  refine (HF.out _ (HI.out.below HB6.out)).mono ?_
  rintro e w8 ⟨rfl, hb⟩
  have HB8 := Aside0.mk (below_then HB6.out HB6.out.size hb)
  have c8 := cell_be c1 HB8.out
  clear hb HB6 c6
  go_wp2_with fail
  refine (HG.out _ (HI.out.below HB8.out)).mono ?_
  rintro e w9 ⟨rfl, hI9, hG9⟩
  have HI9 := Aside0.mk hI9
  have HG9 := Aside0.mk hG9
  clear hI9 hG9
  go_wp2
  go_ret
  unfold AskPost
  rw [HP.out]
  refine ⟨rfl, HI9.out.mono (fun k hk h => h.elim .inl (fun h2 => .inr (Nat.le_trans HB8.out.size h2))), (Grew.of_below HB8.out).trans HG9.out (fun _ h => .inl h)⟩
set_option maxHeartbeats 8000000 in
set_option maxRecDepth 100000 in
theorem Ask_0_nofit (w : World) (b : Nat) (F : Nat → Prop) (hs qs : List E) (who m : Int) (hI : IsLane w b F hs qs) (ha : Asc hs) (hl : hs.length ≤ 1000000) (hl2 : qs.length ≤ 1000000) (hbad : askBad qs who m = false)
    (e1 : toldIn hs who = 0) (e2 : supM (toldIn hs who) m ≠ toldIn hs who) (e3 : aheadOf hs qs who = 0) (e4 : fitsAll hs who (supM (toldIn hs who) m) = false) :
    Calls Try.prog 44 #[.pointer (some ⟨b, 0, none⟩), .int .i64 who, .int .i64 m] w (AskPost b F hs qs who m w) := by
  have hu := Try.underlying105
  have hu67 := Try.underlying67
  have hgo : askGo hs qs who m = false := by
    unfold askGo
    rw [beq_eq_false_iff_ne.2 e2, e3, e4]; rfl
  have HP := Aside0.mk (show askIn hs qs who m = (2, hs, insAt qs (aheadOf hs qs who) ⟨who, supM (toldIn hs who) m⟩) from by unfold askIn; rw [hbad, hgo]; rfl)
  have eA : aheadOf hs qs who = qs.length := by unfold aheadOf; rw [if_pos e1]
  rw [eA] at e3
  rw [eA] at HP
  clear eA hgo
  have HI := Aside0.mk hI
  obtain ⟨hA, hc, qA, qc, c0, c1, l0, l1, r0, r1⟩ := hI.open_
  unfold askBad at hbad
  have hk : knownM m = true := by cases h : knownM m <;> simp [h] at hbad ⊢
  have m1 : (m == 0) = false := by cases h : (m == 0) <;> simp [h, hk] at hbad ⊢
  have hx : decide (ix (fun x => x.f0 == who) qs ≥ 0) = false := by simpa [hk, m1] using hbad
  have HK := Aside0.mk (fun w => Known_ m w)
  rw [hk] at HK
  have HO := Aside0.mk (fun w' (hb : Below w.heap.size w w') => of_ qA qc qs who w' (Kd.C_below r1 hb) l1)
  generalize ix (fun x => x.f0 == who) qs = i at hx HO
  have HH := Aside0.mk (fun w' (h : IsLane w' b F hs qs) => Holds_ w' b F hs qs who h)
  have HF := Aside0.mk (fun w' (h : IsLane w' b F hs qs) => fits_ w' b F hs qs who (supM (toldIn hs who) m) h)
  have HC := Aside0.mk (fun w' (h : IsLane w' b F hs qs) => conversions_ w' b F hs qs h)
  have HG := Aside0.mk (fun w' (h : IsLane w' b F hs qs) => grants_ w' b F hs qs who (supM (toldIn hs who) m) h ha hl)
  have HS := Aside0.mk (fun w' A c hr hc => Sup_ (toldIn hs who) m A c w' hr hc)
  have HL2 := Aside0.mk hl2
  rw [e4] at HF
  generalize supM (toldIn hs who) m = T at e2 HF HG HS HP
  generalize toldIn hs who = H at e1 e2 HH HS
  have t1 : (H != 0) = false := bne_eq_false_iff_eq.2 e1
  have t2 : (T == H) = false := beq_eq_false_iff_ne.2 e2
  have t3 : (((qs.length : Nat) : Int) == 0) = true := beq_iff_eq.2 (by omega)
  clear hI r0 r1 l0 l1 c0 hbad hk ha hl hl2 e1 e2 e3
  go_enter Try.func44, Try.ntmps44
  go_wp2_with fail
  refine (HK.out _).mono ?_
  rintro e w3 ⟨rfl, hd⟩
  obtain ⟨n, rfl⟩ := hd.out
  go_wp2_with fail
  refine (HO.out _ (pw_below_drewN (Below.refl _ _) _)).mono ?_
  rintro e w4 ⟨rfl, hb⟩
  have HB := Aside0.mk (below_then (pw_below_drewN (Below.refl w.heap.size w) n) (Nat.le_refl _) hb)
  clear hb
  go_wp2_with fail
  refine (HH.out _ (HI.out.below HB.out)).mono ?_
  rintro e w5 ⟨rfl, hb⟩
  have HB5 := Aside0.mk (below_then HB.out HB.out.size hb)
  clear hb HB
  go_wp2_with fail
  refine (HS.out _ _ _ (slice_two _ _) (Nat.le_refl _)).mono ?_
  rintro e w6 ⟨rfl, hd⟩
  obtain ⟨n2, rfl⟩ := hd.out
  have HB6 := Aside0.mk (pw_below_drewN (below_alloc HB5.out (.cells #[.int .i64 H, .int .i64 m] 3)) n2)
  have c6 := cell_be c1 HB6.out
  clear HB5
  generalize (w5.alloc (.cells #[.int .i64 H, .int .i64 m] 3)).drewN n2 = w6 at HB6 c6 ⊢
  go_wp2_with fail
  refine (HF.out _ (HI.out.below HB6.out)).mono ?_
  rintro e w8 ⟨rfl, hb⟩
  have HB8 := Aside0.mk (below_then HB6.out HB6.out.size hb)
  have c8 := cell_be c1 HB8.out
  clear hb HB6 c6
  go_wp2_with fail
  obtain ⟨hA', hc', qA', qc', h1, h2, h3, h4, h5, h6, h7⟩ := HI.out.below HB8.out
  obtain ⟨rfl, rfl⟩ : qA' = qA ∧ qc' = qc := by
    have e1 := ((blk_cell h1 1).trans rfl).symm.trans c8
    injection e1 with e1
    injection e1 with e1 _ e3
    exact ⟨e1, e3⟩
  have hbq : ¬ blk qA' b := h5.ne h1 (by decide)
  have HINS := Aside0.mk (Insert_ qA' qc' qs qs.length ⟨who, T⟩ w8.heap.size (w8.alloc (.cells #[.int .i64 who, .int .i64 T] 67)) (Nat.le_refl _) (h5.alloc _) (blk_new w8 _) (fun hk => Nat.lt_irrefl _ (h5.lt hk)) HL2.out)
  have b9 := blk_alloc h1 (.cells #[.int .i64 who, .int .i64 T] 67)
  have H1 := Aside0.mk b9
  have H2 := Aside0.mk h2
  have H3 := Aside0.mk (h3.alloc (.cells #[.int .i64 who, .int .i64 T] 67))
  have H4 := Aside0.mk h4
  have H6 := Aside0.mk h6
  have H7 := Aside0.mk h7
  have HQ := Aside0.mk hbq
  have HB9 := Aside0.mk (below_alloc HB8.out (.cells #[.int .i64 who, .int .i64 T] 67))
  have HZ := Aside0.mk (show w.heap.size ≤ w8.heap.size from HB8.out.size)
  clear h1 h2 h3 h4 h5 h6 h7 hbq b9 c1
  refine HINS.out.mono ?_
  rintro e w10 ⟨A', c', rfl, hR, hG, hk⟩
  have b10 := (hG.block b (Array.getElem?_eq_some_iff.1 H1.out).1 HQ.out).trans H1.out
  have c10 : w10.cell? ⟨b, 1, none⟩ = some (.slice qA' qs.length qc') := (blk_cell b10 1).trans rfl
  have f10 : w10.frozen? ⟨b, 1, none⟩ = false := blk_frozen b10 1
  have HR := Aside0.mk hR
  have HG2 := Aside0.mk hG
  have HK2 := Aside0.mk hk
  have B10 := Aside0.mk b10
  clear hR hG hk b10
  go_wp2
  go_ret
  have hli : (insAt qs qs.length ⟨who, T⟩).length = qs.length + 1 := by unfold insAt; rw [List.length_append, List.length_cons, List.length_take, List.length_drop]; omega
  have hAb : ¬ blk A' b := fun h => HQ.out.elim (by
    obtain ⟨cur, hc⟩ := HR.out.typed h
    rw [B10.out] at hc
    injection hc with hc
    injection hc with _ hc
    exact absurd hc (by decide))
  have hsz : (w8.alloc (.cells #[.int .i64 who, .int .i64 T] 67)).heap.size = w8.heap.size + 1 := by simp
  have hnew : ∀ k, blk A' k → F k ∨ w.heap.size ≤ k := fun k h => (HK2.out k h).elim (fun h => .inl (H6.out k h)) (fun h => .inr (by have := HZ.out; omega))
  have hapart : ∀ k, blk hA' k → blk A' k → False := fun k h h' => (HK2.out k h').elim (fun h2 => H7.out k h h2) (fun h2 => by have := H3.out.lt h; omega)
  unfold AskPost
  rw [HP.out]
  refine ⟨rfl, ⟨hA', hc', A', c', ?_, .inl H2.out, ?_, fun k h => .inl (H4.out k h), ?_, hnew, hapart⟩, ?_⟩
  · show _ = some (Obj.cells #[.slice hA' hs.length hc', .slice A' (insAt qs qs.length ⟨who, T⟩).length c'] 105 (0, 0))
    rw [hli]; exact blk_put B10.out 1 _ rfl
  · exact (H3.out.grew HG2.out (fun k h h2 => H7.out k h h2)).set (p := ⟨b, 1, none⟩) (fun hk => (H3.out.ne H1.out (by decide)) hk) _
  · show Row _ 67 2 A' (insAt qs qs.length ⟨who, T⟩).length c' (flat (insAt qs qs.length ⟨who, T⟩))
    rw [hli]; exact HR.out.set (p := ⟨b, 1, none⟩) hAb _
  · exact ((Grew.of_below HB9.out).trans HG2.out (fun k h => .inl (H6.out k h))).setCell (.inl H2.out) _
set_option maxHeartbeats 8000000 in
set_option maxRecDepth 100000 in
theorem Ask_0_queue (w : World) (b : Nat) (F : Nat → Prop) (hs qs : List E) (who m : Int) (hI : IsLane w b F hs qs) (ha : Asc hs) (hl : hs.length ≤ 1000000) (hl2 : qs.length ≤ 1000000) (hbad : askBad qs who m = false)
    (e1 : toldIn hs who = 0) (e2 : supM (toldIn hs who) m ≠ toldIn hs who) (e3 : aheadOf hs qs who ≠ 0) :
    Calls Try.prog 44 #[.pointer (some ⟨b, 0, none⟩), .int .i64 who, .int .i64 m] w (AskPost b F hs qs who m w) := by
  have hu := Try.underlying105
  have hu67 := Try.underlying67
  have hgo : askGo hs qs who m = false := by
    unfold askGo
    rw [beq_eq_false_iff_ne.2 e2, beq_eq_false_iff_ne.2 e3]; rfl
  have HP := Aside0.mk (show askIn hs qs who m = (2, hs, insAt qs (aheadOf hs qs who) ⟨who, supM (toldIn hs who) m⟩) from by unfold askIn; rw [hbad, hgo]; rfl)
  have eA : aheadOf hs qs who = qs.length := by unfold aheadOf; rw [if_pos e1]
  rw [eA] at e3
  rw [eA] at HP
  clear eA hgo
  have HI := Aside0.mk hI
  obtain ⟨hA, hc, qA, qc, c0, c1, l0, l1, r0, r1⟩ := hI.open_
  unfold askBad at hbad
  have hk : knownM m = true := by cases h : knownM m <;> simp [h] at hbad ⊢
  have m1 : (m == 0) = false := by cases h : (m == 0) <;> simp [h, hk] at hbad ⊢
  have hx : decide (ix (fun x => x.f0 == who) qs ≥ 0) = false := by simpa [hk, m1] using hbad
  have HK := Aside0.mk (fun w => Known_ m w)
  rw [hk] at HK
  have HO := Aside0.mk (fun w' (hb : Below w.heap.size w w') => of_ qA qc qs who w' (Kd.C_below r1 hb) l1)
  generalize ix (fun x => x.f0 == who) qs = i at hx HO
  have HH := Aside0.mk (fun w' (h : IsLane w' b F hs qs) => Holds_ w' b F hs qs who h)
  have HF := Aside0.mk (fun w' (h : IsLane w' b F hs qs) => fits_ w' b F hs qs who (supM (toldIn hs who) m) h)
  have HC := Aside0.mk (fun w' (h : IsLane w' b F hs qs) => conversions_ w' b F hs qs h)
  have HG := Aside0.mk (fun w' (h : IsLane w' b F hs qs) => grants_ w' b F hs qs who (supM (toldIn hs who) m) h ha hl)
  have HS := Aside0.mk (fun w' A c hr hc => Sup_ (toldIn hs who) m A c w' hr hc)
  have HL2 := Aside0.mk hl2
  generalize supM (toldIn hs who) m = T at e2 HF HG HS HP
  generalize toldIn hs who = H at e1 e2 HH HS
  have t1 : (H != 0) = false := bne_eq_false_iff_eq.2 e1
  have t2 : (T == H) = false := beq_eq_false_iff_ne.2 e2
  have t3 : (((qs.length : Nat) : Int) == 0) = false := beq_eq_false_iff_ne.2 (by omega)
  clear hI r0 r1 l0 l1 c0 hbad hk ha hl hl2 e1 e2 e3
  go_enter Try.func44, Try.ntmps44
  go_wp2_with fail
  refine (HK.out _).mono ?_
  rintro e w3 ⟨rfl, hd⟩
  obtain ⟨n, rfl⟩ := hd.out
  go_wp2_with fail
  refine (HO.out _ (pw_below_drewN (Below.refl _ _) _)).mono ?_
  rintro e w4 ⟨rfl, hb⟩
  have HB := Aside0.mk (below_then (pw_below_drewN (Below.refl w.heap.size w) n) (Nat.le_refl _) hb)
  clear hb
  go_wp2_with fail
  refine (HH.out _ (HI.out.below HB.out)).mono ?_
  rintro e w5 ⟨rfl, hb⟩
  have HB5 := Aside0.mk (below_then HB.out HB.out.size hb)
  clear hb HB
  go_wp2_with fail
  refine (HS.out _ _ _ (slice_two _ _) (Nat.le_refl _)).mono ?_
  rintro e w6 ⟨rfl, hd⟩
  obtain ⟨n2, rfl⟩ := hd.out
  have HB6 := Aside0.mk (pw_below_drewN (below_alloc HB5.out (.cells #[.int .i64 H, .int .i64 m] 3)) n2)
  have c6 := cell_be c1 HB6.out
  clear HB5
  generalize (w5.alloc (.cells #[.int .i64 H, .int .i64 m] 3)).drewN n2 = w6 at HB6 c6 ⊢
  go_wp2_with fail
  obtain ⟨hA', hc', qA', qc', h1, h2, h3, h4, h5, h6, h7⟩ := HI.out.below HB6.out
  obtain ⟨rfl, rfl⟩ : qA' = qA ∧ qc' = qc := by
    have e1 := ((blk_cell h1 1).trans rfl).symm.trans c6
    injection e1 with e1
    injection e1 with e1 _ e3
    exact ⟨e1, e3⟩
  have hbq : ¬ blk qA' b := h5.ne h1 (by decide)
  have HINS := Aside0.mk (Insert_ qA' qc' qs qs.length ⟨who, T⟩ w6.heap.size (w6.alloc (.cells #[.int .i64 who, .int .i64 T] 67)) (Nat.le_refl _) (h5.alloc _) (blk_new w6 _) (fun hk => Nat.lt_irrefl _ (h5.lt hk)) HL2.out)
  have b9 := blk_alloc h1 (.cells #[.int .i64 who, .int .i64 T] 67)
  have H1 := Aside0.mk b9
  have H2 := Aside0.mk h2
  have H3 := Aside0.mk (h3.alloc (.cells #[.int .i64 who, .int .i64 T] 67))
  have H4 := Aside0.mk h4
  have H6 := Aside0.mk h6
  have H7 := Aside0.mk h7
  have HQ := Aside0.mk hbq
  have HB9 := Aside0.mk (below_alloc HB6.out (.cells #[.int .i64 who, .int .i64 T] 67))
  have HZ := Aside0.mk (show w.heap.size ≤ w6.heap.size from HB6.out.size)
  clear h1 h2 h3 h4 h5 h6 h7 hbq b9 c1
  refine HINS.out.mono ?_
  rintro e w10 ⟨A', c', rfl, hR, hG, hk⟩
  have b10 := (hG.block b (Array.getElem?_eq_some_iff.1 H1.out).1 HQ.out).trans H1.out
  have c10 : w10.cell? ⟨b, 1, none⟩ = some (.slice qA' qs.length qc') := (blk_cell b10 1).trans rfl
  have f10 : w10.frozen? ⟨b, 1, none⟩ = false := blk_frozen b10 1
  have HR := Aside0.mk hR
  have HG2 := Aside0.mk hG
  have HK2 := Aside0.mk hk
  have B10 := Aside0.mk b10
  clear hR hG hk b10
  go_wp2
  go_ret
  have hli : (insAt qs qs.length ⟨who, T⟩).length = qs.length + 1 := by unfold insAt; rw [List.length_append, List.length_cons, List.length_take, List.length_drop]; omega
  have hAb : ¬ blk A' b := fun h => HQ.out.elim (by
    obtain ⟨cur, hc⟩ := HR.out.typed h
    rw [B10.out] at hc
    injection hc with hc
    injection hc with _ hc
    exact absurd hc (by decide))
  have hsz : (w6.alloc (.cells #[.int .i64 who, .int .i64 T] 67)).heap.size = w6.heap.size + 1 := by simp
  have hnew : ∀ k, blk A' k → F k ∨ w.heap.size ≤ k := fun k h => (HK2.out k h).elim (fun h => .inl (H6.out k h)) (fun h => .inr (by have := HZ.out; omega))
  have hapart : ∀ k, blk hA' k → blk A' k → False := fun k h h' => (HK2.out k h').elim (fun h2 => H7.out k h h2) (fun h2 => by have := H3.out.lt h; omega)
  unfold AskPost
  rw [HP.out]
  refine ⟨rfl, ⟨hA', hc', A', c', ?_, .inl H2.out, ?_, fun k h => .inl (H4.out k h), ?_, hnew, hapart⟩, ?_⟩
  · show _ = some (Obj.cells #[.slice hA' hs.length hc', .slice A' (insAt qs qs.length ⟨who, T⟩).length c'] 105 (0, 0))
    rw [hli]; exact blk_put B10.out 1 _ rfl
  · exact (H3.out.grew HG2.out (fun k h h2 => H7.out k h h2)).set (p := ⟨b, 1, none⟩) (fun hk => (H3.out.ne H1.out (by decide)) hk) _
  · show Row _ 67 2 A' (insAt qs qs.length ⟨who, T⟩).length c' (flat (insAt qs qs.length ⟨who, T⟩))
    rw [hli]; exact HR.out.set (p := ⟨b, 1, none⟩) hAb _
  · exact ((Grew.of_below HB9.out).trans HG2.out (fun k h => .inl (H6.out k h))).setCell (.inl H2.out) _
set_option maxHeartbeats 8000000 in
set_option maxRecDepth 100000 in
theorem Ask_1_same (w : World) (b : Nat) (F : Nat → Prop) (hs qs : List E) (who m : Int) (hI : IsLane w b F hs qs) (ha : Asc hs) (hl : hs.length ≤ 1000000) (hl2 : qs.length ≤ 1000000) (hbad : askBad qs who m = false)
    (e1 : toldIn hs who ≠ 0) (e2 : supM (toldIn hs who) m = toldIn hs who) :
    Calls Try.prog 44 #[.pointer (some ⟨b, 0, none⟩), .int .i64 who, .int .i64 m] w (AskPost b F hs qs who m w) := by
  have hu := Try.underlying105
  have hu67 := Try.underlying67
  have hgo : askGo hs qs who m = true := by
    unfold askGo
    rw [beq_iff_eq.2 e2]; rfl
  have HP := Aside0.mk (show askIn hs qs who m = (1, grantsIn hs who (supM (toldIn hs who) m), qs) from by unfold askIn; rw [hbad, hgo]; rfl)
  have eA : aheadOf hs qs who = convs hs qs := by unfold aheadOf; rw [if_neg e1]
  clear eA hgo
  have HI := Aside0.mk hI
  obtain ⟨hA, hc, qA, qc, c0, c1, l0, l1, r0, r1⟩ := hI.open_
  unfold askBad at hbad
  have hk : knownM m = true := by cases h : knownM m <;> simp [h] at hbad ⊢
  have m1 : (m == 0) = false := by cases h : (m == 0) <;> simp [h, hk] at hbad ⊢
  have hx : decide (ix (fun x => x.f0 == who) qs ≥ 0) = false := by simpa [hk, m1] using hbad
  have HK := Aside0.mk (fun w => Known_ m w)
  rw [hk] at HK
  have HO := Aside0.mk (fun w' (hb : Below w.heap.size w w') => of_ qA qc qs who w' (Kd.C_below r1 hb) l1)
  generalize ix (fun x => x.f0 == who) qs = i at hx HO
  have HH := Aside0.mk (fun w' (h : IsLane w' b F hs qs) => Holds_ w' b F hs qs who h)
  have HF := Aside0.mk (fun w' (h : IsLane w' b F hs qs) => fits_ w' b F hs qs who (supM (toldIn hs who) m) h)
  have HC := Aside0.mk (fun w' (h : IsLane w' b F hs qs) => conversions_ w' b F hs qs h)
  have HG := Aside0.mk (fun w' (h : IsLane w' b F hs qs) => grants_ w' b F hs qs who (supM (toldIn hs who) m) h ha hl)
  have HS := Aside0.mk (fun w' A c hr hc => Sup_ (toldIn hs who) m A c w' hr hc)
  have HL2 := Aside0.mk hl2
  generalize supM (toldIn hs who) m = T at e2 HF HG HS HP
  generalize toldIn hs who = H at e1 e2 HH HS
  have HN := Aside0.mk (show convs hs qs ≤ qs.length from by unfold convs; exact (List.takeWhile_prefix _).length_le)
  generalize convs hs qs = AH at  HC  HN
  have t1 : (H != 0) = true := bne_iff_ne.2 e1
  have t2 : (T == H) = true := beq_iff_eq.2 e2
  clear hI r0 r1 l0 l1 c0 hbad hk ha hl hl2 e1 e2
  go_enter Try.func44, Try.ntmps44
  go_wp2_with fail
  refine (HK.out _).mono ?_
  rintro e w3 ⟨rfl, hd⟩
  obtain ⟨n, rfl⟩ := hd.out
  go_wp2_with fail
  refine (HO.out _ (pw_below_drewN (Below.refl _ _) _)).mono ?_
  rintro e w4 ⟨rfl, hb⟩
  have HB := Aside0.mk (below_then (pw_below_drewN (Below.refl w.heap.size w) n) (Nat.le_refl _) hb)
  clear hb
  go_wp2_with fail
  refine (HH.out _ (HI.out.below HB.out)).mono ?_
  rintro e w5 ⟨rfl, hb⟩
  have HB5 := Aside0.mk (below_then HB.out HB.out.size hb)
  clear hb HB
  go_wp2_with fail
  refine (HS.out _ _ _ (slice_two _ _) (Nat.le_refl _)).mono ?_
  rintro e w6 ⟨rfl, hd⟩
  obtain ⟨n2, rfl⟩ := hd.out
  have HB6 := Aside0.mk (pw_below_drewN (below_alloc HB5.out (.cells #[.int .i64 H, .int .i64 m] 3)) n2)
  have c6 := cell_be c1 HB6.out
  clear HB5
  generalize (w5.alloc (.cells #[.int .i64 H, .int .i64 m] 3)).drewN n2 = w6 at HB6 c6 ⊢
  go_wp2_with fail
  refine (HC.out _ (HI.out.below HB6.out)).mono ?_
  rintro e w7 ⟨rfl, hb⟩
  have HB7 := Aside0.mk (below_then HB6.out HB6.out.size hb)
  have c7 := cell_be c1 HB7.out
  clear hb HB6 c6
  go_wp2_with fail
  refine (HG.out _ (HI.out.below HB7.out)).mono ?_
  rintro e w9 ⟨rfl, hI9, hG9⟩
  have HI9 := Aside0.mk hI9
  have HG9 := Aside0.mk hG9
  clear hI9 hG9
  go_wp2
  go_ret
  unfold AskPost
  rw [HP.out]
  refine ⟨rfl, HI9.out.mono (fun k hk h => h.elim .inl (fun h2 => .inr (Nat.le_trans HB7.out.size h2))), (Grew.of_below HB7.out).trans HG9.out (fun _ h => .inl h)⟩
set_option maxHeartbeats 8000000 in
set_option maxRecDepth 100000 in
theorem Ask_1_fits (w : World) (b : Nat) (F : Nat → Prop) (hs qs : List E) (who m : Int) (hI : IsLane w b F hs qs) (ha : Asc hs) (hl : hs.length ≤ 1000000) (hl2 : qs.length ≤ 1000000) (hbad : askBad qs who m = false)
    (e1 : toldIn hs who ≠ 0) (e2 : supM (toldIn hs who) m ≠ toldIn hs who) (e3 : aheadOf hs qs who = 0) (e4 : fitsAll hs who (supM (toldIn hs who) m) = true) :
    Calls Try.prog 44 #[.pointer (some ⟨b, 0, none⟩), .int .i64 who, .int .i64 m] w (AskPost b F hs qs who m w) := by
  have hu := Try.underlying105
  have hu67 := Try.underlying67
  have hgo : askGo hs qs who m = true := by
    unfold askGo
    rw [beq_eq_false_iff_ne.2 e2, e3, e4]; rfl
  have HP := Aside0.mk (show askIn hs qs who m = (1, grantsIn hs who (supM (toldIn hs who) m), qs) from by unfold askIn; rw [hbad, hgo]; rfl)
  have eA : aheadOf hs qs who = convs hs qs := by unfold aheadOf; rw [if_neg e1]
  rw [eA] at e3
  clear eA hgo
  have HI := Aside0.mk hI
  obtain ⟨hA, hc, qA, qc, c0, c1, l0, l1, r0, r1⟩ := hI.open_
  unfold askBad at hbad
  have hk : knownM m = true := by cases h : knownM m <;> simp [h] at hbad ⊢
  have m1 : (m == 0) = false := by cases h : (m == 0) <;> simp [h, hk] at hbad ⊢
  have hx : decide (ix (fun x => x.f0 == who) qs ≥ 0) = false := by simpa [hk, m1] using hbad
  have HK := Aside0.mk (fun w => Known_ m w)
  rw [hk] at HK
  have HO := Aside0.mk (fun w' (hb : Below w.heap.size w w') => of_ qA qc qs who w' (Kd.C_below r1 hb) l1)
  generalize ix (fun x => x.f0 == who) qs = i at hx HO
  have HH := Aside0.mk (fun w' (h : IsLane w' b F hs qs) => Holds_ w' b F hs qs who h)
  have HF := Aside0.mk (fun w' (h : IsLane w' b F hs qs) => fits_ w' b F hs qs who (supM (toldIn hs who) m) h)
  have HC := Aside0.mk (fun w' (h : IsLane w' b F hs qs) => conversions_ w' b F hs qs h)
  have HG := Aside0.mk (fun w' (h : IsLane w' b F hs qs) => grants_ w' b F hs qs who (supM (toldIn hs who) m) h ha hl)
  have HS := Aside0.mk (fun w' A c hr hc => Sup_ (toldIn hs who) m A c w' hr hc)
  have HL2 := Aside0.mk hl2
  rw [e4] at HF
  generalize supM (toldIn hs who) m = T at e2 HF HG HS HP
  generalize toldIn hs who = H at e1 e2 HH HS
  have HN := Aside0.mk (show convs hs qs ≤ qs.length from by unfold convs; exact (List.takeWhile_prefix _).length_le)
  generalize convs hs qs = AH at e3 HC  HN
  have t1 : (H != 0) = true := bne_iff_ne.2 e1
  have t2 : (T == H) = false := beq_eq_false_iff_ne.2 e2
  have t3 : (((AH : Nat) : Int) == 0) = true := beq_iff_eq.2 (by omega)
  clear hI r0 r1 l0 l1 c0 hbad hk ha hl hl2 e1 e2 e3
  go_enter Try.func44, Try.ntmps44
  go_wp2_with fail
  refine (HK.out _).mono ?_
  rintro e w3 ⟨rfl, hd⟩
  obtain ⟨n, rfl⟩ := hd.out
  go_wp2_with fail
  refine (HO.out _ (pw_below_drewN (Below.refl _ _) _)).mono ?_
  rintro e w4 ⟨rfl, hb⟩
  have HB := Aside0.mk (below_then (pw_below_drewN (Below.refl w.heap.size w) n) (Nat.le_refl _) hb)
  clear hb
  go_wp2_with fail
  refine (HH.out _ (HI.out.below HB.out)).mono ?_
  rintro e w5 ⟨rfl, hb⟩
  have HB5 := Aside0.mk (below_then HB.out HB.out.size hb)
  clear hb HB
  go_wp2_with fail
  refine (HS.out _ _ _ (slice_two _ _) (Nat.le_refl _)).mono ?_
  rintro e w6 ⟨rfl, hd⟩
  obtain ⟨n2, rfl⟩ := hd.out
  have HB6 := Aside0.mk (pw_below_drewN (below_alloc HB5.out (.cells #[.int .i64 H, .int .i64 m] 3)) n2)
  have c6 := cell_be c1 HB6.out
  clear HB5
  generalize (w5.alloc (.cells #[.int .i64 H, .int .i64 m] 3)).drewN n2 = w6 at HB6 c6 ⊢
  go_wp2_with fail
  refine (HC.out _ (HI.out.below HB6.out)).mono ?_
  rintro e w7 ⟨rfl, hb⟩
  have HB7 := Aside0.mk (below_then HB6.out HB6.out.size hb)
  have c7 := cell_be c1 HB7.out
  clear hb HB6 c6
  go_wp2_with fail
  refine (HF.out _ (HI.out.below HB7.out)).mono ?_
  rintro e w8 ⟨rfl, hb⟩
  have HB8 := Aside0.mk (below_then HB7.out HB7.out.size hb)
  have c8 := cell_be c1 HB8.out
  clear hb HB7 c7
  go_wp2_with fail
  refine (HG.out _ (HI.out.below HB8.out)).mono ?_
  rintro e w9 ⟨rfl, hI9, hG9⟩
  have HI9 := Aside0.mk hI9
  have HG9 := Aside0.mk hG9
  clear hI9 hG9
  go_wp2
  go_ret
  unfold AskPost
  rw [HP.out]
  refine ⟨rfl, HI9.out.mono (fun k hk h => h.elim .inl (fun h2 => .inr (Nat.le_trans HB8.out.size h2))), (Grew.of_below HB8.out).trans HG9.out (fun _ h => .inl h)⟩
set_option maxHeartbeats 8000000 in
set_option maxRecDepth 100000 in
theorem Ask_1_nofit (w : World) (b : Nat) (F : Nat → Prop) (hs qs : List E) (who m : Int) (hI : IsLane w b F hs qs) (ha : Asc hs) (hl : hs.length ≤ 1000000) (hl2 : qs.length ≤ 1000000) (hbad : askBad qs who m = false)
    (e1 : toldIn hs who ≠ 0) (e2 : supM (toldIn hs who) m ≠ toldIn hs who) (e3 : aheadOf hs qs who = 0) (e4 : fitsAll hs who (supM (toldIn hs who) m) = false) :
    Calls Try.prog 44 #[.pointer (some ⟨b, 0, none⟩), .int .i64 who, .int .i64 m] w (AskPost b F hs qs who m w) := by
  have hu := Try.underlying105
  have hu67 := Try.underlying67
  have hgo : askGo hs qs who m = false := by
    unfold askGo
    rw [beq_eq_false_iff_ne.2 e2, e3, e4]; rfl
  have HP := Aside0.mk (show askIn hs qs who m = (2, hs, insAt qs (aheadOf hs qs who) ⟨who, supM (toldIn hs who) m⟩) from by unfold askIn; rw [hbad, hgo]; rfl)
  have eA : aheadOf hs qs who = convs hs qs := by unfold aheadOf; rw [if_neg e1]
  rw [eA] at e3
  rw [eA] at HP
  clear eA hgo
  have HI := Aside0.mk hI
  obtain ⟨hA, hc, qA, qc, c0, c1, l0, l1, r0, r1⟩ := hI.open_
  unfold askBad at hbad
  have hk : knownM m = true := by cases h : knownM m <;> simp [h] at hbad ⊢
  have m1 : (m == 0) = false := by cases h : (m == 0) <;> simp [h, hk] at hbad ⊢
  have hx : decide (ix (fun x => x.f0 == who) qs ≥ 0) = false := by simpa [hk, m1] using hbad
  have HK := Aside0.mk (fun w => Known_ m w)
  rw [hk] at HK
  have HO := Aside0.mk (fun w' (hb : Below w.heap.size w w') => of_ qA qc qs who w' (Kd.C_below r1 hb) l1)
  generalize ix (fun x => x.f0 == who) qs = i at hx HO
  have HH := Aside0.mk (fun w' (h : IsLane w' b F hs qs) => Holds_ w' b F hs qs who h)
  have HF := Aside0.mk (fun w' (h : IsLane w' b F hs qs) => fits_ w' b F hs qs who (supM (toldIn hs who) m) h)
  have HC := Aside0.mk (fun w' (h : IsLane w' b F hs qs) => conversions_ w' b F hs qs h)
  have HG := Aside0.mk (fun w' (h : IsLane w' b F hs qs) => grants_ w' b F hs qs who (supM (toldIn hs who) m) h ha hl)
  have HS := Aside0.mk (fun w' A c hr hc => Sup_ (toldIn hs who) m A c w' hr hc)
  have HL2 := Aside0.mk hl2
  rw [e4] at HF
  generalize supM (toldIn hs who) m = T at e2 HF HG HS HP
  generalize toldIn hs who = H at e1 e2 HH HS
  have HN := Aside0.mk (show convs hs qs ≤ qs.length from by unfold convs; exact (List.takeWhile_prefix _).length_le)
  generalize convs hs qs = AH at e3 HC HP HN
  have t1 : (H != 0) = true := bne_iff_ne.2 e1
  have t2 : (T == H) = false := beq_eq_false_iff_ne.2 e2
  have t3 : (((AH : Nat) : Int) == 0) = true := beq_iff_eq.2 (by omega)
  clear hI r0 r1 l0 l1 c0 hbad hk ha hl hl2 e1 e2 e3
  go_enter Try.func44, Try.ntmps44
  go_wp2_with fail
  refine (HK.out _).mono ?_
  rintro e w3 ⟨rfl, hd⟩
  obtain ⟨n, rfl⟩ := hd.out
  go_wp2_with fail
  refine (HO.out _ (pw_below_drewN (Below.refl _ _) _)).mono ?_
  rintro e w4 ⟨rfl, hb⟩
  have HB := Aside0.mk (below_then (pw_below_drewN (Below.refl w.heap.size w) n) (Nat.le_refl _) hb)
  clear hb
  go_wp2_with fail
  refine (HH.out _ (HI.out.below HB.out)).mono ?_
  rintro e w5 ⟨rfl, hb⟩
  have HB5 := Aside0.mk (below_then HB.out HB.out.size hb)
  clear hb HB
  go_wp2_with fail
  refine (HS.out _ _ _ (slice_two _ _) (Nat.le_refl _)).mono ?_
  rintro e w6 ⟨rfl, hd⟩
  obtain ⟨n2, rfl⟩ := hd.out
  have HB6 := Aside0.mk (pw_below_drewN (below_alloc HB5.out (.cells #[.int .i64 H, .int .i64 m] 3)) n2)
  have c6 := cell_be c1 HB6.out
  clear HB5
  generalize (w5.alloc (.cells #[.int .i64 H, .int .i64 m] 3)).drewN n2 = w6 at HB6 c6 ⊢
  go_wp2_with fail
  refine (HC.out _ (HI.out.below HB6.out)).mono ?_
  rintro e w7 ⟨rfl, hb⟩
  have HB7 := Aside0.mk (below_then HB6.out HB6.out.size hb)
  have c7 := cell_be c1 HB7.out
  clear hb HB6 c6
  go_wp2_with fail
  refine (HF.out _ (HI.out.below HB7.out)).mono ?_
  rintro e w8 ⟨rfl, hb⟩
  have HB8 := Aside0.mk (below_then HB7.out HB7.out.size hb)
  have c8 := cell_be c1 HB8.out
  clear hb HB7 c7
  go_wp2_with fail
  obtain ⟨hA', hc', qA', qc', h1, h2, h3, h4, h5, h6, h7⟩ := HI.out.below HB8.out
  obtain ⟨rfl, rfl⟩ : qA' = qA ∧ qc' = qc := by
    have e1 := ((blk_cell h1 1).trans rfl).symm.trans c8
    injection e1 with e1
    injection e1 with e1 _ e3
    exact ⟨e1, e3⟩
  have hbq : ¬ blk qA' b := h5.ne h1 (by decide)
  have HINS := Aside0.mk (Insert_ qA' qc' qs AH ⟨who, T⟩ w8.heap.size (w8.alloc (.cells #[.int .i64 who, .int .i64 T] 67)) HN.out (h5.alloc _) (blk_new w8 _) (fun hk => Nat.lt_irrefl _ (h5.lt hk)) HL2.out)
  have b9 := blk_alloc h1 (.cells #[.int .i64 who, .int .i64 T] 67)
  have H1 := Aside0.mk b9
  have H2 := Aside0.mk h2
  have H3 := Aside0.mk (h3.alloc (.cells #[.int .i64 who, .int .i64 T] 67))
  have H4 := Aside0.mk h4
  have H6 := Aside0.mk h6
  have H7 := Aside0.mk h7
  have HQ := Aside0.mk hbq
  have HB9 := Aside0.mk (below_alloc HB8.out (.cells #[.int .i64 who, .int .i64 T] 67))
  have HZ := Aside0.mk (show w.heap.size ≤ w8.heap.size from HB8.out.size)
  clear h1 h2 h3 h4 h5 h6 h7 hbq b9 c1
  refine HINS.out.mono ?_
  rintro e w10 ⟨A', c', rfl, hR, hG, hk⟩
  have b10 := (hG.block b (Array.getElem?_eq_some_iff.1 H1.out).1 HQ.out).trans H1.out
  have c10 : w10.cell? ⟨b, 1, none⟩ = some (.slice qA' qs.length qc') := (blk_cell b10 1).trans rfl
  have f10 : w10.frozen? ⟨b, 1, none⟩ = false := blk_frozen b10 1
  have HR := Aside0.mk hR
  have HG2 := Aside0.mk hG
  have HK2 := Aside0.mk hk
  have B10 := Aside0.mk b10
  clear hR hG hk b10
  go_wp2
  go_ret
  have hli : (insAt qs AH ⟨who, T⟩).length = qs.length + 1 := by unfold insAt; rw [List.length_append, List.length_cons, List.length_take, List.length_drop]; have := HN.out; omega
  have hAb : ¬ blk A' b := fun h => HQ.out.elim (by
    obtain ⟨cur, hc⟩ := HR.out.typed h
    rw [B10.out] at hc
    injection hc with hc
    injection hc with _ hc
    exact absurd hc (by decide))
  have hsz : (w8.alloc (.cells #[.int .i64 who, .int .i64 T] 67)).heap.size = w8.heap.size + 1 := by simp
  have hnew : ∀ k, blk A' k → F k ∨ w.heap.size ≤ k := fun k h => (HK2.out k h).elim (fun h => .inl (H6.out k h)) (fun h => .inr (by have := HZ.out; omega))
  have hapart : ∀ k, blk hA' k → blk A' k → False := fun k h h' => (HK2.out k h').elim (fun h2 => H7.out k h h2) (fun h2 => by have := H3.out.lt h; omega)
  unfold AskPost
  rw [HP.out]
  refine ⟨rfl, ⟨hA', hc', A', c', ?_, .inl H2.out, ?_, fun k h => .inl (H4.out k h), ?_, hnew, hapart⟩, ?_⟩
  · show _ = some (Obj.cells #[.slice hA' hs.length hc', .slice A' (insAt qs AH ⟨who, T⟩).length c'] 105 (0, 0))
    rw [hli]; exact blk_put B10.out 1 _ rfl
  · exact (H3.out.grew HG2.out (fun k h h2 => H7.out k h h2)).set (p := ⟨b, 1, none⟩) (fun hk => (H3.out.ne H1.out (by decide)) hk) _
  · show Row _ 67 2 A' (insAt qs AH ⟨who, T⟩).length c' (flat (insAt qs AH ⟨who, T⟩))
    rw [hli]; exact HR.out.set (p := ⟨b, 1, none⟩) hAb _
  · exact ((Grew.of_below HB9.out).trans HG2.out (fun k h => .inl (H6.out k h))).setCell (.inl H2.out) _
set_option maxHeartbeats 8000000 in
set_option maxRecDepth 100000 in
theorem Ask_1_queue (w : World) (b : Nat) (F : Nat → Prop) (hs qs : List E) (who m : Int) (hI : IsLane w b F hs qs) (ha : Asc hs) (hl : hs.length ≤ 1000000) (hl2 : qs.length ≤ 1000000) (hbad : askBad qs who m = false)
    (e1 : toldIn hs who ≠ 0) (e2 : supM (toldIn hs who) m ≠ toldIn hs who) (e3 : aheadOf hs qs who ≠ 0) :
    Calls Try.prog 44 #[.pointer (some ⟨b, 0, none⟩), .int .i64 who, .int .i64 m] w (AskPost b F hs qs who m w) := by
  have hu := Try.underlying105
  have hu67 := Try.underlying67
  have hgo : askGo hs qs who m = false := by
    unfold askGo
    rw [beq_eq_false_iff_ne.2 e2, beq_eq_false_iff_ne.2 e3]; rfl
  have HP := Aside0.mk (show askIn hs qs who m = (2, hs, insAt qs (aheadOf hs qs who) ⟨who, supM (toldIn hs who) m⟩) from by unfold askIn; rw [hbad, hgo]; rfl)
  have eA : aheadOf hs qs who = convs hs qs := by unfold aheadOf; rw [if_neg e1]
  rw [eA] at e3
  rw [eA] at HP
  clear eA hgo
  have HI := Aside0.mk hI
  obtain ⟨hA, hc, qA, qc, c0, c1, l0, l1, r0, r1⟩ := hI.open_
  unfold askBad at hbad
  have hk : knownM m = true := by cases h : knownM m <;> simp [h] at hbad ⊢
  have m1 : (m == 0) = false := by cases h : (m == 0) <;> simp [h, hk] at hbad ⊢
  have hx : decide (ix (fun x => x.f0 == who) qs ≥ 0) = false := by simpa [hk, m1] using hbad
  have HK := Aside0.mk (fun w => Known_ m w)
  rw [hk] at HK
  have HO := Aside0.mk (fun w' (hb : Below w.heap.size w w') => of_ qA qc qs who w' (Kd.C_below r1 hb) l1)
  generalize ix (fun x => x.f0 == who) qs = i at hx HO
  have HH := Aside0.mk (fun w' (h : IsLane w' b F hs qs) => Holds_ w' b F hs qs who h)
  have HF := Aside0.mk (fun w' (h : IsLane w' b F hs qs) => fits_ w' b F hs qs who (supM (toldIn hs who) m) h)
  have HC := Aside0.mk (fun w' (h : IsLane w' b F hs qs) => conversions_ w' b F hs qs h)
  have HG := Aside0.mk (fun w' (h : IsLane w' b F hs qs) => grants_ w' b F hs qs who (supM (toldIn hs who) m) h ha hl)
  have HS := Aside0.mk (fun w' A c hr hc => Sup_ (toldIn hs who) m A c w' hr hc)
  have HL2 := Aside0.mk hl2
  generalize supM (toldIn hs who) m = T at e2 HF HG HS HP
  generalize toldIn hs who = H at e1 e2 HH HS
  have HN := Aside0.mk (show convs hs qs ≤ qs.length from by unfold convs; exact (List.takeWhile_prefix _).length_le)
  generalize convs hs qs = AH at e3 HC HP HN
  have t1 : (H != 0) = true := bne_iff_ne.2 e1
  have t2 : (T == H) = false := beq_eq_false_iff_ne.2 e2
  have t3 : (((AH : Nat) : Int) == 0) = false := beq_eq_false_iff_ne.2 (by omega)
  clear hI r0 r1 l0 l1 c0 hbad hk ha hl hl2 e1 e2 e3
  go_enter Try.func44, Try.ntmps44
  go_wp2_with fail
  refine (HK.out _).mono ?_
  rintro e w3 ⟨rfl, hd⟩
  obtain ⟨n, rfl⟩ := hd.out
  go_wp2_with fail
  refine (HO.out _ (pw_below_drewN (Below.refl _ _) _)).mono ?_
  rintro e w4 ⟨rfl, hb⟩
  have HB := Aside0.mk (below_then (pw_below_drewN (Below.refl w.heap.size w) n) (Nat.le_refl _) hb)
  clear hb
  go_wp2_with fail
  refine (HH.out _ (HI.out.below HB.out)).mono ?_
  rintro e w5 ⟨rfl, hb⟩
  have HB5 := Aside0.mk (below_then HB.out HB.out.size hb)
  clear hb HB
  go_wp2_with fail
  refine (HS.out _ _ _ (slice_two _ _) (Nat.le_refl _)).mono ?_
  rintro e w6 ⟨rfl, hd⟩
  obtain ⟨n2, rfl⟩ := hd.out
  have HB6 := Aside0.mk (pw_below_drewN (below_alloc HB5.out (.cells #[.int .i64 H, .int .i64 m] 3)) n2)
  have c6 := cell_be c1 HB6.out
  clear HB5
  generalize (w5.alloc (.cells #[.int .i64 H, .int .i64 m] 3)).drewN n2 = w6 at HB6 c6 ⊢
  go_wp2_with fail
  refine (HC.out _ (HI.out.below HB6.out)).mono ?_
  rintro e w7 ⟨rfl, hb⟩
  have HB7 := Aside0.mk (below_then HB6.out HB6.out.size hb)
  have c7 := cell_be c1 HB7.out
  clear hb HB6 c6
  go_wp2_with fail
  obtain ⟨hA', hc', qA', qc', h1, h2, h3, h4, h5, h6, h7⟩ := HI.out.below HB7.out
  obtain ⟨rfl, rfl⟩ : qA' = qA ∧ qc' = qc := by
    have e1 := ((blk_cell h1 1).trans rfl).symm.trans c7
    injection e1 with e1
    injection e1 with e1 _ e3
    exact ⟨e1, e3⟩
  have hbq : ¬ blk qA' b := h5.ne h1 (by decide)
  have HINS := Aside0.mk (Insert_ qA' qc' qs AH ⟨who, T⟩ w7.heap.size (w7.alloc (.cells #[.int .i64 who, .int .i64 T] 67)) HN.out (h5.alloc _) (blk_new w7 _) (fun hk => Nat.lt_irrefl _ (h5.lt hk)) HL2.out)
  have b9 := blk_alloc h1 (.cells #[.int .i64 who, .int .i64 T] 67)
  have H1 := Aside0.mk b9
  have H2 := Aside0.mk h2
  have H3 := Aside0.mk (h3.alloc (.cells #[.int .i64 who, .int .i64 T] 67))
  have H4 := Aside0.mk h4
  have H6 := Aside0.mk h6
  have H7 := Aside0.mk h7
  have HQ := Aside0.mk hbq
  have HB9 := Aside0.mk (below_alloc HB7.out (.cells #[.int .i64 who, .int .i64 T] 67))
  have HZ := Aside0.mk (show w.heap.size ≤ w7.heap.size from HB7.out.size)
  clear h1 h2 h3 h4 h5 h6 h7 hbq b9 c1
  refine HINS.out.mono ?_
  rintro e w10 ⟨A', c', rfl, hR, hG, hk⟩
  have b10 := (hG.block b (Array.getElem?_eq_some_iff.1 H1.out).1 HQ.out).trans H1.out
  have c10 : w10.cell? ⟨b, 1, none⟩ = some (.slice qA' qs.length qc') := (blk_cell b10 1).trans rfl
  have f10 : w10.frozen? ⟨b, 1, none⟩ = false := blk_frozen b10 1
  have HR := Aside0.mk hR
  have HG2 := Aside0.mk hG
  have HK2 := Aside0.mk hk
  have B10 := Aside0.mk b10
  clear hR hG hk b10
  go_wp2
  go_ret
  have hli : (insAt qs AH ⟨who, T⟩).length = qs.length + 1 := by unfold insAt; rw [List.length_append, List.length_cons, List.length_take, List.length_drop]; have := HN.out; omega
  have hAb : ¬ blk A' b := fun h => HQ.out.elim (by
    obtain ⟨cur, hc⟩ := HR.out.typed h
    rw [B10.out] at hc
    injection hc with hc
    injection hc with _ hc
    exact absurd hc (by decide))
  have hsz : (w7.alloc (.cells #[.int .i64 who, .int .i64 T] 67)).heap.size = w7.heap.size + 1 := by simp
  have hnew : ∀ k, blk A' k → F k ∨ w.heap.size ≤ k := fun k h => (HK2.out k h).elim (fun h => .inl (H6.out k h)) (fun h => .inr (by have := HZ.out; omega))
  have hapart : ∀ k, blk hA' k → blk A' k → False := fun k h h' => (HK2.out k h').elim (fun h2 => H7.out k h h2) (fun h2 => by have := H3.out.lt h; omega)
  unfold AskPost
  rw [HP.out]
  refine ⟨rfl, ⟨hA', hc', A', c', ?_, .inl H2.out, ?_, fun k h => .inl (H4.out k h), ?_, hnew, hapart⟩, ?_⟩
  · show _ = some (Obj.cells #[.slice hA' hs.length hc', .slice A' (insAt qs AH ⟨who, T⟩).length c'] 105 (0, 0))
    rw [hli]; exact blk_put B10.out 1 _ rfl
  · exact (H3.out.grew HG2.out (fun k h h2 => H7.out k h h2)).set (p := ⟨b, 1, none⟩) (fun hk => (H3.out.ne H1.out (by decide)) hk) _
  · show Row _ 67 2 A' (insAt qs AH ⟨who, T⟩).length c' (flat (insAt qs AH ⟨who, T⟩))
    rw [hli]; exact HR.out.set (p := ⟨b, 1, none⟩) hAb _
  · exact ((Grew.of_below HB9.out).trans HG2.out (fun k h => .inl (H6.out k h))).setCell (.inl H2.out) _
theorem Ask_ (w : World) (b : Nat) (F : Nat → Prop) (hs qs : List E) (who m : Int) (hI : IsLane w b F hs qs) (ha : Asc hs) (hl : hs.length ≤ 1000000) (hl2 : qs.length ≤ 1000000) :
    Calls Try.prog 44 #[.pointer (some ⟨b, 0, none⟩), .int .i64 who, .int .i64 m] w (AskPost b F hs qs who m w) := by
  cases hb : askBad qs who m with
  | true => exact Ask_bad w b F hs qs who m hI hb
  | false =>
    by_cases e1 : toldIn hs who = 0
    · by_cases e2 : supM (toldIn hs who) m = toldIn hs who
      · exact Ask_0_same w b F hs qs who m hI ha hl hl2 hb e1 e2
      · by_cases e3 : aheadOf hs qs who = 0
        · cases e4 : fitsAll hs who (supM (toldIn hs who) m) with
          | true => exact Ask_0_fits w b F hs qs who m hI ha hl hl2 hb e1 e2 e3 e4
          | false => exact Ask_0_nofit w b F hs qs who m hI ha hl hl2 hb e1 e2 e3 e4
        · exact Ask_0_queue w b F hs qs who m hI ha hl hl2 hb e1 e2 e3
    · by_cases e2 : supM (toldIn hs who) m = toldIn hs who
      · exact Ask_1_same w b F hs qs who m hI ha hl hl2 hb e1 e2
      · by_cases e3 : aheadOf hs qs who = 0
        · cases e4 : fitsAll hs who (supM (toldIn hs who) m) with
          | true => exact Ask_1_fits w b F hs qs who m hI ha hl hl2 hb e1 e2 e3 e4
          | false => exact Ask_1_nofit w b F hs qs who m hI ha hl hl2 hb e1 e2 e3 e4
        · exact Ask_1_queue w b F hs qs who m hI ha hl hl2 hb e1 e2 e3
end Go.Proofs.Ytagdgkimjgomlaa.Ln
