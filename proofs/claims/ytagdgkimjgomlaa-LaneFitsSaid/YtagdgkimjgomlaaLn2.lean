/- A lane in memory: what it is, and what those of its methods tell that change nothing. -/
import Derived.Test.YtagdgkimjgomlaaPMdx
import Derived.Test.YtagdgkimjgomlaaLn1
namespace Go.Proofs.Ytagdgkimjgomlaa.Ln
open Go.RowKit Go.Proofs.YtagdgkimjgomlaaW.PrintWords Go.Proofs.YtagdgkimjgomlaaW.PrintLast Go.Proofs.YtagdgkimjgomlaaW.PrintMore Go.Proofs.Ytagdgkimjgomlaa.PMd
set_option linter.unusedVariables false
set_option linter.unusedSimpArgs false
theorem blk_none {k : Nat} (h : blk none k) : False := by obtain ⟨a, h, _⟩ := h; cases h
/-- The lane at block b: its holders, its queue, each in a row of its own; F: whatever blocks it is made of, and maybe more. -/
def IsLane (w : World) (b : Nat) (F : Nat → Prop) (hs qs : List E) : Prop :=
  ∃ hA hc qA qc, w.heap[b]? = some (.cells #[.slice hA hs.length hc, .slice qA qs.length qc] 105 (0, 0)) ∧ F b ∧
    Row w 67 2 hA hs.length hc (flat hs) ∧ (∀ k, blk hA k → F k) ∧ Row w 67 2 qA qs.length qc (flat qs) ∧ (∀ k, blk qA k → F k) ∧ (∀ k, blk hA k → blk qA k → False)
section
variable {w w' : World} {b : Nat} {F F' : Nat → Prop} {hs qs : List E}
theorem IsLane.mono (h : IsLane w b F hs qs) (hf : ∀ k, k < w.heap.size → F k → F' k) : IsLane w b F' hs qs := by
  obtain ⟨hA, hc, qA, qc, h1, h2, h3, h4, h5, h6, h7⟩ := h
  exact ⟨hA, hc, qA, qc, h1, hf _ (Array.getElem?_eq_some_iff.1 h1).1 h2, h3, fun k hk => hf _ (h3.lt hk) (h4 k hk), h5, fun k hk => hf _ (h5.lt hk) (h6 k hk), h7⟩
theorem IsLane.lt (h : IsLane w b F hs qs) : b < w.heap.size := by
  obtain ⟨hA, hc, qA, qc, h1, _⟩ := h
  exact (Array.getElem?_eq_some_iff.1 h1).1
theorem IsLane.own (h : IsLane w b F hs qs) : F b := by
  obtain ⟨hA, hc, qA, qc, h1, h2, _⟩ := h
  exact h2
theorem IsLane.move (h : IsLane w b F hs qs) (hm : ∀ k, F k → k < w.heap.size → w'.heap[k]? = w.heap[k]?) : IsLane w' b F hs qs := by
  obtain ⟨hA, hc, qA, qc, h1, h2, h3, h4, h5, h6, h7⟩ := h
  exact ⟨hA, hc, qA, qc, (hm b h2 (Array.getElem?_eq_some_iff.1 h1).1).trans h1, h2, h3.move (fun k hk hl => hm k (h4 k hk) hl), h4, h5.move (fun k hk hl => hm k (h6 k hk) hl), h6, h7⟩
theorem IsLane.below (h : IsLane w b F hs qs) (hb : Below w.heap.size w w') : IsLane w' b F hs qs := h.move (fun k _ hk => hb.block k hk)
theorem IsLane.grew {S : Nat → Prop} (h : IsLane w b F hs qs) (hg : Grew S w w') (hs_ : ∀ k, F k → ¬ S k) : IsLane w' b F hs qs := h.move (fun k hk hl => hg.block k hl (hs_ k hk))
/-- Opened for a walk. -/
theorem IsLane.open_ (h : IsLane w b F hs qs) : ∃ hA hc qA qc, w.cell? ⟨b, 0, none⟩ = some (.slice hA hs.length hc) ∧ w.cell? ⟨b, 1, none⟩ = some (.slice qA qs.length qc) ∧ hs.length ≤ hc ∧ qs.length ≤ qc ∧
    Kd.C k67 w hA hs.length hs ∧ Kd.C k67 w qA qs.length qs := by
  obtain ⟨hA, hc, qA, qc, h1, h2, h3, h4, h5, h6, h7⟩ := h
  exact ⟨hA, hc, qA, qc, (blk_cell h1 0).trans rfl, (blk_cell h1 1).trans rfl, h3.2.1, h5.2.1, h3.reads, h5.reads⟩
end
set_option maxHeartbeats 8000000 in
set_option maxRecDepth 100000 in
theorem New_ (w : World) (F : Nat → Prop) (hF : F w.heap.size) : Calls Try.prog 43 #[] w fun e w' => e = .returned (.pointer (some ⟨w.heap.size, 0, none⟩)) ∧ IsLane w' w.heap.size F [] [] ∧ Below w.heap.size w w' := by
  have hu := Try.underlying105
  have HF := Aside0.mk hF
  clear hF
  go_enter Try.func43, Try.ntmps43
  go_wp2
  go_ret
  exact ⟨rfl, ⟨none, 0, none, 0, blk_new w _, HF.out, Row.zero _ _ _, fun k hk => (blk_none hk).elim, Row.zero _ _ _, fun k hk => (blk_none hk).elim, fun k hk _ => (blk_none hk).elim⟩, below_alloc (Below.refl _ _) _⟩
set_option maxHeartbeats 8000000 in
set_option maxRecDepth 100000 in
theorem Holds_ (w : World) (b : Nat) (F : Nat → Prop) (hs qs : List E) (who : Int) (hI : IsLane w b F hs qs) :
    Calls Try.prog 48 #[.pointer (some ⟨b, 0, none⟩), .int .i64 who] w fun e w' => e = .returned (.int .i64 (toldIn hs who)) ∧ Below w.heap.size w w' := by
  have hu := Try.underlying105
  obtain ⟨hA, hc, qA, qc, c0, c1, l0, l1, r0, r1⟩ := hI.open_
  have HT := Aside0.mk (told_ hA hc hs who w r0 l0)
  clear hI r0 r1 l0 l1
  go_enter Try.func48, Try.ntmps48
  go_wp2_with fail
  refine HT.out.mono ?_
  rintro e w3 ⟨rfl, hb⟩
  have HB := Aside0.mk hb
  clear hb
  go_wp2
  go_ret
  exact ⟨rfl, HB.out⟩
set_option maxHeartbeats 8000000 in
set_option maxRecDepth 100000 in
theorem Waits_ (w : World) (b : Nat) (F : Nat → Prop) (hs qs : List E) (who : Int) (hI : IsLane w b F hs qs) :
    Calls Try.prog 54 #[.pointer (some ⟨b, 0, none⟩), .int .i64 who] w fun e w' => e = .returned (.int .i64 (toldIn qs who)) ∧ Below w.heap.size w w' := by
  have hu := Try.underlying105
  obtain ⟨hA, hc, qA, qc, c0, c1, l0, l1, r0, r1⟩ := hI.open_
  have HT := Aside0.mk (told_ qA qc qs who w r1 l1)
  clear hI r0 r1 l0 l1
  go_enter Try.func54, Try.ntmps54
  go_wp2_with fail
  refine HT.out.mono ?_
  rintro e w3 ⟨rfl, hb⟩
  have HB := Aside0.mk hb
  clear hb
  go_wp2
  go_ret
  exact ⟨rfl, HB.out⟩
set_option maxHeartbeats 8000000 in
set_option maxRecDepth 100000 in
theorem Empty_ (w : World) (b : Nat) (F : Nat → Prop) (hs qs : List E) (hI : IsLane w b F hs qs) :
    Calls Try.prog 61 #[.pointer (some ⟨b, 0, none⟩)] w fun e w' => e = .returned (.bool (hs.isEmpty && qs.isEmpty)) ∧ Below w.heap.size w w' := by
  have hu := Try.underlying105
  obtain ⟨hA, hc, qA, qc, c0, c1, l0, l1, r0, r1⟩ := hI.open_
  clear hI r0 r1 l0 l1
  cases hs with
  | nil =>
    have c2 : ((qs.length : Int) == 0) = qs.isEmpty := by cases qs <;> simp <;> omega
    have HE := Aside0.mk c2
    go_enter Try.func61, Try.ntmps61
    go_wp2
    go_ret
    exact ⟨by simp, Below.refl _ _⟩
  | cons x hs =>
    have c2 : (((x :: hs).length : Int) == 0) = false := by simp; omega
    go_enter Try.func61, Try.ntmps61
    go_wp2
    go_ret
    exact ⟨by simp, Below.refl _ _⟩
/-! ### modes -/
theorem made_some (a : Int) : ∃ r, mode_made.f a = some r := by
  unfold mode_made.f
  repeat' (first | exact ⟨_, rfl⟩ | split)
theorem hurts_some (a b : Int) : ∃ r, mode_hurts.f a b = some r := by
  obtain ⟨x, hx⟩ := made_some a
  obtain ⟨y, hy⟩ := made_some b
  unfold mode_hurts.f
  rw [hx, hy]
  simp only [Option.bind_some]
  repeat' (first | exact ⟨_, rfl⟩ | split)
def knownM (a : Int) : Bool := decide (0 ≤ a ∧ a ≤ 5)
theorem known_f (a : Int) : mode_Known.f a = some (knownM a) := by
  unfold mode_Known.f knownM
  by_cases h : a ≥ 0
  · rw [if_pos h]; congr 1; simp; omega
  · rw [if_neg h]; congr 1; symm; exact decide_eq_false (by omega)
def fitsM (a b : Int) : Bool := (mode_Fits.f a b).getD false
theorem fits_f (a b : Int) : mode_Fits.f a b = some (fitsM a b) := by
  have key : ∃ r, mode_Fits.f a b = some r := by
    obtain ⟨x, hx⟩ := hurts_some a b
    obtain ⟨y, hy⟩ := hurts_some b a
    unfold mode_Fits.f
    rw [hx, hy, known_f, known_f]
    simp only [Option.bind_some]
    repeat' (first | exact ⟨_, rfl⟩ | split)
  obtain ⟨r, hr⟩ := key
  rw [fitsM, hr]
  rfl
theorem Fits_ (a b : Int) (w : World) : Calls Try.prog 45 #[.int .i64 a, .int .i64 b] w fun e w' => e = .returned (.bool (fitsM a b)) ∧ Drawn0 w w' := mode_Fits.calls a b _ w (fits_f a b)
theorem Known_ (a : Int) (w : World) : Calls Try.prog 66 #[.int .i64 a] w fun e w' => e = .returned (.bool (knownM a)) ∧ Drawn0 w w' := mode_Known.calls a _ w (known_f a)
/-- Fits with what each other one holds? -/
def fitsAll (hs : List E) (who t : Int) : Bool := !hs.any fun x => !(x.f0 == who) && !fitsM x.f1 t
set_option maxHeartbeats 8000000 in
set_option maxRecDepth 100000 in
theorem fits1 (x : E) (who t : Int) (g g2 : Nat) (w : World) (hc : w.cell? ⟨g, 0, none⟩ = some (.int .i64 who)) (hc2 : w.cell? ⟨g2, 0, none⟩ = some (.int .i64 t)) :
    Calls Try.prog 100 #[.agg #[.int .i64 x.f0, .int .i64 x.f1], .pointer (some ⟨g, 0, none⟩), .pointer (some ⟨g2, 0, none⟩)] w fun e w' => e = .returned (.bool (!(x.f0 == who) && !fitsM x.f1 t)) ∧ Below w.heap.size w w' := by
  have hu67 := Try.underlying67
  have HF := Aside0.mk (Fits_ x.f1 t)
  have c1 := cell_al hc (.cells #[.int .i64 x.f0, .int .i64 x.f1] 67)
  have c2 := cell_al hc2 (.cells #[.int .i64 x.f0, .int .i64 x.f1] 67)
  clear hc hc2
  by_cases h : x.f0 = who
  · have h1 : (x.f0 == who) = true := beq_iff_eq.2 h
    have h2 : (x.f0 != who) = false := bne_eq_false_iff_eq.2 h
    clear h
    go_enter Try.func100, Try.ntmps100
    go_wp2_with fail
    go_ret
    exact ⟨by simp [h1], below_alloc (Below.refl _ _) _⟩
  · have h1 : (x.f0 == who) = false := beq_eq_false_iff_ne.2 h
    have h2 : (x.f0 != who) = true := bne_iff_ne.2 h
    clear h
    go_enter Try.func100, Try.ntmps100
    go_wp2_with fail
    refine (HF.out _).mono ?_
    rintro e w3 ⟨rfl, hd⟩
    obtain ⟨n, rfl⟩ := hd.out
    go_wp2
    go_ret
    exact ⟨by simp [h1], pw_below_drewN (below_alloc (Below.refl _ _) _) _⟩
theorem enters_fits1 : ∀ args w, (callFunc 100 args).run Try.prog w = .ok (.enter 100 args) w := ent_of Try.func100 (by kernel_rfl) rfl
end Go.Proofs.Ytagdgkimjgomlaa.Ln
