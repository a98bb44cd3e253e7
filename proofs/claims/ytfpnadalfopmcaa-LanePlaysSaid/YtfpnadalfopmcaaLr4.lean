import Derived.Test.YtfpnadalfopmcaaLr3
import Derived.Test.YtfpnadalfopmcaaLr2
import Derived.Deep.RegionLaw
/- put: the document's (the loop, the store; the append chain is still wanted). -/
namespace Go.Proofs.Ytfpnadalfopmcaa.Ln
open Go.RowKit Go.Proofs.YtfpnadalfopmcaaW.PrintWords Go.Proofs.YtfpnadalfopmcaaW.PrintWords.Kd Go.Proofs.YtfpnadalfopmcaaW.PrintLast Go.Proofs.YtfpnadalfopmcaaW.PrintMore Go.Proofs.Ytfpnadalfopmcaa.PMd
set_option linter.unusedVariables false
set_option linter.unusedSimpArgs false
/-- The place where put stops. -/
def stopAt (hs : List E) (who : Int) (k : Nat) : Prop := k ≤ hs.length ∧ (∀ i, i < k → (hs.getD i zE).f0 < who) ∧ (k < hs.length → ¬ (hs.getD k zE).f0 < who)
def PutPost (b : Nat) (F : Nat → Prop) (hs qs : List E) (who m : Int) (w : World) (e : Ending) (w' : World) : Prop :=
  ∃ k, stopAt hs who k ∧ e = .returned (.tuple #[]) ∧ IsLR w' b (fun j => F j ∨ w.heap.size ≤ j) (if k < hs.length ∧ (hs.getD k zE).f0 = who then hs.set k ⟨(hs.getD k zE).f0, m⟩ else hs.take k ++ ⟨who, m⟩ :: hs.drop k) qs ∧ Grew F w w'
theorem IsLR.mono' {w : World} {b : Nat} {F F' : Nat → Prop} {hs qs : List E} (h : IsLR w b F hs qs) (hf : ∀ k, F k → F' k) : IsLR w b F' hs qs := by
  obtain ⟨hA, hc, qA, qc, h1, h2, h3, h4, h5, h6, h7⟩ := h
  exact ⟨hA, hc, qA, qc, h1, hf _ h2, h3, fun k hk => hf _ (h4 k hk), h5, fun k hk => hf _ (h6 k hk), h7⟩
theorem flat_put (l : List E) (j : Nat) (m : Int) : (flat l).set (j * 2 + 1) (.int .i64 m) = flat (l.set j ⟨(l.getD j zE).f0, m⟩) := by
  induction l generalizing j with
  | nil => simp [flat]
  | cons y l ih =>
    have e : ∀ (y : E) (l : List E), flat (y :: l) = .int .i64 y.f0 :: .int .i64 y.f1 :: flat l := fun _ _ => rfl
    cases j with
    | zero => rw [e, List.set_cons_zero, e]; rfl
    | succ j =>
      rw [e, show (j + 1) * 2 + 1 = (j * 2 + 1) + 1 + 1 by omega, List.set_cons_succ, List.set_cons_succ, ih, List.set_cons_succ, e]
      simp
/-- The store into the holders' row. -/
theorem IsLR.store {w : World} {b : Nat} {F : Nat → Prop} {hs qs : List E} (h : IsLR w b F hs qs) (k : Nat) (hk : k < hs.length) (m : Int) : ∃ g off hc qA qc, w.heap[b]? = some (.cells #[.slice (some ⟨g, off, none⟩) hs.length hc, .slice qA qs.length qc] 29 (0, 0)) ∧
    w.cell? ⟨g, off + (k * 2 + 1), none⟩ = some (.int .i64 (hs.getD k zE).f1) ∧ w.cell? ⟨g, off + k * 2, none⟩ = some (.int .i64 (hs.getD k zE).f0) ∧ w.frozen? ⟨g, off + (k * 2 + 1), none⟩ = false ∧ F g ∧
    IsLR (w.setCell ⟨g, off + (k * 2 + 1), none⟩ (.int .i64 m)) b F (hs.set k ⟨(hs.getD k zE).f0, m⟩) qs := by
  obtain ⟨hA, hc, qA, qc, h1, h2, h3, h4, h5, h6, h7⟩ := h
  obtain ⟨g, off, cur, rfl, hg, hcur, hcell⟩ := h3.at_ (by omega)
  have hv1 : (flat hs)[k * 2 + 1]? = some (.int .i64 (hs.getD k zE).f1) ∧ (flat hs)[k * 2]? = some (.int .i64 (hs.getD k zE).f0) := by
    have key : ∀ (l : List E) (k : Nat), k < l.length → (flat l)[k * 2 + 1]? = some (.int .i64 (l.getD k zE).f1) ∧ (flat l)[k * 2]? = some (.int .i64 (l.getD k zE).f0) := by
      intro l
      induction l with
      | nil => intro k hk; simp at hk
      | cons y l ih =>
        intro k hk
        have e : flat (y :: l) = .int .i64 y.f0 :: .int .i64 y.f1 :: flat l := rfl
        rw [e]
        cases k with
        | zero => exact ⟨rfl, rfl⟩
        | succ k =>
          have := ih k (by simpa using hk)
          rw [show (k + 1) * 2 + 1 = (k * 2 + 1) + 1 + 1 by omega, show (k + 1) * 2 = k * 2 + 1 + 1 by omega, List.getElem?_cons_succ, List.getElem?_cons_succ, List.getElem?_cons_succ, List.getElem?_cons_succ]
          simpa using this
    exact key hs k hk
  have hbg : b ≠ g := fun e => by
    subst e
    rw [h1] at hg
    injection hg with hg
    injection hg with _ hg
    exact absurd hg (by decide)
  have hqg : ¬ blk qA g := fun hk => h7 g ⟨_, rfl, rfl⟩ hk
  refine ⟨g, off, hc, qA, qc, h1, (hcell _ _ hv1.1).1, (hcell _ _ hv1.2).1, (hcell _ _ hv1.1).2, h4 g ⟨_, rfl, rfl⟩, some ⟨g, off, none⟩, hc, qA, qc, ?_, h2, ?_, h4, h5.set (p := ⟨g, _, none⟩) hqg _, h6, h7⟩
  · rw [List.length_set]
    exact (Below.heap_setCell w ⟨g, off + (k * 2 + 1), none⟩ (.int .i64 m) b hbg).trans h1
  · have h8 := h3.put (k * 2 + 1) (by rw [flat_len]; omega) (.int .i64 m)
    rw [flat_put] at h8
    rw [List.length_set]
    exact h8
set_option maxHeartbeats 8000000 in
set_option maxRecDepth 100000 in
theorem putStore_R (w : World) (b : Nat) (F : Nat → Prop) (hs qs : List E) (who m : Int) (k : Nat) (hI : IsLR w b F hs qs) (hst : stopAt hs who k) (hk : k < hs.length) (he : (hs.getD k zE).f0 = who) :
    Calls Try.prog 32 #[.pointer (some ⟨b, 0, none⟩), .int .i64 who, .int .i64 m] w fun e w' => PutPost b F hs qs who m w e w' := by
  have hu := Try.underlying29
  have hu2 := Try.underlying50
  have HI := Aside0.mk hI
  have HST := Aside0.mk hst
  have HK := Aside0.mk (And.intro hk he)
  obtain ⟨g, off, hc, qA, qc, h1, s1, s0, fz, hFg, hnew⟩ := hI.store k hk m
  obtain ⟨hA, hc', qA', qc', c0', c1, l0, l1, r0, r1⟩ := hI.open_
  have c0 : w.cell? ⟨b, 0, none⟩ = some (.slice (some ⟨g, off, none⟩) hs.length hc) := (blk_cell h1 0).trans rfl
  rw [c0] at c0'
  injection c0' with c0'
  injection c0' with e1 _ e3
  subst e1; subst e3
  have HR := Aside0.mk r0
  have hm := r0.2.1
  have HS := Aside0.mk (And.intro s1 (And.intro fz (And.intro hFg hnew)))
  clear hI c1 l0 l1 r0 r1 hst hk he h1 s1 s0 fz hFg hnew
  go_enter Try.func32, Try.ntmps32
  go_wp2_with fail
  go_loop [6] (fun u => ∃ i : Nat, i ≤ k ∧ u = .int .i64 i) (fun u => k - (intOf u).toNat)
  case atStart => exact ⟨0, by omega, rfl⟩
  case round =>
    obtain ⟨i, hi, rfl⟩ := hrel
    have hil : i < hs.length := by have := HK.out.1; omega
    obtain ⟨ad, e4, q0, q1⟩ := at_T50 HR.out (i : Int) (by omega) (by omega)
    cases e4
    have p1 : 0 ≤ (i : Int) := by omega
    have p2 : (i : Int) < hs.length := by omega
    have hrd : rd_T50 hs (i : Int) = hs.getD i zE := by simp [rd_T50, zE]
    rw [hrd] at q0 q1
    simp only [Int.toNat_natCast, Addr.add_lit] at q0 q1
    by_cases hlt : i < k
    · have t1 := HST.out.2.1 i hlt
      generalize (hs.getD i zE).f0 = x at q0 t1
      clear hrd q1
      go_wp2
      go_round
      case rel => exact ⟨i + 1, by omega, by go_num⟩
      case measure => simp [intOf]; omega
    · obtain rfl : i = k := by omega
      have t1 : ¬ ((hs.getD i zE).f0 < who) := by have := HK.out.2; omega
      have t2 : ((hs.getD i zE).f0 == who) = true := beq_iff_eq.2 HK.out.2
      have s1 : w.cell? ⟨g, off + i * 2 + 1, none⟩ = some (.int .i64 (hs.getD i zE).f1) := HS.out.1
      have s2 : w.frozen? ⟨g, off + i * 2 + 1, none⟩ = false := HS.out.2.1
      generalize (hs.getD i zE).f0 = x at q0 t1 t2
      clear hrd q1 hi hil hlt
      go_wp2
      refine bodyPost_ret (results_none rfl _ _ _) rfl ?_
      refine ⟨i, HST.out, rfl, ?_, ?_⟩
      · rw [if_pos HK.out]
        exact HS.out.2.2.2.mono' (fun k hk => .inl hk)
      · exact (Grew.refl F w).setCell (p := ⟨g, off + i * 2 + 1, none⟩) (.inl HS.out.2.2.1) _
end Go.Proofs.Ytfpnadalfopmcaa.Ln
