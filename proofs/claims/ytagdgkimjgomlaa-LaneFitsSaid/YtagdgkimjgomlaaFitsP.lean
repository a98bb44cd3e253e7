/- LaneFits: all that is held fits together; whoever waits is blocked by those ahead and those that do not fit; conversions stand ahead. -/
import Derived.Test.YtagdgkimjgomlaaInvX
import Derived.Test.YtagdgkimjgomlaaLn14
import Derived.Test.YtagdgkimjgomlaaQuiet
namespace Go.Proofs.Ytagdgkimjgomlaa.Ln
open Go.RowKit Go.Proofs.YtagdgkimjgomlaaW.PrintWords Go.Proofs.YtagdgkimjgomlaaW.PrintLast Go.Proofs.YtagdgkimjgomlaaW.PrintMore Go.Proofs.Ytagdgkimjgomlaa.PMd
open Go.Sort (grow)
set_option linter.unusedVariables false
set_option linter.unusedSimpArgs false
theorem rd_getD (l : List Int) (i : Nat) : rd l (i : Int) = l.getD i 0 := by simp [rd]
theorem rdT_getD (l : List E) (i : Nat) : rd_T67 l (i : Int) = l.getD i z67 := by simp [rd_T67]
theorem compact_mem {zs : List Int} {x : Int} : x ∈ Lib.compact zs ↔ x ∈ zs := by
  constructor
  · intro h
    unfold Lib.compact Lib.compactUpTo at h
    obtain ⟨i, hi, rfl⟩ := List.mem_map.1 h
    have hi' : i < zs.length := List.mem_range.1 (List.mem_filter.1 hi).1
    simp [getElem!_pos, hi']
  · intro h
    have key : ∀ m j, j < m → zs.toArray[j]! ∈ Lib.compactUpTo zs.toArray m := by
      intro m
      induction m with
      | zero => intro j hj; omega
      | succ m ih =>
        intro j hj
        rw [Lib.compactUpTo_succ, List.mem_append]
        by_cases hjm : j < m
        · exact .inl (ih j hjm)
        · obtain rfl : j = m := by omega
          cases hk : Lib.keeps zs.toArray j with
          | true => exact .inr (by simp)
          | false =>
            unfold Lib.keeps at hk
            have hk2 := of_decide_eq_false hk
            have h0 : j ≠ 0 := fun h => hk2 (.inl h)
            have h1 : zs.toArray[j]! = zs.toArray[j - 1]! := Classical.byContradiction fun h => hk2 (.inr h)
            rw [h1]
            exact .inl (ih (j - 1) (by omega))
    obtain ⟨i, hi, rfl⟩ := List.mem_iff_getElem.1 h
    have := key zs.length i hi
    simp [getElem!_pos, hi] at this
    unfold Lib.compact
    exact this
theorem blocks_mem2 {hs Q1 Q2 : List E} {who t k : Int} (hn : ∀ x ∈ Q1, x.f0 ≠ who) : k ∈ blocksIn hs (Q1 ++ ⟨who, t⟩ :: Q2) who ↔ (∃ x ∈ Q1, x.f0 = k) ∨ ∃ h ∈ hs, h.f0 = k ∧ h.f0 ≠ who ∧ fitsM h.f1 t = false := by
  have e0 : (Q1 ++ (⟨who, t⟩ : E) :: Q2).getD Q1.length z67 = ⟨who, t⟩ := by simp [List.getD_eq_getElem?_getD]
  have e1 : ix (fun x => x.f0 == who) (Q1 ++ ⟨who, t⟩ :: Q2) = (Q1.length : Int) := by
    refine ix_hit (by simp) (by rw [e0]; simp) (fun i hi => ?_)
    have : (Q1 ++ (⟨who, t⟩ : E) :: Q2).getD i z67 ∈ Q1 := by
      rw [List.getD_eq_getElem?_getD, List.getElem?_append_left hi, List.getElem?_eq_getElem hi]; exact List.getElem_mem hi
    exact beq_eq_false_iff_ne.2 (hn _ this)
  unfold blocksIn
  rw [if_neg (by rw [e1]; omega), compact_mem, e1, Int.toNat_natCast]
  unfold sortedI
  rw [List.mem_mergeSort]
  unfold blocksAt
  rw [e0, List.take_left', List.mem_append, List.mem_map, List.mem_map]
  · constructor
    · rintro (h | ⟨x, hx, e⟩)
      · exact .inl h
      · rw [List.mem_filter] at hx
        obtain ⟨h1, h2⟩ := hx
        unfold inWay at h2
        rw [Bool.and_eq_true, Bool.not_eq_true', Bool.not_eq_true'] at h2
        exact .inr ⟨x, h1, e, by simpa using h2.1, h2.2⟩
    · rintro (h | ⟨x, hx, e, h1, h2⟩)
      · exact .inl h
      · refine .inr ⟨x, List.mem_filter.2 ⟨hx, ?_⟩, e⟩
        unfold inWay
        rw [h2]
        simp [h1]
  · rfl
theorem split_at {l : List E} {i : Nat} (h : i < l.length) : l = l.take i ++ l.getD i z67 :: l.drop (i + 1) := by
  have e : l.getD i z67 = l[i] := by rw [List.getD_eq_getElem?_getD, List.getElem?_eq_getElem h]; rfl
  rw [e, ← List.drop_eq_getElem_cons h, List.take_append_drop]
/-- What is known of the one that waits as number i. -/
theorem waits_facts {hs qs : List E} (hi : Inv hs qs) {i : Nat} (h : i < qs.length) :
    blocksIn hs qs (qs.getD i z67).f0 ≠ [] ∧ (qs.getD i z67).f0 ∉ blocksIn hs qs (qs.getD i z67).f0 ∧ toldIn qs (qs.getD i z67).f0 = (qs.getD i z67).f1 ∧
    (∀ j, j < i → (qs.getD j z67).f0 ∈ blocksIn hs qs (qs.getD i z67).f0) ∧ (∀ j, j < i → toldIn hs (qs.getD i z67).f0 ≠ 0 → toldIn hs (qs.getD j z67).f0 ≠ 0) := by
  have hm := getD_mem' h
  have hs' := split_at h
  have hn : ∀ x ∈ qs.take i, x.f0 ≠ (qs.getD i z67).f0 := by
    have hd := hi.dq
    rw [hs'] at hd
    exact fun x hx => (List.pairwise_append.1 hd).2.2 x hx _ (List.mem_cons_self ..)
  have hB : ∀ k, k ∈ blocksIn hs qs (qs.getD i z67).f0 ↔ (∃ x ∈ qs.take i, x.f0 = k) ∨ ∃ h ∈ hs, h.f0 = k ∧ h.f0 ≠ (qs.getD i z67).f0 ∧ fitsM h.f1 (qs.getD i z67).f1 = false := by
    intro k
    have := blocks_mem2 (hs := hs) (Q1 := qs.take i) (Q2 := qs.drop (i + 1)) (who := (qs.getD i z67).f0) (t := (qs.getD i z67).f1) (k := k) hn
    rw [← hs'] at this
    exact this
  have hj : ∀ j, j < i → qs.getD j z67 ∈ qs.take i := fun j hj => getD_take_mem (by omega) hj
  refine ⟨?_, ?_, told_mem hi.dq hm, fun j hji => (hB _).2 (.inl ⟨_, hj j hji, rfl⟩), fun j hji => ?_⟩
  · intro e
    have hno : ∀ k, k ∉ blocksIn hs qs (qs.getD i z67).f0 := fun k hk => by rw [e] at hk; cases hk
    cases i with
    | zero =>
      cases qs with
      | nil => simp at h
      | cons x l =>
        obtain ⟨z, hz, hzx, hzf⟩ := fitsAll_no (hi.head x l rfl)
        exact hno z.f0 ((hB _).2 (.inr ⟨z, hz, rfl, hzx, hzf⟩))
    | succ n => exact hno _ ((hB _).2 (.inl ⟨_, hj 0 (by omega), rfl⟩))
  · intro hk
    rcases (hB _).1 hk with ⟨x, hx, e⟩ | ⟨x, _, e, hw, _⟩
    · exact hn x hx e
    · exact hw e
  · have hc := hi.conv
    rw [hs'] at hc
    exact (List.pairwise_append.1 hc).2.2 _ (hj j hji) _ (List.mem_cons_self ..)
theorem has_l0 (l : List Int) (x : Int) (hl : l.length ≤ 1000000) (d : Nat) : ∀ i k : Nat, i + d = l.length → d < k → ltkref_Has.l0 k l x (i : Int) = some (decide (x ∈ l.drop i)) := by
  induction d with
  | zero =>
    intro i k hi hk
    obtain ⟨k, rfl⟩ : ∃ m, k = m + 1 := ⟨k - 1, by omega⟩
    simp only [ltkref_Has.l0]
    rw [if_neg (by omega), List.drop_eq_nil_of_le (by omega)]
    simp
  | succ d ih =>
    intro i k hi hk
    obtain ⟨k, rfl⟩ : ∃ m, k = m + 1 := ⟨k - 1, by omega⟩
    have hil : i < l.length := by omega
    have e : l.drop i = rd l (i : Int) :: l.drop (i + 1) := by
      rw [List.drop_eq_getElem_cons hil, rd_getD, List.getD_eq_getElem?_getD, List.getElem?_eq_getElem hil]; rfl
    simp only [ltkref_Has.l0]
    rw [if_pos (by omega), if_pos (by omega), e]
    by_cases hx : rd l (i : Int) = x
    · rw [if_pos hx]; simp [hx]
    · rw [if_neg hx, show wrap64 ((i : Int) + 1) = ((i + 1 : Nat) : Int) from by unfold wrap64; omega, ih (i + 1) k (by omega) (by omega)]
      have : ¬ x = rd l (i : Int) := fun h => hx h.symm
      simp [this]
theorem Has_ (A : Option Addr) (c : Nat) (l : List Int) (x : Int) (w : World) (hr : Kd.C (Kd.int .i64) w A l.length l) (hc : l.length ≤ c) (hl : l.length ≤ 1000000) :
    Calls Try.prog 52 #[.slice A l.length c, .int .i64 x] w fun e w' => e = .returned (.bool (decide (x ∈ l))) ∧ Below w.heap.size w w' :=
  (ltkref_Has.calls (l.length + 1) A c l x (decide (x ∈ l)) w hr hc (by unfold ltkref_Has.f; exact has_l0 l x hl l.length 0 _ (by omega) (by omega))).mono fun _ _ ⟨h1, h2⟩ => ⟨h1, by obtain ⟨n, rfl⟩ := h2.out; exact pw_below_drewN (Below.refl _ _) _⟩
theorem Covers_ (a b : Int) (w : World) (ha : md a) (hb : md b) (h : supM a b = a) :
    Calls Try.prog 25 #[.int .i64 a, .int .i64 b] w fun e w' => e = .returned (.bool true) ∧ Below w.heap.size w w' :=
  mode_Covers.calls 20 a b true w (by
    rw [Sup.covers_f a b (by omega), ← Sup.sup_two ha hb]
    have e : Sup.sup [a, b] = a := h
    rw [e, decide_eq_true ha, decide_eq_true hb]
    simp)
/-- An asking, as the law looks at it. -/
theorem ask_facts {hs qs : List E} (hi : Inv hs qs) (who m : Int) :
    ((askIn hs qs who m).1 = 1 ∧ md m ∧ supM (toldIn (askIn hs qs who m).2.1 who) m = toldIn (askIn hs qs who m).2.1 who ∧ supM (toldIn (askIn hs qs who m).2.1 who) (toldIn hs who) = toldIn (askIn hs qs who m).2.1 who) ∨
    (((askIn hs qs who m).1 = 0 ∨ (askIn hs qs who m).1 = 2) ∧ toldIn (askIn hs qs who m).2.1 who = toldIn hs who) := by
  unfold askIn
  cases hb : askBad qs who m with
  | true => exact .inr ⟨.inl rfl, rfl⟩
  | false =>
    have hm : md m := by
      unfold askBad knownM at hb
      simp only [Bool.or_eq_false_iff, Bool.not_eq_false', decide_eq_true_eq] at hb
      exact hb.1.1
    rw [if_neg (by simp)]
    cases hg : askGo hs qs who m with
    | true =>
      left
      rw [if_pos rfl]
      have e := told_grants hi.asc who (supM (toldIn hs who) m)
      have ht := hi.toInvS.told_md who
      exact ⟨rfl, hm, by show supM (toldIn (grantsIn hs who _) who) m = _; rw [e]; exact sup_abs2 ht hm, by show supM (toldIn (grantsIn hs who _) who) _ = _; rw [e]; exact sup_abs ht hm⟩
    | false =>
      rw [if_neg (by simp)]
      exact .inr ⟨.inr rfl, rfl⟩
theorem leave_gone {hs qs : List E} (hi : Inv hs qs) (who : Int) : toldIn (leaveIn hs qs who).2.1 who = 0 ∧ toldIn (leaveIn hs qs who).2.2 who = 0 := by
  obtain ⟨n, hn, _, g2, g3, g4, _⟩ := leave_spec hi who
  refine ⟨told_no (fun x hx => ?_), told_no (fun x hx => ?_)⟩
  · rcases (g4 x).1 hx with h | ⟨h, _⟩
    · exact (fl_mem.1 (List.mem_of_mem_take h)).2
    · exact (fl_mem.1 h).2
  · rw [g2] at hx
    exact (fl_mem.1 (List.mem_of_mem_drop hx)).2
/-- Asking, beside blocks that are kept. -/
theorem Ask_X {X : Nat → Prop} {w0 w : World} {b : Nat} {hs qs : List E} (who m : Int) (h : LiveX X w0 w b hs qs) (hl : hs.length ≤ 1000000) (hl2 : qs.length ≤ 1000000) :
    Calls Try.prog 44 #[.pointer (some ⟨b, 0, none⟩), .int .i64 who, .int .i64 m] w fun e w' => e = .returned (.int .i64 (askIn hs qs who m).1) ∧ LiveX X w0 w' b (askIn hs qs who m).2.1 (askIn hs qs who m).2.2 ∧ Grew (fun k => w0.heap.size ≤ k ∧ ¬ X k) w w' := by
  refine (Ask_ w b _ hs qs who m h.1 h.2.1 hl hl2).mono ?_
  rintro e w' ⟨h1, h2, h3⟩
  refine ⟨h1, ⟨h2.mono (fun k _ hk => hk.elim id (fun h4 => ⟨Nat.le_trans h.2.2.1.size h4, fun hx => ?_⟩)), asc_ask h.2.1, h3.to_below h.2.2.1 h.2.2.1.size (fun _ hk => hk.1), fun k hk => Nat.lt_of_lt_of_le (h.2.2.2 k hk) h3.size⟩, h3⟩
  have := h.2.2.2 k hx
  omega
end Go.Proofs.Ytagdgkimjgomlaa.Ln
