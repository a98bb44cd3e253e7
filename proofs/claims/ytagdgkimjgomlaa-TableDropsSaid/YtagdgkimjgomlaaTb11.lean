/- A table's invariant: who waits where; how many locks there are; Ask and Drop keep it. -/
import Derived.Test.YtagdgkimjgomlaaTb9
namespace Go.Proofs.Ytagdgkimjgomlaa.Ln
open Go.RowKit Go.Proofs.YtagdgkimjgomlaaW.PrintWords Go.Proofs.YtagdgkimjgomlaaW.PrintLast Go.Proofs.YtagdgkimjgomlaaW.PrintMore Go.Proofs.Ytagdgkimjgomlaa.PMd
open Go.Maps
set_option linter.unusedVariables false
set_option linter.unusedSimpArgs false
theorem told_pos {l : List E} {who : Int} (hm : ∀ x ∈ l, x.f1 ≠ 0) : toldIn l who = 0 ↔ ∀ x ∈ l, x.f0 ≠ who := by
  rcases told_cases l who with ⟨h1, h2⟩ | ⟨x, hx, h1, h2⟩
  · exact ⟨fun _ => h2, fun _ => h1⟩
  · exact ⟨fun h => absurd (h2.symm.trans h) (hm x hx), fun h => absurd h1 (h x hx)⟩
theorem fl_same {l : List E} {who : Int} (h : ∀ x ∈ l, x.f0 ≠ who) : fl l who = l := by
  unfold fl
  exact List.filter_eq_self.2 (fun x hx => by have := h x hx; simp [this])
/-- One node's part of a Drop: who waited first holds; who left is gone. -/
theorem dropS_spec {s : LS} (h : Inv s.1 s.2) (who : Int) : ∃ n, n ≤ (fl s.2 who).length ∧ (dropS who s).1 = ((fl s.2 who).take n).map (·.f0) ∧ (dropS who s).2.2 = (fl s.2 who).drop n ∧ Inv (dropS who s).2.1 (dropS who s).2.2 ∧
    (∀ y, y ∈ (dropS who s).2.1 ↔ y ∈ (fl s.2 who).take n ∨ (y ∈ fl s.1 who ∧ ∀ x ∈ (fl s.2 who).take n, x.f0 ≠ y.f0)) ∧ toldIn (dropS who s).2.1 who = 0 ∧ toldIn (dropS who s).2.2 who = 0 := by
  unfold dropS
  cases hh : hasIn s.1 s.2 who with
  | true =>
    rw [if_pos rfl]
    obtain ⟨n, h1, h2, h3, h4, h5, _⟩ := leave_spec h who
    exact ⟨n, h1, h2, h3, h4, h5, (leave_gone h who).1, (leave_gone h who).2⟩
  | false =>
    rw [if_neg (by simp)]
    have h12 : toldIn s.1 who = 0 ∧ toldIn s.2 who = 0 := by
      unfold hasIn at hh
      rw [Bool.or_eq_false_iff] at hh
      exact ⟨bne_eq_false_iff_eq.1 hh.1, bne_eq_false_iff_eq.1 hh.2⟩
    have e1 := fl_same ((told_pos (fun x hx => (h.mh x hx).2)).1 h12.1)
    have e2 := fl_same ((told_pos (fun x hx => (h.mq x hx).2)).1 h12.2)
    refine ⟨0, Nat.zero_le _, rfl, by rw [e2]; rfl, h, fun y => ?_, h12⟩
    rw [e1]
    simp
/-- Nobody waits at two nodes; the map has just those that wait. -/
structure TInv (ls : List LS) (f : At) : Prop where
  inv : LInv ls
  map : ∀ x n, f x = some n ↔ n < ls.length ∧ ∃ e ∈ (ls.getD n zL).2, e.f0 = x
theorem TInv.lt {ls : List LS} {f : At} (h : TInv ls f) : ∀ x n, f x = some n → n < ls.length := fun x n hn => ((h.map x n).1 hn).1
theorem getD_rep9 (n i : Nat) : (List.replicate n zL).getD i zL = zL := by
  rw [List.getD_eq_getElem?_getD, List.getElem?_replicate]
  split <;> rfl
theorem tinv_zero (n : Nat) : TInv (List.replicate n zL) f0 :=
  ⟨fun i _ => by rw [getD_rep9]; exact inv_nil, fun x k => ⟨fun h => (by cases h), fun ⟨_, e, he, _⟩ => (by rw [getD_rep9] at he; cases he)⟩⟩
theorem ask_queue {hs qs : List E} (who m : Int) {y : E} : y ∈ (askIn hs qs who m).2.2 ↔ y ∈ qs ∨ ((askIn hs qs who m).1 = 2 ∧ y = ⟨who, supM (toldIn hs who) m⟩) := by
  unfold askIn
  split
  · simp
  · split
    · simp
    · rw [insAt_mem]; simp; exact or_comm
theorem TInv.ask {ls : List LS} {f : At} (h : TInv ls f) (most who node m : Int) : TInv (askT ls most f who node m).2.2.1 (askT ls most f who node m).2.2.2 := by
  refine ⟨askT_inv h.inv most f who node m, fun x n => ?_⟩
  rcases askT_cases ls most f who node m with ⟨h1, _, _, h2⟩ | ⟨i, rfl, hi, _, _, _, hf, _, e⟩
  · rw [h1, h2]; exact h.map x n
  · rw [e]
    dsimp only
    rw [List.length_set]
    by_cases hr : (askIn (ls.getD i zL).1 (ls.getD i zL).2 who m).1 = 2
    · rw [if_pos hr]
      unfold At.put
      by_cases ex : x = who
      · subst ex
        rw [if_pos rfl]
        constructor
        · intro hn
          injection hn with hn
          subst hn
          refine ⟨hi, ⟨x, supM (toldIn (ls.getD i zL).1 x) m⟩, ?_, rfl⟩
          rw [askT_at hi, if_pos rfl]
          exact (ask_queue x m).2 (.inr ⟨hr, rfl⟩)
        · rintro ⟨hn, y, hy, ey⟩
          rw [askT_at hi] at hy
          by_cases en : n = i
          · rw [en]
          · rw [if_neg en] at hy
            have := (h.map x n).2 ⟨hn, y, hy, ey⟩
            rw [this] at hf; cases hf
      · rw [if_neg ex, h.map x n]
        refine and_congr_right fun hn => ?_
        rw [askT_at hi]
        by_cases en : n = i
        · subst en
          rw [if_pos rfl]
          constructor
          · rintro ⟨y, hy, ey⟩
            exact ⟨y, (ask_queue who m).2 (.inl hy), ey⟩
          · rintro ⟨y, hy, ey⟩
            rcases (ask_queue who m).1 hy with hy | ⟨_, rfl⟩
            · exact ⟨y, hy, ey⟩
            · exact absurd ey.symm ex
        · rw [if_neg en]
    · rw [if_neg hr, h.map x n]
      refine and_congr_right fun hn => ?_
      rw [askT_at hi]
      by_cases en : n = i
      · subst en
        rw [if_pos rfl]
        constructor
        · rintro ⟨y, hy, ey⟩
          exact ⟨y, (ask_queue who m).2 (.inl hy), ey⟩
        · rintro ⟨y, hy, ey⟩
          rcases (ask_queue who m).1 hy with hy | ⟨h2, _⟩
          · exact ⟨y, hy, ey⟩
          · exact absurd h2 hr
      · rw [if_neg en]
theorem delsT_at (f : At) (out : List Int) (x : Int) : delsT f out x = if x ∈ out then none else f x := by
  unfold delsT
  induction out generalizing f with
  | nil => simp
  | cons y out ih =>
    rw [List.foldl_cons, ih]
    unfold At.del
    by_cases e : x = y
    · subst e; simp
    · simp [e]
theorem dropO_mem {ls : List LS} {who x : Int} {i : Nat} : x ∈ dropO ls who i ↔ ∃ j, i ≤ j ∧ j < ls.length ∧ x ∈ (dropS who (ls.getD j zL)).1 := by
  unfold dropO
  rw [List.mem_flatMap]
  constructor
  · rintro ⟨s, hs, hx⟩
    rw [List.mem_reverse] at hs
    obtain ⟨k, hk⟩ := List.mem_iff_getElem?.1 hs
    rw [List.getElem?_drop] at hk
    have hl : i + k < ls.length := (List.getElem?_eq_some_iff.1 hk).1
    refine ⟨i + k, by omega, hl, ?_⟩
    rw [List.getD_eq_getElem?_getD, hk]; exact hx
  · rintro ⟨j, h1, h2, hx⟩
    refine ⟨ls.getD j zL, ?_, hx⟩
    rw [List.mem_reverse]
    refine List.mem_iff_getElem?.2 ⟨j - i, ?_⟩
    rw [List.getElem?_drop, show i + (j - i) = j by omega, getD_get_ls h2]
/-- The map behind a Drop. -/
def dropF (ls : List LS) (f : At) (who : Int) : At := delsT (f.del who) (dropO ls who 0)
theorem dropF_at (ls : List LS) (f : At) (who x : Int) : dropF ls f who x = if x = who ∨ x ∈ dropO ls who 0 then none else f x := by
  unfold dropF
  rw [delsT_at]
  unfold At.del
  by_cases h1 : x ∈ dropO ls who 0
  · simp [h1]
  · by_cases h2 : x = who
    · simp [h1, h2]
    · simp [h1, h2]
theorem dropL0_at {ls : List LS} {who : Int} {j : Nat} (h : j < ls.length) : (dropL ls who 0).getD j zL = (dropS who (ls.getD j zL)).2 := by rw [dropL_at h, if_neg (by omega)]
theorem dis_drop {l : List E} (h : Dis l) {n : Nat} {x y : E} (hx : x ∈ l.take n) (hy : y ∈ l.drop n) : x.f0 ≠ y.f0 := by
  have h1 : Dis (l.take n ++ l.drop n) := by rw [List.take_append_drop]; exact h
  exact (List.pairwise_append.1 h1).2.2 x hx y hy
theorem TInv.drop {ls : List LS} {f : At} (h : TInv ls f) (who : Int) : TInv (dropL ls who 0) (dropF ls f who) := by
  have hinv : LInv (dropL ls who 0) := fun j hj => by
    rw [dropL_len] at hj
    rw [dropL0_at hj]
    obtain ⟨n, _, _, _, h4, _⟩ := dropS_spec (h.inv j hj) who
    exact h4
  refine ⟨hinv, fun x n => ?_⟩
  rw [dropF_at, dropL_len]
  constructor
  · intro hx
    by_cases hc : x = who ∨ x ∈ dropO ls who 0
    · rw [if_pos hc] at hx; cases hx
    · rw [if_neg hc] at hx
      obtain ⟨hn, y, hy, ey⟩ := (h.map x n).1 hx
      refine ⟨hn, y, ?_, ey⟩
      rw [dropL0_at hn]
      obtain ⟨k, _, h2, h3, _⟩ := dropS_spec (h.inv n hn) who
      rw [h3]
      have hyf : y ∈ fl (ls.getD n zL).2 who := fl_mem.2 ⟨hy, fun e => hc (.inl (ey.symm.trans e))⟩
      rw [← List.take_append_drop k (fl (ls.getD n zL).2 who), List.mem_append] at hyf
      rcases hyf with hyf | hyf
      · refine absurd (.inr (dropO_mem.2 ⟨n, Nat.zero_le _, hn, ?_⟩)) hc
        rw [h2]
        exact List.mem_map.2 ⟨y, hyf, ey⟩
      · exact hyf
  · rintro ⟨hn, y, hy, ey⟩
    rw [dropL0_at hn] at hy
    obtain ⟨k, _, h2, h3, _⟩ := dropS_spec (h.inv n hn) who
    rw [h3] at hy
    have hyf := fl_mem.1 (List.mem_of_mem_drop hy)
    have hfx := (h.map x n).2 ⟨hn, y, hyf.1, ey⟩
    rw [if_neg]
    · exact hfx
    · rintro (e | hx)
      · exact hyf.2 (ey.trans e)
      · obtain ⟨j, _, hj, hx⟩ := dropO_mem.1 hx
        obtain ⟨k', _, h2', h3', _⟩ := dropS_spec (h.inv j hj) who
        rw [h2'] at hx
        obtain ⟨z, hz, ez⟩ := List.mem_map.1 hx
        have hz' := fl_mem.1 (List.mem_of_mem_take hz)
        have hfj := (h.map x j).2 ⟨hj, z, hz'.1, ez⟩
        rw [hfx] at hfj
        injection hfj with hfj
        subst hfj
        rw [h2] at h2'
        have hz2 : z.f0 ∈ ((fl (ls.getD n zL).2 who).take k).map (·.f0) := by rw [h2']; exact List.mem_map.2 ⟨z, hz, rfl⟩
        obtain ⟨z2, hz2, ez2⟩ := List.mem_map.1 hz2
        have hd : Dis (fl (ls.getD n zL).2 who) := List.Pairwise.filter _ (h.inv n hn).dq
        exact dis_drop hd hz2 hy (ez2.trans (ez.trans ey.symm))
/-- Behind a Drop one has nothing. -/
theorem drop_gone {ls : List LS} {f : At} (h : TInv ls f) (who : Int) : dropF ls f who who = none ∧ ∀ j, toldIn ((dropL ls who 0).getD j zL).1 who = 0 := by
  refine ⟨by rw [dropF_at, if_pos (.inl rfl)], fun j => ?_⟩
  by_cases hj : j < ls.length
  · rw [dropL0_at hj]
    obtain ⟨k, _, _, _, _, _, h6, _⟩ := dropS_spec (h.inv j hj) who
    exact h6
  · rw [List.getD_eq_getElem?_getD, List.getElem?_eq_none (by rw [dropL_len]; omega)]; rfl
/-! ### how many locks -/
theorem newIn_eq {hs qs : List E} : newIn hs qs = (qs.filter fun x => toldIn hs x.f0 == 0).length := rfl
theorem lenT_set {ls : List LS} {i : Nat} (hi : i < ls.length) (x : LS) : lenT (ls.set i x) + lenL (ls.getD i zL) = lenT ls + lenL x := by
  unfold lenT
  induction ls generalizing i with
  | nil => simp at hi
  | cons y ls ih =>
    cases i with
    | zero => simp; omega
    | succ i => have := ih (i := i) (by simpa using hi); simp at this ⊢; omega
/-- The people at a node, each once: those that hold, then those that wait and hold nothing. -/
def folk (s : LS) : List Int := s.1.map (·.f0) ++ (s.2.filter fun x => toldIn s.1 x.f0 == 0).map (·.f0)
theorem folk_len (s : LS) : (folk s).length = lenL s := by unfold folk lenL newIn; simp
theorem folk_mem {s : LS} (h : Inv s.1 s.2) {k : Int} : k ∈ folk s ↔ (∃ x ∈ s.1, x.f0 = k) ∨ ∃ x ∈ s.2, x.f0 = k := by
  unfold folk
  rw [List.mem_append, List.mem_map, List.mem_map]
  constructor
  · rintro (⟨x, hx, e⟩ | ⟨x, hx, e⟩)
    · exact .inl ⟨x, hx, e⟩
    · exact .inr ⟨x, (List.mem_filter.1 hx).1, e⟩
  · rintro (⟨x, hx, e⟩ | ⟨x, hx, e⟩)
    · exact .inl ⟨x, hx, e⟩
    · by_cases ht : toldIn s.1 x.f0 = 0
      · exact .inr ⟨x, List.mem_filter.2 ⟨hx, by simpa using ht⟩, e⟩
      · left
        rcases told_cases s.1 x.f0 with ⟨h1, _⟩ | ⟨y, hy, h1, _⟩
        · exact absurd h1 ht
        · exact ⟨y, hy, h1.trans e⟩
theorem folk_nodup {s : LS} (h : Inv s.1 s.2) : (folk s).Nodup := by
  unfold folk
  rw [List.nodup_append]
  refine ⟨List.pairwise_map.2 h.asc.dis, List.pairwise_map.2 (List.Pairwise.filter _ h.dq), ?_⟩
  intro a ha b hb e
  subst e
  obtain ⟨x, hx, rfl⟩ := List.mem_map.1 ha
  obtain ⟨y, hy, ey⟩ := List.mem_map.1 hb
  have h1 := (List.mem_filter.1 hy).2
  have h2 : toldIn s.1 y.f0 = 0 := by simpa using h1
  exact (told_pos (fun x hx => (h.mh x hx).2)).1 h2 x hx ey.symm
theorem nodup_len {a b : List Int} (ha : a.Nodup) (h : ∀ x ∈ a, x ∈ b) : a.length ≤ b.length := by
  induction a generalizing b with
  | nil => exact Nat.zero_le _
  | cons x a ih =>
    obtain ⟨hx, ha⟩ := List.nodup_cons.1 ha
    have hb := h x (List.mem_cons_self ..)
    have h2 := ih (b := b.erase x) ha (fun y hy => (List.mem_erase_of_ne (fun e => by subst e; exact hx hy)).2 (h y (List.mem_cons_of_mem _ hy)))
    rw [List.length_erase_of_mem hb] at h2
    have h3 : 0 < b.length := List.length_pos_of_mem hb
    rw [List.length_cons]; omega
theorem lenL_le {s s' : LS} (h : Inv s.1 s.2) (h' : Inv s'.1 s'.2) (hm : ∀ k, k ∈ folk s → k ∈ folk s') : lenL s ≤ lenL s' := by
  rw [← folk_len, ← folk_len]
  exact nodup_len (folk_nodup h) hm
theorem dropS_lenL {s : LS} (h : Inv s.1 s.2) (who : Int) : lenL (dropS who s).2 ≤ lenL s := by
  obtain ⟨n, h1, h2, h3, h4, h5, _⟩ := dropS_spec h who
  refine lenL_le h4 h (fun k hk => ?_)
  rw [folk_mem h4] at hk
  rw [folk_mem h]
  rcases hk with ⟨x, hx, e⟩ | ⟨x, hx, e⟩
  · rcases (h5 x).1 hx with hx | ⟨hx, _⟩
    · exact .inr ⟨x, (fl_mem.1 (List.mem_of_mem_take hx)).1, e⟩
    · exact .inl ⟨x, (fl_mem.1 hx).1, e⟩
  · rw [h3] at hx
    exact .inr ⟨x, (fl_mem.1 (List.mem_of_mem_drop hx)).1, e⟩
theorem lenT_le {ls ls' : List LS} (hl : ls'.length = ls.length) (h : ∀ j, j < ls.length → lenL (ls'.getD j zL) ≤ lenL (ls.getD j zL)) : lenT ls' ≤ lenT ls := by
  have key : ∀ i, i ≤ ls.length → lenT (ls'.take i) ≤ lenT (ls.take i) := by
    intro i
    induction i with
    | zero => intro _; simp
    | succ i ih =>
      intro hi
      rw [len_step (by omega), len_step (by omega)]
      have := ih (by omega)
      have := h i (by omega)
      omega
  have := key ls.length (Nat.le_refl _)
  rwa [← hl, List.take_length, hl, List.take_length] at this
theorem drop_lenT {ls : List LS} (h : LInv ls) (who : Int) : lenT (dropL ls who 0) ≤ lenT ls :=
  lenT_le (dropL_len ls who 0) (fun j hj => by rw [dropL0_at hj]; exact dropS_lenL (h j hj) who)
theorem ask_folk {hs qs : List E} (h : Inv hs qs) (who m : Int) {k : Int} (hk : k ∈ folk (askIn hs qs who m).2) : k ∈ folk (hs, qs) ∨ k = who := by
  have h' := inv_ask h who m
  rw [folk_mem h'] at hk
  rw [folk_mem (s := (hs, qs)) h]
  rcases hk with ⟨x, hx, e⟩ | ⟨x, hx, e⟩
  · by_cases ek : k = who
    · exact .inr ek
    · left; left
      have ht := told_ask_ne (qs := qs) h.asc (who := who) (k := k) (m := m) ek
      have h1 : toldIn (askIn hs qs who m).2.1 k = x.f1 := by rw [← e]; exact told_mem h'.asc.dis hx
      rw [h1] at ht
      rcases told_cases hs k with ⟨h2, _⟩ | ⟨y, hy, h2, _⟩
      · rw [h2] at ht; exact absurd ht (h'.mh x hx).2
      · exact ⟨y, hy, h2⟩
  · rcases (ask_queue who m).1 hx with hx | ⟨_, rfl⟩
    · exact .inl (.inr ⟨x, hx, e⟩)
    · exact .inr e.symm
theorem ask_lenL {hs qs : List E} (h : Inv hs qs) (who m : Int) : lenL (askIn hs qs who m).2 ≤ lenL (hs, qs) + 1 ∧ (hasIn hs qs who = true → lenL (askIn hs qs who m).2 ≤ lenL (hs, qs)) := by
  have h' := inv_ask h who m
  constructor
  · rw [← folk_len, ← folk_len]
    have := nodup_len (b := who :: folk (hs, qs)) (folk_nodup (s := (askIn hs qs who m).2) h') (fun k hk => by
      rcases ask_folk h who m hk with h | rfl
      · exact List.mem_cons_of_mem _ h
      · exact List.mem_cons_self ..)
    simpa using this
  · intro hh
    refine lenL_le (s := (askIn hs qs who m).2) (s' := (hs, qs)) h' h (fun k hk => ?_)
    rcases ask_folk h who m hk with h1 | rfl
    · exact h1
    · rw [folk_mem (s := (hs, qs)) h]
      unfold hasIn at hh
      rw [Bool.or_eq_true, bne_iff_ne, bne_iff_ne] at hh
      rcases hh with hh | hh
      · rcases told_cases hs k with ⟨h2, _⟩ | ⟨y, hy, h2, _⟩
        · exact absurd h2 hh
        · exact .inl ⟨y, hy, h2⟩
      · rcases told_cases qs k with ⟨h2, _⟩ | ⟨y, hy, h2, _⟩
        · exact absurd h2 hh
        · exact .inr ⟨y, hy, h2⟩
theorem askT_lenT {ls : List LS} (h : LInv ls) (f : At) {most : Int} (hl : (lenT ls : Int) ≤ most) (who node m : Int) : (lenT (askT ls most f who node m).2.2.1 : Int) ≤ most := by
  rcases askT_cases ls most f who node m with ⟨h1, _⟩ | ⟨i, rfl, hi, _, _, _, _, hn, e⟩
  · rw [h1]; exact hl
  · rw [e]
    have hL := ask_lenL (h i hi) who m
    have hS := lenT_set hi (askIn (ls.getD i zL).1 (ls.getD i zL).2 who m).2
    have e1 : lenL ((ls.getD i zL).1, (ls.getD i zL).2) = lenL (ls.getD i zL) := rfl
    rw [e1] at hL
    show (lenT (ls.set i _) : Int) ≤ most
    cases hh : hasIn (ls.getD i zL).1 (ls.getD i zL).2 who with
    | true => have := hL.2 hh; omega
    | false =>
      have h3 : ¬ most ≤ (lenT ls : Nat) := fun h => hn ⟨hh, h⟩
      have := hL.1
      omega
end Go.Proofs.Ytagdgkimjgomlaa.Ln
