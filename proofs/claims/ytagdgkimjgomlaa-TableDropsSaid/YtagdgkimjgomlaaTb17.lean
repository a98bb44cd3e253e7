/- TableOnce: its plain law. -/
import Derived.Test.YtagdgkimjgomlaaTb15
namespace Go.Proofs.Ytagdgkimjgomlaa.Ln
open Go.RowKit Go.Proofs.YtagdgkimjgomlaaW.PrintWords Go.Proofs.YtagdgkimjgomlaaW.PrintLast Go.Proofs.YtagdgkimjgomlaaW.PrintMore Go.Proofs.Ytagdgkimjgomlaa.PMd
open Go.Maps
open Go.Sort (grow)
set_option linter.unusedVariables false
set_option linter.unusedSimpArgs false
theorem dropS_size {s : LS} (h : Inv s.1 s.2) (who : Int) : (dropS who s).2.1.length + (dropS who s).2.2.length ≤ s.1.length + s.2.length := by
  unfold dropS
  split
  · have h1 := leave_len h who
    have h2 := fl_len s.1 who
    have h3 := fl_len s.2 who
    omega
  · exact Nat.le_refl _
theorem dropS_queue {s : LS} (h : Inv s.1 s.2) (who : Int) {e : E} (he : e ∈ (dropS who s).2.2) : e ∈ s.2 := by
  obtain ⟨n, _, _, h3, _⟩ := dropS_spec h who
  rw [h3] at he
  exact (fl_mem.1 (List.mem_of_mem_drop he)).1
theorem dropS_outs {s : LS} (h : Inv s.1 s.2) (who : Int) {x : Int} (hx : x ∈ (dropS who s).1) : ∃ e ∈ s.2, e.f0 = x := by
  obtain ⟨n, _, h2, _⟩ := dropS_spec h who
  rw [h2] at hx
  obtain ⟨e, he, ex⟩ := List.mem_map.1 hx
  exact ⟨e, (fl_mem.1 (List.mem_of_mem_take he)).1, ex⟩
/-- What holds between two operations. -/
structure OInv (n : Nat) (most : Int) (i : Nat) (ls : List LS) (f : At) : Prop where
  len : ls.length = n
  t : TInv ls f
  size : ∀ j, j < ls.length → (ls.getD j zL).1.length + (ls.getD j zL).2.length ≤ i
  lk : (lenT ls : Int) ≤ most
  wf : ∀ j, j < ls.length → ∀ e ∈ (ls.getD j zL).2, ok64 e.f0
theorem oinv_zero (n : Nat) {most : Int} (h : 0 ≤ most) : OInv n most 0 (List.replicate n zL) f0 :=
  ⟨by simp, tinv_zero n, fun j _ => by rw [getD_rep9]; exact Nat.le_refl _, by
    unfold lenT
    rw [List.map_replicate, show lenL zL = 0 from rfl]
    simpa using h, fun j _ e he => by rw [getD_rep9] at he; cases he⟩
theorem OInv.ask {n : Nat} {most : Int} {i : Nat} {ls : List LS} {f : At} (h : OInv n most i ls f) {who : Int} (hw : ok64 who) (node m : Int) : OInv n most (i + 1) (askT ls most f who node m).2.2.1 (askT ls most f who node m).2.2.2 := by
  refine ⟨(askT_len _ _ _ _ _ _).trans h.len, h.t.ask most who node m, askT_size h.size most f who node m, askT_lenT h.t.inv f h.lk who node m, ?_⟩
  rcases askT_cases ls most f who node m with ⟨h1, _⟩ | ⟨k, rfl, hk, _, _, _, _, _, e⟩
  · rw [h1]; exact h.wf
  · rw [e]
    intro j hj y hy
    dsimp only at hj hy
    rw [List.length_set] at hj
    rw [askT_at hk] at hy
    by_cases ej : j = k
    · rw [if_pos ej] at hy
      rcases (ask_queue who m).1 hy with hy | ⟨_, rfl⟩
      · exact h.wf k hk y hy
      · exact hw
    · rw [if_neg ej] at hy
      exact h.wf j hj y hy
theorem OInv.drop {n : Nat} {most : Int} {i : Nat} {ls : List LS} {f : At} (h : OInv n most i ls f) (who : Int) : OInv n most i (dropL ls who 0) (dropF ls f who) := by
  refine ⟨(dropL_len _ _ _).trans h.len, h.t.drop who, fun j hj => ?_, ?_, fun j hj y hy => ?_⟩
  · rw [dropL_len] at hj
    rw [dropL0_at hj]
    exact Nat.le_trans (dropS_size (h.t.inv j hj) who) (h.size j hj)
  · have := drop_lenT h.t.inv who
    have := h.lk
    omega
  · rw [dropL_len] at hj
    rw [dropL0_at hj] at hy
    exact h.wf j hj y (dropS_queue (h.t.inv j hj) who hy)
theorem OInv.more {n : Nat} {most : Int} {i : Nat} {ls : List LS} {f : At} (h : OInv n most i ls f) : OInv n most (i + 1) ls f := ⟨h.len, h.t, fun j hj => Nat.le_succ_of_le (h.size j hj), h.lk, h.wf⟩
theorem OInv.outs {n : Nat} {most : Int} {i : Nat} {ls : List LS} {f : At} (h : OInv n most i ls f) (who : Int) : ∀ x ∈ dropO ls who 0, ok64 x := fun x hx => by
  obtain ⟨j, _, hj, hx⟩ := dropO_mem.1 hx
  obtain ⟨e, he, rfl⟩ := dropS_outs (h.t.inv j hj) who hx
  exact h.wf j hj e he
theorem OInv.mS {n : Nat} {most : Int} {i : Nat} {ls : List LS} {f : At} (h : OInv n most i ls f) (hi : i ≤ 400000) : ∀ j, mS (ls.getD j zL) ≤ 900000 := fun j => by
  by_cases hj : j < ls.length
  · have := h.size j hj
    unfold Ln.mS; omega
  · rw [List.getD_eq_getElem?_getD, List.getElem?_eq_none (by omega)]
    exact Nat.zero_le _
theorem OInv.small {n : Nat} {most : Int} {i : Nat} {ls : List LS} {f : At} (h : OInv n most i ls f) (hi : i ≤ 400000) (hn : n ≤ 10000) : Small ls := small_of (n := i) (by rw [h.len]; exact hn) h.size hi
/-- An answer that is right is no bad one. -/
theorem ask_answer {ls : List LS} {f : At} (h : TInv ls f) (most who node m : Int) : (askT ls most f who node m).2.1 = 0 ∧ (askT ls most f who node m).1 ≠ 0 ∨ (askT ls most f who node m).2.1 ≠ 0 ∧ (askT ls most f who node m).1 = 0 := by
  rcases askT_cases ls most f who node m with ⟨_, h2, h3, _⟩ | ⟨k, rfl, hk, hw, hm, h0, hf, _, e⟩
  · exact .inr ⟨h2, h3⟩
  · rw [e]
    refine .inl ⟨rfl, ?_⟩
    dsimp only
    have hq : ∀ x ∈ (ls.getD k zL).2, x.f0 ≠ who := fun x hx ex => by
      have := (h.map who k).2 ⟨hk, x, hx, ex⟩
      rw [this] at hf; cases hf
    have hb : askBad (ls.getD k zL).2 who m = false := by
      unfold askBad
      rw [hm]
      have h1 : (m == 0) = false := beq_eq_false_iff_ne.2 h0
      have h2 : decide (ix (fun x => x.f0 == who) (ls.getD k zL).2 ≥ 0) = false := decide_eq_false (fun h => by
        obtain ⟨x, hx, ex⟩ := ix_yes.1 h
        exact hq x hx ex)
      rw [h1, h2]; rfl
    unfold askIn
    rw [hb]
    split
    · rename_i h; cases h
    · split <;> simp
theorem held_gone {ls : List LS} {f : At} (h : TInv ls f) (who : Int) : heldT (dropL ls who 0) who = [] := by
  have key : ∀ i, heldUp (dropL ls who 0) who i = [] := by
    intro i
    induction i with
    | zero => rfl
    | succ i ih =>
      unfold heldUp
      rw [ih, if_pos ((drop_gone h who).2 i)]; rfl
  exact key _
theorem waits_gone {ls : List LS} {f : At} (h : TInv ls f) (who : Int) : waitsT (dropL ls who 0) (dropF ls f who) who = (0, 0, false) := by
  unfold waitsT
  rw [(drop_gone h who).1]
/-- Who waits at the first k nodes. -/
def whoT (ls : List LS) (k : Nat) : List Int := (ls.take k).flatMap (fun s => s.2.map (·.f0))
theorem whoT_step {ls : List LS} {k : Nat} (h : k < ls.length) : whoT ls (k + 1) = whoT ls k ++ (ls.getD k zL).2.map (·.f0) := by
  unfold whoT
  rw [List.take_add_one, getD_get_ls h, List.flatMap_append]
  simp
theorem whoT_mem {ls : List LS} {k : Nat} {x : Int} (hk : k ≤ ls.length) : x ∈ whoT ls k → ∃ j, j < k ∧ ∃ e ∈ (ls.getD j zL).2, e.f0 = x := by
  unfold whoT
  rw [List.mem_flatMap]
  rintro ⟨s, hs, hx⟩
  obtain ⟨j, hj⟩ := List.mem_iff_getElem?.1 hs
  rw [List.getElem?_take] at hj
  split at hj
  · rename_i hjk
    refine ⟨j, hjk, ?_⟩
    rw [List.getD_eq_getElem?_getD, hj]
    obtain ⟨e, he, ex⟩ := List.mem_map.1 hx
    exact ⟨e, he, ex⟩
  · cases hj
theorem whoT_len {ls : List LS} {i : Nat} (h : ∀ j, j < ls.length → (ls.getD j zL).1.length + (ls.getD j zL).2.length ≤ i) : ∀ k, k ≤ ls.length → (whoT ls k).length ≤ k * i := by
  intro k
  induction k with
  | zero => intro _; simp [whoT]
  | succ k ih =>
    intro hk
    rw [whoT_step (by omega), List.length_append, List.length_map, Nat.add_mul]
    have := ih (by omega)
    have := h k (by omega)
    omega
/-- Nobody waits twice. -/
theorem who_once {ls : List LS} {f : At} (h : TInv ls f) {k p : Nat} (hk : k < ls.length) (hp : p < (ls.getD k zL).2.length) : ((ls.getD k zL).2.getD p z67).f0 ∉ whoT ls k ++ ((ls.getD k zL).2.take p).map (·.f0) := by
  have hm := getD_mem' hp
  rw [List.mem_append]
  rintro (hx | hx)
  · obtain ⟨j, hj, e, he, ex⟩ := whoT_mem (by omega) hx
    have h1 := (h.map _ j).2 ⟨by omega, e, he, ex⟩
    have h2 := (h.map _ k).2 ⟨hk, _, hm, rfl⟩
    rw [h1] at h2
    injection h2 with h2
    omega
  · obtain ⟨e, he, ex⟩ := List.mem_map.1 hx
    have hd := (h.inv k hk).dq
    rw [split_at hp] at hd
    exact (List.pairwise_append.1 hd).2.2 e he _ (List.mem_cons_self ..) ex
/-- An edge: its first end waits where the second one is. -/
theorem edge_facts {ls : List LS} {f : At} (h : TInv ls f) {l : List Int} (hl : ∀ x, x ∈ l ↔ ok64 x ∧ (f x).isSome = true) {k : Nat} (hk : k < (edUp ls f (sortedI l) l.length).length) :
    ∃ n, f ((edUp ls f (sortedI l) l.length).getD k (0, 0)).1 = some n ∧ n < ls.length ∧ ok64 ((edUp ls f (sortedI l) l.length).getD k (0, 0)).1 ∧
      (toldIn (ls.getD n zL).1 ((edUp ls f (sortedI l) l.length).getD k (0, 0)).2 ≠ 0 ∨ toldIn (ls.getD n zL).2 ((edUp ls f (sortedI l) l.length).getD k (0, 0)).2 ≠ 0) ∧
      ((edUp ls f (sortedI l) l.length).getD k (0, 0)).1 ≠ ((edUp ls f (sortedI l) l.length).getD k (0, 0)).2 := by
  have hm : (edUp ls f (sortedI l) l.length).getD k (0, 0) ∈ edUp ls f (sortedI l) l.length := by
    rw [List.getD_eq_getElem?_getD, List.getElem?_eq_getElem hk]; exact List.getElem_mem hk
  generalize (edUp ls f (sortedI l) l.length).getD k (0, 0) = p at hm ⊢
  rw [edUp_all, List.mem_flatMap] at hm
  obtain ⟨x, hx, hp⟩ := hm
  rw [sortedI_mem, hl x] at hx
  obtain ⟨n, hn⟩ := Option.isSome_iff_exists.1 hx.2
  unfold edT at hp
  rw [hn] at hp
  dsimp only at hp
  obtain ⟨y, hy, rfl⟩ := List.mem_map.1 hp
  obtain ⟨hnl, e, he, ex⟩ := (h.map x n).1 hn
  refine ⟨n, hn, hnl, hx.1, ?_⟩
  have hi := h.inv n hnl
  obtain ⟨i, hil, hie⟩ := List.mem_iff_getElem.1 he
  have hg : (ls.getD n zL).2.getD i z67 = e := by rw [List.getD_eq_getElem?_getD, List.getElem?_eq_getElem hil, hie]; rfl
  have hs' := split_at hil
  have hn' : ∀ z ∈ (ls.getD n zL).2.take i, z.f0 ≠ ((ls.getD n zL).2.getD i z67).f0 := by
    have hd := hi.dq
    rw [hs'] at hd
    exact fun z hz => (List.pairwise_append.1 hd).2.2 z hz _ (List.mem_cons_self ..)
  have hB := blocks_mem2 (hs := (ls.getD n zL).1) (Q1 := (ls.getD n zL).2.take i) (Q2 := (ls.getD n zL).2.drop (i + 1)) (who := ((ls.getD n zL).2.getD i z67).f0) (t := ((ls.getD n zL).2.getD i z67).f1) (k := y) hn'
  rw [← hs', hg, ex] at hB
  rw [hg, ex] at hn'
  rcases hB.1 hy with ⟨z, hz, ez⟩ | ⟨z, hz, ez, hw, _⟩
  · refine ⟨.inr (fun h0 => ?_), fun e2 => hn' z hz (ez.trans e2.symm)⟩
    exact (told_pos (fun x hx => (hi.mq x hx).2)).1 h0 z (List.mem_of_mem_take hz) ez
  · refine ⟨.inl (fun h0 => ?_), fun e2 => hw (ez.trans e2.symm)⟩
    exact (told_pos (fun x hx => (hi.mh x hx).2)).1 h0 z hz ez
end Go.Proofs.Ytagdgkimjgomlaa.Ln
