/- A table: its blocks, no more, by their types; a Drop in plain words. -/
import Derived.Test.YtagdgkimjgomlaaTb7
namespace Go.Proofs.Ytagdgkimjgomlaa.Ln
open Go.RowKit Go.Proofs.YtagdgkimjgomlaaW.PrintWords Go.Proofs.YtagdgkimjgomlaaW.PrintLast Go.Proofs.YtagdgkimjgomlaaW.PrintMore Go.Proofs.Ytagdgkimjgomlaa.PMd
open Go.Maps
open Go.Sort (grow)
set_option linter.unusedVariables false
set_option linter.unusedSimpArgs false
/-- A block of a table: its map, or cells of one of four types. -/
def okB (w : World) (m k : Nat) : Prop := k = m ∨ ∃ cs t, w.heap[k]? = some (.cells cs t (0, 0)) ∧ (t = 94 ∨ t = 96 ∨ t = 105 ∨ t = 67)
theorem okB.ne {w : World} {m k : Nat} (h : okB w m k) {cs : Array Value} {t : TypeId} {z : Nat × Nat} (hm : ∀ cs t z, w.heap[m]? ≠ some (.cells cs t z)) (ht : t ≠ 94 ∧ t ≠ 96 ∧ t ≠ 105 ∧ t ≠ 67) : w.heap[k]? ≠ some (.cells cs t z) := by
  intro hk
  rcases h with rfl | ⟨cs', t', h1, h2⟩
  · exact hm _ _ _ hk
  · rw [h1] at hk
    injection hk with hk
    injection hk with _ hk
    subst hk
    rcases h2 with h | h | h | h
    · exact ht.1 h
    · exact ht.2.1 h
    · exact ht.2.2.1 h
    · exact ht.2.2.2 h
theorem IsLane.typed {w : World} {b : Nat} {F : Nat → Prop} {hs qs : List E} (h : IsLane w b F hs qs) : ∃ F0 : Nat → Prop, IsLane w b F0 hs qs ∧ (∀ k, F0 k → F k ∧ k < w.heap.size ∧ ∀ m, okB w m k) := by
  obtain ⟨hA, hc, qA, qc, h1, h2, h3, h4, h5, h6, h7⟩ := h
  refine ⟨fun k => k = b ∨ blk hA k ∨ blk qA k, ⟨hA, hc, qA, qc, h1, .inl rfl, h3, fun k hk => .inr (.inl hk), h5, fun k hk => .inr (.inr hk), h7⟩, fun k hk => ?_⟩
  rcases hk with rfl | hk | hk
  · exact ⟨h2, (Array.getElem?_eq_some_iff.1 h1).1, fun _ => .inr ⟨_, _, h1, .inr (.inr (.inl rfl))⟩⟩
  · obtain ⟨cur, hc⟩ := h3.typed hk
    exact ⟨h4 k hk, h3.lt hk, fun _ => .inr ⟨_, _, hc, .inr (.inr (.inr rfl))⟩⟩
  · obtain ⟨cur, hc⟩ := h5.typed hk
    exact ⟨h6 k hk, h5.lt hk, fun _ => .inr ⟨_, _, hc, .inr (.inr (.inr rfl))⟩⟩
/-- The table's blocks, no more. -/
theorem IsTab.typed {w : World} {b N : Nat} {F : Nat → Prop} {ls : List LS} {most : Int} {f : At} (h : IsTab w b F ls most N f) : ∃ (m : Nat) (F0 : Nat → Prop), w.cell? ⟨b, 2, none⟩ = some (.map (some m)) ∧ (∀ cs t z, w.heap[m]? ≠ some (.cells cs t z)) ∧ IsTab w b F0 ls most N f ∧
    (∀ k, F0 k → F k ∧ k < w.heap.size ∧ okB w m k) := by
  obtain ⟨sA, sc, m, bs, G, h1, h2, h3, h4, h5⟩ := h
  have hx : ∀ i, ∃ G0 : Nat → Prop, i < ls.length → IsLane w (bs.getD i 0) G0 (ls.getD i zL).1 (ls.getD i zL).2 ∧ (∀ k, G0 k → G i k ∧ k < w.heap.size ∧ ∀ m, okB w m k) := fun i => by
    by_cases hi : i < ls.length
    · obtain ⟨G0, a1, a2⟩ := (h5.lane i hi).typed
      exact ⟨G0, fun _ => ⟨a1, a2⟩⟩
    · exact ⟨fun _ => False, fun h => absurd h hi⟩
  refine ⟨m, fun k => k = b ∨ k = m ∨ blk sA k ∨ ∃ i, i < ls.length ∧ (Classical.choose (hx i)) k, (blk_cell h1 2).trans rfl, fun cs t z hc => h4.cells hc,
    ⟨sA, sc, m, bs, fun i k => i < ls.length ∧ (Classical.choose (hx i)) k, h1, .inl rfl, .inr (.inl rfl), h4, ⟨h5.row, fun k hk => .inr (.inr (.inl hk)), ?_, h5.asc, fun i k hk => .inr (.inr (.inr ⟨i, hk⟩)), ?_, ?_⟩⟩, ?_⟩
  · intro i hi
    exact ((Classical.choose_spec (hx i)) hi).1.mono (fun k _ hk => ⟨hi, hk⟩)
  · rintro i k ⟨hi, hk⟩
    exact h5.off i k (((Classical.choose_spec (hx i)) hi).2 k hk).1
  · rintro i j k ⟨hi, hk⟩ ⟨hj, hk'⟩
    exact h5.apart i j k (((Classical.choose_spec (hx i)) hi).2 k hk).1 (((Classical.choose_spec (hx j)) hj).2 k hk').1
  · rintro k (rfl | rfl | hk | ⟨i, hi, hk⟩)
    · exact ⟨h2, (Array.getElem?_eq_some_iff.1 h1).1, .inr ⟨_, _, h1, .inl rfl⟩⟩
    · exact ⟨h3, h4.lt, .inl rfl⟩
    · obtain ⟨cur, hc⟩ := h5.row.typed hk
      exact ⟨h5.rowF k hk, h5.row.lt hk, .inr ⟨_, _, hc, .inr (.inl rfl)⟩⟩
    · obtain ⟨a1, a2, a3⟩ := ((Classical.choose_spec (hx i)) hi).2 k hk
      exact ⟨h5.own i k a1, a2, a3 m⟩
/-- Opened at node i, for a step whose new blocks are told. -/
theorem IsTab.at2 {w : World} {b N : Nat} {F : Nat → Prop} {ls : List LS} {most : Int} {f : At} (h : IsTab w b F ls most N f) (i : Nat) (hi : i < ls.length) : ∃ g off sc m bi Gi, w.cell? ⟨b, 0, none⟩ = some (.slice (some ⟨g, off, none⟩) ls.length sc) ∧
    w.cell? ⟨b, 2, none⟩ = some (.map (some m)) ∧ w.cell? ⟨g, off + i, none⟩ = some (.pointer (some ⟨bi, 0, none⟩)) ∧ IsLane w bi Gi (ls.getD i zL).1 (ls.getD i zL).2 ∧ Asc (ls.getD i zL).1 ∧ (∀ k, Gi k → F k ∧ k ≠ b ∧ k ≠ m ∧ k ≠ g ∧ k < w.heap.size) ∧ F b ∧ F g ∧ b < w.heap.size ∧ g < w.heap.size ∧
    (∀ w1 hs1 qs1 G1, IsLane w1 bi G1 hs1 qs1 → (∀ k, G1 k → Gi k ∨ w.heap.size ≤ k) → Asc hs1 → Grew Gi w w1 → IsTab w1 b (fun k => (F k ∧ k < w.heap.size ∧ ¬ Gi k) ∨ G1 k) (ls.set i (hs1, qs1)) most N f) := by
  obtain ⟨sA, sc, m, bs, G, h1, h2, h3, h4, h5⟩ := h
  obtain ⟨g, off, cur, rfl, hg, hsz, hcell⟩ := h5.row.at_ (by omega)
  have hbl : bs.length = ls.length := by have := h5.row.1; simpa using this
  have hc := (hcell i (pT (bs.getD i 0)) (getD_map pT bs i 0 (by omega))).1
  obtain ⟨G0, hI0, hG0⟩ := (h5.lane i hi).exact_
  have hbw := (Array.getElem?_eq_some_iff.1 h1).1
  have hgw := (Array.getElem?_eq_some_iff.1 hg).1
  refine ⟨g, off, sc, m, bs.getD i 0, G0, (blk_cell h1 0).trans rfl, (blk_cell h1 2).trans rfl, hc, hI0, h5.asc i hi, fun k hk => ?_, h2, h5.rowF g ⟨_, rfl, rfl⟩, hbw, hgw, fun w1 hs1 qs1 G1 hI hG1 ha hg1 => ?_⟩
  · obtain ⟨o1, o2, o3⟩ := h5.off i k (hG0 k hk).1
    exact ⟨h5.own i k (hG0 k hk).1, o1, o2, fun e => o3 ⟨_, rfl, e.symm⟩, (hG0 k hk).2⟩
  have hg2 : Grew (G i) w w1 := hg1.mono (fun k _ hk => (hG0 k hk).1)
  have hrow : Row w1 96 1 (some ⟨g, off, none⟩) ls.length sc (bs.map pT) := h5.row.grew hg2 (fun k hk hk2 => (h5.off i k hk2).2.2 hk)
  have hnb : ¬ G0 b := fun hk => (h5.off i b (hG0 b hk).1).1 rfl
  have hnm : ¬ G0 m := fun hk => (h5.off i m (hG0 m hk).1).2.1 rfl
  refine ⟨some ⟨g, off, none⟩, sc, m, bs, fun j k => if j = i then G1 k else G j k ∧ k < w.heap.size, ?_, .inl ⟨h2, hbw, hnb⟩, .inl ⟨h3, h4.lt, hnm⟩, h4.move (hg1.block m h4.lt hnm), ⟨?_, ?_, ?_, ?_, ?_, ?_, ?_⟩⟩
  · rw [List.length_set]
    exact (hg1.block b hbw hnb).trans h1
  · rw [List.length_set]; exact hrow
  · exact fun k hk => .inl ⟨h5.rowF k hk, h5.row.lt hk, fun h => (h5.off i k (hG0 k h).1).2.2 hk⟩
  · intro j hj
    rw [List.length_set] at hj
    rw [getD_set_ls ls i j _ hj]
    by_cases e : j = i
    · subst e
      rw [if_pos rfl]
      exact hI.mono (fun k _ hk => by rw [if_pos rfl]; exact hk)
    · rw [if_neg e]
      have hl := (h5.lane j hj).mono (F' := fun k => G j k ∧ k < w.heap.size) (fun k hk hg => ⟨hg, hk⟩)
      refine (hl.grew hg2 (fun k hk hk2 => e (h5.apart j i k hk.1 hk2))).mono (fun k _ hk => ?_)
      rw [if_neg e]
      exact hk
  · intro j hj
    rw [List.length_set] at hj
    rw [getD_set_ls ls i j _ hj]
    by_cases e : j = i
    · rw [if_pos e]; exact ha
    · rw [if_neg e]; exact h5.asc j hj
  · intro j k hk
    by_cases e : j = i
    · rw [if_pos e] at hk
      exact .inr hk
    · rw [if_neg e] at hk
      exact .inl ⟨h5.own j k hk.1, hk.2, fun h => e (h5.apart j i k hk.1 (hG0 k h).1)⟩
  · have hnew : ∀ k, w.heap.size ≤ k → k ≠ b ∧ k ≠ m ∧ ¬ blk (some ⟨g, off, none⟩) k := fun k hk => by
      have hm := h4.lt
      exact ⟨by omega, by omega, fun hk2 => by have := h5.row.lt hk2; omega⟩
    intro j k hk
    by_cases e : j = i
    · rw [if_pos e] at hk
      exact (hG1 k hk).elim (fun h => h5.off i k (hG0 k h).1) (hnew k)
    · rw [if_neg e] at hk
      exact h5.off j k hk.1
  · intro j j' k hk hk'
    by_cases e : j = i
    · by_cases e' : j' = i
      · omega
      · rw [if_pos e] at hk
        rw [if_neg e'] at hk'
        rcases hG1 k hk with hk | hk
        · exact absurd (h5.apart i j' k (hG0 k hk).1 hk'.1) (fun h => e' h.symm)
        · have := hk'.2; omega
    · rw [if_neg e] at hk
      by_cases e' : j' = i
      · rw [if_pos e'] at hk'
        rcases hG1 k hk' with hk' | hk'
        · exact absurd (h5.apart j i k hk.1 (hG0 k hk').1) e
        · have := hk.2; omega
      · rw [if_neg e'] at hk'
        exact h5.apart j j' k hk.1 hk'.1
/-! ### a Drop, in plain words -/
def dropS (who : Int) (s : LS) : List Int × LS := if hasIn s.1 s.2 who then leaveIn s.1 s.2 who else ([], s)
/-- What the nodes from i on make of it. -/
def dropO (ls : List LS) (who : Int) (i : Nat) : List Int := (ls.drop i).reverse.flatMap (fun s => (dropS who s).1)
def dropL (ls : List LS) (who : Int) (i : Nat) : List LS := ls.take i ++ (ls.drop i).map (fun s => (dropS who s).2)
def delsT (f : At) (out : List Int) : At := out.foldl At.del f
theorem dropL_len (ls : List LS) (who : Int) (i : Nat) : (dropL ls who i).length = ls.length := by
  unfold dropL
  rw [List.length_append, List.length_map, List.length_take, List.length_drop]; omega
theorem dropO_top (ls : List LS) (who : Int) : dropO ls who ls.length = [] := by unfold dropO; simp
theorem dropL_top (ls : List LS) (who : Int) : dropL ls who ls.length = ls := by unfold dropL; simp
theorem drop_at {ls : List LS} {i : Nat} (h : i < ls.length) : ls.drop i = ls.getD i zL :: ls.drop (i + 1) := by
  rw [List.drop_eq_getElem_cons h, List.getD_eq_getElem?_getD, List.getElem?_eq_getElem h]; rfl
theorem dropO_step {ls : List LS} {who : Int} {i : Nat} (h : i < ls.length) : dropO ls who i = dropO ls who (i + 1) ++ (dropS who (ls.getD i zL)).1 := by
  unfold dropO
  rw [drop_at h, List.reverse_cons, List.flatMap_append]
  simp
theorem dropL_at {ls : List LS} {who : Int} {i j : Nat} (h : j < ls.length) : (dropL ls who i).getD j zL = if j < i then ls.getD j zL else (dropS who (ls.getD j zL)).2 := by
  unfold dropL
  rw [List.getD_eq_getElem?_getD, List.getElem?_append]
  by_cases e : j < i
  · rw [if_pos (by rw [List.length_take]; omega), if_pos e, List.getElem?_take, if_pos e, ← List.getD_eq_getElem?_getD]
  · rw [if_neg (by rw [List.length_take]; omega), if_neg e, List.length_take, show min i ls.length = i by omega, List.getElem?_map, List.getElem?_drop, show i + (j - i) = j by omega, getD_get_ls h]
    rfl
theorem dropL_step {ls : List LS} {who : Int} {i : Nat} (h : i < ls.length) : dropL ls who i = (dropL ls who (i + 1)).set i (dropS who (ls.getD i zL)).2 := by
  unfold dropL
  rw [drop_at h, List.map_cons, List.take_add_one, getD_get_ls h]
  simp only [Option.toList_some]
  rw [List.append_assoc, List.set_append_right _ _ (by rw [List.length_take]; omega), List.length_take, show min i ls.length = i by omega, Nat.sub_self]
  rfl
theorem dropL_same {ls : List LS} {who : Int} {i : Nat} (h : i < ls.length) (hn : hasIn (ls.getD i zL).1 (ls.getD i zL).2 who = false) : dropL ls who i = dropL ls who (i + 1) ∧ dropO ls who i = dropO ls who (i + 1) := by
  have e : dropS who (ls.getD i zL) = ([], ls.getD i zL) := by unfold dropS; rw [hn]; rfl
  constructor
  · rw [dropL_step h, e]
    refine List.ext_getElem (by simp) (fun j h1 h2 => ?_)
    rw [List.getElem_set]
    split
    · rename_i e2
      subst e2
      have h3 := dropL_at (ls := ls) (who := who) (i := i + 1) h
      rw [if_pos (by omega), List.getD_eq_getElem?_getD, List.getElem?_eq_getElem h2] at h3
      exact h3.symm
    · rfl
  · rw [dropO_step h, e]; simp
/-! ### how much there is -/
def mS (s : LS) : Nat := s.1.length + 2 * s.2.length
theorem serve_bd (hs qs : List E) : (serveQ hs qs).2.1.length + 2 * (serveQ hs qs).2.2.length + (serveQ hs qs).1.length ≤ hs.length + 2 * qs.length := by
  induction qs generalizing hs with
  | nil => simp [serveQ]
  | cons x qs ih =>
    unfold serveQ
    split
    · have h1 := ih (grantsIn hs x.f0 x.f1)
      have h2 := grants_len hs x.f0 x.f1
      simp only [List.length_cons]
      omega
    · simp
theorem dropS_bd (who : Int) (s : LS) : mS (dropS who s).2 + (dropS who s).1.length ≤ mS s := by
  unfold dropS mS
  split
  · have h1 := serve_bd (fl s.1 who) (fl s.2 who)
    have h2 := fl_len s.1 who
    have h3 := fl_len s.2 who
    unfold leaveIn
    omega
  · simp
/-- One node's part of a Drop. -/
def visit (who : Int) (st : List Int × List LS) (i : Nat) : List Int × List LS := (st.1 ++ (dropS who (st.2.getD i zL)).1, st.2.set i (dropS who (st.2.getD i zL)).2)
def visits (who : Int) (ls : List LS) (l : List Nat) : List Int × List LS := l.foldl (visit who) ([], ls)
theorem visits_snoc (who : Int) (ls : List LS) (l : List Nat) (i : Nat) : visits who ls (l ++ [i]) = visit who (visits who ls l) i := by unfold visits; rw [List.foldl_append]; rfl
theorem visit_len (who : Int) (st : List Int × List LS) (i : Nat) : (visit who st i).2.length = st.2.length := by unfold visit; rw [List.length_set]
theorem visits_rec {P : List Nat → List Int × List LS → Prop} (who : Int) (ls : List LS) (h0 : P [] ([], ls)) (h1 : ∀ l i, P l (visits who ls l) → P (l ++ [i]) (visit who (visits who ls l) i)) (l : List Nat) : P l (visits who ls l) := by
  have key : ∀ n (l : List Nat), l.length = n → P l (visits who ls l) := by
    intro n
    induction n with
    | zero => intro l hl; obtain rfl := List.eq_nil_of_length_eq_zero hl; exact h0
    | succ n ih =>
      intro l hl
      have hne : l ≠ [] := fun e => by subst e; cases hl
      have e := List.dropLast_concat_getLast hne
      rw [← e, visits_snoc]
      exact h1 _ _ (ih _ (by rw [List.length_dropLast]; omega))
  exact key _ l rfl
theorem visits_len (who : Int) (ls : List LS) (l : List Nat) : (visits who ls l).2.length = ls.length :=
  visits_rec (P := fun _ st => st.2.length = ls.length) who ls rfl (fun l i h => by rw [visit_len]; exact h) l
theorem visits_bd {who : Int} {ls : List LS} (h : ∀ i, mS (ls.getD i zL) ≤ 900000) (l : List Nat) : (∀ i, mS ((visits who ls l).2.getD i zL) ≤ 900000) ∧ (visits who ls l).1.length ≤ 900000 * l.length := by
  refine visits_rec (P := fun l st => (∀ i, mS (st.2.getD i zL) ≤ 900000) ∧ st.1.length ≤ 900000 * l.length) who ls ⟨h, Nat.zero_le _⟩ (fun l i ⟨h1, h2⟩ => ?_) l
  have hb := dropS_bd who ((visits who ls l).2.getD i zL)
  have hi := h1 i
  refine ⟨fun j => ?_, ?_⟩
  · unfold visit
    dsimp only
    by_cases hil : i < (visits who ls l).2.length
    · rw [askT_at hil]
      split
      · omega
      · exact h1 j
    · rw [List.set_eq_of_length_le (by omega)]; exact h1 j
  · unfold visit
    dsimp only
    rw [List.length_append, List.length_append, List.length_singleton]
    omega
theorem visit_same {who : Int} {st : List Int × List LS} {i : Nat} (hi : i < st.2.length) (h : hasIn (st.2.getD i zL).1 (st.2.getD i zL).2 who = false) : visit who st i = st := by
  have e : dropS who (st.2.getD i zL) = ([], st.2.getD i zL) := by unfold dropS; rw [h]; rfl
  unfold visit
  rw [e]
  dsimp only
  rw [List.append_nil]
  congr 1
  refine List.ext_getElem (by simp) (fun j h1 h2 => ?_)
  rw [List.getElem_set]
  split
  · rename_i e2
    subst e2
    rw [List.getD_eq_getElem?_getD, List.getElem?_eq_getElem h2]; rfl
  · rfl
theorem visit_leave {who : Int} {st : List Int × List LS} {i : Nat} (h : hasIn (st.2.getD i zL).1 (st.2.getD i zL).2 who = true) :
    visit who st i = (st.1 ++ (leaveIn (st.2.getD i zL).1 (st.2.getD i zL).2 who).1, st.2.set i ((leaveIn (st.2.getD i zL).1 (st.2.getD i zL).2 who).2.1, (leaveIn (st.2.getD i zL).1 (st.2.getD i zL).2 who).2.2)) := by
  have e : dropS who (st.2.getD i zL) = leaveIn (st.2.getD i zL).1 (st.2.getD i zL).2 who := by unfold dropS; rw [h]; rfl
  unfold visit
  rw [e]
/-- The spots' row, and where the lanes lie. -/
theorem IsTab.blocks {w : World} {b N : Nat} {F : Nat → Prop} {ls : List LS} {most : Int} {f : At} (h : IsTab w b F ls most N f) (h0 : 0 < ls.length) : ∃ (g off sc : Nat) (bs : Nat → Nat), w.cell? ⟨b, 0, none⟩ = some (.slice (some ⟨g, off, none⟩) ls.length sc) ∧
    (∀ j, j < ls.length → w.cell? ⟨g, off + j, none⟩ = some (.pointer (some ⟨bs j, 0, none⟩))) ∧ F g ∧ g < w.heap.size ∧ ls.length ≤ sc ∧ g ≠ b := by
  obtain ⟨sA, sc, m, bs, G, h1, h2, h3, h4, h5⟩ := h
  obtain ⟨g, off, cur, rfl, hg, hsz, hcell⟩ := h5.row.at_ h0
  have hbl : bs.length = ls.length := by have := h5.row.1; simpa using this
  refine ⟨g, off, sc, fun j => bs.getD j 0, (blk_cell h1 0).trans rfl, fun j hj => (hcell j (pT (bs.getD j 0)) (getD_map pT bs j 0 (by omega))).1, h5.rowF g ⟨_, rfl, rfl⟩, (Array.getElem?_eq_some_iff.1 hg).1, h5.row.2.1, fun e => ?_⟩
  subst e
  rw [h1] at hg
  injection hg with hg
  injection hg with _ hg
  exact absurd hg (by decide)
end Go.Proofs.Ytagdgkimjgomlaa.Ln
