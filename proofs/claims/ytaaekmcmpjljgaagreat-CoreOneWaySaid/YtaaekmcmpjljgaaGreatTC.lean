import Derived.Test.YtaaekmcmpjljgaaGreatTb7
import Derived.Test.YtaaekmcmpjljgaaGreatBk
import Derived.Deep.RegionLaw
import Derived.Deep.RegionHeld3
import Derived.BigQuiet
import Derived.Test.YtaaekmcmpjljgaaGreatTb8
namespace Go.Proofs.YtaaekmcmpjljgaaGreat.Ln
open Go.RowKit Go.Proofs.YtaaekmcmpjljgaaGreatW.PrintWords Go.Proofs.YtaaekmcmpjljgaaGreatW.PrintLast Go.Proofs.YtaaekmcmpjljgaaGreatW.PrintMore Go.Proofs.YtaaekmcmpjljgaaGreat.PMd
open Go.Maps
open Go.Sort (grow)
set_option linter.unusedVariables false
set_option linter.unusedSimpArgs false
def okB (w : World) (m k : Nat) : Prop := k = m ∨ ∃ cs t, w.heap[k]? = some (.cells cs t (0, 0)) ∧ (t = 77 ∨ t = 81 ∨ t = 116 ∨ t = 113)
theorem okB.ne {w : World} {m k : Nat} (h : okB w m k) {cs : Array Value} {t : TypeId} {z : Nat × Nat} (hm : ∀ cs t z, w.heap[m]? ≠ some (.cells cs t z)) (ht : t ≠ 77 ∧ t ≠ 81 ∧ t ≠ 116 ∧ t ≠ 113) : w.heap[k]? ≠ some (.cells cs t z) := by
  intro hk
  rcases h with rfl | ⟨cs', t', h1, h2⟩
  · exact hm _ _ _ hk
  · rw [h1] at hk
    injection hk with hk
    injection hk with _ hk
    subst hk
    rcases h2 with h | h | h | h
    · exact ht.1 h
    · exact ht.2.1 h
    · exact ht.2.2.1 h
    · exact ht.2.2.2 h
theorem IsLane.typed {w : World} {b : Nat} {F : Nat → Prop} {hs qs : List E} (h : IsLane w b F hs qs) : ∃ F0 : Nat → Prop, IsLane w b F0 hs qs ∧ (∀ k, F0 k → F k ∧ k < w.heap.size ∧ ∀ m, okB w m k) := by
  obtain ⟨hA, hc, qA, qc, h1, h2, h3, h4, h5, h6, h7⟩ := h
  refine ⟨fun k => k = b ∨ blk hA k ∨ blk qA k, ⟨hA, hc, qA, qc, h1, .inl rfl, h3, fun k hk => .inr (.inl hk), h5, fun k hk => .inr (.inr hk), h7⟩, fun k hk => ?_⟩
  rcases hk with rfl | hk | hk
  · exact ⟨h2, (Array.getElem?_eq_some_iff.1 h1).1, fun _ => .inr ⟨_, _, h1, .inr (.inr (.inl rfl))⟩⟩
  · obtain ⟨cur, hc⟩ := h3.typed hk
    exact ⟨h4 k hk, h3.lt hk, fun _ => .inr ⟨_, _, hc, .inr (.inr (.inr rfl))⟩⟩
  · obtain ⟨cur, hc⟩ := h5.typed hk
    exact ⟨h6 k hk, h5.lt hk, fun _ => .inr ⟨_, _, hc, .inr (.inr (.inr rfl))⟩⟩
theorem IsTab.typed {w : World} {b N : Nat} {F : Nat → Prop} {ls : List LS} {most : Int} {f : At} (h : IsTab w b F ls most N f) : ∃ (m : Nat) (F0 : Nat → Prop), w.cell? ⟨b, 2, none⟩ = some (.map (some m)) ∧ (∀ cs t z, w.heap[m]? ≠ some (.cells cs t z)) ∧ IsTab w b F0 ls most N f ∧
    (∀ k, F0 k → F k ∧ k < w.heap.size ∧ okB w m k) := by
  obtain ⟨sA, sc, m, bs, G, h1, h2, h3, h4, h5⟩ := h
  have hx : ∀ i, ∃ G0 : Nat → Prop, i < ls.length → IsLane w (bs.getD i 0) G0 (ls.getD i zL).1 (ls.getD i zL).2 ∧ (∀ k, G0 k → G i k ∧ k < w.heap.size ∧ ∀ m, okB w m k) := fun i => by
    by_cases hi : i < ls.length
    · obtain ⟨G0, a1, a2⟩ := (h5.lane i hi).typed
      exact ⟨G0, fun _ => ⟨a1, a2⟩⟩
    · exact ⟨fun _ => False, fun h => absurd h hi⟩
  refine ⟨m, fun k => k = b ∨ k = m ∨ blk sA k ∨ ∃ i, i < ls.length ∧ (Classical.choose (hx i)) k, (blk_cell h1 2).trans rfl, fun cs t z hc => h4.cells hc,
    ⟨sA, sc, m, bs, fun i k => i < ls.length ∧ (Classical.choose (hx i)) k, h1, .inl rfl, .inr (.inl rfl), h4, ⟨h5.row, fun k hk => .inr (.inr (.inl hk)), ?_, h5.asc, fun i k hk => .inr (.inr (.inr ⟨i, hk⟩)), ?_, ?_⟩⟩, ?_⟩
  · intro i hi
    exact ((Classical.choose_spec (hx i)) hi).1.mono (fun k _ hk => ⟨hi, hk⟩)
  · rintro i k ⟨hi, hk⟩
    exact h5.off i k (((Classical.choose_spec (hx i)) hi).2 k hk).1
  · rintro i j k ⟨hi, hk⟩ ⟨hj, hk'⟩
    exact h5.apart i j k (((Classical.choose_spec (hx i)) hi).2 k hk).1 (((Classical.choose_spec (hx j)) hj).2 k hk').1
  · rintro k (rfl | rfl | hk | ⟨i, hi, hk⟩)
    · exact ⟨h2, (Array.getElem?_eq_some_iff.1 h1).1, .inr ⟨_, _, h1, .inl rfl⟩⟩
    · exact ⟨h3, h4.lt, .inl rfl⟩
    · obtain ⟨cur, hc⟩ := h5.row.typed hk
      exact ⟨h5.rowF k hk, h5.row.lt hk, .inr ⟨_, _, hc, .inr (.inl rfl)⟩⟩
    · obtain ⟨a1, a2, a3⟩ := ((Classical.choose_spec (hx i)) hi).2 k hk
      exact ⟨h5.own i k a1, a2, a3 m⟩
theorem IsTab.at2 {w : World} {b N : Nat} {F : Nat → Prop} {ls : List LS} {most : Int} {f : At} (h : IsTab w b F ls most N f) (i : Nat) (hi : i < ls.length) : ∃ g off sc m bi Gi, w.cell? ⟨b, 0, none⟩ = some (.slice (some ⟨g, off, none⟩) ls.length sc) ∧
    w.cell? ⟨b, 2, none⟩ = some (.map (some m)) ∧ w.cell? ⟨g, off + i, none⟩ = some (.pointer (some ⟨bi, 0, none⟩)) ∧ IsLane w bi Gi (ls.getD i zL).1 (ls.getD i zL).2 ∧ Asc (ls.getD i zL).1 ∧ (∀ k, Gi k → F k ∧ k ≠ b ∧ k ≠ m ∧ k ≠ g ∧ k < w.heap.size) ∧ F b ∧ F g ∧ b < w.heap.size ∧ g < w.heap.size ∧
    (∀ w1 hs1 qs1 G1, IsLane w1 bi G1 hs1 qs1 → (∀ k, G1 k → Gi k ∨ w.heap.size ≤ k) → Asc hs1 → Grew Gi w w1 → IsTab w1 b (fun k => (F k ∧ k < w.heap.size ∧ ¬ Gi k) ∨ G1 k) (ls.set i (hs1, qs1)) most N f) := by
  obtain ⟨sA, sc, m, bs, G, h1, h2, h3, h4, h5⟩ := h
  obtain ⟨g, off, cur, rfl, hg, hsz, hcell⟩ := h5.row.at_ (by omega)
  have hbl : bs.length = ls.length := by have := h5.row.1; simpa using this
  have hc := (hcell i (pT (bs.getD i 0)) (getD_map pT bs i 0 (by omega))).1
  obtain ⟨G0, hI0, hG0⟩ := (h5.lane i hi).exact_
  have hbw := (Array.getElem?_eq_some_iff.1 h1).1
  have hgw := (Array.getElem?_eq_some_iff.1 hg).1
  refine ⟨g, off, sc, m, bs.getD i 0, G0, (blk_cell h1 0).trans rfl, (blk_cell h1 2).trans rfl, hc, hI0, h5.asc i hi, fun k hk => ?_, h2, h5.rowF g ⟨_, rfl, rfl⟩, hbw, hgw, fun w1 hs1 qs1 G1 hI hG1 ha hg1 => ?_⟩
  · obtain ⟨o1, o2, o3⟩ := h5.off i k (hG0 k hk).1
    exact ⟨h5.own i k (hG0 k hk).1, o1, o2, fun e => o3 ⟨_, rfl, e.symm⟩, (hG0 k hk).2⟩
  have hg2 : Grew (G i) w w1 := hg1.mono (fun k _ hk => (hG0 k hk).1)
  have hrow : Row w1 81 1 (some ⟨g, off, none⟩) ls.length sc (bs.map pT) := h5.row.grew hg2 (fun k hk hk2 => (h5.off i k hk2).2.2 hk)
  have hnb : ¬ G0 b := fun hk => (h5.off i b (hG0 b hk).1).1 rfl
  have hnm : ¬ G0 m := fun hk => (h5.off i m (hG0 m hk).1).2.1 rfl
  refine ⟨some ⟨g, off, none⟩, sc, m, bs, fun j k => if j = i then G1 k else G j k ∧ k < w.heap.size, ?_, .inl ⟨h2, hbw, hnb⟩, .inl ⟨h3, h4.lt, hnm⟩, h4.move (hg1.block m h4.lt hnm), ⟨?_, ?_, ?_, ?_, ?_, ?_, ?_⟩⟩
  · rw [List.length_set]
    exact (hg1.block b hbw hnb).trans h1
  · rw [List.length_set]; exact hrow
  · exact fun k hk => .inl ⟨h5.rowF k hk, h5.row.lt hk, fun h => (h5.off i k (hG0 k h).1).2.2 hk⟩
  · intro j hj
    rw [List.length_set] at hj
    rw [getD_set_ls ls i j _ hj]
    by_cases e : j = i
    · subst e
      rw [if_pos rfl]
      exact hI.mono (fun k _ hk => by rw [if_pos rfl]; exact hk)
    · rw [if_neg e]
      have hl := (h5.lane j hj).mono (F' := fun k => G j k ∧ k < w.heap.size) (fun k hk hg => ⟨hg, hk⟩)
      refine (hl.grew hg2 (fun k hk hk2 => e (h5.apart j i k hk.1 hk2))).mono (fun k _ hk => ?_)
      rw [if_neg e]
      exact hk
  · intro j hj
    rw [List.length_set] at hj
    rw [getD_set_ls ls i j _ hj]
    by_cases e : j = i
    · rw [if_pos e]; exact ha
    · rw [if_neg e]; exact h5.asc j hj
  · intro j k hk
    by_cases e : j = i
    · rw [if_pos e] at hk
      exact .inr hk
    · rw [if_neg e] at hk
      exact .inl ⟨h5.own j k hk.1, hk.2, fun h => e (h5.apart j i k hk.1 (hG0 k h).1)⟩
  · have hnew : ∀ k, w.heap.size ≤ k → k ≠ b ∧ k ≠ m ∧ ¬ blk (some ⟨g, off, none⟩) k := fun k hk => by
      have hm := h4.lt
      exact ⟨by omega, by omega, fun hk2 => by have := h5.row.lt hk2; omega⟩
    intro j k hk
    by_cases e : j = i
    · rw [if_pos e] at hk
      exact (hG1 k hk).elim (fun h => h5.off i k (hG0 k h).1) (hnew k)
    · rw [if_neg e] at hk
      exact h5.off j k hk.1
  · intro j j' k hk hk'
    by_cases e : j = i
    · by_cases e' : j' = i
      · omega
      · rw [if_pos e] at hk
        rw [if_neg e'] at hk'
        rcases hG1 k hk with hk | hk
        · exact absurd (h5.apart i j' k (hG0 k hk).1 hk'.1) (fun h => e' h.symm)
        · have := hk'.2; omega
    · rw [if_neg e] at hk
      by_cases e' : j' = i
      · rw [if_pos e'] at hk'
        rcases hG1 k hk' with hk' | hk'
        · exact absurd (h5.apart j i k hk.1 (hG0 k hk').1) e
        · have := hk.2; omega
      · rw [if_neg e'] at hk'
        exact h5.apart j j' k hk.1 hk'.1
def dropS (who : Int) (s : LS) : List Int × LS := if hasIn s.1 s.2 who then leaveIn s.1 s.2 who else ([], s)
def dropO (ls : List LS) (who : Int) (i : Nat) : List Int := (ls.drop i).reverse.flatMap (fun s => (dropS who s).1)
def dropL (ls : List LS) (who : Int) (i : Nat) : List LS := ls.take i ++ (ls.drop i).map (fun s => (dropS who s).2)
def delsT (f : At) (out : List Int) : At := out.foldl At.del f
theorem dropL_len (ls : List LS) (who : Int) (i : Nat) : (dropL ls who i).length = ls.length := by
  unfold dropL
  rw [List.length_append, List.length_map, List.length_take, List.length_drop]; omega
theorem dropO_top (ls : List LS) (who : Int) : dropO ls who ls.length = [] := by unfold dropO; simp
theorem dropL_top (ls : List LS) (who : Int) : dropL ls who ls.length = ls := by unfold dropL; simp
theorem drop_at {ls : List LS} {i : Nat} (h : i < ls.length) : ls.drop i = ls.getD i zL :: ls.drop (i + 1) := by
  rw [List.drop_eq_getElem_cons h, List.getD_eq_getElem?_getD, List.getElem?_eq_getElem h]; rfl
theorem dropO_step {ls : List LS} {who : Int} {i : Nat} (h : i < ls.length) : dropO ls who i = dropO ls who (i + 1) ++ (dropS who (ls.getD i zL)).1 := by
  unfold dropO
  rw [drop_at h, List.reverse_cons, List.flatMap_append]
  simp
theorem dropL_at {ls : List LS} {who : Int} {i j : Nat} (h : j < ls.length) : (dropL ls who i).getD j zL = if j < i then ls.getD j zL else (dropS who (ls.getD j zL)).2 := by
  unfold dropL
  rw [List.getD_eq_getElem?_getD, List.getElem?_append]
  by_cases e : j < i
  · rw [if_pos (by rw [List.length_take]; omega), if_pos e, List.getElem?_take, if_pos e, ← List.getD_eq_getElem?_getD]
  · rw [if_neg (by rw [List.length_take]; omega), if_neg e, List.length_take, show min i ls.length = i by omega, List.getElem?_map, List.getElem?_drop, show i + (j - i) = j by omega, getD_get_ls h]
    rfl
theorem dropL_step {ls : List LS} {who : Int} {i : Nat} (h : i < ls.length) : dropL ls who i = (dropL ls who (i + 1)).set i (dropS who (ls.getD i zL)).2 := by
  unfold dropL
  rw [drop_at h, List.map_cons, List.take_add_one, getD_get_ls h]
  simp only [Option.toList_some]
  rw [List.append_assoc, List.set_append_right _ _ (by rw [List.length_take]; omega), List.length_take, show min i ls.length = i by omega, Nat.sub_self]
  rfl
def mS (s : LS) : Nat := s.1.length + 2 * s.2.length
theorem serve_bd (hs qs : List E) : (serveQ hs qs).2.1.length + 2 * (serveQ hs qs).2.2.length + (serveQ hs qs).1.length ≤ hs.length + 2 * qs.length := by
  induction qs generalizing hs with
  | nil => simp [serveQ]
  | cons x qs ih =>
    unfold serveQ
    split
    · have h1 := ih (grantsIn hs x.f0 x.f1)
      have h2 := grants_len hs x.f0 x.f1
      simp only [List.length_cons]
      omega
    · simp
theorem dropS_bd (who : Int) (s : LS) : mS (dropS who s).2 + (dropS who s).1.length ≤ mS s := by
  unfold dropS mS
  split
  · have h1 := serve_bd (fl s.1 who) (fl s.2 who)
    have h2 := fl_len s.1 who
    have h3 := fl_len s.2 who
    unfold leaveIn
    omega
  · simp
def visit (who : Int) (st : List Int × List LS) (i : Nat) : List Int × List LS := (st.1 ++ (dropS who (st.2.getD i zL)).1, st.2.set i (dropS who (st.2.getD i zL)).2)
def visits (who : Int) (ls : List LS) (l : List Nat) : List Int × List LS := l.foldl (visit who) ([], ls)
theorem visits_snoc (who : Int) (ls : List LS) (l : List Nat) (i : Nat) : visits who ls (l ++ [i]) = visit who (visits who ls l) i := by unfold visits; rw [List.foldl_append]; rfl
theorem visit_len (who : Int) (st : List Int × List LS) (i : Nat) : (visit who st i).2.length = st.2.length := by unfold visit; rw [List.length_set]
theorem visits_rec {P : List Nat → List Int × List LS → Prop} (who : Int) (ls : List LS) (h0 : P [] ([], ls)) (h1 : ∀ l i, P l (visits who ls l) → P (l ++ [i]) (visit who (visits who ls l) i)) (l : List Nat) : P l (visits who ls l) := by
  have key : ∀ n (l : List Nat), l.length = n → P l (visits who ls l) := by
    intro n
    induction n with
    | zero => intro l hl; obtain rfl := List.eq_nil_of_length_eq_zero hl; exact h0
    | succ n ih =>
      intro l hl
      have hne : l ≠ [] := fun e => by subst e; cases hl
      have e := List.dropLast_concat_getLast hne
      rw [← e, visits_snoc]
      exact h1 _ _ (ih _ (by rw [List.length_dropLast]; omega))
  exact key _ l rfl
theorem visits_len (who : Int) (ls : List LS) (l : List Nat) : (visits who ls l).2.length = ls.length :=
  visits_rec (P := fun _ st => st.2.length = ls.length) who ls rfl (fun l i h => by rw [visit_len]; exact h) l
theorem visits_bd {who : Int} {ls : List LS} (h : ∀ i, mS (ls.getD i zL) ≤ 900000) (l : List Nat) : (∀ i, mS ((visits who ls l).2.getD i zL) ≤ 900000) ∧ (visits who ls l).1.length ≤ 900000 * l.length := by
  refine visits_rec (P := fun l st => (∀ i, mS (st.2.getD i zL) ≤ 900000) ∧ st.1.length ≤ 900000 * l.length) who ls ⟨h, Nat.zero_le _⟩ (fun l i ⟨h1, h2⟩ => ?_) l
  have hb := dropS_bd who ((visits who ls l).2.getD i zL)
  have hi := h1 i
  refine ⟨fun j => ?_, ?_⟩
  · unfold visit
    dsimp only
    by_cases hil : i < (visits who ls l).2.length
    · rw [askT_at hil]
      split
      · omega
      · exact h1 j
    · rw [List.set_eq_of_length_le (by omega)]; exact h1 j
  · unfold visit
    dsimp only
    rw [List.length_append, List.length_append, List.length_singleton]
    omega
theorem visit_same {who : Int} {st : List Int × List LS} {i : Nat} (hi : i < st.2.length) (h : hasIn (st.2.getD i zL).1 (st.2.getD i zL).2 who = false) : visit who st i = st := by
  have e : dropS who (st.2.getD i zL) = ([], st.2.getD i zL) := by unfold dropS; rw [h]; rfl
  unfold visit
  rw [e]
  dsimp only
  rw [List.append_nil]
  congr 1
  refine List.ext_getElem (by simp) (fun j h1 h2 => ?_)
  rw [List.getElem_set]
  split
  · rename_i e2
    subst e2
    rw [List.getD_eq_getElem?_getD, List.getElem?_eq_getElem h2]; rfl
  · rfl
theorem visit_leave {who : Int} {st : List Int × List LS} {i : Nat} (h : hasIn (st.2.getD i zL).1 (st.2.getD i zL).2 who = true) :
    visit who st i = (st.1 ++ (leaveIn (st.2.getD i zL).1 (st.2.getD i zL).2 who).1, st.2.set i ((leaveIn (st.2.getD i zL).1 (st.2.getD i zL).2 who).2.1, (leaveIn (st.2.getD i zL).1 (st.2.getD i zL).2 who).2.2)) := by
  have e : dropS who (st.2.getD i zL) = leaveIn (st.2.getD i zL).1 (st.2.getD i zL).2 who := by unfold dropS; rw [h]; rfl
  unfold visit
  rw [e]
theorem IsTab.blocks {w : World} {b N : Nat} {F : Nat → Prop} {ls : List LS} {most : Int} {f : At} (h : IsTab w b F ls most N f) (h0 : 0 < ls.length) : ∃ (g off sc : Nat) (bs : Nat → Nat), w.cell? ⟨b, 0, none⟩ = some (.slice (some ⟨g, off, none⟩) ls.length sc) ∧
    (∀ j, j < ls.length → w.cell? ⟨g, off + j, none⟩ = some (.pointer (some ⟨bs j, 0, none⟩))) ∧ F g ∧ g < w.heap.size ∧ ls.length ≤ sc ∧ g ≠ b := by
  obtain ⟨sA, sc, m, bs, G, h1, h2, h3, h4, h5⟩ := h
  obtain ⟨g, off, cur, rfl, hg, hsz, hcell⟩ := h5.row.at_ h0
  have hbl : bs.length = ls.length := by have := h5.row.1; simpa using this
  refine ⟨g, off, sc, fun j => bs.getD j 0, (blk_cell h1 0).trans rfl, fun j hj => (hcell j (pT (bs.getD j 0)) (getD_map pT bs j 0 (by omega))).1, h5.rowF g ⟨_, rfl, rfl⟩, (Array.getElem?_eq_some_iff.1 hg).1, h5.row.2.1, fun e => ?_⟩
  subst e
  rw [h1] at hg
  injection hg with hg
  injection hg with _ hg
  exact absurd hg (by decide)
end Go.Proofs.YtaaekmcmpjljgaaGreat.Ln
namespace Go.Proofs.YtaaekmcmpjljgaaGreat.Ln
open Go.RowKit Go.Proofs.YtaaekmcmpjljgaaGreatW.PrintWords Go.Proofs.YtaaekmcmpjljgaaGreatW.PrintLast Go.Proofs.YtaaekmcmpjljgaaGreatW.PrintMore Go.Proofs.YtaaekmcmpjljgaaGreat.PMd
open Go.Maps
open Go.Sort (grow)
attribute [local go_sem] Oper.semAt_some
set_option linter.unusedVariables false
set_option linter.unusedSimpArgs false
theorem visits_down {who : Int} {ls : List LS} {k : Nat} (hk : k ≤ ls.length) : visits who ls (downN ls.length k) = (dropO ls who (ls.length - k), dropL ls who (ls.length - k)) := by
  induction k with
  | zero => rw [Nat.sub_zero, dropO_top, dropL_top]; rfl
  | succ k ih =>
    rw [downN_succ, visits_snoc, ih (by omega)]
    have hi : ls.length - (k + 1) < ls.length := by omega
    have e : ls.length - 1 - k = ls.length - (k + 1) := by omega
    rw [e, show ls.length - k = ls.length - (k + 1) + 1 by omega]
    unfold visit
    dsimp only
    rw [dropL_at hi, if_pos (by omega), ← dropO_step hi, ← dropL_step hi]
def DropS (w : World) (b m g : Nat) (F : Nat → Prop) (most : Int) (N : Nat) (f : At) (who : Int) (st : List Int × List LS) (W : World) : Prop :=
  ∃ (FT : Nat → Prop) (A' : Option Addr) (c' : Nat), IsTab W b FT st.2 most N f ∧ (∀ k, FT k → (F k ∨ w.heap.size ≤ k) ∧ okB W m k ∧ k < W.heap.size) ∧ (∀ cs t z, W.heap[m]? ≠ some (.cells cs t z)) ∧
    W.heap[w.heap.size]? = some (.cells #[.int .i64 who] 3 (0, 0)) ∧ W.heap[w.heap.size + 1]? = some (.cells #[.slice A' st.1.length c'] 29 (0, 0)) ∧ W.heap[b]? = w.heap[b]? ∧ W.heap[g]? = w.heap[g]? ∧
    Row W 3 1 A' st.1.length c' (ints st.1) ∧ (∀ k, blk A' k → w.heap.size + 3 ≤ k) ∧ Grew F w W ∧ w.heap.size + 3 ≤ W.heap.size ∧ m < w.heap.size ∧ b < w.heap.size ∧ g < w.heap.size ∧
    (∃ cs, W.heap[w.heap.size + 2]? = some (.cells cs 74 (0, 0)))
def DropI (w : World) (b m g : Nat) (F : Nat → Prop) (ls : List LS) (most : Int) (N : Nat) (f : At) (who : Int) (pre : List (Fin ls.length)) (W : World) : Prop :=
  DropS w b m g F most N f who (visits who ls (pre.map (·.1))) W
theorem okB.kept {W W' : World} {m k : Nat} (h : okB W m k) (hk : W'.heap[k]? = W.heap[k]?) : okB W' m k := by
  rcases h with h | ⟨cs, t, h1, h2⟩
  · exact .inl h
  · exact .inr ⟨cs, t, hk.trans h1, h2⟩
theorem dropS_keep {w : World} {b m g : Nat} {F : Nat → Prop} {most : Int} {N : Nat} {f : At} {who : Int} {st : List Int × List LS} {W W' : World} (h : DropS w b m g F most N f who st W) (hos : W'.os = W.os) (htp : W'.tape = W.tape) (hou : W'.output = W.output) (hsz : W.heap.size ≤ W'.heap.size)
    (key : ∀ k, k < W.heap.size → (k < w.heap.size + 3 ∨ ∃ cs t z, W.heap[k]? = some (.cells cs t z)) → W'.heap[k]? = W.heap[k]?) : DropS w b m g F most N f who st W' := by
  obtain ⟨FT, A', c', h1, h2, h3, h4, h5, h6, h7, h8, h9, h10, h11, h12, h13, h14, h15⟩ := h
  have kT : ∀ k, FT k → W'.heap[k]? = W.heap[k]? := fun k hk => by
    obtain ⟨_, hb, hl⟩ := h2 k hk
    refine key k hl ?_
    rcases hb with rfl | ⟨cs, t, e, _⟩
    · exact .inl (by omega)
    · exact .inr ⟨_, _, _, e⟩
  have hm' : W'.heap[m]? = W.heap[m]? := key m (by omega) (.inl (by omega))
  refine ⟨FT, A', c', h1.move (fun k hk _ => kT k hk), fun k hk => ⟨(h2 k hk).1, (h2 k hk).2.1.kept (kT k hk), Nat.lt_of_lt_of_le (h2 k hk).2.2 hsz⟩, fun cs t z e => h3 cs t z (hm'.symm.trans e), (key _ (by omega) (.inl (by omega))).trans h4, (key _ (by omega) (.inl (by omega))).trans h5,
    (key b (by omega) (.inl (by omega))).trans h6, (key g (by omega) (.inl (by omega))).trans h7, h8.move (fun k hk hl => ?_), h9, ⟨hos.trans h10.os, htp.trans h10.tape, hou.trans h10.output, Nat.le_trans h10.size hsz, fun k hk hn => ?_⟩, Nat.le_trans h11 hsz, h12, h13, h14, ?_⟩
  · obtain ⟨cur, hc⟩ := h8.typed hk
    exact key k hl (.inr ⟨_, _, _, hc⟩)
  · exact (key k (by omega) (.inl (by omega))).trans (h10.block k hk hn)
  · obtain ⟨cs, hc⟩ := h15
    exact ⟨cs, (key _ (by omega) (.inl (by omega))).trans hc⟩
theorem dropI_own {w : World} {b m g : Nat} {F : Nat → Prop} {ls : List LS} {most : Int} {N : Nat} {f : At} {who : Int} : OwnFrom (w.heap.size + 3) (DropI w b m g F ls most N f who) := fun pre W W' row h hg hr =>
  dropS_keep h hg.os hg.tape hg.output hg.size (fun k hk h => hg.block k hk (fun e => by
    obtain ⟨hB, o, ho, hc⟩ := hr k e.symm
    rcases h with h | ⟨cs, t, z, h⟩
    · omega
    · rw [h] at ho; injection ho with ho; subst ho; cases hc))
theorem dropS_below {w : World} {b m g : Nat} {F : Nat → Prop} {most : Int} {N : Nat} {f : At} {who : Int} {st : List Int × List LS} {W W' : World} (h : DropS w b m g F most N f who st W) (hb : Below W.heap.size W W') : DropS w b m g F most N f who st W' :=
  dropS_keep h hb.os hb.tape hb.output hb.size (fun k hk _ => hb.block k hk)
theorem dropS_at {w : World} {b m g off sc : Nat} {bs : Nat → Nat} {F : Nat → Prop} {most : Int} {N n : Nat} {f : At} {who : Int} {st : List Int × List LS} {W : World} (h : DropS w b m g F most N f who st W) (c0 : w.cell? ⟨b, 0, none⟩ = some (.slice (some ⟨g, off, none⟩) n sc))
    (cm : w.cell? ⟨b, 2, none⟩ = some (.map (some m))) (hbs : ∀ j, j < n → w.cell? ⟨g, off + j, none⟩ = some (.pointer (some ⟨bs j, 0, none⟩))) (x : Nat) (hx : x < n) (hn : st.2.length = n) :
    ∃ Gi A' c', W.cell? ⟨w.heap.size, 0, none⟩ = some (.int .i64 who) ∧ W.cell? ⟨w.heap.size + 1, 0, none⟩ = some (.slice A' st.1.length c') ∧ W.frozen? ⟨w.heap.size + 1, 0, none⟩ = false ∧ Row W 3 1 A' st.1.length c' (ints st.1) ∧ w.heap.size + 3 ≤ W.heap.size ∧
      IsLane W (bs x) Gi (st.2.getD x zL).1 (st.2.getD x zL).2 ∧ Asc (st.2.getD x zL).1 ∧ (∀ k, Gi k → k < W.heap.size ∧ k ≠ w.heap.size + 1 ∧ ¬ blk A' k) ∧ (∀ k, blk A' k → w.heap.size + 3 ≤ k) ∧ g < w.heap.size ∧ b < w.heap.size ∧ m < w.heap.size ∧
      (∀ W1 W2 hs1 qs1 Al cl (out : List Int) A2 c2, IsLane W1 (bs x) (fun k => (Gi k ∨ W.heap.size ≤ k) ∧ ¬ blk Al k) hs1 qs1 → Asc hs1 → Grew Gi W W1 → Row W1 3 1 Al out.length cl (ints out) → (∀ k, blk Al k → W.heap.size ≤ k) →
        Row W2 3 1 A2 (st.1.length + out.length) c2 (ints st.1 ++ ints out) → Grew (blk A') W1 W2 → (∀ k, blk A2 k → blk A' k ∨ W1.heap.size ≤ k) →
        DropS w b m g F most N f who (st.1 ++ out, st.2.set x (hs1, qs1)) (W2.setCell ⟨w.heap.size + 1, 0, none⟩ (.slice A2 (st.1.length + out.length) c2)) ∧
        KeepsFrom (w.heap.size + 3) W (W2.setCell ⟨w.heap.size + 1, 0, none⟩ (.slice A2 (st.1.length + out.length) c2)) ∧ Keep2 g (w.heap.size + 2) W (W2.setCell ⟨w.heap.size + 1, 0, none⟩ (.slice A2 (st.1.length + out.length) c2))) := by
  obtain ⟨FT, A', c', i1, i2, i3, i4, i5, i6, i7, i8, i9, i10, i11, hm, hb, hg, cs2, i15⟩ := h
  obtain ⟨g', off', sc', m', bi, Gi0, d0, d2, ds, dI0, dA, dG0, dFb, dFg, dbw, dgw, close0⟩ := i1.at2 x (by omega)
  have e0 : W.cell? ⟨b, 0, none⟩ = some (.slice (some ⟨g, off, none⟩) n sc) := (World.cell?_of_block (a := ⟨b, 0, none⟩) i6).trans c0
  rw [d0] at e0
  injection e0 with e0
  injection e0 with ea _ _
  injection ea with ea
  injection ea with eg eo _
  have e2 : W.cell? ⟨b, 2, none⟩ = some (.map (some m)) := (World.cell?_of_block (a := ⟨b, 2, none⟩) i6).trans cm
  rw [d2] at e2
  injection e2 with e2
  injection e2 with e2
  injection e2 with e2
  have e3 : W.cell? ⟨g, off + x, none⟩ = some (.pointer (some ⟨bs x, 0, none⟩)) := (World.cell?_of_block (a := ⟨g, off + x, none⟩) i7).trans (hbs x hx)
  rw [eg, eo, e3] at ds
  injection ds with ds
  injection ds with ds
  injection ds with ds
  injection ds with eb _ _
  subst eb
  subst e2
  subst eg
  obtain ⟨Gi, dI, hGt⟩ := dI0.typed
  have dG : ∀ k, Gi k → FT k ∧ k ≠ b ∧ k ≠ m' ∧ k ≠ g' ∧ k < W.heap.size := fun k hk => dG0 k (hGt k hk).1
  have hAcell : ∀ k, blk A' k → ∃ cur, W.heap[k]? = some (.cells cur 3 (0, 0)) := fun k hk => i8.typed hk
  have hGcell : ∀ k, Gi k → ∀ cs t z, W.heap[k]? = some (.cells cs t z) → (t = 3 ∨ t = 29) → False := fun k hk cs t z hc ht => by
    rcases (hGt k hk).2.2 W.heap.size with h | ⟨cs', t', h1, h2⟩
    · have := (hGt k hk).2.1; omega
    · rw [h1] at hc
      injection hc with hc
      injection hc with _ hc
      subst hc
      rcases h2 with h | h | h | h <;> rw [h] at ht <;> revert ht <;> decide
  have hGex : ∀ k, Gi k → ∃ cs t z, W.heap[k]? = some (.cells cs t z) := fun k hk => by
    rcases (hGt k hk).2.2 W.heap.size with h | ⟨cs', t', h1, h2⟩
    · have := (hGt k hk).2.1; omega
    · exact ⟨_, _, _, h1⟩
  have hGA : ∀ k, Gi k → ¬ blk A' k := fun k hk h => by
    obtain ⟨cur, hc⟩ := hAcell k h
    exact hGcell k hk _ _ _ hc (.inl rfl)
  refine ⟨Gi, A', c', (blk_cell i4 0).trans rfl, (blk_cell i5 0).trans rfl, blk_frozen i5 0, i8, i11, dI, dA, fun k hk => ⟨(hGt k hk).2.1, fun e => by subst e; exact hGcell _ hk _ _ _ i5 (.inr rfl), hGA k hk⟩, i9, hg, hb, hm, ?_⟩
  intro W1 W2 hs1 qs1 Al cl out A2 c2 hI1 hA1 hg1 hRl hAl hR2 hg2 hA2
  have s12 := hg1.size
  have s23 := hg2.size
  have sz : (W2.setCell ⟨w.heap.size + 1, 0, none⟩ (.slice A2 (st.1.length + out.length) c2)).heap.size = W2.heap.size := by simp
  have keep : ∀ k, k < W.heap.size → ¬ Gi k → ¬ blk A' k → k ≠ w.heap.size + 1 → (W2.setCell ⟨w.heap.size + 1, 0, none⟩ (.slice A2 (st.1.length + out.length) c2)).heap[k]? = W.heap[k]? := fun k hk h1 h2 h3 => by
    rw [Below.heap_setCell _ _ _ _ (fun e => h3 e)]
    exact (hg2.block k (by omega) h2).trans (hg1.block k hk h1)
  have keepN : ∀ k, k < W.heap.size → (∀ cs t z, W.heap[k]? ≠ some (.cells cs t z)) → (W2.setCell ⟨w.heap.size + 1, 0, none⟩ (.slice A2 (st.1.length + out.length) c2)).heap[k]? = W.heap[k]? := fun k hk hn =>
    keep k hk (fun h => by obtain ⟨cs, t, z, hc⟩ := hGex k h; exact hn _ _ _ hc) (fun h => by obtain ⟨cur, hc⟩ := hAcell k h; exact hn _ _ _ hc) (fun e => by subst e; exact hn _ _ _ i5)
  have nA : ∀ k, k < w.heap.size + 3 → ¬ blk A' k := fun k hk h => by have := i9 k h; omega
  have nG : ∀ k cs t, W.heap[k]? = some (.cells cs t (0, 0)) → (t = 3 ∨ t = 29 ∨ t = 74) → ¬ Gi k := fun k cs t hc ht h => by
    rcases (hGt k h).2.2 W.heap.size with h' | ⟨cs', t', h1, h2⟩
    · have := (hGt k h).2.1; omega
    · rw [h1] at hc
      injection hc with hc
      injection hc with _ hc
      subst hc
      rcases h2 with h | h | h | h <;> rw [h] at ht <;> revert ht <;> decide
  have kb := keep b dbw (fun h => (dG b h).2.1 rfl) (nA b (by omega)) (by omega)
  have kg := keep g' dgw (fun h => (dG g' h).2.2.2.1 rfl) (nA g' (by omega)) (by omega)
  have km := keep m' (by omega) (fun h => (dG m' h).2.2.1 rfl) (nA m' (by omega)) (by omega)
  have k0 := keep w.heap.size (by omega) (nG _ _ _ i4 (.inl rfl)) (nA _ (by omega)) (by omega)
  have k2 := keep (w.heap.size + 2) (by omega) (nG _ _ _ i15 (.inr (.inr rfl))) (nA _ (by omega)) (by omega)
  have nG1 : ¬ Gi (w.heap.size + 1) := nG _ _ _ i5 (.inr (.inl rfl))
  obtain ⟨m2, F2, cm2, hm2, hT2, hF2⟩ := (close0 W1 hs1 qs1 _ hI1 (fun k hk => hk.1.imp (fun h => (hGt k h).1) id) hA1 (hg1.mono (fun k _ h => (hGt k h).1))).typed
  have hm2' : m2 = m' := by
    have h1 : W1.cell? ⟨b, 2, none⟩ = some (.map (some m')) := (World.cell?_of_block (a := ⟨b, 2, none⟩) (hg1.block b dbw (fun h => (dG b h).2.1 rfl))).trans d2
    rw [cm2] at h1
    injection h1 with h1
    injection h1 with h1
    injection h1
  subst hm2'
  have tT : ∀ k cs t, F2 k → W1.heap[k]? = some (.cells cs t (0, 0)) → t ≠ 3 ∧ t ≠ 29 := fun k cs t hk hc => by
    rcases (hF2 k hk).2.2 with h | ⟨cs', t', h1, h2⟩
    · rw [h] at hc; exact absurd hc (hm2 _ _ _)
    · rw [h1] at hc
      injection hc with hc
      injection hc with _ hc
      subst hc
      rcases h2 with h | h | h | h <;> rw [h] <;> decide
  have hA1t : ∀ k, blk A' k → ∃ cur, W1.heap[k]? = some (.cells cur 3 (0, 0)) := fun k hk => by
    obtain ⟨cur, hc⟩ := hAcell k hk
    exact ⟨cur, (hg1.block k (i8.lt hk) (fun h => hGA k h hk)).trans hc⟩
  have i5' : W1.heap[w.heap.size + 1]? = some (.cells #[.slice A' st.1.length c'] 29 (0, 0)) := (hg1.block _ (by omega) nG1).trans i5
  have i5'' : W2.heap[w.heap.size + 1]? = some (.cells #[.slice A' st.1.length c'] 29 (0, 0)) := (hg2.block _ (by omega) (nA _ (by omega))).trans i5'
  have kT : ∀ k, F2 k → (W2.setCell ⟨w.heap.size + 1, 0, none⟩ (.slice A2 (st.1.length + out.length) c2)).heap[k]? = W1.heap[k]? := fun k hk => by
    rw [Below.heap_setCell _ _ _ _ (fun e => by
      have e' : k = w.heap.size + 1 := e
      subst e'
      exact (tT _ _ _ hk i5').2 rfl)]
    exact hg2.block k (hF2 k hk).2.1 (fun h => by
      obtain ⟨cur, hc⟩ := hA1t k h
      exact (tT k _ _ hk hc).1 rfl)
  have nA2 : ¬ blk A2 (w.heap.size + 1) := fun h => (hA2 _ h).elim (nA _ (by omega)) (fun h => by omega)
  refine ⟨⟨F2, A2, c2, hT2.move (fun k hk _ => kT k hk), fun k hk => ⟨?_, (hF2 k hk).2.2.kept (kT k hk), by rw [sz]; have := (hF2 k hk).2.1; omega⟩, fun cs t z e => i3 cs t z (km.symm.trans e), k0.trans i4, ?_, kb.trans i6, kg.trans i7, ?_, ?_, ?_, by rw [sz]; omega, hm, hb, hg, ⟨cs2, k2.trans i15⟩⟩, ?_, ⟨kg, k2⟩⟩
  · rcases (hF2 k hk).1 with ⟨h1, _⟩ | h1
    · exact (i2 k h1).1
    · rcases h1.1 with h1 | h1
      · exact (i2 k (dG k h1).1).1
      · exact .inr (by omega)
  · rw [List.length_append]
    exact heap_setCell_same W2 (w.heap.size + 1) 0 _ _ (.slice A2 (st.1.length + out.length) c2) i5''
  · rw [List.length_append, show ints (st.1 ++ out) = ints st.1 ++ ints out from List.map_append]
    exact hR2.set (p := ⟨w.heap.size + 1, 0, none⟩) nA2 _
  · exact fun k hk => (hA2 k hk).elim (i9 k) (fun h => by omega)
  · refine ⟨(hg2.os.trans hg1.os).trans i10.os, (hg2.tape.trans hg1.tape).trans i10.tape, (hg2.output.trans hg1.output).trans i10.output, by rw [sz]; omega, fun k hk hn => ?_⟩
    refine (keep k (by omega) (fun h => ?_) (nA k (by omega)) (by omega)).trans (i10.block k hk hn)
    rcases (i2 k (dG k h).1).1 with h2 | h2
    · exact hn h2
    · omega
  · exact ⟨by rw [sz]; omega, fun k o hB hk ho => (keepN k (Array.getElem?_eq_some_iff.1 hk).1 (fun cs t z e => by rw [e] at hk; injection hk with hk; subst hk; cases ho)).trans hk⟩
end Go.Proofs.YtaaekmcmpjljgaaGreat.Ln
namespace Go.Proofs.YtaaekmcmpjljgaaGreat.Ln
open Go.RowKit Go.Proofs.YtaaekmcmpjljgaaGreatW.PrintWords Go.Proofs.YtaaekmcmpjljgaaGreatW.PrintLast Go.Proofs.YtaaekmcmpjljgaaGreatW.PrintMore Go.Proofs.YtaaekmcmpjljgaaGreat.PMd
open Go.Maps
set_option linter.unusedVariables false
set_option linter.unusedSimpArgs false
theorem told_pos {l : List E} {who : Int} (hm : ∀ x ∈ l, x.f1 ≠ 0) : toldIn l who = 0 ↔ ∀ x ∈ l, x.f0 ≠ who := by
  rcases told_cases l who with ⟨h1, h2⟩ | ⟨x, hx, h1, h2⟩
  · exact ⟨fun _ => h2, fun _ => h1⟩
  · exact ⟨fun h => absurd (h2.symm.trans h) (hm x hx), fun h => absurd h1 (h x hx)⟩
theorem fl_same {l : List E} {who : Int} (h : ∀ x ∈ l, x.f0 ≠ who) : fl l who = l := by
  unfold fl
  exact List.filter_eq_self.2 (fun x hx => by have := h x hx; simp [this])
theorem dropS_spec {s : LS} (h : Inv s.1 s.2) (who : Int) : ∃ n, n ≤ (fl s.2 who).length ∧ (dropS who s).1 = ((fl s.2 who).take n).map (·.f0) ∧ (dropS who s).2.2 = (fl s.2 who).drop n ∧ Inv (dropS who s).2.1 (dropS who s).2.2 ∧
    (∀ y, y ∈ (dropS who s).2.1 ↔ y ∈ (fl s.2 who).take n ∨ (y ∈ fl s.1 who ∧ ∀ x ∈ (fl s.2 who).take n, x.f0 ≠ y.f0)) ∧ toldIn (dropS who s).2.1 who = 0 ∧ toldIn (dropS who s).2.2 who = 0 := by
  unfold dropS
  cases hh : hasIn s.1 s.2 who with
  | true =>
    rw [if_pos rfl]
    obtain ⟨n, h1, h2, h3, h4, h5, _⟩ := leave_spec h who
    exact ⟨n, h1, h2, h3, h4, h5, (leave_gone h who).1, (leave_gone h who).2⟩
  | false =>
    rw [if_neg (by simp)]
    have h12 : toldIn s.1 who = 0 ∧ toldIn s.2 who = 0 := by
      unfold hasIn at hh
      rw [Bool.or_eq_false_iff] at hh
      exact ⟨bne_eq_false_iff_eq.1 hh.1, bne_eq_false_iff_eq.1 hh.2⟩
    have e1 := fl_same ((told_pos (fun x hx => (h.mh x hx).2)).1 h12.1)
    have e2 := fl_same ((told_pos (fun x hx => (h.mq x hx).2)).1 h12.2)
    refine ⟨0, Nat.zero_le _, rfl, by rw [e2]; rfl, h, fun y => ?_, h12⟩
    rw [e1]
    simp
structure TInv (ls : List LS) (f : At) : Prop where
  inv : LInv ls
  map : ∀ x n, f x = some n ↔ n < ls.length ∧ ∃ e ∈ (ls.getD n zL).2, e.f0 = x
theorem TInv.lt {ls : List LS} {f : At} (h : TInv ls f) : ∀ x n, f x = some n → n < ls.length := fun x n hn => ((h.map x n).1 hn).1
theorem getD_rep9 (n i : Nat) : (List.replicate n zL).getD i zL = zL := by
  rw [List.getD_eq_getElem?_getD, List.getElem?_replicate]
  split <;> rfl
theorem tinv_zero (n : Nat) : TInv (List.replicate n zL) f0 :=
  ⟨fun i _ => by rw [getD_rep9]; exact inv_nil, fun x k => ⟨fun h => (by cases h), fun ⟨_, e, he, _⟩ => (by rw [getD_rep9] at he; cases he)⟩⟩
theorem ask_queue {hs qs : List E} (who m : Int) {y : E} : y ∈ (askIn hs qs who m).2.2 ↔ y ∈ qs ∨ ((askIn hs qs who m).1 = 2 ∧ y = ⟨who, supM (toldIn hs who) m⟩) := by
  unfold askIn
  split
  · simp
  · split
    · simp
    · rw [insAt_mem]; simp; exact or_comm
theorem TInv.ask {ls : List LS} {f : At} (h : TInv ls f) (most who node m : Int) : TInv (askT ls most f who node m).2.2.1 (askT ls most f who node m).2.2.2 := by
  refine ⟨askT_inv h.inv most f who node m, fun x n => ?_⟩
  rcases askT_cases ls most f who node m with ⟨h1, _, _, h2⟩ | ⟨i, rfl, hi, _, _, _, hf, _, e⟩
  · rw [h1, h2]; exact h.map x n
  · rw [e]
    dsimp only
    rw [List.length_set]
    by_cases hr : (askIn (ls.getD i zL).1 (ls.getD i zL).2 who m).1 = 2
    · rw [if_pos hr]
      unfold At.put
      by_cases ex : x = who
      · subst ex
        rw [if_pos rfl]
        constructor
        · intro hn
          injection hn with hn
          subst hn
          refine ⟨hi, ⟨x, supM (toldIn (ls.getD i zL).1 x) m⟩, ?_, rfl⟩
          rw [askT_at hi, if_pos rfl]
          exact (ask_queue x m).2 (.inr ⟨hr, rfl⟩)
        · rintro ⟨hn, y, hy, ey⟩
          rw [askT_at hi] at hy
          by_cases en : n = i
          · rw [en]
          · rw [if_neg en] at hy
            have := (h.map x n).2 ⟨hn, y, hy, ey⟩
            rw [this] at hf; cases hf
      · rw [if_neg ex, h.map x n]
        refine and_congr_right fun hn => ?_
        rw [askT_at hi]
        by_cases en : n = i
        · subst en
          rw [if_pos rfl]
          constructor
          · rintro ⟨y, hy, ey⟩
            exact ⟨y, (ask_queue who m).2 (.inl hy), ey⟩
          · rintro ⟨y, hy, ey⟩
            rcases (ask_queue who m).1 hy with hy | ⟨_, rfl⟩
            · exact ⟨y, hy, ey⟩
            · exact absurd ey.symm ex
        · rw [if_neg en]
    · rw [if_neg hr, h.map x n]
      refine and_congr_right fun hn => ?_
      rw [askT_at hi]
      by_cases en : n = i
      · subst en
        rw [if_pos rfl]
        constructor
        · rintro ⟨y, hy, ey⟩
          exact ⟨y, (ask_queue who m).2 (.inl hy), ey⟩
        · rintro ⟨y, hy, ey⟩
          rcases (ask_queue who m).1 hy with hy | ⟨h2, _⟩
          · exact ⟨y, hy, ey⟩
          · exact absurd h2 hr
      · rw [if_neg en]
theorem delsT_at (f : At) (out : List Int) (x : Int) : delsT f out x = if x ∈ out then none else f x := by
  unfold delsT
  induction out generalizing f with
  | nil => simp
  | cons y out ih =>
    rw [List.foldl_cons, ih]
    unfold At.del
    by_cases e : x = y
    · subst e; simp
    · simp [e]
theorem dropO_mem {ls : List LS} {who x : Int} {i : Nat} : x ∈ dropO ls who i ↔ ∃ j, i ≤ j ∧ j < ls.length ∧ x ∈ (dropS who (ls.getD j zL)).1 := by
  unfold dropO
  rw [List.mem_flatMap]
  constructor
  · rintro ⟨s, hs, hx⟩
    rw [List.mem_reverse] at hs
    obtain ⟨k, hk⟩ := List.mem_iff_getElem?.1 hs
    rw [List.getElem?_drop] at hk
    have hl : i + k < ls.length := (List.getElem?_eq_some_iff.1 hk).1
    refine ⟨i + k, by omega, hl, ?_⟩
    rw [List.getD_eq_getElem?_getD, hk]; exact hx
  · rintro ⟨j, h1, h2, hx⟩
    refine ⟨ls.getD j zL, ?_, hx⟩
    rw [List.mem_reverse]
    refine List.mem_iff_getElem?.2 ⟨j - i, ?_⟩
    rw [List.getElem?_drop, show i + (j - i) = j by omega, getD_get_ls h2]
def dropF (ls : List LS) (f : At) (who : Int) : At := delsT (f.del who) (dropO ls who 0)
theorem dropF_at (ls : List LS) (f : At) (who x : Int) : dropF ls f who x = if x = who ∨ x ∈ dropO ls who 0 then none else f x := by
  unfold dropF
  rw [delsT_at]
  unfold At.del
  by_cases h1 : x ∈ dropO ls who 0
  · simp [h1]
  · by_cases h2 : x = who
    · simp [h1, h2]
    · simp [h1, h2]
theorem dropL0_at {ls : List LS} {who : Int} {j : Nat} (h : j < ls.length) : (dropL ls who 0).getD j zL = (dropS who (ls.getD j zL)).2 := by rw [dropL_at h, if_neg (by omega)]
theorem dis_drop {l : List E} (h : Dis l) {n : Nat} {x y : E} (hx : x ∈ l.take n) (hy : y ∈ l.drop n) : x.f0 ≠ y.f0 := by
  have h1 : Dis (l.take n ++ l.drop n) := by rw [List.take_append_drop]; exact h
  exact (List.pairwise_append.1 h1).2.2 x hx y hy
theorem TInv.drop {ls : List LS} {f : At} (h : TInv ls f) (who : Int) : TInv (dropL ls who 0) (dropF ls f who) := by
  have hinv : LInv (dropL ls who 0) := fun j hj => by
    rw [dropL_len] at hj
    rw [dropL0_at hj]
    obtain ⟨n, _, _, _, h4, _⟩ := dropS_spec (h.inv j hj) who
    exact h4
  refine ⟨hinv, fun x n => ?_⟩
  rw [dropF_at, dropL_len]
  constructor
  · intro hx
    by_cases hc : x = who ∨ x ∈ dropO ls who 0
    · rw [if_pos hc] at hx; cases hx
    · rw [if_neg hc] at hx
      obtain ⟨hn, y, hy, ey⟩ := (h.map x n).1 hx
      refine ⟨hn, y, ?_, ey⟩
      rw [dropL0_at hn]
      obtain ⟨k, _, h2, h3, _⟩ := dropS_spec (h.inv n hn) who
      rw [h3]
      have hyf : y ∈ fl (ls.getD n zL).2 who := fl_mem.2 ⟨hy, fun e => hc (.inl (ey.symm.trans e))⟩
      rw [← List.take_append_drop k (fl (ls.getD n zL).2 who), List.mem_append] at hyf
      rcases hyf with hyf | hyf
      · refine absurd (.inr (dropO_mem.2 ⟨n, Nat.zero_le _, hn, ?_⟩)) hc
        rw [h2]
        exact List.mem_map.2 ⟨y, hyf, ey⟩
      · exact hyf
  · rintro ⟨hn, y, hy, ey⟩
    rw [dropL0_at hn] at hy
    obtain ⟨k, _, h2, h3, _⟩ := dropS_spec (h.inv n hn) who
    rw [h3] at hy
    have hyf := fl_mem.1 (List.mem_of_mem_drop hy)
    have hfx := (h.map x n).2 ⟨hn, y, hyf.1, ey⟩
    rw [if_neg]
    · exact hfx
    · rintro (e | hx)
      · exact hyf.2 (ey.trans e)
      · obtain ⟨j, _, hj, hx⟩ := dropO_mem.1 hx
        obtain ⟨k', _, h2', h3', _⟩ := dropS_spec (h.inv j hj) who
        rw [h2'] at hx
        obtain ⟨z, hz, ez⟩ := List.mem_map.1 hx
        have hz' := fl_mem.1 (List.mem_of_mem_take hz)
        have hfj := (h.map x j).2 ⟨hj, z, hz'.1, ez⟩
        rw [hfx] at hfj
        injection hfj with hfj
        subst hfj
        rw [h2] at h2'
        have hz2 : z.f0 ∈ ((fl (ls.getD n zL).2 who).take k).map (·.f0) := by rw [h2']; exact List.mem_map.2 ⟨z, hz, rfl⟩
        obtain ⟨z2, hz2, ez2⟩ := List.mem_map.1 hz2
        have hd : Dis (fl (ls.getD n zL).2 who) := List.Pairwise.filter _ (h.inv n hn).dq
        exact dis_drop hd hz2 hy (ez2.trans (ez.trans ey.symm))
theorem lenT_set {ls : List LS} {i : Nat} (hi : i < ls.length) (x : LS) : lenT (ls.set i x) + lenL (ls.getD i zL) = lenT ls + lenL x := by
  unfold lenT
  induction ls generalizing i with
  | nil => simp at hi
  | cons y ls ih =>
    cases i with
    | zero => simp; omega
    | succ i => have := ih (i := i) (by simpa using hi); simp at this ⊢; omega
def folk (s : LS) : List Int := s.1.map (·.f0) ++ (s.2.filter fun x => toldIn s.1 x.f0 == 0).map (·.f0)
theorem folk_len (s : LS) : (folk s).length = lenL s := by unfold folk lenL newIn; simp
theorem folk_mem {s : LS} (h : Inv s.1 s.2) {k : Int} : k ∈ folk s ↔ (∃ x ∈ s.1, x.f0 = k) ∨ ∃ x ∈ s.2, x.f0 = k := by
  unfold folk
  rw [List.mem_append, List.mem_map, List.mem_map]
  constructor
  · rintro (⟨x, hx, e⟩ | ⟨x, hx, e⟩)
    · exact .inl ⟨x, hx, e⟩
    · exact .inr ⟨x, (List.mem_filter.1 hx).1, e⟩
  · rintro (⟨x, hx, e⟩ | ⟨x, hx, e⟩)
    · exact .inl ⟨x, hx, e⟩
    · by_cases ht : toldIn s.1 x.f0 = 0
      · exact .inr ⟨x, List.mem_filter.2 ⟨hx, by simpa using ht⟩, e⟩
      · left
        rcases told_cases s.1 x.f0 with ⟨h1, _⟩ | ⟨y, hy, h1, _⟩
        · exact absurd h1 ht
        · exact ⟨y, hy, h1.trans e⟩
theorem folk_nodup {s : LS} (h : Inv s.1 s.2) : (folk s).Nodup := by
  unfold folk
  rw [List.nodup_append]
  refine ⟨List.pairwise_map.2 h.asc.dis, List.pairwise_map.2 (List.Pairwise.filter _ h.dq), ?_⟩
  intro a ha b hb e
  subst e
  obtain ⟨x, hx, rfl⟩ := List.mem_map.1 ha
  obtain ⟨y, hy, ey⟩ := List.mem_map.1 hb
  have h1 := (List.mem_filter.1 hy).2
  have h2 : toldIn s.1 y.f0 = 0 := by simpa using h1
  exact (told_pos (fun x hx => (h.mh x hx).2)).1 h2 x hx ey.symm
theorem nodup_len {a b : List Int} (ha : a.Nodup) (h : ∀ x ∈ a, x ∈ b) : a.length ≤ b.length := by
  induction a generalizing b with
  | nil => exact Nat.zero_le _
  | cons x a ih =>
    obtain ⟨hx, ha⟩ := List.nodup_cons.1 ha
    have hb := h x (List.mem_cons_self ..)
    have h2 := ih (b := b.erase x) ha (fun y hy => (List.mem_erase_of_ne (fun e => by subst e; exact hx hy)).2 (h y (List.mem_cons_of_mem _ hy)))
    rw [List.length_erase_of_mem hb] at h2
    have h3 : 0 < b.length := List.length_pos_of_mem hb
    rw [List.length_cons]; omega
theorem lenL_le {s s' : LS} (h : Inv s.1 s.2) (h' : Inv s'.1 s'.2) (hm : ∀ k, k ∈ folk s → k ∈ folk s') : lenL s ≤ lenL s' := by
  rw [← folk_len, ← folk_len]
  exact nodup_len (folk_nodup h) hm
theorem dropS_lenL {s : LS} (h : Inv s.1 s.2) (who : Int) : lenL (dropS who s).2 ≤ lenL s := by
  obtain ⟨n, h1, h2, h3, h4, h5, _⟩ := dropS_spec h who
  refine lenL_le h4 h (fun k hk => ?_)
  rw [folk_mem h4] at hk
  rw [folk_mem h]
  rcases hk with ⟨x, hx, e⟩ | ⟨x, hx, e⟩
  · rcases (h5 x).1 hx with hx | ⟨hx, _⟩
    · exact .inr ⟨x, (fl_mem.1 (List.mem_of_mem_take hx)).1, e⟩
    · exact .inl ⟨x, (fl_mem.1 hx).1, e⟩
  · rw [h3] at hx
    exact .inr ⟨x, (fl_mem.1 (List.mem_of_mem_drop hx)).1, e⟩
theorem lenT_le {ls ls' : List LS} (hl : ls'.length = ls.length) (h : ∀ j, j < ls.length → lenL (ls'.getD j zL) ≤ lenL (ls.getD j zL)) : lenT ls' ≤ lenT ls := by
  have key : ∀ i, i ≤ ls.length → lenT (ls'.take i) ≤ lenT (ls.take i) := by
    intro i
    induction i with
    | zero => intro _; simp
    | succ i ih =>
      intro hi
      rw [len_step (by omega), len_step (by omega)]
      have := ih (by omega)
      have := h i (by omega)
      omega
  have := key ls.length (Nat.le_refl _)
  rwa [← hl, List.take_length, hl, List.take_length] at this
theorem drop_lenT {ls : List LS} (h : LInv ls) (who : Int) : lenT (dropL ls who 0) ≤ lenT ls :=
  lenT_le (dropL_len ls who 0) (fun j hj => by rw [dropL0_at hj]; exact dropS_lenL (h j hj) who)
theorem ask_folk {hs qs : List E} (h : Inv hs qs) (who m : Int) {k : Int} (hk : k ∈ folk (askIn hs qs who m).2) : k ∈ folk (hs, qs) ∨ k = who := by
  have h' := inv_ask h who m
  rw [folk_mem h'] at hk
  rw [folk_mem (s := (hs, qs)) h]
  rcases hk with ⟨x, hx, e⟩ | ⟨x, hx, e⟩
  · by_cases ek : k = who
    · exact .inr ek
    · left; left
      have ht := told_ask_ne (qs := qs) h.asc (who := who) (k := k) (m := m) ek
      have h1 : toldIn (askIn hs qs who m).2.1 k = x.f1 := by rw [← e]; exact told_mem h'.asc.dis hx
      rw [h1] at ht
      rcases told_cases hs k with ⟨h2, _⟩ | ⟨y, hy, h2, _⟩
      · rw [h2] at ht; exact absurd ht (h'.mh x hx).2
      · exact ⟨y, hy, h2⟩
  · rcases (ask_queue who m).1 hx with hx | ⟨_, rfl⟩
    · exact .inl (.inr ⟨x, hx, e⟩)
    · exact .inr e.symm
theorem ask_lenL {hs qs : List E} (h : Inv hs qs) (who m : Int) : lenL (askIn hs qs who m).2 ≤ lenL (hs, qs) + 1 ∧ (hasIn hs qs who = true → lenL (askIn hs qs who m).2 ≤ lenL (hs, qs)) := by
  have h' := inv_ask h who m
  constructor
  · rw [← folk_len, ← folk_len]
    have := nodup_len (b := who :: folk (hs, qs)) (folk_nodup (s := (askIn hs qs who m).2) h') (fun k hk => by
      rcases ask_folk h who m hk with h | rfl
      · exact List.mem_cons_of_mem _ h
      · exact List.mem_cons_self ..)
    simpa using this
  · intro hh
    refine lenL_le (s := (askIn hs qs who m).2) (s' := (hs, qs)) h' h (fun k hk => ?_)
    rcases ask_folk h who m hk with h1 | rfl
    · exact h1
    · rw [folk_mem (s := (hs, qs)) h]
      unfold hasIn at hh
      rw [Bool.or_eq_true, bne_iff_ne, bne_iff_ne] at hh
      rcases hh with hh | hh
      · rcases told_cases hs k with ⟨h2, _⟩ | ⟨y, hy, h2, _⟩
        · exact absurd h2 hh
        · exact .inl ⟨y, hy, h2⟩
      · rcases told_cases qs k with ⟨h2, _⟩ | ⟨y, hy, h2, _⟩
        · exact absurd h2 hh
        · exact .inr ⟨y, hy, h2⟩
theorem askT_lenT {ls : List LS} (h : LInv ls) (f : At) {most : Int} (hl : (lenT ls : Int) ≤ most) (who node m : Int) : (lenT (askT ls most f who node m).2.2.1 : Int) ≤ most := by
  rcases askT_cases ls most f who node m with ⟨h1, _⟩ | ⟨i, rfl, hi, _, _, _, _, hn, e⟩
  · rw [h1]; exact hl
  · rw [e]
    have hL := ask_lenL (h i hi) who m
    have hS := lenT_set hi (askIn (ls.getD i zL).1 (ls.getD i zL).2 who m).2
    have e1 : lenL ((ls.getD i zL).1, (ls.getD i zL).2) = lenL (ls.getD i zL) := rfl
    rw [e1] at hL
    show (lenT (ls.set i _) : Int) ≤ most
    cases hh : hasIn (ls.getD i zL).1 (ls.getD i zL).2 who with
    | true => have := hL.2 hh; omega
    | false =>
      have h3 : ¬ most ≤ (lenT ls : Nat) := fun h => hn ⟨hh, h⟩
      have := hL.1
      omega
end Go.Proofs.YtaaekmcmpjljgaaGreat.Ln
namespace Go.Proofs.YtaaekmcmpjljgaaGreat.Ln
open Go.RowKit Go.Proofs.YtaaekmcmpjljgaaGreatW.PrintWords Go.Proofs.YtaaekmcmpjljgaaGreatW.PrintLast Go.Proofs.YtaaekmcmpjljgaaGreatW.PrintMore Go.Proofs.YtaaekmcmpjljgaaGreat.PMd
open Go.Maps
open Go.Sort (grow)
attribute [local go_sem] Oper.semAt_some
set_option linter.unusedVariables false
set_option linter.unusedSimpArgs false
theorem run_append_any {P : Program} (w : World) (t ty e : TypeId) (i : TypeInfo) (z : Value) (size bytes : Nat) (ht : P.underlying t = some (.slice e)) (hi : P.info? e = some i) (hz : i.zero = some z)
    (hsize : i.size = size) (hby : i.bytes = bytes) (hzs : z.cells.size = size) (A : Option Addr) (n cap : Nat) (xs : List Value) (hR : Row w e size A n cap xs)
    (Al : Option Addr) (m c : Nat) (news : List Value) (hRl : Row w e size Al m c news) (hsz : 0 < size) (h1 : ∀ u ∈ news, u.oneCell' = true)
    (h63 : n + m ≤ maxLen) (hbytes : (n + m) * bytes ≤ 140737488355328) :
    ∃ A' cap' w', (Builtin.append_ #[t, t] ty #[.slice A n cap, .slice Al m c]).run P w = .ok (.slice A' (n + m) cap') w' ∧ Row w' e size A' (n + m) cap' (xs ++ news) ∧ Grew (blk A) w w' ∧
      (∀ k, blk A' k → blk A k ∨ w.heap.size ≤ k) := by
  by_cases hm : 0 < m
  · obtain ⟨g, off, cur, rfl, hg, hsz, hc⟩ := hRl.at_ hm
    exact run_append_row w t ty e i z size bytes ht hi hz hsize hby hzs A n cap xs hR ⟨g, off, none⟩ m c news hRl.1 (fun j u hu => by rw [Addr.add_lit]; exact (hc j u hu).1) h1 h63 hbytes
  · obtain rfl : m = 0 := by omega
    have hnews : news = [] := List.eq_nil_of_length_eq_zero (by simpa using hRl.1)
    subst hnews
    cases Al with
    | some ad => exact run_append_row w t ty e i z size bytes ht hi hz hsize hby hzs A n cap xs hR ad 0 c [] (by simp) (fun j u hu => by simp at hu) (by simp) h63 hbytes
    | none =>
      refine ⟨A, cap, w, ?_, by rw [List.append_nil]; exact hR, Grew.refl _ _, fun k hk => .inl hk⟩
      have hn := hR.2.1
      cases A with
      | none => simp [Builtin.append_, run_underlying ht, sizeOf, typeInfo, hi, Builtin.lenOf, Builtin.firstCells, hn]
      | some a => simp [Builtin.append_, run_underlying ht, sizeOf, typeInfo, hi, Builtin.lenOf, Builtin.firstCells, hn, storeCells]
theorem step_append_any_in {F : Fence} {nF : Nat} {P : Program} {ops : Array Oper} {o : Oper} {a : Act} {w : World} {K : Act → World → Prop} {Q : Exit → Act → World → Prop} {E : Prop} (hgd : o.guard = none) (s x : Operand) (t : TypeId)
    (ho : o.op = .call { callee := .builtin .append, args := #[s, x], argTypes := #[t, t] })
    (e : TypeId) (z : Value) (size bytes : Nat) (ht : P.underlying t = some (.slice e)) (hinfo : (P.info? e).map (fun i => (i.zero, i.size, i.bytes)) = some (some z, size, bytes))
    (hzs : z.cells.size = size) (A : Option Addr) (n cap : Nat) (xs : List Value) (hs : a.eval s = .slice A n cap) (hR : Row w e size A n cap xs)
    (Al : Option Addr) (m c : Nat) (news : List Value) (hx : a.eval x = .slice Al m c) (hRl : Row w e size Al m c news) (hsz : 0 < size) (h1 : ∀ u ∈ news, u.oneCell' = true)
    (h63 : n + m ≤ maxLen) (hbytes : (n + m) * bytes ≤ 140737488355328)
    (h : ∀ A' cap' w', Row w' e size A' (n + m) cap' (xs ++ news) → Grew (blk A) w w' → (∀ k, blk A' k → blk A k ∨ w.heap.size ≤ k) → K (a.put o.dst (.slice A' (n + m) cap')) w') :
    if Region.wanted o (yielded ops a.tmps) = true then Oper.wpIn F nF P o a w K Q else E := by
  have hw : Region.wanted o (yielded ops a.tmps) = true := by simp [Region.wanted, hgd]
  rw [if_pos hw]
  cases hi : P.info? e with
  | none => rw [hi] at hinfo; cases hinfo
  | some i =>
    rw [hi] at hinfo
    obtain ⟨hz, hs1, hb1⟩ : i.zero = some z ∧ i.size = size ∧ i.bytes = bytes := by simpa using hinfo
    obtain ⟨A', cap', w', hr, h2, h3, h4⟩ := run_append_any (P := P) w t o.type e i z size bytes ht hi hz hs1 hb1 hzs A n cap xs hR Al m c news hRl hsz h1 h63 hbytes
    unfold Oper.wpIn
    refine ⟨?_, ?_⟩
    · simp [Oper.about, ho, resolve, Target.leads, Sem.run_pure]
    · rw [Oper.semAt_plain F _ _ (by rw [ho]; intro c hc'; cases hc')]
      simp [execOp, ho, resolve, invoke, builtin, hs, hx, hr, Result.andThen]
      exact h _ _ _ h2 h3 h4
theorem step_delete_own {H : Type} {P : Program} {ops : Array Oper} {o : Oper} {a : Act} {w : World} {K : Act → World → Prop} {Q : Exit → Act → World → Prop} {E : Prop} (hgd : o.guard = none) (m x : Operand) (t k : TypeId)
    (ho : o.op = .call { callee := .builtin .delete, args := #[m, x], argTypes := #[t, k] }) (e : TypeId) (KK : Keyed P k) (ht : P.underlying t = some (.map k e)) (R : Value → Option (DataW H × List MemPlace)) (b n : Nat) (D : DataW H)
    (hm : a.eval m = .map (some b)) (hown : w.ownsMap P k R b n D) (key : Value) (kl : Lit) (hx : a.eval x = key) (hkey : keyOf P k key = some kl)
    (h : ∀ w', w'.ownsMap P k R b n (D.del kl) → w.mapTurned w' b → K (a.put o.dst (.tuple #[])) w') :
    if Region.wanted o (yielded ops a.tmps) = true then Oper.wp P o a w K Q else E := by
  have hw : Region.wanted o (yielded ops a.tmps) = true := by simp [Region.wanted, hgd]
  rw [if_pos hw]
  obtain ⟨w', hrun, r1, r2⟩ := hown.drop KK ht hkey o.type
  unfold Oper.wp
  simp [execOp, ho, resolve, invoke, builtin, hm, hx, hrun, Result.andThen]
  exact h w' r1 r2
theorem grew_turned {w w' : World} {b : Nat} (h : w.mapTurned w' b) : Grew (fun k => k = b) w w' := by
  have hg := h.grown
  exact ⟨hg.os, hg.tape, hg.output, hg.size, fun k hk hn => hg.block k hk (fun e => by injection e with e; exact hn e)⟩
theorem dels_snoc (f : At) (l : List Int) (x : Int) : delsT f (l ++ [x]) = (delsT f l).del x := by unfold delsT; rw [List.foldl_append]; rfl
theorem ints_one (l : List Int) : ∀ u ∈ ints l, u.oneCell' = true := by
  intro u hu
  obtain ⟨x, _, rfl⟩ := List.mem_map.1 hu
  rfl
set_option maxHeartbeats 8000000 in
set_option maxRecDepth 100000 in
theorem DropT_ {w : World} {b : Nat} {F : Nat → Prop} {ls : List LS} {most : Int} {N : Nat} {f : At} (h : IsTab w b F ls most N f) (h0 : 0 < ls.length) (hl : ls.length ≤ 10000) (hm : ∀ i, mS (ls.getD i zL) ≤ 900000) (who : Int) (hw : ok64 who) (hok : ∀ x ∈ dropO ls who 0, ok64 x) :
    Calls Tryz.prog 21 #[.pointer (some ⟨b, 0, none⟩), .int .i64 who] w fun e w' => ∃ A' c', e = .returned (.slice A' (dropO ls who 0).length c') ∧ Row w' 3 1 A' (dropO ls who 0).length c' (ints (dropO ls who 0)) ∧ (∀ k, blk A' k → w.heap.size ≤ k) ∧
      IsTab w' b (fun k => (F k ∨ w.heap.size ≤ k) ∧ ¬ blk A' k) (dropL ls who 0) most N (delsT (f.del who) (dropO ls who 0)) ∧ Grew F w w' := by
  have hu := Tryz.underlying77
  have hu2 := Tryz.underlying81
  have mixed : Tryz.prog.follows Departure.mixedOrders = true := by kernel_rfl
  obtain ⟨m, F0, cm, hmc, hT0, hF0⟩ := h.typed
  obtain ⟨g, off, sc, bs, c0, hbs, hFg, hgw, hsc, hgb⟩ := hT0.blocks h0
  have hmw : m < w.heap.size := by
    obtain ⟨sA, sc', m', c0', -, c2', -, -, hmap, -, -⟩ := hT0.open_
    rw [cm] at c2'
    injection c2' with e
    injection e with e
    injection e with e
    subst e
    exact hmap.lt
  have hbw := hT0.lt
  have H2 := Aside0.mk (And.intro hl (And.intro hm (And.intro hw hok)))
  refine (callsIn_wide (n := 9)).1 ?_
  refine callsIn_of_wp_marks Tryz.func21 rfl trivial ?_ rfl
  simp only [Tryz.ntmps21, List.size_toArray, List.length_cons, List.length_nil, Nat.reduceAdd, Nat.reduceSub, Array.replicate_succ, Array.replicate_zero, List.push_toArray, List.append_toArray, List.nil_append, List.cons_append]
  gi_wp2_with (first | (refine ⟨trivial, ?_⟩; gi_at_call 51; refine (Backward_in Fence.wide _ trivial rfl _ _ _ _).mono ?_; rintro e w' ⟨rfl, rfl⟩) | fail)
  have s1 : (w.alloc (.cells #[.int .i64 who] 3)).heap.size = w.heap.size + 1 := by simp
  have s2 : ((w.alloc (.cells #[.int .i64 who] 3)).alloc (.cells #[.slice none 0 0] 29)).heap.size = w.heap.size + 2 := by simp
  have b0 := blk_new w (.cells #[.int .i64 who] 3)
  have b1 := blk_new (w.alloc (.cells #[.int .i64 who] 3)) (.cells #[.slice none 0 0] 29)
  have b2 := blk_new ((w.alloc (.cells #[.int .i64 who] 3)).alloc (.cells #[.slice none 0 0] 29)) (.cells #[.slice (some ⟨g, off, none⟩) ls.length sc] 74)
  rw [s1] at b1
  rw [s2] at b2
  replace b0 := blk_alloc (blk_alloc b0 (.cells #[.slice none 0 0] 29)) (.cells #[.slice (some ⟨g, off, none⟩) ls.length sc] 74)
  replace b1 := blk_alloc b1 (.cells #[.slice (some ⟨g, off, none⟩) ls.length sc] 74)
  have hB := below_alloc (below_alloc (below_alloc (Below.refl w.heap.size w) (.cells #[.int .i64 who] 3)) (.cells #[.slice none 0 0] 29)) (.cells #[.slice (some ⟨g, off, none⟩) ls.length sc] 74)
  have s3 : (((w.alloc (.cells #[.int .i64 who] 3)).alloc (.cells #[.slice none 0 0] 29)).alloc (.cells #[.slice (some ⟨g, off, none⟩) ls.length sc] 74)).heap.size = w.heap.size + 3 := by simp
  rw [show w.heap.size + 1 + 1 = w.heap.size + 2 from rfl]
  obtain ⟨W0, hW0⟩ : ∃ W, ((w.alloc (.cells #[.int .i64 who] 3)).alloc (.cells #[.slice none 0 0] 29)).alloc (.cells #[.slice (some ⟨g, off, none⟩) ls.length sc] 74) = W := ⟨_, rfl⟩
  rw [hW0] at b0 b1 b2 hB s3 ⊢
  clear hW0 s1 s2
  have hI0 : DropI w b m g F ls most N f who [] W0 := by
    refine ⟨F0, none, 0, hT0.below hB, fun k hk => ⟨.inl (hF0 k hk).1, (hF0 k hk).2.2.kept (hB.block k (hF0 k hk).2.1), by have := (hF0 k hk).2.1; omega⟩, fun cs t z e => hmc cs t z ((hB.block m hmw).symm.trans e), b0, b1, hB.block b hbw, hB.block g hgw, Row.zero _ _ _, fun k h => (blk_none h).elim, Grew.of_below hB, by omega, hmw, hbw, hgw, ⟨_, b2⟩⟩
  refine wpIn_rangeFunc_ownH rfl (by decide) (gf := 80) (lb := #[.pointer (some ⟨w.heap.size + 2, 0, none⟩)]) rfl trivial (enters_of Tryz.func80 (by kernel_rfl) rfl)
    (back_stops Fence.wide _ trivial rfl (by decide) (w.heap.size + 2) g off ls.length sc bs W0 (by omega) (by omega) ((blk_cell b2 0).trans rfl) (fun j hj => cell_be (hbs j hj) hB) H2.out.1) (fun h k => Keep2.trans h k) (keep2_put (by omega) (by omega)) (Below.refl _ _) (fun _ => rfl)
    (DropI w b m g F ls most N f who) (fun _ _ _ => False) (by rw [s3]; exact dropI_own) (fun c s W W' row hs _ _ => hs) hI0
    (fun x a' W => ∃ Bx, w.heap.size + 3 ≤ Bx ∧ W.heap[Bx]? = some (.cells #[.pointer (some ⟨bs x.1, 0, none⟩)] 81 (0, 0)) ∧
      a' = { tmps := #[.pointer (some ⟨b, 0, none⟩), .int .i64 who, undef, .pointer (some ⟨w.heap.size, 0, none⟩), .slice none 0 0, .pointer (some ⟨w.heap.size + 1, 0, none⟩), undef, .pointer (some ⟨Bx, 0, none⟩), undef, undef, .pointer (some ⟨b, 0, none⟩), .pointer (some ⟨b, 0, none⟩), .pointer (some ⟨b, 0, none⟩), .slice (some ⟨g, off, none⟩) ls.length sc, .func (.func 80) #[] #[.pointer (some ⟨w.heap.size + 2, 0, none⟩)], .int .i64 ((x.1 : Nat) : Int), .agg #[.pointer (some ⟨bs x.1, 0, none⟩)], undef, undef, undef, undef, undef, undef, undef, undef, undef, undef, undef, undef, undef, undef, undef, undef, undef, undef, undef, undef, undef, undef, undef, undef, undef, undef, undef], defers := [] })
    ?hAx ?assign ?body ?done ?stop
  case hAx =>
    rintro x a' s W W' row ⟨Bx, h1, h2, h3⟩ hg hr
    refine ⟨Bx, h1, (hg.block Bx (Array.getElem?_eq_some_iff.1 h2).1 (fun e => ?_)).trans h2, h3⟩
    obtain ⟨_, o, ho, hc⟩ := hr Bx e.symm
    rw [h2] at ho; injection ho with ho; subst ho; cases hc
  case assign =>
    intro l pre x W K hI hK
    gi_wp2
    have hsz : w.heap.size + 3 ≤ W.heap.size := by obtain ⟨_, _, _, _, _, _, _, _, _, _, _, _, _, h, _⟩ := hI; exact h
    exact hK _ _ ((KeepsOthers.alloc _ _).from _) ⟨Below.heap_alloc W _ g (by omega), Below.heap_alloc W _ _ (by omega)⟩ (dropS_below hI (below_alloc (Below.refl _ _) _)) ⟨W.heap.size, hsz, blk_new W _, rfl⟩
  case body =>
    rintro l pre x a' W hlW hlr hI ⟨Bx, hBx, hX, rfl⟩ hlen
    have hbd := visits_bd (who := who) H2.out.2.1 (pre.map (·.1))
    have hln := visits_len who ls (pre.map (·.1))
    have hsn : visits who ls ((pre ++ [x]).map (·.1)) = visit who (visits who ls (pre.map (·.1))) x.1 := by rw [List.map_append]; exact visits_snoc who ls (pre.map (·.1)) x.1
    have hI : DropS w b m g F most N f who (visits who ls (pre.map (·.1))) W := hI
    have hG : ∀ W', DropI w b m g F ls most N f who (pre ++ [x]) W' = DropS w b m g F most N f who (visit who (visits who ls (pre.map (·.1))) x.1) W' := fun W' => by unfold DropI; rw [hsn]
    clear hsn
    have hxl := x.2
    generalize x.1 = i at hX hG hxl ⊢
    generalize visits who ls (pre.map (·.1)) = st at hI hbd hln hG
    obtain ⟨Gi, A', c', w0, o0, of, hR, hsz, dI, dA, dG, hA9, hg', hb', hm', hclose⟩ := dropS_at hI c0 cm hbs i hxl hln
    have x0 : W.cell? ⟨Bx, 0, none⟩ = some (.pointer (some ⟨bs i, 0, none⟩)) := (blk_cell hX 0).trans rfl
    cases hh : hasIn (st.2.getD i zL).1 (st.2.getD i zL).2 who with
    | false =>
      have HV := Aside0.mk (visit_same (who := who) (st := st) (i := i) (by omega) hh)
      have HC := Aside0.mk (has_ W (bs i) Gi _ _ who dI)
      rw [hh] at HC
      have HG := Aside0.mk hG
      clear hG hclose hbd hln hR dI dA dG hA9
      gi_wp2_with (first | (refine ⟨trivial, ?_⟩; gi_at_call 39; refine (CallsIn.inRound l (callsIn_wide.2 HC.out)).mono ?_; rintro e W1 ⟨rfl, hb⟩) | fail)
      refine ⟨⟨hb.size, fun k o _ hk _ => (hb.block k (Array.getElem?_eq_some_iff.1 hk).1).trans hk⟩, ⟨hb.block g (by omega), hb.block _ (by omega)⟩, ?_⟩
      rw [HG.out, HV.out]
      exact dropS_below hI hb
    | true =>
      have HV := Aside0.mk (visit_leave (who := who) (st := st) (i := i) hh)
      have HC := Aside0.mk (has_ W (bs i) Gi _ _ who dI)
      rw [hh] at HC
      have HLn := Aside0.mk (show st.1.length ≤ 9000000000 ∧ (leaveIn (st.2.getD i zL).1 (st.2.getD i zL).2 who).1.length ≤ 900000 by
        have h1 := hbd.2
        rw [List.length_map] at h1
        have h2 := hbd.1 i
        have h3 := serve_bd (fl (st.2.getD i zL).1 who) (fl (st.2.getD i zL).2 who)
        have h4 := fl_len (st.2.getD i zL).1 who
        have h5 := fl_len (st.2.getD i zL).2 who
        have h6 := H2.out.1
        unfold mS at h2
        unfold leaveIn
        omega)
      obtain ⟨sl, hsl⟩ : ∃ s, st.2.getD i zL = s := ⟨_, rfl⟩
      have HSL := Aside0.mk hsl
      have HMs := Aside0.mk (hbd.1 i)
      rw [hsl] at HV HLn HMs
      clear hsl
      have HG := Aside0.mk hG
      have HI := Aside0.mk hI
      have HX := Aside0.mk hX
      have HBd := Aside0.mk hbd
      clear hG hclose hbd hR dI dA dG hA9 o0 of hh hI hX
      gi_wp2_with (first | (refine ⟨trivial, ?_⟩; gi_at_call 39; refine (CallsIn.inRound l (callsIn_wide.2 HC.out)).mono ?_; rintro e W1 ⟨rfl, hb⟩; have hI1 := dropS_below HI.out hb; have hX1 := (hb.block Bx (Array.getElem?_eq_some_iff.1 HX.out).1).trans HX.out; clear x0 w0 HC; obtain ⟨Gi, A', c', w0, o0, of, hR, hsz1, dI, dA, dG, hA9, -, -, -, hclose⟩ := dropS_at hI1 c0 cm hbs i hxl hln; rw [HSL.out] at dI dA; have x0 : W1.cell? ⟨Bx, 0, none⟩ = some (.pointer (some ⟨bs i, 0, none⟩)) := (blk_cell hX1 0).trans rfl) | fail)
      have HDA := Aside0.mk (asc_leave (who := who) (qs := sl.2) dA)
      have HLv := Aside0.mk (Leave_ W1.drew (bs i) Gi _ _ who (show IsLane W1.drew (bs i) Gi sl.1 sl.2 from dI) dA HMs.out (fun k hk => (dG k hk).1))
      clear dI dA
      refine wpIn_region_any mixed ?_
      change wpAnyIn _ _ _ _ _ _ _ _ _ (World.drew _)
      refine wpAnyIn_ready (rs := [0, 1, 3]) (by kernel_rfl) (by simp) ?_
      refine AllReadyIn.cons rfl (fun K hK => ?_) (AllReadyIn.cons rfl (fun K hK => ?_) (AllReadyIn.cons rfl (fun K hK => ?_) AllReadyIn.nil))
      · go_simp
        refine hK _ _ ?_
        clear hK K
        refine wpAnyIn_ready (rs := [1, 3]) (by kernel_rfl) (by simp) ?_
        refine AllReadyIn.cons rfl (fun K hK => ?_) (AllReadyIn.cons rfl (fun K hK => ?_) AllReadyIn.nil)
        · go_simp
          refine hK _ _ ?_
          clear hK K
          refine wpAnyIn_ready (rs := [2, 3]) (by kernel_rfl) (by simp) ?_
          refine AllReadyIn.cons rfl (fun K hK => ?_) (AllReadyIn.cons rfl (fun K hK => ?_) AllReadyIn.nil)
          · go_simp
            refine hK _ _ ?_
            clear hK K
            refine wpAnyIn_ready (rs := [3]) (by kernel_rfl) (by simp) ?_
            refine AllReadyIn.cons rfl (fun K hK => ?_) AllReadyIn.nil
            go_simp
            refine hK _ _ ?_
            clear hK K
            refine wpAnyIn_ready (rs := [4]) (by kernel_rfl) (by simp) ?_
            refine AllReadyIn.cons rfl (fun K hK => ?_) AllReadyIn.nil
            go_simp
            refine ⟨trivial, ?_⟩
            gi_at_call 52
            refine (CallsIn.inRound l (callsIn_wide.2 HLv.out)).mono ?_
            rintro e W2 ⟨Al, cl, rfl, hRl, hAl, hIl, hGl⟩
            have k2 : W2.heap[w.heap.size + 1]? = W1.heap[w.heap.size + 1]? := hGl.block _ (by show w.heap.size + 1 < W1.heap.size; omega) (fun h => (dG _ h).2.1 rfl)
            have o2 := (World.cell?_of_block (a := ⟨w.heap.size + 1, 0, none⟩) k2).trans o0
            have of2 := (World.frozen?_of_block (a := ⟨w.heap.size + 1, 0, none⟩) k2).trans of
            have hR2 := (show Row W1.drew 3 1 A' st.1.length c' (ints st.1) from hR).grew hGl (fun k hk h => (dG k h).2.2 hk)
            refine hK _ _ ?_
            clear hK K
            refine wpAnyIn_ready (rs := [5]) (by kernel_rfl) (by simp) ?_
            refine AllReadyIn.cons rfl (fun K hK => ?_) AllReadyIn.nil
            refine step_append_any_in rfl (.tmp 20) (.tmp 24) 29 rfl 3 (.int .i64 0) 1 8 Tryz.underlying29 info3 rfl A' st.1.length c' (ints st.1) (by simp [Act.eval, Act.put]) hR2 Al _ cl _ (by simp [Act.eval, Act.put]) hRl (by decide) (ints_one _) (by have := HLn.out; unfold maxLen; omega) (by have := HLn.out; omega) ?_
            intro A2 c2 W3 hR3 hG3 hA3
            have k3 : W3.heap[w.heap.size + 1]? = W2.heap[w.heap.size + 1]? := hG3.block _ (by have := hGl.size; have h1 : W1.drew.heap.size = W1.heap.size := rfl; omega) (fun h => by have := hA9 _ h; omega)
            have o3 := (World.cell?_of_block (a := ⟨w.heap.size + 1, 0, none⟩) k3).trans o2
            have of3 := (World.frozen?_of_block (a := ⟨w.heap.size + 1, 0, none⟩) k3).trans of2
            refine hK _ _ ?_
            clear hK K
            refine wpAnyIn_ready (rs := [6]) (by kernel_rfl) (by simp) ?_
            refine AllReadyIn.cons rfl (fun K hK => ?_) AllReadyIn.nil
            go_simp
            refine hK _ _ ?_
            clear hK K
            refine wpAnyIn_done (by kernel_rfl) ?_ _
            gi_wp2
            obtain ⟨q1, q2, q3⟩ := hclose W2 W3 _ _ Al cl _ A2 c2 hIl HDA.out ⟨hGl.os, hGl.tape, hGl.output, hGl.size, hGl.block⟩ hRl hAl hR3 hG3 hA3
            refine ⟨KeepsFrom.trans ⟨hb.size, fun k o _ hk _ => (hb.block k (Array.getElem?_eq_some_iff.1 hk).1).trans hk⟩ (by rw [s3]; exact q2), Keep2.trans ⟨hb.block g (by omega), hb.block _ (by omega)⟩ q3, ?_⟩
            rw [HG.out, HV.out]
            exact q1
          · go_simp
            refine hK _ _ ?_
            clear hK K
            refine wpAnyIn_ready (rs := [2]) (by kernel_rfl) (by simp) ?_
            refine AllReadyIn.cons rfl (fun K hK => ?_) AllReadyIn.nil
            go_simp
            refine hK _ _ ?_
            clear hK K
            refine wpAnyIn_ready (rs := [4]) (by kernel_rfl) (by simp) ?_
            refine AllReadyIn.cons rfl (fun K hK => ?_) AllReadyIn.nil
            go_simp
            refine ⟨trivial, ?_⟩
            gi_at_call 52
            refine (CallsIn.inRound l (callsIn_wide.2 HLv.out)).mono ?_
            rintro e W2 ⟨Al, cl, rfl, hRl, hAl, hIl, hGl⟩
            have k2 : W2.heap[w.heap.size + 1]? = W1.heap[w.heap.size + 1]? := hGl.block _ (by show w.heap.size + 1 < W1.heap.size; omega) (fun h => (dG _ h).2.1 rfl)
            have o2 := (World.cell?_of_block (a := ⟨w.heap.size + 1, 0, none⟩) k2).trans o0
            have of2 := (World.frozen?_of_block (a := ⟨w.heap.size + 1, 0, none⟩) k2).trans of
            have hR2 := (show Row W1.drew 3 1 A' st.1.length c' (ints st.1) from hR).grew hGl (fun k hk h => (dG k h).2.2 hk)
            refine hK _ _ ?_
            clear hK K
            refine wpAnyIn_ready (rs := [5]) (by kernel_rfl) (by simp) ?_
            refine AllReadyIn.cons rfl (fun K hK => ?_) AllReadyIn.nil
            refine step_append_any_in rfl (.tmp 20) (.tmp 24) 29 rfl 3 (.int .i64 0) 1 8 Tryz.underlying29 info3 rfl A' st.1.length c' (ints st.1) (by simp [Act.eval, Act.put]) hR2 Al _ cl _ (by simp [Act.eval, Act.put]) hRl (by decide) (ints_one _) (by have := HLn.out; unfold maxLen; omega) (by have := HLn.out; omega) ?_
            intro A2 c2 W3 hR3 hG3 hA3
            have k3 : W3.heap[w.heap.size + 1]? = W2.heap[w.heap.size + 1]? := hG3.block _ (by have := hGl.size; have h1 : W1.drew.heap.size = W1.heap.size := rfl; omega) (fun h => by have := hA9 _ h; omega)
            have o3 := (World.cell?_of_block (a := ⟨w.heap.size + 1, 0, none⟩) k3).trans o2
            have of3 := (World.frozen?_of_block (a := ⟨w.heap.size + 1, 0, none⟩) k3).trans of2
            refine hK _ _ ?_
            clear hK K
            refine wpAnyIn_ready (rs := [6]) (by kernel_rfl) (by simp) ?_
            refine AllReadyIn.cons rfl (fun K hK => ?_) AllReadyIn.nil
            go_simp
            refine hK _ _ ?_
            clear hK K
            refine wpAnyIn_done (by kernel_rfl) ?_ _
            gi_wp2
            obtain ⟨q1, q2, q3⟩ := hclose W2 W3 _ _ Al cl _ A2 c2 hIl HDA.out ⟨hGl.os, hGl.tape, hGl.output, hGl.size, hGl.block⟩ hRl hAl hR3 hG3 hA3
            refine ⟨KeepsFrom.trans ⟨hb.size, fun k o _ hk _ => (hb.block k (Array.getElem?_eq_some_iff.1 hk).1).trans hk⟩ (by rw [s3]; exact q2), Keep2.trans ⟨hb.block g (by omega), hb.block _ (by omega)⟩ q3, ?_⟩
            rw [HG.out, HV.out]
            exact q1
        · go_simp
          refine hK _ _ ?_
          clear hK K
          refine wpAnyIn_ready (rs := [1]) (by kernel_rfl) (by simp) ?_
          refine AllReadyIn.cons rfl (fun K hK => ?_) AllReadyIn.nil
          go_simp
          refine hK _ _ ?_
          clear hK K
          refine wpAnyIn_ready (rs := [2]) (by kernel_rfl) (by simp) ?_
          refine AllReadyIn.cons rfl (fun K hK => ?_) AllReadyIn.nil
          go_simp
          refine hK _ _ ?_
          clear hK K
          refine wpAnyIn_ready (rs := [4]) (by kernel_rfl) (by simp) ?_
          refine AllReadyIn.cons rfl (fun K hK => ?_) AllReadyIn.nil
          go_simp
          refine ⟨trivial, ?_⟩
          gi_at_call 52
          refine (CallsIn.inRound l (callsIn_wide.2 HLv.out)).mono ?_
          rintro e W2 ⟨Al, cl, rfl, hRl, hAl, hIl, hGl⟩
          have k2 : W2.heap[w.heap.size + 1]? = W1.heap[w.heap.size + 1]? := hGl.block _ (by show w.heap.size + 1 < W1.heap.size; omega) (fun h => (dG _ h).2.1 rfl)
          have o2 := (World.cell?_of_block (a := ⟨w.heap.size + 1, 0, none⟩) k2).trans o0
          have of2 := (World.frozen?_of_block (a := ⟨w.heap.size + 1, 0, none⟩) k2).trans of
          have hR2 := (show Row W1.drew 3 1 A' st.1.length c' (ints st.1) from hR).grew hGl (fun k hk h => (dG k h).2.2 hk)
          refine hK _ _ ?_
          clear hK K
          refine wpAnyIn_ready (rs := [5]) (by kernel_rfl) (by simp) ?_
          refine AllReadyIn.cons rfl (fun K hK => ?_) AllReadyIn.nil
          refine step_append_any_in rfl (.tmp 20) (.tmp 24) 29 rfl 3 (.int .i64 0) 1 8 Tryz.underlying29 info3 rfl A' st.1.length c' (ints st.1) (by simp [Act.eval, Act.put]) hR2 Al _ cl _ (by simp [Act.eval, Act.put]) hRl (by decide) (ints_one _) (by have := HLn.out; unfold maxLen; omega) (by have := HLn.out; omega) ?_
          intro A2 c2 W3 hR3 hG3 hA3
          have k3 : W3.heap[w.heap.size + 1]? = W2.heap[w.heap.size + 1]? := hG3.block _ (by have := hGl.size; have h1 : W1.drew.heap.size = W1.heap.size := rfl; omega) (fun h => by have := hA9 _ h; omega)
          have o3 := (World.cell?_of_block (a := ⟨w.heap.size + 1, 0, none⟩) k3).trans o2
          have of3 := (World.frozen?_of_block (a := ⟨w.heap.size + 1, 0, none⟩) k3).trans of2
          refine hK _ _ ?_
          clear hK K
          refine wpAnyIn_ready (rs := [6]) (by kernel_rfl) (by simp) ?_
          refine AllReadyIn.cons rfl (fun K hK => ?_) AllReadyIn.nil
          go_simp
          refine hK _ _ ?_
          clear hK K
          refine wpAnyIn_done (by kernel_rfl) ?_ _
          gi_wp2
          obtain ⟨q1, q2, q3⟩ := hclose W2 W3 _ _ Al cl _ A2 c2 hIl HDA.out ⟨hGl.os, hGl.tape, hGl.output, hGl.size, hGl.block⟩ hRl hAl hR3 hG3 hA3
          refine ⟨KeepsFrom.trans ⟨hb.size, fun k o _ hk _ => (hb.block k (Array.getElem?_eq_some_iff.1 hk).1).trans hk⟩ (by rw [s3]; exact q2), Keep2.trans ⟨hb.block g (by omega), hb.block _ (by omega)⟩ q3, ?_⟩
          rw [HG.out, HV.out]
          exact q1
      · go_simp
        refine hK _ _ ?_
        clear hK K
        refine wpAnyIn_ready (rs := [0, 2, 3]) (by kernel_rfl) (by simp) ?_
        refine AllReadyIn.cons rfl (fun K hK => ?_) (AllReadyIn.cons rfl (fun K hK => ?_) (AllReadyIn.cons rfl (fun K hK => ?_) AllReadyIn.nil))
        · go_simp
          refine hK _ _ ?_
          clear hK K
          refine wpAnyIn_ready (rs := [2, 3]) (by kernel_rfl) (by simp) ?_
          refine AllReadyIn.cons rfl (fun K hK => ?_) (AllReadyIn.cons rfl (fun K hK => ?_) AllReadyIn.nil)
          · go_simp
            refine hK _ _ ?_
            clear hK K
            refine wpAnyIn_ready (rs := [3]) (by kernel_rfl) (by simp) ?_
            refine AllReadyIn.cons rfl (fun K hK => ?_) AllReadyIn.nil
            go_simp
            refine hK _ _ ?_
            clear hK K
            refine wpAnyIn_ready (rs := [4]) (by kernel_rfl) (by simp) ?_
            refine AllReadyIn.cons rfl (fun K hK => ?_) AllReadyIn.nil
            go_simp
            refine ⟨trivial, ?_⟩
            gi_at_call 52
            refine (CallsIn.inRound l (callsIn_wide.2 HLv.out)).mono ?_
            rintro e W2 ⟨Al, cl, rfl, hRl, hAl, hIl, hGl⟩
            have k2 : W2.heap[w.heap.size + 1]? = W1.heap[w.heap.size + 1]? := hGl.block _ (by show w.heap.size + 1 < W1.heap.size; omega) (fun h => (dG _ h).2.1 rfl)
            have o2 := (World.cell?_of_block (a := ⟨w.heap.size + 1, 0, none⟩) k2).trans o0
            have of2 := (World.frozen?_of_block (a := ⟨w.heap.size + 1, 0, none⟩) k2).trans of
            have hR2 := (show Row W1.drew 3 1 A' st.1.length c' (ints st.1) from hR).grew hGl (fun k hk h => (dG k h).2.2 hk)
            refine hK _ _ ?_
            clear hK K
            refine wpAnyIn_ready (rs := [5]) (by kernel_rfl) (by simp) ?_
            refine AllReadyIn.cons rfl (fun K hK => ?_) AllReadyIn.nil
            refine step_append_any_in rfl (.tmp 20) (.tmp 24) 29 rfl 3 (.int .i64 0) 1 8 Tryz.underlying29 info3 rfl A' st.1.length c' (ints st.1) (by simp [Act.eval, Act.put]) hR2 Al _ cl _ (by simp [Act.eval, Act.put]) hRl (by decide) (ints_one _) (by have := HLn.out; unfold maxLen; omega) (by have := HLn.out; omega) ?_
            intro A2 c2 W3 hR3 hG3 hA3
            have k3 : W3.heap[w.heap.size + 1]? = W2.heap[w.heap.size + 1]? := hG3.block _ (by have := hGl.size; have h1 : W1.drew.heap.size = W1.heap.size := rfl; omega) (fun h => by have := hA9 _ h; omega)
            have o3 := (World.cell?_of_block (a := ⟨w.heap.size + 1, 0, none⟩) k3).trans o2
            have of3 := (World.frozen?_of_block (a := ⟨w.heap.size + 1, 0, none⟩) k3).trans of2
            refine hK _ _ ?_
            clear hK K
            refine wpAnyIn_ready (rs := [6]) (by kernel_rfl) (by simp) ?_
            refine AllReadyIn.cons rfl (fun K hK => ?_) AllReadyIn.nil
            go_simp
            refine hK _ _ ?_
            clear hK K
            refine wpAnyIn_done (by kernel_rfl) ?_ _
            gi_wp2
            obtain ⟨q1, q2, q3⟩ := hclose W2 W3 _ _ Al cl _ A2 c2 hIl HDA.out ⟨hGl.os, hGl.tape, hGl.output, hGl.size, hGl.block⟩ hRl hAl hR3 hG3 hA3
            refine ⟨KeepsFrom.trans ⟨hb.size, fun k o _ hk _ => (hb.block k (Array.getElem?_eq_some_iff.1 hk).1).trans hk⟩ (by rw [s3]; exact q2), Keep2.trans ⟨hb.block g (by omega), hb.block _ (by omega)⟩ q3, ?_⟩
            rw [HG.out, HV.out]
            exact q1
          · go_simp
            refine hK _ _ ?_
            clear hK K
            refine wpAnyIn_ready (rs := [2]) (by kernel_rfl) (by simp) ?_
            refine AllReadyIn.cons rfl (fun K hK => ?_) AllReadyIn.nil
            go_simp
            refine hK _ _ ?_
            clear hK K
            refine wpAnyIn_ready (rs := [4]) (by kernel_rfl) (by simp) ?_
            refine AllReadyIn.cons rfl (fun K hK => ?_) AllReadyIn.nil
            go_simp
            refine ⟨trivial, ?_⟩
            gi_at_call 52
            refine (CallsIn.inRound l (callsIn_wide.2 HLv.out)).mono ?_
            rintro e W2 ⟨Al, cl, rfl, hRl, hAl, hIl, hGl⟩
            have k2 : W2.heap[w.heap.size + 1]? = W1.heap[w.heap.size + 1]? := hGl.block _ (by show w.heap.size + 1 < W1.heap.size; omega) (fun h => (dG _ h).2.1 rfl)
            have o2 := (World.cell?_of_block (a := ⟨w.heap.size + 1, 0, none⟩) k2).trans o0
            have of2 := (World.frozen?_of_block (a := ⟨w.heap.size + 1, 0, none⟩) k2).trans of
            have hR2 := (show Row W1.drew 3 1 A' st.1.length c' (ints st.1) from hR).grew hGl (fun k hk h => (dG k h).2.2 hk)
            refine hK _ _ ?_
            clear hK K
            refine wpAnyIn_ready (rs := [5]) (by kernel_rfl) (by simp) ?_
            refine AllReadyIn.cons rfl (fun K hK => ?_) AllReadyIn.nil
            refine step_append_any_in rfl (.tmp 20) (.tmp 24) 29 rfl 3 (.int .i64 0) 1 8 Tryz.underlying29 info3 rfl A' st.1.length c' (ints st.1) (by simp [Act.eval, Act.put]) hR2 Al _ cl _ (by simp [Act.eval, Act.put]) hRl (by decide) (ints_one _) (by have := HLn.out; unfold maxLen; omega) (by have := HLn.out; omega) ?_
            intro A2 c2 W3 hR3 hG3 hA3
            have k3 : W3.heap[w.heap.size + 1]? = W2.heap[w.heap.size + 1]? := hG3.block _ (by have := hGl.size; have h1 : W1.drew.heap.size = W1.heap.size := rfl; omega) (fun h => by have := hA9 _ h; omega)
            have o3 := (World.cell?_of_block (a := ⟨w.heap.size + 1, 0, none⟩) k3).trans o2
            have of3 := (World.frozen?_of_block (a := ⟨w.heap.size + 1, 0, none⟩) k3).trans of2
            refine hK _ _ ?_
            clear hK K
            refine wpAnyIn_ready (rs := [6]) (by kernel_rfl) (by simp) ?_
            refine AllReadyIn.cons rfl (fun K hK => ?_) AllReadyIn.nil
            go_simp
            refine hK _ _ ?_
            clear hK K
            refine wpAnyIn_done (by kernel_rfl) ?_ _
            gi_wp2
            obtain ⟨q1, q2, q3⟩ := hclose W2 W3 _ _ Al cl _ A2 c2 hIl HDA.out ⟨hGl.os, hGl.tape, hGl.output, hGl.size, hGl.block⟩ hRl hAl hR3 hG3 hA3
            refine ⟨KeepsFrom.trans ⟨hb.size, fun k o _ hk _ => (hb.block k (Array.getElem?_eq_some_iff.1 hk).1).trans hk⟩ (by rw [s3]; exact q2), Keep2.trans ⟨hb.block g (by omega), hb.block _ (by omega)⟩ q3, ?_⟩
            rw [HG.out, HV.out]
            exact q1
        · go_simp
          refine hK _ _ ?_
          clear hK K
          refine wpAnyIn_ready (rs := [0, 3]) (by kernel_rfl) (by simp) ?_
          refine AllReadyIn.cons rfl (fun K hK => ?_) (AllReadyIn.cons rfl (fun K hK => ?_) AllReadyIn.nil)
          · go_simp
            refine hK _ _ ?_
            clear hK K
            refine wpAnyIn_ready (rs := [3]) (by kernel_rfl) (by simp) ?_
            refine AllReadyIn.cons rfl (fun K hK => ?_) AllReadyIn.nil
            go_simp
            refine hK _ _ ?_
            clear hK K
            refine wpAnyIn_ready (rs := [4]) (by kernel_rfl) (by simp) ?_
            refine AllReadyIn.cons rfl (fun K hK => ?_) AllReadyIn.nil
            go_simp
            refine ⟨trivial, ?_⟩
            gi_at_call 52
            refine (CallsIn.inRound l (callsIn_wide.2 HLv.out)).mono ?_
            rintro e W2 ⟨Al, cl, rfl, hRl, hAl, hIl, hGl⟩
            have k2 : W2.heap[w.heap.size + 1]? = W1.heap[w.heap.size + 1]? := hGl.block _ (by show w.heap.size + 1 < W1.heap.size; omega) (fun h => (dG _ h).2.1 rfl)
            have o2 := (World.cell?_of_block (a := ⟨w.heap.size + 1, 0, none⟩) k2).trans o0
            have of2 := (World.frozen?_of_block (a := ⟨w.heap.size + 1, 0, none⟩) k2).trans of
            have hR2 := (show Row W1.drew 3 1 A' st.1.length c' (ints st.1) from hR).grew hGl (fun k hk h => (dG k h).2.2 hk)
            refine hK _ _ ?_
            clear hK K
            refine wpAnyIn_ready (rs := [5]) (by kernel_rfl) (by simp) ?_
            refine AllReadyIn.cons rfl (fun K hK => ?_) AllReadyIn.nil
            refine step_append_any_in rfl (.tmp 20) (.tmp 24) 29 rfl 3 (.int .i64 0) 1 8 Tryz.underlying29 info3 rfl A' st.1.length c' (ints st.1) (by simp [Act.eval, Act.put]) hR2 Al _ cl _ (by simp [Act.eval, Act.put]) hRl (by decide) (ints_one _) (by have := HLn.out; unfold maxLen; omega) (by have := HLn.out; omega) ?_
            intro A2 c2 W3 hR3 hG3 hA3
            have k3 : W3.heap[w.heap.size + 1]? = W2.heap[w.heap.size + 1]? := hG3.block _ (by have := hGl.size; have h1 : W1.drew.heap.size = W1.heap.size := rfl; omega) (fun h => by have := hA9 _ h; omega)
            have o3 := (World.cell?_of_block (a := ⟨w.heap.size + 1, 0, none⟩) k3).trans o2
            have of3 := (World.frozen?_of_block (a := ⟨w.heap.size + 1, 0, none⟩) k3).trans of2
            refine hK _ _ ?_
            clear hK K
            refine wpAnyIn_ready (rs := [6]) (by kernel_rfl) (by simp) ?_
            refine AllReadyIn.cons rfl (fun K hK => ?_) AllReadyIn.nil
            go_simp
            refine hK _ _ ?_
            clear hK K
            refine wpAnyIn_done (by kernel_rfl) ?_ _
            gi_wp2
            obtain ⟨q1, q2, q3⟩ := hclose W2 W3 _ _ Al cl _ A2 c2 hIl HDA.out ⟨hGl.os, hGl.tape, hGl.output, hGl.size, hGl.block⟩ hRl hAl hR3 hG3 hA3
            refine ⟨KeepsFrom.trans ⟨hb.size, fun k o _ hk _ => (hb.block k (Array.getElem?_eq_some_iff.1 hk).1).trans hk⟩ (by rw [s3]; exact q2), Keep2.trans ⟨hb.block g (by omega), hb.block _ (by omega)⟩ q3, ?_⟩
            rw [HG.out, HV.out]
            exact q1
          · go_simp
            refine hK _ _ ?_
            clear hK K
            refine wpAnyIn_ready (rs := [0, 4]) (by kernel_rfl) (by simp) ?_
            refine AllReadyIn.cons rfl (fun K hK => ?_) (AllReadyIn.cons rfl (fun K hK => ?_) AllReadyIn.nil)
            · go_simp
              refine hK _ _ ?_
              clear hK K
              refine wpAnyIn_ready (rs := [4]) (by kernel_rfl) (by simp) ?_
              refine AllReadyIn.cons rfl (fun K hK => ?_) AllReadyIn.nil
              go_simp
              refine ⟨trivial, ?_⟩
              gi_at_call 52
              refine (CallsIn.inRound l (callsIn_wide.2 HLv.out)).mono ?_
              rintro e W2 ⟨Al, cl, rfl, hRl, hAl, hIl, hGl⟩
              have k2 : W2.heap[w.heap.size + 1]? = W1.heap[w.heap.size + 1]? := hGl.block _ (by show w.heap.size + 1 < W1.heap.size; omega) (fun h => (dG _ h).2.1 rfl)
              have o2 := (World.cell?_of_block (a := ⟨w.heap.size + 1, 0, none⟩) k2).trans o0
              have of2 := (World.frozen?_of_block (a := ⟨w.heap.size + 1, 0, none⟩) k2).trans of
              have hR2 := (show Row W1.drew 3 1 A' st.1.length c' (ints st.1) from hR).grew hGl (fun k hk h => (dG k h).2.2 hk)
              refine hK _ _ ?_
              clear hK K
              refine wpAnyIn_ready (rs := [5]) (by kernel_rfl) (by simp) ?_
              refine AllReadyIn.cons rfl (fun K hK => ?_) AllReadyIn.nil
              refine step_append_any_in rfl (.tmp 20) (.tmp 24) 29 rfl 3 (.int .i64 0) 1 8 Tryz.underlying29 info3 rfl A' st.1.length c' (ints st.1) (by simp [Act.eval, Act.put]) hR2 Al _ cl _ (by simp [Act.eval, Act.put]) hRl (by decide) (ints_one _) (by have := HLn.out; unfold maxLen; omega) (by have := HLn.out; omega) ?_
              intro A2 c2 W3 hR3 hG3 hA3
              have k3 : W3.heap[w.heap.size + 1]? = W2.heap[w.heap.size + 1]? := hG3.block _ (by have := hGl.size; have h1 : W1.drew.heap.size = W1.heap.size := rfl; omega) (fun h => by have := hA9 _ h; omega)
              have o3 := (World.cell?_of_block (a := ⟨w.heap.size + 1, 0, none⟩) k3).trans o2
              have of3 := (World.frozen?_of_block (a := ⟨w.heap.size + 1, 0, none⟩) k3).trans of2
              refine hK _ _ ?_
              clear hK K
              refine wpAnyIn_ready (rs := [6]) (by kernel_rfl) (by simp) ?_
              refine AllReadyIn.cons rfl (fun K hK => ?_) AllReadyIn.nil
              go_simp
              refine hK _ _ ?_
              clear hK K
              refine wpAnyIn_done (by kernel_rfl) ?_ _
              gi_wp2
              obtain ⟨q1, q2, q3⟩ := hclose W2 W3 _ _ Al cl _ A2 c2 hIl HDA.out ⟨hGl.os, hGl.tape, hGl.output, hGl.size, hGl.block⟩ hRl hAl hR3 hG3 hA3
              refine ⟨KeepsFrom.trans ⟨hb.size, fun k o _ hk _ => (hb.block k (Array.getElem?_eq_some_iff.1 hk).1).trans hk⟩ (by rw [s3]; exact q2), Keep2.trans ⟨hb.block g (by omega), hb.block _ (by omega)⟩ q3, ?_⟩
              rw [HG.out, HV.out]
              exact q1
            · go_simp
              refine ⟨trivial, ?_⟩
              gi_at_call 52
              refine (CallsIn.inRound l (callsIn_wide.2 HLv.out)).mono ?_
              rintro e W2 ⟨Al, cl, rfl, hRl, hAl, hIl, hGl⟩
              have k2 : W2.heap[w.heap.size + 1]? = W1.heap[w.heap.size + 1]? := hGl.block _ (by show w.heap.size + 1 < W1.heap.size; omega) (fun h => (dG _ h).2.1 rfl)
              have o2 := (World.cell?_of_block (a := ⟨w.heap.size + 1, 0, none⟩) k2).trans o0
              have of2 := (World.frozen?_of_block (a := ⟨w.heap.size + 1, 0, none⟩) k2).trans of
              have hR2 := (show Row W1.drew 3 1 A' st.1.length c' (ints st.1) from hR).grew hGl (fun k hk h => (dG k h).2.2 hk)
              refine hK _ _ ?_
              clear hK K
              refine wpAnyIn_ready (rs := [0]) (by kernel_rfl) (by simp) ?_
              refine AllReadyIn.cons rfl (fun K hK => ?_) AllReadyIn.nil
              go_simp
              refine hK _ _ ?_
              clear hK K
              refine wpAnyIn_ready (rs := [5]) (by kernel_rfl) (by simp) ?_
              refine AllReadyIn.cons rfl (fun K hK => ?_) AllReadyIn.nil
              refine step_append_any_in rfl (.tmp 20) (.tmp 24) 29 rfl 3 (.int .i64 0) 1 8 Tryz.underlying29 info3 rfl A' st.1.length c' (ints st.1) (by simp [Act.eval, Act.put]) hR2 Al _ cl _ (by simp [Act.eval, Act.put]) hRl (by decide) (ints_one _) (by have := HLn.out; unfold maxLen; omega) (by have := HLn.out; omega) ?_
              intro A2 c2 W3 hR3 hG3 hA3
              have k3 : W3.heap[w.heap.size + 1]? = W2.heap[w.heap.size + 1]? := hG3.block _ (by have := hGl.size; have h1 : W1.drew.heap.size = W1.heap.size := rfl; omega) (fun h => by have := hA9 _ h; omega)
              have o3 := (World.cell?_of_block (a := ⟨w.heap.size + 1, 0, none⟩) k3).trans o2
              have of3 := (World.frozen?_of_block (a := ⟨w.heap.size + 1, 0, none⟩) k3).trans of2
              refine hK _ _ ?_
              clear hK K
              refine wpAnyIn_ready (rs := [6]) (by kernel_rfl) (by simp) ?_
              refine AllReadyIn.cons rfl (fun K hK => ?_) AllReadyIn.nil
              go_simp
              refine hK _ _ ?_
              clear hK K
              refine wpAnyIn_done (by kernel_rfl) ?_ _
              gi_wp2
              obtain ⟨q1, q2, q3⟩ := hclose W2 W3 _ _ Al cl _ A2 c2 hIl HDA.out ⟨hGl.os, hGl.tape, hGl.output, hGl.size, hGl.block⟩ hRl hAl hR3 hG3 hA3
              refine ⟨KeepsFrom.trans ⟨hb.size, fun k o _ hk _ => (hb.block k (Array.getElem?_eq_some_iff.1 hk).1).trans hk⟩ (by rw [s3]; exact q2), Keep2.trans ⟨hb.block g (by omega), hb.block _ (by omega)⟩ q3, ?_⟩
              rw [HG.out, HV.out]
              exact q1
        · go_simp
          refine hK _ _ ?_
          clear hK K
          refine wpAnyIn_ready (rs := [0, 2]) (by kernel_rfl) (by simp) ?_
          refine AllReadyIn.cons rfl (fun K hK => ?_) (AllReadyIn.cons rfl (fun K hK => ?_) AllReadyIn.nil)
          · go_simp
            refine hK _ _ ?_
            clear hK K
            refine wpAnyIn_ready (rs := [2]) (by kernel_rfl) (by simp) ?_
            refine AllReadyIn.cons rfl (fun K hK => ?_) AllReadyIn.nil
            go_simp
            refine hK _ _ ?_
            clear hK K
            refine wpAnyIn_ready (rs := [4]) (by kernel_rfl) (by simp) ?_
            refine AllReadyIn.cons rfl (fun K hK => ?_) AllReadyIn.nil
            go_simp
            refine ⟨trivial, ?_⟩
            gi_at_call 52
            refine (CallsIn.inRound l (callsIn_wide.2 HLv.out)).mono ?_
            rintro e W2 ⟨Al, cl, rfl, hRl, hAl, hIl, hGl⟩
            have k2 : W2.heap[w.heap.size + 1]? = W1.heap[w.heap.size + 1]? := hGl.block _ (by show w.heap.size + 1 < W1.heap.size; omega) (fun h => (dG _ h).2.1 rfl)
            have o2 := (World.cell?_of_block (a := ⟨w.heap.size + 1, 0, none⟩) k2).trans o0
            have of2 := (World.frozen?_of_block (a := ⟨w.heap.size + 1, 0, none⟩) k2).trans of
            have hR2 := (show Row W1.drew 3 1 A' st.1.length c' (ints st.1) from hR).grew hGl (fun k hk h => (dG k h).2.2 hk)
            refine hK _ _ ?_
            clear hK K
            refine wpAnyIn_ready (rs := [5]) (by kernel_rfl) (by simp) ?_
            refine AllReadyIn.cons rfl (fun K hK => ?_) AllReadyIn.nil
            refine step_append_any_in rfl (.tmp 20) (.tmp 24) 29 rfl 3 (.int .i64 0) 1 8 Tryz.underlying29 info3 rfl A' st.1.length c' (ints st.1) (by simp [Act.eval, Act.put]) hR2 Al _ cl _ (by simp [Act.eval, Act.put]) hRl (by decide) (ints_one _) (by have := HLn.out; unfold maxLen; omega) (by have := HLn.out; omega) ?_
            intro A2 c2 W3 hR3 hG3 hA3
            have k3 : W3.heap[w.heap.size + 1]? = W2.heap[w.heap.size + 1]? := hG3.block _ (by have := hGl.size; have h1 : W1.drew.heap.size = W1.heap.size := rfl; omega) (fun h => by have := hA9 _ h; omega)
            have o3 := (World.cell?_of_block (a := ⟨w.heap.size + 1, 0, none⟩) k3).trans o2
            have of3 := (World.frozen?_of_block (a := ⟨w.heap.size + 1, 0, none⟩) k3).trans of2
            refine hK _ _ ?_
            clear hK K
            refine wpAnyIn_ready (rs := [6]) (by kernel_rfl) (by simp) ?_
            refine AllReadyIn.cons rfl (fun K hK => ?_) AllReadyIn.nil
            go_simp
            refine hK _ _ ?_
            clear hK K
            refine wpAnyIn_done (by kernel_rfl) ?_ _
            gi_wp2
            obtain ⟨q1, q2, q3⟩ := hclose W2 W3 _ _ Al cl _ A2 c2 hIl HDA.out ⟨hGl.os, hGl.tape, hGl.output, hGl.size, hGl.block⟩ hRl hAl hR3 hG3 hA3
            refine ⟨KeepsFrom.trans ⟨hb.size, fun k o _ hk _ => (hb.block k (Array.getElem?_eq_some_iff.1 hk).1).trans hk⟩ (by rw [s3]; exact q2), Keep2.trans ⟨hb.block g (by omega), hb.block _ (by omega)⟩ q3, ?_⟩
            rw [HG.out, HV.out]
            exact q1
          · go_simp
            refine hK _ _ ?_
            clear hK K
            refine wpAnyIn_ready (rs := [0, 4]) (by kernel_rfl) (by simp) ?_
            refine AllReadyIn.cons rfl (fun K hK => ?_) (AllReadyIn.cons rfl (fun K hK => ?_) AllReadyIn.nil)
            · go_simp
              refine hK _ _ ?_
              clear hK K
              refine wpAnyIn_ready (rs := [4]) (by kernel_rfl) (by simp) ?_
              refine AllReadyIn.cons rfl (fun K hK => ?_) AllReadyIn.nil
              go_simp
              refine ⟨trivial, ?_⟩
              gi_at_call 52
              refine (CallsIn.inRound l (callsIn_wide.2 HLv.out)).mono ?_
              rintro e W2 ⟨Al, cl, rfl, hRl, hAl, hIl, hGl⟩
              have k2 : W2.heap[w.heap.size + 1]? = W1.heap[w.heap.size + 1]? := hGl.block _ (by show w.heap.size + 1 < W1.heap.size; omega) (fun h => (dG _ h).2.1 rfl)
              have o2 := (World.cell?_of_block (a := ⟨w.heap.size + 1, 0, none⟩) k2).trans o0
              have of2 := (World.frozen?_of_block (a := ⟨w.heap.size + 1, 0, none⟩) k2).trans of
              have hR2 := (show Row W1.drew 3 1 A' st.1.length c' (ints st.1) from hR).grew hGl (fun k hk h => (dG k h).2.2 hk)
              refine hK _ _ ?_
              clear hK K
              refine wpAnyIn_ready (rs := [5]) (by kernel_rfl) (by simp) ?_
              refine AllReadyIn.cons rfl (fun K hK => ?_) AllReadyIn.nil
              refine step_append_any_in rfl (.tmp 20) (.tmp 24) 29 rfl 3 (.int .i64 0) 1 8 Tryz.underlying29 info3 rfl A' st.1.length c' (ints st.1) (by simp [Act.eval, Act.put]) hR2 Al _ cl _ (by simp [Act.eval, Act.put]) hRl (by decide) (ints_one _) (by have := HLn.out; unfold maxLen; omega) (by have := HLn.out; omega) ?_
              intro A2 c2 W3 hR3 hG3 hA3
              have k3 : W3.heap[w.heap.size + 1]? = W2.heap[w.heap.size + 1]? := hG3.block _ (by have := hGl.size; have h1 : W1.drew.heap.size = W1.heap.size := rfl; omega) (fun h => by have := hA9 _ h; omega)
              have o3 := (World.cell?_of_block (a := ⟨w.heap.size + 1, 0, none⟩) k3).trans o2
              have of3 := (World.frozen?_of_block (a := ⟨w.heap.size + 1, 0, none⟩) k3).trans of2
              refine hK _ _ ?_
              clear hK K
              refine wpAnyIn_ready (rs := [6]) (by kernel_rfl) (by simp) ?_
              refine AllReadyIn.cons rfl (fun K hK => ?_) AllReadyIn.nil
              go_simp
              refine hK _ _ ?_
              clear hK K
              refine wpAnyIn_done (by kernel_rfl) ?_ _
              gi_wp2
              obtain ⟨q1, q2, q3⟩ := hclose W2 W3 _ _ Al cl _ A2 c2 hIl HDA.out ⟨hGl.os, hGl.tape, hGl.output, hGl.size, hGl.block⟩ hRl hAl hR3 hG3 hA3
              refine ⟨KeepsFrom.trans ⟨hb.size, fun k o _ hk _ => (hb.block k (Array.getElem?_eq_some_iff.1 hk).1).trans hk⟩ (by rw [s3]; exact q2), Keep2.trans ⟨hb.block g (by omega), hb.block _ (by omega)⟩ q3, ?_⟩
              rw [HG.out, HV.out]
              exact q1
            · go_simp
              refine ⟨trivial, ?_⟩
              gi_at_call 52
              refine (CallsIn.inRound l (callsIn_wide.2 HLv.out)).mono ?_
              rintro e W2 ⟨Al, cl, rfl, hRl, hAl, hIl, hGl⟩
              have k2 : W2.heap[w.heap.size + 1]? = W1.heap[w.heap.size + 1]? := hGl.block _ (by show w.heap.size + 1 < W1.heap.size; omega) (fun h => (dG _ h).2.1 rfl)
              have o2 := (World.cell?_of_block (a := ⟨w.heap.size + 1, 0, none⟩) k2).trans o0
              have of2 := (World.frozen?_of_block (a := ⟨w.heap.size + 1, 0, none⟩) k2).trans of
              have hR2 := (show Row W1.drew 3 1 A' st.1.length c' (ints st.1) from hR).grew hGl (fun k hk h => (dG k h).2.2 hk)
              refine hK _ _ ?_
              clear hK K
              refine wpAnyIn_ready (rs := [0]) (by kernel_rfl) (by simp) ?_
              refine AllReadyIn.cons rfl (fun K hK => ?_) AllReadyIn.nil
              go_simp
              refine hK _ _ ?_
              clear hK K
              refine wpAnyIn_ready (rs := [5]) (by kernel_rfl) (by simp) ?_
              refine AllReadyIn.cons rfl (fun K hK => ?_) AllReadyIn.nil
              refine step_append_any_in rfl (.tmp 20) (.tmp 24) 29 rfl 3 (.int .i64 0) 1 8 Tryz.underlying29 info3 rfl A' st.1.length c' (ints st.1) (by simp [Act.eval, Act.put]) hR2 Al _ cl _ (by simp [Act.eval, Act.put]) hRl (by decide) (ints_one _) (by have := HLn.out; unfold maxLen; omega) (by have := HLn.out; omega) ?_
              intro A2 c2 W3 hR3 hG3 hA3
              have k3 : W3.heap[w.heap.size + 1]? = W2.heap[w.heap.size + 1]? := hG3.block _ (by have := hGl.size; have h1 : W1.drew.heap.size = W1.heap.size := rfl; omega) (fun h => by have := hA9 _ h; omega)
              have o3 := (World.cell?_of_block (a := ⟨w.heap.size + 1, 0, none⟩) k3).trans o2
              have of3 := (World.frozen?_of_block (a := ⟨w.heap.size + 1, 0, none⟩) k3).trans of2
              refine hK _ _ ?_
              clear hK K
              refine wpAnyIn_ready (rs := [6]) (by kernel_rfl) (by simp) ?_
              refine AllReadyIn.cons rfl (fun K hK => ?_) AllReadyIn.nil
              go_simp
              refine hK _ _ ?_
              clear hK K
              refine wpAnyIn_done (by kernel_rfl) ?_ _
              gi_wp2
              obtain ⟨q1, q2, q3⟩ := hclose W2 W3 _ _ Al cl _ A2 c2 hIl HDA.out ⟨hGl.os, hGl.tape, hGl.output, hGl.size, hGl.block⟩ hRl hAl hR3 hG3 hA3
              refine ⟨KeepsFrom.trans ⟨hb.size, fun k o _ hk _ => (hb.block k (Array.getElem?_eq_some_iff.1 hk).1).trans hk⟩ (by rw [s3]; exact q2), Keep2.trans ⟨hb.block g (by omega), hb.block _ (by omega)⟩ q3, ?_⟩
              rw [HG.out, HV.out]
              exact q1
      · go_simp
        refine hK _ _ ?_
        clear hK K
        refine wpAnyIn_ready (rs := [0, 1]) (by kernel_rfl) (by simp) ?_
        refine AllReadyIn.cons rfl (fun K hK => ?_) (AllReadyIn.cons rfl (fun K hK => ?_) AllReadyIn.nil)
        · go_simp
          refine hK _ _ ?_
          clear hK K
          refine wpAnyIn_ready (rs := [1]) (by kernel_rfl) (by simp) ?_
          refine AllReadyIn.cons rfl (fun K hK => ?_) AllReadyIn.nil
          go_simp
          refine hK _ _ ?_
          clear hK K
          refine wpAnyIn_ready (rs := [2]) (by kernel_rfl) (by simp) ?_
          refine AllReadyIn.cons rfl (fun K hK => ?_) AllReadyIn.nil
          go_simp
          refine hK _ _ ?_
          clear hK K
          refine wpAnyIn_ready (rs := [4]) (by kernel_rfl) (by simp) ?_
          refine AllReadyIn.cons rfl (fun K hK => ?_) AllReadyIn.nil
          go_simp
          refine ⟨trivial, ?_⟩
          gi_at_call 52
          refine (CallsIn.inRound l (callsIn_wide.2 HLv.out)).mono ?_
          rintro e W2 ⟨Al, cl, rfl, hRl, hAl, hIl, hGl⟩
          have k2 : W2.heap[w.heap.size + 1]? = W1.heap[w.heap.size + 1]? := hGl.block _ (by show w.heap.size + 1 < W1.heap.size; omega) (fun h => (dG _ h).2.1 rfl)
          have o2 := (World.cell?_of_block (a := ⟨w.heap.size + 1, 0, none⟩) k2).trans o0
          have of2 := (World.frozen?_of_block (a := ⟨w.heap.size + 1, 0, none⟩) k2).trans of
          have hR2 := (show Row W1.drew 3 1 A' st.1.length c' (ints st.1) from hR).grew hGl (fun k hk h => (dG k h).2.2 hk)
          refine hK _ _ ?_
          clear hK K
          refine wpAnyIn_ready (rs := [5]) (by kernel_rfl) (by simp) ?_
          refine AllReadyIn.cons rfl (fun K hK => ?_) AllReadyIn.nil
          refine step_append_any_in rfl (.tmp 20) (.tmp 24) 29 rfl 3 (.int .i64 0) 1 8 Tryz.underlying29 info3 rfl A' st.1.length c' (ints st.1) (by simp [Act.eval, Act.put]) hR2 Al _ cl _ (by simp [Act.eval, Act.put]) hRl (by decide) (ints_one _) (by have := HLn.out; unfold maxLen; omega) (by have := HLn.out; omega) ?_
          intro A2 c2 W3 hR3 hG3 hA3
          have k3 : W3.heap[w.heap.size + 1]? = W2.heap[w.heap.size + 1]? := hG3.block _ (by have := hGl.size; have h1 : W1.drew.heap.size = W1.heap.size := rfl; omega) (fun h => by have := hA9 _ h; omega)
          have o3 := (World.cell?_of_block (a := ⟨w.heap.size + 1, 0, none⟩) k3).trans o2
          have of3 := (World.frozen?_of_block (a := ⟨w.heap.size + 1, 0, none⟩) k3).trans of2
          refine hK _ _ ?_
          clear hK K
          refine wpAnyIn_ready (rs := [6]) (by kernel_rfl) (by simp) ?_
          refine AllReadyIn.cons rfl (fun K hK => ?_) AllReadyIn.nil
          go_simp
          refine hK _ _ ?_
          clear hK K
          refine wpAnyIn_done (by kernel_rfl) ?_ _
          gi_wp2
          obtain ⟨q1, q2, q3⟩ := hclose W2 W3 _ _ Al cl _ A2 c2 hIl HDA.out ⟨hGl.os, hGl.tape, hGl.output, hGl.size, hGl.block⟩ hRl hAl hR3 hG3 hA3
          refine ⟨KeepsFrom.trans ⟨hb.size, fun k o _ hk _ => (hb.block k (Array.getElem?_eq_some_iff.1 hk).1).trans hk⟩ (by rw [s3]; exact q2), Keep2.trans ⟨hb.block g (by omega), hb.block _ (by omega)⟩ q3, ?_⟩
          rw [HG.out, HV.out]
          exact q1
        · go_simp
          refine hK _ _ ?_
          clear hK K
          refine wpAnyIn_ready (rs := [0, 2]) (by kernel_rfl) (by simp) ?_
          refine AllReadyIn.cons rfl (fun K hK => ?_) (AllReadyIn.cons rfl (fun K hK => ?_) AllReadyIn.nil)
          · go_simp
            refine hK _ _ ?_
            clear hK K
            refine wpAnyIn_ready (rs := [2]) (by kernel_rfl) (by simp) ?_
            refine AllReadyIn.cons rfl (fun K hK => ?_) AllReadyIn.nil
            go_simp
            refine hK _ _ ?_
            clear hK K
            refine wpAnyIn_ready (rs := [4]) (by kernel_rfl) (by simp) ?_
            refine AllReadyIn.cons rfl (fun K hK => ?_) AllReadyIn.nil
            go_simp
            refine ⟨trivial, ?_⟩
            gi_at_call 52
            refine (CallsIn.inRound l (callsIn_wide.2 HLv.out)).mono ?_
            rintro e W2 ⟨Al, cl, rfl, hRl, hAl, hIl, hGl⟩
            have k2 : W2.heap[w.heap.size + 1]? = W1.heap[w.heap.size + 1]? := hGl.block _ (by show w.heap.size + 1 < W1.heap.size; omega) (fun h => (dG _ h).2.1 rfl)
            have o2 := (World.cell?_of_block (a := ⟨w.heap.size + 1, 0, none⟩) k2).trans o0
            have of2 := (World.frozen?_of_block (a := ⟨w.heap.size + 1, 0, none⟩) k2).trans of
            have hR2 := (show Row W1.drew 3 1 A' st.1.length c' (ints st.1) from hR).grew hGl (fun k hk h => (dG k h).2.2 hk)
            refine hK _ _ ?_
            clear hK K
            refine wpAnyIn_ready (rs := [5]) (by kernel_rfl) (by simp) ?_
            refine AllReadyIn.cons rfl (fun K hK => ?_) AllReadyIn.nil
            refine step_append_any_in rfl (.tmp 20) (.tmp 24) 29 rfl 3 (.int .i64 0) 1 8 Tryz.underlying29 info3 rfl A' st.1.length c' (ints st.1) (by simp [Act.eval, Act.put]) hR2 Al _ cl _ (by simp [Act.eval, Act.put]) hRl (by decide) (ints_one _) (by have := HLn.out; unfold maxLen; omega) (by have := HLn.out; omega) ?_
            intro A2 c2 W3 hR3 hG3 hA3
            have k3 : W3.heap[w.heap.size + 1]? = W2.heap[w.heap.size + 1]? := hG3.block _ (by have := hGl.size; have h1 : W1.drew.heap.size = W1.heap.size := rfl; omega) (fun h => by have := hA9 _ h; omega)
            have o3 := (World.cell?_of_block (a := ⟨w.heap.size + 1, 0, none⟩) k3).trans o2
            have of3 := (World.frozen?_of_block (a := ⟨w.heap.size + 1, 0, none⟩) k3).trans of2
            refine hK _ _ ?_
            clear hK K
            refine wpAnyIn_ready (rs := [6]) (by kernel_rfl) (by simp) ?_
            refine AllReadyIn.cons rfl (fun K hK => ?_) AllReadyIn.nil
            go_simp
            refine hK _ _ ?_
            clear hK K
            refine wpAnyIn_done (by kernel_rfl) ?_ _
            gi_wp2
            obtain ⟨q1, q2, q3⟩ := hclose W2 W3 _ _ Al cl _ A2 c2 hIl HDA.out ⟨hGl.os, hGl.tape, hGl.output, hGl.size, hGl.block⟩ hRl hAl hR3 hG3 hA3
            refine ⟨KeepsFrom.trans ⟨hb.size, fun k o _ hk _ => (hb.block k (Array.getElem?_eq_some_iff.1 hk).1).trans hk⟩ (by rw [s3]; exact q2), Keep2.trans ⟨hb.block g (by omega), hb.block _ (by omega)⟩ q3, ?_⟩
            rw [HG.out, HV.out]
            exact q1
          · go_simp
            refine hK _ _ ?_
            clear hK K
            refine wpAnyIn_ready (rs := [0, 4]) (by kernel_rfl) (by simp) ?_
            refine AllReadyIn.cons rfl (fun K hK => ?_) (AllReadyIn.cons rfl (fun K hK => ?_) AllReadyIn.nil)
            · go_simp
              refine hK _ _ ?_
              clear hK K
              refine wpAnyIn_ready (rs := [4]) (by kernel_rfl) (by simp) ?_
              refine AllReadyIn.cons rfl (fun K hK => ?_) AllReadyIn.nil
              go_simp
              refine ⟨trivial, ?_⟩
              gi_at_call 52
              refine (CallsIn.inRound l (callsIn_wide.2 HLv.out)).mono ?_
              rintro e W2 ⟨Al, cl, rfl, hRl, hAl, hIl, hGl⟩
              have k2 : W2.heap[w.heap.size + 1]? = W1.heap[w.heap.size + 1]? := hGl.block _ (by show w.heap.size + 1 < W1.heap.size; omega) (fun h => (dG _ h).2.1 rfl)
              have o2 := (World.cell?_of_block (a := ⟨w.heap.size + 1, 0, none⟩) k2).trans o0
              have of2 := (World.frozen?_of_block (a := ⟨w.heap.size + 1, 0, none⟩) k2).trans of
              have hR2 := (show Row W1.drew 3 1 A' st.1.length c' (ints st.1) from hR).grew hGl (fun k hk h => (dG k h).2.2 hk)
              refine hK _ _ ?_
              clear hK K
              refine wpAnyIn_ready (rs := [5]) (by kernel_rfl) (by simp) ?_
              refine AllReadyIn.cons rfl (fun K hK => ?_) AllReadyIn.nil
              refine step_append_any_in rfl (.tmp 20) (.tmp 24) 29 rfl 3 (.int .i64 0) 1 8 Tryz.underlying29 info3 rfl A' st.1.length c' (ints st.1) (by simp [Act.eval, Act.put]) hR2 Al _ cl _ (by simp [Act.eval, Act.put]) hRl (by decide) (ints_one _) (by have := HLn.out; unfold maxLen; omega) (by have := HLn.out; omega) ?_
              intro A2 c2 W3 hR3 hG3 hA3
              have k3 : W3.heap[w.heap.size + 1]? = W2.heap[w.heap.size + 1]? := hG3.block _ (by have := hGl.size; have h1 : W1.drew.heap.size = W1.heap.size := rfl; omega) (fun h => by have := hA9 _ h; omega)
              have o3 := (World.cell?_of_block (a := ⟨w.heap.size + 1, 0, none⟩) k3).trans o2
              have of3 := (World.frozen?_of_block (a := ⟨w.heap.size + 1, 0, none⟩) k3).trans of2
              refine hK _ _ ?_
              clear hK K
              refine wpAnyIn_ready (rs := [6]) (by kernel_rfl) (by simp) ?_
              refine AllReadyIn.cons rfl (fun K hK => ?_) AllReadyIn.nil
              go_simp
              refine hK _ _ ?_
              clear hK K
              refine wpAnyIn_done (by kernel_rfl) ?_ _
              gi_wp2
              obtain ⟨q1, q2, q3⟩ := hclose W2 W3 _ _ Al cl _ A2 c2 hIl HDA.out ⟨hGl.os, hGl.tape, hGl.output, hGl.size, hGl.block⟩ hRl hAl hR3 hG3 hA3
              refine ⟨KeepsFrom.trans ⟨hb.size, fun k o _ hk _ => (hb.block k (Array.getElem?_eq_some_iff.1 hk).1).trans hk⟩ (by rw [s3]; exact q2), Keep2.trans ⟨hb.block g (by omega), hb.block _ (by omega)⟩ q3, ?_⟩
              rw [HG.out, HV.out]
              exact q1
            · go_simp
              refine ⟨trivial, ?_⟩
              gi_at_call 52
              refine (CallsIn.inRound l (callsIn_wide.2 HLv.out)).mono ?_
              rintro e W2 ⟨Al, cl, rfl, hRl, hAl, hIl, hGl⟩
              have k2 : W2.heap[w.heap.size + 1]? = W1.heap[w.heap.size + 1]? := hGl.block _ (by show w.heap.size + 1 < W1.heap.size; omega) (fun h => (dG _ h).2.1 rfl)
              have o2 := (World.cell?_of_block (a := ⟨w.heap.size + 1, 0, none⟩) k2).trans o0
              have of2 := (World.frozen?_of_block (a := ⟨w.heap.size + 1, 0, none⟩) k2).trans of
              have hR2 := (show Row W1.drew 3 1 A' st.1.length c' (ints st.1) from hR).grew hGl (fun k hk h => (dG k h).2.2 hk)
              refine hK _ _ ?_
              clear hK K
              refine wpAnyIn_ready (rs := [0]) (by kernel_rfl) (by simp) ?_
              refine AllReadyIn.cons rfl (fun K hK => ?_) AllReadyIn.nil
              go_simp
              refine hK _ _ ?_
              clear hK K
              refine wpAnyIn_ready (rs := [5]) (by kernel_rfl) (by simp) ?_
              refine AllReadyIn.cons rfl (fun K hK => ?_) AllReadyIn.nil
              refine step_append_any_in rfl (.tmp 20) (.tmp 24) 29 rfl 3 (.int .i64 0) 1 8 Tryz.underlying29 info3 rfl A' st.1.length c' (ints st.1) (by simp [Act.eval, Act.put]) hR2 Al _ cl _ (by simp [Act.eval, Act.put]) hRl (by decide) (ints_one _) (by have := HLn.out; unfold maxLen; omega) (by have := HLn.out; omega) ?_
              intro A2 c2 W3 hR3 hG3 hA3
              have k3 : W3.heap[w.heap.size + 1]? = W2.heap[w.heap.size + 1]? := hG3.block _ (by have := hGl.size; have h1 : W1.drew.heap.size = W1.heap.size := rfl; omega) (fun h => by have := hA9 _ h; omega)
              have o3 := (World.cell?_of_block (a := ⟨w.heap.size + 1, 0, none⟩) k3).trans o2
              have of3 := (World.frozen?_of_block (a := ⟨w.heap.size + 1, 0, none⟩) k3).trans of2
              refine hK _ _ ?_
              clear hK K
              refine wpAnyIn_ready (rs := [6]) (by kernel_rfl) (by simp) ?_
              refine AllReadyIn.cons rfl (fun K hK => ?_) AllReadyIn.nil
              go_simp
              refine hK _ _ ?_
              clear hK K
              refine wpAnyIn_done (by kernel_rfl) ?_ _
              gi_wp2
              obtain ⟨q1, q2, q3⟩ := hclose W2 W3 _ _ Al cl _ A2 c2 hIl HDA.out ⟨hGl.os, hGl.tape, hGl.output, hGl.size, hGl.block⟩ hRl hAl hR3 hG3 hA3
              refine ⟨KeepsFrom.trans ⟨hb.size, fun k o _ hk _ => (hb.block k (Array.getElem?_eq_some_iff.1 hk).1).trans hk⟩ (by rw [s3]; exact q2), Keep2.trans ⟨hb.block g (by omega), hb.block _ (by omega)⟩ q3, ?_⟩
              rw [HG.out, HV.out]
              exact q1
  case done =>
    rintro D ys W hD hS hI hK
    have hI : DropS w b m g F most N f who (visits who ls (ys.map (·.1))) W := hI
    rw [hS, visits_down (Nat.le_refl _), Nat.sub_self] at hI
    gi_wp2
    rename_i K0 hK0
    obtain ⟨FT, A', c', hT, i2, i3, i4, i5, i6, i7, i8, i9, i10, i11, -, -, -, cs2, i15⟩ := hI
    dsimp only at hT i5 i8
    have HX := Aside0.mk (And.intro i2 (And.intro i3 (And.intro i9 (And.intro i10 (show w.heap.size + 1 < W.heap.size by omega)))))
    have w0 : W.cell? ⟨w.heap.size, 0, none⟩ = some (.int .i64 who) := (blk_cell i4 0).trans rfl
    have HO := Aside0.mk (show W.cell? ⟨w.heap.size + 1, 0, none⟩ = some (.slice A' (dropO ls who 0).length c') from (blk_cell i5 0).trans rfl)
    have HR := Aside0.mk i8
    have HT := Aside0.mk hT
    have e2 : W.cell? ⟨b, 2, none⟩ = some (.map (some m)) := (World.cell?_of_block (a := ⟨b, 2, none⟩) i6).trans cm
    have HE2 := Aside0.mk e2
    have hbk : ∃ cs t z, W.heap[b]? = some (.cells cs t z) := by
      obtain ⟨sA, sc', m', bs', G', h1, _⟩ := hT
      exact ⟨_, _, _, h1⟩
    obtain ⟨bcs, bt, bz, hbk⟩ := hbk
    have HBk := Aside0.mk hbk
    clear hbk
    have HKD := Aside0.mk (And.intro hD hK)
    have HOP := Aside0.mk (fun (wr : World) (f1 : At) (hT1 : IsTab wr b FT (dropL ls who 0) most N f1) (he : wr.cell? ⟨b, 2, none⟩ = some (.map (some m))) => (show MapAt wr m N f1 ∧ FT m ∧ (∀ w1 N1 f2, MapAt w1 m N1 f2 → Grew (fun k => k = m) wr w1 → IsTab w1 b FT (dropL ls who 0) most N1 f2) by
      obtain ⟨sA, sc', m', -, -, c2, -, -, hmap, hFm, hback⟩ := hT1.open_
      rw [he] at c2
      injection c2 with e
      injection e with e
      injection e with e
      subst e
      exact ⟨hmap, hFm, hback⟩))
    obtain ⟨⟨Dm, hown, hDm⟩, hFm, hback⟩ := HOP.out W f hT e2
    have HFm := Aside0.mk hFm
    have HB := Aside0.mk hback
    have HDM := Aside0.mk hDm
    have HOW := Aside0.mk hown
    have hkw := Maps.keyOf_int_mk Tryz.underlying3 H2.out.2.2.1
    have HKW := Aside0.mk hkw
    have HS := Aside0.mk (And.intro hmw (And.intro hbw s3))
    have HOk := Aside0.mk H2.out.2.2.2
    obtain ⟨out, hout⟩ : ∃ o, dropO ls who 0 = o := ⟨_, rfl⟩
    obtain ⟨L2, hL2⟩ : ∃ o, dropL ls who 0 = o := ⟨_, rfl⟩
    rw [hout] at HO HR HOk
    rw [hL2] at HT HB HOP
    have HOut := Aside0.mk (And.intro hout hL2)
    clear hout hL2
    clear hT i2 i3 i4 i5 i6 i7 i8 i9 i10 i11 i15 hown hDm hFm hback hS hD hK hkw hI0 b0 b1 b2 hB hmc hT0 hF0 hbs cm c0 h
    refine wpIn_wide.2 (wp_region_noPanic ?_)
    go_region_law (first
      | (refine step_delete_own rfl (.tmp 29) (.tmp 30) 75 3 rfl 3 keyed Tryz.underlying75 _ m N Dm (by simp [Act.eval, Act.put]) (show W.drew.ownsMap Tryz.prog 3 (plainElem Tryz.prog 3) m N Dm from HOW.out) (.int .i64 who) (.int .i64 who) (by simp [Act.eval, Act.put]) HKW.out ?_
         intro W1 hown1 hturn1
         have HG1 := Aside0.mk (show Grew (fun k => k = m) W W1 from ⟨(grew_turned hturn1).os, (grew_turned hturn1).tape, (grew_turned hturn1).output, (grew_turned hturn1).size, (grew_turned hturn1).block⟩)
         have HM1 := Aside0.mk (MapAt.del (w := W) (w' := W1) (m := m) (N := N) (N' := N) HDM.out H2.out.2.2.1 hown1)
         clear hown1 hturn1))
    all_goals
      refine NoPanic.normal ?_
      refine hK0 _ _ (wpIn_wide.2 ?_)
      have HT1 := Aside0.mk (HB.out W1 N _ HM1.out HG1.out)
      have HM := Aside0.mk (fun (k : Nat) (hk : k < W.heap.size) (hn : k ≠ m) (wr : World) (hg : Grew (fun k => k = m) W wr) => hg.block k hk hn)
      have o1 : W1.cell? ⟨w.heap.size + 1, 0, none⟩ = some (.slice A' out.length c') := (World.cell?_of_block (a := ⟨w.heap.size + 1, 0, none⟩) (HM.out _ HX.out.2.2.2.2 (by have := HS.out.1; omega) W1 HG1.out)).trans HO.out
      have HLn := Aside0.mk (And.intro HR.out.2.1 HR.out.2.2.1)
      go_wp2_with fail
      go_loopg [33] out.length (fun gg v wr => ∃ j : Nat, j ≤ out.length ∧ out.length - j ≤ gg ∧ v = .int .i64 j ∧ Aside0 (IsTab wr b FT L2 most N (delsT (f.del who) (out.take j))) ∧ Aside0 (Grew (fun k => k = m) W wr))
      case atStart => exact ⟨0, by omega, by omega, rfl, HT1, HG1⟩
      case round =>
        obtain ⟨j, hj, hgg, rfl, HTj, HGj⟩ := hrel
        have HEb := Aside0.mk ((World.cell?_of_block (a := ⟨b, 2, none⟩) (HM.out b (by have := HX.out.2.2.2.1.size; have := HS.out.2.1; omega) (fun e => HX.out.2.1 _ _ _ (e ▸ HBk.out)) wr HGj.out)).trans HE2.out)
        have HRj := Aside0.mk (HR.out.grew HGj.out (fun k hk e => by have h1 := HX.out.2.2.1 k hk; have h2 := HS.out.1; omega))
        by_cases hlt : j < out.length
        · have t1 : (j : Int) < out.length := by omega
          have t0 : 0 ≤ (j : Int) := by omega
          obtain ⟨ad, hA', q0⟩ := Kd.at_int HRj.out.readsI (j : Int) (by omega) (by omega)
          subst hA'
          rw [Int.toNat_natCast, show rd out (j : Int) = out.getD j 0 from by simp [rd]] at q0
          have hxm : out.getD j 0 ∈ out := by rw [List.getD_eq_getElem?_getD, List.getElem?_eq_getElem hlt]; exact List.getElem_mem hlt
          have HStep := Aside0.mk (show out.take (j + 1) = out.take j ++ [out.getD j 0] by
            have e : out[j]? = some (out.getD j 0) := by rw [List.getD_eq_getElem?_getD, List.getElem?_eq_getElem hlt]; rfl
            rw [List.take_add_one, e]; rfl)
          generalize out.getD j 0 = x at q0 hxm HStep
          have hx := HOk.out x hxm
          obtain ⟨⟨D1, hown1, hD1⟩, -, hback1⟩ := HOP.out wr _ HTj.out HEb.out
          have HO1 := Aside0.mk hown1
          have HB1 := Aside0.mk hback1
          have HD1 := Aside0.mk hD1
          have HKx := Aside0.mk (Maps.keyOf_int_mk Tryz.underlying3 hx)
          have HXo := Aside0.mk hx
          have eb := HEb.out
          have WJ := Aside0.mk (show wrap64 ((j : Int) + 1) = ((j + 1 : Nat) : Int) by have := HLn.out; unfold maxLen at this; unfold wrap64; omega)
          have HLT := Aside0.mk hlt
          clear hown1 hD1 hback1 hxm hx o1 hlt
          go_wp2_with (first | (at_delete; refine wpList_delete_own _ rfl _ _ 75 3 rfl 3 keyed Tryz.underlying75 _ m N D1 rfl HO1.out _ _ rfl HKx.out ?_; intro W5 hown5 hturn5) | fail)
          have HG5 := Aside0.mk (HGj.out.trans (grew_turned hturn5) (fun k hk => .inl hk))
          have HT5 := Aside0.mk (HB1.out W5 N _ (MapAt.del (w := wr) (w' := W5) (m := m) (N := N) (N' := N) HD1.out HXo.out hown5) (grew_turned hturn5))
          clear hown5 hturn5 q0 eb
          go_wp2
          go_roundg (out.length - (j + 1))
          case measure => have := HLT.out; omega
          case rel => exact ⟨j + 1, by have := HLT.out; omega, by have := HLT.out; omega, by rw [WJ.out], ⟨by rw [HStep.out, dels_snoc]; exact HT5.out⟩, HG5⟩
        · obtain rfl : j = out.length := by omega
          rw [List.take_length] at HTj
          have t1 : ¬ (out.length : Int) < out.length := by omega
          have o5 : wr.cell? ⟨w.heap.size + 1, 0, none⟩ = some (.slice A' out.length c') := (World.cell?_of_block (a := ⟨w.heap.size + 1, 0, none⟩) (HM.out _ HX.out.2.2.2.2 (by have := HS.out.1; omega) wr HGj.out)).trans HO.out
          have kD : wr.heap[D]? = some (.deferred (some [])) := (HM.out D (Array.getElem?_eq_some_iff.1 HKD.out.2).1 (by have h1 := HKD.out.1; have h2 := HS.out; omega) wr HGj.out).trans HKD.out.2
          clear o1 hlt
          go_wp2
          refine ⟨by simp, .inl ⟨_, _, rfl, run_takeDeferred kD, ?_⟩⟩
          refine ⟨_, results_tmp rfl _ _ _, ?_⟩
          rw [HOut.out.1, HOut.out.2]
          obtain ⟨x1, x2, x3, x4, x5⟩ := HX.out
          obtain ⟨d1, d2⟩ := HKD.out
          obtain ⟨y1, y2, y3⟩ := HS.out
          have hp : ∀ k, k ≠ D → (wr.putObj D (.deferred none)).heap[k]? = wr.heap[k]? := fun k hk => World.putObj_heap_other (fun e => hk e)
          have hps : (wr.putObj D (.deferred none)).heap.size = wr.heap.size := by simp [World.putObj]
          have nFD : ∀ k, FT k → k ≠ D := fun k hk e => by
            rcases (x1 k hk).2.1 with h | ⟨cs, t, h, _⟩
            · omega
            · rw [e, d2] at h; cases h
          have nFA : ∀ k, FT k → ¬ blk A' k := fun k hk h => by
            obtain ⟨cur, hc⟩ := HR.out.typed h
            exact (x1 k hk).2.1.ne x2 (by decide) hc
          have nAD : ∀ k, blk A' k → k ≠ D := fun k hk e => by
            obtain ⟨cur, hc⟩ := HR.out.typed hk
            rw [e, d2] at hc; cases hc
          have szr := HGj.out.size
          refine ⟨A', c', rfl, HRj.out.move (fun k hk _ => hp k (nAD k hk)), fun k hk => by have := x3 k hk; omega, ?_, ?_⟩
          · refine (HTj.out.move (fun k hk _ => hp k (nFD k hk))).mono (fun k _ hk => ⟨(x1 k hk).1, nFA k hk⟩)
          · have hg1 : Grew F w wr := x4.trans HGj.out (fun k hk => by subst hk; exact (x1 _ HFm.out).1)
            refine ⟨hg1.os, hg1.tape, hg1.output, by rw [hps]; exact hg1.size, fun k hk hn => (hp k (by omega)).trans (hg1.block k hk hn)⟩
  case stop =>
    rintro D c pre W _ _ h _
    exact h.elim
end Go.Proofs.YtaaekmcmpjljgaaGreat.Ln
namespace Go.Proofs.YtaaekmcmpjljgaaGreat.Ln
open Go.RowKit Go.Proofs.YtaaekmcmpjljgaaGreatW.PrintWords Go.Proofs.YtaaekmcmpjljgaaGreatW.PrintLast Go.Proofs.YtaaekmcmpjljgaaGreatW.PrintMore Go.Proofs.YtaaekmcmpjljgaaGreat.PMd
open Go.Maps
open Go.Sort (grow)
set_option linter.unusedVariables false
set_option linter.unusedSimpArgs false
end Go.Proofs.YtaaekmcmpjljgaaGreat.Ln
namespace Go.Proofs.YtaaekmcmpjljgaaGreat.Ln
open Go.RowKit Go.Proofs.YtaaekmcmpjljgaaGreatW.PrintWords Go.Proofs.YtaaekmcmpjljgaaGreatW.PrintLast Go.Proofs.YtaaekmcmpjljgaaGreatW.PrintMore Go.Proofs.YtaaekmcmpjljgaaGreat.PMd
open Go.Maps
open Go.Sort (grow)
set_option linter.unusedVariables false
set_option linter.unusedSimpArgs false
theorem ok64_to {x : Int} (h : wrap64 x = x) : ok64 x := by
  have h1 := wrap64_wf x
  rw [h] at h1
  exact h1
theorem asc_ext {a b : List Int} (ha : a.Pairwise (· < ·)) (hb : b.Pairwise (· < ·)) (h : ∀ x, x ∈ a ↔ x ∈ b) : a = b := by
  induction a generalizing b with
  | nil => exact (List.eq_nil_iff_forall_not_mem.2 (fun x hx => by have := (h x).2 hx; cases this)).symm
  | cons x a ih =>
    cases b with
    | nil => exact absurd ((h x).1 (List.mem_cons_self ..)) (by simp)
    | cons y b =>
      obtain ⟨ha1, ha2⟩ := List.pairwise_cons.1 ha
      obtain ⟨hb1, hb2⟩ := List.pairwise_cons.1 hb
      have exy : x = y := by
        have h1 := (h x).1 (List.mem_cons_self ..)
        have h2 := (h y).2 (List.mem_cons_self ..)
        rcases List.mem_cons.1 h1 with h1 | h1
        · exact h1
        · rcases List.mem_cons.1 h2 with h2 | h2
          · exact h2.symm
          · have := ha1 y h2; have := hb1 x h1; omega
      subst exy
      rw [ih ha2 hb2 (fun z => ?_)]
      have hz := h z
      rw [List.mem_cons, List.mem_cons] at hz
      constructor
      · intro hm
        rcases hz.1 (.inr hm) with e | e
        · subst e; exact absurd (ha1 z hm) (by omega)
        · exact e
      · intro hm
        rcases hz.2 (.inr hm) with e | e
        · subst e; exact absurd (hb1 z hm) (by omega)
        · exact e
theorem sortedI_asc {l : List Int} (h : l.Nodup) : (sortedI l).Pairwise (· < ·) := by
  have h1 : (sortedI l).Pairwise (fun a b => decide (a ≤ b) = true) := List.pairwise_mergeSort (fun a b c h1 h2 => by simp at *; omega) (fun a b => by simp; omega) l
  have h2 : (sortedI l).Nodup := (List.mergeSort_perm l _).nodup_iff.2 h
  exact List.Pairwise.imp₂ (fun a b h1 h2 => by have h3 := of_decide_eq_true h1; omega) h1 h2
theorem sortedI_mem {l : List Int} {x : Int} : x ∈ sortedI l ↔ x ∈ l := by unfold sortedI; exact List.mem_mergeSort
theorem sortedI_len (l : List Int) : (sortedI l).length = l.length := List.length_mergeSort _
theorem edUp_all (ls : List LS) (f : At) (l : List Int) : edUp ls f (sortedI l) l.length = (sortedI l).flatMap (edT ls f) := by
  unfold edUp
  rw [List.take_of_length_le (by rw [sortedI_len]; exact Nat.le_refl _)]
theorem flatP_get {l : List (Int × Int)} {j : Nat} {p : Int × Int} (h : l[j]? = some p) : (flatP l)[j * 2]? = some (.int .i64 p.1) ∧ (flatP l)[j * 2 + 1]? = some (.int .i64 p.2) := by
  induction l generalizing j with
  | nil => simp at h
  | cons x l ih =>
    have e : flatP (x :: l) = .int .i64 x.1 :: .int .i64 x.2 :: flatP l := rfl
    cases j with
    | zero => obtain rfl : x = p := by simpa using h
              rw [e]; exact ⟨rfl, rfl⟩
    | succ j =>
      obtain ⟨h1, h2⟩ := ih (j := j) (by simpa using h)
      rw [e, show (j + 1) * 2 = j * 2 + 1 + 1 by omega]
      exact ⟨by simpa using h1, by simpa using h2⟩
theorem Row.edge {w : World} {A : Option Addr} {n c : Nat} {l : List (Int × Int)} (h : Row w 87 2 A n c (flatP l)) {i : Nat} (hn : l.length = n) (hi : i < n) : ∃ g off, A = some ⟨g, off, none⟩ ∧ w.cell? ⟨g, off + i * 2, none⟩ = some (.int .i64 (l.getD i (0, 0)).1) ∧
    w.cell? ⟨g, off + i * 2 + 1, none⟩ = some (.int .i64 (l.getD i (0, 0)).2) := by
  obtain ⟨g, off, cur, rfl, _, _, hc⟩ := h.at_ (by omega)
  have e : l[i]? = some (l.getD i (0, 0)) := by rw [List.getD_eq_getElem?_getD, List.getElem?_eq_getElem (by omega)]; rfl
  obtain ⟨h1, h2⟩ := flatP_get e
  exact ⟨g, off, rfl, (hc _ _ h1).1, by rw [Nat.add_assoc]; exact (hc _ _ h2).1⟩
def su (n k : Nat) : Nat := (k + 1) % n
def f15 (n i : Nat) : At := fun x => if 0 ≤ x ∧ x < i then some (su n x.toNat) else none
end Go.Proofs.YtaaekmcmpjljgaaGreat.Ln
namespace Go.Proofs.YtaaekmcmpjljgaaGreat.Ln
open Go.RowKit Go.Proofs.YtaaekmcmpjljgaaGreatW.PrintWords Go.Proofs.YtaaekmcmpjljgaaGreatW.PrintLast Go.Proofs.YtaaekmcmpjljgaaGreatW.PrintMore Go.Proofs.YtaaekmcmpjljgaaGreat.PMd
open Go.Maps
open Go.Sort (grow)
set_option linter.unusedVariables false
set_option linter.unusedSimpArgs false
theorem dropS_size {s : LS} (h : Inv s.1 s.2) (who : Int) : (dropS who s).2.1.length + (dropS who s).2.2.length ≤ s.1.length + s.2.length := by
  unfold dropS
  split
  · have h1 := leave_len h who
    have h2 := fl_len s.1 who
    have h3 := fl_len s.2 who
    omega
  · exact Nat.le_refl _
theorem dropS_queue {s : LS} (h : Inv s.1 s.2) (who : Int) {e : E} (he : e ∈ (dropS who s).2.2) : e ∈ s.2 := by
  obtain ⟨n, _, _, h3, _⟩ := dropS_spec h who
  rw [h3] at he
  exact (fl_mem.1 (List.mem_of_mem_drop he)).1
theorem dropS_outs {s : LS} (h : Inv s.1 s.2) (who : Int) {x : Int} (hx : x ∈ (dropS who s).1) : ∃ e ∈ s.2, e.f0 = x := by
  obtain ⟨n, _, h2, _⟩ := dropS_spec h who
  rw [h2] at hx
  obtain ⟨e, he, ex⟩ := List.mem_map.1 hx
  exact ⟨e, (fl_mem.1 (List.mem_of_mem_take he)).1, ex⟩
structure OInv (n : Nat) (most : Int) (i : Nat) (ls : List LS) (f : At) : Prop where
  len : ls.length = n
  t : TInv ls f
  size : ∀ j, j < ls.length → (ls.getD j zL).1.length + (ls.getD j zL).2.length ≤ i
  lk : (lenT ls : Int) ≤ most
  wf : ∀ j, j < ls.length → ∀ e ∈ (ls.getD j zL).2, ok64 e.f0
theorem oinv_zero (n : Nat) {most : Int} (h : 0 ≤ most) : OInv n most 0 (List.replicate n zL) f0 :=
  ⟨by simp, tinv_zero n, fun j _ => by rw [getD_rep9]; exact Nat.le_refl _, by
    unfold lenT
    rw [List.map_replicate, show lenL zL = 0 from rfl]
    simpa using h, fun j _ e he => by rw [getD_rep9] at he; cases he⟩
theorem OInv.ask {n : Nat} {most : Int} {i : Nat} {ls : List LS} {f : At} (h : OInv n most i ls f) {who : Int} (hw : ok64 who) (node m : Int) : OInv n most (i + 1) (askT ls most f who node m).2.2.1 (askT ls most f who node m).2.2.2 := by
  refine ⟨(askT_len _ _ _ _ _ _).trans h.len, h.t.ask most who node m, askT_size h.size most f who node m, askT_lenT h.t.inv f h.lk who node m, ?_⟩
  rcases askT_cases ls most f who node m with ⟨h1, _⟩ | ⟨k, rfl, hk, _, _, _, _, _, e⟩
  · rw [h1]; exact h.wf
  · rw [e]
    intro j hj y hy
    dsimp only at hj hy
    rw [List.length_set] at hj
    rw [askT_at hk] at hy
    by_cases ej : j = k
    · rw [if_pos ej] at hy
      rcases (ask_queue who m).1 hy with hy | ⟨_, rfl⟩
      · exact h.wf k hk y hy
      · exact hw
    · rw [if_neg ej] at hy
      exact h.wf j hj y hy
theorem OInv.drop {n : Nat} {most : Int} {i : Nat} {ls : List LS} {f : At} (h : OInv n most i ls f) (who : Int) : OInv n most i (dropL ls who 0) (dropF ls f who) := by
  refine ⟨(dropL_len _ _ _).trans h.len, h.t.drop who, fun j hj => ?_, ?_, fun j hj y hy => ?_⟩
  · rw [dropL_len] at hj
    rw [dropL0_at hj]
    exact Nat.le_trans (dropS_size (h.t.inv j hj) who) (h.size j hj)
  · have := drop_lenT h.t.inv who
    have := h.lk
    omega
  · rw [dropL_len] at hj
    rw [dropL0_at hj] at hy
    exact h.wf j hj y (dropS_queue (h.t.inv j hj) who hy)
theorem OInv.more {n : Nat} {most : Int} {i : Nat} {ls : List LS} {f : At} (h : OInv n most i ls f) : OInv n most (i + 1) ls f := ⟨h.len, h.t, fun j hj => Nat.le_succ_of_le (h.size j hj), h.lk, h.wf⟩
theorem OInv.outs {n : Nat} {most : Int} {i : Nat} {ls : List LS} {f : At} (h : OInv n most i ls f) (who : Int) : ∀ x ∈ dropO ls who 0, ok64 x := fun x hx => by
  obtain ⟨j, _, hj, hx⟩ := dropO_mem.1 hx
  obtain ⟨e, he, rfl⟩ := dropS_outs (h.t.inv j hj) who hx
  exact h.wf j hj e he
theorem OInv.mS {n : Nat} {most : Int} {i : Nat} {ls : List LS} {f : At} (h : OInv n most i ls f) (hi : i ≤ 400000) : ∀ j, mS (ls.getD j zL) ≤ 900000 := fun j => by
  by_cases hj : j < ls.length
  · have := h.size j hj
    unfold Ln.mS; omega
  · rw [List.getD_eq_getElem?_getD, List.getElem?_eq_none (by omega)]
    exact Nat.zero_le _
theorem OInv.small {n : Nat} {most : Int} {i : Nat} {ls : List LS} {f : At} (h : OInv n most i ls f) (hi : i ≤ 400000) (hn : n ≤ 10000) : Small ls := small_of (n := i) (by rw [h.len]; exact hn) h.size hi
end Go.Proofs.YtaaekmcmpjljgaaGreat.Ln
