import Derived.Test.YtaaekmcmpjljgaaGreatLC
import Derived.Maps.OwnSet
namespace Go.Proofs.YtaaekmcmpjljgaaGreat.Ln
open Go.RowKit Go.Proofs.YtaaekmcmpjljgaaGreatW.PrintWords Go.Proofs.YtaaekmcmpjljgaaGreatW.PrintLast Go.Proofs.YtaaekmcmpjljgaaGreatW.PrintMore Go.Proofs.YtaaekmcmpjljgaaGreat.PMd
open Go.Maps
set_option linter.unusedVariables false
set_option linter.unusedSimpArgs false
abbrev LS := List E × List E
abbrev zL : LS := ([], [])
def pT (k : Nat) : Value := .pointer (some ⟨k, 0, none⟩)
abbrev ok64 (x : Int) : Prop := (Lit.int .i64 x).wf = true
abbrev At := Int → Option Nat
def MapAt (w : World) (m N : Nat) (f : At) : Prop :=
  ∃ D : DataW Unit, w.ownsMap Tryz.prog 3 (plainElem Tryz.prog 3) m N D ∧ ∀ who, ok64 who →
    Maps.has D (.int .i64 who) = (f who).isSome ∧ ∀ n, f who = some n → ∀ z, D.atKey (.int .i64 who) z = .lit (.int .i64 (n : Int))
theorem MapAt.move {w w' : World} {m N : Nat} {f : At} (h : MapAt w m N f) (hm : w'.heap[m]? = w.heap[m]?) : MapAt w' m N f := by
  obtain ⟨D, ⟨es, clock, hb, h1⟩, h2⟩ := h
  exact ⟨D, ⟨es, clock, hm.trans hb, h1⟩, h2⟩
theorem MapAt.lt {w : World} {m N : Nat} {f : At} (h : MapAt w m N f) : m < w.heap.size := by
  obtain ⟨D, h1, _⟩ := h
  exact h1.lt
theorem MapAt.cells {w : World} {m N : Nat} {f : At} (h : MapAt w m N f) {cs : Array Value} {t : TypeId} {z : Nat × Nat} (hc : w.heap[m]? = some (.cells cs t z)) : False := by
  obtain ⟨D, ⟨es, clock, hb, _⟩, _⟩ := h
  rw [hb] at hc
  cases hc
def At.put (f : At) (who : Int) (n : Nat) : At := fun x => if x = who then some n else f x
def At.del (f : At) (who : Int) : At := fun x => if x = who then none else f x
theorem lit_ne {a b : Int} (h : a ≠ b) : Lit.int .i64 a ≠ Lit.int .i64 b := fun e => h (by injection e)
structure Spots (w : World) (F : Nat → Prop) (sA : Option Addr) (sc m b : Nat) (bs : List Nat) (G : Nat → Nat → Prop) (ls : List LS) : Prop where
  row : Row w 81 1 sA ls.length sc (bs.map pT)
  rowF : ∀ k, blk sA k → F k
  lane : ∀ i, i < ls.length → IsLane w (bs.getD i 0) (G i) (ls.getD i zL).1 (ls.getD i zL).2
  asc : ∀ i, i < ls.length → Asc (ls.getD i zL).1
  own : ∀ i k, G i k → F k
  off : ∀ i k, G i k → k ≠ b ∧ k ≠ m ∧ ¬ blk sA k
  apart : ∀ i j k, G i k → G j k → i = j
def IsTab (w : World) (b : Nat) (F : Nat → Prop) (ls : List LS) (most : Int) (N : Nat) (f : At) : Prop :=
  ∃ sA sc m bs G, w.heap[b]? = some (.cells #[.slice sA ls.length sc, .int .i64 most, .map (some m)] 77 (0, 0)) ∧ F b ∧ F m ∧ MapAt w m N f ∧ Spots w F sA sc m b bs G ls
section
variable {w w' : World} {b N : Nat} {F F' : Nat → Prop} {ls : List LS} {most : Int} {f : At}
theorem IsTab.move (h : IsTab w b F ls most N f) (hm : ∀ k, F k → k < w.heap.size → w'.heap[k]? = w.heap[k]?) : IsTab w' b F ls most N f := by
  obtain ⟨sA, sc, m, bs, G, h1, h2, h3, h4, h5⟩ := h
  exact ⟨sA, sc, m, bs, G, (hm b h2 (Array.getElem?_eq_some_iff.1 h1).1).trans h1, h2, h3, h4.move (hm m h3 h4.lt), ⟨h5.row.move (fun k hk hl => hm k (h5.rowF k hk) hl), h5.rowF,
    fun i hi => (h5.lane i hi).move (fun k hk hl => hm k (h5.own i k hk) hl), h5.asc, h5.own, h5.off, h5.apart⟩⟩
theorem IsTab.below (h : IsTab w b F ls most N f) (hb : Below w.heap.size w w') : IsTab w' b F ls most N f := h.move (fun k _ hk => hb.block k hk)
theorem IsTab.grew {S : Nat → Prop} (h : IsTab w b F ls most N f) (hg : Grew S w w') (hs : ∀ k, F k → ¬ S k) : IsTab w' b F ls most N f := h.move (fun k hk hl => hg.block k hl (hs k hk))
theorem IsTab.lt (h : IsTab w b F ls most N f) : b < w.heap.size := by
  obtain ⟨sA, sc, m, bs, G, h1, _⟩ := h
  exact (Array.getElem?_eq_some_iff.1 h1).1
theorem IsTab.own (h : IsTab w b F ls most N f) : F b := by
  obtain ⟨sA, sc, m, bs, G, h1, h2, _⟩ := h
  exact h2
theorem IsTab.mono (h : IsTab w b F ls most N f) (hf : ∀ k, k < w.heap.size → F k → F' k) : IsTab w b F' ls most N f := by
  obtain ⟨sA, sc, m, bs, G, h1, h2, h3, h4, h5⟩ := h
  exact ⟨sA, sc, m, bs, fun i k => G i k ∧ k < w.heap.size, h1, hf _ (Array.getElem?_eq_some_iff.1 h1).1 h2, hf _ h4.lt h3, h4, ⟨h5.row, fun k hk => hf _ (h5.row.lt hk) (h5.rowF k hk),
    fun i hi => (h5.lane i hi).mono (fun k hk hg => ⟨hg, hk⟩), h5.asc, fun i k hk => hf _ hk.2 (h5.own i k hk.1), fun i k hk => h5.off i k hk.1, fun i j k hi hj => h5.apart i j k hi.1 hj.1⟩⟩
theorem IsTab.open_ (h : IsTab w b F ls most N f) : ∃ sA sc m, w.cell? ⟨b, 0, none⟩ = some (.slice sA ls.length sc) ∧ w.cell? ⟨b, 1, none⟩ = some (.int .i64 most) ∧ w.cell? ⟨b, 2, none⟩ = some (.map (some m)) ∧ ls.length ≤ sc ∧ sc ≤ maxLen ∧
    MapAt w m N f ∧ F m ∧ (∀ w1 N1 f1, MapAt w1 m N1 f1 → Grew (fun k => k = m) w w1 → IsTab w1 b F ls most N1 f1) := by
  obtain ⟨sA, sc, m, bs, G, h1, h2, h3, h4, h5⟩ := h
  refine ⟨sA, sc, m, (blk_cell h1 0).trans rfl, (blk_cell h1 1).trans rfl, (blk_cell h1 2).trans rfl, h5.row.2.1, h5.row.2.2.1, h4, h3, fun w1 N1 f1 hm hg => ?_⟩
  have hbm : b ≠ m := fun e => by subst e; exact h4.cells h1
  have hrm : ¬ blk sA m := fun hk => by obtain ⟨cur, hc⟩ := h5.row.typed hk; exact h4.cells hc
  exact ⟨sA, sc, m, bs, G, (hg.block b (Array.getElem?_eq_some_iff.1 h1).1 hbm).trans h1, h2, h3, hm, ⟨h5.row.grew hg (fun k hk e => by subst e; exact hrm hk), h5.rowF,
    fun i hi => (h5.lane i hi).grew hg (fun k hk e => (h5.off i k hk).2.1 e), h5.asc, h5.own, h5.off, h5.apart⟩⟩
theorem getD_map {α β : Type} (g : α → β) (l : List α) (i : Nat) (x : α) (hi : i < l.length) : (l.map g)[i]? = some (g (l.getD i x)) := by
  rw [List.getElem?_map, List.getD_eq_getElem?_getD, List.getElem?_eq_getElem hi]; rfl
theorem getD_set_ls (ls : List LS) (i j : Nat) (x : LS) (hj : j < ls.length) : (ls.set i x).getD j zL = if j = i then x else ls.getD j zL := by
  rw [List.getD_eq_getElem?_getD, List.getD_eq_getElem?_getD, List.getElem?_set]
  by_cases e : i = j
  · subst e; rw [if_pos rfl, if_pos hj, if_pos rfl]; rfl
  · rw [if_neg e, if_neg (fun h => e h.symm)]
theorem IsTab.at_ (h : IsTab w b F ls most N f) (i : Nat) (hi : i < ls.length) : ∃ g off sc m bi Gi, w.cell? ⟨b, 0, none⟩ = some (.slice (some ⟨g, off, none⟩) ls.length sc) ∧ w.cell? ⟨b, 1, none⟩ = some (.int .i64 most) ∧ w.cell? ⟨b, 2, none⟩ = some (.map (some m)) ∧
    ls.length ≤ sc ∧ sc ≤ maxLen ∧ MapAt w m N f ∧ w.cell? ⟨g, off + i, none⟩ = some (.pointer (some ⟨bi, 0, none⟩)) ∧ IsLane w bi Gi (ls.getD i zL).1 (ls.getD i zL).2 ∧ Asc (ls.getD i zL).1 ∧ (∀ k, Gi k → F k) ∧
    (∀ w1 hs1 qs1, IsLane w1 bi (fun k => Gi k ∨ w.heap.size ≤ k) hs1 qs1 → Asc hs1 → Grew Gi w w1 → IsTab w1 b (fun k => F k ∨ w.heap.size ≤ k) (ls.set i (hs1, qs1)) most N f) := by
  obtain ⟨sA, sc, m, bs, G, h1, h2, h3, h4, h5⟩ := h
  obtain ⟨g, off, cur, rfl, hg, hsz, hcell⟩ := h5.row.at_ (by omega)
  have hbl : bs.length = ls.length := by have := h5.row.1; simpa using this
  have hc := (hcell i (pT (bs.getD i 0)) (getD_map pT bs i 0 (by omega))).1
  refine ⟨g, off, sc, m, bs.getD i 0, G i, (blk_cell h1 0).trans rfl, (blk_cell h1 1).trans rfl, (blk_cell h1 2).trans rfl, h5.row.2.1, h5.row.2.2.1, h4, hc, h5.lane i hi, h5.asc i hi, h5.own i, fun w1 hs1 qs1 hI ha hg1 => ?_⟩
  have hrow : Row w1 81 1 (some ⟨g, off, none⟩) ls.length sc (bs.map pT) := h5.row.grew hg1 (fun k hk hk2 => (h5.off i k hk2).2.2 hk)
  refine ⟨some ⟨g, off, none⟩, sc, m, bs, fun j k => if j = i then G i k ∨ w.heap.size ≤ k else G j k ∧ k < w.heap.size, ?_, .inl h2, .inl h3, h4.move (hg1.block m h4.lt (fun hk => (h5.off i m hk).2.1 rfl)), ⟨?_, ?_, ?_, ?_, ?_, ?_, ?_⟩⟩
  · rw [List.length_set]
    exact (hg1.block b (Array.getElem?_eq_some_iff.1 h1).1 (fun hk => (h5.off i b hk).1 rfl)).trans h1
  · rw [List.length_set]; exact hrow
  · exact fun k hk => .inl (h5.rowF k hk)
  · intro j hj
    rw [List.length_set] at hj
    rw [getD_set_ls ls i j _ hj]
    by_cases e : j = i
    · subst e
      rw [if_pos rfl]
      exact hI.mono (fun k _ hk => by rw [if_pos rfl]; exact hk)
    · rw [if_neg e]
      have hl := (h5.lane j hj).mono (F' := fun k => G j k ∧ k < w.heap.size) (fun k hk hg => ⟨hg, hk⟩)
      refine (hl.grew hg1 (fun k hk hk2 => e (h5.apart j i k hk.1 hk2))).mono (fun k _ hk => ?_)
      rw [if_neg e]
      exact hk
  · intro j hj
    rw [List.length_set] at hj
    rw [getD_set_ls ls i j _ hj]
    by_cases e : j = i
    · rw [if_pos e]; exact ha
    · rw [if_neg e]; exact h5.asc j hj
  · intro j k hk
    by_cases e : j = i
    · rw [if_pos e] at hk
      exact hk.imp (h5.own i k) id
    · rw [if_neg e] at hk
      exact .inl (h5.own j k hk.1)
  · have hnew : ∀ k, w.heap.size ≤ k → k ≠ b ∧ k ≠ m ∧ ¬ blk (some ⟨g, off, none⟩) k := fun k hk => by
      have hb := (Array.getElem?_eq_some_iff.1 h1).1
      have hm := h4.lt
      exact ⟨by omega, by omega, fun hk2 => by have := h5.row.lt hk2; omega⟩
    intro j k hk
    by_cases e : j = i
    · rw [if_pos e] at hk
      exact hk.elim (h5.off i k) (hnew k)
    · rw [if_neg e] at hk
      exact h5.off j k hk.1
  · intro j j' k hk hk'
    by_cases e : j = i
    · by_cases e' : j' = i
      · omega
      · rw [if_pos e] at hk
        rw [if_neg e'] at hk'
        rcases hk with hk | hk
        · exact absurd (h5.apart i j' k hk hk'.1) (fun h => e' h.symm)
        · have := hk'.2; omega
    · rw [if_neg e] at hk
      by_cases e' : j' = i
      · rw [if_pos e'] at hk'
        rcases hk' with hk' | hk'
        · exact absurd (h5.apart j i k hk.1 hk') e
        · have := hk.2; omega
      · rw [if_neg e'] at hk'
        exact h5.apart j j' k hk.1 hk'.1
end
theorem keyed : Keyed Tryz.prog 3 := int_keyed Tryz.underlying3
theorem MapAt.has {w : World} {m N : Nat} {f : At} (h : MapAt w m N f) : ∃ D : DataW Unit, w.ownsMap Tryz.prog 3 (plainElem Tryz.prog 3) m N D ∧ ∀ who, ok64 who → Maps.has D (.int .i64 who) = (f who).isSome ∧ ∀ n, f who = some n → ∀ z, D.atKey (.int .i64 who) z = .lit (.int .i64 (n : Int)) := h
theorem MapAt.put {w w' : World} {m N N' : Nat} {f : At} {D : DataW Unit} (h : ∀ x, ok64 x → Maps.has D (.int .i64 x) = (f x).isSome ∧ ∀ n, f x = some n → ∀ z, D.atKey (.int .i64 x) z = .lit (.int .i64 (n : Int))) (hD : IsMap D) {who : Int} (hw : ok64 who) (n : Nat)
    (hown : w'.ownsMap Tryz.prog 3 (plainElem Tryz.prog 3) m N' (D.put (.int .i64 who) (.lit (.int .i64 (n : Int))))) : MapAt w' m N' (f.put who n) := by
  refine ⟨_, hown, fun x hx => ?_⟩
  unfold At.put
  by_cases e : x = who
  · subst e
    rw [if_pos rfl]
    refine ⟨by rw [has_put_same hD (by trivial)]; rfl, fun n' hn z => ?_⟩
    injection hn with hn
    subst hn
    exact atKey_put_same hD (by trivial) _ _
  · rw [if_neg e, has_put_other (lit_ne e)]
    refine ⟨(h x hx).1, fun n' hn z => ?_⟩
    rw [atKey_put_other (lit_ne e)]
    exact (h x hx).2 n' hn z
theorem MapAt.del {w w' : World} {m N N' : Nat} {f : At} {D : DataW Unit} (h : ∀ x, ok64 x → Maps.has D (.int .i64 x) = (f x).isSome ∧ ∀ n, f x = some n → ∀ z, D.atKey (.int .i64 x) z = .lit (.int .i64 (n : Int))) {who : Int} (hw : ok64 who)
    (hown : w'.ownsMap Tryz.prog 3 (plainElem Tryz.prog 3) m N' (D.del (.int .i64 who))) : MapAt w' m N' (f.del who) := by
  refine ⟨_, hown, fun x hx => ?_⟩
  unfold At.del
  by_cases e : x = who
  · subst e
    rw [if_pos rfl]
    exact ⟨by rw [has_del_same]; rfl, fun n' hn => by cases hn⟩
  · rw [if_neg e, has_del_other (lit_ne e)]
    refine ⟨(h x hx).1, fun n' hn z => ?_⟩
    rw [atKey_del_other (lit_ne e)]
    exact (h x hx).2 n' hn z
theorem MapAt.empty (w : World) : MapAt (w.alloc (.map #[] 0)) w.heap.size 0 (fun _ => none) :=
  ⟨_, World.ownsMap_made _ _ _ _, fun who _ => ⟨rfl, fun n hn => by cases hn⟩⟩
end Go.Proofs.YtaaekmcmpjljgaaGreat.Ln
namespace Go.Proofs.YtaaekmcmpjljgaaGreat.Ln
open Go.RowKit Go.Proofs.YtaaekmcmpjljgaaGreatW.PrintWords Go.Proofs.YtaaekmcmpjljgaaGreatW.PrintLast Go.Proofs.YtaaekmcmpjljgaaGreatW.PrintMore Go.Proofs.YtaaekmcmpjljgaaGreat.PMd
open Go.Maps
set_option linter.unusedVariables false
set_option linter.unusedSimpArgs false
theorem owns_be {w w' : World} {P : Program} {K : TypeId} {R : Value → Option (DataW Unit × List MemPlace)} {m N : Nat} {D : DataW Unit} (h : w.ownsMap P K R m N D) (hb : Below w.heap.size w w') : w'.ownsMap P K R m N D := by
  obtain ⟨es, clock, h1, h2⟩ := h
  exact ⟨es, clock, (hb.block m (Array.getElem?_eq_some_iff.1 h1).1).trans h1, h2⟩
def hasIn (hs qs : List E) (who : Int) : Bool := toldIn hs who != 0 || toldIn qs who != 0
set_option maxHeartbeats 8000000 in
set_option maxRecDepth 100000 in
theorem has_ (w : World) (b : Nat) (F : Nat → Prop) (hs qs : List E) (who : Int) (hI : IsLane w b F hs qs) :
    Calls Tryz.prog 39 #[.agg #[.pointer (some ⟨b, 0, none⟩)], .int .i64 who] w fun e w' => e = .returned (.bool (hasIn hs qs who)) ∧ Below w.heap.size w w' := by
  have hu := Tryz.underlying81
  have x0 : (w.alloc (.cells #[.pointer (some ⟨b, 0, none⟩)] 81)).cell? ⟨w.heap.size, 0, none⟩ = some (.pointer (some ⟨b, 0, none⟩)) := (blk_cell (blk_new w _) 0).trans rfl
  have HB := Aside0.mk (below_alloc (Below.refl w.heap.size w) (.cells #[.pointer (some ⟨b, 0, none⟩)] 81))
  have HI := Aside0.mk (hI.below HB.out)
  have HH := Aside0.mk (Holds_ _ b F hs qs who HI.out)
  have HX := Aside0.mk x0
  clear hI
  by_cases h : toldIn hs who = 0
  · have h1 : (toldIn hs who != 0) = false := bne_eq_false_iff_eq.2 h
    have HR := Aside0.mk (show hasIn hs qs who = (toldIn qs who != 0) by unfold hasIn; rw [h1]; rfl)
    clear h
    generalize toldIn hs who = v at HH h1
    go_enter Tryz.func39, Tryz.ntmps39
    go_wp2_with fail
    refine HH.out.mono ?_
    rintro e w3 ⟨rfl, hb⟩
    have x3 := cell_be HX.out hb
    have HB3 := Aside0.mk (below_then HB.out HB.out.size hb)
    have HW := Aside0.mk (Waits_ w3 b F hs qs who (HI.out.below hb))
    clear hb x0 HH
    generalize toldIn qs who = u at HW HR
    go_wp2_with fail
    refine HW.out.mono ?_
    rintro e w4 ⟨rfl, hb⟩
    have HB4 := Aside0.mk (below_then HB3.out HB3.out.size hb)
    clear hb x3 HW
    go_wp2
    go_ret
    exact ⟨by rw [HR.out]; rfl, HB4.out⟩
  · have h1 : (toldIn hs who != 0) = true := bne_iff_ne.2 h
    have HR := Aside0.mk (show hasIn hs qs who = true by unfold hasIn; rw [h1]; rfl)
    clear h
    generalize toldIn hs who = v at HH h1
    go_enter Tryz.func39, Tryz.ntmps39
    go_wp2_with fail
    refine HH.out.mono ?_
    rintro e w3 ⟨rfl, hb⟩
    have HB3 := Aside0.mk (below_then HB.out HB.out.size hb)
    clear hb x0 HH
    go_wp2
    go_ret
    exact ⟨by rw [HR.out]; rfl, HB3.out⟩
end Go.Proofs.YtaaekmcmpjljgaaGreat.Ln
namespace Go.Proofs.YtaaekmcmpjljgaaGreat.Ln
open Go.RowKit Go.Proofs.YtaaekmcmpjljgaaGreatW.PrintWords Go.Proofs.YtaaekmcmpjljgaaGreatW.PrintLast Go.Proofs.YtaaekmcmpjljgaaGreatW.PrintMore Go.Proofs.YtaaekmcmpjljgaaGreat.PMd
open Go.Maps
set_option linter.unusedVariables false
set_option linter.unusedSimpArgs false
def newIn (hs qs : List E) : Nat := (qs.filter fun x => toldIn hs x.f0 == 0).length
def lenL (s : LS) : Nat := s.1.length + newIn s.1 s.2
def lenT (ls : List LS) : Nat := (ls.map lenL).sum
def Small (ls : List LS) : Prop := ls.length ≤ 10000 ∧ ∀ i, i < ls.length → (ls.getD i zL).1.length ≤ 400000 ∧ (ls.getD i zL).2.length ≤ 400000
theorem getD_get_ls {ls : List LS} {i : Nat} (h : i < ls.length) : ls[i]? = some (ls.getD i zL) := by
  rw [List.getD_eq_getElem?_getD, List.getElem?_eq_getElem h]; rfl
theorem len_step {ls : List LS} {i : Nat} (h : i < ls.length) : lenT (ls.take (i + 1)) = lenT (ls.take i) + lenL (ls.getD i zL) := by
  unfold lenT
  rw [List.take_add_one, getD_get_ls h, List.map_append, List.sum_append]
  simp
theorem new_le (hs qs : List E) : newIn hs qs ≤ qs.length := List.length_filter_le _ _
theorem len_le {ls : List LS} (hs : Small ls) : ∀ i, i ≤ ls.length → lenT (ls.take i) ≤ i * 800000 := by
  intro i
  induction i with
  | zero => intro _; simp [lenT]
  | succ i ih =>
    intro h
    rw [len_step (by omega)]
    have h1 := ih (by omega)
    obtain ⟨h2, h3⟩ := hs.2 i (by omega)
    have h4 := new_le (ls.getD i zL).1 (ls.getD i zL).2
    unfold lenL
    omega
theorem new_step {hs qs : List E} {j : Nat} (h : j < qs.length) : newIn hs (qs.take (j + 1)) = newIn hs (qs.take j) + if toldIn hs (qs.getD j z113).f0 = 0 then 1 else 0 := by
  unfold newIn
  rw [List.take_add_one, get_getD h, List.filter_append, List.length_append]
  congr 1
  by_cases e : toldIn hs (qs.getD j z113).f0 = 0
  · rw [if_pos e, Option.toList_some, List.filter_cons_of_pos (by rw [e]; rfl)]; rfl
  · rw [if_neg e, Option.toList_some, List.filter_cons_of_neg (by simpa using e)]; rfl
theorem slice_eq {w : World} {a : Addr} {A A' : Option Addr} {n n' c c' : Nat} (h : w.cell? a = some (.slice A n c)) (h' : w.cell? a = some (.slice A' n' c')) : A = A' ∧ c = c' := by
  rw [h] at h'
  injection h' with h'
  injection h' with h1 h2 h3
  exact ⟨h1, h3⟩
set_option maxHeartbeats 8000000 in
set_option maxRecDepth 100000 in
theorem LenT_ {w : World} {b : Nat} {F : Nat → Prop} {ls : List LS} {most : Int} {N : Nat} {f : At} (h : IsTab w b F ls most N f) (hs : Small ls) :
    Calls Tryz.prog 40 #[.pointer (some ⟨b, 0, none⟩)] w fun e w' => e = .returned (.int .i64 (lenT ls : Nat)) ∧ Below w.heap.size w w' := by
  have hu := Tryz.underlying77
  have hu2 := Tryz.underlying81
  have hu67 := Tryz.underlying113
  have HT := Aside0.mk h
  have HS := Aside0.mk hs
  obtain ⟨sA, sc, m, c0, -, -, l0, l1, -⟩ := h.open_
  have C0 := Aside0.mk c0
  have hn : ls.length ≤ 10000 := hs.1
  clear h hs
  go_enter Tryz.func40, Tryz.ntmps40
  go_wp2_with fail
  clear c0
  go_loopg [3, 13] ls.length (fun gg v3 v13 wr => ∃ i : Nat, i ≤ ls.length ∧ ls.length - i ≤ gg ∧ v13 = .int .i64 i ∧ v3 = .int .i64 (lenT (ls.take i) : Nat) ∧ Aside0 (Below w.heap.size w wr))
  case atStart => exact ⟨0, by omega, by omega, rfl, rfl, ⟨Below.refl _ _⟩⟩
  case round =>
    obtain ⟨i, hi, hgg, rfl, rfl, HB⟩ := hrel
    by_cases hlt : i < ls.length
    · have t1 : (i : Int) < ls.length := by omega
      have t2 : 0 ≤ (i : Int) := by omega
      obtain ⟨g, off, sc', m', bi, Gi, c0, -, -, -, -, -, cs, hI, ha, hG, -⟩ := (HT.out.below HB.out).at_ i hlt
      obtain ⟨rfl, rfl⟩ := slice_eq c0 (cell_be C0.out HB.out)
      have hlen := len_le HS.out i hi
      have HSt := Aside0.mk (len_step hlt)
      obtain ⟨hz1, hz2⟩ := HS.out.2 i hlt
      have hz3 := new_le (ls.getD i zL).1 (ls.getD i zL).2
      have HLL := Aside0.mk (show lenL (ls.getD i zL) = (ls.getD i zL).1.length + newIn (ls.getD i zL).1 (ls.getD i zL).2 from rfl)
      generalize lenT (ls.take i) = acc at hlen HSt ⊢
      generalize lenL (ls.getD i zL) = ll at HSt HLL
      generalize (ls.getD i zL).1 = hs at hI ha hz1 hz3 HLL
      generalize (ls.getD i zL).2 = qs at hI hz2 hz3 HLL
      have x0 : (wr.alloc (.cells #[.pointer (some ⟨bi, 0, none⟩)] 81)).cell? ⟨wr.heap.size, 0, none⟩ = some (.pointer (some ⟨bi, 0, none⟩)) := (blk_cell (blk_new wr _) 0).trans rfl
      have HX := Aside0.mk x0
      have HB2 := Aside0.mk (below_alloc HB.out (.cells #[.pointer (some ⟨bi, 0, none⟩)] 81))
      have HI := Aside0.mk (hI.below (below_alloc (Below.refl wr.heap.size wr) (.cells #[.pointer (some ⟨bi, 0, none⟩)] 81)))
      have HH := Aside0.mk (Holders_ _ bi Gi hs qs HI.out (by omega))
      have w1 : wrap64 ((acc : Int) + (hs.length : Int)) = ((acc + hs.length : Nat) : Int) := by unfold wrap64; omega
      have HN := Aside0.mk (And.intro hlen (And.intro hz1 (And.intro hz2 hz3)))
      clear c0 hI ha hG hlen hz1 hz2 hz3
      go_wp2_with fail
      refine HH.out.mono ?_
      rintro e w3 ⟨A3, c3, rfl, _, _, hb⟩
      have x3 := cell_be HX.out hb
      have HB3 := Aside0.mk (below_then HB2.out (Nat.le_trans HB.out.size (by simp)) hb)
      have HI3 := Aside0.mk (HI.out.below hb)
      have HX3 := Aside0.mk x3
      have HQ := Aside0.mk (Queue_ w3 bi Gi hs qs HI3.out (by have := HN.out.2.2.1; omega))
      clear hb HH x0 cs
      go_wp2_with fail
      refine HQ.out.mono ?_
      rintro e w4 ⟨A4, c4, rfl, hR, _, hb⟩
      have HB4 := Aside0.mk (below_then HB3.out HB3.out.size hb)
      have HI4 := Aside0.mk (HI3.out.below hb)
      have HX4 := Aside0.mk (cell_be HX3.out hb)
      have HK4 := Aside0.mk hR.reads
      have hc4 := hR.2.1
      clear hb HQ x3 hR
      go_wp2_with fail
      go_loopg [3, 27] qs.length (fun gg v3 v27 wr' => ∃ j : Nat, j ≤ qs.length ∧ qs.length - j ≤ gg ∧ v27 = .int .i64 j ∧ v3 = .int .i64 (acc + hs.length + newIn hs (qs.take j) : Nat) ∧ Aside0 (Below w4.heap.size w4 wr'))
      case atStart => exact ⟨0, by omega, by omega, rfl, by simp [newIn], ⟨Below.refl _ _⟩⟩
      case round =>
        obtain ⟨j, hj, hgg', rfl, rfl, HBj⟩ := hrel
        by_cases hlt' : j < qs.length
        · have t3 : (j : Int) < qs.length := by omega
          have t4 : 0 ≤ (j : Int) := by omega
          obtain ⟨ad, rfl, q0, q1⟩ := at_T113 (Kd.C_below HK4.out HBj.out) (j : Int) (by omega) (by omega)
          have hrd : rd_T113 qs j = qs.getD j z113 := by simp [rd_T113]
          simp only [Int.toNat_natCast, hrd] at q0 q1
          clear hrd
          have HNS := Aside0.mk (new_step (hs := hs) hlt')
          have hnn : newIn hs (qs.take j) ≤ qs.length := Nat.le_trans (new_le _ _) (by rw [List.length_take]; omega)
          generalize newIn hs (qs.take j) = nn at HNS hnn ⊢
          generalize qs.getD j z113 = y at q0 q1 HNS
          have bx0 : (wr.alloc (.cells #[.int .i64 y.f0, .int .i64 y.f1] 113)).cell? ⟨wr.heap.size, 0, none⟩ = some (.int .i64 y.f0) := (blk_cell (blk_new wr _) 0).trans rfl
          have x5 := cell_al (cell_be HX4.out HBj.out) (.cells #[.int .i64 y.f0, .int .i64 y.f1] 113)
          have HB5 := Aside0.mk (below_alloc HBj.out (.cells #[.int .i64 y.f0, .int .i64 y.f1] 113))
          have HH := Aside0.mk (Holds_ _ bi Gi hs qs y.f0 (HI4.out.below HB5.out))
          have W2 := Aside0.mk (show wrap64 ((acc : Int) + (hs.length : Int) + (nn : Int) + 1) = ((acc + hs.length + (nn + 1) : Nat) : Int) by obtain ⟨n1, n2, n3, n4⟩ := HN.out; unfold wrap64; omega)
          have W3 := Aside0.mk (show wrap64 ((j : Int) + 1) = ((j + 1 : Nat) : Int) by obtain ⟨n1, n2, n3, n4⟩ := HN.out; unfold wrap64; omega)
          by_cases hz : toldIn hs y.f0 = 0
          · have hq : (toldIn hs y.f0 == 0) = true := beq_iff_eq.2 hz
            rw [if_pos hz] at HNS
            clear hz
            generalize toldIn hs y.f0 = v at HH hq
            go_wp2_with fail
            refine HH.out.mono ?_
            rintro e w6 ⟨rfl, hb⟩
            have HB6 := Aside0.mk (below_then HB5.out (Nat.le_trans HBj.out.size (by simp)) hb)
            clear hb HH x5 bx0 q0 q1
            go_wp2
            go_roundg (qs.length - (j + 1))
            case measure => omega
            case rel => exact ⟨j + 1, by omega, by omega, by rw [W3.out], by rw [HNS.out, W2.out], HB6⟩
          · have hq : (toldIn hs y.f0 == 0) = false := beq_eq_false_iff_ne.2 hz
            rw [if_neg hz] at HNS
            clear hz
            generalize toldIn hs y.f0 = v at HH hq
            go_wp2_with fail
            refine HH.out.mono ?_
            rintro e w6 ⟨rfl, hb⟩
            have HB6 := Aside0.mk (below_then HB5.out (Nat.le_trans HBj.out.size (by simp)) hb)
            clear hb HH x5 bx0 q0 q1
            go_wp2
            go_roundg (qs.length - (j + 1))
            case measure => omega
            case rel => exact ⟨j + 1, by omega, by omega, by rw [W3.out], by rw [HNS.out]; congr 1; try omega, HB6⟩
        · have ej : j = qs.length := by omega
          subst ej
          have t3 : ¬ (qs.length : Int) < qs.length := by omega
          have HB6 := Aside0.mk (below_then HB4.out HB4.out.size HBj.out)
          go_wp2
          go_roundg (ls.length - (i + 1))
          case measure => omega
          case rel => exact ⟨i + 1, by omega, by omega, by go_num, by rw [HSt.out, HLL.out]; congr 1; omega, HB6⟩
    · have ei : i = ls.length := by omega
      subst ei
      have HR := Aside0.mk (show lenT (ls.take ls.length) = lenT ls by rw [List.take_length])
      generalize lenT (ls.take ls.length) = q at HR ⊢
      have t1 : ¬ (ls.length : Int) < ls.length := by omega
      go_wp2
      go_ret
      exact ⟨by rw [← HR.out]; rfl, HB.out⟩
end Go.Proofs.YtaaekmcmpjljgaaGreat.Ln
namespace Go.Proofs.YtaaekmcmpjljgaaGreat.Ln
open Go.RowKit Go.Proofs.YtaaekmcmpjljgaaGreatW.PrintWords Go.Proofs.YtaaekmcmpjljgaaGreatW.PrintLast Go.Proofs.YtaaekmcmpjljgaaGreatW.PrintMore Go.Proofs.YtaaekmcmpjljgaaGreat.PMd
open Go.Maps
set_option linter.unusedVariables false
set_option linter.unusedSimpArgs false
theorem two_one (x y : Int) : ∀ u ∈ [Value.int .i64 x, .int .i64 y], u.oneCell' = true := by
  intro u hu
  simp at hu
  rcases hu with rfl | rfl <;> rfl
theorem two_at {w : World} {g2 : Nat} {u v : Value} {t : TypeId} (hv : w.heap[g2]? = some (.cells #[u, v] t (0, 0))) : ∀ j x, [u, v][j]? = some x → w.cell? ((⟨g2, 0, none⟩ : Addr).add j) = some x := by
  intro j x hx
  rw [Addr.add_lit, Nat.zero_add]
  exact (blk_cell hv j).trans (by simpa using hx)
end Go.Proofs.YtaaekmcmpjljgaaGreat.Ln
