/- A table: Drop, its first loop: a range over a function. -/
import Derived.Test.YtagdgkimjgomlaaTb9
import Derived.Test.YtagdgkimjgomlaaBk
namespace Go.Proofs.Ytagdgkimjgomlaa.Ln
open Go.RowKit Go.Proofs.YtagdgkimjgomlaaW.PrintWords Go.Proofs.YtagdgkimjgomlaaW.PrintLast Go.Proofs.YtagdgkimjgomlaaW.PrintMore Go.Proofs.Ytagdgkimjgomlaa.PMd
open Go.Maps
open Go.Sort (grow)
attribute [local go_sem] Oper.semAt_some
set_option linter.unusedVariables false
set_option linter.unusedSimpArgs false
theorem visits_down {who : Int} {ls : List LS} {k : Nat} (hk : k ≤ ls.length) : visits who ls (downN ls.length k) = (dropO ls who (ls.length - k), dropL ls who (ls.length - k)) := by
  induction k with
  | zero => rw [Nat.sub_zero, dropO_top, dropL_top]; rfl
  | succ k ih =>
    rw [downN_succ, visits_snoc, ih (by omega)]
    have hi : ls.length - (k + 1) < ls.length := by omega
    have e : ls.length - 1 - k = ls.length - (k + 1) := by omega
    rw [e, show ls.length - k = ls.length - (k + 1) + 1 by omega]
    unfold visit
    dsimp only
    rw [dropL_at hi, if_pos (by omega), ← dropO_step hi, ← dropL_step hi]
/-- Between two rounds. -/
def DropS (w : World) (b m g : Nat) (F : Nat → Prop) (most : Int) (N : Nat) (f : At) (who : Int) (st : List Int × List LS) (W : World) : Prop :=
  ∃ (FT : Nat → Prop) (A' : Option Addr) (c' : Nat), IsTab W b FT st.2 most N f ∧ (∀ k, FT k → (F k ∨ w.heap.size ≤ k) ∧ okB W m k ∧ k < W.heap.size) ∧ (∀ cs t z, W.heap[m]? ≠ some (.cells cs t z)) ∧
    W.heap[w.heap.size]? = some (.cells #[.int .i64 who] 3 (0, 0)) ∧ W.heap[w.heap.size + 1]? = some (.cells #[.slice A' st.1.length c'] 53 (0, 0)) ∧ W.heap[b]? = w.heap[b]? ∧ W.heap[g]? = w.heap[g]? ∧
    Row W 3 1 A' st.1.length c' (ints st.1) ∧ (∀ k, blk A' k → w.heap.size + 3 ≤ k) ∧ Grew F w W ∧ w.heap.size + 3 ≤ W.heap.size ∧ m < w.heap.size ∧ b < w.heap.size ∧ g < w.heap.size ∧
    (∃ cs, W.heap[w.heap.size + 2]? = some (.cells cs 92 (0, 0)))
def DropI (w : World) (b m g : Nat) (F : Nat → Prop) (ls : List LS) (most : Int) (N : Nat) (f : At) (who : Int) (pre : List (Fin ls.length)) (W : World) : Prop :=
  DropS w b m g F most N f who (visits who ls (pre.map (·.1))) W
theorem okB.kept {W W' : World} {m k : Nat} (h : okB W m k) (hk : W'.heap[k]? = W.heap[k]?) : okB W' m k := by
  rcases h with h | ⟨cs, t, h1, h2⟩
  · exact .inl h
  · exact .inr ⟨cs, t, hk.trans h1, h2⟩
theorem dropS_keep {w : World} {b m g : Nat} {F : Nat → Prop} {most : Int} {N : Nat} {f : At} {who : Int} {st : List Int × List LS} {W W' : World} (h : DropS w b m g F most N f who st W) (hos : W'.os = W.os) (htp : W'.tape = W.tape) (hou : W'.output = W.output) (hsz : W.heap.size ≤ W'.heap.size)
    (key : ∀ k, k < W.heap.size → (k < w.heap.size + 3 ∨ ∃ cs t z, W.heap[k]? = some (.cells cs t z)) → W'.heap[k]? = W.heap[k]?) : DropS w b m g F most N f who st W' := by
  obtain ⟨FT, A', c', h1, h2, h3, h4, h5, h6, h7, h8, h9, h10, h11, h12, h13, h14, h15⟩ := h
  have kT : ∀ k, FT k → W'.heap[k]? = W.heap[k]? := fun k hk => by
    obtain ⟨_, hb, hl⟩ := h2 k hk
    refine key k hl ?_
    rcases hb with rfl | ⟨cs, t, e, _⟩
    · exact .inl (by omega)
    · exact .inr ⟨_, _, _, e⟩
  have hm' : W'.heap[m]? = W.heap[m]? := key m (by omega) (.inl (by omega))
  refine ⟨FT, A', c', h1.move (fun k hk _ => kT k hk), fun k hk => ⟨(h2 k hk).1, (h2 k hk).2.1.kept (kT k hk), Nat.lt_of_lt_of_le (h2 k hk).2.2 hsz⟩, fun cs t z e => h3 cs t z (hm'.symm.trans e), (key _ (by omega) (.inl (by omega))).trans h4, (key _ (by omega) (.inl (by omega))).trans h5,
    (key b (by omega) (.inl (by omega))).trans h6, (key g (by omega) (.inl (by omega))).trans h7, h8.move (fun k hk hl => ?_), h9, ⟨hos.trans h10.os, htp.trans h10.tape, hou.trans h10.output, Nat.le_trans h10.size hsz, fun k hk hn => ?_⟩, Nat.le_trans h11 hsz, h12, h13, h14, ?_⟩
  · obtain ⟨cur, hc⟩ := h8.typed hk
    exact key k hl (.inr ⟨_, _, _, hc⟩)
  · exact (key k (by omega) (.inl (by omega))).trans (h10.block k hk hn)
  · obtain ⟨cs, hc⟩ := h15
    exact ⟨cs, (key _ (by omega) (.inl (by omega))).trans hc⟩
theorem dropI_own {w : World} {b m g : Nat} {F : Nat → Prop} {ls : List LS} {most : Int} {N : Nat} {f : At} {who : Int} : OwnFrom (w.heap.size + 3) (DropI w b m g F ls most N f who) := fun pre W W' row h hg hr =>
  dropS_keep h hg.os hg.tape hg.output hg.size (fun k hk h => hg.block k hk (fun e => by
    obtain ⟨hB, o, ho, hc⟩ := hr k e.symm
    rcases h with h | ⟨cs, t, z, h⟩
    · omega
    · rw [h] at ho; injection ho with ho; subst ho; cases hc))
theorem dropS_below {w : World} {b m g : Nat} {F : Nat → Prop} {most : Int} {N : Nat} {f : At} {who : Int} {st : List Int × List LS} {W W' : World} (h : DropS w b m g F most N f who st W) (hb : Below W.heap.size W W') : DropS w b m g F most N f who st W' :=
  dropS_keep h hb.os hb.tape hb.output hb.size (fun k hk _ => hb.block k hk)
/-- What a round at one node finds. -/
theorem dropS_at {w : World} {b m g off sc : Nat} {bs : Nat → Nat} {F : Nat → Prop} {most : Int} {N n : Nat} {f : At} {who : Int} {st : List Int × List LS} {W : World} (h : DropS w b m g F most N f who st W) (c0 : w.cell? ⟨b, 0, none⟩ = some (.slice (some ⟨g, off, none⟩) n sc))
    (cm : w.cell? ⟨b, 2, none⟩ = some (.map (some m))) (hbs : ∀ j, j < n → w.cell? ⟨g, off + j, none⟩ = some (.pointer (some ⟨bs j, 0, none⟩))) (x : Nat) (hx : x < n) (hn : st.2.length = n) :
    ∃ Gi A' c', W.cell? ⟨w.heap.size, 0, none⟩ = some (.int .i64 who) ∧ W.cell? ⟨w.heap.size + 1, 0, none⟩ = some (.slice A' st.1.length c') ∧ W.frozen? ⟨w.heap.size + 1, 0, none⟩ = false ∧ Row W 3 1 A' st.1.length c' (ints st.1) ∧ w.heap.size + 3 ≤ W.heap.size ∧
      IsLane W (bs x) Gi (st.2.getD x zL).1 (st.2.getD x zL).2 ∧ Asc (st.2.getD x zL).1 ∧ (∀ k, Gi k → k < W.heap.size ∧ k ≠ w.heap.size + 1 ∧ ¬ blk A' k) ∧ (∀ k, blk A' k → w.heap.size + 3 ≤ k) ∧ g < w.heap.size ∧ b < w.heap.size ∧ m < w.heap.size ∧
      (∀ W1 W2 hs1 qs1 Al cl (out : List Int) A2 c2, IsLane W1 (bs x) (fun k => (Gi k ∨ W.heap.size ≤ k) ∧ ¬ blk Al k) hs1 qs1 → Asc hs1 → Grew Gi W W1 → Row W1 3 1 Al out.length cl (ints out) → (∀ k, blk Al k → W.heap.size ≤ k) →
        Row W2 3 1 A2 (st.1.length + out.length) c2 (ints st.1 ++ ints out) → Grew (blk A') W1 W2 → (∀ k, blk A2 k → blk A' k ∨ W1.heap.size ≤ k) →
        DropS w b m g F most N f who (st.1 ++ out, st.2.set x (hs1, qs1)) (W2.setCell ⟨w.heap.size + 1, 0, none⟩ (.slice A2 (st.1.length + out.length) c2)) ∧
        KeepsFrom (w.heap.size + 3) W (W2.setCell ⟨w.heap.size + 1, 0, none⟩ (.slice A2 (st.1.length + out.length) c2)) ∧ Keep2 g (w.heap.size + 2) W (W2.setCell ⟨w.heap.size + 1, 0, none⟩ (.slice A2 (st.1.length + out.length) c2))) := by
  obtain ⟨FT, A', c', i1, i2, i3, i4, i5, i6, i7, i8, i9, i10, i11, hm, hb, hg, cs2, i15⟩ := h
  obtain ⟨g', off', sc', m', bi, Gi0, d0, d2, ds, dI0, dA, dG0, dFb, dFg, dbw, dgw, close0⟩ := i1.at2 x (by omega)
  have e0 : W.cell? ⟨b, 0, none⟩ = some (.slice (some ⟨g, off, none⟩) n sc) := (World.cell?_of_block (a := ⟨b, 0, none⟩) i6).trans c0
  rw [d0] at e0
  injection e0 with e0
  injection e0 with ea _ _
  injection ea with ea
  injection ea with eg eo _
  have e2 : W.cell? ⟨b, 2, none⟩ = some (.map (some m)) := (World.cell?_of_block (a := ⟨b, 2, none⟩) i6).trans cm
  rw [d2] at e2
  injection e2 with e2
  injection e2 with e2
  injection e2 with e2
  have e3 : W.cell? ⟨g, off + x, none⟩ = some (.pointer (some ⟨bs x, 0, none⟩)) := (World.cell?_of_block (a := ⟨g, off + x, none⟩) i7).trans (hbs x hx)
  rw [eg, eo, e3] at ds
  injection ds with ds
  injection ds with ds
  injection ds with ds
  injection ds with eb _ _
  subst eb
  subst e2
  subst eg
  obtain ⟨Gi, dI, hGt⟩ := dI0.typed
  have dG : ∀ k, Gi k → FT k ∧ k ≠ b ∧ k ≠ m' ∧ k ≠ g' ∧ k < W.heap.size := fun k hk => dG0 k (hGt k hk).1
  have hAcell : ∀ k, blk A' k → ∃ cur, W.heap[k]? = some (.cells cur 3 (0, 0)) := fun k hk => i8.typed hk
  have hGcell : ∀ k, Gi k → ∀ cs t z, W.heap[k]? = some (.cells cs t z) → (t = 3 ∨ t = 53) → False := fun k hk cs t z hc ht => by
    rcases (hGt k hk).2.2 W.heap.size with h | ⟨cs', t', h1, h2⟩
    · have := (hGt k hk).2.1; omega
    · rw [h1] at hc
      injection hc with hc
      injection hc with _ hc
      subst hc
      rcases h2 with h | h | h | h <;> rw [h] at ht <;> revert ht <;> decide
  have hGex : ∀ k, Gi k → ∃ cs t z, W.heap[k]? = some (.cells cs t z) := fun k hk => by
    rcases (hGt k hk).2.2 W.heap.size with h | ⟨cs', t', h1, h2⟩
    · have := (hGt k hk).2.1; omega
    · exact ⟨_, _, _, h1⟩
  have hGA : ∀ k, Gi k → ¬ blk A' k := fun k hk h => by
    obtain ⟨cur, hc⟩ := hAcell k h
    exact hGcell k hk _ _ _ hc (.inl rfl)
  refine ⟨Gi, A', c', (blk_cell i4 0).trans rfl, (blk_cell i5 0).trans rfl, blk_frozen i5 0, i8, i11, dI, dA, fun k hk => ⟨(hGt k hk).2.1, fun e => by subst e; exact hGcell _ hk _ _ _ i5 (.inr rfl), hGA k hk⟩, i9, hg, hb, hm, ?_⟩
  intro W1 W2 hs1 qs1 Al cl out A2 c2 hI1 hA1 hg1 hRl hAl hR2 hg2 hA2
  have s12 := hg1.size
  have s23 := hg2.size
  have sz : (W2.setCell ⟨w.heap.size + 1, 0, none⟩ (.slice A2 (st.1.length + out.length) c2)).heap.size = W2.heap.size := by simp
  -- what lay in W and is neither the lane's, nor the result's row, nor its box, lies as it lay
  have keep : ∀ k, k < W.heap.size → ¬ Gi k → ¬ blk A' k → k ≠ w.heap.size + 1 → (W2.setCell ⟨w.heap.size + 1, 0, none⟩ (.slice A2 (st.1.length + out.length) c2)).heap[k]? = W.heap[k]? := fun k hk h1 h2 h3 => by
    rw [Below.heap_setCell _ _ _ _ (fun e => h3 e)]
    exact (hg2.block k (by omega) h2).trans (hg1.block k hk h1)
  have keepN : ∀ k, k < W.heap.size → (∀ cs t z, W.heap[k]? ≠ some (.cells cs t z)) → (W2.setCell ⟨w.heap.size + 1, 0, none⟩ (.slice A2 (st.1.length + out.length) c2)).heap[k]? = W.heap[k]? := fun k hk hn =>
    keep k hk (fun h => by obtain ⟨cs, t, z, hc⟩ := hGex k h; exact hn _ _ _ hc) (fun h => by obtain ⟨cur, hc⟩ := hAcell k h; exact hn _ _ _ hc) (fun e => by subst e; exact hn _ _ _ i5)
  have nA : ∀ k, k < w.heap.size + 3 → ¬ blk A' k := fun k hk h => by have := i9 k h; omega
  have nG : ∀ k cs t, W.heap[k]? = some (.cells cs t (0, 0)) → (t = 3 ∨ t = 53 ∨ t = 92) → ¬ Gi k := fun k cs t hc ht h => by
    rcases (hGt k h).2.2 W.heap.size with h' | ⟨cs', t', h1, h2⟩
    · have := (hGt k h).2.1; omega
    · rw [h1] at hc
      injection hc with hc
      injection hc with _ hc
      subst hc
      rcases h2 with h | h | h | h <;> rw [h] at ht <;> revert ht <;> decide
  have kb := keep b dbw (fun h => (dG b h).2.1 rfl) (nA b (by omega)) (by omega)
  have kg := keep g' dgw (fun h => (dG g' h).2.2.2.1 rfl) (nA g' (by omega)) (by omega)
  have km := keep m' (by omega) (fun h => (dG m' h).2.2.1 rfl) (nA m' (by omega)) (by omega)
  have k0 := keep w.heap.size (by omega) (nG _ _ _ i4 (.inl rfl)) (nA _ (by omega)) (by omega)
  have k2 := keep (w.heap.size + 2) (by omega) (nG _ _ _ i15 (.inr (.inr rfl))) (nA _ (by omega)) (by omega)
  have nG1 : ¬ Gi (w.heap.size + 1) := nG _ _ _ i5 (.inr (.inl rfl))
  -- the table, in W1 and on
  obtain ⟨m2, F2, cm2, hm2, hT2, hF2⟩ := (close0 W1 hs1 qs1 _ hI1 (fun k hk => hk.1.imp (fun h => (hGt k h).1) id) hA1 (hg1.mono (fun k _ h => (hGt k h).1))).typed
  have hm2' : m2 = m' := by
    have h1 : W1.cell? ⟨b, 2, none⟩ = some (.map (some m')) := (World.cell?_of_block (a := ⟨b, 2, none⟩) (hg1.block b dbw (fun h => (dG b h).2.1 rfl))).trans d2
    rw [cm2] at h1
    injection h1 with h1
    injection h1 with h1
    injection h1
  subst hm2'
  have tT : ∀ k cs t, F2 k → W1.heap[k]? = some (.cells cs t (0, 0)) → t ≠ 3 ∧ t ≠ 53 := fun k cs t hk hc => by
    rcases (hF2 k hk).2.2 with h | ⟨cs', t', h1, h2⟩
    · rw [h] at hc; exact absurd hc (hm2 _ _ _)
    · rw [h1] at hc
      injection hc with hc
      injection hc with _ hc
      subst hc
      rcases h2 with h | h | h | h <;> rw [h] <;> decide
  have hA1t : ∀ k, blk A' k → ∃ cur, W1.heap[k]? = some (.cells cur 3 (0, 0)) := fun k hk => by
    obtain ⟨cur, hc⟩ := hAcell k hk
    exact ⟨cur, (hg1.block k (i8.lt hk) (fun h => hGA k h hk)).trans hc⟩
  have i5' : W1.heap[w.heap.size + 1]? = some (.cells #[.slice A' st.1.length c'] 53 (0, 0)) := (hg1.block _ (by omega) nG1).trans i5
  have i5'' : W2.heap[w.heap.size + 1]? = some (.cells #[.slice A' st.1.length c'] 53 (0, 0)) := (hg2.block _ (by omega) (nA _ (by omega))).trans i5'
  have kT : ∀ k, F2 k → (W2.setCell ⟨w.heap.size + 1, 0, none⟩ (.slice A2 (st.1.length + out.length) c2)).heap[k]? = W1.heap[k]? := fun k hk => by
    rw [Below.heap_setCell _ _ _ _ (fun e => by
      have e' : k = w.heap.size + 1 := e
      subst e'
      exact (tT _ _ _ hk i5').2 rfl)]
    exact hg2.block k (hF2 k hk).2.1 (fun h => by
      obtain ⟨cur, hc⟩ := hA1t k h
      exact (tT k _ _ hk hc).1 rfl)
  have nA2 : ¬ blk A2 (w.heap.size + 1) := fun h => (hA2 _ h).elim (nA _ (by omega)) (fun h => by omega)
  refine ⟨⟨F2, A2, c2, hT2.move (fun k hk _ => kT k hk), fun k hk => ⟨?_, (hF2 k hk).2.2.kept (kT k hk), by rw [sz]; have := (hF2 k hk).2.1; omega⟩, fun cs t z e => i3 cs t z (km.symm.trans e), k0.trans i4, ?_, kb.trans i6, kg.trans i7, ?_, ?_, ?_, by rw [sz]; omega, hm, hb, hg, ⟨cs2, k2.trans i15⟩⟩, ?_, ⟨kg, k2⟩⟩
  · rcases (hF2 k hk).1 with ⟨h1, _⟩ | h1
    · exact (i2 k h1).1
    · rcases h1.1 with h1 | h1
      · exact (i2 k (dG k h1).1).1
      · exact .inr (by omega)
  · rw [List.length_append]
    exact heap_setCell_same W2 (w.heap.size + 1) 0 _ _ (.slice A2 (st.1.length + out.length) c2) i5''
  · rw [List.length_append, show ints (st.1 ++ out) = ints st.1 ++ ints out from List.map_append]
    exact hR2.set (p := ⟨w.heap.size + 1, 0, none⟩) nA2 _
  · exact fun k hk => (hA2 k hk).elim (i9 k) (fun h => by omega)
  · refine ⟨(hg2.os.trans hg1.os).trans i10.os, (hg2.tape.trans hg1.tape).trans i10.tape, (hg2.output.trans hg1.output).trans i10.output, by rw [sz]; omega, fun k hk hn => ?_⟩
    refine (keep k (by omega) (fun h => ?_) (nA k (by omega)) (by omega)).trans (i10.block k hk hn)
    rcases (i2 k (dG k h).1).1 with h2 | h2
    · exact hn h2
    · omega
  · exact ⟨by rw [sz]; omega, fun k o hB hk ho => (keepN k (Array.getElem?_eq_some_iff.1 hk).1 (fun cs t z e => by rw [e] at hk; injection hk with hk; subst hk; cases ho)).trans hk⟩
end Go.Proofs.Ytagdgkimjgomlaa.Ln
