/- TableDrops: what a request and a Drop keep of other memory; its plain law. -/
import Derived.Test.YtagdgkimjgomlaaTb17
namespace Go.Proofs.Ytagdgkimjgomlaa.Ln
open Go.RowKit Go.Proofs.YtagdgkimjgomlaaW.PrintWords Go.Proofs.YtagdgkimjgomlaaW.PrintLast Go.Proofs.YtagdgkimjgomlaaW.PrintMore Go.Proofs.Ytagdgkimjgomlaa.PMd
open Go.Maps
open Go.Sort (grow)
set_option linter.unusedVariables false
set_option linter.unusedSimpArgs false
abbrev noTab (t : TypeId) : Prop := t ≠ 94 ∧ t ≠ 96 ∧ t ≠ 105 ∧ t ≠ 67
/-- What a table's changes leave as it lay: cells of other types. -/
def KeepT (w w' : World) : Prop := ∀ (k : Nat) (cs : Array Value) (t : TypeId), w.heap[k]? = some (Obj.cells cs t (0, 0)) → noTab t → w'.heap[k]? = w.heap[k]?
theorem KeepT.of_below {w w' : World} (h : Below w.heap.size w w') : KeepT w w' := fun k cs t hk _ => h.block k (Array.getElem?_eq_some_iff.1 hk).1
theorem Row.keepT {w w' : World} {e sz n c : Nat} {A : Option Addr} {xs : List Value} (h : Row w e sz A n c xs) (hk : KeepT w w') (he : noTab e) : Row w' e sz A n c xs :=
  h.move (fun k hb _ => by obtain ⟨cur, hc⟩ := h.typed hb; exact hk k _ _ hc he)
theorem keepT_of {w w' : World} {m : Nat} {F : Nat → Prop} (hg : Grew F w w') (hF : ∀ k, F k → okB w m k) (hm : ∀ cs t z, w.heap[m]? ≠ some (.cells cs t z)) : KeepT w w' := fun k cs t hk ht =>
  hg.block k (Array.getElem?_eq_some_iff.1 hk).1 (fun h => (hF k h).ne hm ht hk)
theorem AskT_k {w0 w : World} {b N : Nat} {ls : List LS} {most : Int} {f : At} (h : IsTab w b (fun k => w0.heap.size ≤ k) ls most N f) (hb : Below w0.heap.size w0 w) (hs : Small ls) (hN : N ≤ 1000000) (who node m : Int) (hw : ok64 who) :
    Calls Try.prog 23 #[.pointer (some ⟨b, 0, none⟩), .int .i64 who, .int .i64 node, .int .i64 m] w fun e w' => e = .returned (.tuple #[.int .i64 (askT ls most f who node m).1, .int .i64 (askT ls most f who node m).2.1]) ∧
      IsTab w' b (fun k => w0.heap.size ≤ k) (askT ls most f who node m).2.2.1 most (N + 1) (askT ls most f who node m).2.2.2 ∧ Below w0.heap.size w0 w' ∧ KeepT w w' := by
  obtain ⟨mm, F0, _, hmc, hT, hF⟩ := h.typed
  exact (AskT_ hT hs hN who node m hw).mono fun e w' ⟨h1, h2, h3⟩ => ⟨h1, h2.mono (fun k _ hk => hk.elim (fun h => (hF k h).1) (fun h => Nat.le_trans hb.size h)), h3.to_below hb hb.size (fun k h => (hF k h).1), keepT_of h3 (fun k hk => (hF k hk).2.2) hmc⟩
theorem DropT_k {w0 w : World} {b N : Nat} {ls : List LS} {most : Int} {f : At} (h : IsTab w b (fun k => w0.heap.size ≤ k) ls most N f) (hb : Below w0.heap.size w0 w) (h0 : 0 < ls.length) (hl : ls.length ≤ 10000) (hm : ∀ i, mS (ls.getD i zL) ≤ 900000) (who : Int) (hw : ok64 who) (hok : ∀ x ∈ dropO ls who 0, ok64 x) :
    Calls Try.prog 37 #[.pointer (some ⟨b, 0, none⟩), .int .i64 who] w fun e w' => ∃ A' c', e = .returned (.slice A' (dropO ls who 0).length c') ∧ Row w' 3 1 A' (dropO ls who 0).length c' (ints (dropO ls who 0)) ∧ (∀ k, blk A' k → w.heap.size ≤ k) ∧
      IsTab w' b (fun k => w0.heap.size ≤ k) (dropL ls who 0) most N (dropF ls f who) ∧ Below w0.heap.size w0 w' ∧ KeepT w w' := by
  obtain ⟨mm, F0, _, hmc, hT, hF⟩ := h.typed
  exact (DropT_ hT h0 hl hm who hw hok).mono fun e w' ⟨A', c', h1, h2, h3, h4, h5⟩ => ⟨A', c', h1, h2, h3, h4.mono (fun k _ hk => hk.1.elim (fun h => (hF k h).1) (fun h => Nat.le_trans hb.size h)), h5.to_below hb hb.size (fun k h => (hF k h).1), keepT_of h5 (fun k hk => (hF k hk).2.2) hmc⟩
/-! ### appends of whatever slice -/
def Src (w : World) (Al : Option Addr) (m : Nat) (news : List Value) : Prop := (Al = none ∧ m = 0 ∧ news = []) ∨ ∃ ad, Al = some ad ∧ ∀ j u, news[j]? = some u → w.cell? (ad.add j) = some u
theorem Src.of_row {w : World} {e n c : Nat} {A : Option Addr} {xs : List Value} (h : Row w e 1 A n c xs) : Src w A n xs := by
  by_cases hn : 0 < n
  · obtain ⟨g, off, cur, rfl, _, _, hc⟩ := h.at_ hn
    exact .inr ⟨_, rfl, fun j u hu => by rw [Addr.add_lit]; exact (hc j u hu).1⟩
  · have hx : xs = [] := List.eq_nil_of_length_eq_zero (by rw [h.1]; omega)
    cases A with
    | none => exact .inl ⟨rfl, by omega, hx⟩
    | some ad => exact .inr ⟨ad, rfl, fun j u hu => by rw [hx] at hu; simp at hu⟩
theorem Src.of_ints {w : World} {A : Option Addr} {l : List Int} (h : Kd.C (Kd.int .i64) w A l.length l) : Src w A l.length (ints l) := by
  cases A with
  | none =>
    by_cases hn : 0 < l.length
    · obtain ⟨ad, e, _⟩ := Kd.at_int h 0 (by omega) (by omega)
      cases e
    · have hx : l = [] := List.eq_nil_of_length_eq_zero (by omega)
      subst hx
      exact .inl ⟨rfl, rfl, rfl⟩
  | some ad =>
    refine .inr ⟨ad, rfl, fun j u hu => ?_⟩
    unfold ints at hu
    rw [List.getElem?_map] at hu
    cases hj : l[j]? with
    | none => rw [hj] at hu; cases hu
    | some x =>
      rw [hj] at hu
      injection hu with hu
      have hlt := (List.getElem?_eq_some_iff.1 hj).1
      obtain ⟨ad2, e, hc⟩ := Kd.at_int h (j : Int) (by omega) (by omega)
      injection e with e
      subst e
      rw [Int.toNat_natCast, show rd l (j : Int) = l.getD j 0 from by simp [rd], List.getD_eq_getElem?_getD, hj] at hc
      rw [← hu]
      exact hc
theorem wpList_append_src {P : Program} {w : World} {ops : Array Oper} {rest : List Oper} {o : Oper} {a : Act} {Q : Exit → Act → World → Prop} (hgd : o.guard = none) (s x : Operand) (t : TypeId)
    (ho : o.op = .call { callee := .builtin .append, args := #[s, x], argTypes := #[t, t] })
    (e : TypeId) (z : Value) (size bytes : Nat) (ht : P.underlying t = some (.slice e)) (hinfo : (P.info? e).map (fun i => (i.zero, i.size, i.bytes)) = some (some z, size, bytes))
    (hzs : z.cells.size = size) (A : Option Addr) (n cap : Nat) (xs : List Value) (hs : a.eval s = .slice A n cap) (hR : Row w e size A n cap xs)
    (Al : Option Addr) (m c : Nat) (news : List Value) (hx : a.eval x = .slice Al m c) (hl : news.length = m * size) (hsrc : Src w Al m news) (h1 : ∀ u ∈ news, u.oneCell' = true)
    (h63 : n + m ≤ maxLen) (hbytes : (n + m) * bytes ≤ 140737488355328)
    (h : ∀ A' cap' w', Row w' e size A' (n + m) cap' (xs ++ news) → Grew (blk A) w w' → (∀ k, blk A' k → blk A k ∨ w.heap.size ≤ k) → wpList P ops Q rest (a.put o.dst (.slice A' (n + m) cap')) w') : wpList P ops Q (o :: rest) a w := by
  cases hi : P.info? e with
  | none => rw [hi] at hinfo; cases hinfo
  | some i =>
    rw [hi] at hinfo
    obtain ⟨hz, hs1, hb1⟩ : i.zero = some z ∧ i.size = size ∧ i.bytes = bytes := by simpa using hinfo
    have hr : ∃ A' cap' w', (Builtin.append_ #[t, t] o.type #[.slice A n cap, .slice Al m c]).run P w = .ok (.slice A' (n + m) cap') w' ∧ Row w' e size A' (n + m) cap' (xs ++ news) ∧ Grew (blk A) w w' ∧ (∀ k, blk A' k → blk A k ∨ w.heap.size ≤ k) := by
      rcases hsrc with ⟨rfl, rfl, rfl⟩ | ⟨ad, rfl, hc⟩
      · refine ⟨A, cap, w, ?_, by rw [List.append_nil]; exact hR, Grew.refl _ _, fun k hk => .inl hk⟩
        have hn := hR.2.1
        cases A with
        | none => simp [Builtin.append_, run_underlying ht, sizeOf, typeInfo, hi, Builtin.lenOf, Builtin.firstCells, hn]
        | some a => simp [Builtin.append_, run_underlying ht, sizeOf, typeInfo, hi, Builtin.lenOf, Builtin.firstCells, hn, storeCells]
      · exact run_append_row w t o.type e i z size bytes ht hi hz hs1 hb1 hzs A n cap xs hR ad m c news hl hc h1 h63 hbytes
    obtain ⟨A', cap', w', hr, h2, h3, h4⟩ := hr
    refine wpList_plain hgd fun K hK => ?_
    unfold Oper.wp execOp
    simp only [ho, resolve, invoke, builtin, Sem.run_bind, Sem.run_pure, Result.andThen_ok, List.map_toArray, List.map_cons, List.map_nil, hs, hx, hr]
    exact hK _ _ (h A' cap' w' h2 h3 h4)
theorem row_of_owns {w : World} {base e n : Nat} {A : Option Addr} {c : Nat} {xs : List Value} (h : w.ownsRow base e 1 (.slice A n c) n xs) : Row w e 1 A n c xs := by
  obtain ⟨h1, h2⟩ := h
  rcases h2 with ⟨h2, h3⟩ | ⟨g, cap, cur, h2, _, hg, h4, h5, h6, h7⟩
  · injection h2 with ha hb hc
    subst ha hb hc
    exact ⟨h1, Nat.le_refl _, Nat.zero_le _, .inl ⟨rfl, rfl⟩⟩
  · injection h2 with ha hb hc
    subst ha hc
    exact ⟨h1, h4, h5, .inr ⟨g, 0, cur, rfl, hg, by rw [h6]; omega, by simpa using h7⟩⟩
/-! ### all drop -/
/-- Whoever is anywhere is of W, and not of G. -/
structure DInv (n i : Nat) (W G : List Int) (ls : List LS) (f : At) : Prop extends OInv n 4096 i ls f where
  mem : ∀ j, j < ls.length → ∀ k ∈ folk (ls.getD j zL), k ∈ W ∧ k ∉ G
theorem dinv_zero (n : Nat) : DInv n 0 [] [] (List.replicate n zL) f0 := ⟨oinv_zero n (by decide), fun j _ k hk => by rw [getD_rep9] at hk; cases hk⟩
theorem DInv.ask {n i : Nat} {W : List Int} {ls : List LS} {f : At} (h : DInv n i W [] ls f) {who : Int} (hw : ok64 who) (node m : Int) : DInv n (i + 1) (W ++ [who]) [] (askT ls 4096 f who node m).2.2.1 (askT ls 4096 f who node m).2.2.2 := by
  refine ⟨h.toOInv.ask hw node m, ?_⟩
  rcases askT_cases ls 4096 f who node m with ⟨h1, _⟩ | ⟨k, rfl, hk, _, _, _, _, _, e⟩
  · rw [h1]
    exact fun j hj y hy => ⟨List.mem_append_left _ (h.mem j hj y hy).1, by simp⟩
  · rw [e]
    intro j hj y hy
    dsimp only at hj hy
    rw [List.length_set] at hj
    rw [askT_at hk] at hy
    by_cases ej : j = k
    · rw [if_pos ej] at hy
      rcases ask_folk (h.t.inv k hk) who m hy with hy | rfl
      · exact ⟨List.mem_append_left _ (h.mem k hk y hy).1, by simp⟩
      · exact ⟨List.mem_append_right _ (by simp), by simp⟩
    · rw [if_neg ej] at hy
      exact ⟨List.mem_append_left _ (h.mem j hj y hy).1, by simp⟩
theorem DInv.drop {n i : Nat} {W G : List Int} {ls : List LS} {f : At} (h : DInv n i W G ls f) (who : Int) : DInv n i W (G ++ [who]) (dropL ls who 0) (dropF ls f who) := by
  refine ⟨h.toOInv.drop who, fun j hj k hk => ?_⟩
  rw [dropL_len] at hj
  rw [dropL0_at hj] at hk
  obtain ⟨q, _, _, h3, h4, h5, _⟩ := dropS_spec (h.t.inv j hj) who
  rw [folk_mem h4] at hk
  have key : k ∈ folk (ls.getD j zL) ∧ k ≠ who := by
    rw [folk_mem (h.t.inv j hj)]
    rcases hk with ⟨e, he, ek⟩ | ⟨e, he, ek⟩
    · rcases (h5 e).1 he with he | ⟨he, _⟩
      · have := fl_mem.1 (List.mem_of_mem_take he)
        exact ⟨.inr ⟨e, this.1, ek⟩, by rw [← ek]; exact this.2⟩
      · have := fl_mem.1 he
        exact ⟨.inl ⟨e, this.1, ek⟩, by rw [← ek]; exact this.2⟩
    · rw [h3] at he
      have := fl_mem.1 (List.mem_of_mem_drop he)
      exact ⟨.inr ⟨e, this.1, ek⟩, by rw [← ek]; exact this.2⟩
  obtain ⟨m1, m2⟩ := h.mem j hj k key.1
  refine ⟨m1, fun hg => ?_⟩
  rcases List.mem_append.1 hg with hg | hg
  · exact m2 hg
  · exact key.2 (List.mem_singleton.1 hg)
theorem lane_empty {s : LS} (h : folk s = []) : s = zL := by
  have h1 : s.1 = [] := by
    unfold folk at h
    have := (List.append_eq_nil_iff.1 h).1
    exact List.map_eq_nil_iff.1 this
  have h2 : s.2 = [] := by
    unfold folk at h
    have := List.map_eq_nil_iff.1 (List.append_eq_nil_iff.1 h).2
    rw [h1, List.filter_eq_nil_iff] at this
    exact List.eq_nil_iff_forall_not_mem.2 (fun x hx => this x hx rfl)
  exact Prod.ext h1 h2
/-- When all have dropped there is nothing. -/
theorem DInv.nothing {n i : Nat} {W G : List Int} {ls : List LS} {f : At} (h : DInv n i W G ls f) (hs : ∀ x ∈ W, x ∈ G) : lenT ls = 0 ∧ ∀ x, f x = none := by
  have hz : ∀ j, j < ls.length → ls.getD j zL = zL := fun j hj => lane_empty (List.eq_nil_iff_forall_not_mem.2 (fun k hk => (h.mem j hj k hk).2 (hs k (h.mem j hj k hk).1)))
  constructor
  · have key : ∀ q, q ≤ ls.length → lenT (ls.take q) = 0 := by
      intro q
      induction q with
      | zero => intro _; simp [lenT]
      | succ q ih =>
        intro hq
        rw [len_step (by omega), ih (by omega), hz q (by omega)]
        rfl
    have := key ls.length (Nat.le_refl _)
    rwa [List.take_length] at this
  · intro x
    cases hx : f x with
    | none => rfl
    | some q =>
      obtain ⟨hq, e, he, _⟩ := (h.t.map x q).1 hx
      rw [hz q hq] at he
      cases he
theorem edges_zero {ls : List LS} {f : At} (hf : ∀ x, f x = none) {l : List Int} (h : ∀ x, x ∈ l ↔ ok64 x ∧ (f x).isSome = true) : (edUp ls f (sortedI l) l.length).length = 0 := by
  obtain rfl : l = [] := List.eq_nil_iff_forall_not_mem.2 (fun x hx => by have := ((h x).1 hx).2; rw [hf x] at this; cases this)
  rfl
/-- Who is granted by a Drop waited, is of W, and waits no more. -/
theorem DInv.outs2 {n i : Nat} {W G : List Int} {ls : List LS} {f : At} (h : DInv n i W G ls f) (who : Int) {x : Int} (hx : x ∈ dropO ls who 0) : x ∈ W ∧ (f x).isSome = true ∧ dropF ls f who x = none := by
  obtain ⟨j, _, hj, hx2⟩ := dropO_mem.1 hx
  obtain ⟨e, he, ex⟩ := dropS_outs (h.t.inv j hj) who hx2
  refine ⟨(h.mem j hj x ((folk_mem (h.t.inv j hj)).2 (.inr ⟨e, he, ex⟩))).1, ?_, by rw [dropF_at, if_pos (.inr hx)]⟩
  rw [(h.t.map x j).2 ⟨hj, e, he, ex⟩]; rfl
/-- The first p of W are marked right. -/
def Marks (f : At) (W : List Int) (p : Nat) (B : List Bool) : Prop := B.length = 1001 ∧ ∀ q, q < p → q < W.length → B.getD (W.getD q 0).toNat false = (f (W.getD q 0)).isSome
theorem marks_step {f : At} {W : List Int} {p : Nat} {B : List Bool} (h : Marks f W p B) (hW : ∀ x ∈ W, 0 ≤ x ∧ x ≤ 1000) (hp : p < W.length) : Marks f W (p + 1) (B.set (W.getD p 0).toNat (f (W.getD p 0)).isSome) := by
  have hm : ∀ q, q < W.length → W.getD q 0 ∈ W := fun q hq => by rw [List.getD_eq_getElem?_getD, List.getElem?_eq_getElem hq]; exact List.getElem_mem hq
  refine ⟨by rw [List.length_set]; exact h.1, fun q hq hqw => ?_⟩
  have h1 := hW _ (hm p hp)
  have h2 := hW _ (hm q hqw)
  have hl := h.1
  rw [List.getD_eq_getElem?_getD, List.getElem?_set]
  by_cases e : W.getD q 0 = W.getD p 0
  · rw [if_pos (by rw [e]), if_pos (by omega), e]; rfl
  · rw [if_neg (by omega), ← List.getD_eq_getElem?_getD]
    exact h.2 q (by have h3 : q ≠ p := fun h => e (by rw [h]); omega) hqw
theorem marks_at {f : At} {W : List Int} {B : List Bool} (h : Marks f W W.length B) {x : Int} (hx : x ∈ W) : B.getD x.toNat false = (f x).isSome := by
  obtain ⟨q, hq, e⟩ := List.mem_iff_getElem.1 hx
  have h1 := h.2 q hq hq
  rw [List.getD_eq_getElem?_getD (l := W), List.getElem?_eq_getElem hq, Option.getD_some, e] at h1
  exact h1
def bools (B : List Bool) : List Value := B.map Value.bool
theorem made_bools' (n : Nat) : (madeCells (Value.bool false).cells (n * 1)).toList = bools (List.replicate n false) := by
  refine List.ext_getElem? (fun j => ?_)
  by_cases hj : j < n
  · simp [madeCells, bools, hj, Value.cells, Nat.mod_one]
  · simp [madeCells, bools, hj]
theorem made_bools : (madeCells (Value.bool false).cells (1001 * 1)).toList = bools (List.replicate 1001 false) := made_bools' 1001
end Go.Proofs.Ytagdgkimjgomlaa.Ln
