/- What a slice shows of a block, owned: what an append, a cut, a store leave of it. -/
import Derived.Laws.CopyOwn
import Derived.Below
import Derived.Test.YtkfhnicojokafaaGreatWWords
import Derived.Test.YtkfhnicojokafaaGreatWKept
import Derived.Test.YtkfhnicojokafaaGreatWMore
namespace Go.Proofs.YtkfhnicojokafaaGreat.Ln
open Go.RowKit Go.Proofs.YtkfhnicojokafaaGreatW.PrintWords Go.Proofs.YtkfhnicojokafaaGreatW.PrintLast Go.Proofs.YtkfhnicojokafaaGreatW.PrintMore
set_option linter.unusedVariables false

/-- Block k is the one that a slice shows. -/
def blk (A : Option Addr) (k : Nat) : Prop := ∃ a, A = some a ∧ a.block = k
/-- Outside S all is as it was. -/
structure Grew (S : Nat → Prop) (w w' : World) : Prop where
  os : w'.os = w.os
  tape : w'.tape = w.tape
  output : w'.output = w.output
  size : w.heap.size ≤ w'.heap.size
  block : ∀ k, k < w.heap.size → ¬ S k → w'.heap[k]? = w.heap[k]?
theorem Grew.refl (S : Nat → Prop) (w : World) : Grew S w w := ⟨rfl, rfl, rfl, Nat.le_refl _, fun _ _ _ => rfl⟩
theorem Grew.of_below {S : Nat → Prop} {w w' : World} (h : Below w.heap.size w w') : Grew S w w' := ⟨h.os, h.tape, h.output, h.size, fun k hk _ => h.block k hk⟩
theorem Grew.trans {S S2 : Nat → Prop} {w w1 w2 : World} (h : Grew S w w1) (k : Grew S2 w1 w2) (hs : ∀ i, S2 i → S i ∨ w.heap.size ≤ i) : Grew S w w2 :=
  ⟨k.os.trans h.os, k.tape.trans h.tape, k.output.trans h.output, Nat.le_trans h.size k.size, fun i hi hn =>
    (k.block i (Nat.lt_of_lt_of_le hi h.size) (fun h2 => (hs i h2).elim hn (fun h3 => by omega))).trans (h.block i hi hn)⟩
theorem Grew.below {S : Nat → Prop} {w w1 w2 : World} (h : Grew S w w1) (k : Below w1.heap.size w1 w2) : Grew S w w2 := h.trans (Grew.of_below (S := fun _ => False) k) (fun _ hk => hk.elim)
theorem Grew.after {S : Nat → Prop} {w w1 w2 : World} (h : Below w.heap.size w w1) (k : Grew S w1 w2) : Grew (fun i => S i) w w2 := (Grew.of_below (S := S) h).trans k (fun _ hk => .inl hk)
theorem Grew.mono {S S2 : Nat → Prop} {w w' : World} (h : Grew S w w') (hs : ∀ i, i < w.heap.size → S i → S2 i) : Grew S2 w w' := ⟨h.os, h.tape, h.output, h.size, fun i hi hn => h.block i hi (fun h2 => hn (hs i hi h2))⟩
theorem Grew.to_below {S : Nat → Prop} {B : Nat} {w0 w w' : World} (h : Grew S w w') (hb : Below B w0 w) (hB : B ≤ w.heap.size) (hs : ∀ i, S i → B ≤ i) : Below B w0 w' :=
  hb.trans ⟨h.os, h.tape, h.output, h.size, fun k hk => h.block k (by omega) (fun h2 => by have := hs k h2; omega)⟩
theorem Grew.of_grown {row : Option Nat} {w w' : World} (h : w.grownBy w' row) : Grew (fun k => some k = row) w w' := ⟨h.os, h.tape, h.output, h.size, fun k hk hn => h.block k hk hn⟩
theorem Grew.alloc {S : Nat → Prop} {w w1 : World} (h : Grew S w w1) (o : Obj) : Grew S w (w1.alloc o) := h.below (below_alloc (Below.refl _ _) o)
theorem Grew.drewN {S : Nat → Prop} {w w1 : World} (h : Grew S w w1) (m : Nat) : Grew S w (w1.drewN m) := ⟨h.os, h.tape, h.output, h.size, h.block⟩
theorem Grew.setCell {S : Nat → Prop} {w w1 : World} (h : Grew S w w1) {p : Addr} (hp : S p.block ∨ w.heap.size ≤ p.block) (u : Value) : Grew S w (w1.setCell p u) :=
  ⟨h.os, h.tape, h.output, by simpa using h.size, fun k hk hn => (Below.heap_setCell w1 p u k (fun e => by subst e; exact hp.elim hn (fun h2 => by omega))).trans (h.block k hk hn)⟩
theorem Grew.setRow {S : Nat → Prop} {w w1 : World} (h : Grew S w w1) {g : Nat} (hp : S g ∨ w.heap.size ≤ g) (cs : Array Value) : Grew S w (w1.setRow g cs) :=
  ⟨h.os, h.tape, h.output, by simpa using h.size, fun k hk hn => (setRow_other w1 g k cs (fun e => by subst e; exact hp.elim hn (fun h2 => by omega))).trans (h.block k hk hn)⟩
theorem Grew.cell {S : Nat → Prop} {w w' : World} (h : Grew S w w') {a : Addr} {v : Value} (hc : w.cell? a = some v) (hn : ¬ S a.block) : w'.cell? a = some v :=
  (World.cell?_of_block (h.block a.block (World.block_lt_of_cell? w a hc) hn)).trans hc

/-- n elements of sz cells each, shown by a slice, of a block of elements of type e. -/
def Row (w : World) (e sz : Nat) (A : Option Addr) (n cap : Nat) (xs : List Value) : Prop :=
  xs.length = n * sz ∧ n ≤ cap ∧ cap ≤ maxLen ∧ ((A = none ∧ cap = 0) ∨
    ∃ g off cur, A = some ⟨g, off, none⟩ ∧ w.heap[g]? = some (.cells cur e (0, 0)) ∧ off + cap * sz ≤ cur.size ∧ (cur.toList.drop off).take (n * sz) = xs)
section
variable {w w' : World} {e sz n cap : Nat} {A : Option Addr} {xs : List Value}
theorem Row.zero (w : World) (e sz : Nat) : Row w e sz none 0 0 [] := ⟨by simp, Nat.le_refl _, Nat.zero_le _, .inl ⟨rfl, rfl⟩⟩
theorem Row.lt (h : Row w e sz A n cap xs) {k : Nat} (hk : blk A k) : k < w.heap.size := by
  obtain ⟨a, rfl, rfl⟩ := hk
  rcases h.2.2.2 with ⟨h, _⟩ | ⟨g, off, cur, h, hg, _⟩
  · cases h
  · cases h; exact (Array.getElem?_eq_some_iff.1 hg).1
theorem Row.typed (h : Row w e sz A n cap xs) {k : Nat} (hk : blk A k) : ∃ cur, w.heap[k]? = some (.cells cur e (0, 0)) := by
  obtain ⟨a, rfl, rfl⟩ := hk
  rcases h.2.2.2 with ⟨h, _⟩ | ⟨g, off, cur, h, hg, _⟩
  · cases h
  · cases h; exact ⟨cur, hg⟩
theorem Row.ne (h : Row w e sz A n cap xs) {k t : Nat} {cells : Array Value} (hb : w.heap[k]? = some (.cells cells t (0, 0))) (ht : e ≠ t) : ¬ blk A k := fun hk => by
  obtain ⟨cur, hc⟩ := h.typed hk
  rw [hc] at hb
  injection hb with hb
  injection hb with _ hb
  exact ht hb
theorem Row.move (h : Row w e sz A n cap xs) (hm : ∀ k, blk A k → k < w.heap.size → w'.heap[k]? = w.heap[k]?) : Row w' e sz A n cap xs := by
  refine ⟨h.1, h.2.1, h.2.2.1, ?_⟩
  rcases h.2.2.2 with h2 | ⟨g, off, cur, rfl, hg, r⟩
  · exact .inl h2
  · exact .inr ⟨g, off, cur, rfl, (hm g ⟨_, rfl, rfl⟩ (Array.getElem?_eq_some_iff.1 hg).1).trans hg, r⟩
theorem Row.below (h : Row w e sz A n cap xs) (hb : Below w.heap.size w w') : Row w' e sz A n cap xs := h.move (fun k _ hk => hb.block k hk)
theorem Row.grew {S : Nat → Prop} (h : Row w e sz A n cap xs) (hg : Grew S w w') (hs : ∀ k, blk A k → ¬ S k) : Row w' e sz A n cap xs := h.move (fun k hk hl => hg.block k hl (hs k hk))
theorem Row.drewN (h : Row w e sz A n cap xs) (m : Nat) : Row (w.drewN m) e sz A n cap xs := h
theorem Row.alloc (h : Row w e sz A n cap xs) (o : Obj) : Row (w.alloc o) e sz A n cap xs := h.below (below_alloc (Below.refl _ _) o)
theorem Row.set (h : Row w e sz A n cap xs) {p : Addr} (hp : ¬ blk A p.block) (u : Value) : Row (w.setCell p u) e sz A n cap xs :=
  h.move (fun k hk _ => Below.heap_setCell w p u k (fun q => hp (q ▸ hk)))
/-- The cells. -/
theorem Row.at_ (h : Row w e sz A n cap xs) (hn : 0 < n) : ∃ g off cur, A = some ⟨g, off, none⟩ ∧ w.heap[g]? = some (.cells cur e (0, 0)) ∧ off + cap * sz ≤ cur.size ∧
    (∀ j v, xs[j]? = some v → w.cell? ⟨g, off + j, none⟩ = some v ∧ w.frozen? ⟨g, off + j, none⟩ = false) := by
  rcases h.2.2.2 with ⟨_, h2⟩ | ⟨g, off, cur, rfl, hg, h1, h2⟩
  · have := h.2.1; omega
  · refine ⟨g, off, cur, rfl, hg, h1, fun j v hv => ⟨?_, frozen_of_row w g _ cur e hg⟩⟩
    rw [cell_of_row w g _ cur e (0, 0) hg]
    rw [← h2, List.getElem?_take] at hv
    split at hv
    · rw [List.getElem?_drop] at hv
      simpa using hv
    · cases hv
/-- A store into an element's cell. -/
theorem Row.put {g off : Nat} (h : Row w e sz (some ⟨g, off, none⟩) n cap xs) (j : Nat) (hj : j < xs.length) (u : Value) :
    Row (w.setCell ⟨g, off + j, none⟩ u) e sz (some ⟨g, off, none⟩) n cap (xs.set j u) := by
  refine ⟨by rw [List.length_set]; exact h.1, h.2.1, h.2.2.1, .inr ?_⟩
  rcases h.2.2.2 with ⟨h2, _⟩ | ⟨g', off', cur, h2, hg, h3, h4⟩
  · cases h2
  · cases h2
    have hs : off + j < cur.size := by
      have h1 := h.1
      have := Nat.mul_le_mul_right sz h.2.1
      omega
    refine ⟨g, off, cur.setIfInBounds (off + j) u, rfl, ?_, by simpa using h3, ?_⟩
    · exact heap_setCell_same w g (off + j) cur e u hg
    · rw [← h4]
      rw [Array.toList_setIfInBounds, List.drop_set, if_neg (by omega), Nat.add_sub_cancel_left, List.take_set]
/-- A cut: xs[i:]. -/
theorem Row.from_ (h : Row w e sz A n cap xs) (i : Nat) (hi : i ≤ n) : Row w e sz (if cap = i then A else A.map (·.add (i * sz))) (n - i) (cap - i) (xs.drop (i * sz)) := by
  refine ⟨by rw [List.length_drop, h.1, Nat.sub_mul], by have := h.2.1; omega, by have := h.2.2.1; omega, ?_⟩
  rcases h.2.2.2 with ⟨rfl, h2⟩ | ⟨g, off, cur, rfl, hg, h1, h2⟩
  · left
    refine ⟨by split <;> rfl, by omega⟩
  · right
    by_cases hc : cap = i
    · subst hc
      refine ⟨g, off, cur, by rw [if_pos rfl], hg, by simp; omega, ?_⟩
      have h3 := h.2.1
      have : n - cap = 0 := by omega
      rw [this]
      have h1 := h.1
      have : n = cap := by omega
      subst this
      simp
      omega
    · refine ⟨g, off + i * sz, cur, by rw [if_neg hc]; show some _ = some _; simp [Addr.add], hg, ?_, ?_⟩
      · have h3 := h.2.1
        have : off + i * sz + (cap - i) * sz = off + cap * sz := by rw [Nat.sub_mul]; have := Nat.mul_le_mul_right sz (show i ≤ cap by omega); omega
        omega
      · rw [← h2, List.drop_take, List.drop_drop, Nat.sub_mul]
/-- A cut: xs[:i]. -/
theorem Row.upto (h : Row w e sz A n cap xs) (i : Nat) (hi : i ≤ n) : Row w e sz A i cap (xs.take (i * sz)) := by
  have hm := Nat.mul_le_mul_right sz hi
  refine ⟨by rw [List.length_take, h.1]; omega, by have := h.2.1; omega, h.2.2.1, ?_⟩
  rcases h.2.2.2 with h2 | ⟨g, off, cur, rfl, hg, h1, h2⟩
  · exact .inl h2
  · refine .inr ⟨g, off, cur, rfl, hg, h1, ?_⟩
    rw [← h2, List.take_take]
    congr 1
    omega
/-- Up to the capacity. -/
theorem Row.grows (h : Row w e sz A n cap xs) (m : Nat) (hm : m ≤ cap) : ∃ ys, Row w e sz A m cap ys ∧ ∀ i, i ≤ n * sz → i ≤ m * sz → ys.take i = xs.take i := by
  rcases h.2.2.2 with ⟨rfl, h2⟩ | ⟨g, off, cur, rfl, hg, h1, h2⟩
  · obtain rfl : m = 0 := by omega
    refine ⟨[], ⟨by simp, by omega, h.2.2.1, .inl ⟨rfl, h2⟩⟩, fun i hi hi2 => ?_⟩
    have : i = 0 := by simpa using hi2
    simp [this]
  · refine ⟨(cur.toList.drop off).take (m * sz), ⟨?_, hm, h.2.2.1, .inr ⟨g, off, cur, rfl, hg, h1, rfl⟩⟩, fun i hi hi2 => ?_⟩
    · have := Nat.mul_le_mul_right sz hm
      simp
      omega
    · rw [← h2, List.take_take, List.take_take]
      congr 1
      omega
end
/-- An append. -/
theorem run_append_row {P : Program} (w : World) (t ty e : TypeId) (i : TypeInfo) (z : Value) (size bytes : Nat) (ht : P.underlying t = some (.slice e)) (hi : P.info? e = some i) (hz : i.zero = some z)
    (hsize : i.size = size) (hby : i.bytes = bytes) (hzs : z.cells.size = size) (A : Option Addr) (n cap : Nat) (xs : List Value) (hR : Row w e size A n cap xs)
    (a : Addr) (m c : Nat) (news : List Value) (hl : news.length = m * size) (hnews : ∀ j u, news[j]? = some u → w.cell? (a.add j) = some u) (h1 : ∀ u ∈ news, u.oneCell' = true)
    (h63 : n + m ≤ maxLen) (hbytes : (n + m) * bytes ≤ 140737488355328) :
    ∃ A' cap' w', (Builtin.append_ #[t, t] ty #[.slice A n cap, .slice (some a) m c]).run P w = .ok (.slice A' (n + m) cap') w' ∧ Row w' e size A' (n + m) cap' (xs ++ news) ∧ Grew (blk A) w w' ∧
      (∀ k, blk A' k → blk A k ∨ w.heap.size ≤ k) := by
  subst hsize
  subst hby
  have hlen : (xs ++ news).length = (n + m) * i.size := by rw [List.length_append, hR.1, hl, Nat.add_mul]
  have hsmall : n + m ≤ 9223372036854775807 := by simp only [maxLen] at h63; omega
  have grown : ∀ (old : Nat), old < n + m →
      Row (w.drew.alloc (.cells (xs.toArray ++ news.toArray ++ Builtin.zeroCells z.cells (grownCap w (n + m) old e - (n + m))) e)) e i.size (some ⟨w.heap.size, 0, none⟩) (n + m) (grownCap w (n + m) old e) (xs ++ news) ∧
      Grew (blk A) w (w.drew.alloc (.cells (xs.toArray ++ news.toArray ++ Builtin.zeroCells z.cells (grownCap w (n + m) old e - (n + m))) e)) := by
    intro old ho
    have hge := grownCap_ge w (n + m) old e
    have hcm : grownCap w (n + m) old e ≤ maxLen := grownCap_le_maxLen w (n + m) old e h63
    refine ⟨⟨hlen, hge, hcm, .inr ⟨w.heap.size, 0, _, rfl, heap_alloc_new w.drew _, ?_, ?_⟩⟩, ⟨rfl, rfl, rfl, by simp, fun k hk _ => Below.heap_alloc w.drew _ k hk⟩⟩
    · simp only [Array.size_append, List.size_toArray, size_zeroCells, hzs, hR.1, hl, ← Nat.add_mul, Nat.zero_add]
      apply Nat.le_of_eq
      congr 1
      omega
    · simp only [Array.toList_append, List.append_assoc, List.drop_zero]
      rw [← List.append_assoc, ← hlen]
      exact List.take_left
  rcases hR.2.2.2 with ⟨rfl, rfl⟩ | ⟨g, off, cur, rfl, hg, hcs, htake⟩
  · obtain rfl : n = 0 := by have := hR.2.1; omega
    have hx : xs = [] := List.eq_nil_of_length_eq_zero (by simpa using hR.1)
    subst hx
    by_cases hm : m = 0
    · subst hm
      have hn : news = [] := List.eq_nil_of_length_eq_zero (by simpa using hl)
      subst hn
      refine ⟨none, 0, w, ?_, Row.zero _ _ _, Grew.refl _ _, fun k hk => .inl hk⟩
      simp [Builtin.append_, run_underlying ht, sizeOf, typeInfo, hi, Builtin.lenOf, Builtin.firstCells, loadCells, loadCellsFrom]
    · have hr := run_append_nil (P := P) w t ty e i z ht hi hz a m c news hl hnews (by omega) (by omega) (by have hb := hbytes; simp only [Nat.zero_add] at hb; omega)
      have hgr := grown 0 (by omega)
      simp only [Nat.zero_add, List.nil_append, Array.empty_append] at hgr ⊢
      exact ⟨_, _, _, hr, hgr.1, hgr.2, fun k ⟨a, h2, h3⟩ => by cases h2; exact .inr (Nat.le_of_eq h3)⟩
  · by_cases hroom : n + m ≤ cap
    · have hmul := Nat.mul_le_mul_right i.size hroom
      rw [Nat.add_mul] at hmul
      have hf := run_firstCells_some (P := P) w i.size m a m c news hl hnews
      have hst := run_storeCells_at P g (off + n * i.size) e news 0 cur w hg (by rw [hl]; omega) h1
      simp only [Nat.add_zero] at hst
      refine ⟨some ⟨g, off, none⟩, cap, w.setRow g (cur.toList.take (off + n * i.size) ++ news ++ cur.toList.drop (off + n * i.size + news.length)).toArray, ?_, ⟨hlen, hroom, hR.2.2.1, .inr ⟨g, off, _, rfl, setRow_heap w g cur _ e _ hg, ?_, ?_⟩⟩,
        (Grew.refl _ w).setRow (.inl ⟨_, rfl, rfl⟩) _, fun k hk => .inl hk⟩
      · simp [Builtin.append_, run_underlying ht, sizeOf, typeInfo, hi, Builtin.lenOf, hroom, hf, Addr.add_lit, hst]
      · simp only [List.size_toArray, List.length_append, List.length_take, List.length_drop, Array.length_toList]
        omega
      · show List.take _ (List.drop off (_ ++ _)) = _
        rw [List.append_assoc, List.drop_append_of_le_length (by simp; omega)]
        have h0 : (cur.toList.take (off + n * i.size)).drop off = xs := by rw [List.drop_take, Nat.add_sub_cancel_left]; exact htake
        rw [h0, ← List.append_assoc, ← hlen]
        exact List.take_left
    · have holds : ∀ j u, xs[j]? = some u → w.cell? ((⟨g, off, none⟩ : Addr).add j) = some u := fun j u hu => by
        by_cases hn : 0 < n
        · obtain ⟨g', off', cur', h2, _, _, h3⟩ := hR.at_ hn
          cases h2
          rw [Addr.add_lit]
          exact (h3 j u hu).1
        · have h0 : xs.length = 0 := by rw [hR.1, show n = 0 from by omega, Nat.zero_mul]
          have hx : xs = [] := List.eq_nil_of_length_eq_zero h0
          subst hx
          simp at hu
      have hr := run_append_grow (P := P) w t ty e i z ht hi hz ⟨g, off, none⟩ n cap xs hR.1 holds a m c news hl hnews (by omega) (by omega) (growslice_fits (by omega) hbytes)
      have hgr := grown cap (by omega)
      exact ⟨_, _, _, hr, hgr.1, hgr.2, fun k ⟨a, h2, h3⟩ => by cases h2; exact .inr (Nat.le_of_eq h3)⟩
/-- The operation, for the walk. -/
theorem wpList_append_row {P : Program} {w : World} {ops : Array Oper} {rest : List Oper} {o : Oper} {a : Act} {Q : Exit → Act → World → Prop} (hgd : o.guard = none) (s x : Operand) (t : TypeId)
    (ho : o.op = .call { callee := .builtin .append, args := #[s, x], argTypes := #[t, t] })
    (e : TypeId) (i : TypeInfo) (z : Value) (size bytes : Nat) (ht : P.underlying t = some (.slice e)) (hi : P.info? e = some i) (hz : i.zero = some z)
    (hsize : i.size = size) (hby : i.bytes = bytes) (hzs : z.cells.size = size) (A : Option Addr) (n cap : Nat) (xs : List Value) (hs : a.eval s = .slice A n cap) (hR : Row w e size A n cap xs)
    (ad : Addr) (m c : Nat) (news : List Value) (hx : a.eval x = .slice (some ad) m c) (hl : news.length = m * size) (hnews : ∀ j u, news[j]? = some u → w.cell? (ad.add j) = some u) (h1 : ∀ u ∈ news, u.oneCell' = true)
    (h63 : n + m ≤ maxLen) (hbytes : (n + m) * bytes ≤ 140737488355328)
    (h : ∀ A' cap' w', Row w' e size A' (n + m) cap' (xs ++ news) → Grew (blk A) w w' → (∀ k, blk A' k → blk A k ∨ w.heap.size ≤ k) → wpList P ops Q rest (a.put o.dst (.slice A' (n + m) cap')) w') : wpList P ops Q (o :: rest) a w := by
  refine wpList_plain hgd fun K hK => ?_
  obtain ⟨A', cap', w', hr, h2, h3, h4⟩ := run_append_row (P := P) w t o.type e i z size bytes ht hi hz hsize hby hzs A n cap xs hR ad m c news hl hnews h1 h63 hbytes
  unfold Oper.wp execOp
  simp only [ho, resolve, invoke, builtin, Sem.run_bind, Sem.run_pure, Result.andThen_ok, List.map_toArray, List.map_cons, List.map_nil, hs, hx, hr]
  exact hK _ _ (h A' cap' w' h2 h3 h4)
/-- The same by what a seat knows of the element's type. -/
theorem wpList_append_info {P : Program} {w : World} {ops : Array Oper} {rest : List Oper} {o : Oper} {a : Act} {Q : Exit → Act → World → Prop} (hgd : o.guard = none) (s x : Operand) (t : TypeId)
    (ho : o.op = .call { callee := .builtin .append, args := #[s, x], argTypes := #[t, t] })
    (e : TypeId) (z : Value) (size bytes : Nat) (ht : P.underlying t = some (.slice e)) (hinfo : (P.info? e).map (fun i => (i.zero, i.size, i.bytes)) = some (some z, size, bytes))
    (hzs : z.cells.size = size) (A : Option Addr) (n cap : Nat) (xs : List Value) (hs : a.eval s = .slice A n cap) (hR : Row w e size A n cap xs)
    (ad : Addr) (m c : Nat) (news : List Value) (hx : a.eval x = .slice (some ad) m c) (hl : news.length = m * size) (hnews : ∀ j u, news[j]? = some u → w.cell? (ad.add j) = some u) (h1 : ∀ u ∈ news, u.oneCell' = true)
    (h63 : n + m ≤ maxLen) (hbytes : (n + m) * bytes ≤ 140737488355328)
    (h : ∀ A' cap' w', Row w' e size A' (n + m) cap' (xs ++ news) → Grew (blk A) w w' → (∀ k, blk A' k → blk A k ∨ w.heap.size ≤ k) → wpList P ops Q rest (a.put o.dst (.slice A' (n + m) cap')) w') : wpList P ops Q (o :: rest) a w := by
  cases hi : P.info? e with
  | none => rw [hi] at hinfo; cases hinfo
  | some i =>
    rw [hi] at hinfo
    obtain ⟨hz, hs1, hb1⟩ : i.zero = some z ∧ i.size = size ∧ i.bytes = bytes := by simpa using hinfo
    exact wpList_append_row hgd s x t ho e i z size bytes ht hi hz hs1 hb1 hzs A n cap xs hs hR ad m c news hx hl hnews h1 h63 hbytes h
end Go.Proofs.YtkfhnicojokafaaGreat.Ln
