import Derived.Laws.CopyOwn
import Derived.Below
import Derived.Test.YtaaekmcmpjljgaaGreatWWords
import Derived.Test.YtaaekmcmpjljgaaGreatWKept
import Derived.Test.YtaaekmcmpjljgaaGreatWMore
import Derived.Deep.RegionLaw
import Derived.Lib.AppendZerosOnto
import Derived.Lib.Overlaps
import Derived.Deep.QuietTactic
import Derived.BigQuiet
import Derived.Sort.Grow
import Derived.Test.YtaaekmcmpjljgaaGreatPMdx
import Derived.Test.YtaaekmcmpjljgaaGreatPMdx0
import Derived.Lib.SliceRun
import Derived.Shelf.RegionOpenPlain
import Derived.Laws.Externs
namespace Go.Proofs.YtaaekmcmpjljgaaGreat.Ln
open Go.RowKit Go.Proofs.YtaaekmcmpjljgaaGreatW.PrintWords Go.Proofs.YtaaekmcmpjljgaaGreatW.PrintLast Go.Proofs.YtaaekmcmpjljgaaGreatW.PrintMore
set_option linter.unusedVariables false
def blk (A : Option Addr) (k : Nat) : Prop := ∃ a, A = some a ∧ a.block = k
structure Grew (S : Nat → Prop) (w w' : World) : Prop where
  os : w'.os = w.os
  tape : w'.tape = w.tape
  output : w'.output = w.output
  size : w.heap.size ≤ w'.heap.size
  block : ∀ k, k < w.heap.size → ¬ S k → w'.heap[k]? = w.heap[k]?
theorem Grew.refl (S : Nat → Prop) (w : World) : Grew S w w := ⟨rfl, rfl, rfl, Nat.le_refl _, fun _ _ _ => rfl⟩
theorem Grew.of_below {S : Nat → Prop} {w w' : World} (h : Below w.heap.size w w') : Grew S w w' := ⟨h.os, h.tape, h.output, h.size, fun k hk _ => h.block k hk⟩
theorem Grew.trans {S S2 : Nat → Prop} {w w1 w2 : World} (h : Grew S w w1) (k : Grew S2 w1 w2) (hs : ∀ i, S2 i → S i ∨ w.heap.size ≤ i) : Grew S w w2 :=
  ⟨k.os.trans h.os, k.tape.trans h.tape, k.output.trans h.output, Nat.le_trans h.size k.size, fun i hi hn =>
    (k.block i (Nat.lt_of_lt_of_le hi h.size) (fun h2 => (hs i h2).elim hn (fun h3 => by omega))).trans (h.block i hi hn)⟩
theorem Grew.below {S : Nat → Prop} {w w1 w2 : World} (h : Grew S w w1) (k : Below w1.heap.size w1 w2) : Grew S w w2 := h.trans (Grew.of_below (S := fun _ => False) k) (fun _ hk => hk.elim)
theorem Grew.after {S : Nat → Prop} {w w1 w2 : World} (h : Below w.heap.size w w1) (k : Grew S w1 w2) : Grew (fun i => S i) w w2 := (Grew.of_below (S := S) h).trans k (fun _ hk => .inl hk)
theorem Grew.mono {S S2 : Nat → Prop} {w w' : World} (h : Grew S w w') (hs : ∀ i, i < w.heap.size → S i → S2 i) : Grew S2 w w' := ⟨h.os, h.tape, h.output, h.size, fun i hi hn => h.block i hi (fun h2 => hn (hs i hi h2))⟩
theorem Grew.to_below {S : Nat → Prop} {B : Nat} {w0 w w' : World} (h : Grew S w w') (hb : Below B w0 w) (hB : B ≤ w.heap.size) (hs : ∀ i, S i → B ≤ i) : Below B w0 w' :=
  hb.trans ⟨h.os, h.tape, h.output, h.size, fun k hk => h.block k (by omega) (fun h2 => by have := hs k h2; omega)⟩
theorem Grew.of_grown {row : Option Nat} {w w' : World} (h : w.grownBy w' row) : Grew (fun k => some k = row) w w' := ⟨h.os, h.tape, h.output, h.size, fun k hk hn => h.block k hk hn⟩
theorem Grew.alloc {S : Nat → Prop} {w w1 : World} (h : Grew S w w1) (o : Obj) : Grew S w (w1.alloc o) := h.below (below_alloc (Below.refl _ _) o)
theorem Grew.drewN {S : Nat → Prop} {w w1 : World} (h : Grew S w w1) (m : Nat) : Grew S w (w1.drewN m) := ⟨h.os, h.tape, h.output, h.size, h.block⟩
theorem Grew.setCell {S : Nat → Prop} {w w1 : World} (h : Grew S w w1) {p : Addr} (hp : S p.block ∨ w.heap.size ≤ p.block) (u : Value) : Grew S w (w1.setCell p u) :=
  ⟨h.os, h.tape, h.output, by simpa using h.size, fun k hk hn => (Below.heap_setCell w1 p u k (fun e => by subst e; exact hp.elim hn (fun h2 => by omega))).trans (h.block k hk hn)⟩
theorem Grew.setRow {S : Nat → Prop} {w w1 : World} (h : Grew S w w1) {g : Nat} (hp : S g ∨ w.heap.size ≤ g) (cs : Array Value) : Grew S w (w1.setRow g cs) :=
  ⟨h.os, h.tape, h.output, by simpa using h.size, fun k hk hn => (setRow_other w1 g k cs (fun e => by subst e; exact hp.elim hn (fun h2 => by omega))).trans (h.block k hk hn)⟩
theorem Grew.cell {S : Nat → Prop} {w w' : World} (h : Grew S w w') {a : Addr} {v : Value} (hc : w.cell? a = some v) (hn : ¬ S a.block) : w'.cell? a = some v :=
  (World.cell?_of_block (h.block a.block (World.block_lt_of_cell? w a hc) hn)).trans hc
def Row (w : World) (e sz : Nat) (A : Option Addr) (n cap : Nat) (xs : List Value) : Prop :=
  xs.length = n * sz ∧ n ≤ cap ∧ cap ≤ maxLen ∧ ((A = none ∧ cap = 0) ∨
    ∃ g off cur, A = some ⟨g, off, none⟩ ∧ w.heap[g]? = some (.cells cur e (0, 0)) ∧ off + cap * sz ≤ cur.size ∧ (cur.toList.drop off).take (n * sz) = xs)
section
variable {w w' : World} {e sz n cap : Nat} {A : Option Addr} {xs : List Value}
theorem Row.zero (w : World) (e sz : Nat) : Row w e sz none 0 0 [] := ⟨by simp, Nat.le_refl _, Nat.zero_le _, .inl ⟨rfl, rfl⟩⟩
theorem Row.lt (h : Row w e sz A n cap xs) {k : Nat} (hk : blk A k) : k < w.heap.size := by
  obtain ⟨a, rfl, rfl⟩ := hk
  rcases h.2.2.2 with ⟨h, _⟩ | ⟨g, off, cur, h, hg, _⟩
  · cases h
  · cases h; exact (Array.getElem?_eq_some_iff.1 hg).1
theorem Row.typed (h : Row w e sz A n cap xs) {k : Nat} (hk : blk A k) : ∃ cur, w.heap[k]? = some (.cells cur e (0, 0)) := by
  obtain ⟨a, rfl, rfl⟩ := hk
  rcases h.2.2.2 with ⟨h, _⟩ | ⟨g, off, cur, h, hg, _⟩
  · cases h
  · cases h; exact ⟨cur, hg⟩
theorem Row.ne (h : Row w e sz A n cap xs) {k t : Nat} {cells : Array Value} (hb : w.heap[k]? = some (.cells cells t (0, 0))) (ht : e ≠ t) : ¬ blk A k := fun hk => by
  obtain ⟨cur, hc⟩ := h.typed hk
  rw [hc] at hb
  injection hb with hb
  injection hb with _ hb
  exact ht hb
theorem Row.move (h : Row w e sz A n cap xs) (hm : ∀ k, blk A k → k < w.heap.size → w'.heap[k]? = w.heap[k]?) : Row w' e sz A n cap xs := by
  refine ⟨h.1, h.2.1, h.2.2.1, ?_⟩
  rcases h.2.2.2 with h2 | ⟨g, off, cur, rfl, hg, r⟩
  · exact .inl h2
  · exact .inr ⟨g, off, cur, rfl, (hm g ⟨_, rfl, rfl⟩ (Array.getElem?_eq_some_iff.1 hg).1).trans hg, r⟩
theorem Row.below (h : Row w e sz A n cap xs) (hb : Below w.heap.size w w') : Row w' e sz A n cap xs := h.move (fun k _ hk => hb.block k hk)
theorem Row.grew {S : Nat → Prop} (h : Row w e sz A n cap xs) (hg : Grew S w w') (hs : ∀ k, blk A k → ¬ S k) : Row w' e sz A n cap xs := h.move (fun k hk hl => hg.block k hl (hs k hk))
theorem Row.drewN (h : Row w e sz A n cap xs) (m : Nat) : Row (w.drewN m) e sz A n cap xs := h
theorem Row.alloc (h : Row w e sz A n cap xs) (o : Obj) : Row (w.alloc o) e sz A n cap xs := h.below (below_alloc (Below.refl _ _) o)
theorem Row.set (h : Row w e sz A n cap xs) {p : Addr} (hp : ¬ blk A p.block) (u : Value) : Row (w.setCell p u) e sz A n cap xs :=
  h.move (fun k hk _ => Below.heap_setCell w p u k (fun q => hp (q ▸ hk)))
theorem Row.at_ (h : Row w e sz A n cap xs) (hn : 0 < n) : ∃ g off cur, A = some ⟨g, off, none⟩ ∧ w.heap[g]? = some (.cells cur e (0, 0)) ∧ off + cap * sz ≤ cur.size ∧
    (∀ j v, xs[j]? = some v → w.cell? ⟨g, off + j, none⟩ = some v ∧ w.frozen? ⟨g, off + j, none⟩ = false) := by
  rcases h.2.2.2 with ⟨_, h2⟩ | ⟨g, off, cur, rfl, hg, h1, h2⟩
  · have := h.2.1; omega
  · refine ⟨g, off, cur, rfl, hg, h1, fun j v hv => ⟨?_, frozen_of_row w g _ cur e hg⟩⟩
    rw [cell_of_row w g _ cur e (0, 0) hg]
    rw [← h2, List.getElem?_take] at hv
    split at hv
    · rw [List.getElem?_drop] at hv
      simpa using hv
    · cases hv
theorem Row.put {g off : Nat} (h : Row w e sz (some ⟨g, off, none⟩) n cap xs) (j : Nat) (hj : j < xs.length) (u : Value) :
    Row (w.setCell ⟨g, off + j, none⟩ u) e sz (some ⟨g, off, none⟩) n cap (xs.set j u) := by
  refine ⟨by rw [List.length_set]; exact h.1, h.2.1, h.2.2.1, .inr ?_⟩
  rcases h.2.2.2 with ⟨h2, _⟩ | ⟨g', off', cur, h2, hg, h3, h4⟩
  · cases h2
  · cases h2
    have hs : off + j < cur.size := by
      have h1 := h.1
      have := Nat.mul_le_mul_right sz h.2.1
      omega
    refine ⟨g, off, cur.setIfInBounds (off + j) u, rfl, ?_, by simpa using h3, ?_⟩
    · exact heap_setCell_same w g (off + j) cur e u hg
    · rw [← h4]
      rw [Array.toList_setIfInBounds, List.drop_set, if_neg (by omega), Nat.add_sub_cancel_left, List.take_set]
theorem Row.from_ (h : Row w e sz A n cap xs) (i : Nat) (hi : i ≤ n) : Row w e sz (if cap = i then A else A.map (·.add (i * sz))) (n - i) (cap - i) (xs.drop (i * sz)) := by
  refine ⟨by rw [List.length_drop, h.1, Nat.sub_mul], by have := h.2.1; omega, by have := h.2.2.1; omega, ?_⟩
  rcases h.2.2.2 with ⟨rfl, h2⟩ | ⟨g, off, cur, rfl, hg, h1, h2⟩
  · left
    refine ⟨by split <;> rfl, by omega⟩
  · right
    by_cases hc : cap = i
    · subst hc
      refine ⟨g, off, cur, by rw [if_pos rfl], hg, by simp; omega, ?_⟩
      have h3 := h.2.1
      have : n - cap = 0 := by omega
      rw [this]
      have h1 := h.1
      have : n = cap := by omega
      subst this
      simp
      omega
    · refine ⟨g, off + i * sz, cur, by rw [if_neg hc]; show some _ = some _; simp [Addr.add], hg, ?_, ?_⟩
      · have h3 := h.2.1
        have : off + i * sz + (cap - i) * sz = off + cap * sz := by rw [Nat.sub_mul]; have := Nat.mul_le_mul_right sz (show i ≤ cap by omega); omega
        omega
      · rw [← h2, List.drop_take, List.drop_drop, Nat.sub_mul]
theorem Row.upto (h : Row w e sz A n cap xs) (i : Nat) (hi : i ≤ n) : Row w e sz A i cap (xs.take (i * sz)) := by
  have hm := Nat.mul_le_mul_right sz hi
  refine ⟨by rw [List.length_take, h.1]; omega, by have := h.2.1; omega, h.2.2.1, ?_⟩
  rcases h.2.2.2 with h2 | ⟨g, off, cur, rfl, hg, h1, h2⟩
  · exact .inl h2
  · refine .inr ⟨g, off, cur, rfl, hg, h1, ?_⟩
    rw [← h2, List.take_take]
    congr 1
    omega
theorem Row.grows (h : Row w e sz A n cap xs) (m : Nat) (hm : m ≤ cap) : ∃ ys, Row w e sz A m cap ys ∧ ∀ i, i ≤ n * sz → i ≤ m * sz → ys.take i = xs.take i := by
  rcases h.2.2.2 with ⟨rfl, h2⟩ | ⟨g, off, cur, rfl, hg, h1, h2⟩
  · obtain rfl : m = 0 := by omega
    refine ⟨[], ⟨by simp, by omega, h.2.2.1, .inl ⟨rfl, h2⟩⟩, fun i hi hi2 => ?_⟩
    have : i = 0 := by simpa using hi2
    simp [this]
  · refine ⟨(cur.toList.drop off).take (m * sz), ⟨?_, hm, h.2.2.1, .inr ⟨g, off, cur, rfl, hg, h1, rfl⟩⟩, fun i hi hi2 => ?_⟩
    · have := Nat.mul_le_mul_right sz hm
      simp
      omega
    · rw [← h2, List.take_take, List.take_take]
      congr 1
      omega
end
theorem run_append_row {P : Program} (w : World) (t ty e : TypeId) (i : TypeInfo) (z : Value) (size bytes : Nat) (ht : P.underlying t = some (.slice e)) (hi : P.info? e = some i) (hz : i.zero = some z)
    (hsize : i.size = size) (hby : i.bytes = bytes) (hzs : z.cells.size = size) (A : Option Addr) (n cap : Nat) (xs : List Value) (hR : Row w e size A n cap xs)
    (a : Addr) (m c : Nat) (news : List Value) (hl : news.length = m * size) (hnews : ∀ j u, news[j]? = some u → w.cell? (a.add j) = some u) (h1 : ∀ u ∈ news, u.oneCell' = true)
    (h63 : n + m ≤ maxLen) (hbytes : (n + m) * bytes ≤ 140737488355328) :
    ∃ A' cap' w', (Builtin.append_ #[t, t] ty #[.slice A n cap, .slice (some a) m c]).run P w = .ok (.slice A' (n + m) cap') w' ∧ Row w' e size A' (n + m) cap' (xs ++ news) ∧ Grew (blk A) w w' ∧
      (∀ k, blk A' k → blk A k ∨ w.heap.size ≤ k) := by
  subst hsize
  subst hby
  have hlen : (xs ++ news).length = (n + m) * i.size := by rw [List.length_append, hR.1, hl, Nat.add_mul]
  have hsmall : n + m ≤ 9223372036854775807 := by simp only [maxLen] at h63; omega
  have grown : ∀ (old : Nat), old < n + m →
      Row (w.drew.alloc (.cells (xs.toArray ++ news.toArray ++ Builtin.zeroCells z.cells (grownCap w (n + m) old e - (n + m))) e)) e i.size (some ⟨w.heap.size, 0, none⟩) (n + m) (grownCap w (n + m) old e) (xs ++ news) ∧
      Grew (blk A) w (w.drew.alloc (.cells (xs.toArray ++ news.toArray ++ Builtin.zeroCells z.cells (grownCap w (n + m) old e - (n + m))) e)) := by
    intro old ho
    have hge := grownCap_ge w (n + m) old e
    have hcm : grownCap w (n + m) old e ≤ maxLen := grownCap_le_maxLen w (n + m) old e h63
    refine ⟨⟨hlen, hge, hcm, .inr ⟨w.heap.size, 0, _, rfl, heap_alloc_new w.drew _, ?_, ?_⟩⟩, ⟨rfl, rfl, rfl, by simp, fun k hk _ => Below.heap_alloc w.drew _ k hk⟩⟩
    · simp only [Array.size_append, List.size_toArray, size_zeroCells, hzs, hR.1, hl, ← Nat.add_mul, Nat.zero_add]
      apply Nat.le_of_eq
      congr 1
      omega
    · simp only [Array.toList_append, List.append_assoc, List.drop_zero]
      rw [← List.append_assoc, ← hlen]
      exact List.take_left
  rcases hR.2.2.2 with ⟨rfl, rfl⟩ | ⟨g, off, cur, rfl, hg, hcs, htake⟩
  · obtain rfl : n = 0 := by have := hR.2.1; omega
    have hx : xs = [] := List.eq_nil_of_length_eq_zero (by simpa using hR.1)
    subst hx
    by_cases hm : m = 0
    · subst hm
      have hn : news = [] := List.eq_nil_of_length_eq_zero (by simpa using hl)
      subst hn
      refine ⟨none, 0, w, ?_, Row.zero _ _ _, Grew.refl _ _, fun k hk => .inl hk⟩
      simp [Builtin.append_, run_underlying ht, sizeOf, typeInfo, hi, Builtin.lenOf, Builtin.firstCells, loadCells, loadCellsFrom]
    · have hr := run_append_nil (P := P) w t ty e i z ht hi hz a m c news hl hnews (by omega) (by omega) (by have hb := hbytes; simp only [Nat.zero_add] at hb; omega)
      have hgr := grown 0 (by omega)
      simp only [Nat.zero_add, List.nil_append, Array.empty_append] at hgr ⊢
      exact ⟨_, _, _, hr, hgr.1, hgr.2, fun k ⟨a, h2, h3⟩ => by cases h2; exact .inr (Nat.le_of_eq h3)⟩
  · by_cases hroom : n + m ≤ cap
    · have hmul := Nat.mul_le_mul_right i.size hroom
      rw [Nat.add_mul] at hmul
      have hf := run_firstCells_some (P := P) w i.size m a m c news hl hnews
      have hst := run_storeCells_at P g (off + n * i.size) e news 0 cur w hg (by rw [hl]; omega) h1
      simp only [Nat.add_zero] at hst
      refine ⟨some ⟨g, off, none⟩, cap, w.setRow g (cur.toList.take (off + n * i.size) ++ news ++ cur.toList.drop (off + n * i.size + news.length)).toArray, ?_, ⟨hlen, hroom, hR.2.2.1, .inr ⟨g, off, _, rfl, setRow_heap w g cur _ e _ hg, ?_, ?_⟩⟩,
        (Grew.refl _ w).setRow (.inl ⟨_, rfl, rfl⟩) _, fun k hk => .inl hk⟩
      · simp [Builtin.append_, run_underlying ht, sizeOf, typeInfo, hi, Builtin.lenOf, hroom, hf, Addr.add_lit, hst]
      · simp only [List.size_toArray, List.length_append, List.length_take, List.length_drop, Array.length_toList]
        omega
      · show List.take _ (List.drop off (_ ++ _)) = _
        rw [List.append_assoc, List.drop_append_of_le_length (by simp; omega)]
        have h0 : (cur.toList.take (off + n * i.size)).drop off = xs := by rw [List.drop_take, Nat.add_sub_cancel_left]; exact htake
        rw [h0, ← List.append_assoc, ← hlen]
        exact List.take_left
    · have holds : ∀ j u, xs[j]? = some u → w.cell? ((⟨g, off, none⟩ : Addr).add j) = some u := fun j u hu => by
        by_cases hn : 0 < n
        · obtain ⟨g', off', cur', h2, _, _, h3⟩ := hR.at_ hn
          cases h2
          rw [Addr.add_lit]
          exact (h3 j u hu).1
        · have h0 : xs.length = 0 := by rw [hR.1, show n = 0 from by omega, Nat.zero_mul]
          have hx : xs = [] := List.eq_nil_of_length_eq_zero h0
          subst hx
          simp at hu
      have hr := run_append_grow (P := P) w t ty e i z ht hi hz ⟨g, off, none⟩ n cap xs hR.1 holds a m c news hl hnews (by omega) (by omega) (growslice_fits (by omega) hbytes)
      have hgr := grown cap (by omega)
      exact ⟨_, _, _, hr, hgr.1, hgr.2, fun k ⟨a, h2, h3⟩ => by cases h2; exact .inr (Nat.le_of_eq h3)⟩
theorem wpList_append_row {P : Program} {w : World} {ops : Array Oper} {rest : List Oper} {o : Oper} {a : Act} {Q : Exit → Act → World → Prop} (hgd : o.guard = none) (s x : Operand) (t : TypeId)
    (ho : o.op = .call { callee := .builtin .append, args := #[s, x], argTypes := #[t, t] })
    (e : TypeId) (i : TypeInfo) (z : Value) (size bytes : Nat) (ht : P.underlying t = some (.slice e)) (hi : P.info? e = some i) (hz : i.zero = some z)
    (hsize : i.size = size) (hby : i.bytes = bytes) (hzs : z.cells.size = size) (A : Option Addr) (n cap : Nat) (xs : List Value) (hs : a.eval s = .slice A n cap) (hR : Row w e size A n cap xs)
    (ad : Addr) (m c : Nat) (news : List Value) (hx : a.eval x = .slice (some ad) m c) (hl : news.length = m * size) (hnews : ∀ j u, news[j]? = some u → w.cell? (ad.add j) = some u) (h1 : ∀ u ∈ news, u.oneCell' = true)
    (h63 : n + m ≤ maxLen) (hbytes : (n + m) * bytes ≤ 140737488355328)
    (h : ∀ A' cap' w', Row w' e size A' (n + m) cap' (xs ++ news) → Grew (blk A) w w' → (∀ k, blk A' k → blk A k ∨ w.heap.size ≤ k) → wpList P ops Q rest (a.put o.dst (.slice A' (n + m) cap')) w') : wpList P ops Q (o :: rest) a w := by
  refine wpList_plain hgd fun K hK => ?_
  obtain ⟨A', cap', w', hr, h2, h3, h4⟩ := run_append_row (P := P) w t o.type e i z size bytes ht hi hz hsize hby hzs A n cap xs hR ad m c news hl hnews h1 h63 hbytes
  unfold Oper.wp execOp
  simp only [ho, resolve, invoke, builtin, Sem.run_bind, Sem.run_pure, Result.andThen_ok, List.map_toArray, List.map_cons, List.map_nil, hs, hx, hr]
  exact hK _ _ (h A' cap' w' h2 h3 h4)
theorem wpList_append_info {P : Program} {w : World} {ops : Array Oper} {rest : List Oper} {o : Oper} {a : Act} {Q : Exit → Act → World → Prop} (hgd : o.guard = none) (s x : Operand) (t : TypeId)
    (ho : o.op = .call { callee := .builtin .append, args := #[s, x], argTypes := #[t, t] })
    (e : TypeId) (z : Value) (size bytes : Nat) (ht : P.underlying t = some (.slice e)) (hinfo : (P.info? e).map (fun i => (i.zero, i.size, i.bytes)) = some (some z, size, bytes))
    (hzs : z.cells.size = size) (A : Option Addr) (n cap : Nat) (xs : List Value) (hs : a.eval s = .slice A n cap) (hR : Row w e size A n cap xs)
    (ad : Addr) (m c : Nat) (news : List Value) (hx : a.eval x = .slice (some ad) m c) (hl : news.length = m * size) (hnews : ∀ j u, news[j]? = some u → w.cell? (ad.add j) = some u) (h1 : ∀ u ∈ news, u.oneCell' = true)
    (h63 : n + m ≤ maxLen) (hbytes : (n + m) * bytes ≤ 140737488355328)
    (h : ∀ A' cap' w', Row w' e size A' (n + m) cap' (xs ++ news) → Grew (blk A) w w' → (∀ k, blk A' k → blk A k ∨ w.heap.size ≤ k) → wpList P ops Q rest (a.put o.dst (.slice A' (n + m) cap')) w') : wpList P ops Q (o :: rest) a w := by
  cases hi : P.info? e with
  | none => rw [hi] at hinfo; cases hinfo
  | some i =>
    rw [hi] at hinfo
    obtain ⟨hz, hs1, hb1⟩ : i.zero = some z ∧ i.size = size ∧ i.bytes = bytes := by simpa using hinfo
    exact wpList_append_row hgd s x t ho e i z size bytes ht hi hz hs1 hb1 hzs A n cap xs hs hR ad m c news hx hl hnews h1 h63 hbytes h
end Go.Proofs.YtaaekmcmpjljgaaGreat.Ln
namespace Go.Proofs.YtaaekmcmpjljgaaGreat.Ln
open Go.RowKit Go.Proofs.YtaaekmcmpjljgaaGreatW.PrintWords Go.Proofs.YtaaekmcmpjljgaaGreatW.PrintLast Go.Proofs.YtaaekmcmpjljgaaGreatW.PrintMore
set_option linter.unusedVariables false
theorem run_copy_k {P : Program} (w : World) (dT sT ty elem : TypeId) (size : Nat) (g o dLen dCap : Nat) (a : Addr) (sLen sCap : Nat) (cur : Array Value) (t : TypeId) (cs : List Value)
    (hu : P.underlying dT = some (.slice elem)) (hs : (P.info? elem).map (·.size) = some size)
    (hg : w.heap[g]? = some (.cells cur t (0, 0))) (hn : cs.length = Nat.min sLen dLen * size)
    (hsrc : ∀ j v, cs[j]? = some v → w.cell? (a.add j) = some v) (hfit : o + cs.length ≤ cur.size) (h1 : ∀ v ∈ cs, v.oneCell' = true) :
    (Builtin.copy_ #[dT, sT] ty #[.slice (some ⟨g, o, none⟩) dLen dCap, .slice (some a) sLen sCap]).run P w =
      .ok (goInt (Nat.min sLen dLen)) (w.setRow g (cur.toList.take o ++ cs ++ cur.toList.drop (o + cs.length)).toArray) := by
  have hl := run_loadCells_list (P := P) w a cs hsrc
  have hst := run_storeCells_at P g o t cs 0 cur w hg (by simpa using hfit) h1
  cases hq : P.info? elem with
  | none => simp [hq] at hs
  | some i =>
    have hi : i.size = size := by simpa [hq] using hs
    simp [Builtin.copy_, run_underlying hu, Builtin.lenOf, Builtin.firstCells, sizeOf, typeInfo, hq, hi, ← hn, hl, hst]
theorem wpList_copy_k {P : Program} {w : World} {ops : Array Oper} {rest : List Oper} {o : Oper} {a : Act} {Q : Exit → Act → World → Prop} (hgd : o.guard = none) (d s : Operand) (dT sT : TypeId)
    (ho : o.op = .call { callee := .builtin .copy, args := #[d, s], argTypes := #[dT, sT] }) (elem : TypeId) (size : Nat) (hu : P.underlying dT = some (.slice elem)) (hsz : (P.info? elem).map (·.size) = some size)
    (g off dLen dCap : Nat) (ad : Addr) (sLen sCap : Nat) (hd : a.eval d = .slice (some ⟨g, off, none⟩) dLen dCap) (hs : a.eval s = .slice (some ad) sLen sCap)
    (cur : Array Value) (t : TypeId) (hg : w.heap[g]? = some (.cells cur t (0, 0))) (cs : List Value) (hn : cs.length = Nat.min sLen dLen * size)
    (hsrc : ∀ j v, cs[j]? = some v → w.cell? (ad.add j) = some v) (hfit : off + cs.length ≤ cur.size) (h1 : ∀ v ∈ cs, v.oneCell' = true)
    (h : wpList P ops Q rest (a.put o.dst (goInt (Nat.min sLen dLen))) (w.setRow g (cur.toList.take off ++ cs ++ cur.toList.drop (off + cs.length)).toArray)) : wpList P ops Q (o :: rest) a w := by
  refine wpList_plain hgd fun K hK => ?_
  have hrun := run_copy_k (P := P) w dT sT o.type elem size g off dLen dCap ad sLen sCap cur t cs hu hsz hg hn hsrc hfit h1
  unfold Oper.wp
  simp [execOp, ho, resolve, invoke, builtin, hd, hs, hrun, Result.andThen]
  rw [List.append_assoc] at h
  exact hK _ _ h
theorem step_copy_k {P : Program} {ops : Array Oper} {o : Oper} {a : Act} {w : World} {K : Act → World → Prop} {Q : Exit → Act → World → Prop} {E : Prop} (hgd : o.guard = none) (d s : Operand) (dT sT : TypeId)
    (ho : o.op = .call { callee := .builtin .copy, args := #[d, s], argTypes := #[dT, sT] }) (elem : TypeId) (size : Nat) (hu : P.underlying dT = some (.slice elem)) (hsz : (P.info? elem).map (·.size) = some size)
    (g off dLen dCap : Nat) (ad : Addr) (sLen sCap : Nat) (hd : a.eval d = .slice (some ⟨g, off, none⟩) dLen dCap) (hs : a.eval s = .slice (some ad) sLen sCap)
    (cur : Array Value) (t : TypeId) (hg : w.heap[g]? = some (.cells cur t (0, 0))) (cs : List Value) (hn : cs.length = Nat.min sLen dLen * size)
    (hsrc : ∀ j v, cs[j]? = some v → w.cell? (ad.add j) = some v) (hfit : off + cs.length ≤ cur.size) (h1 : ∀ v ∈ cs, v.oneCell' = true)
    (h : K (a.put o.dst (goInt (Nat.min sLen dLen))) (w.setRow g (cur.toList.take off ++ cs ++ cur.toList.drop (off + cs.length)).toArray)) :
    if Region.wanted o (yielded ops a.tmps) = true then Oper.wp P o a w K Q else E := by
  have hw : Region.wanted o (yielded ops a.tmps) = true := by simp [Region.wanted, hgd]
  rw [if_pos hw]
  have hrun := run_copy_k (P := P) w dT sT o.type elem size g off dLen dCap ad sLen sCap cur t cs hu hsz hg hn hsrc hfit h1
  unfold Oper.wp
  simp [execOp, ho, resolve, invoke, builtin, hd, hs, hrun, Result.andThen]
  rw [List.append_assoc] at h
  exact h
theorem Row.splice {w : World} {e sz n cap g off : Nat} {cur : Array Value} {xs : List Value} (h : Row w e sz (some ⟨g, off, none⟩) n cap xs) (hg : w.heap[g]? = some (.cells cur e (0, 0))) (p : Nat) (cs : List Value) (hp : p + cs.length ≤ xs.length) :
    Row (w.setRow g (cur.toList.take (off + p) ++ cs ++ cur.toList.drop (off + p + cs.length)).toArray) e sz (some ⟨g, off, none⟩) n cap (Go.splice xs p cs) := by
  have h1 := h.1
  have hm := Nat.mul_le_mul_right sz h.2.1
  rcases h.2.2.2 with ⟨h2, _⟩ | ⟨g', off', cur', h2, hg', h3, h4⟩
  · cases h2
  · cases h2
    rw [hg'] at hg
    cases hg
    refine ⟨by rw [Go.length_splice _ _ _ hp]; exact h1, h.2.1, h.2.2.1, .inr ⟨g, off, _, rfl, setRow_heap w g cur _ e _ hg', ?_, ?_⟩⟩
    · simp only [List.size_toArray, List.length_append, List.length_take, List.length_drop, Array.length_toList]
      omega
    · show List.take _ (List.drop off (_ ++ _)) = _
      have e1 : (cur.toList.take (off + p)).drop off = xs.take p := by
        rw [List.drop_take, Nat.add_sub_cancel_left, ← h4, List.take_take]
        congr 1
        omega
      have e2 : (cur.toList.drop (off + p + cs.length)).take (n * sz - p - cs.length) = xs.drop (p + cs.length) := by
        rw [← h4, List.drop_take, List.drop_drop, Nat.add_assoc, Nat.sub_sub]
      rw [List.append_assoc, List.drop_append_of_le_length (by simp; omega), e1, List.take_append, List.take_append, List.length_take]
      have e3 : (xs.take p).take (n * sz) = xs.take p := by rw [List.take_take]; congr 1; omega
      have e4 : min p xs.length = p := by omega
      have e5 : cs.take (n * sz - p) = cs := List.take_of_length_le (by omega)
      rw [e3, e4, e5, e2]
      rfl
theorem Row.splice' {w : World} {e sz n cap g off : Nat} {xs : List Value} (h : Row w e sz (some ⟨g, off, none⟩) n cap xs) (p : Nat) (cs : List Value) (hp : p + cs.length ≤ xs.length) :
    ∃ cur, w.heap[g]? = some (.cells cur e (0, 0)) ∧ off + p + cs.length ≤ cur.size ∧ Row (w.setRow g (cur.toList.take (off + p) ++ cs ++ cur.toList.drop (off + p + cs.length)).toArray) e sz (some ⟨g, off, none⟩) n cap (Go.splice xs p cs) := by
  have h1 := h.1
  have hm := Nat.mul_le_mul_right sz h.2.1
  rcases h.2.2.2 with ⟨h2, _⟩ | ⟨g', off', cur, h2, hg, h3, h4⟩
  · cases h2
  · cases h2
    exact ⟨cur, hg, by omega, h.splice hg p cs hp⟩
theorem wpList_copy_row {P : Program} {w : World} {ops : Array Oper} {rest : List Oper} {o : Oper} {a : Act} {Q : Exit → Act → World → Prop} (hgd : o.guard = none) (d s : Operand) (dT sT : TypeId)
    (ho : o.op = .call { callee := .builtin .copy, args := #[d, s], argTypes := #[dT, sT] }) (elem : TypeId) (size : Nat) (hu : P.underlying dT = some (.slice elem)) (hsz : (P.info? elem).map (·.size) = some size)
    (g off n cap : Nat) (xs : List Value) (hR : Row w elem size (some ⟨g, off, none⟩) n cap xs) (p dLen dCap : Nat) (ad : Addr) (sLen sCap : Nat) (hd : a.eval d = .slice (some ⟨g, off + p, none⟩) dLen dCap) (hs : a.eval s = .slice (some ad) sLen sCap)
    (cs : List Value) (hn : cs.length = Nat.min sLen dLen * size)
    (hsrc : ∀ j v, cs[j]? = some v → w.cell? (ad.add j) = some v) (hp : p + cs.length ≤ xs.length) (h1 : ∀ v ∈ cs, v.oneCell' = true)
    (h : ∀ w', Row w' elem size (some ⟨g, off, none⟩) n cap (Go.splice xs p cs) → Grew (fun k => k = g) w w' → wpList P ops Q rest (a.put o.dst (goInt (Nat.min sLen dLen))) w') : wpList P ops Q (o :: rest) a w := by
  obtain ⟨cur, hg, hf, hR'⟩ := hR.splice' p cs hp
  exact wpList_copy_k hgd d s dT sT ho elem size hu hsz g (off + p) dLen dCap ad sLen sCap hd hs cur elem hg cs hn hsrc hf h1 (h _ hR' ((Grew.refl (fun k => k = g) w).setRow (.inl rfl) _))
theorem step_copy_row {P : Program} {ops : Array Oper} {o : Oper} {a : Act} {w : World} {K : Act → World → Prop} {Q : Exit → Act → World → Prop} {E : Prop} (hgd : o.guard = none) (d s : Operand) (dT sT : TypeId)
    (ho : o.op = .call { callee := .builtin .copy, args := #[d, s], argTypes := #[dT, sT] }) (elem : TypeId) (size : Nat) (hu : P.underlying dT = some (.slice elem)) (hsz : (P.info? elem).map (·.size) = some size)
    (g off n cap : Nat) (xs : List Value) (hR : Row w elem size (some ⟨g, off, none⟩) n cap xs) (p dLen dCap : Nat) (ad : Addr) (sLen sCap : Nat) (hd : a.eval d = .slice (some ⟨g, off + p, none⟩) dLen dCap) (hs : a.eval s = .slice (some ad) sLen sCap)
    (cs : List Value) (hn : cs.length = Nat.min sLen dLen * size)
    (hsrc : ∀ j v, cs[j]? = some v → w.cell? (ad.add j) = some v) (hp : p + cs.length ≤ xs.length) (h1 : ∀ v ∈ cs, v.oneCell' = true)
    (h : ∀ w', Row w' elem size (some ⟨g, off, none⟩) n cap (Go.splice xs p cs) → Grew (fun k => k = g) w w' → K (a.put o.dst (goInt (Nat.min sLen dLen))) w') :
    if Region.wanted o (yielded ops a.tmps) = true then Oper.wp P o a w K Q else E := by
  obtain ⟨cur, hg, hf, hR'⟩ := hR.splice' p cs hp
  exact step_copy_k hgd d s dT sT ho elem size hu hsz g (off + p) dLen dCap ad sLen sCap hd hs cur elem hg cs hn hsrc hf h1 (h _ hR' ((Grew.refl (fun k => k = g) w).setRow (.inl rfl) _))
theorem gate_copy {P : Program} {w : World} {ops : Array Oper} {rest : List Oper} {a : Act} {Q : Exit → Act → World → Prop} {dst : Option Nat} {d s : Operand} {t t2 ty : TypeId} {pos : String} {after : Array Edge} {g : Option (Nat × Bool)}
    (h : wpList P ops Q (⟨dst, .call { callee := .builtin .copy, args := #[d, s], argTypes := #[t, t2] }, ty, pos, after, g⟩ :: rest) a w) : wpList P ops Q (⟨dst, .call { callee := .builtin .copy, args := #[d, s], argTypes := #[t, t2] }, ty, pos, after, g⟩ :: rest) a w := h
theorem gate_clear {P : Program} {w : World} {ops : Array Oper} {rest : List Oper} {a : Act} {Q : Exit → Act → World → Prop} {dst : Option Nat} {d : Operand} {t ty : TypeId} {pos : String} {after : Array Edge} {g : Option (Nat × Bool)}
    (h : wpList P ops Q (⟨dst, .call { callee := .builtin .clear, args := #[d], argTypes := #[t] }, ty, pos, after, g⟩ :: rest) a w) : wpList P ops Q (⟨dst, .call { callee := .builtin .clear, args := #[d], argTypes := #[t] }, ty, pos, after, g⟩ :: rest) a w := h
end Go.Proofs.YtaaekmcmpjljgaaGreat.Ln
namespace Go.Proofs.YtaaekmcmpjljgaaGreat.Ln
open Go.RowKit Go.Proofs.YtaaekmcmpjljgaaGreatW.PrintWords Go.Proofs.YtaaekmcmpjljgaaGreatW.PrintLast Go.Proofs.YtaaekmcmpjljgaaGreatW.PrintMore
set_option linter.unusedVariables false
set_option linter.unusedSimpArgs false
theorem run_clear_k {P : Program} (w : World) (t ty e : TypeId) (z : Value) (size bytes : Nat) (ht : P.underlying t = some (.slice e)) (hinfo : (P.info? e).map (fun i => (i.zero, i.size, i.bytes)) = some (some z, size, bytes)) (hzs : z.cells.size = size)
    (g o n c : Nat) (hn : 0 < n) (cur : Array Value) (t' : TypeId) (hg : w.heap[g]? = some (.cells cur t' (0, 0))) (hfit : o + n * size ≤ cur.size) (h1 : ∀ v ∈ (Builtin.zeroCells z.cells n).toList, v.oneCell' = true) :
    (Builtin.clear_ #[t] ty #[.slice (some ⟨g, o, none⟩) n c]).run P w = .ok (.tuple #[]) (w.setRow g (cur.toList.take o ++ (Builtin.zeroCells z.cells n).toList ++ cur.toList.drop (o + (Builtin.zeroCells z.cells n).toList.length)).toArray) := by
  cases hi : P.info? e with
  | none => rw [hi] at hinfo; cases hinfo
  | some i =>
    rw [hi] at hinfo
    obtain ⟨hz, hs1, hb1⟩ : i.zero = some z ∧ i.size = size ∧ i.bytes = bytes := by simpa using hinfo
    have hst := run_storeCells_at P g o t' (Builtin.zeroCells z.cells n).toList 0 cur w hg (by simp [size_zeroCells, hzs]; exact hfit) h1
    obtain ⟨m, rfl⟩ : ∃ m, n = m + 1 := ⟨n - 1, by omega⟩
    simp only [Nat.add_zero] at hst
    simp only [Builtin.clear_, Sem.run_bind, run_underlying ht, Result.andThen_ok]
    simp only [List.getElem?_toArray, List.getElem?_cons_zero, Sem.run_bind, run_underlying ht, Result.andThen_ok, zeroValue, typeInfo, hi, hz, hst, Sem.run_pure]
    simp [hst, typeInfo, hi, hz]
theorem wpList_clear_row {P : Program} {w : World} {ops : Array Oper} {rest : List Oper} {o : Oper} {a : Act} {Q : Exit → Act → World → Prop} (hgd : o.guard = none) (d : Operand) (t : TypeId)
    (ho : o.op = .call { callee := .builtin .clear, args := #[d], argTypes := #[t] }) (e : TypeId) (z : Value) (size bytes : Nat) (ht : P.underlying t = some (.slice e)) (hinfo : (P.info? e).map (fun i => (i.zero, i.size, i.bytes)) = some (some z, size, bytes)) (hzs : z.cells.size = size)
    (h1 : ∀ n, ∀ v ∈ (Builtin.zeroCells z.cells n).toList, v.oneCell' = true)
    (g off n cap : Nat) (xs : List Value) (hR : Row w e size (some ⟨g, off, none⟩) n cap xs) (p m c : Nat) (hm : 0 < m) (hp : p + m * size ≤ n * size) (hd : a.eval d = .slice (some ⟨g, off + p, none⟩) m c)
    (h : ∀ w', Row w' e size (some ⟨g, off, none⟩) n cap (Go.splice xs p (Builtin.zeroCells z.cells m).toList) → Grew (fun k => k = g) w w' → wpList P ops Q rest (a.put o.dst (.tuple #[])) w') : wpList P ops Q (o :: rest) a w := by
  have hzl : (Builtin.zeroCells z.cells m).toList.length = m * size := by rw [Array.length_toList, size_zeroCells, hzs]
  obtain ⟨cur, hg, hf, hR'⟩ := hR.splice' p (Builtin.zeroCells z.cells m).toList (by rw [hR.1, hzl]; exact hp)
  refine wpList_plain hgd fun K hK => ?_
  have hrun := run_clear_k (P := P) w t o.type e z size bytes ht hinfo hzs g (off + p) m c hm cur e hg (by rw [hzl] at hf; exact hf) (h1 m)
  unfold Oper.wp execOp
  simp only [ho, resolve, invoke, builtin, Sem.run_bind, Sem.run_pure, Result.andThen_ok, List.map_toArray, List.map_cons, List.map_nil, hd, hrun]
  exact hK _ _ (h _ hR' ((Grew.refl (fun k => k = g) w).setRow (.inl rfl) _))
end Go.Proofs.YtaaekmcmpjljgaaGreat.Ln
namespace Go.Proofs.YtaaekmcmpjljgaaGreat.Ln
open Go.RowKit Go.Proofs.YtaaekmcmpjljgaaGreatW.PrintWords Go.Proofs.YtaaekmcmpjljgaaGreatW.PrintLast Go.Proofs.YtaaekmcmpjljgaaGreatW.PrintMore
open Go.Sort (grow)
set_option linter.unusedVariables false
def wat (w : World) (d : Nat) : World := { w with drawn := d }
structure Gr where
  d : Nat
  os : Array Obj
  deriving Inhabited
theorem gr_of {w W : World} (h : Below w.heap.size w W) : ∃ p : Gr, W = grow (wat w p.d) p.os := by
  refine ⟨⟨W.drawn, W.heap.extract w.heap.size W.heap.size⟩, ?_⟩
  obtain ⟨h1, h2, h3, h4, h5⟩ := h
  cases w with
  | mk heap tape drawn os output =>
    cases W with
    | mk heap' tape' drawn' os' output' =>
      simp only at h1 h2 h3 h4 h5
      subst h1 h2 h3
      simp only [grow, wat, World.mk.injEq, and_true]
      apply Array.ext_getElem?
      intro k
      rw [Array.getElem?_append]
      by_cases hk : k < heap.size
      · rw [if_pos hk, h5 k hk]
      · rw [if_neg hk, Array.getElem?_extract]
        by_cases h6 : k < heap'.size
        · rw [if_pos (by omega)]; congr 1; omega
        · rw [if_neg (by omega)]; exact Array.getElem?_eq_none (by omega)
theorem below_gr (w : World) (d : Nat) (os : Array Obj) : Below w.heap.size w (grow (wat w d) os) :=
  ⟨rfl, rfl, rfl, by simp [grow, wat], fun k hk => by show (w.heap ++ os)[k]? = _; rw [Array.getElem?_append_left hk]⟩
theorem cell_gr {w : World} {a : Addr} {v : Value} (h : w.cell? a = some v) (d : Nat) (os : Array Obj) : (grow (wat w d) os).cell? a = some v :=
  ((below_gr w d os).cell (World.block_lt_of_cell? w a h)).trans h
theorem Calls.gr_of {P : Program} {f : FuncId} {args : Array Value} {w : World} {d : Nat} {os : Array Obj} {v : Value}
    (h : Calls P f args (grow (wat w d) os) fun e w' => e = .returned v ∧ Below (grow (wat w d) os).heap.size (grow (wat w d) os) w') : Calls P f args (grow (wat w d) os) fun e w'' => e = .returned v ∧ ∃ p : Gr, w'' = grow (wat w p.d) p.os :=
  h.mono fun _ _ ⟨he, hb⟩ => ⟨he, Ln.gr_of (below_then (below_gr w d os) (below_gr w d os).size hb)⟩
theorem wp_region_gr {P : Program} {id : Nat} {Q : Exit → Act → World → Prop} {a : Act} {w : World} {l : List Oper} (hm : P.follows .mixedOrders = true) (hB : Region.lexB .any l.toArray = true)
    (h : wpQuiet P l.toArray (fun w' => ∃ p : Gr, w' = grow (wat w p.d) p.os) (fun a' => ∀ w', (∃ p : Gr, w' = grow (wat w p.d) p.os) → Q .normal a' w') l a) : (Code.region id l.toArray true).wp P Q a w :=
  wp_region_quiet (C := fun w' => ∃ p : Gr, w' = grow (wat w p.d) p.os) hm hB ⟨⟨w.drawn + 1, #[]⟩, (Go.Sort.grow_empty (wat w (w.drawn + 1))).symm⟩ (by simpa using h)
end Go.Proofs.YtaaekmcmpjljgaaGreat.Ln
namespace Go.Proofs.YtaaekmcmpjljgaaGreat.Sup
open Go.RowKit Go.Proofs.YtaaekmcmpjljgaaGreat.PMd Go.Proofs.YtaaekmcmpjljgaaGreatW.PrintWords Go.Proofs.YtaaekmcmpjljgaaGreatW.PrintLast Go.Proofs.YtaaekmcmpjljgaaGreatW.PrintMore
abbrev ok (x : Int) : Prop := 0 ≤ x ∧ x ≤ 5
def jn (a b : Int) : Int := if (a = 2 ∧ b = 3) ∨ (a = 3 ∧ b = 2) then 4 else if a < b then b else a
def st (a b : Int) : Int := if ok b then jn a b else 5
def sup (l : List Int) : Int := l.foldl st 0
def M (s : Int) : Int := if s = 0 then 0 else if s = 1 then 1 else if s = 2 then 3 else if s = 3 then 5 else if s = 4 then 7 else 15
theorem fin_of {a : Int} (h : ok a) : ∃ n : Fin 6, a = (n.val : Int) := ⟨⟨a.toNat, by omega⟩, by simp; omega⟩
theorem wrap_up {i : Int} {n : Nat} (h0 : 0 ≤ i) (h : i < (n : Int)) (hn : n ≤ 100000) : wrap64 (i + 1) = i + 1 := by
  unfold wrap64
  omega
theorem rd_drop {l : List Int} {i : Nat} (h : i < l.length) : l.drop i = rd l (i : Int) :: l.drop (i + 1) := by
  rw [List.drop_eq_getElem_cons h]
  simp [rd, List.getD_eq_getElem?_getD, List.getElem?_eq_getElem h]
theorem known_no {a : Int} (h : ¬ ok a) : mode_Known.f a = some false := by
  unfold mode_Known.f
  by_cases h0 : a ≥ 0
  · rw [if_pos h0, decide_eq_false (by intro h5; exact h ⟨h0, h5⟩)]
  · rw [if_neg h0]
theorem known_yes {a : Int} (h : ok a) : mode_Known.f a = some true := by
  unfold mode_Known.f
  rw [if_pos h.1, decide_eq_true h.2]
theorem made_M (a : Int) : mode_made.f a = some (M a) := by
  unfold mode_made.f M
  repeat' split
  all_goals rfl
theorem or_M : ∀ a b : Fin 6, Go.bits .or .i64 (M (a.val : Int)) (M (b.val : Int)) = M (jn (a.val : Int) (b.val : Int)) := by decide +kernel
theorem jn_ok_fin : ∀ a b : Fin 6, ok (jn (a.val : Int) (b.val : Int)) := by decide +kernel
theorem jn_ok {a b : Int} (ha : ok a) (hb : ok b) : ok (jn a b) := by
  obtain ⟨x, rfl⟩ := fin_of ha
  obtain ⟨y, rfl⟩ := fin_of hb
  exact jn_ok_fin x y
theorem st_ok {a : Int} (ha : ok a) (b : Int) : ok (st a b) := by
  unfold st
  split
  · exact jn_ok ha ‹_›
  · decide
theorem st_five (b : Int) : st 5 b = 5 := by
  unfold st
  split
  · rename_i h
    unfold jn
    rw [if_neg (by omega), if_neg (by omega)]
  · rfl
theorem fold_five (l : List Int) : l.foldl st 5 = 5 := by
  induction l with
  | nil => rfl
  | cons x t ih => rw [List.foldl_cons, st_five]; exact ih
theorem find_fin : ∀ a : Fin 6, mode_Sup.l1 10 (M (a.val : Int)) 0 = some (a.val : Int) := by decide +kernel
theorem find_l1 {s : Int} (h : ok s) {k : Nat} (hk : 10 ≤ k) : mode_Sup.l1 k (M s) 0 = some s := by
  obtain ⟨x, rfl⟩ := fin_of h
  exact at_rounds (g := fun k => mode_Sup.l1 k (M (x.val : Int)) 0) (fun k => (mode_Sup.mono_l k).2 _ _) hk (find_fin x)
theorem sup_loop (l : List Int) (hl : l.length ≤ 100000) (d : Nat) : ∀ (k i : Nat) (s : Int), ok s → i + d = l.length → d + 10 < k →
    mode_Sup.l0 k (M s) l (l.length : Int) (i : Int) = some ((l.drop i).foldl st s) := by
  induction d with
  | zero =>
    intro k i s hs hi hk
    obtain ⟨k, rfl⟩ : ∃ z, k = z + 1 := ⟨k - 1, by omega⟩
    simp only [mode_Sup.l0]
    rw [if_neg (by omega), List.drop_eq_nil_of_le (by omega)]
    exact find_l1 hs (by omega)
  | succ d ih =>
    intro k i s hs hi hk
    obtain ⟨k, rfl⟩ : ∃ z, k = z + 1 := ⟨k - 1, by omega⟩
    have hil : i < l.length := by omega
    simp only [mode_Sup.l0]
    rw [if_pos (by omega), if_pos (by omega), if_pos (by omega), rd_drop hil, List.foldl_cons]
    by_cases hx : ok (rd l (i : Int))
    · rw [known_yes hx]
      simp only [Option.bind_some, if_true]
      rw [made_M]
      simp only [Option.bind_some]
      have e : Go.bits .or .i64 (M s) (M (rd l (i : Int))) = M (st s (rd l (i : Int))) := by
        unfold st
        rw [if_pos hx]
        obtain ⟨a, ha⟩ := fin_of hs
        obtain ⟨b, hb⟩ := fin_of hx
        rw [ha, hb]
        exact or_M a b
      rw [e, wrap_up (n := l.length) (by omega) (by omega) hl, show ((i : Int) + 1) = ((i + 1 : Nat) : Int) by omega]
      exact ih k (i + 1) _ (st_ok hs _) (by omega) (by omega)
    · rw [known_no hx]
      have e : st s (rd l (i : Int)) = 5 := by unfold st; rw [if_neg hx]
      rw [e, fold_five]
      rfl
theorem sup_f (l : List Int) (hl : l.length ≤ 100000) {k : Nat} (hk : l.length + 10 < k) : mode_Sup.f k l = some (sup l) := by
  unfold mode_Sup.f
  have := sup_loop l hl l.length k 0 0 (by decide) (by omega) (by omega)
  simpa [M, sup] using this
end Go.Proofs.YtaaekmcmpjljgaaGreat.Sup
namespace Go.Proofs.YtaaekmcmpjljgaaGreat.Ln
open Go.RowKit Go.Proofs.YtaaekmcmpjljgaaGreatW.PrintWords Go.Proofs.YtaaekmcmpjljgaaGreatW.PrintLast Go.Proofs.YtaaekmcmpjljgaaGreatW.PrintMore Go.Proofs.YtaaekmcmpjljgaaGreat.PMd
set_option linter.unusedVariables false
set_option linter.unusedSimpArgs false
theorem info113 : (Tryz.prog.info? 113).map (fun i => (i.zero, i.size, i.bytes)) = some (some (.agg #[(.int .i64 0), (.int .i64 0)]), 2, 16) := by kernel_rfl
abbrev E := S113
def encE (x : E) : List Value := [.int .i64 x.f0, .int .i64 x.f1]
def flat (l : List E) : List Value := l.flatMap encE
theorem cell_al {w : World} {a : Addr} {v : Value} (hc : w.cell? a = some v) (o : Obj) : (w.alloc o).cell? a = some v :=
  ((below_alloc (Below.refl w.heap.size w) o).cell (World.block_lt_of_cell? w a hc)).trans hc
theorem cell_be {w w' : World} {a : Addr} {v : Value} (hc : w.cell? a = some v) (h : Below w.heap.size w w') : w'.cell? a = some v :=
  (h.cell (World.block_lt_of_cell? w a hc)).trans hc
set_option maxHeartbeats 8000000 in
set_option maxRecDepth 100000 in
theorem of1 (x : E) (who : Int) (g : Nat) (w : World) (hc : w.cell? ⟨g, 0, none⟩ = some (.int .i64 who)) :
    Calls Tryz.prog 86 #[.agg #[.int .i64 x.f0, .int .i64 x.f1], .pointer (some ⟨g, 0, none⟩)] w fun e w' => e = .returned (.bool (x.f0 == who)) ∧ Below w.heap.size w w' := by
  have hu67 := Tryz.underlying113
  have hc2 : (w.alloc (.cells #[.int .i64 x.f0, .int .i64 x.f1] 113)).cell? ⟨g, 0, none⟩ = some (.int .i64 who) := cell_al hc _
  go_enter Tryz.func86, Tryz.ntmps86
  go_wp2
  go_ret
  exact ⟨rfl, below_alloc (Below.refl _ _) _⟩
def Pred (g : Nat) (lb : Array Value) (p : E → Bool) (w : World) : Prop :=
  ∀ (W : World) (x : E), Below w.heap.size w W → Calls Tryz.prog g (#[.agg #[.int .i64 x.f0, .int .i64 x.f1]] ++ lb) W fun e w' => e = .returned (.bool (p x)) ∧ Below W.heap.size W w'
theorem of1.pred (who : Int) (g : Nat) (w : World) (hc : w.cell? ⟨g, 0, none⟩ = some (.int .i64 who)) : Pred 86 #[.pointer (some ⟨g, 0, none⟩)] (fun x => x.f0 == who) w :=
  fun W x hb => of1 x who g W (cell_be hc hb)
def ix (p : E → Bool) (l : List E) : Int := match l.findIdx? p with | some i => i | none => -1
theorem ix_hit {p : E → Bool} {l : List E} {k : Nat} (hk : k < l.length) (h : p (l.getD k z113) = true) (ha : ∀ i, i < k → p (l.getD i z113) = false) : ix p l = k := by
  have : l.findIdx? p = some k := by
    rw [List.findIdx?_eq_some_iff_getElem]
    refine ⟨hk, by simpa [List.getD_eq_getElem?_getD, List.getElem?_eq_getElem hk] using h, fun j hj => ?_⟩
    have := ha j hj
    have hl : j < l.length := by omega
    simpa [List.getD_eq_getElem?_getD, List.getElem?_eq_getElem hl] using this
  unfold ix
  rw [this]
theorem ix_miss {p : E → Bool} {l : List E} (ha : ∀ i, i < l.length → p (l.getD i z113) = false) : ix p l = -1 := by
  have : l.findIdx? p = none := by
    rw [List.findIdx?_eq_none_iff]
    intro x hx
    obtain ⟨i, hi, rfl⟩ := List.mem_iff_getElem.1 hx
    simpa [List.getD_eq_getElem?_getD, List.getElem?_eq_getElem hi] using ha i hi
  unfold ix
  rw [this]
set_option maxHeartbeats 8000000 in
set_option maxRecDepth 100000 in
theorem indexFunc (g : Nat) (lb : Array Value) (p : E → Bool) (eg : ∀ args w, (callFunc g args).run Tryz.prog w = .ok (.enter g args) w) (A : Option Addr) (c : Nat) (l : List E) (w : World)
    (hr : Kd.C k113 w A l.length l) (hc : l.length ≤ c) (hp : Pred g lb p w) :
    Calls Tryz.prog 85 #[.slice A l.length c, .func (.func g) #[] lb] w fun e w' => e = .returned (.int .i64 (ix p l)) ∧ Below w.heap.size w w' := by
  have hu67 := Tryz.underlying113
  have HR := Aside0.mk hr
  have HP := Aside0.mk hp
  have hl63 := hr.2.1
  clear hr hc hp
  go_enter Tryz.func85, Tryz.ntmps85
  go_wp2_with fail
  go_loopg [5, 8] l.length (fun gg _ v wr => ∃ k : Nat, k ≤ l.length ∧ l.length - k ≤ gg ∧ v = .int .i64 k ∧ Aside0 (∀ i : Nat, i < k → p (l.getD i z113) = false) ∧ Aside0 (Below w.heap.size w wr))
  case atStart => exact ⟨0, by omega, by omega, rfl, ⟨fun i hi => by omega⟩, ⟨Below.refl _ _⟩⟩
  case round =>
    obtain ⟨k, hk, hgg, rfl, HA, HB⟩ := hrel
    by_cases hlt : k < l.length
    · obtain ⟨ad, rfl, q0, q1⟩ := at_T113 (Kd.C_below HR.out HB.out) (k : Int) (by omega) (by omega)
      have p1 : 0 ≤ (k : Int) := by omega
      have p2 : (k : Int) < l.length := by omega
      have hrd : rd_T113 l k = l.getD k z113 := by simp [rd_T113]
      simp only [Int.toNat_natCast, hrd] at q0 q1
      clear hrd
      have hcall := HP.out wr (l.getD k z113) HB.out
      generalize hy : l.getD k z113 = y at q0 q1 hcall
      have HY := Aside0.mk hy
      clear hy
      cases hq : p y with
      | true =>
        rw [hq] at hcall
        have HF := Aside0.mk (show ix p l = (k : Int) from ix_hit hlt (by rw [HY.out]; exact hq) HA.out)
        have HX := Aside0.mk hcall
        clear hcall hq
        go_wp2_with fail
        refine HX.out.mono ?_
        rintro e w3 ⟨rfl, hb⟩
        have HB3 := Aside0.mk (below_then HB.out HB.out.size hb)
        clear hb
        go_wp2
        go_ret
        exact ⟨congrArg (fun q : Int => Ending.returned (.int .i64 q)) HF.out.symm, HB3.out⟩
      | false =>
        rw [hq] at hcall
        have HA1 := Aside0.mk (show ∀ i : Nat, i < k + 1 → p (l.getD i z113) = false from fun i hi => by
          by_cases e : i = k
          · rw [e, HY.out]; exact hq
          · exact HA.out i (by omega))
        have HX := Aside0.mk hcall
        clear hcall hq HA
        go_wp2_with fail
        refine HX.out.mono ?_
        rintro e w3 ⟨rfl, hb⟩
        have HB3 := Aside0.mk (below_then HB.out HB.out.size hb)
        clear hb
        go_wp2
        go_roundg (l.length - (k + 1))
        case measure => omega
        case rel => exact ⟨k + 1, by omega, by omega, by go_num, HA1, HB3⟩
    · have HF := Aside0.mk (show ix p l = -1 from ix_miss (fun i hi => HA.out i (by omega)))
      go_wp2
      go_ret
      exact ⟨congrArg (fun q : Int => Ending.returned (.int .i64 q)) HF.out.symm, HB.out⟩
theorem ix_any (p : E → Bool) (l : List E) : decide (ix p l ≥ 0) = l.any p := by
  unfold ix
  cases h : l.findIdx? p with
  | none =>
    rw [List.findIdx?_eq_none_iff] at h
    simp only [ge_iff_le, Int.reduceNeg, Int.reduceLE, decide_false]
    symm
    rw [List.any_eq_false]
    intro x hx
    simp [h x hx]
  | some i =>
    rw [List.findIdx?_eq_some_iff_getElem] at h
    obtain ⟨hi, hp, _⟩ := h
    have : l.any p = true := List.any_eq_true.2 ⟨l[i], List.getElem_mem _, hp⟩
    rw [this]
    exact decide_eq_true (Int.natCast_nonneg i)
set_option maxHeartbeats 8000000 in
set_option maxRecDepth 100000 in
theorem containsFunc (g : Nat) (lb : Array Value) (p : E → Bool) (eg : ∀ args w, (callFunc g args).run Tryz.prog w = .ok (.enter g args) w) (A : Option Addr) (c : Nat) (l : List E) (w : World)
    (hr : Kd.C k113 w A l.length l) (hc : l.length ≤ c) (hp : Pred g lb p w) :
    Calls Tryz.prog 88 #[.slice A l.length c, .func (.func g) #[] lb] w fun e w' => e = .returned (.bool (l.any p)) ∧ Below w.heap.size w w' := by
  have HI := Aside0.mk (indexFunc g lb p eg A c l w hr hc hp)
  have HE := Aside0.mk (ix_any p l)
  clear hr hc hp eg
  go_enter Tryz.func88, Tryz.ntmps88
  go_wp2_with fail
  refine HI.out.mono ?_
  rintro e w3 ⟨rfl, hb⟩
  have HB := Aside0.mk hb
  clear hb
  go_wp2
  go_ret
  exact ⟨congrArg (fun q : Bool => Ending.returned (.bool q)) HE.out, HB.out⟩
theorem ent_of {P : Program} {f : FuncId} {fn : Func} {c : Code} (hf : P.funcs[f]? = some fn) (hname : (fn.name == "runtime.NumGoroutine") = false) (hb : fn.body = some c) : ∀ args w, (callFunc f args).run P w = .ok (.enter f args) w := by
  intro args w
  have h1 : fn.name ≠ "runtime.NumGoroutine" := by simpa using hname
  simp [callFunc, hf, h1, hb, mark]
theorem enters_of1 : ∀ args w, (callFunc 86 args).run Tryz.prog w = .ok (.enter 86 args) w := ent_of Tryz.func86 (by kernel_rfl) rfl
set_option maxHeartbeats 8000000 in
set_option maxRecDepth 100000 in
theorem of_ (A : Option Addr) (c : Nat) (l : List E) (who : Int) (w : World) (hr : Kd.C k113 w A l.length l) (hc : l.length ≤ c) :
    Calls Tryz.prog 61 #[.slice A l.length c, .int .i64 who] w fun e w' => e = .returned (.int .i64 (ix (fun x => x.f0 == who) l)) ∧ Below w.heap.size w w' := by
  have HR := Aside0.mk hr
  have HC := Aside0.mk hc
  clear hr hc
  go_enter Tryz.func61, Tryz.ntmps61
  go_wp2_with fail
  refine (indexFunc _ _ _ enters_of1 A c l _ (Kd.C_alloc HR.out _) HC.out (of1.pred who _ _ ((blk_cell (blk_new w _) 0).trans rfl))).mono ?_
  rintro e w3 ⟨rfl, hb⟩
  have HB := Aside0.mk (below_then (below_alloc (Below.refl w.heap.size w) (.cells #[.int .i64 who] 3)) (below_alloc (Below.refl w.heap.size w) _).size hb)
  clear hb
  go_wp2
  go_ret
  exact ⟨rfl, HB.out⟩
def toldIn (l : List E) (who : Int) : Int := if ix (fun x => x.f0 == who) l ≥ 0 then (rd_T113 l (ix (fun x => x.f0 == who) l)).f1 else 0
theorem ix_lt (p : E → Bool) (l : List E) : ix p l < l.length := by
  unfold ix
  cases h : l.findIdx? p with
  | none => show (-1 : Int) < _; omega
  | some i =>
    rw [List.findIdx?_eq_some_iff_getElem] at h
    obtain ⟨hi, _⟩ := h
    show (i : Int) < _
    omega
set_option maxHeartbeats 8000000 in
set_option maxRecDepth 100000 in
theorem told_ (A : Option Addr) (c : Nat) (l : List E) (who : Int) (w : World) (hr : Kd.C k113 w A l.length l) (hc : l.length ≤ c) :
    Calls Tryz.prog 83 #[.slice A l.length c, .int .i64 who] w fun e w' => e = .returned (.int .i64 (toldIn l who)) ∧ Below w.heap.size w w' := by
  have HR := Aside0.mk hr
  have HC := Aside0.mk hc
  have HO := Aside0.mk (of_ A c l who w hr hc)
  have HL := Aside0.mk (ix_lt (fun x => x.f0 == who) l)
  have HD := Aside0.mk (show toldIn l who = if ix (fun x => x.f0 == who) l ≥ 0 then (rd_T113 l (ix (fun x => x.f0 == who) l)).f1 else 0 from rfl)
  generalize hi : ix (fun x => x.f0 == who) l = i at HO HL HD
  clear hr hc hi
  by_cases h0 : i ≥ 0
  · have h0b : decide (i ≥ 0) = true := decide_eq_true h0
    have HD2 := Aside0.mk (show toldIn l who = (rd_T113 l i).f1 from by rw [HD.out, if_pos h0])
    clear HD
    have h0c : 0 ≤ i := h0
    have hlt : i < l.length := HL.out
    go_enter Tryz.func83, Tryz.ntmps83
    go_wp2_with fail
    refine HO.out.mono ?_
    rintro e w3 ⟨rfl, hb⟩
    have HB := Aside0.mk hb
    obtain ⟨ad, rfl, q0, q1⟩ := at_T113 (Kd.C_below HR.out hb) i (by omega) (by omega)
    clear hb
    go_wp2
    go_ret
    exact ⟨congrArg (fun q : Int => Ending.returned (.int .i64 q)) HD2.out.symm, HB.out⟩
  · have h0b : decide (i ≥ 0) = false := decide_eq_false h0
    have HD2 := Aside0.mk (show toldIn l who = 0 from by rw [HD.out, if_neg h0])
    clear HD h0
    go_enter Tryz.func83, Tryz.ntmps83
    go_wp2_with fail
    refine HO.out.mono ?_
    rintro e w3 ⟨rfl, hb⟩
    have HB := Aside0.mk hb
    clear hb
    go_wp2
    go_ret
    exact ⟨congrArg (fun q : Int => Ending.returned (.int .i64 q)) HD2.out.symm, HB.out⟩
theorem flat_get {l : List E} {j : Nat} {p : E} (h : l[j]? = some p) : (flat l)[j * 2]? = some (.int .i64 p.f0) ∧ (flat l)[j * 2 + 1]? = some (.int .i64 p.f1) := by
  induction l generalizing j with
  | nil => simp at h
  | cons x l ih =>
    cases j with
    | zero => obtain rfl : x = p := by simpa using h
              exact ⟨rfl, rfl⟩
    | succ j =>
      have := ih (j := j) (by simpa using h)
      have e : flat (x :: l) = .int .i64 x.f0 :: .int .i64 x.f1 :: flat l := rfl
      rw [e, show (j + 1) * 2 = j * 2 + 1 + 1 by omega]
      exact this
theorem flat_len (l : List E) : (flat l).length = l.length * 2 := by
  induction l with
  | nil => rfl
  | cons x l ih => show (flat l).length + 2 = _; rw [ih, List.length_cons]; omega
theorem Row.reads {w : World} {A : Option Addr} {c : Nat} {l : List E} (h : Row w 113 2 A l.length c (flat l)) : Kd.C k113 w A l.length l := by
  refine ⟨rfl, by have h1 := h.2.1; have h2 := h.2.2.1; unfold maxLen at h2; omega, fun hn => ?_⟩
  obtain ⟨g, off, cur, rfl, _, _, hc⟩ := h.at_ hn
  refine ⟨_, rfl, fun j p hj => ⟨[.int .i64 p.f0, .int .i64 p.f1], rfl, k113_mk w p, fun i u hu => ?_⟩⟩
  obtain ⟨f0, f1⟩ := flat_get hj
  rw [Addr.add_lit]
  match i, hu with
  | 0, hu => obtain rfl : Value.int .i64 p.f0 = u := by simpa using hu
             exact (hc _ _ f0).1
  | 1, hu => obtain rfl : Value.int .i64 p.f1 = u := by simpa using hu
             exact (hc _ _ f1).1
  | i + 2, hu => simp at hu
end Go.Proofs.YtaaekmcmpjljgaaGreat.Ln
namespace Go.Proofs.YtaaekmcmpjljgaaGreat.Ln
open Go.RowKit Go.Proofs.YtaaekmcmpjljgaaGreatW.PrintWords Go.Proofs.YtaaekmcmpjljgaaGreatW.PrintLast Go.Proofs.YtaaekmcmpjljgaaGreatW.PrintMore Go.Proofs.YtaaekmcmpjljgaaGreat.PMd
set_option linter.unusedVariables false
set_option linter.unusedSimpArgs false
theorem blk_none {k : Nat} (h : blk none k) : False := by obtain ⟨a, h, _⟩ := h; cases h
def IsLane (w : World) (b : Nat) (F : Nat → Prop) (hs qs : List E) : Prop :=
  ∃ hA hc qA qc, w.heap[b]? = some (.cells #[.slice hA hs.length hc, .slice qA qs.length qc] 116 (0, 0)) ∧ F b ∧
    Row w 113 2 hA hs.length hc (flat hs) ∧ (∀ k, blk hA k → F k) ∧ Row w 113 2 qA qs.length qc (flat qs) ∧ (∀ k, blk qA k → F k) ∧ (∀ k, blk hA k → blk qA k → False)
section
variable {w w' : World} {b : Nat} {F F' : Nat → Prop} {hs qs : List E}
theorem IsLane.mono (h : IsLane w b F hs qs) (hf : ∀ k, k < w.heap.size → F k → F' k) : IsLane w b F' hs qs := by
  obtain ⟨hA, hc, qA, qc, h1, h2, h3, h4, h5, h6, h7⟩ := h
  exact ⟨hA, hc, qA, qc, h1, hf _ (Array.getElem?_eq_some_iff.1 h1).1 h2, h3, fun k hk => hf _ (h3.lt hk) (h4 k hk), h5, fun k hk => hf _ (h5.lt hk) (h6 k hk), h7⟩
theorem IsLane.lt (h : IsLane w b F hs qs) : b < w.heap.size := by
  obtain ⟨hA, hc, qA, qc, h1, _⟩ := h
  exact (Array.getElem?_eq_some_iff.1 h1).1
theorem IsLane.own (h : IsLane w b F hs qs) : F b := by
  obtain ⟨hA, hc, qA, qc, h1, h2, _⟩ := h
  exact h2
theorem IsLane.move (h : IsLane w b F hs qs) (hm : ∀ k, F k → k < w.heap.size → w'.heap[k]? = w.heap[k]?) : IsLane w' b F hs qs := by
  obtain ⟨hA, hc, qA, qc, h1, h2, h3, h4, h5, h6, h7⟩ := h
  exact ⟨hA, hc, qA, qc, (hm b h2 (Array.getElem?_eq_some_iff.1 h1).1).trans h1, h2, h3.move (fun k hk hl => hm k (h4 k hk) hl), h4, h5.move (fun k hk hl => hm k (h6 k hk) hl), h6, h7⟩
theorem IsLane.below (h : IsLane w b F hs qs) (hb : Below w.heap.size w w') : IsLane w' b F hs qs := h.move (fun k _ hk => hb.block k hk)
theorem IsLane.grew {S : Nat → Prop} (h : IsLane w b F hs qs) (hg : Grew S w w') (hs_ : ∀ k, F k → ¬ S k) : IsLane w' b F hs qs := h.move (fun k hk hl => hg.block k hl (hs_ k hk))
theorem IsLane.open_ (h : IsLane w b F hs qs) : ∃ hA hc qA qc, w.cell? ⟨b, 0, none⟩ = some (.slice hA hs.length hc) ∧ w.cell? ⟨b, 1, none⟩ = some (.slice qA qs.length qc) ∧ hs.length ≤ hc ∧ qs.length ≤ qc ∧
    Kd.C k113 w hA hs.length hs ∧ Kd.C k113 w qA qs.length qs := by
  obtain ⟨hA, hc, qA, qc, h1, h2, h3, h4, h5, h6, h7⟩ := h
  exact ⟨hA, hc, qA, qc, (blk_cell h1 0).trans rfl, (blk_cell h1 1).trans rfl, h3.2.1, h5.2.1, h3.reads, h5.reads⟩
end
set_option maxHeartbeats 8000000 in
set_option maxRecDepth 100000 in
theorem New_ (w : World) (F : Nat → Prop) (hF : F w.heap.size) : Calls Tryz.prog 56 #[] w fun e w' => e = .returned (.pointer (some ⟨w.heap.size, 0, none⟩)) ∧ IsLane w' w.heap.size F [] [] ∧ Below w.heap.size w w' := by
  have hu := Tryz.underlying116
  have HF := Aside0.mk hF
  clear hF
  go_enter Tryz.func56, Tryz.ntmps56
  go_wp2
  go_ret
  exact ⟨rfl, ⟨none, 0, none, 0, blk_new w _, HF.out, Row.zero _ _ _, fun k hk => (blk_none hk).elim, Row.zero _ _ _, fun k hk => (blk_none hk).elim, fun k hk _ => (blk_none hk).elim⟩, below_alloc (Below.refl _ _) _⟩
set_option maxHeartbeats 8000000 in
set_option maxRecDepth 100000 in
theorem Holds_ (w : World) (b : Nat) (F : Nat → Prop) (hs qs : List E) (who : Int) (hI : IsLane w b F hs qs) :
    Calls Tryz.prog 57 #[.pointer (some ⟨b, 0, none⟩), .int .i64 who] w fun e w' => e = .returned (.int .i64 (toldIn hs who)) ∧ Below w.heap.size w w' := by
  have hu := Tryz.underlying116
  obtain ⟨hA, hc, qA, qc, c0, c1, l0, l1, r0, r1⟩ := hI.open_
  have HT := Aside0.mk (told_ hA hc hs who w r0 l0)
  clear hI r0 r1 l0 l1
  go_enter Tryz.func57, Tryz.ntmps57
  go_wp2_with fail
  refine HT.out.mono ?_
  rintro e w3 ⟨rfl, hb⟩
  have HB := Aside0.mk hb
  clear hb
  go_wp2
  go_ret
  exact ⟨rfl, HB.out⟩
set_option maxHeartbeats 8000000 in
set_option maxRecDepth 100000 in
theorem Waits_ (w : World) (b : Nat) (F : Nat → Prop) (hs qs : List E) (who : Int) (hI : IsLane w b F hs qs) :
    Calls Tryz.prog 58 #[.pointer (some ⟨b, 0, none⟩), .int .i64 who] w fun e w' => e = .returned (.int .i64 (toldIn qs who)) ∧ Below w.heap.size w w' := by
  have hu := Tryz.underlying116
  obtain ⟨hA, hc, qA, qc, c0, c1, l0, l1, r0, r1⟩ := hI.open_
  have HT := Aside0.mk (told_ qA qc qs who w r1 l1)
  clear hI r0 r1 l0 l1
  go_enter Tryz.func58, Tryz.ntmps58
  go_wp2_with fail
  refine HT.out.mono ?_
  rintro e w3 ⟨rfl, hb⟩
  have HB := Aside0.mk hb
  clear hb
  go_wp2
  go_ret
  exact ⟨rfl, HB.out⟩
theorem made_some (a : Int) : ∃ r, mode_made.f a = some r := by
  unfold mode_made.f
  repeat' (first | exact ⟨_, rfl⟩ | split)
theorem hurts_some (a b : Int) : ∃ r, mode_hurts.f a b = some r := by
  obtain ⟨x, hx⟩ := made_some a
  obtain ⟨y, hy⟩ := made_some b
  unfold mode_hurts.f
  rw [hx, hy]
  simp only [Option.bind_some]
  repeat' (first | exact ⟨_, rfl⟩ | split)
def knownM (a : Int) : Bool := decide (0 ≤ a ∧ a ≤ 5)
theorem known_f (a : Int) : mode_Known.f a = some (knownM a) := by
  unfold mode_Known.f knownM
  by_cases h : a ≥ 0
  · rw [if_pos h]; congr 1; simp; omega
  · rw [if_neg h]; congr 1; symm; exact decide_eq_false (by omega)
def fitsM (a b : Int) : Bool := (mode_Fits.f a b).getD false
theorem fits_f (a b : Int) : mode_Fits.f a b = some (fitsM a b) := by
  have key : ∃ r, mode_Fits.f a b = some r := by
    obtain ⟨x, hx⟩ := hurts_some a b
    obtain ⟨y, hy⟩ := hurts_some b a
    unfold mode_Fits.f
    rw [hx, hy, known_f, known_f]
    simp only [Option.bind_some]
    repeat' (first | exact ⟨_, rfl⟩ | split)
  obtain ⟨r, hr⟩ := key
  rw [fitsM, hr]
  rfl
theorem Fits_ (a b : Int) (w : World) : Calls Tryz.prog 90 #[.int .i64 a, .int .i64 b] w fun e w' => e = .returned (.bool (fitsM a b)) ∧ Drawn0 w w' := mode_Fits.calls a b _ w (fits_f a b)
theorem Known_ (a : Int) (w : World) : Calls Tryz.prog 38 #[.int .i64 a] w fun e w' => e = .returned (.bool (knownM a)) ∧ Drawn0 w w' := mode_Known.calls a _ w (known_f a)
def fitsAll (hs : List E) (who t : Int) : Bool := !hs.any fun x => !(x.f0 == who) && !fitsM x.f1 t
set_option maxHeartbeats 8000000 in
set_option maxRecDepth 100000 in
theorem fits1 (x : E) (who t : Int) (g g2 : Nat) (w : World) (hc : w.cell? ⟨g, 0, none⟩ = some (.int .i64 who)) (hc2 : w.cell? ⟨g2, 0, none⟩ = some (.int .i64 t)) :
    Calls Tryz.prog 89 #[.agg #[.int .i64 x.f0, .int .i64 x.f1], .pointer (some ⟨g, 0, none⟩), .pointer (some ⟨g2, 0, none⟩)] w fun e w' => e = .returned (.bool (!(x.f0 == who) && !fitsM x.f1 t)) ∧ Below w.heap.size w w' := by
  have hu67 := Tryz.underlying113
  have HF := Aside0.mk (Fits_ x.f1 t)
  have c1 := cell_al hc (.cells #[.int .i64 x.f0, .int .i64 x.f1] 113)
  have c2 := cell_al hc2 (.cells #[.int .i64 x.f0, .int .i64 x.f1] 113)
  clear hc hc2
  by_cases h : x.f0 = who
  · have h1 : (x.f0 == who) = true := beq_iff_eq.2 h
    have h2 : (x.f0 != who) = false := bne_eq_false_iff_eq.2 h
    clear h
    go_enter Tryz.func89, Tryz.ntmps89
    go_wp2_with fail
    go_ret
    exact ⟨by simp [h1], below_alloc (Below.refl _ _) _⟩
  · have h1 : (x.f0 == who) = false := beq_eq_false_iff_ne.2 h
    have h2 : (x.f0 != who) = true := bne_iff_ne.2 h
    clear h
    go_enter Tryz.func89, Tryz.ntmps89
    go_wp2_with fail
    refine (HF.out _).mono ?_
    rintro e w3 ⟨rfl, hd⟩
    obtain ⟨n, rfl⟩ := hd.out
    go_wp2
    go_ret
    exact ⟨by simp [h1], pw_below_drewN (below_alloc (Below.refl _ _) _) _⟩
theorem enters_fits1 : ∀ args w, (callFunc 89 args).run Tryz.prog w = .ok (.enter 89 args) w := ent_of Tryz.func89 (by kernel_rfl) rfl
end Go.Proofs.YtaaekmcmpjljgaaGreat.Ln
namespace Go.Proofs.YtaaekmcmpjljgaaGreat.Ln
open Go.RowKit Go.Proofs.YtaaekmcmpjljgaaGreatW.PrintWords Go.Proofs.YtaaekmcmpjljgaaGreatW.PrintLast Go.Proofs.YtaaekmcmpjljgaaGreatW.PrintMore Go.Proofs.YtaaekmcmpjljgaaGreat.PMd
set_option linter.unusedVariables false
set_option linter.unusedSimpArgs false
theorem fits1.pred (who t : Int) (g g2 : Nat) (w : World) (hc : w.cell? ⟨g, 0, none⟩ = some (.int .i64 who)) (hc2 : w.cell? ⟨g2, 0, none⟩ = some (.int .i64 t)) :
    Pred 89 #[.pointer (some ⟨g, 0, none⟩), .pointer (some ⟨g2, 0, none⟩)] (fun x => !(x.f0 == who) && !fitsM x.f1 t) w :=
  fun W x hb => fits1 x who t g g2 W (cell_be hc hb) (cell_be hc2 hb)
set_option maxHeartbeats 8000000 in
set_option maxRecDepth 100000 in
theorem fits_ (w : World) (b : Nat) (F : Nat → Prop) (hs qs : List E) (who t : Int) (hI : IsLane w b F hs qs) :
    Calls Tryz.prog 64 #[.pointer (some ⟨b, 0, none⟩), .int .i64 who, .int .i64 t] w fun e w' => e = .returned (.bool (fitsAll hs who t)) ∧ Below w.heap.size w w' := by
  have hu := Tryz.underlying116
  obtain ⟨hA, hc, qA, qc, c0, c1, l0, l1, r0, r1⟩ := hI.open_
  have HL := Aside0.mk l0
  have HR := Aside0.mk r0
  have c2 := cell_al (cell_al c0 (.cells #[.int .i64 who] 3)) (.cells #[.int .i64 t] 3)
  have b1 := blk_alloc (blk_new w (.cells #[.int .i64 who] 3)) (.cells #[.int .i64 t] 3)
  have b2 := blk_new (w.alloc (.cells #[.int .i64 who] 3)) (.cells #[.int .i64 t] 3)
  rw [show (w.alloc (.cells #[.int .i64 who] 3)).heap.size = w.heap.size + 1 from by simp] at b2
  have B1 := Aside0.mk b1
  have B2 := Aside0.mk b2
  have HB := Aside0.mk (below_alloc (below_alloc (Below.refl w.heap.size w) (.cells #[.int .i64 who] 3)) (.cells #[.int .i64 t] 3))
  clear hI r0 r1 l0 l1 c1 c0 b1 b2
  go_enter Tryz.func64, Tryz.ntmps64
  go_wp2_with fail
  refine (containsFunc _ _ _ enters_fits1 hA hc hs _ (Kd.C_below HR.out HB.out) HL.out (fits1.pred who t w.heap.size (w.heap.size + 1) _ ((blk_cell B1.out 0).trans rfl) ((blk_cell B2.out 0).trans rfl))).mono ?_
  rintro e w3 ⟨rfl, hb⟩
  have HB3 := Aside0.mk (below_then HB.out HB.out.size hb)
  clear hb
  go_wp2
  go_ret
  exact ⟨rfl, HB3.out⟩
def convs (hs qs : List E) : Nat := (qs.takeWhile fun x => toldIn hs x.f0 != 0).length
theorem convs_step {hs qs : List E} {n : Nat} (hn : n < qs.length) (ha : ∀ i, i < n → (toldIn hs (qs.getD i z113).f0 != 0) = true) (h : (toldIn hs (qs.getD n z113).f0 != 0) = false) : convs hs qs = n := by
  unfold convs
  induction qs generalizing n with
  | nil => simp at hn
  | cons x qs ih =>
    cases n with
    | zero => rw [List.takeWhile_cons, if_neg (by simpa using h)]; rfl
    | succ n =>
      have h0 := ha 0 (by omega)
      rw [List.takeWhile_cons, if_pos (by simpa using h0), List.length_cons, ih (n := n) (by simpa using hn) (fun i hi => by simpa using ha (i + 1) (by omega)) (by simpa using h)]
theorem convs_all {hs qs : List E} (ha : ∀ i, i < qs.length → (toldIn hs (qs.getD i z113).f0 != 0) = true) : convs hs qs = qs.length := by
  unfold convs
  induction qs with
  | nil => rfl
  | cons x qs ih =>
    have h0 := ha 0 (by simp)
    rw [List.takeWhile_cons, if_pos (by simpa using h0), List.length_cons, List.length_cons, ih (fun i hi => by simpa using ha (i + 1) (by simpa using hi))]
set_option maxHeartbeats 8000000 in
set_option maxRecDepth 100000 in
theorem conversions_ (w : World) (b : Nat) (F : Nat → Prop) (hs qs : List E) (hI : IsLane w b F hs qs) :
    Calls Tryz.prog 63 #[.pointer (some ⟨b, 0, none⟩)] w fun e w' => e = .returned (.int .i64 (convs hs qs : Nat)) ∧ Below w.heap.size w w' := by
  have hu := Tryz.underlying116
  have hu67 := Tryz.underlying113
  have HI := Aside0.mk hI
  have hq63 : qs.length ≤ 9223372036854775807 := by obtain ⟨_, _, _, _, _, _, _, _, _, r1⟩ := hI.open_; exact r1.2.1
  clear hI
  go_enter Tryz.func63, Tryz.ntmps63
  go_wp2_with fail
  go_loopg [3] qs.length (fun gg v wr => ∃ n : Nat, n ≤ qs.length ∧ qs.length - n ≤ gg ∧ v = .int .i64 n ∧ Aside0 (∀ i : Nat, i < n → (toldIn hs (qs.getD i z113).f0 != 0) = true) ∧ Aside0 (Below w.heap.size w wr))
  case atStart => exact ⟨0, by omega, by omega, rfl, ⟨fun i hi => by omega⟩, ⟨Below.refl _ _⟩⟩
  case round =>
    obtain ⟨n, hn, hgg, rfl, HA, HB⟩ := hrel
    have HI2 := Aside0.mk (HI.out.below HB.out)
    obtain ⟨hA, hc, qA, qc, c0, c1, l0, l1, r0, r1⟩ := HI2.out.open_
    by_cases hlt : n < qs.length
    · obtain ⟨ad, rfl, q0, q1⟩ := at_T113 r1 (n : Int) (by omega) (by omega)
      have p1 : 0 ≤ (n : Int) := by omega
      have p2 : (n : Int) < qs.length := by omega
      have p3 : decide (n < qs.length) = true := decide_eq_true hlt
      have hrd : rd_T113 qs n = qs.getD n z113 := by simp [rd_T113]
      simp only [Int.toNat_natCast, hrd] at q0 q1
      clear hrd r0 r1 l0 l1
      have HH := Aside0.mk (Holds_ wr b F hs qs (qs.getD n z113).f0 HI2.out)
      generalize hy : qs.getD n z113 = y at q0 q1 HH
      have HY := Aside0.mk hy
      clear hy
      by_cases hq : toldIn hs y.f0 = 0
      · have hq1 : (toldIn hs y.f0 != 0) = false := bne_eq_false_iff_eq.2 hq
        have HF := Aside0.mk (convs_step hlt HA.out (by rw [HY.out]; exact hq1))
        clear hq
        go_wp2_with fail
        refine HH.out.mono ?_
        rintro e w3 ⟨rfl, hb⟩
        have HB3 := Aside0.mk (below_then HB.out HB.out.size hb)
        clear hb
        go_wp2
        go_ret
        exact ⟨congrArg (fun q : Nat => Ending.returned (.int .i64 (q : Int))) HF.out.symm, HB3.out⟩
      · have hq1 : (toldIn hs y.f0 != 0) = true := bne_iff_ne.2 hq
        have HA1 := Aside0.mk (show ∀ i : Nat, i < n + 1 → (toldIn hs (qs.getD i z113).f0 != 0) = true from fun i hi => by
          by_cases e : i = n
          · rw [e, HY.out]; exact hq1
          · exact HA.out i (by omega))
        clear hq HA
        go_wp2_with fail
        refine HH.out.mono ?_
        rintro e w3 ⟨rfl, hb⟩
        have HB3 := Aside0.mk (below_then HB.out HB.out.size hb)
        clear hb
        go_wp2
        go_roundg (qs.length - (n + 1))
        case measure => omega
        case rel => exact ⟨n + 1, by omega, by omega, by go_num, HA1, HB3⟩
    · have HF := Aside0.mk (convs_all (hs := hs) (qs := qs) (fun i hi => HA.out i (by omega)))
      have p3 : decide (n < qs.length) = false := decide_eq_false hlt
      obtain rfl : n = qs.length := by omega
      clear r0 r1 l0 l1 HA
      go_wp2
      go_ret
      exact ⟨congrArg (fun q : Nat => Ending.returned (.int .i64 (q : Int))) HF.out.symm, HB.out⟩
end Go.Proofs.YtaaekmcmpjljgaaGreat.Ln
namespace Go.Proofs.YtaaekmcmpjljgaaGreat.Ln
open Go.RowKit Go.Proofs.YtaaekmcmpjljgaaGreatW.PrintWords Go.Proofs.YtaaekmcmpjljgaaGreatW.PrintLast Go.Proofs.YtaaekmcmpjljgaaGreatW.PrintMore Go.Proofs.YtaaekmcmpjljgaaGreat.PMd
set_option linter.unusedVariables false
set_option linter.unusedSimpArgs false
theorem flat_append (a b : List E) : flat (a ++ b) = flat a ++ flat b := by simp [flat]
theorem flat_one (l : List E) : ∀ u ∈ flat l, u.oneCell' = true := by
  intro u hu
  simp only [flat, List.mem_flatMap, encE, List.mem_cons, List.not_mem_nil, or_false] at hu
  obtain ⟨x, _, rfl | rfl⟩ := hu <;> rfl
theorem Row.cells {w : World} {e sz : Nat} {A : Option Addr} {n c : Nat} {xs : List Value} (h : Row w e sz A n c xs) {ad : Addr} (ha : A = some ad) : ∀ j u, xs[j]? = some u → w.cell? (ad.add j) = some u := by
  intro j u hu
  subst ha
  by_cases hn : 0 < n
  · obtain ⟨g, off, cur, h1, _, _, h2⟩ := h.at_ hn
    cases h1
    rw [Addr.add_lit]
    exact (h2 j u hu).1
  · have h0 : xs.length = 0 := by rw [h.1, show n = 0 from by omega, Nat.zero_mul]
    rw [List.eq_nil_of_length_eq_zero h0] at hu
    simp at hu
set_option maxHeartbeats 8000000 in
set_option maxRecDepth 100000 in
theorem Clone_ (A : Option Addr) (c : Nat) (l : List E) (w : World) (hR : Row w 113 2 A l.length c (flat l)) (hl : l.length ≤ 1000000) :
    Calls Tryz.prog 84 #[.slice A l.length c] w fun e w' => ∃ A' c', e = .returned (.slice A' l.length c') ∧ Row w' 113 2 A' l.length c' (flat l) ∧ (∀ k, blk A' k → w.heap.size ≤ k) ∧ Below w.heap.size w w' := by
  have hu := Tryz.underlying113
  have HR := Aside0.mk hR
  have HL := Aside0.mk hl
  have q64 : ∀ (w : World) (a : Option Addr) (n c n' c' : Nat), (binOp .eql 110 (.slice a n c) (.slice none n' c')).run Tryz.prog w = .ok (.bool a.isNone) w := fun w a n c n' c' => Lib.run_eql_slice_nil w _ _ a n c n' c' Tryz.underlying110
  cases A with
  | none =>
    obtain ⟨rfl, rfl⟩ : l = [] ∧ c = 0 := by
      rcases hR.2.2.2 with ⟨_, h⟩ | ⟨g, off, cur, h, _⟩
      · have := hR.2.1; exact ⟨List.eq_nil_of_length_eq_zero (by omega), h⟩
      · cases h
    clear hR hl
    go_enter Tryz.func84, Tryz.ntmps84
    go_wp2
    go_ret
    exact ⟨none, 0, rfl, Row.zero _ _ _, fun k hk => (blk_none hk).elim, Below.refl _ _⟩
  | some ad =>
    clear hR
    go_enter Tryz.func84, Tryz.ntmps84
    go_wp2_with (at_builtin; refine wpList_append_info rfl _ _ 110 rfl 113 _ 2 16 Tryz.underlying110 info113 rfl _ 0 0 [] rfl ?r0 ad l.length c (flat l) rfl ?r1 ?r2 ?r3 ?r4 ?r5 ?_)
    case r0 => exact ⟨by simp, Nat.le_refl _, Nat.zero_le _, .inr ⟨_, 0, _, rfl, blk_new w _, by simp, by simp⟩⟩
    case r1 => exact flat_len l
    case r2 => exact fun j u hu => cell_al (HR.out.cells rfl j u hu) _
    case r3 => exact flat_one l
    case r4 => have := HL.out; unfold maxLen; omega
    case r5 => have := HL.out; omega
    intro A' c' w1 hR1 hG1 hB1
    have HG := Aside0.mk (hG1.to_below (below_alloc (Below.refl w.heap.size w) (.cells #[] 113)) (by simp) (fun k ⟨a, h, e⟩ => by cases h; exact Nat.le_of_eq e))
    have HR1 := Aside0.mk hR1
    have HB1 := Aside0.mk hB1
    clear hR1 hG1 hB1
    go_wp2
    go_ret
    exact ⟨A', c', by simp, by simpa using HR1.out, fun k hk => (HB1.out k hk).elim (fun ⟨a, h, e⟩ => by cases h; exact Nat.le_of_eq e) (fun h => by have h2 : w.heap.size + 1 ≤ k := (by simpa using h); omega), HG.out⟩
set_option maxHeartbeats 8000000 in
set_option maxRecDepth 100000 in
theorem Holders_ (w : World) (b : Nat) (F : Nat → Prop) (hs qs : List E) (hI : IsLane w b F hs qs) (hl : hs.length ≤ 1000000) :
    Calls Tryz.prog 59 #[.pointer (some ⟨b, 0, none⟩)] w fun e w' => ∃ A' c', e = .returned (.slice A' hs.length c') ∧ Row w' 113 2 A' hs.length c' (flat hs) ∧ (∀ k, blk A' k → w.heap.size ≤ k) ∧ Below w.heap.size w w' := by
  have hu := Tryz.underlying116
  obtain ⟨hA, hc, qA, qc, h1, h2, h3, h4, h5, h6, h7⟩ := hI
  have c0 : w.cell? ⟨b, 0, none⟩ = some (.slice hA hs.length hc) := (blk_cell h1 0).trans rfl
  have c1 : w.cell? ⟨b, 1, none⟩ = some (.slice qA qs.length qc) := (blk_cell h1 1).trans rfl
  have HC := Aside0.mk (Clone_ hA hc hs w h3 hl)
  clear h1 h2 h3 h4 h5 h6 h7 hl
  go_enter Tryz.func59, Tryz.ntmps59
  go_wp2_with fail
  refine HC.out.mono ?_
  rintro e w3 ⟨A', c', rfl, hR, hk, hb⟩
  have HR := Aside0.mk hR
  have HK := Aside0.mk hk
  have HB := Aside0.mk hb
  clear hR hk hb
  go_wp2
  go_ret
  exact ⟨A', c', rfl, HR.out, HK.out, HB.out⟩
set_option maxHeartbeats 8000000 in
set_option maxRecDepth 100000 in
theorem Queue_ (w : World) (b : Nat) (F : Nat → Prop) (hs qs : List E) (hI : IsLane w b F hs qs) (hl : qs.length ≤ 1000000) :
    Calls Tryz.prog 60 #[.pointer (some ⟨b, 0, none⟩)] w fun e w' => ∃ A' c', e = .returned (.slice A' qs.length c') ∧ Row w' 113 2 A' qs.length c' (flat qs) ∧ (∀ k, blk A' k → w.heap.size ≤ k) ∧ Below w.heap.size w w' := by
  have hu := Tryz.underlying116
  obtain ⟨hA, hc, qA, qc, h1, h2, h3, h4, h5, h6, h7⟩ := hI
  have c0 : w.cell? ⟨b, 0, none⟩ = some (.slice hA hs.length hc) := (blk_cell h1 0).trans rfl
  have c1 : w.cell? ⟨b, 1, none⟩ = some (.slice qA qs.length qc) := (blk_cell h1 1).trans rfl
  have HC := Aside0.mk (Clone_ qA qc qs w h5 hl)
  clear h1 h2 h3 h4 h5 h6 h7 hl
  go_enter Tryz.func60, Tryz.ntmps60
  go_wp2_with fail
  refine HC.out.mono ?_
  rintro e w3 ⟨A', c', rfl, hR, hk, hb⟩
  have HR := Aside0.mk hR
  have HK := Aside0.mk hk
  have HB := Aside0.mk hb
  clear hR hk hb
  go_wp2
  go_ret
  exact ⟨A', c', rfl, HR.out, HK.out, HB.out⟩
end Go.Proofs.YtaaekmcmpjljgaaGreat.Ln
namespace Go.Proofs.YtaaekmcmpjljgaaGreat.Ln
open Go.RowKit Go.Proofs.YtaaekmcmpjljgaaGreatW.PrintWords Go.Proofs.YtaaekmcmpjljgaaGreatW.PrintLast Go.Proofs.YtaaekmcmpjljgaaGreatW.PrintMore Go.Proofs.YtaaekmcmpjljgaaGreat.PMd
set_option linter.unusedVariables false
set_option linter.unusedSimpArgs false
theorem flat_take (l : List E) (i : Nat) : flat (l.take i) = (flat l).take (i * 2) := by
  induction l generalizing i with
  | nil => simp [flat]
  | cons x l ih =>
    cases i with
    | zero => simp [flat]
    | succ i =>
      have e : flat (x :: l) = .int .i64 x.f0 :: .int .i64 x.f1 :: flat l := rfl
      rw [List.take_succ_cons, e, show (i + 1) * 2 = i * 2 + 1 + 1 by omega, List.take_succ_cons, List.take_succ_cons, ← ih]
      rfl
theorem flat_drop (l : List E) (i : Nat) : flat (l.drop i) = (flat l).drop (i * 2) := by
  induction l generalizing i with
  | nil => simp [flat]
  | cons x l ih =>
    cases i with
    | zero => simp
    | succ i =>
      have e : flat (x :: l) = .int .i64 x.f0 :: .int .i64 x.f1 :: flat l := rfl
      rw [List.drop_succ_cons, e, show (i + 1) * 2 = i * 2 + 1 + 1 by omega, List.drop_succ_cons, List.drop_succ_cons, ← ih]
def insAt (l : List E) (i : Nat) (x : E) : List E := l.take i ++ x :: l.drop i
def InsPost (A : Option Addr) (l : List E) (i : Nat) (x : E) (w : World) (e : Ending) (w' : World) : Prop :=
  ∃ A' c', e = .returned (.slice A' (l.length + 1) c') ∧ Row w' 113 2 A' (l.length + 1) c' (flat (insAt l i x)) ∧ Grew (blk A) w w' ∧ (∀ k, blk A' k → blk A k ∨ w.heap.size ≤ k)
theorem encE_one (x : E) : ∀ u ∈ encE x, u.oneCell' = true := by
  intro u hu
  simp [encE] at hu
  rcases hu with rfl | rfl <;> rfl
theorem encE_at {w : World} {g2 : Nat} {x : E} (hv : w.heap[g2]? = some (.cells #[.int .i64 x.f0, .int .i64 x.f1] 113 (0, 0))) : ∀ j u, (encE x)[j]? = some u → w.cell? ((⟨g2, 0, none⟩ : Addr).add j) = some u := by
  intro j u hu
  rw [Addr.add_lit, Nat.zero_add]
  exact (blk_cell hv j).trans (by simpa [encE] using hu)
set_option maxHeartbeats 8000000 in
set_option maxRecDepth 100000 in
theorem Insert_end (A : Option Addr) (c : Nat) (l : List E) (x : E) (g2 : Nat) (w : World) (hR : Row w 113 2 A l.length c (flat l)) (hv : w.heap[g2]? = some (.cells #[.int .i64 x.f0, .int .i64 x.f1] 113 (0, 0)))
    (hl : l.length ≤ 1000000) :
    Calls Tryz.prog 66 #[.slice A l.length c, .int .i64 l.length, .slice (some ⟨g2, 0, none⟩) 1 1] w (InsPost A l l.length x w) := by
  have hu := Tryz.underlying113
  have HR := Aside0.mk hR
  have HV := Aside0.mk (encE_at hv)
  have HL4 := Aside0.mk (show l.length + 1 ≤ maxLen from by unfold maxLen; omega)
  have HL5 := Aside0.mk (show (l.length + 1) * 16 ≤ 140737488355328 from by omega)
  have hc1 : l.length ≤ c := hR.2.1
  clear hR hv hl
  go_enter Tryz.func66, Tryz.ntmps66
  go_wp2_with (at_builtin; refine wpList_append_info rfl _ _ 110 rfl 113 _ 2 16 Tryz.underlying110 info113 rfl A l.length c (flat l) rfl HR.out ⟨g2, 0, none⟩ 1 1 (encE x) rfl rfl HV.out (encE_one x) HL4.out HL5.out ?_)
  all_goals
    intro A' c' w1 hR1 hG1 hB1
    have HR1 := Aside0.mk hR1
    have HG1 := Aside0.mk hG1
    have HB1 := Aside0.mk hB1
    clear hR1 hG1 hB1
    go_wp2
    go_ret
    refine ⟨A', c', rfl, ?_, HG1.out, HB1.out⟩
    have e : flat (insAt l l.length x) = flat l ++ encE x := by simp [insAt, flat]
    rw [e]
    exact HR1.out
theorem ins_cells {ys : List Value} {l : List E} {i : Nat} {x : E} (hi : i ≤ l.length) (hy : ys.length = (l.length + 1) * 2) (h : ys.take (l.length * 2) = flat l) :
    Go.splice (Go.splice ys ((i + 1) * 2) (flat (l.drop i))) (i * 2) (encE x) = flat (insAt l i x) := by
  have e0 : (flat (l.drop i)).length = (l.length - i) * 2 := by rw [flat_len, List.length_drop]
  have e1 : ys.take (i * 2) = flat (l.take i) := by rw [flat_take, ← h, List.take_take]; congr 1; omega
  have e2 : (encE x).length = 2 := rfl
  unfold Go.splice insAt
  rw [flat_append, e0, show (i + 1) * 2 + (l.length - i) * 2 = (l.length + 1) * 2 by omega, List.drop_of_length_le (by omega : ys.length ≤ (l.length + 1) * 2), List.append_nil]
  have e3 : (ys.take ((i + 1) * 2) ++ flat (l.drop i)).take (i * 2) = flat (l.take i) := by
    rw [List.take_append_of_le_length (by rw [List.length_take]; omega), List.take_take, ← e1]; congr 1; omega
  have e4 : (ys.take ((i + 1) * 2) ++ flat (l.drop i)).drop (i * 2 + (encE x).length) = flat (l.drop i) := by
    rw [e2, show i * 2 + 2 = (ys.take ((i + 1) * 2)).length by rw [List.length_take]; omega, List.drop_left]
  rw [e3, e4]
  rfl
set_option maxHeartbeats 8000000 in
set_option maxRecDepth 100000 in
theorem Insert_room (A : Option Addr) (c : Nat) (l : List E) (i : Nat) (x : E) (g2 : Nat) (w : World) (hi : i < l.length) (hroom : l.length + 1 ≤ c) (hR : Row w 113 2 A l.length c (flat l)) (hv : w.heap[g2]? = some (.cells #[.int .i64 x.f0, .int .i64 x.f1] 113 (0, 0)))
    (hne : ¬ blk A g2) (hl : l.length ≤ 1000000) :
    Calls Tryz.prog 66 #[.slice A l.length c, .int .i64 i, .slice (some ⟨g2, 0, none⟩) 1 1] w (InsPost A l i x w) := by
  have hu := Tryz.underlying113
  obtain ⟨g, off, cur, rfl, hg, hsz, hcell⟩ := hR.at_ (by omega)
  have hne2 : g2 ≠ g := fun e => hne ⟨_, rfl, e.symm⟩
  have p1 : ¬ c = i := by omega
  have p2 : ¬ c = i + 1 := by omega
  have p3 : decide ((l.length : Int) + 1 > c) = false := decide_eq_false (by omega)
  have p4 : ((i : Int) == l.length) = false := beq_eq_false_iff_ne.2 (by omega)
  have p5 : (i : Int) ≤ l.length := by omega
  have p6 : ((i : Int) + 1) ≤ l.length := by omega
  have w1 : wrap64 ((l.length : Int) + 1) = l.length + 1 := by unfold wrap64; omega
  have w2 : wrap64 ((i : Int) + 1) = i + 1 := by unfold wrap64; omega
  have hw1 : IntKind.i64.wrap ((i : Int) + 1) = i + 1 := by rw [IntKind.wrap_i64]; omega
  have hb1 : 0 ≤ (i : Int) + 1 := by omega
  have hb3 : (i : Int) + 1 ≤ l.length + 1 := by omega
  have hb5 : (i : Int) ≤ l.length + 1 := by omega
  have htn : ((i : Int) + 1).toNat = i + 1 := by omega
  have mixed : Tryz.prog.follows Departure.mixedOrders = true := by kernel_rfl
  obtain ⟨ys, hy, hy2⟩ := hR.grows (l.length + 1) hroom
  have e0 : (flat (l.drop i)).length = (l.length - i) * 2 := by rw [flat_len, List.length_drop]
  have HY := Aside0.mk (show Row w.drew 113 2 (some ⟨g, off, none⟩) (l.length + 1) c ys from hy)
  have HY2 := Aside0.mk ((hy2 (l.length * 2) (Nat.le_refl _) (by omega)).trans (List.take_of_length_le (by rw [flat_len]; omega)))
  have HS1 := Aside0.mk (show ∀ j v, (flat (l.drop i))[j]? = some v → w.drew.cell? ((⟨g, off + i * 2, none⟩ : Addr).add j) = some v from fun j v hj => by
    rw [flat_drop, List.getElem?_drop] at hj
    rw [Addr.add_lit, Nat.add_assoc]
    exact (hcell _ _ hj).1)
  have HP1 := Aside0.mk (show (i + 1) * 2 + (flat (l.drop i)).length ≤ ys.length from by rw [e0, hy.1]; omega)
  have HN1 := Aside0.mk (show (flat (l.drop i)).length = Nat.min (l.length + 1 - i) (l.length + 1 - (i + 1)) * 2 from by rw [e0]; congr 1; show _ = min _ _; omega)
  have HN2 := Aside0.mk (show (encE x).length = Nat.min 1 (l.length + 1 - i) * 2 from by show 2 = min _ _ * 2; omega)
  have HP2 := Aside0.mk (show i * 2 + (encE x).length ≤ (Go.splice ys ((i + 1) * 2) (flat (l.drop i))).length from by
    rw [Go.length_splice _ _ _ HP1.out, hy.1, show (encE x).length = 2 from rfl]; omega)
  have HV := Aside0.mk hv
  have HN := Aside0.mk hne2
  have HI := Aside0.mk hi
  have HE0 := Aside0.mk e0
  have HYL := Aside0.mk hy.1
  have hsz67 : (Tryz.prog.info? 113).map (·.size) = some 2 := by have := info113; cases hq : Tryz.prog.info? 113 <;> simp_all
  have hov : ∀ lb cb, (callFunc 93 #[.slice (some ⟨g2, 0, none⟩) 1 1, .slice (some ⟨g, off + (i + 1) * 2, none⟩) lb cb]).run Tryz.prog w = .ok (.value (.bool false)) w := fun lb cb => by
    rw [run_callFunc_extern Tryz.func93 (by kernel_rfl) (by kernel_rfl) (by kernel_rfl) (e := Extern.SlicesOverlaps.overlaps #[110, 110] #[4]) (by kernel_rfl),
      Lib.run_overlaps_apart w 110 4 113 Tryz.underlying110 2 Tryz.sizeOf113 ⟨g2, 0, none⟩ ⟨g, off + (i + 1) * 2, none⟩ 1 1 lb cb hne2 113 113 2 cur.size (by simp [World.shape?, hv]) (by simp [World.shape?, hg]) (by omega) (frozen_of_row w g2 _ _ _ hv) (frozen_of_row w g2 _ _ _ hv)]
    rfl
  clear hR hv hl hg hcell hsz hne hy hy2 e0
  go_enter Tryz.func66, Tryz.ntmps66
  go_wp2_with (simp only [hov])
  go_region_law_o (refine step_copy_row rfl _ _ 110 110 rfl 113 2 Tryz.underlying110 hsz67 g off (l.length + 1) c ys HY.out ((i + 1) * 2) (l.length + 1 - (i + 1)) (c - (i + 1)) ⟨g, off + i * 2, none⟩ (l.length + 1 - i) (c - i) (by simp [Act.eval, Act.put]) (by simp [Act.eval, Act.put]) (flat (l.drop i)) HN1.out HS1.out HP1.out (flat_one _) ?_; intro w4 hR4 hG4)
  have HR4 := Aside0.mk hR4
  have HG4 := Aside0.mk (show Grew (fun k => k = g) w w4 from ⟨hG4.os, hG4.tape, hG4.output, hG4.size, hG4.block⟩)
  have HV4 := Aside0.mk (encE_at ((hG4.block g2 (Array.getElem?_eq_some_iff.1 HV.out).1 HN.out).trans HV.out))
  clear hR4 hG4
  go_wp2_with (with_reducible refine gate_copy ?_; refine wpList_copy_row rfl _ _ 110 110 rfl 113 2 Tryz.underlying110 hsz67 g off (l.length + 1) c _ HR4.out (i * 2) (l.length + 1 - i) (c - i) ⟨g2, 0, none⟩ 1 1 (by simp [Act.eval, Act.put]) (by simp [Act.eval, Act.put]) (encE x) HN2.out HV4.out HP2.out (encE_one x) ?_)
  intro w5 hR5 hG5
  have HR5 := Aside0.mk hR5
  have HG5 := Aside0.mk (HG4.out.trans hG5 (fun _ h => .inl h))
  clear hR5 hG5
  go_wp2
  go_ret
  refine ⟨_, c, rfl, ?_, HG5.out.mono (fun k _ hk => ⟨_, rfl, hk.symm⟩), fun k hk => .inl hk⟩
  rw [← ins_cells (Nat.le_of_lt HI.out) HYL.out HY2.out]
  exact HR5.out
theorem zeros_len (m : Nat) : (Builtin.zeroCells (Value.agg #[.int .i64 0, .int .i64 0]).cells m).size = m * 2 := by rw [size_zeroCells]; rfl
theorem grow_zeros (w : World) (A : Option Addr) (c : Nat) (l : List E) (i m : Nat) (hR : Row w 113 2 A l.length c (flat l)) (hi : i ≤ l.length) (hm : 0 < m) (hg : c < i + m) (h1 : i + m ≤ 1000001) (hc : c ≤ 1000000) :
    ∃ cap' w', (Builtin.append_ #[110, 3] 110 #[.slice A i c, .int .i64 (m : Nat)]).run Tryz.prog w = .ok (.slice (some ⟨w.heap.size, 0, none⟩) (i + m) cap') w' ∧ i + m ≤ cap' ∧
      Row w' 113 2 (some ⟨w.heap.size, 0, none⟩) (i + m) cap' (flat (l.take i) ++ (Builtin.zeroCells (Value.agg #[.int .i64 0, .int .i64 0]).cells m).toList) ∧ Below w.heap.size w w' := by
  have hinfo := info113
  cases hq : Tryz.prog.info? 113 with
  | none => rw [hq] at hinfo; cases hinfo
  | some ti =>
    rw [hq] at hinfo
    obtain ⟨hz, hs1, hb1⟩ : ti.zero = some (.agg #[.int .i64 0, .int .i64 0]) ∧ ti.size = 2 ∧ ti.bytes = 16 := by simpa using hinfo
    have hU := hR.upto i hi
    rw [← flat_take] at hU
    have hl2 : (flat (l.take i)).length = i * 2 := hU.1
    have hold : (Builtin.firstCells ti.size i (.slice A i c)).run Tryz.prog w.drew = .ok (flat (l.take i)).toArray w.drew := by
      cases A with
      | none =>
        obtain rfl : i = 0 := by
          rcases hR.2.2.2 with ⟨_, h⟩ | ⟨g, off, cur, h, _⟩
          · have := hR.2.1; omega
          · cases h
        simp [Builtin.firstCells, flat]
      | some a => exact run_firstCells_some (P := Tryz.prog) w.drew ti.size i a i c _ (by rw [hs1]; exact hl2) (fun j v hj => hU.cells rfl j v hj)
    have hr := Lib.run_append_grow_zeros (P := Tryz.prog) w 110 3 110 113 ti _ .i64 .i64 Tryz.underlying110 Tryz.underlying3 hq hz A i c (flat (l.take i)) hold m hm (by omega) hg (by omega) (by rw [hb1]; omega)
      (growslice_fits (by omega) (by rw [hb1]; omega))
    have hge := grownCap_ge w (i + m) c 113
    have hcm : grownCap w (i + m) c 113 ≤ maxLen := grownCap_le_maxLen w (i + m) c 113 (by unfold maxLen; omega)
    refine ⟨_, _, hr, hge, ⟨?_, hge, hcm, .inr ⟨w.heap.size, 0, _, rfl, heap_alloc_new w.drew _, ?_, ?_⟩⟩, below_alloc (below_drew1 (Below.refl w.heap.size w)) _⟩
    · rw [List.length_append, hl2, Array.length_toList, zeros_len]; omega
    · simp only [Array.size_append, List.size_toArray, hl2, zeros_len, Nat.zero_add]; omega
    · simp only [Array.toList_append, List.drop_zero]
      rw [List.take_append_of_le_length (by rw [List.length_append, hl2, Array.length_toList, zeros_len]; omega), List.take_of_length_le (by rw [List.length_append, hl2, Array.length_toList, zeros_len]; omega)]
theorem grow_cells {zs : List Value} {l : List E} {i : Nat} {x : E} (hi : i ≤ l.length) (hz : zs.length = (l.length + 1 - i) * 2) :
    Go.splice (Go.splice (flat (l.take i) ++ zs) (i * 2) (encE x)) ((i + 1) * 2) (flat (l.drop i)) = flat (insAt l i x) := by
  have e0 : (flat (l.drop i)).length = (l.length - i) * 2 := by rw [flat_len, List.length_drop]
  have e1 : (flat (l.take i)).length = i * 2 := by rw [flat_len, List.length_take]; omega
  have e2 : (encE x).length = 2 := rfl
  have e3 : Go.splice (flat (l.take i) ++ zs) (i * 2) (encE x) = flat (l.take i) ++ (encE x ++ zs.drop 2) := by
    unfold Go.splice
    rw [← e1, List.take_left, List.drop_append, e2]
    congr 2
    rw [List.drop_of_length_le (by omega), List.nil_append, Nat.add_sub_cancel_left]
  rw [e3]
  unfold Go.splice insAt
  rw [flat_append, e0, show (i + 1) * 2 + (l.length - i) * 2 = (l.length + 1) * 2 by omega]
  have e4 : (flat (l.take i) ++ (encE x ++ zs.drop 2)).take ((i + 1) * 2) = flat (l.take i) ++ encE x := by
    rw [← List.append_assoc, show (i + 1) * 2 = (flat (l.take i) ++ encE x).length by rw [List.length_append, e1, e2]; omega, List.take_left]
  have e5 : (flat (l.take i) ++ (encE x ++ zs.drop 2)).drop ((l.length + 1) * 2) = [] := by
    apply List.drop_of_length_le
    rw [List.length_append, List.length_append, e1, e2, List.length_drop, hz]
    omega
  rw [e4, e5, List.append_nil, List.append_assoc]
  rfl
set_option maxHeartbeats 8000000 in
set_option maxRecDepth 100000 in
theorem Insert_grow (A : Option Addr) (c : Nat) (l : List E) (i : Nat) (x : E) (g2 : Nat) (w : World) (hi : i < l.length) (hroom : c < l.length + 1) (hR : Row w 113 2 A l.length c (flat l)) (hv : w.heap[g2]? = some (.cells #[.int .i64 x.f0, .int .i64 x.f1] 113 (0, 0)))
    (hl : l.length ≤ 1000000) :
    Calls Tryz.prog 66 #[.slice A l.length c, .int .i64 i, .slice (some ⟨g2, 0, none⟩) 1 1] w (InsPost A l i x w) := by
  have hu := Tryz.underlying113
  have hcl : c = l.length := by have := hR.2.1; omega
  subst hcl
  obtain ⟨g, off, cur, rfl, hg, hsz, hcell⟩ := hR.at_ (by omega)
  obtain ⟨cap', w1, hrun, hcap, hR1, hB1⟩ := grow_zeros w _ _ l i (l.length + 1 - i) hR (by omega) (by omega) (by omega) (by omega) hl
  rw [show i + (l.length + 1 - i) = l.length + 1 by omega] at hrun hcap hR1
  have hzl : (Builtin.zeroCells (Value.agg #[.int .i64 0, .int .i64 0]).cells (l.length + 1 - i)).toList.length = (l.length + 1 - i) * 2 := by rw [Array.length_toList, zeros_len]
  generalize (Builtin.zeroCells (Value.agg #[.int .i64 0, .int .i64 0]).cells (l.length + 1 - i)).toList = zs at hR1 hzl
  have HZL := Aside0.mk hzl
  clear hzl
  have p1 : ¬ l.length = i := by omega
  have p2 : ¬ cap' = i := by omega
  have p2b : ¬ cap' = i + 1 := by omega
  have p3 : decide ((l.length : Int) + 1 > l.length) = true := decide_eq_true (by omega)
  have p4 : ((i : Int) == l.length) = false := beq_eq_false_iff_ne.2 (by omega)
  have p5 : (i : Int) ≤ l.length := by omega
  have wl : wrap64 ((l.length : Int) + 1) = l.length + 1 := by unfold wrap64; omega
  have w3 : wrap64 ((l.length : Int) + 1 - i) = ((l.length + 1 - i : Nat) : Int) := by unfold wrap64; omega
  have hw1 : IntKind.i64.wrap ((i : Int) + 1) = i + 1 := by rw [IntKind.wrap_i64]; omega
  have hb1 : 0 ≤ (i : Int) + 1 := by omega
  have hb3 : (i : Int) + 1 ≤ l.length + 1 := by omega
  have hb5 : (i : Int) ≤ l.length + 1 := by omega
  have htn : ((i : Int) + 1).toNat = i + 1 := by omega
  have mixed : Tryz.prog.follows Departure.mixedOrders = true := by kernel_rfl
  have hsz67 : (Tryz.prog.info? 113).map (·.size) = some 2 := by have := info113; cases hq : Tryz.prog.info? 113 <;> simp_all
  have HRUN := Aside0.mk hrun
  have HR1 := Aside0.mk hR1
  have HB1 := Aside0.mk hB1
  have HR := Aside0.mk hR
  have HI := Aside0.mk hi
  have HG2 := Aside0.mk (show g2 < w.heap.size from (Array.getElem?_eq_some_iff.1 hv).1)
  have HV1 := Aside0.mk (encE_at ((hB1.block g2 HG2.out).trans hv))
  have HN2 := Aside0.mk (show (encE x).length = Nat.min 1 (l.length + 1 - i) * 2 from by show 2 = min _ _ * 2; omega)
  have hl1 := hR1.1
  have HP2 := Aside0.mk (show i * 2 + (encE x).length ≤ (flat (l.take i) ++ zs).length from by rw [hl1, show (encE x).length = 2 from rfl]; omega)
  have e0 : (flat (l.drop i)).length = (l.length - i) * 2 := by rw [flat_len, List.length_drop]
  have HN1 := Aside0.mk (show (flat (l.drop i)).length = Nat.min (l.length - i) (l.length + 1 - (i + 1)) * 2 from by rw [e0]; congr 1; show _ = min _ _; omega)
  have HP1 := Aside0.mk (show (i + 1) * 2 + (flat (l.drop i)).length ≤ (Go.splice (flat (l.take i) ++ zs) (i * 2) (encE x)).length from by
    rw [Go.length_splice _ _ _ HP2.out, hl1, e0]; omega)
  have HC := Aside0.mk hcell
  have HGL := Aside0.mk (show g < w.heap.size from (Array.getElem?_eq_some_iff.1 hg).1)
  clear hR hv hl hg hcell hsz hrun hR1 hB1 hl1 e0
  go_enter Tryz.func66, Tryz.ntmps66
  go_wp2_with (first | (at_builtin; refine Lib.wpList_append_run _ rfl _ _ _ _ rfl _ _ rfl (by simp [Act.eval, Act.put, *]) _ _ HRUN.out ?_) | (with_reducible refine gate_copy ?_; refine wpList_copy_row rfl _ _ 110 110 rfl 113 2 Tryz.underlying110 hsz67 w.heap.size 0 (l.length + 1) cap' _ HR1.out (i * 2) (l.length + 1 - i) (cap' - i) ⟨g2, 0, none⟩ 1 1 (by simp [Act.eval, Act.put]) (by simp [Act.eval, Act.put]) (encE x) HN2.out HV1.out HP2.out (encE_one x) ?_))
  intro w4 hR4 hG4
  have HR4 := Aside0.mk (show Row w4.drew 113 2 (some ⟨w.heap.size, 0, none⟩) (l.length + 1) cap' _ from hR4)
  have HG4 := Aside0.mk hG4
  have HS1 := Aside0.mk (show ∀ j v, (flat (l.drop i))[j]? = some v → w4.drew.cell? ((⟨g, off + i * 2, none⟩ : Addr).add j) = some v from fun j v hj => by
    rw [flat_drop, List.getElem?_drop] at hj
    rw [Addr.add_lit, Nat.add_assoc]
    exact hG4.cell (cell_be (HC.out _ _ hj).1 HB1.out) (fun e => by have := HGL.out; have e2 : g = w.heap.size := e; omega))
  clear hR4 hG4
  go_wp2_with fail
  go_region_law_o (refine step_copy_row rfl _ _ 110 110 rfl 113 2 Tryz.underlying110 hsz67 w.heap.size 0 (l.length + 1) cap' _ HR4.out ((i + 1) * 2) (l.length + 1 - (i + 1)) (cap' - (i + 1)) ⟨g, off + i * 2, none⟩ (l.length - i) (l.length - i) (by simp [Act.eval, Act.put]) (by simp [Act.eval, Act.put]) (flat (l.drop i)) HN1.out HS1.out HP1.out (flat_one _) ?_; intro w5 hR5 hG5)
  have HR5 := Aside0.mk hR5
  have HG5 := Aside0.mk (show Grew (fun k => k = w.heap.size) w4 w5 from ⟨hG5.os, hG5.tape, hG5.output, hG5.size, hG5.block⟩)
  clear hR5 hG5
  go_wp2
  go_ret
  refine ⟨_, cap', rfl, ?_, ?_, fun k ⟨a, h, e⟩ => by cases h; exact .inr (Nat.le_of_eq e)⟩
  · rw [← grow_cells (Nat.le_of_lt HI.out) HZL.out]
    exact HR5.out
  · exact ((Grew.of_below HB1.out).trans HG4.out (fun k h => .inr (by show w.heap.size ≤ k; have h2 : k = w.heap.size := h; omega))).trans HG5.out (fun k h => .inr (by show w.heap.size ≤ k; have h2 : k = w.heap.size := h; omega))
set_option maxHeartbeats 8000000 in
theorem Insert_ (A : Option Addr) (c : Nat) (l : List E) (i : Nat) (x : E) (g2 : Nat) (w : World) (hi : i ≤ l.length) (hR : Row w 113 2 A l.length c (flat l)) (hv : w.heap[g2]? = some (.cells #[.int .i64 x.f0, .int .i64 x.f1] 113 (0, 0)))
    (hne : ¬ blk A g2) (hl : l.length ≤ 1000000) :
    Calls Tryz.prog 66 #[.slice A l.length c, .int .i64 i, .slice (some ⟨g2, 0, none⟩) 1 1] w (InsPost A l i x w) := by
  rcases Nat.lt_or_ge i l.length with h | h
  · rcases Nat.lt_or_ge c (l.length + 1) with h2 | h2
    · exact Insert_grow A c l i x g2 w h h2 hR hv hl
    · exact Insert_room A c l i x g2 w h h2 hR hv hne hl
  · obtain rfl : i = l.length := by omega
    exact Insert_end A c l x g2 w hR hv hl
end Go.Proofs.YtaaekmcmpjljgaaGreat.Ln
