import Derived.Test.YtfpnadalfopmcaaLr3
import Derived.Deep.RegionLaw
/- put: parts of a row; an append of one row to another as a step of a region that draws its order. -/
namespace Go.Proofs.Ytfpnadalfopmcaa.Ln
open Go.RowKit Go.Proofs.YtfpnadalfopmcaaW.PrintWords Go.Proofs.YtfpnadalfopmcaaW.PrintWords.Kd Go.Proofs.YtfpnadalfopmcaaW.PrintLast Go.Proofs.YtfpnadalfopmcaaW.PrintMore Go.Proofs.Ytfpnadalfopmcaa.PMd
set_option linter.unusedVariables false
set_option linter.unusedSimpArgs false
theorem Row.front {w : World} {e sz n cap : Nat} {A : Option Addr} {xs : List Value} (h : Row w e sz A n cap xs) (k : Nat) (hk : k ≤ n) : Row w e sz A k cap (xs.take (k * sz)) := by
  obtain ⟨h1, h2, h3, h4⟩ := h
  have hm := Nat.mul_le_mul_right sz hk
  refine ⟨by rw [List.length_take, h1]; omega, by omega, h3, h4.imp id ?_⟩
  rintro ⟨g, off, cur, rfl, hg, hc, ht⟩
  exact ⟨g, off, cur, rfl, hg, hc, by rw [← ht, List.take_take, Nat.min_eq_left hm]⟩
theorem Row.back {w : World} {e sz n cap : Nat} {g off : Nat} {xs : List Value} (h : Row w e sz (some ⟨g, off, none⟩) n cap xs) (k : Nat) (hk : k ≤ n) : Row w e sz (some ⟨g, off + k * sz, none⟩) (n - k) (cap - k) (xs.drop (k * sz)) := by
  obtain ⟨h1, h2, h3, h4⟩ := h
  refine ⟨by rw [List.length_drop, h1, Nat.sub_mul], by omega, by omega, .inr ?_⟩
  rcases h4 with ⟨h4, _⟩ | ⟨g', off', cur, h4, hg, hc, ht⟩
  · cases h4
  · cases h4
    have hm := Nat.mul_le_mul_right sz (show k ≤ cap by omega)
    refine ⟨g, off + k * sz, cur, rfl, hg, by rw [Nat.sub_mul]; omega, ?_⟩
    rw [← ht, List.drop_take, List.drop_drop, Nat.sub_mul]
theorem run_append_none {P : Program} (w : World) (t ty e : TypeId) (i : TypeInfo) (z : Value) (ht : P.underlying t = some (.slice e)) (hi : P.info? e = some i) (hz : i.zero = some z)
    (A : Option Addr) (n cap c : Nat) (xs : List Value) (hR : Row w e i.size A n cap xs) :
    (Builtin.append_ #[t, t] ty #[.slice A n cap, .slice none 0 c]).run P w = .ok (.slice A n cap) w := by
  have hn : n ≤ cap := hR.2.1
  rcases hR.2.2.2 with ⟨rfl, rfl⟩ | ⟨g, off, cur, rfl, hg, hcs, htake⟩
  · obtain rfl : n = 0 := by omega
    simp [Builtin.append_, run_underlying ht, sizeOf, typeInfo, hi, Builtin.lenOf, Builtin.firstCells]
  · simp [Builtin.append_, run_underlying ht, sizeOf, typeInfo, hi, Builtin.lenOf, Builtin.firstCells, hn, storeCells]
/-- An append of one row to another. -/
theorem run_append_rows {P : Program} (w : World) (t ty e : TypeId) (z : Value) (size bytes : Nat) (ht : P.underlying t = some (.slice e)) (hinfo : (P.info? e).map (fun i => (i.zero, i.size, i.bytes)) = some (some z, size, bytes))
    (hzs : z.cells.size = size) (A : Option Addr) (n cap : Nat) (xs : List Value) (hR : Row w e size A n cap xs)
    (B : Option Addr) (m c : Nat) (news : List Value) (hN : Row w e size B m c news) (h1 : ∀ u ∈ news, u.oneCell' = true) (h63 : n + m ≤ maxLen) (hbytes : (n + m) * bytes ≤ 140737488355328) :
    ∃ A' cap' w', (Builtin.append_ #[t, t] ty #[.slice A n cap, .slice B m c]).run P w = .ok (.slice A' (n + m) cap') w' ∧ Row w' e size A' (n + m) cap' (xs ++ news) ∧ Grew (blk A) w w' ∧ (∀ k, blk A' k → blk A k ∨ w.heap.size ≤ k) := by
  cases hi : P.info? e with
  | none => rw [hi] at hinfo; cases hinfo
  | some i =>
    rw [hi] at hinfo
    obtain ⟨hz, hs1, hb1⟩ : i.zero = some z ∧ i.size = size ∧ i.bytes = bytes := by simpa using hinfo
    rcases hN.2.2.2 with ⟨rfl, rfl⟩ | ⟨g, off, cur, rfl, hg, hcs, htake⟩
    · obtain rfl : m = 0 := by have := hN.2.1; omega
      obtain rfl : news = [] := List.eq_nil_of_length_eq_zero (by simpa using hN.1)
      refine ⟨A, cap, w, ?_, by simpa using hR, Grew.refl _ _, fun k hk => .inl hk⟩
      subst hs1
      exact run_append_none w t ty e i z ht hi hz A n cap 0 xs hR
    · refine run_append_row (P := P) w t ty e i z size bytes ht hi hz hs1 hb1 hzs A n cap xs hR ⟨g, off, none⟩ m c news hN.1 (fun j u hu => ?_) h1 h63 hbytes
      by_cases hm : 0 < m
      · obtain ⟨g', off', cur', h2, _, _, h3⟩ := hN.at_ hm
        cases h2
        rw [Addr.add_lit]
        exact (h3 j u hu).1
      · have h0 : news = [] := List.eq_nil_of_length_eq_zero (by rw [hN.1, show m = 0 by omega, Nat.zero_mul])
        subst h0
        simp at hu
/-- .. as a step of a region that draws its order. -/
theorem step_append_rows {P : Program} {ops : Array Oper} {o : Oper} {a : Act} {w : World} {K : Act → World → Prop} {Q : Exit → Act → World → Prop} {E : Prop} (hgd : o.guard = none) (s x : Operand) (t : TypeId)
    (ho : o.op = .call { callee := .builtin .append, args := #[s, x], argTypes := #[t, t] })
    (e : TypeId) (z : Value) (size bytes : Nat) (ht : P.underlying t = some (.slice e)) (hinfo : (P.info? e).map (fun i => (i.zero, i.size, i.bytes)) = some (some z, size, bytes))
    (hzs : z.cells.size = size) (A : Option Addr) (n cap : Nat) (xs : List Value) (hs : a.eval s = .slice A n cap) (hR : Row w e size A n cap xs)
    (B : Option Addr) (m c : Nat) (news : List Value) (hx : a.eval x = .slice B m c) (hN : Row w e size B m c news) (h1 : ∀ u ∈ news, u.oneCell' = true)
    (h63 : n + m ≤ maxLen) (hbytes : (n + m) * bytes ≤ 140737488355328)
    (h : ∀ A' cap' w', Row w' e size A' (n + m) cap' (xs ++ news) → Grew (blk A) w w' → (∀ k, blk A' k → blk A k ∨ w.heap.size ≤ k) → K (a.put o.dst (.slice A' (n + m) cap')) w') :
    if Region.wanted o (yielded ops a.tmps) = true then Oper.wp P o a w K Q else E := by
  have hw : Region.wanted o (yielded ops a.tmps) = true := by simp [Region.wanted, hgd]
  rw [if_pos hw]
  obtain ⟨A', cap', w', hr, h2, h3, h4⟩ := run_append_rows (P := P) w t o.type e z size bytes ht hinfo hzs A n cap xs hR B m c news hN h1 h63 hbytes
  unfold Oper.wp execOp
  simp only [ho, resolve, invoke, builtin, Sem.run_bind, Sem.run_pure, Result.andThen_ok, List.map_toArray, List.map_cons, List.map_nil, hs, hx, hr]
  exact h _ _ _ h2 h3 h4
/-- .. as an operation of a walk. -/
theorem wpList_append_rows {P : Program} {w : World} {ops : Array Oper} {rest : List Oper} {o : Oper} {a : Act} {Q : Exit → Act → World → Prop} (hgd : o.guard = none) (s x : Operand) (t : TypeId)
    (ho : o.op = .call { callee := .builtin .append, args := #[s, x], argTypes := #[t, t] })
    (e : TypeId) (z : Value) (size bytes : Nat) (ht : P.underlying t = some (.slice e)) (hinfo : (P.info? e).map (fun i => (i.zero, i.size, i.bytes)) = some (some z, size, bytes))
    (hzs : z.cells.size = size) (A : Option Addr) (n cap : Nat) (xs : List Value) (hs : a.eval s = .slice A n cap) (hR : Row w e size A n cap xs)
    (B : Option Addr) (m c : Nat) (news : List Value) (hx : a.eval x = .slice B m c) (hN : Row w e size B m c news) (h1 : ∀ u ∈ news, u.oneCell' = true)
    (h63 : n + m ≤ maxLen) (hbytes : (n + m) * bytes ≤ 140737488355328)
    (h : ∀ A' cap' w', Row w' e size A' (n + m) cap' (xs ++ news) → Grew (blk A) w w' → (∀ k, blk A' k → blk A k ∨ w.heap.size ≤ k) → wpList P ops Q rest (a.put o.dst (.slice A' (n + m) cap')) w') : wpList P ops Q (o :: rest) a w := by
  refine wpList_plain hgd fun K hK => ?_
  obtain ⟨A', cap', w', hr, h2, h3, h4⟩ := run_append_rows (P := P) w t o.type e z size bytes ht hinfo hzs A n cap xs hR B m c news hN h1 h63 hbytes
  unfold Oper.wp execOp
  simp only [ho, resolve, invoke, builtin, Sem.run_bind, Sem.run_pure, Result.andThen_ok, List.map_toArray, List.map_cons, List.map_nil, hs, hx, hr]
  exact hK _ _ (h A' cap' w' h2 h3 h4)
end Go.Proofs.Ytfpnadalfopmcaa.Ln
