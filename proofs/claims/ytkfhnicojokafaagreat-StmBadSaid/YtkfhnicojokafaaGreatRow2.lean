/- Copies between rows, as operations of a walk. -/
import Derived.Test.YtkfhnicojokafaaGreatRow
import Derived.Deep.RegionLaw
import Derived.Lib.AppendZerosOnto
import Derived.Lib.Overlaps
namespace Go.Proofs.YtkfhnicojokafaaGreat.Ln
open Go.RowKit Go.Proofs.YtkfhnicojokafaaGreatW.PrintWords Go.Proofs.YtkfhnicojokafaaGreatW.PrintLast Go.Proofs.YtkfhnicojokafaaGreatW.PrintMore
set_option linter.unusedVariables false
theorem run_copy_k {P : Program} (w : World) (dT sT ty elem : TypeId) (size : Nat) (g o dLen dCap : Nat) (a : Addr) (sLen sCap : Nat) (cur : Array Value) (t : TypeId) (cs : List Value)
    (hu : P.underlying dT = some (.slice elem)) (hs : (P.info? elem).map (·.size) = some size)
    (hg : w.heap[g]? = some (.cells cur t (0, 0))) (hn : cs.length = Nat.min sLen dLen * size)
    (hsrc : ∀ j v, cs[j]? = some v → w.cell? (a.add j) = some v) (hfit : o + cs.length ≤ cur.size) (h1 : ∀ v ∈ cs, v.oneCell' = true) :
    (Builtin.copy_ #[dT, sT] ty #[.slice (some ⟨g, o, none⟩) dLen dCap, .slice (some a) sLen sCap]).run P w =
      .ok (goInt (Nat.min sLen dLen)) (w.setRow g (cur.toList.take o ++ cs ++ cur.toList.drop (o + cs.length)).toArray) := by
  have hl := run_loadCells_list (P := P) w a cs hsrc
  have hst := run_storeCells_at P g o t cs 0 cur w hg (by simpa using hfit) h1
  cases hq : P.info? elem with
  | none => simp [hq] at hs
  | some i =>
    have hi : i.size = size := by simpa [hq] using hs
    simp [Builtin.copy_, run_underlying hu, Builtin.lenOf, Builtin.firstCells, sizeOf, typeInfo, hq, hi, ← hn, hl, hst]
theorem wpList_copy_k {P : Program} {w : World} {ops : Array Oper} {rest : List Oper} {o : Oper} {a : Act} {Q : Exit → Act → World → Prop} (hgd : o.guard = none) (d s : Operand) (dT sT : TypeId)
    (ho : o.op = .call { callee := .builtin .copy, args := #[d, s], argTypes := #[dT, sT] }) (elem : TypeId) (size : Nat) (hu : P.underlying dT = some (.slice elem)) (hsz : (P.info? elem).map (·.size) = some size)
    (g off dLen dCap : Nat) (ad : Addr) (sLen sCap : Nat) (hd : a.eval d = .slice (some ⟨g, off, none⟩) dLen dCap) (hs : a.eval s = .slice (some ad) sLen sCap)
    (cur : Array Value) (t : TypeId) (hg : w.heap[g]? = some (.cells cur t (0, 0))) (cs : List Value) (hn : cs.length = Nat.min sLen dLen * size)
    (hsrc : ∀ j v, cs[j]? = some v → w.cell? (ad.add j) = some v) (hfit : off + cs.length ≤ cur.size) (h1 : ∀ v ∈ cs, v.oneCell' = true)
    (h : wpList P ops Q rest (a.put o.dst (goInt (Nat.min sLen dLen))) (w.setRow g (cur.toList.take off ++ cs ++ cur.toList.drop (off + cs.length)).toArray)) : wpList P ops Q (o :: rest) a w := by
  refine wpList_plain hgd fun K hK => ?_
  have hrun := run_copy_k (P := P) w dT sT o.type elem size g off dLen dCap ad sLen sCap cur t cs hu hsz hg hn hsrc hfit h1
  unfold Oper.wp
  simp [execOp, ho, resolve, invoke, builtin, hd, hs, hrun, Result.andThen]
  rw [List.append_assoc] at h
  exact hK _ _ h
theorem step_copy_k {P : Program} {ops : Array Oper} {o : Oper} {a : Act} {w : World} {K : Act → World → Prop} {Q : Exit → Act → World → Prop} {E : Prop} (hgd : o.guard = none) (d s : Operand) (dT sT : TypeId)
    (ho : o.op = .call { callee := .builtin .copy, args := #[d, s], argTypes := #[dT, sT] }) (elem : TypeId) (size : Nat) (hu : P.underlying dT = some (.slice elem)) (hsz : (P.info? elem).map (·.size) = some size)
    (g off dLen dCap : Nat) (ad : Addr) (sLen sCap : Nat) (hd : a.eval d = .slice (some ⟨g, off, none⟩) dLen dCap) (hs : a.eval s = .slice (some ad) sLen sCap)
    (cur : Array Value) (t : TypeId) (hg : w.heap[g]? = some (.cells cur t (0, 0))) (cs : List Value) (hn : cs.length = Nat.min sLen dLen * size)
    (hsrc : ∀ j v, cs[j]? = some v → w.cell? (ad.add j) = some v) (hfit : off + cs.length ≤ cur.size) (h1 : ∀ v ∈ cs, v.oneCell' = true)
    (h : K (a.put o.dst (goInt (Nat.min sLen dLen))) (w.setRow g (cur.toList.take off ++ cs ++ cur.toList.drop (off + cs.length)).toArray)) :
    if Region.wanted o (yielded ops a.tmps) = true then Oper.wp P o a w K Q else E := by
  have hw : Region.wanted o (yielded ops a.tmps) = true := by simp [Region.wanted, hgd]
  rw [if_pos hw]
  have hrun := run_copy_k (P := P) w dT sT o.type elem size g off dLen dCap ad sLen sCap cur t cs hu hsz hg hn hsrc hfit h1
  unfold Oper.wp
  simp [execOp, ho, resolve, invoke, builtin, hd, hs, hrun, Result.andThen]
  rw [List.append_assoc] at h
  exact h
/-- What a copy leaves of a row. -/
theorem Row.splice {w : World} {e sz n cap g off : Nat} {cur : Array Value} {xs : List Value} (h : Row w e sz (some ⟨g, off, none⟩) n cap xs) (hg : w.heap[g]? = some (.cells cur e (0, 0))) (p : Nat) (cs : List Value) (hp : p + cs.length ≤ xs.length) :
    Row (w.setRow g (cur.toList.take (off + p) ++ cs ++ cur.toList.drop (off + p + cs.length)).toArray) e sz (some ⟨g, off, none⟩) n cap (Go.splice xs p cs) := by
  have h1 := h.1
  have hm := Nat.mul_le_mul_right sz h.2.1
  rcases h.2.2.2 with ⟨h2, _⟩ | ⟨g', off', cur', h2, hg', h3, h4⟩
  · cases h2
  · cases h2
    rw [hg'] at hg
    cases hg
    refine ⟨by rw [Go.length_splice _ _ _ hp]; exact h1, h.2.1, h.2.2.1, .inr ⟨g, off, _, rfl, setRow_heap w g cur _ e _ hg', ?_, ?_⟩⟩
    · simp only [List.size_toArray, List.length_append, List.length_take, List.length_drop, Array.length_toList]
      omega
    · show List.take _ (List.drop off (_ ++ _)) = _
      have e1 : (cur.toList.take (off + p)).drop off = xs.take p := by
        rw [List.drop_take, Nat.add_sub_cancel_left, ← h4, List.take_take]
        congr 1
        omega
      have e2 : (cur.toList.drop (off + p + cs.length)).take (n * sz - p - cs.length) = xs.drop (p + cs.length) := by
        rw [← h4, List.drop_take, List.drop_drop, Nat.add_assoc, Nat.sub_sub]
      rw [List.append_assoc, List.drop_append_of_le_length (by simp; omega), e1, List.take_append, List.take_append, List.length_take]
      have e3 : (xs.take p).take (n * sz) = xs.take p := by rw [List.take_take]; congr 1; omega
      have e4 : min p xs.length = p := by omega
      have e5 : cs.take (n * sz - p) = cs := List.take_of_length_le (by omega)
      rw [e3, e4, e5, e2]
      rfl
theorem Row.splice' {w : World} {e sz n cap g off : Nat} {xs : List Value} (h : Row w e sz (some ⟨g, off, none⟩) n cap xs) (p : Nat) (cs : List Value) (hp : p + cs.length ≤ xs.length) :
    ∃ cur, w.heap[g]? = some (.cells cur e (0, 0)) ∧ off + p + cs.length ≤ cur.size ∧ Row (w.setRow g (cur.toList.take (off + p) ++ cs ++ cur.toList.drop (off + p + cs.length)).toArray) e sz (some ⟨g, off, none⟩) n cap (Go.splice xs p cs) := by
  have h1 := h.1
  have hm := Nat.mul_le_mul_right sz h.2.1
  rcases h.2.2.2 with ⟨h2, _⟩ | ⟨g', off', cur, h2, hg, h3, h4⟩
  · cases h2
  · cases h2
    exact ⟨cur, hg, by omega, h.splice hg p cs hp⟩
theorem wpList_copy_row {P : Program} {w : World} {ops : Array Oper} {rest : List Oper} {o : Oper} {a : Act} {Q : Exit → Act → World → Prop} (hgd : o.guard = none) (d s : Operand) (dT sT : TypeId)
    (ho : o.op = .call { callee := .builtin .copy, args := #[d, s], argTypes := #[dT, sT] }) (elem : TypeId) (size : Nat) (hu : P.underlying dT = some (.slice elem)) (hsz : (P.info? elem).map (·.size) = some size)
    (g off n cap : Nat) (xs : List Value) (hR : Row w elem size (some ⟨g, off, none⟩) n cap xs) (p dLen dCap : Nat) (ad : Addr) (sLen sCap : Nat) (hd : a.eval d = .slice (some ⟨g, off + p, none⟩) dLen dCap) (hs : a.eval s = .slice (some ad) sLen sCap)
    (cs : List Value) (hn : cs.length = Nat.min sLen dLen * size)
    (hsrc : ∀ j v, cs[j]? = some v → w.cell? (ad.add j) = some v) (hp : p + cs.length ≤ xs.length) (h1 : ∀ v ∈ cs, v.oneCell' = true)
    (h : ∀ w', Row w' elem size (some ⟨g, off, none⟩) n cap (Go.splice xs p cs) → Grew (fun k => k = g) w w' → wpList P ops Q rest (a.put o.dst (goInt (Nat.min sLen dLen))) w') : wpList P ops Q (o :: rest) a w := by
  obtain ⟨cur, hg, hf, hR'⟩ := hR.splice' p cs hp
  exact wpList_copy_k hgd d s dT sT ho elem size hu hsz g (off + p) dLen dCap ad sLen sCap hd hs cur elem hg cs hn hsrc hf h1 (h _ hR' ((Grew.refl (fun k => k = g) w).setRow (.inl rfl) _))
theorem step_copy_row {P : Program} {ops : Array Oper} {o : Oper} {a : Act} {w : World} {K : Act → World → Prop} {Q : Exit → Act → World → Prop} {E : Prop} (hgd : o.guard = none) (d s : Operand) (dT sT : TypeId)
    (ho : o.op = .call { callee := .builtin .copy, args := #[d, s], argTypes := #[dT, sT] }) (elem : TypeId) (size : Nat) (hu : P.underlying dT = some (.slice elem)) (hsz : (P.info? elem).map (·.size) = some size)
    (g off n cap : Nat) (xs : List Value) (hR : Row w elem size (some ⟨g, off, none⟩) n cap xs) (p dLen dCap : Nat) (ad : Addr) (sLen sCap : Nat) (hd : a.eval d = .slice (some ⟨g, off + p, none⟩) dLen dCap) (hs : a.eval s = .slice (some ad) sLen sCap)
    (cs : List Value) (hn : cs.length = Nat.min sLen dLen * size)
    (hsrc : ∀ j v, cs[j]? = some v → w.cell? (ad.add j) = some v) (hp : p + cs.length ≤ xs.length) (h1 : ∀ v ∈ cs, v.oneCell' = true)
    (h : ∀ w', Row w' elem size (some ⟨g, off, none⟩) n cap (Go.splice xs p cs) → Grew (fun k => k = g) w w' → K (a.put o.dst (goInt (Nat.min sLen dLen))) w') :
    if Region.wanted o (yielded ops a.tmps) = true then Oper.wp P o a w K Q else E := by
  obtain ⟨cur, hg, hf, hR'⟩ := hR.splice' p cs hp
  exact step_copy_k hgd d s dT sT ho elem size hu hsz g (off + p) dLen dCap ad sLen sCap hd hs cur elem hg cs hn hsrc hf h1 (h _ hR' ((Grew.refl (fun k => k = g) w).setRow (.inl rfl) _))
/-- For a walk: only at a copy, at a clear. -/
theorem gate_copy {P : Program} {w : World} {ops : Array Oper} {rest : List Oper} {a : Act} {Q : Exit → Act → World → Prop} {dst : Option Nat} {d s : Operand} {t t2 ty : TypeId} {pos : String} {after : Array Edge} {g : Option (Nat × Bool)}
    (h : wpList P ops Q (⟨dst, .call { callee := .builtin .copy, args := #[d, s], argTypes := #[t, t2] }, ty, pos, after, g⟩ :: rest) a w) : wpList P ops Q (⟨dst, .call { callee := .builtin .copy, args := #[d, s], argTypes := #[t, t2] }, ty, pos, after, g⟩ :: rest) a w := h
theorem gate_clear {P : Program} {w : World} {ops : Array Oper} {rest : List Oper} {a : Act} {Q : Exit → Act → World → Prop} {dst : Option Nat} {d : Operand} {t ty : TypeId} {pos : String} {after : Array Edge} {g : Option (Nat × Bool)}
    (h : wpList P ops Q (⟨dst, .call { callee := .builtin .clear, args := #[d], argTypes := #[t] }, ty, pos, after, g⟩ :: rest) a w) : wpList P ops Q (⟨dst, .call { callee := .builtin .clear, args := #[d], argTypes := #[t] }, ty, pos, after, g⟩ :: rest) a w := h
end Go.Proofs.YtkfhnicojokafaaGreat.Ln
