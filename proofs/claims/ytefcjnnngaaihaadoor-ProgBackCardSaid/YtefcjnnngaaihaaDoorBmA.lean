/- append(append([]T{}, p...), q...): what is appended is read as it was when the call began. -/
import Derived.Test.YtefcjnnngaaihaaDoorWNEv
namespace Go.Proofs.YtefcjnnngaaihaaDoor.Bo
open Go.RowKit Go.Proofs.YtefcjnnngaaihaaDoorW.PrintWords
open Go.Proofs.YtefcjnnngaaihaaDoorW.PrintWords.Kd
set_option linter.unusedVariables false
/-- A row made behind w0 that shows what was read in w0. -/
def AppV {α : Type} (d : Kd α) (e : Nat) (w0 W : World) (v : Value) (xs : List α) : Prop :=
  Below w0.heap.size w0 W ∧ ∃ rows : List (List Value), rows.length = xs.length ∧ (raw d.sz).R e W w0.heap.size (fun _ => True) v rows ∧ ∀ (j : Nat) (y : α) (c : List Value), xs[j]? = some y → rows[j]? = some c → d.K w0 y c
theorem AppV.below {α : Type} {d : Kd α} {e : Nat} {w0 W W1 : World} {v : Value} {xs : List α} (h : AppV d e w0 W v xs) (hb : Below W.heap.size W W1) : AppV d e w0 W1 v xs := by
  obtain ⟨h0, rows, hl, hR, hf⟩ := h
  exact ⟨below_then h0 h0.size hb, rows, hl, R_below hR hb, hf⟩
theorem AppV.none_ {α : Type} (d : Kd α) (e : Nat) {w0 W : World} (hb : Below w0.heap.size w0 W) : AppV d e w0 (W.alloc (.cells #[] e)) (.slice (some ⟨W.heap.size, 0, none⟩) 0 0) [] := by
  refine ⟨below_alloc hb _, [], rfl, ⟨fun _ _ => trivial, [], ⟨by simp, .inr ⟨W.heap.size, 0, #[], rfl, hb.size, heap_alloc_new W _, Nat.le_refl _, Nat.zero_le _, by simp, by simp⟩⟩, ⟨by simp, fun j p hj => by simp at hj⟩⟩, fun j y c hy _ => by simp at hy⟩
theorem AppV.C {α : Type} {d : Kd α} {e : Nat} {w0 W : World} {v : Value} {xs : List α} (h : AppV d e w0 W v xs) : ∃ A c, v = .slice A xs.length c ∧ xs.length ≤ c ∧ d.C W A xs.length xs := by
  obtain ⟨h0, rows, hl, hR, hf⟩ := h
  obtain ⟨A, c, rfl⟩ := R_slice hR
  obtain ⟨hn, hc, hC⟩ := R_reads' hR
  rw [hl] at hC hc ⊢
  refine ⟨A, c, rfl, hc, rfl, hC.2.1, fun hp => ?_⟩
  obtain ⟨ad, he, hcell⟩ := hC.2.2 hp
  refine ⟨ad, he, fun j p hj => ?_⟩
  have hjl : j < rows.length := by have := (List.getElem?_eq_some_iff.1 hj).1; omega
  obtain ⟨c', hcl, hK, hcc⟩ := hcell j _ (List.getElem?_eq_getElem hjl)
  refine ⟨c', hcl, ?_, hcc⟩
  rw [show c' = rows[j] from hK.1]
  exact d.K_below h0 (hf j p _ hj (List.getElem?_eq_getElem hjl))
section
variable {α : Type} {P : Program} {ops : Array Oper} {rest : List Oper} {o : Oper} {a : Act} {Q : Exit → Act → World → Prop} {Kc : Act → World → Prop}
theorem appended {d : Kd α} {e : Nat} {w0 W : World} {v : Value} {xs ys : List α} {A : Option Addr} {m : Nat} (h : AppV d e w0 W v xs) (hy : d.C w0 A m ys) :
    ∃ news : List (List Value), news.length = ys.length ∧ ReadsRow (fun x cs => cs = x ∧ cs.length = d.sz ∧ ∀ u ∈ cs, u.oneCell' = true) d.sz W A m news ∧
      ∀ rows v1 w1, rows.length = xs.length → (∀ (j : Nat) (y : α) (c : List Value), xs[j]? = some y → rows[j]? = some c → d.K w0 y c) → (raw d.sz).R e w1 w0.heap.size (fun _ => True) v1 (rows ++ news) → Below w0.heap.size w0 w1 → AppV d e w0 w1 v1 (xs ++ ys) := by
  obtain ⟨news, hnl, hnr, hnf⟩ := reads_raw hy (fun y c hk => ⟨d.K_len hk, d.K_one hk⟩)
  refine ⟨news, hnl, ?_, fun rows v1 w1 hl hf hR hb => ⟨hb, rows ++ news, by rw [List.length_append, List.length_append, hl, hnl], hR, fun j y c hj hc => ?_⟩⟩
  · exact C_below (d := raw d.sz) hnr h.1
  · by_cases hlt : j < xs.length
    · rw [List.getElem?_append_left hlt] at hj
      rw [List.getElem?_append_left (by omega)] at hc
      exact hf j y c hj hc
    · rw [List.getElem?_append_right (by omega)] at hj
      rw [List.getElem?_append_right (by omega), hl] at hc
      exact hnf _ y c hj hc
theorem wpList_app (d : Kd α) {w0 W : World} (hgd : o.guard = none) (s x : Operand) (t e : TypeId) (z : Value) (bytes : Nat)
    (ho : o.op = .call { callee := .builtin .append, args := #[s, x], argTypes := #[t, t] })
    (ht : P.underlying t = some (.slice e)) (hinfo : (P.info? e).map (fun i => (i.zero, i.size, i.bytes)) = some (some z, d.sz, bytes)) (hz : z.cells.size = d.sz) (hs0 : 0 < d.sz) (hb0 : 0 < bytes)
    (v : Value) (xs ys : List α) (A : Option Addr) (m c : Nat) (hs : a.eval s = v) (hx : a.eval x = .slice A m c)
    (HO : AppV d e w0 W v xs) (HR : d.C w0 A m ys) (hl : (xs.length + m) * bytes ≤ 140737488355328)
    (h : ∀ v1 w1, AppV d e w0 w1 v1 (xs ++ ys) → wpList P ops Q rest (a.put o.dst v1) w1) :
    wpList P ops Q (o :: rest) a W := by
  obtain ⟨news, hnl, hnr, hnew⟩ := appended HO HR
  obtain ⟨hb, rows, hlr, hR, hf⟩ := HO
  refine R_append_rows (raw d.sz) w0.heap.size hgd s x t e z bytes ho ht hinfo hz hs0 hb0 v rows news A m c (fun _ => True) (fun _ => False) hs hx hR hnr (fun _ _ hk => hk) (fun _ hk => hk.elim) (fun _ _ => trivial) hb hb.size (by rw [hlr]; exact hl) ?_
  intro v1 w1 hr hb1 _ _
  exact h v1 w1 (hnew rows v1 w1 hlr hf hr hb1)
theorem step_app (d : Kd α) {w0 W : World} (hw : Region.wanted o (yielded ops a.tmps) = true) (s x : Operand) (t e : TypeId) (z : Value) (bytes : Nat)
    (ho : o.op = .call { callee := .builtin .append, args := #[s, x], argTypes := #[t, t] })
    (ht : P.underlying t = some (.slice e)) (hinfo : (P.info? e).map (fun i => (i.zero, i.size, i.bytes)) = some (some z, d.sz, bytes)) (hz : z.cells.size = d.sz) (hs0 : 0 < d.sz) (hb0 : 0 < bytes)
    (v : Value) (xs ys : List α) (A : Option Addr) (m c : Nat) (hs : a.eval s = v) (hx : a.eval x = .slice A m c)
    (HO : AppV d e w0 W v xs) (HR : d.C w0 A m ys) (hl : (xs.length + m) * bytes ≤ 140737488355328)
    (h : ∀ v1 w1, AppV d e w0 w1 v1 (xs ++ ys) → Kc (a.put o.dst v1) w1) :
    if Region.wanted o (yielded ops a.tmps) = true then Oper.wp P o a W Kc Q else Kc (a.put o.dst undef) W := by
  obtain ⟨news, hnl, hnr, hnew⟩ := appended HO HR
  obtain ⟨hb, rows, hlr, hR, hf⟩ := HO
  refine R_append_rows_step (raw d.sz) w0.heap.size hw s x t e z bytes ho ht hinfo hz hs0 hb0 v rows news A m c (fun _ => True) (fun _ => False) hs hx hR hnr (fun _ _ hk => hk) (fun _ hk => hk.elim) (fun _ _ => trivial) hb hb.size (by rw [hlr]; exact hl) ?_
  intro v1 w1 hr hb1 _ _
  exact h v1 w1 (hnew rows v1 w1 hlr hf hr hb1)
end
end Go.Proofs.YtefcjnnngaaihaaDoor.Bo
