import Derived.Deep.RegionHeld
/- A region that draws its order and ends in stores: what is known of the world is known till the first of these comes up. -/
namespace Go.Proofs.Ytfpnadalfopmcaa.Up
open Go
set_option linter.unusedVariables false
section
variable {P : Program} {ops : Array Oper} {Q : Exit → Act → World → Prop} {md : Region.Mode} {st : List Nat} {S : World → Prop}
/-- None of the last operations has come up. -/
def none_ (st : List Nat) (l : Array Bool) : Bool := st.all fun j => !(l.getD j true)
theorem none_mono {l : Array Bool} {i : Nat} (h : none_ st (l.setIfInBounds i true) = true) : none_ st l = true := by
  unfold none_ at h ⊢
  rw [List.all_eq_true] at h ⊢
  intro j hj
  have h1 := h j hj
  rcases Nat.decEq i j with e | rfl
  · rwa [getD_set_ne true e] at h1
  · rcases Nat.lt_or_ge i l.size with k | k
    · simp [k] at h1
    · rwa [Array.setIfInBounds_eq_of_size_le k] at h1
theorem none_set {l : Array Bool} {i : Nat} (h : none_ st l = true) (hi : i ∉ st) : none_ st (l.setIfInBounds i true) = true := by
  unfold none_ at h ⊢
  rw [List.all_eq_true] at h ⊢
  intro j hj
  have hne : i ≠ j := fun e => hi (by rw [e]; exact hj)
  rw [getD_set_ne true hne]
  exact h j hj
/-- Whatever comes up; S holds behind each operation, as long as none of the last ones has come up. -/
def Till (P : Program) (md : Region.Mode) (ops : Array Oper) (Q : Exit → Act → World → Prop) (st : List Nat) (S : World → Prop) : Nat → Array Bool → Act → World → Prop
  | 0, l, a, w => Region.ready md ops l = [] ∧ Q .normal a w
  | n + 1, l, a, w => (Region.ready md ops l = [] → Q .normal a w) ∧
      ∀ i ∈ Region.ready md ops l, wpOp P ops Q i (fun a' w' => (none_ st (l.setIfInBounds i true) = true → S w') ∧ Till P md ops Q st S n (l.setIfInBounds i true) a' w') a w
theorem Till.any : ∀ (n : Nat) (l : Array Bool) (a : Act) (w : World), Till P md ops Q st S n l a w → wpAny P md ops Q n l a w
  | 0, _, _, _, h => h
  | n + 1, _, _, _, h => ⟨h.1, fun i hi => wpOp_mono (fun a' w' k => Till.any n _ a' w' k.2) (h.2 i hi)⟩
/-- Each of the last operations waits for i. -/
def waits (md : Region.Mode) (ops : Array Oper) (st : List Nat) (i : Nat) : Bool :=
  st.all fun j => match ops[j]? with | some o => o.after.any (fun e => Region.binds md e && e.on == i) | none => true
theorem waits_spec {i : Nat} (h : waits md ops st i = true) {j : Nat} {oj : Oper} (hj : ops[j]? = some oj) (hs : j ∈ st) : ∃ e ∈ oj.after, Region.binds md e = true ∧ e.on = i := by
  have h1 := List.all_eq_true.1 h j hs
  rw [hj] at h1
  obtain ⟨e, he, h2⟩ := Array.any_eq_true'.1 h1
  rw [Bool.and_eq_true, beq_iff_eq] at h2
  exact ⟨e, he, h2⟩
theorem not_listed {i : Nat} {l : Array Bool} (hr : i ∈ Region.ready md ops l) {b : Bool} (h : l.getD i b = true) (hb : b = false) : False := by
  subst hb
  have h0 := (mem_ready.1 hr).1
  rcases Nat.lt_or_ge i l.size with k | k
  · simp [k] at h0 h
    rw [h0] at h
    cases h
  · simp [Array.getElem?_eq_none k] at h
/-- m is i, or waits for it and has not come up. -/
def via (md : Region.Mode) (ops : Array Oper) (l : Array Bool) (i m : Nat) : Bool :=
  m == i || (!(l.getD m true) && match ops[m]? with | some o => o.after.any (fun e => Region.binds md e && e.on == i) | none => false)
theorem via_spec {i m : Nat} {l : Array Bool} (h : via md ops l i m = true) : m = i ∨ l.getD m true = false ∧ ∃ o, ops[m]? = some o ∧ ∃ e ∈ o.after, Region.binds md e = true ∧ e.on = i := by
  unfold via at h
  rcases (Bool.or_eq_true_iff.1 h) with h | h
  · exact .inl (by simpa using h)
  · obtain ⟨h1, h2⟩ := (Bool.and_eq_true_iff.1 h)
    refine .inr ⟨by simpa using h1, ?_⟩
    cases ho : ops[m]? with
    | none => rw [ho] at h2; cases h2
    | some o =>
      rw [ho] at h2
      obtain ⟨e, he, h3⟩ := Array.any_eq_true'.1 h2
      rw [Bool.and_eq_true, beq_iff_eq] at h3
      exact ⟨o, rfl, e, he, h3⟩
/-- i is taken first: in any world that S1 holds of it yields v; where one of the last operations might come up ahead of it S1 must hold of any world. -/
theorem Till.first {S1 : World → Prop} {i : Nat} {oi : Oper} {v : Value} (hi : ops[i]? = some oi) (hist : i ∉ st) (hsel : ∀ (j : Nat) (o : Oper) cs b, ops[j]? = some o → o.op ≠ .select cs b)
    (hQ : ∀ c a w, Q (.panic c) (a.put oi.dst v) w → Q (.panic c) a w) (n : Nat) : ∀ (l : Array Bool) (a : Act) (w : World),
      (∀ j oj, ops[j]? = some oj → j ≠ i → l.getD j true = false → (∀ e ∈ oj.after, Region.binds md e = true → e.on ≠ i) → oi.apart ops oj = true) →
      i ∈ Region.ready md ops l →
      ((∀ W, S1 W) ∨ (S1 = S ∧ none_ st l = true ∧ ∃ m, waits md ops st m = true ∧ (m = i ∨ l.getD m true = false ∧ ∃ o, ops[m]? = some o ∧ ∃ e ∈ o.after, Region.binds md e = true ∧ e.on = i))) →
      YieldsIf P ops S1 oi v a → (none_ st l = true → S w) → S1 w → Till P md ops Q st S n (l.setIfInBounds i true) (a.put oi.dst v) w → Till P md ops Q st S (n + 1) l a w := by
  induction n with
  | zero =>
    intro l a w _ hr _ hy hS hS1 H
    refine ⟨fun h => (by rw [h] at hr; cases hr), fun j hj => ?_⟩
    rcases Nat.decEq j i with hji | rfl
    · have := ready_mono hj hji
      rw [H.1] at this
      cases this
    · exact hy.wpOp hi hS1 ⟨fun h => hS (none_mono h), H⟩
  | succ n ih =>
    intro l a w hfree hr hm hy hS hS1 H
    refine ⟨fun h => (by rw [h] at hr; cases hr), fun j hj => ?_⟩
    rcases Nat.decEq j i with hji | rfl
    · obtain ⟨hun, oj, hoj, hall⟩ := mem_ready.1 hj
      have hno : ∀ e ∈ oj.after, Region.binds md e = true → e.on ≠ i := fun e he hb heq => not_listed hr (heq ▸ hall e he hb) rfl
      have hm2 : (∀ W, S1 W) ∨ (S1 = S ∧ none_ st (l.setIfInBounds j true) = true ∧ ∃ m, waits md ops st m = true ∧ (m = i ∨ (l.setIfInBounds j true).getD m true = false ∧ ∃ o, ops[m]? = some o ∧ ∃ e ∈ o.after, Region.binds md e = true ∧ e.on = i)) := by
        rcases hm with h | ⟨h0, h1, m, hst, hm⟩
        · exact .inl h
        · have hjm : j ≠ m := fun e => by
            subst e
            rcases hm with h | ⟨_, o, ho, e, he, hb, heq⟩
            · exact hji h
            · rw [hoj] at ho
              cases ho
              exact hno e he hb heq
          have hsj : j ∉ st := fun h => by
            obtain ⟨e, he, hb, heq⟩ := waits_spec hst hoj h
            rcases hm with rfl | ⟨h2, _⟩
            · exact (hno e he hb heq).elim
            · have h3 := hall e he hb
              rw [heq] at h3
              rcases Nat.lt_or_ge m l.size with k | k
              · simp [k] at h2 h3
                rw [h2] at h3
                cases h3
              · simp [Array.getElem?_eq_none k] at h2
          exact .inr ⟨h0, none_set h1 hsj, m, hst, hm.imp id fun ⟨h2, h3⟩ => ⟨by rw [getD_set_ne true hjm]; exact h2, h3⟩⟩
      have hk : ∀ w', (none_ st ((l.setIfInBounds i true).setIfInBounds j true) = true → S w') → none_ st (l.setIfInBounds j true) = true → S w' := fun w' k h =>
        k (by rw [Array.setIfInBounds_comm _ _ (Ne.symm hji)]; exact none_set h hist)
      refine wpOp_mono (fun a' w' k => ⟨hk w' k.2.1, ih (l.setIfInBounds j true) a' w' (fun q oq hq hqi hqu hqn => hfree q oq hq hqi ?_ hqn) (ready_mono hr (Ne.symm hji)) hm2 k.1 (hk w' k.2.1) ?_ ?_⟩)
        (wpOp_putIf hoj (hfree j oj hoj hji hun hno) (fun cs b => hsel i oi cs b hi) (fun cs b => hsel j oj cs b hoj) hQ hy (H.2 j (ready_mono hj hji)))
      · rcases Nat.decEq j q with e | rfl
        · rwa [getD_set_ne true e] at hqu
        · exact hun
      · rcases hm2 with h | ⟨h0, h1, _⟩
        · exact h w'
        · rw [h0]; exact hk w' k.2.1 h1
      · rw [Array.setIfInBounds_comm _ _ hji]
        exact k.2.2
    · exact hy.wpOp hi hS1 ⟨fun h => hS (none_mono h), H⟩
/-- i yields v in every world of which S holds; none of the last operations has come up, and they wait for it (through m). -/
theorem Till.take (i m : Nat) {oi : Oper} {v : Value} {n : Nat} {l : Array Bool} {a : Act} {w : World} (hi : ops[i]? = some oi) (hist : st.contains i = false) (hs : Region.noSelect ops = true) (hf : Region.free md ops l i = true)
    (hr : (Region.ready md ops l).contains i = true) (hQ : ∀ c a w, Q (.panic c) (a.put oi.dst v) w → Q (.panic c) a w) (hnone : none_ st l = true) (hst : waits md ops st m = true) (hv : via md ops l i m = true)
    (hy : YieldsIf P ops S oi v a) (hS : S w) (h : Till P md ops Q st S n (l.setIfInBounds i true) (a.put oi.dst v) w) : Till P md ops Q st S (n + 1) l a w :=
  Till.first hi (by simpa using hist) (Region.noSelect_spec hs) hQ n l a w (Region.free_spec hi hf) (by simpa using hr) (.inr ⟨rfl, hnone, m, hst, via_spec hv⟩) hy (fun _ => hS) hS h
/-- i yields v in whatever world. -/
theorem Till.takeY (i : Nat) {oi : Oper} {v : Value} {n : Nat} {l : Array Bool} {a : Act} {w : World} (hi : ops[i]? = some oi) (hist : st.contains i = false) (hs : Region.noSelect ops = true) (hf : Region.free md ops l i = true)
    (hr : (Region.ready md ops l).contains i = true) (hQ : ∀ c a w, Q (.panic c) (a.put oi.dst v) w → Q (.panic c) a w)
    (hy : YieldsIf P ops (fun _ => True) oi v a) (hS : none_ st l = true → S w) (h : Till P md ops Q st S n (l.setIfInBounds i true) (a.put oi.dst v) w) : Till P md ops Q st S (n + 1) l a w :=
  Till.first hi (by simpa using hist) (Region.noSelect_spec hs) hQ n l a w (Region.free_spec hi hf) (by simpa using hr) (.inl fun _ => trivial) hy hS trivial h
def TillAll (P : Program) (md : Region.Mode) (ops : Array Oper) (Q : Exit → Act → World → Prop) (st : List Nat) (S : World → Prop) (n : Nat) (l : Array Bool) (a : Act) (w : World) (rs : List Nat) : Prop :=
  ∀ i ∈ rs, wpOp P ops Q i (fun a' w' => (none_ st (l.setIfInBounds i true) = true → S w') ∧ Till P md ops Q st S n (l.setIfInBounds i true) a' w') a w
theorem TillAll.nil {n : Nat} {l : Array Bool} {a : Act} {w : World} : TillAll P md ops Q st S n l a w [] := fun _ h => nomatch h
theorem TillAll.cons {n : Nat} {l : Array Bool} {a : Act} {w : World} {i : Nat} {o : Oper} {rs : List Nat} (ho : ops[i]? = some o)
    (h : ∀ K : Act → World → Prop, Shut (∀ a w, (none_ st (l.setIfInBounds i true) = true → S w) → ((none_ st (l.setIfInBounds i true) = true → S w) → Till P md ops Q st S n (l.setIfInBounds i true) a w) → K a w) → if Region.wanted o (yielded ops a.tmps) = true then Oper.wp P o a w K Q else K (a.put o.dst undef) w)
    (hs : TillAll P md ops Q st S n l a w rs) : TillAll P md ops Q st S n l a w (i :: rs) := fun j hj => by
  rcases List.mem_cons.1 hj with rfl | hj
  · exact wpOp_step ho (fun K hK => h K (fun a w hS hW => hK a w ⟨hS, hW hS⟩))
  · exact hs j hj
theorem Till.ready {rs : List Nat} {n : Nat} {l : Array Bool} {a : Act} {w : World} (hr : Region.ready md ops l = rs) (hne : rs ≠ []) (h : TillAll P md ops Q st S n l a w rs) : Till P md ops Q st S (n + 1) l a w :=
  ⟨fun h0 => absurd (hr ▸ h0) hne, hr ▸ h⟩
theorem Till.done {l : Array Bool} {a : Act} {w : World} (hr : Region.ready md ops l = []) (h : Q .normal a w) : ∀ n, Till P md ops Q st S n l a w
  | 0 => ⟨hr, h⟩
  | _ + 1 => ⟨fun _ => h, by rw [hr]; simp⟩
theorem Till.region (st : List Nat) (S : World → Prop) {id : Nat} {a : Act} {w : World} (hm : P.follows .mixedOrders = true) (hS : S w.drew)
    (h : S w.drew → Till P .any ops Q st S ops.size (Array.replicate ops.size false) a w.drew) : (Code.region id ops true).wp P Q a w :=
  wp_region_any hm (Till.any _ _ _ _ (h hS))
end
end Go.Proofs.Ytfpnadalfopmcaa.Up
