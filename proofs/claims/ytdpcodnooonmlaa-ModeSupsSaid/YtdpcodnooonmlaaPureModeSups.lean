/- The statement ModeSups: the least mode above any is above each, and what is above each covers it; none is added by None; for all lists. -/
import Derived.Test.YtdpcodnooonmlaaPMox2
import Derived.Test.YtdpcodnooonmlaaMoSup
namespace Go.Proofs.Ytdpcodnooonmlaa.Pure
open Go.RowKit Go.Proofs.Ytdpcodnooonmlaa.PMo Go.Proofs.YtdpcodnooonmlaaW.PrintWords Go.Proofs.YtdpcodnooonmlaaW.PrintLast
open Go.Proofs.YtdpcodnooonmlaaW.PrintMore

theorem jn_idem_fin : ∀ a b : Fin 6, jn (jn (a.val : Int) (b.val : Int)) (b.val : Int) = jn (a.val : Int) (b.val : Int) := by decide +kernel
theorem jn_keep_fin : ∀ a b c : Fin 6, jn (a.val : Int) (c.val : Int) = (a.val : Int) → jn (jn (a.val : Int) (b.val : Int)) (c.val : Int) = jn (a.val : Int) (b.val : Int) := by decide +kernel
theorem jn_least_fin : ∀ a b m : Fin 6, jn (m.val : Int) (a.val : Int) = (m.val : Int) → jn (m.val : Int) (b.val : Int) = (m.val : Int) → jn (m.val : Int) (jn (a.val : Int) (b.val : Int)) = (m.val : Int) := by decide +kernel
theorem jn_idem {a b : Int} (ha : ok a) (hb : ok b) : jn (jn a b) b = jn a b := by
  obtain ⟨x, rfl⟩ := fin_of ha
  obtain ⟨y, rfl⟩ := fin_of hb
  exact jn_idem_fin x y
theorem jn_keep {a b c : Int} (ha : ok a) (hb : ok b) (hc : ok c) (h : jn a c = a) : jn (jn a b) c = jn a b := by
  obtain ⟨x, rfl⟩ := fin_of ha
  obtain ⟨y, rfl⟩ := fin_of hb
  obtain ⟨z, rfl⟩ := fin_of hc
  exact jn_keep_fin x y z h
theorem jn_least {a b m : Int} (ha : ok a) (hb : ok b) (hm : ok m) (h1 : jn m a = m) (h2 : jn m b = m) : jn m (jn a b) = m := by
  obtain ⟨x, rfl⟩ := fin_of ha
  obtain ⟨y, rfl⟩ := fin_of hb
  obtain ⟨z, rfl⟩ := fin_of hm
  exact jn_least_fin x y z h1 h2
theorem jn_none {m : Int} (hm : ok m) : jn m 0 = m := by
  unfold jn
  rw [if_neg (by omega), if_neg (by omega)]
theorem st_jn (a : Int) {b : Int} (h : ok b) : st a b = jn a b := by unfold st; rw [if_pos h]
/-- What is absorbed once stays so. -/
theorem fold_keep (l : List Int) : ∀ (a c : Int), ok a → ok c → (∀ x ∈ l, ok x) → jn a c = a → jn (l.foldl st a) c = l.foldl st a := by
  induction l with
  | nil => intro a c _ _ _ h; exact h
  | cons x t ih =>
    intro a c ha hc hl h
    have hx : ok x := hl x List.mem_cons_self
    refine ih (st a x) c (st_ok ha x) hc (fun y hy => hl y (List.mem_cons_of_mem _ hy)) ?_
    rw [st_jn a hx]
    exact jn_keep ha hx hc h
theorem fold_each (l : List Int) : ∀ (a : Int), ok a → (∀ x ∈ l, ok x) → ∀ x ∈ l, jn (l.foldl st a) x = l.foldl st a := by
  induction l with
  | nil => intro a _ _ x hx; simp at hx
  | cons y t ih =>
    intro a ha hl x hx
    have hy : ok y := hl y List.mem_cons_self
    have ht : ∀ z ∈ t, ok z := fun z hz => hl z (List.mem_cons_of_mem _ hz)
    rcases List.mem_cons.1 hx with e | hx
    · rw [e, List.foldl_cons]
      refine fold_keep t _ y (st_ok ha y) hy ht ?_
      rw [st_jn a hy]
      exact jn_idem ha hy
    · exact ih (st a y) (st_ok ha y) ht x hx
theorem fold_least (l : List Int) (m : Int) (hm : ok m) : ∀ (a : Int), ok a → (∀ x ∈ l, ok x) → jn m a = m → (∀ x ∈ l, jn m x = m) → jn m (l.foldl st a) = m := by
  induction l with
  | nil => intro a _ _ h _; exact h
  | cons y t ih =>
    intro a ha hl h1 h2
    have hy : ok y := hl y List.mem_cons_self
    refine ih (st a y) (st_ok ha y) (fun z hz => hl z (List.mem_cons_of_mem _ hz)) ?_ (fun z hz => h2 z (List.mem_cons_of_mem _ hz))
    rw [st_jn a hy]
    exact jn_least ha hy hm h1 (h2 y List.mem_cons_self)
theorem fold_same (l : List Int) (s : Int) (hl : ∀ x ∈ l, ok x) (h : ∀ x ∈ l, jn s x = s) : l.foldl st s = s := by
  induction l with
  | nil => rfl
  | cons y t ih =>
    rw [List.foldl_cons, st_jn s (hl y List.mem_cons_self), h y List.mem_cons_self]
    exact ih (fun z hz => hl z (List.mem_cons_of_mem _ hz)) (fun z hz => h z (List.mem_cons_of_mem _ hz))
theorem sup_bad (l : List Int) (h : ¬ ∀ x ∈ l, ok x) : sup l = 5 := by
  have : ∀ (l : List Int) (a : Int), (¬ ∀ x ∈ l, ok x) → l.foldl st a = 5 := by
    intro l
    induction l with
    | nil => intro a h; exact absurd (fun x hx => by simp at hx) h
    | cons y t ih =>
      intro a h
      by_cases hy : ok y
      · refine ih _ (fun ht => h fun x hx => ?_)
        rcases List.mem_cons.1 hx with rfl | hx
        · exact hy
        · exact ht x hx
      · rw [List.foldl_cons, show st a y = 5 by unfold st; rw [if_neg hy]]
        exact fold_five t
  exact this l 0 h

section
variable (l : List Int)
/-- The end: no mode is above each and does not cover it; None adds nothing. -/
theorem last_yes (hk : ∀ x ∈ l, ok x) {k : Nat} (h : 100 ≤ k) (hl : l.length ≤ 50) :
    ((ltklaw4_first.f k).bind fun t135 => (if t135 = true then ((some (([0] : List Int) : List Int)).bind fun y136 => (if y136.length + l.length < 17592186044416 then ((mode_Sup.f k (y136 ++ l)).bind fun t142 => (if t142 = sup l then ((some (([sup l] : List Int) : List Int)).bind fun y143 => (if y143.length + l.length < 17592186044416 then ((mode_Sup.f k (y143 ++ l)).bind fun t149 => (some (t149 == sup l))) else (none))) else (some false))) else (none))) else (some false))) = some true := by
  rw [first_f (by omega)]
  simp only [Option.bind_some, if_true, List.length_cons, List.length_nil]
  rw [if_pos (by omega), sup_f _ (by simp; omega) (by simp; omega)]
  have e0 : sup ([0] ++ l) = sup l := by
    show (l.foldl st (st 0 0)) = _
    rfl
  rw [e0]
  simp only [Option.bind_some, if_true]
  rw [if_pos (by omega), sup_f _ (by simp; omega) (by simp; omega)]
  have e1 : sup ([sup l] ++ l) = sup l := by
    show (l.foldl st (st 0 (sup l))) = _
    have : st 0 (sup l) = sup l := by
      rw [st_jn 0 (sup_ok l)]
      have := sup_ok l
      unfold jn
      rw [if_neg (by omega)]
      split <;> omega
    rw [this]
    exact fold_same l _ hk (fold_each l 0 (by decide) hk)
  rw [e1]
  simp

theorem above_loop (hk : ∀ x ∈ l, ok x) (hl : l.length ≤ 50) (m : Int) (hm : ok m) (nxt : Nat → Option Bool) (N : Nat)
    (hn : ∀ k, N ≤ k → nxt k = some true) (hnx : ∀ k, nxt k = ltklaw4_ModeSups.l2 k l (sup l) (wrap64 (m + 1))) (d : Nat) : ∀ (k i : Nat) (f : Bool), i + d = l.length → d + N + 20 < k →
    (f = true → ∀ j, j < i → jn m (rd l (j : Int)) = m) → ltklaw4_ModeSups.l3 k l (sup l) m f (i : Int) = some true := by
  induction d with
  | zero =>
    intro k i f hi hk' hf
    obtain ⟨k, rfl⟩ : ∃ z, k = z + 1 := ⟨k - 1, by omega⟩
    simp only [ltklaw4_ModeSups.l3]
    rw [if_neg (by omega), ← hnx, hn k (by omega)]
    cases f with
    | false => rfl
    | true =>
      rw [if_pos rfl, covers_f m (sup l) (by omega), decide_eq_true hm, decide_eq_true (sup_ok l)]
      have : jn m (sup l) = m := by
        refine fold_least l m hm 0 (by decide) hk (jn_none hm) (fun x hx => ?_)
        obtain ⟨j, hj, rfl⟩ := List.getElem_of_mem hx
        have := hf rfl j (by omega)
        rwa [show rd l (j : Int) = l[j] by simp [rd, List.getD_eq_getElem?_getD, List.getElem?_eq_getElem hj]] at this
      rw [this]
      simp
  | succ d ih =>
    intro k i f hi hk' hf
    obtain ⟨k, rfl⟩ : ∃ z, k = z + 1 := ⟨k - 1, by omega⟩
    have hil : i < l.length := by omega
    simp only [ltklaw4_ModeSups.l3]
    rw [if_pos (by omega), wrap_up (n := l.length) (by omega) (by omega) (by omega), show ((i : Int) + 1) = ((i + 1 : Nat) : Int) by omega]
    cases f with
    | false =>
      rw [if_neg (by decide)]
      exact ih k (i + 1) false (by omega) (by omega) (fun h => by cases h)
    | true =>
      rw [if_pos rfl, if_pos (by omega), covers_f _ _ (by omega), decide_eq_true hm, decide_eq_true (hk _ (rd_mem hil))]
      simp only [Option.bind_some, Bool.true_and]
      refine ih k (i + 1) _ (by omega) (by omega) (fun h j hj => ?_)
      by_cases e : j = i
      · rw [e]; simpa using h
      · exact hf rfl j (by omega)

theorem modes_loop (hk : ∀ x ∈ l, ok x) (hl : l.length ≤ 50) (d : Nat) : ∀ (k : Nat) (m : Int), 0 ≤ m → m + d = 6 → 200 + d * 200 ≤ k → ltklaw4_ModeSups.l2 k l (sup l) m = some true := by
  induction d with
  | zero =>
    intro k m h0 hm hkk
    obtain ⟨k, rfl⟩ : ∃ z, k = z + 1 := ⟨k - 1, by omega⟩
    simp only [ltklaw4_ModeSups.l2]
    rw [if_neg (by omega)]
    exact last_yes l hk (by omega) hl
  | succ d ih =>
    intro k m h0 hm hkk
    obtain ⟨k, rfl⟩ : ∃ z, k = z + 1 := ⟨k - 1, by omega⟩
    simp only [ltklaw4_ModeSups.l2]
    rw [if_pos (by omega)]
    have e : wrap64 (m + 1) = m + 1 := by unfold wrap64; omega
    exact above_loop l hk hl m ⟨h0, by omega⟩ (fun k => ltklaw4_ModeSups.l2 k l (sup l) (wrap64 (m + 1))) (200 + d * 200) (fun k hk2 => by rw [e]; exact ih k (m + 1) (by omega) (by omega) hk2) (fun _ => rfl) l.length k 0 true (by omega) (by omega) (fun _ j hj => by omega)

theorem each_loop (hk : ∀ x ∈ l, ok x) (hl : l.length ≤ 50) (d : Nat) : ∀ (k i : Nat), i + d = l.length → d + 2000 < k → ltklaw4_ModeSups.l1 k l (sup l) (i : Int) = some true := by
  induction d with
  | zero =>
    intro k i hi hkk
    obtain ⟨k, rfl⟩ : ∃ z, k = z + 1 := ⟨k - 1, by omega⟩
    simp only [ltklaw4_ModeSups.l1]
    rw [if_neg (by omega)]
    exact modes_loop l hk hl 6 k 0 (by omega) (by omega) (by omega)
  | succ d ih =>
    intro k i hi hkk
    obtain ⟨k, rfl⟩ : ∃ z, k = z + 1 := ⟨k - 1, by omega⟩
    have hil : i < l.length := by omega
    simp only [ltklaw4_ModeSups.l1]
    rw [if_pos (by omega), if_pos (by omega), covers_f _ _ (by omega), decide_eq_true (sup_ok l), decide_eq_true (hk _ (rd_mem hil))]
    have : jn (sup l) (rd l (i : Int)) = sup l := fold_each l 0 (by decide) hk _ (rd_mem hil)
    rw [this, wrap_up (n := l.length) (by omega) (by omega) (by omega), show ((i : Int) + 1) = ((i + 1 : Nat) : Int) by omega]
    simp only [Option.bind_some, beq_self_eq_true, Bool.and_true, if_true]
    exact ih k (i + 1) (by omega) (by omega)

theorem known_loop (hl : l.length ≤ 50) (d : Nat) : ∀ (k i : Nat), i + d = l.length → d + 3000 < k → (∀ j, j < i → ok (rd l (j : Int))) → ltklaw4_ModeSups.l0 k l (i : Int) = some true := by
  induction d with
  | zero =>
    intro k i hi hkk hj
    obtain ⟨k, rfl⟩ : ∃ z, k = z + 1 := ⟨k - 1, by omega⟩
    simp only [ltklaw4_ModeSups.l0]
    rw [if_neg (by omega), sup_f l (by omega) (by omega)]
    have hk : ∀ x ∈ l, ok x := fun x hx => by
      obtain ⟨j, hj', rfl⟩ := List.getElem_of_mem hx
      have := hj j (by omega)
      rwa [show rd l (j : Int) = l[j] by simp [rd, List.getD_eq_getElem?_getD, List.getElem?_eq_getElem hj']] at this
    exact each_loop l hk hl l.length k 0 (by omega) (by omega)
  | succ d ih =>
    intro k i hi hkk hj
    obtain ⟨k, rfl⟩ : ∃ z, k = z + 1 := ⟨k - 1, by omega⟩
    have hil : i < l.length := by omega
    simp only [ltklaw4_ModeSups.l0]
    rw [if_pos (by omega), if_pos (by omega)]
    by_cases hx : ok (rd l (i : Int))
    · rw [known_yes hx, wrap_up (n := l.length) (by omega) (by omega) (by omega), show ((i : Int) + 1) = ((i + 1 : Nat) : Int) by omega]
      refine ih k (i + 1) (by omega) (by omega) (fun j hj' => ?_)
      by_cases e : j = i
      · rw [e]; exact hx
      · exact hj j (by omega)
    · rw [known_no hx, first_f (by omega), sup_f l (by omega) (by omega), sup_bad l (fun h => hx (h _ (rd_mem hil)))]
      rfl
end

/-- The pure statement. -/
theorem ModeSups : ltklaw4_ModeSups.Pure := by
  intro l _ _ _
  refine ⟨4000, ?_⟩
  unfold ltklaw4_ModeSups.f
  rw [first_f (by omega)]
  simp only [Option.bind_some, if_true]
  by_cases hl : (l.length : Int) > 50
  · rw [if_pos hl]
  · rw [if_neg hl]
    exact known_loop l (by omega) l.length 4000 0 (by omega) (by omega) (fun j hj => by omega)

end Go.Proofs.Ytdpcodnooonmlaa.Pure
