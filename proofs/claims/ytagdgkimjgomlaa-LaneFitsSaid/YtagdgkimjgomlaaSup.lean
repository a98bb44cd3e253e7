/- Plain facts on the modes' functions: what Sup, Covers, Fits, Known come to; no program in sight. -/
import Derived.Test.YtagdgkimjgomlaaPMdx
namespace Go.Proofs.Ytagdgkimjgomlaa.Sup
open Go.RowKit Go.Proofs.Ytagdgkimjgomlaa.PMd Go.Proofs.YtagdgkimjgomlaaW.PrintWords Go.Proofs.YtagdgkimjgomlaaW.PrintLast Go.Proofs.YtagdgkimjgomlaaW.PrintMore

abbrev ok (x : Int) : Prop := 0 ≤ x ∧ x ≤ 5
def jn (a b : Int) : Int := if (a = 2 ∧ b = 3) ∨ (a = 3 ∧ b = 2) then 4 else if a < b then b else a
def st (a b : Int) : Int := if ok b then jn a b else 5
def sup (l : List Int) : Int := l.foldl st 0
def M (s : Int) : Int := if s = 0 then 0 else if s = 1 then 1 else if s = 2 then 3 else if s = 3 then 5 else if s = 4 then 7 else 15

theorem fin_of {a : Int} (h : ok a) : ∃ n : Fin 6, a = (n.val : Int) := ⟨⟨a.toNat, by omega⟩, by simp; omega⟩
theorem wrap_up {i : Int} {n : Nat} (h0 : 0 ≤ i) (h : i < (n : Int)) (hn : n ≤ 100000) : wrap64 (i + 1) = i + 1 := by
  unfold wrap64
  omega
theorem rd_drop {l : List Int} {i : Nat} (h : i < l.length) : l.drop i = rd l (i : Int) :: l.drop (i + 1) := by
  rw [List.drop_eq_getElem_cons h]
  simp [rd, List.getD_eq_getElem?_getD, List.getElem?_eq_getElem h]
theorem rd_mem {l : List Int} {i : Nat} (h : i < l.length) : rd l (i : Int) ∈ l := by
  have : rd l (i : Int) = l[i] := by simp [rd, List.getD_eq_getElem?_getD, List.getElem?_eq_getElem h]
  rw [this]
  exact List.getElem_mem h

theorem known_no {a : Int} (h : ¬ ok a) : mode_Known.f a = some false := by
  unfold mode_Known.f
  by_cases h0 : a ≥ 0
  · rw [if_pos h0, decide_eq_false (by intro h5; exact h ⟨h0, h5⟩)]
  · rw [if_neg h0]
theorem known_yes {a : Int} (h : ok a) : mode_Known.f a = some true := by
  unfold mode_Known.f
  rw [if_pos h.1, decide_eq_true h.2]
theorem made_M (a : Int) : mode_made.f a = some (M a) := by
  unfold mode_made.f M
  repeat' split
  all_goals rfl
theorem or_M : ∀ a b : Fin 6, Go.bits .or .i64 (M (a.val : Int)) (M (b.val : Int)) = M (jn (a.val : Int) (b.val : Int)) := by decide +kernel
theorem jn_ok_fin : ∀ a b : Fin 6, ok (jn (a.val : Int) (b.val : Int)) := by decide +kernel
theorem jn_ok {a b : Int} (ha : ok a) (hb : ok b) : ok (jn a b) := by
  obtain ⟨x, rfl⟩ := fin_of ha
  obtain ⟨y, rfl⟩ := fin_of hb
  exact jn_ok_fin x y
theorem st_ok {a : Int} (ha : ok a) (b : Int) : ok (st a b) := by
  unfold st
  split
  · exact jn_ok ha ‹_›
  · decide
theorem st_five (b : Int) : st 5 b = 5 := by
  unfold st
  split
  · rename_i h
    unfold jn
    rw [if_neg (by omega), if_neg (by omega)]
  · rfl
theorem fold_five (l : List Int) : l.foldl st 5 = 5 := by
  induction l with
  | nil => rfl
  | cons x t ih => rw [List.foldl_cons, st_five]; exact ih
theorem fold_ok (l : List Int) : ∀ a, ok a → ok (l.foldl st a) := by
  induction l with
  | nil => intro a h; exact h
  | cons x t ih => intro a h; exact ih _ (st_ok h x)
theorem sup_ok (l : List Int) : ok (sup l) := fold_ok l 0 (by decide)

theorem find_fin : ∀ a : Fin 6, mode_Sup.l1 10 (M (a.val : Int)) 0 = some (a.val : Int) := by decide +kernel
theorem find_l1 {s : Int} (h : ok s) {k : Nat} (hk : 10 ≤ k) : mode_Sup.l1 k (M s) 0 = some s := by
  obtain ⟨x, rfl⟩ := fin_of h
  exact at_rounds (g := fun k => mode_Sup.l1 k (M (x.val : Int)) 0) (fun k => (mode_Sup.mono_l k).2 _ _) hk (find_fin x)
theorem sup_loop (l : List Int) (hl : l.length ≤ 100000) (d : Nat) : ∀ (k i : Nat) (s : Int), ok s → i + d = l.length → d + 10 < k →
    mode_Sup.l0 k (M s) l (l.length : Int) (i : Int) = some ((l.drop i).foldl st s) := by
  induction d with
  | zero =>
    intro k i s hs hi hk
    obtain ⟨k, rfl⟩ : ∃ z, k = z + 1 := ⟨k - 1, by omega⟩
    simp only [mode_Sup.l0]
    rw [if_neg (by omega), List.drop_eq_nil_of_le (by omega)]
    exact find_l1 hs (by omega)
  | succ d ih =>
    intro k i s hs hi hk
    obtain ⟨k, rfl⟩ : ∃ z, k = z + 1 := ⟨k - 1, by omega⟩
    have hil : i < l.length := by omega
    simp only [mode_Sup.l0]
    rw [if_pos (by omega), if_pos (by omega), if_pos (by omega), rd_drop hil, List.foldl_cons]
    by_cases hx : ok (rd l (i : Int))
    · rw [known_yes hx]
      simp only [Option.bind_some, if_true]
      rw [made_M]
      simp only [Option.bind_some]
      have e : Go.bits .or .i64 (M s) (M (rd l (i : Int))) = M (st s (rd l (i : Int))) := by
        unfold st
        rw [if_pos hx]
        obtain ⟨a, ha⟩ := fin_of hs
        obtain ⟨b, hb⟩ := fin_of hx
        rw [ha, hb]
        exact or_M a b
      rw [e, wrap_up (n := l.length) (by omega) (by omega) hl, show ((i : Int) + 1) = ((i + 1 : Nat) : Int) by omega]
      exact ih k (i + 1) _ (st_ok hs _) (by omega) (by omega)
    · rw [known_no hx]
      have e : st s (rd l (i : Int)) = 5 := by unfold st; rw [if_neg hx]
      rw [e, fold_five]
      rfl
theorem sup_f (l : List Int) (hl : l.length ≤ 100000) {k : Nat} (hk : l.length + 10 < k) : mode_Sup.f k l = some (sup l) := by
  unfold mode_Sup.f
  have := sup_loop l hl l.length k 0 0 (by decide) (by omega) (by omega)
  simpa [M, sup] using this
theorem sup_two {a b : Int} (ha : ok a) (hb : ok b) : sup [a, b] = jn a b := by
  have e : st 0 a = a := by
    unfold st jn
    rw [if_pos ha, if_neg (by omega)]
    split <;> omega
  show st (st 0 a) b = _
  rw [e]
  unfold st
  rw [if_pos hb]
theorem covers_f (a b : Int) {k : Nat} (hk : 12 < k) : mode_Covers.f k a b = some (decide (ok a) && decide (ok b) && (jn a b == a)) := by
  unfold mode_Covers.f
  by_cases ha : ok a
  · rw [known_yes ha, decide_eq_true ha]
    by_cases hb : ok b
    · rw [known_yes hb, decide_eq_true hb, sup_f _ (by simp) (by simp; omega), sup_two ha hb]
      rfl
    · rw [known_no hb, decide_eq_false hb]
      rfl
  · rw [known_no ha, decide_eq_false ha]
    rfl

end Go.Proofs.Ytagdgkimjgomlaa.Sup
