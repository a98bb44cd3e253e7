/- The statement BirthLeast: the least number is one of them, none is below it, and one more number makes it no greater; for all lists of numbers. -/
import Derived.Test.YtdpcodnooonmlaaPBix2
namespace Go.Proofs.Ytdpcodnooonmlaa.Pure
open Go.RowKit Go.Proofs.Ytdpcodnooonmlaa.PBi Go.Proofs.YtdpcodnooonmlaaW.PrintWords Go.Proofs.YtdpcodnooonmlaaW.PrintLast
open Go.Proofs.YtdpcodnooonmlaaW.PrintMore

theorem wrap_up {i : Int} {n : Nat} (h0 : 0 ≤ i) (h : i < (n : Int)) (hn : n ≤ 100000) : wrap64 (i + 1) = i + 1 := by
  unfold wrap64
  omega

theorem rd_drop {l : List Int} {i : Nat} (h : i < l.length) : l.drop i = rd l (i : Int) :: l.drop (i + 1) := by
  rw [List.drop_eq_getElem_cons h]
  simp [rd, List.getD_eq_getElem?_getD, List.getElem?_eq_getElem h]

theorem min_loop (l : List Int) (hl : l.length ≤ 100000) (d : Nat) : ∀ (k i : Nat) (m : Int), i + d = l.length → d < k →
    slices_Min_int_int.l0 k l m (i : Int) = some ((l.drop i).foldl mn m) := by
  induction d with
  | zero =>
    intro k i m hi hk
    obtain ⟨k, rfl⟩ : ∃ z, k = z + 1 := ⟨k - 1, by omega⟩
    simp only [slices_Min_int_int.l0]
    rw [if_neg (by omega), List.drop_eq_nil_of_le (by omega)]
    rfl
  | succ d ih =>
    intro k i m hi hk
    obtain ⟨k, rfl⟩ : ∃ z, k = z + 1 := ⟨k - 1, by omega⟩
    simp only [slices_Min_int_int.l0]
    rw [if_pos (by omega), if_pos (by omega), wrap_up (n := l.length) (by omega) (by omega) hl]
    have := ih k (i + 1) (mn m (rd l i)) (by omega) (by omega)
    rw [show ((i : Int) + 1) = ((i + 1 : Nat) : Int) by omega, this, rd_drop (show i < l.length by omega)]
    rfl

/-- The least one of a list that is not empty. -/
def least (l : List Int) : Int := (l.drop 1).foldl mn (rd l 0)

theorem least_f (l : List Int) (hl : l.length ≤ 100000) (h0 : 0 < l.length) (k : Nat) (hk : l.length < k) : birth_Least.f k l = some (least l, true) := by
  unfold birth_Least.f slices_Min_int_int.f
  rw [if_neg (by omega), if_neg (by omega), if_pos (by omega)]
  have := min_loop l hl (l.length - 1) k 1 (rd l 0) (by omega) (by omega)
  rw [show (1 : Int) = ((1 : Nat) : Int) by rfl, this]
  rfl

theorem fold_le (l : List Int) : ∀ m : Int, l.foldl mn m ≤ m ∧ (∀ x ∈ l, l.foldl mn m ≤ x) ∧ (l.foldl mn m = m ∨ l.foldl mn m ∈ l) := by
  induction l with
  | nil => intro m; exact ⟨Int.le_refl _, fun x hx => by simp at hx, .inl rfl⟩
  | cons y t ih =>
    intro m
    obtain ⟨h1, h2, h3⟩ := ih (mn m y)
    have hm : mn m y ≤ m ∧ mn m y ≤ y ∧ (mn m y = m ∨ mn m y = y) := by unfold mn; split <;> omega
    simp only [List.foldl_cons]
    refine ⟨by omega, fun x hx => ?_, ?_⟩
    · rcases List.mem_cons.1 hx with rfl | hx
      · omega
      · exact h2 x hx
    · rcases h3 with h3 | h3
      · rcases hm.2.2 with e | e
        · left; omega
        · right; rw [h3, e]; exact List.mem_cons_self
      · right; exact List.mem_cons_of_mem _ h3

theorem least_cons (x : Int) (t : List Int) : least (x :: t) = t.foldl mn x := rfl

theorem least_le (l : List Int) (x : Int) (h : x ∈ l) : least l ≤ x := by
  cases l with
  | nil => simp at h
  | cons y t =>
    rw [least_cons]
    rcases List.mem_cons.1 h with rfl | h
    · exact (fold_le t _).1
    · exact (fold_le t y).2.1 x h

theorem least_mem (l : List Int) (h : 0 < l.length) : least l ∈ l := by
  cases l with
  | nil => simp at h
  | cons y t =>
    rw [least_cons]
    rcases (fold_le t y).2.2 with e | e
    · rw [e]; exact List.mem_cons_self
    · exact List.mem_cons_of_mem _ e

theorem rd_mem {l : List Int} {i : Nat} (h : i < l.length) : rd l (i : Int) ∈ l := by
  have : rd l (i : Int) = l[i] := by simp [rd, List.getD_eq_getElem?_getD, List.getElem?_eq_getElem h]
  rw [this]
  exact List.getElem_mem h

theorem last_true (l : List Int) (more : Int) (h0 : 0 < l.length) (k : Nat) (hl : l.length ≤ 1000) (hk : l.length + 2 < k) :
    ((some (([] : List Int) : List Int)).bind fun y112 => (if y112.length + l.length < 17592186044416 then ((some (y112 ++ l : List Int)).bind fun y115 => (if y115.length < 17592186044416 then ((birth_Least.f k (y115 ++ [more])).bind fun bt121 => ((ltklaw13_first.f).bind fun t123 => (if t123 = true then (if true = true then (if bt121.2 = true then (if bt121.1 ≤ least l then (if bt121.1 = least l then (some true) else (some (bt121.1 == more))) else (some false)) else (some false)) else (some false)) else (some false)))) else (none))) else (none))) = some true := by
  have hlen : (l ++ [more]).length = l.length + 1 := by simp
  have e1 := least_f (l ++ [more]) (by omega) (by omega) k (by omega)
  have h1 : least (l ++ [more]) ≤ least l := least_le _ _ (List.mem_append_left _ (least_mem l h0))
  have h2 := least_mem (l ++ [more]) (by omega)
  simp only [Option.bind_some, List.nil_append, List.length_nil]
  rw [if_pos (by omega), if_pos (by omega), e1]
  simp only [Option.bind_some, ltklaw13_first.f, if_true]
  rw [if_pos h1]
  by_cases e : least (l ++ [more]) = least l
  · rw [if_pos e]
  · rw [if_neg e]
    have : least (l ++ [more]) = more := by
      rcases List.mem_append.1 h2 with h | h
      · exact absurd (Int.le_antisymm h1 (least_le l _ h)) e
      · simpa using h
    rw [this]
    simp

theorem look_loop (l : List Int) (more : Int) (h0 : 0 < l.length) (hl : l.length ≤ 1000) (d : Nat) : ∀ (k i : Nat) (f : Bool), i + d = l.length → d + l.length + 10 < k →
    (f = true ∨ least l ∈ l.drop i) → ltklaw13_BirthLeast.l0 k l more (least l) f (i : Int) = some true := by
  induction d with
  | zero =>
    intro k i f hi hk hf
    obtain ⟨k, rfl⟩ : ∃ z, k = z + 1 := ⟨k - 1, by omega⟩
    have hf' : f = true := by
      rcases hf with h | h
      · exact h
      · rw [List.drop_eq_nil_of_le (by omega)] at h; simp at h
    subst hf'
    simp only [ltklaw13_BirthLeast.l0]
    rw [if_neg (by omega)]
    exact last_true l more h0 k hl (by omega)
  | succ d ih =>
    intro k i f hi hk hf
    obtain ⟨k, rfl⟩ : ∃ z, k = z + 1 := ⟨k - 1, by omega⟩
    have hil : i < l.length := by omega
    have hle := least_le l _ (rd_mem hil)
    simp only [ltklaw13_BirthLeast.l0]
    rw [if_pos (by omega)]
    have e1 := wrap_up (n := l.length) (show 0 ≤ (i : Int) by omega) (by omega) (by omega)
    have e2 : ((i : Int) + 1) = ((i + 1 : Nat) : Int) := by omega
    by_cases ef : f = true
    · rw [if_pos ef, if_pos (by omega), if_neg (by omega), e1, e2]
      exact ih k (i + 1) true (by omega) (by omega) (.inl rfl)
    · rw [if_neg ef, if_pos (by omega), if_neg (by omega), e1, e2]
      refine ih k (i + 1) _ (by omega) (by omega) ?_
      rcases hf with h | h
      · exact absurd h ef
      · rw [rd_drop hil] at h
        rcases List.mem_cons.1 h with h | h
        · left; rw [h]; simp
        · right; exact h

/-- The pure statement. -/
theorem BirthLeast : ltklaw13_BirthLeast.Pure := by
  intro l more _ _ _ _
  refine ⟨5000, ?_⟩
  unfold ltklaw13_BirthLeast.f
  simp only [ltklaw13_first.f, Option.bind_some, if_true]
  by_cases hb : (l.length : Int) > 1000
  · rw [if_pos hb]
  · rw [if_neg hb]
    by_cases h0 : 0 < l.length
    · rw [least_f l (by omega) h0 5000 (by omega)]
      simp only [Option.bind_some]
      rw [decide_eq_true (show (l.length : Int) > 0 by omega)]
      simp only [bne_self_eq_false, Bool.false_eq_true, if_false, if_true]
      have := look_loop l more h0 (by omega) l.length 5000 0 false (by omega) (by omega) (.inr (by simpa using least_mem l h0))
      simpa using this
    · have e : l = [] := List.eq_nil_of_length_eq_zero (by omega)
      subst e
      unfold birth_Least.f
      rw [if_pos (by simp)]
      simp

end Go.Proofs.Ytdpcodnooonmlaa.Pure
