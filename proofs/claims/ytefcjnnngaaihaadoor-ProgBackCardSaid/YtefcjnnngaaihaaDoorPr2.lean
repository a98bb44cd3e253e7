import Derived.Test.YtefcjnnngaaihaaDoorPr1

/- An instruction's line, and a line read, in plain Lean. -/
set_option linter.unusedSimpArgs false
namespace Go.Proofs.Pg
open Go.Lib

structure In where
  k : Int := 0
  a : Int := 0
  b : Int := 0
  c : Int := 0
  l : List Int := []

/-- A kind's word, how many numbers, a list behind. -/
def word (k : Int) : List UInt8 × Nat × Bool :=
  if k = 1 then ([114, 101, 97, 100], 3, false) else if k = 2 then ([119, 114, 105, 116, 101], 3, false)
  else if k = 3 then ([99, 111, 110, 115, 116], 2, false) else if k = 4 then ([99, 97, 108, 99], 2, true)
  else if k = 5 then ([106, 117, 109, 112], 2, false) else if k = 6 then ([114, 101, 116, 114, 121], 0, false)
  else if k = 7 then ([97, 98, 111, 114, 116], 0, false) else ([], 0, false)

def nums (x : In) : List Int := ([x.a, x.b, x.c].take (word x.k).2.1) ++ (if (word x.k).2.2 then x.l else [])
def lineB (x : In) : List UInt8 := join ((word x.k).1 :: (nums x).map itoa) [32]

def setN (n : Nat) (m : Bool) (x : In) (i : Nat) (v : Int) : In :=
  if i = 0 ∧ 0 < n then { x with a := v } else if i = 1 ∧ 1 < n then { x with b := v } else if i = 2 ∧ 2 < n then { x with c := v }
  else if m then { x with l := x.l ++ [v] } else x
def fill (n : Nat) (m : Bool) : In → Nat → List (List UInt8) → Option In
  | x, _, [] => some x
  | x, i, t :: r => match atoiAll t with | .ok v => fill n m (setN n m x i v) (i + 1) r | _ => none
def tryK (s : List UInt8) (f : List (List UInt8)) : List Int → In × Bool
  | [] => ({}, false)
  | k :: ks => if f.head? ≠ some (word k).1 ∨ f.length - 1 < (word k).2.1 then tryK s f ks
    else match fill (word k).2.1 (word k).2.2 { k := k } 0 f.tail with
      | none => ({}, false)
      | some x => (x, decide (lineB x = s))
def readB (s : List UInt8) : In × Bool := tryK s (split s [32]) [1, 2, 3, 4, 5, 6, 7]

def canon (x : In) : In :=
  { k := x.k, a := if 0 < (word x.k).2.1 then x.a else 0, b := if 1 < (word x.k).2.1 then x.b else 0, c := if 2 < (word x.k).2.1 then x.c else 0,
    l := if (word x.k).2.2 then x.l else [] }

def I64 (n : Int) : Prop := -9223372036854775808 ≤ n ∧ n ≤ 9223372036854775807

theorem fill_list (n : Nat) (l : List Int) : (∀ v ∈ l, I64 v) → ∀ (x : In) (i : Nat), n ≤ i →
    fill n true x i (l.map itoa) = some { x with l := x.l ++ l } := by
  induction l with
  | nil => intro _ x i _; simp [fill]
  | cons v r ih =>
    intro h x i hi
    have hv := h v (List.mem_cons_self ..)
    simp only [List.map_cons, fill, atoi_itoa v hv.1 hv.2]
    have hs : setN n true x i v = { x with l := x.l ++ [v] } := by
      unfold setN; rw [if_neg (by omega), if_neg (by omega), if_neg (by omega)]; rfl
    rw [hs, ih (fun u hu => h u (List.mem_cons_of_mem _ hu)) _ _ (by omega)]
    simp

theorem kinds {k : Int} (h : 1 ≤ k ∧ k ≤ 7) : k = 1 ∨ k = 2 ∨ k = 3 ∨ k = 4 ∨ k = 5 ∨ k = 6 ∨ k = 7 := by omega

theorem fill_canon (x : In) (hk : 1 ≤ x.k ∧ x.k ≤ 7) (ha : I64 x.a) (hb : I64 x.b) (hc : I64 x.c) (hl : ∀ v ∈ x.l, I64 v) :
    fill (word x.k).2.1 (word x.k).2.2 { k := x.k } 0 ((nums x).map itoa) = some (canon x) := by
  have ea := atoi_itoa x.a ha.1 ha.2
  have eb := atoi_itoa x.b hb.1 hb.2
  have ec := atoi_itoa x.c hc.1 hc.2
  obtain ⟨k, a, b, c, l⟩ := x
  rcases kinds hk with h | h | h | h | h | h | h <;> simp only at h ea eb ec <;> subst h
  · simp [nums, word, fill, setN, canon, ea, eb, ec]
  · simp [nums, word, fill, setN, canon, ea, eb, ec]
  · simp [nums, word, fill, setN, canon, ea, eb, ec]
  · have := fill_list 2 l hl { k := 4, a := a, b := b } 2 (by omega)
    simp [nums, word, fill, setN, canon, ea, eb, this]
  · simp [nums, word, fill, setN, canon, ea, eb, ec]
  · simp [nums, word, fill, setN, canon, ea, eb, ec]
  · simp [nums, word, fill, setN, canon, ea, eb, ec]

theorem word_canon (x : In) : lineB (canon x) = lineB x := by
  have hk : (canon x).k = x.k := rfl
  have hn : nums (canon x) = nums x := by
    unfold nums; rw [hk]; unfold canon; simp only
    by_cases h1 : x.k = 1
    · simp [word, h1]
    by_cases h2 : x.k = 2
    · simp [word, h2]
    by_cases h3 : x.k = 3
    · simp [word, h3]
    by_cases h4 : x.k = 4
    · simp [word, h4]
    by_cases h5 : x.k = 5
    · simp [word, h5]
    by_cases h6 : x.k = 6
    · simp [word, h6]
    by_cases h7 : x.k = 7
    · simp [word, h7]
    simp [word, h1, h2, h3, h4, h5, h6, h7]
  unfold lineB; rw [hn, hk]

theorem word_plain (k : Int) : (32 : UInt8) ∉ (word k).1 := by
  unfold word
  repeat' split
  all_goals decide

theorem line_pieces (x : In) : split (lineB x) [32] = (word x.k).1 :: (nums x).map itoa := by
  unfold lineB
  refine split_join 32 _ _ fun y hy => ?_
  rcases List.mem_cons.1 hy with h | h
  · rw [h]; exact word_plain _
  · obtain ⟨n, _, rfl⟩ := List.mem_map.1 h
    exact itoa_plain n

theorem nums_len (x : In) : (word x.k).2.1 ≤ (nums x).length := by
  have h3 : (word x.k).2.1 ≤ 3 := by
    unfold word
    repeat' split
    all_goals simp
  unfold nums
  simp only [List.length_append, List.length_take, List.length_cons, List.length_nil]
  omega

theorem word_ne : ∀ (i j : Fin 7), (word (i.val + 1)).1 = (word (j.val + 1)).1 → i = j := by decide +kernel

theorem tryK_self (s : List UInt8) (x : In) (hk : 1 ≤ x.k ∧ x.k ≤ 7) (ha : I64 x.a) (hb : I64 x.b) (hc : I64 x.c) (hl : ∀ v ∈ x.l, I64 v) (hs : s = lineB x) :
    ∀ ks : List Int, (∀ j ∈ ks, 1 ≤ j ∧ j ≤ 7) → x.k ∈ ks → tryK s ((word x.k).1 :: (nums x).map itoa) ks = (canon x, true)
  | [], _, h => by cases h
  | j :: ks, hj, h => by
    unfold tryK
    by_cases e : j = x.k
    · subst e
      have hn := nums_len x
      rw [if_neg (by simp only [List.head?_cons, ne_eq, not_true_eq_false, false_or, List.length_cons, List.length_map]; omega), List.tail_cons, fill_canon x hk ha hb hc hl]
      simp only [hs, word_canon, decide_true]
    · have hw : (word x.k).1 ≠ (word j).1 := fun e2 => by
        have hj7 := hj j (List.mem_cons_self ..)
        have := word_ne ⟨(x.k - 1).toNat, by omega⟩ ⟨(j - 1).toNat, by omega⟩ (by
          rw [show (((x.k - 1).toNat : Nat) : Int) + 1 = x.k by omega, show (((j - 1).toNat : Nat) : Int) + 1 = j by omega]; exact e2)
        simp at this; omega
      rw [if_pos (Or.inl (by simpa using hw))]
      refine tryK_self s x hk ha hb hc hl hs ks (fun i hi => hj i (List.mem_cons_of_mem _ hi)) ?_
      rcases List.mem_cons.1 h with h | h
      · exact absurd h.symm e
      · exact h

theorem read_line (x : In) (hk : 1 ≤ x.k ∧ x.k ≤ 7) (ha : I64 x.a) (hb : I64 x.b) (hc : I64 x.c) (hl : ∀ v ∈ x.l, I64 v) : readB (lineB x) = (canon x, true) := by
  unfold readB
  rw [line_pieces]
  refine tryK_self _ x hk ha hb hc hl rfl _ (by decide) ?_
  rcases kinds hk with h | h | h | h | h | h | h <;> rw [h] <;> decide

/-- Lines, one by one. -/
def parseB : List (List UInt8) → Option (List In)
  | [] => some []
  | s :: r => if (readB s).2 then (parseB r).map ((readB s).1 :: ·) else none

theorem parse_append : ∀ a b, parseB (a ++ b) = (parseB a).bind fun x => (parseB b).map (x ++ ·)
  | [], b => by simp [parseB]
  | s :: r, b => by
    simp only [List.cons_append, parseB, parse_append r b]
    split
    · cases parseB r <;> cases parseB b <;> simp
    · simp

end Go.Proofs.Pg
