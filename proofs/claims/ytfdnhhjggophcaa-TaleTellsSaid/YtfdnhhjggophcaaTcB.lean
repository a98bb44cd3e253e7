/- Plain facts on tale's functions: what bytes come to as instructions, programs, threads, picks; no program in sight. -/
import Derived.Test.YtfdnhhjggophcaaPAbx5
import Derived.Test.YtfdnhhjggophcaaPAbx8
namespace Go.Proofs.Ytfdnhhjggophcaa.Tc
open Go.RowKit Go.Proofs.Ytfdnhhjggophcaa.PAb Go.Proofs.YtfdnhhjggophcaaW.PrintWords Go.Proofs.YtfdnhhjggophcaaW.PrintLast Go.Proofs.YtfdnhhjggophcaaW.PrintMore

abbrev byt (x : Int) : Prop := 0 ≤ x ∧ x ≤ 255
theorem wrap_in {i : Int} (h0 : -9223372036854775808 ≤ i) (h : i ≤ 9223372036854775807) : wrap64 i = i := by
  unfold wrap64
  omega
theorem rd_get {l : List Int} {i : Nat} (h : i < l.length) : rd l (i : Int) = l[i] := by
  simp [rd, List.getD_eq_getElem?_getD, List.getElem?_eq_getElem h]
theorem rd_of_drop (l : List Int) (n j : Nat) : rd (l.drop n) (j : Int) = rd l ((n + j : Nat) : Int) := by
  unfold rd
  rw [Int.toNat_natCast, Int.toNat_natCast, List.getD_eq_getElem?_getD, List.getD_eq_getElem?_getD, List.getElem?_drop]
theorem byt_rd {l : List Int} (h : ∀ x ∈ l, byt x) (i : Nat) : byt (rd l (i : Int)) := by
  by_cases hi : i < l.length
  · rw [rd_get hi]; exact h _ (List.getElem_mem hi)
  · have : rd l (i : Int) = 0 := by simp [rd, List.getD_eq_getElem?_getD, List.getElem?_eq_none (show l.length ≤ i by omega)]
    rw [this]; decide

/-- The instruction of three bytes. -/
def insT (b0 b1 b2 at_ many : Int) : Int × Int × Int × Int × List Int :=
  if b0 % 8 = 0 ∨ b0 % 8 = 1 then (1, b1 % 4, b2 % 16, b2 / 16 % 5 - 1, [])
  else if b0 % 8 = 2 ∨ b0 % 8 = 3 then (2, b1 % 4, b2 % 16, b2 / 16 % 5 - 1, [])
  else if b0 % 8 = 5 then (4, b1 % 4, b2 % 9, 0, [0, 1])
  else if b0 % 8 = 6 then (if at_ + 2 > many then (3, b1 % 4, 1, 0, []) else (5, b1 % 4, at_ + 2, 0, []))
  else if b0 % 8 = 7 then (if b2 = 255 then (6, 0, 0, 0, []) else if b2 = 254 then (7, 0, 0, 0, []) else (3, b1 % 4, b2, 0, []))
  else (3, b1 % 4, b2, 0, [])

theorem instr_f (l : List Int) (hl : 3 ≤ l.length) (hb : ∀ x ∈ l, byt x) (at_ many : Int) (h0 : 0 ≤ at_) (h1 : at_ ≤ 100000) {k : Nat} (hk : 3 ≤ k) :
    tale_instr.f k l at_ many = some (insT (rd l 0) (rd l 1) (rd l 2) at_ many) := by
  obtain ⟨k, rfl⟩ : ∃ z, k = z + 2 := ⟨k - 2, by omega⟩
  have q0 : byt (rd l 0) := byt_rd hb 0
  have q1 : byt (rd l 1) := byt_rd hb 1
  have q2 : byt (rd l 2) := byt_rd hb 2
  obtain ⟨x, hx⟩ : ∃ x, x = rd l 0 := ⟨_, rfl⟩
  obtain ⟨y, hy⟩ : ∃ y, y = rd l 1 := ⟨_, rfl⟩
  obtain ⟨z, hz⟩ : ∃ z, z = rd l 2 := ⟨_, rfl⟩
  rw [← hx] at q0
  rw [← hy] at q1
  rw [← hz] at q2
  unfold tale_instr.f
  rw [if_pos (by omega), if_pos (by omega), if_pos (by omega), ← hx, ← hy, ← hz]
  have e1 : Int.tmod x 8 = x % 8 := Int.tmod_eq_emod_of_nonneg q0.1
  have e2 : wrap64 y = y := wrap_in (by omega) (by omega)
  have e3 : wrap64 z = z := wrap_in (by omega) (by omega)
  have e4 : Int.tmod y 4 = y % 4 := Int.tmod_eq_emod_of_nonneg q1.1
  have e5 : Int.tmod z 16 = z % 16 := Int.tmod_eq_emod_of_nonneg q2.1
  have e6 : Int.tdiv z 16 = z / 16 := Int.tdiv_eq_ediv_of_nonneg q2.1
  have e7 : wrap64 (z / 16) = z / 16 := wrap_in (by omega) (by omega)
  have e8 : Int.tmod (z / 16) 5 = z / 16 % 5 := Int.tmod_eq_emod_of_nonneg (by omega)
  have e9 : wrap64 (z / 16 % 5 - 1) = z / 16 % 5 - 1 := wrap_in (by omega) (by omega)
  have e10 : wrap64 (at_ + 2) = at_ + 2 := wrap_in (by omega) (by omega)
  have e11 : Int.tmod z 9 = z % 9 := Int.tmod_eq_emod_of_nonneg q2.1
  rw [e1, e2, e3, e4, e5, e6, e7, e8, e9]
  unfold insT
  by_cases c0 : x % 8 = 0
  · rw [if_pos c0, if_pos (.inl c0), c0]
    simp only [tale_instr.j0]
    rfl
  · rw [if_neg c0]
    by_cases c1 : x % 8 = 1
    · rw [if_pos (.inr c1), c1]
      simp only [tale_instr.j0]
      rfl
    · rw [if_neg (by omega)]
      simp only [tale_instr.j0]
      rw [if_neg (by simpa using c1)]
      by_cases c2 : x % 8 = 2
      · rw [if_pos c2, if_pos (.inl c2), c2]
        simp only [tale_instr.j1]
        rfl
      · rw [if_neg c2]
        by_cases c3 : x % 8 = 3
        · rw [if_pos (.inr c3), c3]
          simp only [tale_instr.j1]
          rfl
        · rw [if_neg (show ¬ (x % 8 = 2 ∨ x % 8 = 3) by omega)]
          simp only [tale_instr.j1]
          rw [if_neg (by simpa using c3), e10, e11]
          by_cases c5 : x % 8 = 5
          · rw [if_pos c5, if_pos c5]
          · rw [if_neg c5, if_neg c5]
            by_cases c6 : x % 8 = 6
            · rw [if_pos c6, if_pos c6]
              split <;> rfl
            · rw [if_neg c6, if_neg c6]
              by_cases c7 : x % 8 = 7
              · rw [if_pos c7, if_pos c7]
                split
                · rfl
                · split <;> rfl
              · rw [if_neg c7, if_neg c7]

def toS (t : Int × Int × Int × Int × List Int) : S54 := ⟨t.1, t.2.1, t.2.2.1, t.2.2.2.1, t.2.2.2.2⟩
def manyS (l : List Int) : Nat := min (l.length / 3) 60
def insS (l : List Int) (i : Nat) : S54 := toS (insT (rd l ((3 * i : Nat) : Int)) (rd l ((3 * i + 1 : Nat) : Int)) (rd l ((3 * i + 2 : Nat) : Int)) (i : Int) (manyS l : Int))
/-- The program of bytes. -/
def progS (l : List Int) : List S54 := (List.range (manyS l)).map (insS l)
theorem progS_len (l : List Int) : (progS l).length = manyS l := by simp [progS]

theorem prog_loop (l : List Int) (hb : ∀ x ∈ l, byt x) (d : Nat) : ∀ (k i : Nat), i + d = manyS l → d + 5 < k →
    tale_Prog.l0 k l (manyS l : Int) ((List.range i).map (insS l)) (manyS l : Int) (i : Int) = some (progS l) := by
  have hm1 : manyS l ≤ l.length / 3 := by unfold manyS; omega
  have hm2 : manyS l ≤ 60 := by unfold manyS; omega
  induction d with
  | zero =>
    intro k i hi hk
    obtain ⟨k, rfl⟩ : ∃ z, k = z + 1 := ⟨k - 1, by omega⟩
    simp only [tale_Prog.l0]
    rw [if_neg (by omega), show i = manyS l by omega]
    rfl
  | succ d ih =>
    intro k i hi hk
    obtain ⟨k, rfl⟩ : ∃ z, k = z + 1 := ⟨k - 1, by omega⟩
    have e3 : wrap64 (3 * (i : Int)) = ((3 * i : Nat) : Int) := by rw [wrap_in (by omega) (by omega)]; omega
    simp only [tale_Prog.l0]
    rw [if_pos (by omega), e3, if_pos (by omega), if_pos (by omega)]
    have hdl : (l.drop (3 * i)).length = l.length - 3 * i := by simp
    have hins := instr_f (l.drop (3 * i)) (by omega) (fun x hx => hb x (List.mem_of_mem_drop hx)) (i : Int) (manyS l : Int) (by omega) (by omega) (k := k) (by omega)
    have r0 : rd (l.drop (3 * i)) 0 = rd l ((3 * i : Nat) : Int) := rd_of_drop l (3 * i) 0
    have r1 : rd (l.drop (3 * i)) 1 = rd l ((3 * i + 1 : Nat) : Int) := rd_of_drop l (3 * i) 1
    have r2 : rd (l.drop (3 * i)) 2 = rd l ((3 * i + 2 : Nat) : Int) := rd_of_drop l (3 * i) 2
    rw [r0, r1, r2] at hins
    simp only [Int.toNat_natCast]
    rw [hins]
    simp only [Option.bind_some, List.length_map, List.length_range]
    rw [if_pos (by omega), wrap_in (i := (i : Int) + 1) (by omega) (by omega), show ((i : Int) + 1) = ((i + 1 : Nat) : Int) by omega]
    have := ih k (i + 1) (by omega) (by omega)
    rw [List.range_succ, List.map_append] at this
    exact this
theorem mn_nat (a b : Nat) : mn (a : Int) (b : Int) = ((min a b : Nat) : Int) := by unfold mn; split <;> omega
theorem many_f (l : List Int) (hl : l.length ≤ 100000) : mn (wrap64 ((l.length : Int) / 3)) 60 = (manyS l : Int) := by
  rw [wrap_in (by omega) (by omega)]
  unfold mn manyS
  split <;> omega
theorem prog_f (l : List Int) (hl : l.length ≤ 100000) (hb : ∀ x ∈ l, byt x) {k : Nat} (hk : 100 < k) : tale_Prog.f k l = some (progS l) := by
  unfold tale_Prog.f
  rw [many_f l hl]
  have hm2 : manyS l ≤ 60 := by unfold manyS; omega
  exact prog_loop l hb (manyS l) k 0 (by omega) (by omega)

/-- Thread t's part. -/
def partS (l : List Int) (size t : Nat) : List Int := (l.take ((t + 1) * size)).drop (t * size)
def twoS (l : List Int) (size t : Nat) : List (List S54) := [progS ((partS l size t).take (size / 2)), progS ((partS l size t).drop (size / 2))]
/-- The threads of bytes. -/
def threadsS (l : List Int) (n : Nat) : List (List (List S54)) := (List.range n).map (twoS l (l.length / n))
theorem threads_loop (l : List Int) (hl : l.length ≤ 100000) (hb : ∀ x ∈ l, byt x) (n : Nat) (hn : 0 < n) (hn2 : n ≤ 64) (d : Nat) : ∀ (k i : Nat), i + d = n → d + 200 < k →
    tale_Threads.l0 k l ((List.range i).map (twoS l (l.length / n))) ((l.length / n : Nat) : Int) (n : Int) (i : Int) = some (threadsS l n) := by
  obtain ⟨size, hs⟩ : ∃ s, s = l.length / n := ⟨_, rfl⟩
  have hsn : n * size ≤ l.length := by rw [hs]; exact Nat.mul_div_le _ _
  unfold threadsS
  rw [← hs]
  induction d with
  | zero =>
    intro k i hi hk
    obtain ⟨k, rfl⟩ : ∃ z, k = z + 1 := ⟨k - 1, by omega⟩
    simp only [tale_Threads.l0]
    rw [if_neg (by omega), show i = n by omega]
  | succ d ih =>
    intro k i hi hk
    obtain ⟨k, rfl⟩ : ∃ z, k = z + 1 := ⟨k - 1, by omega⟩
    have hi1 : (i + 1) * size ≤ l.length := Nat.le_trans (Nat.mul_le_mul_right _ (by omega)) hsn
    have hi0 : i * size ≤ (i + 1) * size := Nat.mul_le_mul_right _ (by omega)
    have hsz : size ≤ l.length := Nat.le_trans (by rw [Nat.succ_mul]; omega) hi1
    have c6 : (i : Int) < (n : Int) := Int.ofNat_lt.2 (by omega)
    have c7 : i < 5864062014805 := Nat.lt_of_lt_of_le (show i < 65 by omega) (Nat.le_of_ble_eq_true rfl)
    have hpl : ((l.take ((i + 1) * size)).drop (i * size)).length = size := by
      rw [List.length_drop, List.length_take, Nat.min_eq_left hi1, Nat.succ_mul]
      omega
    have hpb : ∀ x ∈ (l.take ((i + 1) * size)).drop (i * size), byt x := fun x hx => hb x (List.mem_of_mem_take (List.mem_of_mem_drop hx))
    have g1 := prog_f (((l.take ((i + 1) * size)).drop (i * size)).take (size / 2)) (by rw [List.length_take]; omega) (fun x hx => hpb x (List.mem_of_mem_take hx)) (k := k) (by omega)
    have g2 := prog_f (((l.take ((i + 1) * size)).drop (i * size)).drop (size / 2)) (by rw [List.length_drop]; omega) (fun x hx => hpb x (List.mem_of_mem_drop hx)) (k := k) (by omega)
    have g3 := ih k (i + 1) (by omega) (by omega)
    rw [List.range_succ, List.map_append] at g3
    simp only [tale_Threads.l0]
    have c1 : ((i * size : Nat) : Int) ≤ (((i + 1) * size : Nat) : Int) := Int.ofNat_le.2 hi0
    have c2 : (((i + 1) * size : Nat) : Int) ≤ (l.length : Int) := Int.ofNat_le.2 hi1
    have c3 : ((size / 2 : Nat) : Int) ≤ (((l.take ((i + 1) * size)).drop (i * size)).length : Int) := by rw [hpl]; exact Int.ofNat_le.2 (Nat.div_le_self _ _)
    have c4 : (0 : Int) ≤ ((i * size : Nat) : Int) := Int.natCast_nonneg _
    have c5 : (0 : Int) ≤ ((size / 2 : Nat) : Int) := Int.natCast_nonneg _
    have e1 : wrap64 ((i : Int) * (size : Int)) = ((i * size : Nat) : Int) := by rw [← Int.natCast_mul]; exact wrap_in (by omega) (by omega)
    have e0 : wrap64 ((i : Int) + 1) = ((i + 1 : Nat) : Int) := by rw [wrap_in (by omega) (by omega)]; omega
    have e2 : wrap64 (((i + 1 : Nat) : Int) * (size : Int)) = (((i + 1) * size : Nat) : Int) := by rw [← Int.natCast_mul]; exact wrap_in (by omega) (by omega)
    have e3 : wrap64 (Int.tdiv (size : Int) 2) = ((size / 2 : Nat) : Int) := by
      rw [Int.tdiv_eq_ediv_of_nonneg (by omega), wrap_in (by omega) (by omega)]
      omega
    rw [if_pos c6, e1, e0, e2, e3, if_pos c4, if_pos c1, if_pos c2, if_pos c5]
    simp only [Int.toNat_natCast]
    rw [if_pos c3, g1, g2]
    simp only [Option.bind_some, List.length_map, List.length_range]
    rw [if_pos c7]
    exact g3
theorem threads_f (l : List Int) (hl : l.length ≤ 100000) (hb : ∀ x ∈ l, byt x) (n : Int) {k : Nat} (hk : 400 < k) : tale_Threads.f k l n = some (if n < 1 ∨ 64 < n then [] else threadsS l n.toNat) := by
  obtain ⟨k', hk'⟩ : ∃ z, k = z + 1 := ⟨k - 1, by omega⟩
  unfold tale_Threads.f
  by_cases h1 : n < 1
  · rw [if_pos h1, if_pos (.inl h1), hk']
    simp only [tale_Threads.j0]
    rfl
  · rw [if_neg h1]
    by_cases h2 : 64 < n
    · rw [if_pos (.inr h2), decide_eq_true (show n > 64 from h2), hk']
      simp only [tale_Threads.j0]
      rfl
    · rw [if_neg (by omega), decide_eq_false (show ¬ n > 64 from h2), hk']
      obtain ⟨m, rfl⟩ := Int.eq_ofNat_of_zero_le (show 0 ≤ n by omega)
      simp only [tale_Threads.j0]
      rw [if_neg (by decide), if_neg (by omega)]
      have e : wrap64 ((l.length : Int) / (m : Int)) = ((l.length / m : Nat) : Int) := by
        have h3 : l.length / m ≤ l.length := Nat.div_le_self _ _
        have h4 : ∀ q : Nat, q ≤ l.length → wrap64 (q : Int) = (q : Int) := fun q h => wrap_in (by omega) (by omega)
        rw [← Int.natCast_ediv]
        exact h4 _ h3
      rw [e, Int.toNat_natCast]
      exact threads_loop l hl hb m (by omega) (by omega) m k' 0 (by omega) (by omega)

/-- So many picks there are. -/
def topS (n : Int) : Int := mx n (wrap64 (n + 1))
theorem topS_pos {n : Int} (h : 1 ≤ n) : 1 ≤ topS n := by unfold topS mx; split <;> omega
theorem wrap_f (a m : Int) (h0 : 0 ≤ a) (h1 : 1 ≤ m) : calc_Wrap.f a m = some (a % m) := by
  unfold calc_Wrap.f
  have e : Int.tmod a m = a % m := Int.tmod_eq_emod_of_nonneg h0
  have := Int.emod_nonneg a (show m ≠ 0 by omega)
  rw [if_neg (by omega), if_neg (by omega), e, if_neg (by omega)]
def picksS (l : List Int) (n : Int) : List Int := l.map fun c => c % topS n
theorem picks_loop (l : List Int) (hl : l.length ≤ 100000) (hb : ∀ x ∈ l, byt x) (n : Int) (hn : 1 ≤ n) (d : Nat) : ∀ (k i : Nat), i + d = l.length → d + 5 < k →
    tale_Picks.l0 k n ((l.take i).map fun c => c % topS n) l (l.length : Int) (i : Int) = some (picksS l n) := by
  induction d with
  | zero =>
    intro k i hi hk
    obtain ⟨k, rfl⟩ : ∃ z, k = z + 1 := ⟨k - 1, by omega⟩
    simp only [tale_Picks.l0]
    rw [if_neg (by omega), List.take_of_length_le (by omega)]
    rfl
  | succ d ih =>
    intro k i hi hk
    obtain ⟨k, rfl⟩ : ∃ z, k = z + 1 := ⟨k - 1, by omega⟩
    have hil : i < l.length := by omega
    have hq := byt_rd hb i
    simp only [tale_Picks.l0]
    rw [if_pos (by omega), if_pos (by omega), if_pos (by omega), wrap_in (i := rd l (i : Int)) (by omega) (by omega)]
    have := wrap_f (rd l (i : Int)) (topS n) hq.1 (topS_pos hn)
    unfold topS at this
    rw [this]
    simp only [Option.bind_some, List.length_map, List.length_take]
    rw [if_pos (by omega), wrap_in (i := (i : Int) + 1) (by omega) (by omega), show ((i : Int) + 1) = ((i + 1 : Nat) : Int) by omega]
    have h2 := ih k (i + 1) (by omega) (by omega)
    rw [List.take_succ_eq_append_getElem hil, List.map_append, ← rd_get hil] at h2
    exact h2
theorem picks_f (l : List Int) (hl : l.length ≤ 100000) (hb : ∀ x ∈ l, byt x) (n : Int) {k : Nat} (hk : l.length + 10 < k) : tale_Picks.f k l n = some (if n < 1 then [] else picksS l n) := by
  unfold tale_Picks.f
  by_cases h : n < 1
  · rw [if_pos h, if_pos h]
  · rw [if_neg h, if_neg h]
    exact picks_loop l hl hb n (by omega) l.length k 0 (by omega) (by omega)

theorem bytes_of {l : List Int} (h : ∀ x ∈ l, (Lit.int .u8 x).wf = true) : ∀ x ∈ l, byt x := by
  intro x hx
  have := h x hx
  simp [Lit.wf] at this
  have e1 : IntKind.u8.min = 0 := rfl
  have e2 : IntKind.u8.max = 255 := rfl
  omega

end Go.Proofs.Ytfdnhhjggophcaa.Tc
