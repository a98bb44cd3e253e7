/- Plain facts on bound.Steps, times, Windows: what they come to; no program in sight. -/
import Derived.Test.YtfdnhhjggophcaaBoF
namespace Go.Proofs.Ytfdnhhjggophcaa.Bo
open Go.RowKit Go.Proofs.Ytfdnhhjggophcaa.PAb Go.Proofs.YtfdnhhjggophcaaW.PrintWords Go.Proofs.YtfdnhhjggophcaaW.PrintLast Go.Proofs.YtfdnhhjggophcaaW.PrintMore

theorem first_at : ltklaw21_first.f 60 = some true := by decide +kernel
theorem first_f {k : Nat} (hk : 60 ≤ k) : ltklaw21_first.f k = some true := at_rounds ltklaw21_first.mono hk first_at
abbrev Ins := S54
def costS (x : Ins) : Int := if x.f0 = 1 then 40 else if x.f0 = 2 then 40 else 1
def sumS : List Ins → Int
  | [] => 0
  | x :: l => costS x + sumS l
def stS (l : List Ins) : Int := 8 + sumS l
theorem costS_in (x : Ins) : 1 ≤ costS x ∧ costS x ≤ 40 := by unfold costS; split <;> (try split) <;> omega
theorem sumS_in (l : List Ins) : (l.length : Int) ≤ sumS l ∧ sumS l ≤ 40 * l.length := by
  induction l with
  | nil => simp [sumS]
  | cons x l ih => have := costS_in x; simp only [sumS, List.length_cons]; omega
theorem sumS_append (a b : List Ins) : sumS (a ++ b) = sumS a + sumS b := by
  induction a with
  | nil => simp [sumS]
  | cons x a ih => simp only [List.cons_append, sumS]; rw [ih]; omega
theorem rdT_drop {l : List Ins} {i : Nat} (h : i < l.length) : l.drop i = rd_T54 l (i : Int) :: l.drop (i + 1) := by
  rw [List.drop_eq_getElem_cons h]
  congr 1
  simp [rd_T54, List.getD_eq_getElem?_getD, List.getElem?_eq_getElem h]
theorem steps_loop (l : List Ins) (hl : l.length ≤ 1000000) (d : Nat) : ∀ (k i : Nat) (n : Int), i + d = l.length → d < k → 0 ≤ n → n ≤ 8 + 40 * i → bound_Steps.l0 k n l (l.length : Int) (i : Int) = some (n + sumS (l.drop i)) := by
  induction d with
  | zero =>
    intro k i n hi hk h0 hn
    obtain ⟨k, rfl⟩ : ∃ z, k = z + 1 := ⟨k - 1, by omega⟩
    simp only [bound_Steps.l0]
    rw [if_neg (by omega), List.drop_eq_nil_of_le (by omega)]
    simp [sumS]
  | succ d ih =>
    intro k i n hi hk h0 hn
    obtain ⟨k, rfl⟩ : ∃ z, k = z + 1 := ⟨k - 1, by omega⟩
    simp only [bound_Steps.l0]
    rw [if_pos (by omega), if_pos (by omega), if_pos (by omega), rdT_drop (show i < l.length by omega)]
    simp only [sumS]
    generalize rd_T54 l (i : Int) = x
    rw [wrap_in (i := (i : Int) + 1) (by omega) (by omega), show ((i : Int) + 1) = ((i + 1 : Nat) : Int) by omega]
    unfold costS
    by_cases h1 : x.f0 = 1
    · rw [if_pos h1, if_pos h1, wrap_in (by omega) (by omega), ih k (i + 1) _ (by omega) (by omega) (by omega) (by omega)]
      congr 1; omega
    · rw [if_neg h1, if_neg h1]
      by_cases h2 : x.f0 = 2
      · rw [if_pos h2, if_pos h2, wrap_in (by omega) (by omega), ih k (i + 1) _ (by omega) (by omega) (by omega) (by omega)]
        congr 1; omega
      · rw [if_neg h2, if_neg h2, wrap_in (by omega) (by omega), ih k (i + 1) _ (by omega) (by omega) (by omega) (by omega)]
        congr 1; omega
theorem steps_f (l : List Ins) (hl : l.length ≤ 1000000) {k : Nat} (hk : l.length < k) : bound_Steps.f k l = some (stS l) := by
  unfold bound_Steps.f
  have := steps_loop l hl l.length k 0 8 (by omega) hk (by omega) (by omega)
  rw [List.drop_zero] at this
  exact this
/-! ### times -/
abbrev MM : Int := 1099511627776
def tmS (a b : Int) : Int := if 1099511627776 / b < a then 1099511627776 else a * b
theorem times_f {a b : Int} (h0 : 0 ≤ a) (h1 : 1 ≤ b) : bound_times.f a b = some (tmS a b) := by
  unfold bound_times.f; rw [if_pos ⟨h0, h1⟩]; rfl
theorem tm_eq {a b : Int} (h0 : 0 ≤ a) (h1 : 1 ≤ b) : tmS a b = if a * b ≤ 1099511627776 then a * b else 1099511627776 := by
  unfold tmS
  by_cases h : 1099511627776 / b < a
  · rw [if_pos h]
    have h2 : 1099511627776 < a * b := by
      have e := Int.mul_ediv_add_emod 1099511627776 b
      have e2 := Int.emod_lt_of_pos 1099511627776 (show 0 < b by omega)
      have h3 : (1099511627776 / b + 1) * b ≤ a * b := Int.mul_le_mul_of_nonneg_right (by omega) (by omega)
      rw [Int.add_mul, Int.one_mul, Int.mul_comm (1099511627776 / b) b] at h3
      omega
    rw [if_neg (by omega)]
  · rw [if_neg h, if_pos (bound_times.le h0 h1 h).2]
theorem tm_in {a b : Int} (h0 : 0 ≤ a) (h1 : 1 ≤ b) : 0 ≤ tmS a b ∧ tmS a b ≤ 1099511627776 ∧ tmS a b ≤ a * b := by
  rw [tm_eq h0 h1]
  have := Int.mul_nonneg h0 (show 0 ≤ b by omega)
  split <;> omega
theorem tm_mono {a b c d : Int} (h0 : 0 ≤ a) (h1 : 1 ≤ b) (ha : a ≤ c) (hb : b ≤ d) : tmS a b ≤ tmS c d := by
  rw [tm_eq h0 h1, tm_eq (by omega) (by omega)]
  have : a * b ≤ c * d := Int.le_trans (Int.mul_le_mul_of_nonneg_right ha (by omega)) (Int.mul_le_mul_of_nonneg_left hb (by omega))
  split <;> split <;> omega
theorem tm_one {a b : Int} (h0 : 0 ≤ a) (h1 : 1 ≤ b) (ha : a ≤ 1099511627776) : a ≤ tmS a b := by
  rw [tm_eq h0 h1]
  have : a * 1 ≤ a * b := Int.mul_le_mul_of_nonneg_left h1 h0
  split <;> omega
/-- all, k times over. -/
def powS (one x : Int) : Nat → Int
  | 0 => x
  | k + 1 => powS one (tmS x one) k
def winS (s n t pol : Int) : Int := if pol = 1 then (if n = 0 then 0 else tmS n (mn (tmS (tmS s (t + 2)) (s + 2) + 2 * s + 8) 1099511627776)) else tmS (powS (mn (tmS s (t + 2) + 8) 1099511627776) 1 (t.toNat + 1)) (n + 1)
theorem pow_in (one : Int) (h1 : 1 ≤ one) (k : Nat) : ∀ x, 0 ≤ x → x ≤ 1099511627776 → x ≤ powS one x k ∧ powS one x k ≤ 1099511627776 := by
  induction k with
  | zero => intro x h0 hx; exact ⟨Int.le_refl _, hx⟩
  | succ k ih =>
    intro x h0 hx
    obtain ⟨a, b, _⟩ := tm_in h0 h1
    obtain ⟨c, d⟩ := ih _ a b
    have := tm_one h0 h1 hx
    simp only [powS]
    omega
theorem pow_mono (k : Nat) : ∀ {o p x y : Int}, 1 ≤ o → o ≤ p → 0 ≤ x → x ≤ y → powS o x k ≤ powS p y k := by
  induction k with
  | zero => intro o p x y _ _ _ h; exact h
  | succ k ih =>
    intro o p x y h1 h2 h3 h4
    exact ih h1 h2 (tm_in h3 h1).1 (tm_mono h3 h1 h4 h2)
theorem win_pow (one n : Int) (h1 : 1 ≤ one) (h0 : 0 ≤ n) (hn : n ≤ 1000000) (m : Int) (hm : m ≤ 1000000) (d : Nat) : ∀ (k : Nat) (x i : Int), 0 ≤ i → i + d = m → d < k → 0 ≤ x → x ≤ 1099511627776 →
    bound_Windows.l2 k n one x m i = some (tmS (powS one x d) (n + 1)) := by
  induction d with
  | zero =>
    intro k x i hi hd hk hx hx2
    obtain ⟨k, rfl⟩ : ∃ z, k = z + 1 := ⟨k - 1, by omega⟩
    simp only [bound_Windows.l2]
    rw [if_neg (by omega), wrap_in (i := n + 1) (by omega) (by omega), times_f hx (by omega)]
    rfl
  | succ d ih =>
    intro k x i hi hd hk hx hx2
    obtain ⟨k, rfl⟩ : ∃ z, k = z + 1 := ⟨k - 1, by omega⟩
    obtain ⟨a, b, _⟩ := tm_in hx h1
    simp only [bound_Windows.l2]
    rw [if_pos (by omega), times_f hx h1]
    simp only [Option.bind_some]
    rw [wrap_in (i := i + 1) (by omega) (by omega), ih k _ (i + 1) (by omega) (by omega) (by omega) a b]
    rfl
/-- The end of Windows, when all programs are counted. -/
theorem win_end (c0 c1 c2 c3 t c5 c6 c7 c8 c9 c10 pol : Int) (L : List (List (List Ins))) (n s m i : Int) (hi : m ≤ i) (s1 : 8 ≤ s) (s2 : s ≤ 1000000) (n0 : 0 ≤ n) (n1 : n ≤ 1000000) (t0 : 1 ≤ t) (t1 : t ≤ 64) {k : Nat} (hk : 100 ≤ k) :
    bound_Windows.l0 k s n L m i c0 c1 c2 c3 t c5 c6 c7 c8 c9 c10 pol = some (winS s n t pol) := by
  obtain ⟨k, rfl⟩ : ∃ z, k = z + 1 := ⟨k - 1, by omega⟩
  simp only [bound_Windows.l0]
  rw [if_neg (by omega)]
  unfold winS
  rw [wrap_in (i := t + 2) (by omega) (by omega), wrap_in (i := s + 2) (by omega) (by omega), wrap_in (i := 2 * s) (by omega) (by omega), wrap_in (i := t + 1) (by omega) (by omega)]
  obtain ⟨a, b, _⟩ := tm_in (a := s) (b := t + 2) (by omega) (by omega)
  obtain ⟨c, d, _⟩ := tm_in (a := tmS s (t + 2)) (b := s + 2) a (by omega)
  by_cases hp : pol = 1
  · rw [if_pos hp, if_pos hp]
    by_cases hn : n = 0
    · rw [if_pos hn, if_pos hn]
    · rw [if_neg hn, if_neg hn, times_f (by omega) (by omega)]
      simp only [Option.bind_some]
      rw [times_f a (by omega)]
      simp only [Option.bind_some]
      rw [wrap_in (i := tmS (tmS s (t + 2)) (s + 2) + 2 * s) (by omega) (by omega), wrap_in (by omega) (by omega), times_f n0 (by unfold mn; split <;> omega)]
      rfl
  · rw [if_neg hp, if_neg hp, times_f (by omega) (by omega)]
    simp only [Option.bind_some]
    rw [wrap_in (i := tmS s (t + 2) + 8) (by omega) (by omega)]
    exact win_pow _ n (by unfold mn; split <;> omega) n0 n1 (t + 1) (by omega) (t.toNat + 1) k 1 0 (by omega) (by omega) (by omega) (by omega) (by omega)
def chk (c0 c1 c2 c3 t c5 c6 c7 c8 c9 c10 pol : Int) : Prop := shape_Check.f c0 c1 c2 c3 t c5 c6 c7 c8 c9 c10 pol = some 0
theorem mx_ge (a b : Int) : a ≤ mx a b ∧ b ≤ mx a b ∧ (mx a b = a ∨ mx a b = b) := by unfold mx; split <;> omega
/-- The programs of one thread. -/
def maxS (ps : List (List Ins)) (s : Int) : Int := match ps with
  | [] => s
  | p :: ps => maxS ps (mx s (stS p))
theorem rdL_drop {ps : List (List Ins)} {i : Nat} (h : i < ps.length) : ps.drop i = rd_L4 ps (i : Int) :: ps.drop (i + 1) := by
  rw [List.drop_eq_getElem_cons h]
  congr 1
  simp [rd_L4, List.getD_eq_getElem?_getD, List.getElem?_eq_getElem h]
theorem maxS_in (ps : List (List Ins)) (hp : ∀ p ∈ ps, p.length ≤ 1000) : ∀ s : Int, 8 ≤ s → s ≤ 100000 → 8 ≤ maxS ps s ∧ maxS ps s ≤ 100000 := by
  induction ps with
  | nil => intro s h1 h2; exact ⟨h1, h2⟩
  | cons p ps ih =>
    intro s h1 h2
    have h3 := sumS_in p
    have h4 := hp p (List.mem_cons_self ..)
    have h5 := mx_ge s (stS p)
    unfold stS at h5
    exact ih (fun q hq => hp q (List.mem_cons_of_mem _ hq)) _ (by unfold stS; omega) (by unfold stS; omega)
theorem win_thread (c0 c1 c2 c3 t c5 c6 c7 c8 c9 c10 pol : Int) (ps : List (List Ins)) (hp : ∀ p ∈ ps, p.length ≤ 1000) (hl : ps.length ≤ 1000) (t0 : 1 ≤ t) (t1 : t ≤ 64) (d : Nat) : ∀ (k i : Nat) (s n : Int), i + d = ps.length → d + 2000 ≤ k → 8 ≤ s → s ≤ 100000 → n = i →
    bound_Windows.l1 k s n [ps] 1 0 ps (ps.length : Int) (i : Int) c0 c1 c2 c3 t c5 c6 c7 c8 c9 c10 pol = some (winS (maxS (ps.drop i) s) ps.length t pol) := by
  induction d with
  | zero =>
    intro k i s n hi hk h1 h2 hn
    obtain ⟨k, rfl⟩ : ∃ z, k = z + 1 := ⟨k - 1, by omega⟩
    simp only [bound_Windows.l1]
    rw [if_neg (by omega), wrap_in (i := (0 : Int) + 1) (by omega) (by omega), win_end c0 c1 c2 c3 t c5 c6 c7 c8 c9 c10 pol [ps] n s 1 (0 + 1) (by omega) h1 (by omega) (by omega) (by omega) t0 t1 (by omega), List.drop_eq_nil_of_le (by omega), hn, show i = ps.length by omega]
    rfl
  | succ d ih =>
    intro k i s n hi hk h1 h2 hn
    obtain ⟨k, rfl⟩ : ∃ z, k = z + 1 := ⟨k - 1, by omega⟩
    have hd := rdL_drop (show i < ps.length by omega)
    have hm : rd_L4 ps (i : Int) ∈ ps := List.mem_of_mem_drop (by rw [hd]; exact List.mem_cons_self ..)
    have hq := hp _ hm
    simp only [bound_Windows.l1]
    rw [if_pos (by omega), if_pos (by omega), if_pos (by omega), steps_f _ (by omega) (by omega), hd]
    simp only [Option.bind_some]
    have h3 := sumS_in (rd_L4 ps (i : Int))
    have h5 := mx_ge s (stS (rd_L4 ps (i : Int)))
    unfold stS at h5
    rw [wrap_in (i := n + 1) (by omega) (by omega), wrap_in (i := (i : Int) + 1) (by omega) (by omega), show ((i : Int) + 1) = ((i + 1 : Nat) : Int) by omega, ih k (i + 1) _ _ (by omega) (by omega) (by unfold stS; omega) (by unfold stS; omega) (by omega)]
    rfl
theorem win_f (c0 c1 c2 c3 t c5 c6 c7 c8 c9 c10 pol : Int) (ps : List (List Ins)) (hp : ∀ p ∈ ps, p.length ≤ 1000) (hl : ps.length ≤ 1000) (t0 : 1 ≤ t) (t1 : t ≤ 64) (hc : shape_Check.f c0 c1 c2 c3 t c5 c6 c7 c8 c9 c10 pol = some 0) {k : Nat} (hk : 4000 ≤ k) :
    bound_Windows.f k c0 c1 c2 c3 t c5 c6 c7 c8 c9 c10 pol [ps] = some (winS (maxS ps 8) ps.length t pol) := by
  unfold bound_Windows.f
  rw [hc]
  simp only [Option.bind_some]
  rw [if_pos trivial]
  obtain ⟨k, rfl⟩ : ∃ z, k = z + 1 := ⟨k - 1, by omega⟩
  have e : rd_L5 [ps] 0 = ps := rfl
  simp only [bound_Windows.l0]
  rw [if_pos (by simp), if_pos (by omega), if_pos (by simp), e]
  have := win_thread c0 c1 c2 c3 t c5 c6 c7 c8 c9 c10 pol ps hp hl t0 t1 ps.length k 0 8 0 (by omega) (by omega) (by omega) (by omega) rfl
  rw [List.drop_zero] at this
  exact this
theorem win_bad (c0 c1 c2 c3 t c5 c6 c7 c8 c9 c10 pol r : Int) (L : List (List (List Ins))) (hc : shape_Check.f c0 c1 c2 c3 t c5 c6 c7 c8 c9 c10 pol = some r) (hr : r ≠ 0) (k : Nat) :
    bound_Windows.f k c0 c1 c2 c3 t c5 c6 c7 c8 c9 c10 pol L = some 0 := by
  unfold bound_Windows.f
  rw [hc]
  simp only [Option.bind_some]
  rw [if_neg hr]
/-! ### by policies -/
theorem pol_law (s t : Int) (s1 : 8 ≤ s) (s2 : s ≤ 2408) (t1 : 2 ≤ t) (t2 : t ≤ 16) :
    winS s 1 t 1 ≤ winS s 1 t 0 ∧ winS s 1 t 0 = winS s 1 t 2 ∧ winS s 1 (t + 1) 1 > winS s 1 t 1 ∧ winS s 1 t 1 > 0 ∧ winS s 1 t 0 ≤ 1099511627776 := by
  have val : ∀ t : Int, 2 ≤ t → t ≤ 17 → 32 ≤ s * (t + 2) ∧ 4 * s ≤ s * (t + 2) ∧ s * (t + 2) ≤ 50000 ∧ 0 ≤ s * (t + 2) * (s + 2) ∧ s * (t + 2) * (s + 2) ≤ 200000000 ∧ tmS s (t + 2) = s * (t + 2) ∧ winS s 1 t 1 = s * (t + 2) * (s + 2) + 2 * s + 8 := by
    intro t h1 h2
    have e1 : s * 4 ≤ s * (t + 2) := Int.mul_le_mul_of_nonneg_left (by omega) (by omega)
    have e2 : s * (t + 2) ≤ s * 19 := Int.mul_le_mul_of_nonneg_left (by omega) (by omega)
    have e3 : tmS s (t + 2) = s * (t + 2) := by rw [tm_eq (by omega) (by omega), if_pos (by omega)]
    have e4 : 0 ≤ s * (t + 2) * (s + 2) := Int.mul_nonneg (by omega) (by omega)
    have e5 : s * (t + 2) * (s + 2) ≤ 50000 * (s + 2) := Int.mul_le_mul_of_nonneg_right (by omega) (by omega)
    refine ⟨by omega, by omega, by omega, e4, by omega, e3, ?_⟩
    unfold winS
    rw [if_pos rfl, if_neg (by decide), e3]
    generalize hX : s * (t + 2) = X at *
    rw [tm_eq (a := X) (b := s + 2) (by omega) (by omega), if_pos (by omega)]
    have e6 : mn (X * (s + 2) + 2 * s + 8) 1099511627776 = X * (s + 2) + 2 * s + 8 := by unfold mn; split <;> omega
    rw [e6, tm_eq (by omega) (by omega), Int.one_mul, if_pos (by omega)]
  obtain ⟨a1, a2, a3, a4, a5, a6, a7⟩ := val t t1 (by omega)
  obtain ⟨b1, b2, b3, b4, b5, b6, b7⟩ := val (t + 1) (by omega) (by omega)
  have hz : winS s 1 t 0 = tmS (powS (mn (tmS s (t + 2) + 8) 1099511627776) 1 (t.toNat + 1)) 2 := by unfold winS; rw [if_neg (by decide)]; rfl
  have hz2 : winS s 1 t 2 = tmS (powS (mn (tmS s (t + 2) + 8) 1099511627776) 1 (t.toNat + 1)) 2 := by unfold winS; rw [if_neg (by decide)]; rfl
  rw [hz, hz2, a7, b7, a6]
  have e6 : mn (s * (t + 2) + 8) 1099511627776 = s * (t + 2) + 8 := by unfold mn; split <;> omega
  rw [e6]
  have hstep : s * (t + 1 + 2) = s * (t + 2) + s := by rw [show t + 1 + 2 = (t + 2) + 1 by omega, Int.mul_add s (t + 2) 1, Int.mul_one]
  rw [hstep] at b4 b5 ⊢
  generalize hX : s * (t + 2) = X at *
  obtain ⟨u, hu⟩ : ∃ u, t.toNat + 1 = u + 1 + 1 := ⟨t.toNat - 1, by omega⟩
  rw [hu]
  have q0 := tm_in (a := 1) (b := X + 8) (by omega) (by omega)
  have q1 : tmS 1 (X + 8) = X + 8 := by rw [tm_eq (by omega) (by omega), Int.one_mul, if_pos (by omega)]
  have q2 : tmS (X + 8) (X + 8) = (X + 8) * (X + 8) ∨ tmS (X + 8) (X + 8) = 1099511627776 := by rw [tm_eq (by omega) (by omega)]; split <;> simp
  have q3 := tm_in (a := X + 8) (b := X + 8) (by omega) (by omega)
  have q4 := pow_in (X + 8) (by omega) u _ q3.1 q3.2.1
  have q5 : powS (X + 8) 1 (u + 1 + 1) = powS (X + 8) (tmS (X + 8) (X + 8)) u := by simp only [powS]; rw [q1]
  rw [q5]
  have q6 := tm_one (a := powS (X + 8) (tmS (X + 8) (X + 8)) u) (b := 2) (by omega) (by omega) q4.2
  have q7 := tm_in (a := powS (X + 8) (tmS (X + 8) (X + 8)) u) (b := 2) (by omega) (by omega)
  have q8 : X * (s + 2) ≤ X * X := Int.mul_le_mul_of_nonneg_left (by omega) (by omega)
  have q9 : (X + 8) * (X + 8) = X * X + 16 * X + 64 := by rw [Int.add_mul, Int.mul_add, Int.mul_comm X 8]; omega
  have q10 : X * (s + 2) < (X + s) * (s + 2) := Int.mul_lt_mul_of_pos_right (by omega) (by omega)
  refine ⟨by omega, rfl, by omega, by omega, by omega⟩
end Go.Proofs.Ytfdnhhjggophcaa.Bo
