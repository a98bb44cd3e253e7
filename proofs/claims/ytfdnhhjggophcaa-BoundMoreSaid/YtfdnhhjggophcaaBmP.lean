/- Plain facts for BoundMore: longer programs, more programs, greater windows, parts; no program in sight. -/
import Derived.Test.YtfdnhhjggophcaaBp
import Derived.Test.YtfdnhhjggophcaaPAbx
namespace Go.Proofs.Ytfdnhhjggophcaa.Bo
open Go.RowKit Go.Proofs.Ytfdnhhjggophcaa.PAb Go.Proofs.YtfdnhhjggophcaaW.PrintWords Go.Proofs.YtfdnhhjggophcaaW.PrintLast Go.Proofs.YtfdnhhjggophcaaW.PrintMore
theorem chk_t {c0 c1 c2 c3 t c5 c6 c7 c8 c9 c10 pol : Int} (h : shape_Check.f c0 c1 c2 c3 t c5 c6 c7 c8 c9 c10 pol = some 0) : 1 ≤ t ∧ t ≤ 64 := by
  unfold shape_Check.f at h
  have h := Option.some.inj h
  unfold shape_Check.g at h
  by_cases hc : shape_Check.chkAll (shape_Check.chkN c0 c1 c2 c3 t c5 c6 c7 c8 c9 c10 pol) 12 = true
  · have h5 := shape_Check.chkAll_le hc 5 (by omega)
    simp only [shape_Check.chkAll, Bool.and_eq_true] at h5
    have h4 := h5.2
    have e1 : shape_Check.chkN c0 c1 c2 c3 t c5 c6 c7 c8 c9 c10 pol 4 = t := rfl
    have e2 : shape_Check.chkLo 4 = 1 := rfl
    have e3 : shape_Check.chkHi 4 = 64 := rfl
    rw [e1, e2, e3] at h4
    simp at h4
    omega
  · rw [if_neg hc] at h
    cases h
theorem win_mono {s u n m t pol : Int} (s1 : 8 ≤ s) (su : s ≤ u) (n0 : 1 ≤ n) (nm : n ≤ m) (t0 : 1 ≤ t) (t1 : t ≤ 64) : winS s n t pol ≤ winS u m t pol := by
  unfold winS
  have a1 := tm_mono (a := s) (b := t + 2) (c := u) (d := t + 2) (by omega) (by omega) su (Int.le_refl _)
  have a2 := tm_in (a := s) (b := t + 2) (by omega) (by omega)
  have a3 := tm_in (a := u) (b := t + 2) (by omega) (by omega)
  have a4 := tm_mono (a := tmS s (t + 2)) (b := s + 2) (c := tmS u (t + 2)) (d := u + 2) a2.1 (by omega) a1 (by omega)
  have a5 := tm_in (a := tmS s (t + 2)) (b := s + 2) a2.1 (by omega)
  by_cases hp : pol = 1
  · rw [if_pos hp, if_pos hp, if_neg (by omega), if_neg (by omega)]
    exact tm_mono (by omega) (by unfold mn; split <;> omega) nm (by unfold mn; split <;> split <;> omega)
  · rw [if_neg hp, if_neg hp]
    have b1 : 1 ≤ mn (tmS s (t + 2) + 8) 1099511627776 := by unfold mn; split <;> omega
    have b2 : mn (tmS s (t + 2) + 8) 1099511627776 ≤ mn (tmS u (t + 2) + 8) 1099511627776 := by unfold mn; split <;> split <;> omega
    exact tm_mono (by have := (pow_in _ b1 (t.toNat + 1) 1 (by omega) (by omega)).1; omega) (by omega) (pow_mono _ b1 b2 (by omega) (Int.le_refl _)) (by omega)
theorem more_win (c0 c1 c2 c3 t c5 c6 c7 c8 c9 c10 pol : Int) (p q : List Ins) (hp : p.length ≤ 60) (hq : q.length ≤ 60) :
    ∃ x y, bound_Windows.f 4000 c0 c1 c2 c3 t c5 c6 c7 c8 c9 c10 pol [[p]] = some x ∧ bound_Windows.f 4000 c0 c1 c2 c3 t c5 c6 c7 c8 c9 c10 pol [[p, q]] = some y ∧ x ≤ y := by
  obtain ⟨r, hr⟩ : ∃ r, shape_Check.f c0 c1 c2 c3 t c5 c6 c7 c8 c9 c10 pol = some r := ⟨_, rfl⟩
  by_cases h : r = 0
  · rw [h] at hr
    obtain ⟨t0, t1⟩ := chk_t hr
    refine ⟨_, _, win_f c0 c1 c2 c3 t c5 c6 c7 c8 c9 c10 pol [p] (by simp; omega) (by simp) t0 t1 hr (by omega), win_f c0 c1 c2 c3 t c5 c6 c7 c8 c9 c10 pol [p, q] (by simp; omega) (by simp) t0 t1 hr (by omega), ?_⟩
    have h1 := sumS_in p
    have h2 := sumS_in q
    have h3 := mx_ge 8 (stS p)
    have h4 := mx_ge (mx 8 (stS p)) (stS q)
    simp only [maxS, List.length_cons, List.length_nil]
    unfold stS at *
    exact win_mono (by omega) (by omega) (by omega) (by omega) t0 t1
  · exact ⟨0, 0, win_bad c0 c1 c2 c3 t c5 c6 c7 c8 c9 c10 pol r _ hr h _, win_bad c0 c1 c2 c3 t c5 c6 c7 c8 c9 c10 pol r _ hr h _, Int.le_refl _⟩
theorem more_fair {l : List Int} {w many : Nat} (h : fairB l w many 0 (l.length + 1 - w) = true) (cut : Nat) (hc : cut ≤ l.length) :
    fairB l (w + 1) many 0 (l.length + 1 - (w + 1)) = true ∧ fairB (l.take cut) w many 0 ((l.take cut).length + 1 - w) = true ∧ fairB (l.drop cut) w many 0 ((l.drop cut).length + 1 - w) = true := by
  rw [fair_iff] at h
  refine ⟨(fair_iff _ _ _).2 ?_, (fair_iff _ _ _).2 ?_, (fair_iff _ _ _).2 ?_⟩
  · intro j hj x h0 h1
    have h2 := h j (by omega) x h0 h1
    have e : (l.take (j + w)).drop j = ((l.take (j + (w + 1))).drop j).take w := by rw [List.take_drop, List.take_take]; congr 2; omega
    rw [e] at h2
    exact List.mem_of_mem_take h2
  · intro j hj x h0 h1
    rw [List.length_take] at hj
    have h2 := h j (by omega) x h0 h1
    rw [List.take_take, show min (j + w) cut = j + w by omega]
    exact h2
  · intro j hj x h0 h1
    rw [List.length_drop] at hj
    have h2 := h (cut + j) (by omega) x h0 h1
    rw [List.take_drop, List.drop_drop, show cut + (j + w) = cut + j + w by omega]
    exact h2
theorem plain_append (p q : List Ins) : bound_Plain.g (p ++ q) = (bound_Plain.g p && bound_Plain.g q) := by
  unfold bound_Plain.g
  exact List.all_append
theorem steps_append (p q : List Ins) : stS (p ++ q) = stS p + stS q - 8 := by
  unfold stS
  rw [sumS_append]
  omega
end Go.Proofs.Ytfdnhhjggophcaa.Bo
