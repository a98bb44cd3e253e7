-- Written by a program of this session (myprint.py) over the kit's print; some functions' contracts are given by hand.
import Derived.Test.YtefcjnnngaaihaaDoorPPgx0
namespace Go.Proofs.YtefcjnnngaaihaaDoor.PPg
open Go.RowKit Go.Proofs.YtefcjnnngaaihaaDoorW.PrintWords Go.Proofs.YtefcjnnngaaihaaDoorW.PrintLast Go.Proofs.YtefcjnnngaaihaaDoorW.PrintMore
attribute [local go_sem] max2_int min2_int max_two min_two max_three min_three max_four min_four   -- for this text's walks alone
set_option linter.unusedVariables false
set_option linter.unusedSimpArgs false

/-! ### shape_Check: function 20 (by hand) -/
def shape_Check.chkN (a0_0 a0_1 a0_2 a0_3 a0_4 a0_5 a0_6 a0_7 a0_8 a0_9 a0_10 a0_11 : Int) : Nat → Int
  | 0 => a0_0 | 1 => a0_1 | 2 => a0_2 | 3 => a0_3 | 4 => a0_4 | 5 => a0_5 | 6 => a0_6 | 7 => a0_7 | 8 => a0_8 | 9 => a0_9 | 10 => a0_10 | _ => a0_11
def shape_Check.chkLo : Nat → Int
  | 5 => 0 | 9 => 0 | 11 => 0 | _ => 1
def shape_Check.chkHi : Nat → Int
  | 4 => 64 | 5 => 48 | 7 => 4096 | 8 => 1000 | 9 => 64 | 10 => 10000 | 11 => 2 | _ => 8
def shape_Check.chkAll (n : Nat → Int) : Nat → Bool
  | 0 => true
  | k + 1 => shape_Check.chkAll n k && !(decide (n k < shape_Check.chkLo k) || decide (shape_Check.chkHi k < n k))
def shape_Check.g (n : Nat → Int) : Int := if shape_Check.chkAll n 12 = true then 0 else 1
theorem shape_Check.chkAll_le {n : Nat → Int} {m : Nat} (h : shape_Check.chkAll n m = true) : ∀ k, k ≤ m → shape_Check.chkAll n k = true := by
  induction m with
  | zero =>
    intro k hk
    have e : k = 0 := by omega
    rw [e]; exact h
  | succ m ih =>
    intro k hk
    by_cases e : k = m + 1
    · rw [e]; exact h
    · simp only [shape_Check.chkAll, Bool.and_eq_true] at h
      exact ih h.1 k (by omega)
theorem shape_Check.bad_of {n : Nat → Int} {k : Nat} (hk : k < 12) (h : n k < shape_Check.chkLo k ∨ shape_Check.chkHi k < n k) : shape_Check.g n = 1 := by
  unfold shape_Check.g
  rw [if_neg]
  intro h12
  have := shape_Check.chkAll_le h12 (k + 1) (by omega)
  simp only [shape_Check.chkAll, Bool.and_eq_true] at this
  rcases h with h | h <;> simp [h] at this

theorem shape_Check.chkAll_succ {n : Nat → Int} {k : Nat} (h : shape_Check.chkAll n k = true) (h1 : ¬ n k < shape_Check.chkLo k) (h2 : ¬ shape_Check.chkHi k < n k) : shape_Check.chkAll n (k + 1) = true := by
  simp only [shape_Check.chkAll, h, decide_eq_false h1, decide_eq_false h2]; rfl
theorem shape_Check.good_of {n : Nat → Int} (h : shape_Check.chkAll n 12 = true) : shape_Check.g n = 0 := by
  unfold shape_Check.g
  rw [if_pos h]

def shape_Check.f (a0_0 a0_1 a0_2 a0_3 a0_4 a0_5 a0_6 a0_7 a0_8 a0_9 a0_10 a0_11 : Int) : Option Int := some (shape_Check.g (shape_Check.chkN a0_0 a0_1 a0_2 a0_3 a0_4 a0_5 a0_6 a0_7 a0_8 a0_9 a0_10 a0_11))
set_option maxHeartbeats 8000000 in
set_option maxRecDepth 100000 in
theorem shape_Check.calls (a0_0 a0_1 a0_2 a0_3 a0_4 a0_5 a0_6 a0_7 a0_8 a0_9 a0_10 a0_11 : Int) (r : Int) (w : World) (h : shape_Check.f a0_0 a0_1 a0_2 a0_3 a0_4 a0_5 a0_6 a0_7 a0_8 a0_9 a0_10 a0_11 = some r) :
    Calls Tryd.prog 20 #[.agg #[.int .i64 a0_0, .int .i64 a0_1, .int .i64 a0_2, .int .i64 a0_3, .int .i64 a0_4, .int .i64 a0_5, .int .i64 a0_6, .int .i64 a0_7, .int .i64 a0_8, .int .i64 a0_9, .int .i64 a0_10, .int .i64 a0_11]] w fun e w' => e = .returned (.int .i64 r) ∧ Below w.heap.size w w' := by
  have hu50 := Tryd.underlying30
  have hu87 := Tryd.underlying57
  have hu88 := Tryd.underlying58
  obtain rfl := Option.some.inj h
  clear h
  obtain ⟨n, hn⟩ : ∃ n, n = shape_Check.chkN a0_0 a0_1 a0_2 a0_3 a0_4 a0_5 a0_6 a0_7 a0_8 a0_9 a0_10 a0_11 := ⟨_, rfl⟩
  rw [← hn]
  have hix : ∀ k, k < 12 → ∀ W : World, (Instr.index 58 (.agg #[.int .i64 a0_0, .int .i64 1, .int .i64 8, .int .i64 a0_1, .int .i64 1, .int .i64 8, .int .i64 a0_2, .int .i64 1, .int .i64 8, .int .i64 a0_3, .int .i64 1, .int .i64 8, .int .i64 a0_4, .int .i64 1, .int .i64 64, .int .i64 a0_5, .int .i64 0, .int .i64 48, .int .i64 a0_6, .int .i64 1, .int .i64 8, .int .i64 a0_7, .int .i64 1, .int .i64 4096, .int .i64 a0_8, .int .i64 1, .int .i64 1000, .int .i64 a0_9, .int .i64 0, .int .i64 64, .int .i64 a0_10, .int .i64 1, .int .i64 10000, .int .i64 a0_11, .int .i64 0, .int .i64 2]) (.int .i64 ((k : Nat) : Int))).run Tryd.prog W = .ok (.agg #[.int .i64 (n k), .int .i64 (shape_Check.chkLo k), .int .i64 (shape_Check.chkHi k)]) W := by
    intro k hk W
    have hk' : k = 0 ∨ k = 1 ∨ k = 2 ∨ k = 3 ∨ k = 4 ∨ k = 5 ∨ k = 6 ∨ k = 7 ∨ k = 8 ∨ k = 9 ∨ k = 10 ∨ k = 11 := by omega
    rw [hn]
    clear hn
    rcases hk' with rfl | rfl | rfl | rfl | rfl | rfl | rfl | rfl | rfl | rfl | rfl | rfl <;> rfl
  clear hn
  have HIX := Aside0.mk hix
  clear hix
  go_enter Tryd.func20, Tryd.ntmps20
  go_wp2
  have HB := Aside0.mk (Below.refl w.heap.size w)
  go_loopw [42] (fun v wc => ∃ k : Nat, k ≤ 12 ∧ v = .int .i64 k ∧ Aside0 (shape_Check.chkAll n k = true) ∧ Aside0 (Below w.heap.size w wc)) (fun v _ => 12 - (intOf v).toNat)
  case atStart => exact ⟨0, by omega, rfl, ⟨rfl⟩, ⟨by exact (Below.refl _ _).alloc (Nat.le_refl _) _⟩⟩
  case round =>
    obtain ⟨k, hk, rfl, HA, HBW⟩ := hrel
    by_cases hlt : k < 12
    · have hix := HIX.out k hlt
      by_cases hlo : n k < shape_Check.chkLo k
      · have hbad := Aside0.mk (shape_Check.bad_of hlt (.inl hlo))
        go_wp2
        go_ret
        rw [hbad.out]
        exact ⟨rfl, by first | exact HBW.out.alloc HBW.out.size _⟩
      · by_cases hhi : shape_Check.chkHi k < n k
        · have hbad := Aside0.mk (shape_Check.bad_of hlt (.inr hhi))
          go_wp2
          go_ret
          rw [hbad.out]
          exact ⟨rfl, by first | exact HBW.out.alloc HBW.out.size _⟩
        · have hn1 := Aside0.mk (show shape_Check.chkAll n (k + 1) = true from shape_Check.chkAll_succ HA.out hlo hhi)
          go_wp2
          go_roundw
          case rel => exact ⟨k + 1, by omega, by go_num, hn1, ⟨by exact HBW.out.alloc HBW.out.size _⟩⟩
          case measure => simp [intOf]; omega
    · have hk12 : k = 12 := by omega
      have hgood := Aside0.mk (shape_Check.good_of (hk12 ▸ HA.out))
      clear hk12
      go_wp2
      go_ret
      rw [hgood.out]
      exact ⟨rfl, HBW.out⟩

/-! ### calc_Known: function 18 -/
def calc_Known.f (a0 : Int) : Option (Bool) := if a0 ≥ 0 then (some (decide (a0 ≤ 8))) else (some false)
set_option maxHeartbeats 8000000 in
set_option maxRecDepth 100000 in
theorem calc_Known.calls (a0 : Int) (r : Bool) (w : World) (h : calc_Known.f a0 = some r) :
    Calls Tryd.prog 18 #[.int .i64 a0] w fun e w' => e = .returned (.bool r) ∧ Drawn0 w w' := by
  have H : (if a0 ≥ 0 then (some (decide (a0 ≤ 8))) else (some false)) = some r := h
  clear h
  by_cases c2 : a0 ≥ 0
  · rw [if_pos c2] at H
    have c2b0 : decide (0 ≤ a0) = true := decide_eq_true c2
    clear c2
    obtain rfl := Option.some.inj H
    go_enter Tryd.func18, Tryd.ntmps18
    go_wp2
    go_ret
    exact ⟨by first | rfl | (simp; done) | (simp [*]; done), by repeat (first | exact Drawn0.refl _ | apply Drawn0.step)⟩
  · rw [if_neg c2] at H
    have c2b0 : decide (0 ≤ a0) = false := decide_eq_false c2
    clear c2
    obtain rfl := Option.some.inj H
    go_enter Tryd.func18, Tryd.ntmps18
    go_wp2
    go_ret
    exact ⟨by first | rfl | (simp; done) | (simp [*]; done), by repeat (first | exact Drawn0.refl _ | apply Drawn0.step)⟩

/-! ### prog_word: function 29 -/
def prog_word.f (a0 : Int) : Option (ByteArray × Int × Bool) := if a0 = 1 then (some ((⟨#[114, 101, 97, 100]⟩ : ByteArray), 3, false)) else (if a0 = 2 then (some ((⟨#[119, 114, 105, 116, 101]⟩ : ByteArray), 3, false)) else (if a0 = 3 then (some ((⟨#[99, 111, 110, 115, 116]⟩ : ByteArray), 2, false)) else (if a0 = 4 then (some ((⟨#[99, 97, 108, 99]⟩ : ByteArray), 2, true)) else (if a0 = 5 then (some ((⟨#[106, 117, 109, 112]⟩ : ByteArray), 2, false)) else (if a0 = 6 then (some ((⟨#[114, 101, 116, 114, 121]⟩ : ByteArray), 0, false)) else (if a0 = 7 then (some ((⟨#[97, 98, 111, 114, 116]⟩ : ByteArray), 0, false)) else (some ((⟨#[]⟩ : ByteArray), 0, false))))))))
set_option maxHeartbeats 8000000 in
set_option maxRecDepth 100000 in
theorem prog_word.calls (a0 : Int) (r1 : ByteArray) (r2 : Int) (r3 : Bool) (w : World) (h : prog_word.f a0 = some (r1, r2, r3)) :
    Calls Tryd.prog 29 #[.int .i64 a0] w fun e w' => e = .returned (.tuple #[.string r1, .int .i64 r2, .bool r3]) ∧ Drawn0 w w' := by
  have H : (if a0 = 1 then (some ((⟨#[114, 101, 97, 100]⟩ : ByteArray), 3, false)) else (if a0 = 2 then (some ((⟨#[119, 114, 105, 116, 101]⟩ : ByteArray), 3, false)) else (if a0 = 3 then (some ((⟨#[99, 111, 110, 115, 116]⟩ : ByteArray), 2, false)) else (if a0 = 4 then (some ((⟨#[99, 97, 108, 99]⟩ : ByteArray), 2, true)) else (if a0 = 5 then (some ((⟨#[106, 117, 109, 112]⟩ : ByteArray), 2, false)) else (if a0 = 6 then (some ((⟨#[114, 101, 116, 114, 121]⟩ : ByteArray), 0, false)) else (if a0 = 7 then (some ((⟨#[97, 98, 111, 114, 116]⟩ : ByteArray), 0, false)) else (some ((⟨#[]⟩ : ByteArray), 0, false))))))))) = some (r1, r2, r3) := h
  clear h
  by_cases c2 : a0 = 1
  · rw [if_pos c2] at H
    have c2b0 : (a0 == 1) = true := beq_iff_eq.mpr c2
    have c2b1 : (a0 != 1) = false := bne_eq_false_iff_eq.mpr c2
    clear c2
    simp only [Option.some.injEq, Prod.mk.injEq] at H
    obtain ⟨rfl, rfl, rfl⟩ := H
    go_enter Tryd.func29, Tryd.ntmps29
    go_wp2
    go_ret3
    exact ⟨by first | rfl | (simp; done) | (simp [*]; done), by repeat (first | exact Drawn0.refl _ | apply Drawn0.step)⟩
  · rw [if_neg c2] at H
    have c2b0 : (a0 == 1) = false := beq_eq_false_iff_ne.mpr c2
    have c2b1 : (a0 != 1) = true := bne_iff_ne.mpr c2
    by_cases c3 : a0 = 2
    · rw [if_pos c3] at H
      have c3b0 : (a0 == 2) = true := beq_iff_eq.mpr c3
      have c3b1 : (a0 != 2) = false := bne_eq_false_iff_eq.mpr c3
      clear c3
      simp only [Option.some.injEq, Prod.mk.injEq] at H
      obtain ⟨rfl, rfl, rfl⟩ := H
      go_enter Tryd.func29, Tryd.ntmps29
      go_wp2
      go_ret3
      exact ⟨by first | rfl | (simp; done) | (simp [*]; done), by repeat (first | exact Drawn0.refl _ | apply Drawn0.step)⟩
    · rw [if_neg c3] at H
      have c3b0 : (a0 == 2) = false := beq_eq_false_iff_ne.mpr c3
      have c3b1 : (a0 != 2) = true := bne_iff_ne.mpr c3
      by_cases c4 : a0 = 3
      · rw [if_pos c4] at H
        have c4b0 : (a0 == 3) = true := beq_iff_eq.mpr c4
        have c4b1 : (a0 != 3) = false := bne_eq_false_iff_eq.mpr c4
        clear c4
        simp only [Option.some.injEq, Prod.mk.injEq] at H
        obtain ⟨rfl, rfl, rfl⟩ := H
        go_enter Tryd.func29, Tryd.ntmps29
        go_wp2
        go_ret3
        exact ⟨by first | rfl | (simp; done) | (simp [*]; done), by repeat (first | exact Drawn0.refl _ | apply Drawn0.step)⟩
      · rw [if_neg c4] at H
        have c4b0 : (a0 == 3) = false := beq_eq_false_iff_ne.mpr c4
        have c4b1 : (a0 != 3) = true := bne_iff_ne.mpr c4
        by_cases c5 : a0 = 4
        · rw [if_pos c5] at H
          have c5b0 : (a0 == 4) = true := beq_iff_eq.mpr c5
          have c5b1 : (a0 != 4) = false := bne_eq_false_iff_eq.mpr c5
          clear c5
          simp only [Option.some.injEq, Prod.mk.injEq] at H
          obtain ⟨rfl, rfl, rfl⟩ := H
          go_enter Tryd.func29, Tryd.ntmps29
          go_wp2
          go_ret3
          exact ⟨by first | rfl | (simp; done) | (simp [*]; done), by repeat (first | exact Drawn0.refl _ | apply Drawn0.step)⟩
        · rw [if_neg c5] at H
          have c5b0 : (a0 == 4) = false := beq_eq_false_iff_ne.mpr c5
          have c5b1 : (a0 != 4) = true := bne_iff_ne.mpr c5
          by_cases c6 : a0 = 5
          · rw [if_pos c6] at H
            have c6b0 : (a0 == 5) = true := beq_iff_eq.mpr c6
            have c6b1 : (a0 != 5) = false := bne_eq_false_iff_eq.mpr c6
            clear c6
            simp only [Option.some.injEq, Prod.mk.injEq] at H
            obtain ⟨rfl, rfl, rfl⟩ := H
            go_enter Tryd.func29, Tryd.ntmps29
            go_wp2
            go_ret3
            exact ⟨by first | rfl | (simp; done) | (simp [*]; done), by repeat (first | exact Drawn0.refl _ | apply Drawn0.step)⟩
          · rw [if_neg c6] at H
            have c6b0 : (a0 == 5) = false := beq_eq_false_iff_ne.mpr c6
            have c6b1 : (a0 != 5) = true := bne_iff_ne.mpr c6
            by_cases c7 : a0 = 6
            · rw [if_pos c7] at H
              have c7b0 : (a0 == 6) = true := beq_iff_eq.mpr c7
              have c7b1 : (a0 != 6) = false := bne_eq_false_iff_eq.mpr c7
              clear c7
              simp only [Option.some.injEq, Prod.mk.injEq] at H
              obtain ⟨rfl, rfl, rfl⟩ := H
              go_enter Tryd.func29, Tryd.ntmps29
              go_wp2
              go_ret3
              exact ⟨by first | rfl | (simp; done) | (simp [*]; done), by repeat (first | exact Drawn0.refl _ | apply Drawn0.step)⟩
            · rw [if_neg c7] at H
              have c7b0 : (a0 == 6) = false := beq_eq_false_iff_ne.mpr c7
              have c7b1 : (a0 != 6) = true := bne_iff_ne.mpr c7
              by_cases c8 : a0 = 7
              · rw [if_pos c8] at H
                have c8b0 : (a0 == 7) = true := beq_iff_eq.mpr c8
                have c8b1 : (a0 != 7) = false := bne_eq_false_iff_eq.mpr c8
                clear c8
                simp only [Option.some.injEq, Prod.mk.injEq] at H
                obtain ⟨rfl, rfl, rfl⟩ := H
                go_enter Tryd.func29, Tryd.ntmps29
                go_wp2
                go_ret3
                exact ⟨by first | rfl | (simp; done) | (simp [*]; done), by repeat (first | exact Drawn0.refl _ | apply Drawn0.step)⟩
              · rw [if_neg c8] at H
                have c8b0 : (a0 == 7) = false := beq_eq_false_iff_ne.mpr c8
                have c8b1 : (a0 != 7) = true := bne_iff_ne.mpr c8
                simp only [Option.some.injEq, Prod.mk.injEq] at H
                obtain ⟨rfl, rfl, rfl⟩ := H
                go_enter Tryd.func29, Tryd.ntmps29
                go_wp2
                go_ret3
                exact ⟨by first | rfl | (simp; done) | (simp [*]; done), by repeat (first | exact Drawn0.refl _ | apply Drawn0.step)⟩

end Go.Proofs.YtefcjnnngaaihaaDoor.PPg
