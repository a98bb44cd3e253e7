-- Written by a program of this session (myprint.py) over the kit's print; some functions' contracts are given by hand.
import Derived.Test.YtkfhnicojokafaaGreatPMdx0
import Derived.Test.YtkfhnicojokafaaGreatPMdx1
namespace Go.Proofs.YtkfhnicojokafaaGreat.PMd
open Go.RowKit Go.Proofs.YtkfhnicojokafaaGreatW.PrintWords Go.Proofs.YtkfhnicojokafaaGreatW.PrintLast Go.Proofs.YtkfhnicojokafaaGreatW.PrintMore
attribute [local go_sem] max2_int min2_int max_two min_two max_three min_three max_four min_four   -- for this text's walks alone
set_option linter.unusedVariables false
set_option linter.unusedSimpArgs false

/-! ### prog_may: function 34 (by hand) -/
def prog_may.bad (regs x : Int) : Bool := decide (x < 0) || decide (regs ≤ x)
def prog_may.g (regs kind A B C : Int) (L : List Int) (at_ many : Int) : Bool :=
  if kind = 1 ∨ kind = 2 then !prog_may.bad regs A && L.isEmpty && (decide (C = -1) || !prog_may.bad regs C)
  else if kind = 3 then !prog_may.bad regs A && L.isEmpty
  else if kind = 4 then !prog_may.bad regs A && decide (0 ≤ B ∧ B ≤ 8) && decide (0 < L.length) && decide (L.length ≤ 8) && L.all (fun x => !prog_may.bad regs x)
  else if kind = 5 then !prog_may.bad regs A && L.isEmpty && decide (at_ < B) && decide (B ≤ many)
  else if kind = 6 ∨ kind = 7 then L.isEmpty
  else false
set_option maxHeartbeats 8000000 in
set_option maxRecDepth 100000 in
theorem prog_may.isout (x regs : Int) (g : Nat) (w : World) (hc : w.cell? ⟨g, 6, none⟩ = some (.int .i64 regs)) :
    Calls Tryz.prog 47 #[.int .i64 x, .pointer (some ⟨g, 0, none⟩)] w fun e w' => e = .returned (.bool (prog_may.bad regs x)) ∧ w' = w := by
  have hu50 := Tryz.underlying23
  unfold prog_may.bad
  by_cases h : x < 0
  · have h1 : decide (x < 0) = true := decide_eq_true h
    clear h
    go_enter Tryz.func47, Tryz.ntmps47
    go_wp2
    go_ret
    exact ⟨by simp [h1], rfl⟩
  · have h1 : decide (x < 0) = false := decide_eq_false h
    clear h
    go_enter Tryz.func47, Tryz.ntmps47
    go_wp2
    go_ret
    exact ⟨by simp [h1], rfl⟩
def prog_may.Ix (regs : Int) (l : List Int) (r : Int) : Prop := (∃ i : Nat, i < l.length ∧ r = i ∧ prog_may.bad regs (rd l i) = true) ∨ (r = -1 ∧ ∀ i : Nat, i < l.length → prog_may.bad regs (rd l i) = false)
set_option maxHeartbeats 8000000 in
set_option maxRecDepth 100000 in
theorem prog_may.index (regs : Int) (g : Nat) (A0 : Option Addr) (c0 : Nat) (l0 : List Int) (w : World) (hr0 : Kd.C (Kd.int .i64) w A0 l0.length l0) (hc0 : l0.length ≤ c0) (hm : l0.length ≤ 9223372036854775807) (hcell : w.cell? ⟨g, 6, none⟩ = some (.int .i64 regs)) :
    Calls Tryz.prog 55 #[.slice A0 l0.length c0, .func (.func 47) #[] #[.pointer (some ⟨g, 0, none⟩)]] w fun e w' => ∃ r, e = .returned (.int .i64 r) ∧ prog_may.Ix regs l0 r ∧ w' = w := by
  have HR0 := Aside0.mk hr0
  have HC0 := Aside0.mk hc0
  clear hr0 hc0
  go_enter Tryz.func55, Tryz.ntmps55
  go_wp2_with fail
  go_loop [8] (fun v => ∃ k : Nat, k ≤ l0.length ∧ v = .int .i64 k ∧ Aside0 (∀ i : Nat, i < k → prog_may.bad regs (rd l0 i) = false)) (fun v => l0.length - (intOf v).toNat)
  case atStart => exact ⟨0, by omega, rfl, ⟨fun i hi => by omega⟩⟩
  case round =>
    obtain ⟨k, hk, rfl, HA⟩ := hrel
    by_cases hlt : k < l0.length
    · obtain ⟨ad, e4, q0⟩ := Kd.at_int HR0.out (k : Int) (by omega) (by omega)
      cases e4
      have p1 : 0 ≤ (k : Int) := by omega
      have p2 : (k : Int) < l0.length := by omega
      simp only [Int.toNat_natCast] at q0
      have hb0 := prog_may.isout (rd l0 k) regs g w hcell
      by_cases hbad : prog_may.bad regs (rd l0 k) = true
      · rw [hbad] at hb0
        have HX := Aside0.mk hb0
        have HF := Aside0.mk (show prog_may.Ix regs l0 (k : Int) from .inl ⟨k, hlt, rfl, hbad⟩)
        clear hb0 hbad
        go_wp2_with fail
        refine HX.out.mono ?_
        rintro e w3 ⟨rfl, rfl⟩
        go_wp2
        go_ret
        exact ⟨_, rfl, HF.out, rfl⟩
      · have hbad' : prog_may.bad regs (rd l0 k) = false := by simpa using hbad
        rw [hbad'] at hb0
        have HX := Aside0.mk hb0
        have HA1 := Aside0.mk (show ∀ i : Nat, i < k + 1 → prog_may.bad regs (rd l0 i) = false from fun i hi => by
          by_cases e : i = k
          · rw [e]; exact hbad'
          · exact HA.out i (by omega))
        clear hb0 hbad hbad' HA
        go_wp2_with fail
        refine HX.out.mono ?_
        rintro e w3 ⟨rfl, rfl⟩
        go_wp2
        go_round
        case rel => exact ⟨k + 1, by omega, by go_num, HA1⟩
        case measure => simp [intOf]; omega
    · have HF := Aside0.mk (show prog_may.Ix regs l0 (-1) from .inr ⟨rfl, fun i hi => HA.out i (by omega)⟩)
      go_wp2
      go_ret
      exact ⟨_, rfl, HF.out, rfl⟩
theorem prog_may.of_ix {regs : Int} {l : List Int} {r : Int} (h : prog_may.Ix regs l r) : (decide (0 ≤ r)) = !(l.all fun x => !prog_may.bad regs x) := by
  have rg : ∀ i : Nat, (hi : i < l.length) → rd l (i : Int) = l[i] := fun i hi => by simp [rd, List.getD_eq_getElem?_getD, List.getElem?_eq_getElem hi]
  rcases h with ⟨i, hi, rfl, hb⟩ | ⟨rfl, hb⟩
  · rw [rg i hi] at hb
    have : (l.all fun x => !prog_may.bad regs x) = false := by
      rw [List.all_eq_false]
      exact ⟨l[i], List.getElem_mem hi, by simp [hb]⟩
    rw [this, decide_eq_true (by omega)]; rfl
  · have : (l.all fun x => !prog_may.bad regs x) = true := by
      rw [List.all_eq_true]
      intro x hx
      obtain ⟨i, hi, rfl⟩ := List.getElem_of_mem hx
      have := hb i hi
      rw [rg i hi] at this
      simp [this]
    rw [this]; rfl
set_option maxHeartbeats 8000000 in
set_option maxRecDepth 100000 in
theorem prog_may.has (regs : Int) (g : Nat) (A0 : Option Addr) (c0 : Nat) (l0 : List Int) (w : World) (hr0 : Kd.C (Kd.int .i64) w A0 l0.length l0) (hc0 : l0.length ≤ c0) (hcell : w.cell? ⟨g, 6, none⟩ = some (.int .i64 regs)) :
    Calls Tryz.prog 50 #[.slice A0 l0.length c0, .func (.func 47) #[] #[.pointer (some ⟨g, 0, none⟩)]] w fun e w' => e = .returned (.bool (!(l0.all fun x => !prog_may.bad regs x))) ∧ w' = w := by
  have HX := Aside0.mk (prog_may.index regs g A0 c0 l0 w hr0 hc0 hr0.2.1 hcell)
  clear hr0 hc0 hcell
  go_enter Tryz.func50, Tryz.ntmps50
  go_wp2_with fail
  refine HX.out.mono ?_
  rintro e w1 ⟨r, rfl, hI, rfl⟩
  have HG := Aside0.mk (prog_may.of_ix hI)
  clear hI
  go_wp2
  go_ret
  exact ⟨by show Ending.returned (.bool (decide (0 ≤ r))) = _; rw [HG.out], rfl⟩
theorem prog_may.word_at (a : Int) (r1 : ByteArray) (r2 : Int) (r3 : Bool) (h : prog_word.f a = some (r1, r2, r3)) (w : World) : Calls Tryz.prog 48 #[.int .i64 a] w fun e w' => e = .returned (.tuple #[.string r1, .int .i64 r2, .bool r3]) ∧ Drawn0 w w' := prog_word.calls a r1 r2 r3 w h
theorem prog_may.conf_cell (w : World) (a0_0 a0_1 a0_2 a0_3 a0_4 a0_5 a0_6 a0_7 a0_8 a0_9 a0_10 a0_11 : Int) (o : Obj) (n : Nat) : (((w.alloc (.cells #[.int .i64 a0_0, .int .i64 a0_1, .int .i64 a0_2, .int .i64 a0_3, .int .i64 a0_4, .int .i64 a0_5, .int .i64 a0_6, .int .i64 a0_7, .int .i64 a0_8, .int .i64 a0_9, .int .i64 a0_10, .int .i64 a0_11] 23)).alloc o).drewN n).cell? ⟨w.heap.size, 6, none⟩ = some (.int .i64 a0_6) :=
  (blk_cell (blk_drewN (blk_alloc (heap_alloc_new w (.cells #[.int .i64 a0_0, .int .i64 a0_1, .int .i64 a0_2, .int .i64 a0_3, .int .i64 a0_4, .int .i64 a0_5, .int .i64 a0_6, .int .i64 a0_7, .int .i64 a0_8, .int .i64 a0_9, .int .i64 a0_10, .int .i64 a0_11] 23)) o) n) 6).trans rfl

set_option maxHeartbeats 8000000 in
set_option maxRecDepth 100000 in
theorem prog_may.k1 (a0_0 a0_1 a0_2 a0_3 a0_4 a0_5 a0_6 a0_7 a0_8 a0_9 a0_10 a0_11 : Int) (a1_1 a1_2 a1_3 : Int) (A1_4 : Option Addr) (c1_4 : Nat) (l1_4 : List Int) (a2 a3 : Int) (w : World) (hr1_4 : Kd.C (Kd.int .i64) w A1_4 l1_4.length l1_4) (hc1_4 : l1_4.length ≤ c1_4) :
    Calls Tryz.prog 34 #[.agg #[.int .i64 a0_0, .int .i64 a0_1, .int .i64 a0_2, .int .i64 a0_3, .int .i64 a0_4, .int .i64 a0_5, .int .i64 a0_6, .int .i64 a0_7, .int .i64 a0_8, .int .i64 a0_9, .int .i64 a0_10, .int .i64 a0_11], .agg #[.int .i64 1, .int .i64 a1_1, .int .i64 a1_2, .int .i64 a1_3, .slice A1_4 l1_4.length c1_4], .int .i64 a2, .int .i64 a3] w fun e w' => e = .returned (.bool (prog_may.g a0_6 1 a1_1 a1_2 a1_3 l1_4 a2 a3)) ∧ Below w.heap.size w w' := by
  have hu50 := Tryz.underlying23
  have hu59 := Tryz.underlying30
  have HR := Aside0.mk hr1_4
  have HCC := Aside0.mk hc1_4
  clear hr1_4 hc1_4
  have HW := Aside0.mk (prog_may.word_at 1 (⟨#[114, 101, 97, 100]⟩ : ByteArray) 3 false (by decide +kernel))
  have HC6 := Aside0.mk (prog_may.conf_cell w a0_0 a0_1 a0_2 a0_3 a0_4 a0_5 a0_6 a0_7 a0_8 a0_9 a0_10 a0_11 (.cells #[.int .i64 1, .int .i64 a1_1, .int .i64 a1_2, .int .i64 a1_3, .slice A1_4 l1_4.length c1_4] 30))
  by_cases hNA : prog_may.bad a0_6 a1_1 = true
  · have NA := Aside0.mk (fun (W : World) (hc : W.cell? ⟨w.heap.size, 6, none⟩ = some (.int .i64 a0_6)) => show Calls Tryz.prog 47 #[.int .i64 a1_1, .pointer (some ⟨w.heap.size, 0, none⟩)] W fun e w' => e = .returned (.bool true) ∧ w' = W from hNA ▸ prog_may.isout a1_1 a0_6 w.heap.size W hc)
    have HG := Aside0.mk (show prog_may.g a0_6 1 a1_1 a1_2 a1_3 l1_4 a2 a3 = false by unfold prog_may.g; rw [if_pos (.inl rfl)]; simp [hNA])
    clear hNA
    go_enter Tryz.func34, Tryz.ntmps34
    go_wp2_with fail
    refine (HW.out _).mono ?_
    rintro e w1 ⟨rfl, hd⟩
    obtain ⟨n1, rfl⟩ := hd.out
    clear hd
    go_wp2_with fail
    refine (NA.out _ (HC6.out n1)).mono ?_
    rintro e w2 ⟨rfl, rfl⟩
    go_wp2
    go_ret
    rw [HG.out]
    first
      | exact ⟨rfl, by repeat (first | exact Below.refl _ _ | apply below_alloc | apply pw_below_drewN)⟩
      | exact ⟨by simp [*], by repeat (first | exact Below.refl _ _ | apply below_alloc | apply pw_below_drewN)⟩
  · replace hNA : prog_may.bad a0_6 a1_1 = false := by simpa using hNA
    have NA := Aside0.mk (fun (W : World) (hc : W.cell? ⟨w.heap.size, 6, none⟩ = some (.int .i64 a0_6)) => show Calls Tryz.prog 47 #[.int .i64 a1_1, .pointer (some ⟨w.heap.size, 0, none⟩)] W fun e w' => e = .returned (.bool false) ∧ w' = W from hNA ▸ prog_may.isout a1_1 a0_6 w.heap.size W hc)
    by_cases hL : 0 < l1_4.length
    · have hL' : l1_4.isEmpty = false := by cases l1_4 with | nil => simp at hL | cons x t => rfl
      have HG := Aside0.mk (show prog_may.g a0_6 1 a1_1 a1_2 a1_3 l1_4 a2 a3 = false by unfold prog_may.g; rw [if_pos (.inl rfl)]; simp [hNA, hL'])
      clear hNA hL'
      go_enter Tryz.func34, Tryz.ntmps34
      go_wp2_with fail
      refine (HW.out _).mono ?_
      rintro e w1 ⟨rfl, hd⟩
      obtain ⟨n1, rfl⟩ := hd.out
      clear hd
      go_wp2_with fail
      refine (NA.out _ (HC6.out n1)).mono ?_
      rintro e w2 ⟨rfl, rfl⟩
      go_wp2
      go_ret
      rw [HG.out]
      first
        | exact ⟨rfl, by repeat (first | exact Below.refl _ _ | apply below_alloc | apply pw_below_drewN)⟩
        | exact ⟨by simp [*], by repeat (first | exact Below.refl _ _ | apply below_alloc | apply pw_below_drewN)⟩
    · have hL' : l1_4.isEmpty = true := by cases l1_4 with | nil => rfl | cons x t => simp at hL
      by_cases hC : a1_3 = -1
      · have hC1 : (a1_3 == -1) = true := beq_iff_eq.mpr hC
        have HG := Aside0.mk (show prog_may.g a0_6 1 a1_1 a1_2 a1_3 l1_4 a2 a3 = true by unfold prog_may.g; rw [if_pos (.inl rfl)]; simp [hNA, hL', hC])
        clear hC hNA hL'
        go_enter Tryz.func34, Tryz.ntmps34
        go_wp2_with fail
        refine (HW.out _).mono ?_
        rintro e w1 ⟨rfl, hd⟩
        obtain ⟨n1, rfl⟩ := hd.out
        clear hd
        go_wp2_with fail
        refine (NA.out _ (HC6.out n1)).mono ?_
        rintro e w2 ⟨rfl, rfl⟩
        go_wp2
        go_ret
        rw [HG.out]
        first
          | exact ⟨rfl, by repeat (first | exact Below.refl _ _ | apply below_alloc | apply pw_below_drewN)⟩
          | exact ⟨by simp [*], by repeat (first | exact Below.refl _ _ | apply below_alloc | apply pw_below_drewN)⟩
      · have hC1 : (a1_3 == -1) = false := beq_eq_false_iff_ne.mpr hC
        by_cases hNC : prog_may.bad a0_6 a1_3 = true
        · have NC := Aside0.mk (fun (W : World) (hc : W.cell? ⟨w.heap.size, 6, none⟩ = some (.int .i64 a0_6)) => show Calls Tryz.prog 47 #[.int .i64 a1_3, .pointer (some ⟨w.heap.size, 0, none⟩)] W fun e w' => e = .returned (.bool true) ∧ w' = W from hNC ▸ prog_may.isout a1_3 a0_6 w.heap.size W hc)
          have HG := Aside0.mk (show prog_may.g a0_6 1 a1_1 a1_2 a1_3 l1_4 a2 a3 = false by unfold prog_may.g; rw [if_pos (.inl rfl)]; simp [hNA, hL', hC, hNC])
          clear hC hNA hNC hL'
          go_enter Tryz.func34, Tryz.ntmps34
          go_wp2_with fail
          refine (HW.out _).mono ?_
          rintro e w1 ⟨rfl, hd⟩
          obtain ⟨n1, rfl⟩ := hd.out
          clear hd
          go_wp2_with fail
          refine (NA.out _ (HC6.out n1)).mono ?_
          rintro e w2 ⟨rfl, rfl⟩
          go_wp2_with fail
          refine (NC.out _ (HC6.out n1)).mono ?_
          rintro e w2 ⟨rfl, rfl⟩
          go_wp2
          go_ret
          rw [HG.out]
          first
            | exact ⟨rfl, by repeat (first | exact Below.refl _ _ | apply below_alloc | apply pw_below_drewN)⟩
            | exact ⟨by simp [*], by repeat (first | exact Below.refl _ _ | apply below_alloc | apply pw_below_drewN)⟩
        · replace hNC : prog_may.bad a0_6 a1_3 = false := by simpa using hNC
          have NC := Aside0.mk (fun (W : World) (hc : W.cell? ⟨w.heap.size, 6, none⟩ = some (.int .i64 a0_6)) => show Calls Tryz.prog 47 #[.int .i64 a1_3, .pointer (some ⟨w.heap.size, 0, none⟩)] W fun e w' => e = .returned (.bool false) ∧ w' = W from hNC ▸ prog_may.isout a1_3 a0_6 w.heap.size W hc)
          have HG := Aside0.mk (show prog_may.g a0_6 1 a1_1 a1_2 a1_3 l1_4 a2 a3 = true by unfold prog_may.g; rw [if_pos (.inl rfl)]; simp [hNA, hL', hC, hNC])
          clear hC hNA hNC hL'
          go_enter Tryz.func34, Tryz.ntmps34
          go_wp2_with fail
          refine (HW.out _).mono ?_
          rintro e w1 ⟨rfl, hd⟩
          obtain ⟨n1, rfl⟩ := hd.out
          clear hd
          go_wp2_with fail
          refine (NA.out _ (HC6.out n1)).mono ?_
          rintro e w2 ⟨rfl, rfl⟩
          go_wp2_with fail
          refine (NC.out _ (HC6.out n1)).mono ?_
          rintro e w2 ⟨rfl, rfl⟩
          go_wp2
          go_ret
          rw [HG.out]
          first
            | exact ⟨rfl, by repeat (first | exact Below.refl _ _ | apply below_alloc | apply pw_below_drewN)⟩
            | exact ⟨by simp [*], by repeat (first | exact Below.refl _ _ | apply below_alloc | apply pw_below_drewN)⟩

set_option maxHeartbeats 8000000 in
set_option maxRecDepth 100000 in
theorem prog_may.k2 (a0_0 a0_1 a0_2 a0_3 a0_4 a0_5 a0_6 a0_7 a0_8 a0_9 a0_10 a0_11 : Int) (a1_1 a1_2 a1_3 : Int) (A1_4 : Option Addr) (c1_4 : Nat) (l1_4 : List Int) (a2 a3 : Int) (w : World) (hr1_4 : Kd.C (Kd.int .i64) w A1_4 l1_4.length l1_4) (hc1_4 : l1_4.length ≤ c1_4) :
    Calls Tryz.prog 34 #[.agg #[.int .i64 a0_0, .int .i64 a0_1, .int .i64 a0_2, .int .i64 a0_3, .int .i64 a0_4, .int .i64 a0_5, .int .i64 a0_6, .int .i64 a0_7, .int .i64 a0_8, .int .i64 a0_9, .int .i64 a0_10, .int .i64 a0_11], .agg #[.int .i64 2, .int .i64 a1_1, .int .i64 a1_2, .int .i64 a1_3, .slice A1_4 l1_4.length c1_4], .int .i64 a2, .int .i64 a3] w fun e w' => e = .returned (.bool (prog_may.g a0_6 2 a1_1 a1_2 a1_3 l1_4 a2 a3)) ∧ Below w.heap.size w w' := by
  have hu50 := Tryz.underlying23
  have hu59 := Tryz.underlying30
  have HR := Aside0.mk hr1_4
  have HCC := Aside0.mk hc1_4
  clear hr1_4 hc1_4
  have HW := Aside0.mk (prog_may.word_at 2 (⟨#[119, 114, 105, 116, 101]⟩ : ByteArray) 3 false (by decide +kernel))
  have HC6 := Aside0.mk (prog_may.conf_cell w a0_0 a0_1 a0_2 a0_3 a0_4 a0_5 a0_6 a0_7 a0_8 a0_9 a0_10 a0_11 (.cells #[.int .i64 2, .int .i64 a1_1, .int .i64 a1_2, .int .i64 a1_3, .slice A1_4 l1_4.length c1_4] 30))
  by_cases hNA : prog_may.bad a0_6 a1_1 = true
  · have NA := Aside0.mk (fun (W : World) (hc : W.cell? ⟨w.heap.size, 6, none⟩ = some (.int .i64 a0_6)) => show Calls Tryz.prog 47 #[.int .i64 a1_1, .pointer (some ⟨w.heap.size, 0, none⟩)] W fun e w' => e = .returned (.bool true) ∧ w' = W from hNA ▸ prog_may.isout a1_1 a0_6 w.heap.size W hc)
    have HG := Aside0.mk (show prog_may.g a0_6 2 a1_1 a1_2 a1_3 l1_4 a2 a3 = false by unfold prog_may.g; rw [if_pos (.inr rfl)]; simp [hNA])
    clear hNA
    go_enter Tryz.func34, Tryz.ntmps34
    go_wp2_with fail
    refine (HW.out _).mono ?_
    rintro e w1 ⟨rfl, hd⟩
    obtain ⟨n1, rfl⟩ := hd.out
    clear hd
    go_wp2_with fail
    refine (NA.out _ (HC6.out n1)).mono ?_
    rintro e w2 ⟨rfl, rfl⟩
    go_wp2
    go_ret
    rw [HG.out]
    first
      | exact ⟨rfl, by repeat (first | exact Below.refl _ _ | apply below_alloc | apply pw_below_drewN)⟩
      | exact ⟨by simp [*], by repeat (first | exact Below.refl _ _ | apply below_alloc | apply pw_below_drewN)⟩
  · replace hNA : prog_may.bad a0_6 a1_1 = false := by simpa using hNA
    have NA := Aside0.mk (fun (W : World) (hc : W.cell? ⟨w.heap.size, 6, none⟩ = some (.int .i64 a0_6)) => show Calls Tryz.prog 47 #[.int .i64 a1_1, .pointer (some ⟨w.heap.size, 0, none⟩)] W fun e w' => e = .returned (.bool false) ∧ w' = W from hNA ▸ prog_may.isout a1_1 a0_6 w.heap.size W hc)
    by_cases hL : 0 < l1_4.length
    · have hL' : l1_4.isEmpty = false := by cases l1_4 with | nil => simp at hL | cons x t => rfl
      have HG := Aside0.mk (show prog_may.g a0_6 2 a1_1 a1_2 a1_3 l1_4 a2 a3 = false by unfold prog_may.g; rw [if_pos (.inr rfl)]; simp [hNA, hL'])
      clear hNA hL'
      go_enter Tryz.func34, Tryz.ntmps34
      go_wp2_with fail
      refine (HW.out _).mono ?_
      rintro e w1 ⟨rfl, hd⟩
      obtain ⟨n1, rfl⟩ := hd.out
      clear hd
      go_wp2_with fail
      refine (NA.out _ (HC6.out n1)).mono ?_
      rintro e w2 ⟨rfl, rfl⟩
      go_wp2
      go_ret
      rw [HG.out]
      first
        | exact ⟨rfl, by repeat (first | exact Below.refl _ _ | apply below_alloc | apply pw_below_drewN)⟩
        | exact ⟨by simp [*], by repeat (first | exact Below.refl _ _ | apply below_alloc | apply pw_below_drewN)⟩
    · have hL' : l1_4.isEmpty = true := by cases l1_4 with | nil => rfl | cons x t => simp at hL
      by_cases hC : a1_3 = -1
      · have hC1 : (a1_3 == -1) = true := beq_iff_eq.mpr hC
        have HG := Aside0.mk (show prog_may.g a0_6 2 a1_1 a1_2 a1_3 l1_4 a2 a3 = true by unfold prog_may.g; rw [if_pos (.inr rfl)]; simp [hNA, hL', hC])
        clear hC hNA hL'
        go_enter Tryz.func34, Tryz.ntmps34
        go_wp2_with fail
        refine (HW.out _).mono ?_
        rintro e w1 ⟨rfl, hd⟩
        obtain ⟨n1, rfl⟩ := hd.out
        clear hd
        go_wp2_with fail
        refine (NA.out _ (HC6.out n1)).mono ?_
        rintro e w2 ⟨rfl, rfl⟩
        go_wp2
        go_ret
        rw [HG.out]
        first
          | exact ⟨rfl, by repeat (first | exact Below.refl _ _ | apply below_alloc | apply pw_below_drewN)⟩
          | exact ⟨by simp [*], by repeat (first | exact Below.refl _ _ | apply below_alloc | apply pw_below_drewN)⟩
      · have hC1 : (a1_3 == -1) = false := beq_eq_false_iff_ne.mpr hC
        by_cases hNC : prog_may.bad a0_6 a1_3 = true
        · have NC := Aside0.mk (fun (W : World) (hc : W.cell? ⟨w.heap.size, 6, none⟩ = some (.int .i64 a0_6)) => show Calls Tryz.prog 47 #[.int .i64 a1_3, .pointer (some ⟨w.heap.size, 0, none⟩)] W fun e w' => e = .returned (.bool true) ∧ w' = W from hNC ▸ prog_may.isout a1_3 a0_6 w.heap.size W hc)
          have HG := Aside0.mk (show prog_may.g a0_6 2 a1_1 a1_2 a1_3 l1_4 a2 a3 = false by unfold prog_may.g; rw [if_pos (.inr rfl)]; simp [hNA, hL', hC, hNC])
          clear hC hNA hNC hL'
          go_enter Tryz.func34, Tryz.ntmps34
          go_wp2_with fail
          refine (HW.out _).mono ?_
          rintro e w1 ⟨rfl, hd⟩
          obtain ⟨n1, rfl⟩ := hd.out
          clear hd
          go_wp2_with fail
          refine (NA.out _ (HC6.out n1)).mono ?_
          rintro e w2 ⟨rfl, rfl⟩
          go_wp2_with fail
          refine (NC.out _ (HC6.out n1)).mono ?_
          rintro e w2 ⟨rfl, rfl⟩
          go_wp2
          go_ret
          rw [HG.out]
          first
            | exact ⟨rfl, by repeat (first | exact Below.refl _ _ | apply below_alloc | apply pw_below_drewN)⟩
            | exact ⟨by simp [*], by repeat (first | exact Below.refl _ _ | apply below_alloc | apply pw_below_drewN)⟩
        · replace hNC : prog_may.bad a0_6 a1_3 = false := by simpa using hNC
          have NC := Aside0.mk (fun (W : World) (hc : W.cell? ⟨w.heap.size, 6, none⟩ = some (.int .i64 a0_6)) => show Calls Tryz.prog 47 #[.int .i64 a1_3, .pointer (some ⟨w.heap.size, 0, none⟩)] W fun e w' => e = .returned (.bool false) ∧ w' = W from hNC ▸ prog_may.isout a1_3 a0_6 w.heap.size W hc)
          have HG := Aside0.mk (show prog_may.g a0_6 2 a1_1 a1_2 a1_3 l1_4 a2 a3 = true by unfold prog_may.g; rw [if_pos (.inr rfl)]; simp [hNA, hL', hC, hNC])
          clear hC hNA hNC hL'
          go_enter Tryz.func34, Tryz.ntmps34
          go_wp2_with fail
          refine (HW.out _).mono ?_
          rintro e w1 ⟨rfl, hd⟩
          obtain ⟨n1, rfl⟩ := hd.out
          clear hd
          go_wp2_with fail
          refine (NA.out _ (HC6.out n1)).mono ?_
          rintro e w2 ⟨rfl, rfl⟩
          go_wp2_with fail
          refine (NC.out _ (HC6.out n1)).mono ?_
          rintro e w2 ⟨rfl, rfl⟩
          go_wp2
          go_ret
          rw [HG.out]
          first
            | exact ⟨rfl, by repeat (first | exact Below.refl _ _ | apply below_alloc | apply pw_below_drewN)⟩
            | exact ⟨by simp [*], by repeat (first | exact Below.refl _ _ | apply below_alloc | apply pw_below_drewN)⟩

set_option maxHeartbeats 8000000 in
set_option maxRecDepth 100000 in
theorem prog_may.k3 (a0_0 a0_1 a0_2 a0_3 a0_4 a0_5 a0_6 a0_7 a0_8 a0_9 a0_10 a0_11 : Int) (a1_1 a1_2 a1_3 : Int) (A1_4 : Option Addr) (c1_4 : Nat) (l1_4 : List Int) (a2 a3 : Int) (w : World) (hr1_4 : Kd.C (Kd.int .i64) w A1_4 l1_4.length l1_4) (hc1_4 : l1_4.length ≤ c1_4) :
    Calls Tryz.prog 34 #[.agg #[.int .i64 a0_0, .int .i64 a0_1, .int .i64 a0_2, .int .i64 a0_3, .int .i64 a0_4, .int .i64 a0_5, .int .i64 a0_6, .int .i64 a0_7, .int .i64 a0_8, .int .i64 a0_9, .int .i64 a0_10, .int .i64 a0_11], .agg #[.int .i64 3, .int .i64 a1_1, .int .i64 a1_2, .int .i64 a1_3, .slice A1_4 l1_4.length c1_4], .int .i64 a2, .int .i64 a3] w fun e w' => e = .returned (.bool (prog_may.g a0_6 3 a1_1 a1_2 a1_3 l1_4 a2 a3)) ∧ Below w.heap.size w w' := by
  have hu50 := Tryz.underlying23
  have hu59 := Tryz.underlying30
  have HR := Aside0.mk hr1_4
  have HCC := Aside0.mk hc1_4
  clear hr1_4 hc1_4
  have HW := Aside0.mk (prog_may.word_at 3 (⟨#[99, 111, 110, 115, 116]⟩ : ByteArray) 2 false (by decide +kernel))
  have HC6 := Aside0.mk (prog_may.conf_cell w a0_0 a0_1 a0_2 a0_3 a0_4 a0_5 a0_6 a0_7 a0_8 a0_9 a0_10 a0_11 (.cells #[.int .i64 3, .int .i64 a1_1, .int .i64 a1_2, .int .i64 a1_3, .slice A1_4 l1_4.length c1_4] 30))
  by_cases hNA : prog_may.bad a0_6 a1_1 = true
  · have NA := Aside0.mk (fun (W : World) (hc : W.cell? ⟨w.heap.size, 6, none⟩ = some (.int .i64 a0_6)) => show Calls Tryz.prog 47 #[.int .i64 a1_1, .pointer (some ⟨w.heap.size, 0, none⟩)] W fun e w' => e = .returned (.bool true) ∧ w' = W from hNA ▸ prog_may.isout a1_1 a0_6 w.heap.size W hc)
    have HG := Aside0.mk (show prog_may.g a0_6 3 a1_1 a1_2 a1_3 l1_4 a2 a3 = false by unfold prog_may.g; rw [if_neg (by omega), if_pos rfl]; simp [hNA])
    clear hNA
    go_enter Tryz.func34, Tryz.ntmps34
    go_wp2_with fail
    refine (HW.out _).mono ?_
    rintro e w1 ⟨rfl, hd⟩
    obtain ⟨n1, rfl⟩ := hd.out
    clear hd
    go_wp2_with fail
    refine (NA.out _ (HC6.out n1)).mono ?_
    rintro e w2 ⟨rfl, rfl⟩
    go_wp2
    go_ret
    rw [HG.out]
    first
      | exact ⟨rfl, by repeat (first | exact Below.refl _ _ | apply below_alloc | apply pw_below_drewN)⟩
      | exact ⟨by simp [*], by repeat (first | exact Below.refl _ _ | apply below_alloc | apply pw_below_drewN)⟩
  · replace hNA : prog_may.bad a0_6 a1_1 = false := by simpa using hNA
    have NA := Aside0.mk (fun (W : World) (hc : W.cell? ⟨w.heap.size, 6, none⟩ = some (.int .i64 a0_6)) => show Calls Tryz.prog 47 #[.int .i64 a1_1, .pointer (some ⟨w.heap.size, 0, none⟩)] W fun e w' => e = .returned (.bool false) ∧ w' = W from hNA ▸ prog_may.isout a1_1 a0_6 w.heap.size W hc)
    by_cases hL : 0 < l1_4.length
    · have hL' : l1_4.isEmpty = false := by cases l1_4 with | nil => simp at hL | cons x t => rfl
      have HG := Aside0.mk (show prog_may.g a0_6 3 a1_1 a1_2 a1_3 l1_4 a2 a3 = false by unfold prog_may.g; rw [if_neg (by omega), if_pos rfl]; simp [hNA, hL'])
      clear hNA hL'
      go_enter Tryz.func34, Tryz.ntmps34
      go_wp2_with fail
      refine (HW.out _).mono ?_
      rintro e w1 ⟨rfl, hd⟩
      obtain ⟨n1, rfl⟩ := hd.out
      clear hd
      go_wp2_with fail
      refine (NA.out _ (HC6.out n1)).mono ?_
      rintro e w2 ⟨rfl, rfl⟩
      go_wp2
      go_ret
      rw [HG.out]
      first
        | exact ⟨rfl, by repeat (first | exact Below.refl _ _ | apply below_alloc | apply pw_below_drewN)⟩
        | exact ⟨by simp [*], by repeat (first | exact Below.refl _ _ | apply below_alloc | apply pw_below_drewN)⟩
    · have hL' : l1_4.isEmpty = true := by cases l1_4 with | nil => rfl | cons x t => simp at hL
      have HG := Aside0.mk (show prog_may.g a0_6 3 a1_1 a1_2 a1_3 l1_4 a2 a3 = true by unfold prog_may.g; rw [if_neg (by omega), if_pos rfl]; simp [hNA, hL'])
      clear hNA hL'
      go_enter Tryz.func34, Tryz.ntmps34
      go_wp2_with fail
      refine (HW.out _).mono ?_
      rintro e w1 ⟨rfl, hd⟩
      obtain ⟨n1, rfl⟩ := hd.out
      clear hd
      go_wp2_with fail
      refine (NA.out _ (HC6.out n1)).mono ?_
      rintro e w2 ⟨rfl, rfl⟩
      go_wp2
      go_ret
      rw [HG.out]
      first
        | exact ⟨rfl, by repeat (first | exact Below.refl _ _ | apply below_alloc | apply pw_below_drewN)⟩
        | exact ⟨by simp [*], by repeat (first | exact Below.refl _ _ | apply below_alloc | apply pw_below_drewN)⟩

set_option maxHeartbeats 8000000 in
set_option maxRecDepth 100000 in
theorem prog_may.k4 (a0_0 a0_1 a0_2 a0_3 a0_4 a0_5 a0_6 a0_7 a0_8 a0_9 a0_10 a0_11 : Int) (a1_1 a1_2 a1_3 : Int) (A1_4 : Option Addr) (c1_4 : Nat) (l1_4 : List Int) (a2 a3 : Int) (w : World) (hr1_4 : Kd.C (Kd.int .i64) w A1_4 l1_4.length l1_4) (hc1_4 : l1_4.length ≤ c1_4) :
    Calls Tryz.prog 34 #[.agg #[.int .i64 a0_0, .int .i64 a0_1, .int .i64 a0_2, .int .i64 a0_3, .int .i64 a0_4, .int .i64 a0_5, .int .i64 a0_6, .int .i64 a0_7, .int .i64 a0_8, .int .i64 a0_9, .int .i64 a0_10, .int .i64 a0_11], .agg #[.int .i64 4, .int .i64 a1_1, .int .i64 a1_2, .int .i64 a1_3, .slice A1_4 l1_4.length c1_4], .int .i64 a2, .int .i64 a3] w fun e w' => e = .returned (.bool (prog_may.g a0_6 4 a1_1 a1_2 a1_3 l1_4 a2 a3)) ∧ Below w.heap.size w w' := by
  have hu50 := Tryz.underlying23
  have hu59 := Tryz.underlying30
  have HR := Aside0.mk hr1_4
  have HCC := Aside0.mk hc1_4
  clear hr1_4 hc1_4
  have HW := Aside0.mk (prog_may.word_at 4 (⟨#[99, 97, 108, 99]⟩ : ByteArray) 2 true (by decide +kernel))
  have HC6 := Aside0.mk (prog_may.conf_cell w a0_0 a0_1 a0_2 a0_3 a0_4 a0_5 a0_6 a0_7 a0_8 a0_9 a0_10 a0_11 (.cells #[.int .i64 4, .int .i64 a1_1, .int .i64 a1_2, .int .i64 a1_3, .slice A1_4 l1_4.length c1_4] 30))
  by_cases hNA : prog_may.bad a0_6 a1_1 = true
  · have NA := Aside0.mk (fun (W : World) (hc : W.cell? ⟨w.heap.size, 6, none⟩ = some (.int .i64 a0_6)) => show Calls Tryz.prog 47 #[.int .i64 a1_1, .pointer (some ⟨w.heap.size, 0, none⟩)] W fun e w' => e = .returned (.bool true) ∧ w' = W from hNA ▸ prog_may.isout a1_1 a0_6 w.heap.size W hc)
    have HG := Aside0.mk (show prog_may.g a0_6 4 a1_1 a1_2 a1_3 l1_4 a2 a3 = false by unfold prog_may.g; rw [if_neg (by omega), if_neg (by omega), if_pos rfl]; simp [hNA])
    clear hNA
    go_enter Tryz.func34, Tryz.ntmps34
    go_wp2_with fail
    refine (HW.out _).mono ?_
    rintro e w1 ⟨rfl, hd⟩
    obtain ⟨n1, rfl⟩ := hd.out
    clear hd
    go_wp2_with fail
    refine (NA.out _ (HC6.out n1)).mono ?_
    rintro e w2 ⟨rfl, rfl⟩
    go_wp2
    go_ret
    rw [HG.out]
    first
      | exact ⟨rfl, by repeat (first | exact Below.refl _ _ | apply below_alloc | apply pw_below_drewN)⟩
      | exact ⟨by simp [*], by repeat (first | exact Below.refl _ _ | apply below_alloc | apply pw_below_drewN)⟩
  · replace hNA : prog_may.bad a0_6 a1_1 = false := by simpa using hNA
    have NA := Aside0.mk (fun (W : World) (hc : W.cell? ⟨w.heap.size, 6, none⟩ = some (.int .i64 a0_6)) => show Calls Tryz.prog 47 #[.int .i64 a1_1, .pointer (some ⟨w.heap.size, 0, none⟩)] W fun e w' => e = .returned (.bool false) ∧ w' = W from hNA ▸ prog_may.isout a1_1 a0_6 w.heap.size W hc)
    by_cases hK : 0 ≤ a1_2 ∧ a1_2 ≤ 8
    · have HK := Aside0.mk (fun (W : World) => calc_Known.calls a1_2 true W (by unfold calc_Known.f; rw [if_pos (show a1_2 ≥ 0 by omega)]; exact congrArg some (decide_eq_true (by omega))))
      by_cases hL : 0 < l1_4.length
      · have hL2 : (decide (0 < l1_4.length)) = true := decide_eq_true hL
        by_cases hM : l1_4.length ≤ 8
        · have hM1 : (l1_4.length : Int) ≤ 8 := by omega
          by_cases hA : (l1_4.all fun x => !prog_may.bad a0_6 x) = true
          · have HS := Aside0.mk (fun (W : World) (hr : Kd.C (Kd.int .i64) W A1_4 l1_4.length l1_4) (hc : W.cell? ⟨w.heap.size, 6, none⟩ = some (.int .i64 a0_6)) => prog_may.has a0_6 w.heap.size A1_4 c1_4 l1_4 W hr HCC.out hc)
            rw [hA] at HS
            have HG := Aside0.mk (show prog_may.g a0_6 4 a1_1 a1_2 a1_3 l1_4 a2 a3 = true by unfold prog_may.g; rw [if_neg (by omega), if_neg (by omega), if_pos rfl]; simp [hNA, hK, hL, hM, hA])
            clear hA hNA hK hM
            go_enter Tryz.func34, Tryz.ntmps34
            go_wp2_with fail
            refine (HW.out _).mono ?_
            rintro e w1 ⟨rfl, hd⟩
            obtain ⟨n1, rfl⟩ := hd.out
            clear hd
            go_wp2_with fail
            refine (NA.out _ (HC6.out n1)).mono ?_
            rintro e w2 ⟨rfl, rfl⟩
            go_wp2_with fail
            refine (HK.out _).mono ?_
            rintro e w3 ⟨rfl, hd⟩
            obtain ⟨n2, rfl⟩ := hd.out
            clear hd
            go_wp2_with fail
            refine (HS.out _ (Kd.C_below HR.out (by repeat (first | exact Below.refl _ _ | apply below_alloc | apply pw_below_drewN))) (HC6.out (n1 + n2))).mono ?_
            rintro e w4 ⟨rfl, rfl⟩
            go_wp2
            go_ret
            rw [HG.out]
            first
              | exact ⟨rfl, by repeat (first | exact Below.refl _ _ | apply below_alloc | apply pw_below_drewN)⟩
              | exact ⟨by simp [*], by repeat (first | exact Below.refl _ _ | apply below_alloc | apply pw_below_drewN)⟩
          · replace hA : (l1_4.all fun x => !prog_may.bad a0_6 x) = false := by simpa using hA
            have HS := Aside0.mk (fun (W : World) (hr : Kd.C (Kd.int .i64) W A1_4 l1_4.length l1_4) (hc : W.cell? ⟨w.heap.size, 6, none⟩ = some (.int .i64 a0_6)) => prog_may.has a0_6 w.heap.size A1_4 c1_4 l1_4 W hr HCC.out hc)
            rw [hA] at HS
            have HG := Aside0.mk (show prog_may.g a0_6 4 a1_1 a1_2 a1_3 l1_4 a2 a3 = false by unfold prog_may.g; rw [if_neg (by omega), if_neg (by omega), if_pos rfl]; simp [hNA, hK, hL, hM, hA])
            clear hA hNA hK hM
            go_enter Tryz.func34, Tryz.ntmps34
            go_wp2_with fail
            refine (HW.out _).mono ?_
            rintro e w1 ⟨rfl, hd⟩
            obtain ⟨n1, rfl⟩ := hd.out
            clear hd
            go_wp2_with fail
            refine (NA.out _ (HC6.out n1)).mono ?_
            rintro e w2 ⟨rfl, rfl⟩
            go_wp2_with fail
            refine (HK.out _).mono ?_
            rintro e w3 ⟨rfl, hd⟩
            obtain ⟨n2, rfl⟩ := hd.out
            clear hd
            go_wp2_with fail
            refine (HS.out _ (Kd.C_below HR.out (by repeat (first | exact Below.refl _ _ | apply below_alloc | apply pw_below_drewN))) (HC6.out (n1 + n2))).mono ?_
            rintro e w4 ⟨rfl, rfl⟩
            go_wp2
            go_ret
            rw [HG.out]
            first
              | exact ⟨rfl, by repeat (first | exact Below.refl _ _ | apply below_alloc | apply pw_below_drewN)⟩
              | exact ⟨by simp [*], by repeat (first | exact Below.refl _ _ | apply below_alloc | apply pw_below_drewN)⟩
        · have hM1 : ¬ ((l1_4.length : Int) ≤ 8) := by omega
          have HG := Aside0.mk (show prog_may.g a0_6 4 a1_1 a1_2 a1_3 l1_4 a2 a3 = false by unfold prog_may.g; rw [if_neg (by omega), if_neg (by omega), if_pos rfl]; simp [hNA, hK, hL, hM])
          clear hNA hK hM
          go_enter Tryz.func34, Tryz.ntmps34
          go_wp2_with fail
          refine (HW.out _).mono ?_
          rintro e w1 ⟨rfl, hd⟩
          obtain ⟨n1, rfl⟩ := hd.out
          clear hd
          go_wp2_with fail
          refine (NA.out _ (HC6.out n1)).mono ?_
          rintro e w2 ⟨rfl, rfl⟩
          go_wp2_with fail
          refine (HK.out _).mono ?_
          rintro e w3 ⟨rfl, hd⟩
          obtain ⟨n2, rfl⟩ := hd.out
          clear hd
          go_wp2
          go_ret
          rw [HG.out]
          first
            | exact ⟨rfl, by repeat (first | exact Below.refl _ _ | apply below_alloc | apply pw_below_drewN)⟩
            | exact ⟨by simp [*], by repeat (first | exact Below.refl _ _ | apply below_alloc | apply pw_below_drewN)⟩
      · have HG := Aside0.mk (show prog_may.g a0_6 4 a1_1 a1_2 a1_3 l1_4 a2 a3 = false by unfold prog_may.g; rw [if_neg (by omega), if_neg (by omega), if_pos rfl]; simp [hNA, hK, hL])
        clear hNA hK
        go_enter Tryz.func34, Tryz.ntmps34
        go_wp2_with fail
        refine (HW.out _).mono ?_
        rintro e w1 ⟨rfl, hd⟩
        obtain ⟨n1, rfl⟩ := hd.out
        clear hd
        go_wp2_with fail
        refine (NA.out _ (HC6.out n1)).mono ?_
        rintro e w2 ⟨rfl, rfl⟩
        go_wp2_with fail
        refine (HK.out _).mono ?_
        rintro e w3 ⟨rfl, hd⟩
        obtain ⟨n2, rfl⟩ := hd.out
        clear hd
        go_wp2
        go_ret
        rw [HG.out]
        first
          | exact ⟨rfl, by repeat (first | exact Below.refl _ _ | apply below_alloc | apply pw_below_drewN)⟩
          | exact ⟨by simp [*], by repeat (first | exact Below.refl _ _ | apply below_alloc | apply pw_below_drewN)⟩
    · have HK := Aside0.mk (fun (W : World) => calc_Known.calls a1_2 false W (by unfold calc_Known.f; by_cases h0 : a1_2 ≥ 0; (rw [if_pos h0]; exact congrArg some (decide_eq_false (by omega))); rw [if_neg h0]))
      have HG := Aside0.mk (show prog_may.g a0_6 4 a1_1 a1_2 a1_3 l1_4 a2 a3 = false by unfold prog_may.g; rw [if_neg (by omega), if_neg (by omega), if_pos rfl]; simp [hNA, hK])
      clear hNA hK
      go_enter Tryz.func34, Tryz.ntmps34
      go_wp2_with fail
      refine (HW.out _).mono ?_
      rintro e w1 ⟨rfl, hd⟩
      obtain ⟨n1, rfl⟩ := hd.out
      clear hd
      go_wp2_with fail
      refine (NA.out _ (HC6.out n1)).mono ?_
      rintro e w2 ⟨rfl, rfl⟩
      go_wp2_with fail
      refine (HK.out _).mono ?_
      rintro e w3 ⟨rfl, hd⟩
      obtain ⟨n2, rfl⟩ := hd.out
      clear hd
      go_wp2
      go_ret
      rw [HG.out]
      first
        | exact ⟨rfl, by repeat (first | exact Below.refl _ _ | apply below_alloc | apply pw_below_drewN)⟩
        | exact ⟨by simp [*], by repeat (first | exact Below.refl _ _ | apply below_alloc | apply pw_below_drewN)⟩

set_option maxHeartbeats 8000000 in
set_option maxRecDepth 100000 in
theorem prog_may.k5 (a0_0 a0_1 a0_2 a0_3 a0_4 a0_5 a0_6 a0_7 a0_8 a0_9 a0_10 a0_11 : Int) (a1_1 a1_2 a1_3 : Int) (A1_4 : Option Addr) (c1_4 : Nat) (l1_4 : List Int) (a2 a3 : Int) (w : World) (hr1_4 : Kd.C (Kd.int .i64) w A1_4 l1_4.length l1_4) (hc1_4 : l1_4.length ≤ c1_4) :
    Calls Tryz.prog 34 #[.agg #[.int .i64 a0_0, .int .i64 a0_1, .int .i64 a0_2, .int .i64 a0_3, .int .i64 a0_4, .int .i64 a0_5, .int .i64 a0_6, .int .i64 a0_7, .int .i64 a0_8, .int .i64 a0_9, .int .i64 a0_10, .int .i64 a0_11], .agg #[.int .i64 5, .int .i64 a1_1, .int .i64 a1_2, .int .i64 a1_3, .slice A1_4 l1_4.length c1_4], .int .i64 a2, .int .i64 a3] w fun e w' => e = .returned (.bool (prog_may.g a0_6 5 a1_1 a1_2 a1_3 l1_4 a2 a3)) ∧ Below w.heap.size w w' := by
  have hu50 := Tryz.underlying23
  have hu59 := Tryz.underlying30
  have HR := Aside0.mk hr1_4
  have HCC := Aside0.mk hc1_4
  clear hr1_4 hc1_4
  have HW := Aside0.mk (prog_may.word_at 5 (⟨#[106, 117, 109, 112]⟩ : ByteArray) 2 false (by decide +kernel))
  have HC6 := Aside0.mk (prog_may.conf_cell w a0_0 a0_1 a0_2 a0_3 a0_4 a0_5 a0_6 a0_7 a0_8 a0_9 a0_10 a0_11 (.cells #[.int .i64 5, .int .i64 a1_1, .int .i64 a1_2, .int .i64 a1_3, .slice A1_4 l1_4.length c1_4] 30))
  by_cases hNA : prog_may.bad a0_6 a1_1 = true
  · have NA := Aside0.mk (fun (W : World) (hc : W.cell? ⟨w.heap.size, 6, none⟩ = some (.int .i64 a0_6)) => show Calls Tryz.prog 47 #[.int .i64 a1_1, .pointer (some ⟨w.heap.size, 0, none⟩)] W fun e w' => e = .returned (.bool true) ∧ w' = W from hNA ▸ prog_may.isout a1_1 a0_6 w.heap.size W hc)
    have HG := Aside0.mk (show prog_may.g a0_6 5 a1_1 a1_2 a1_3 l1_4 a2 a3 = false by unfold prog_may.g; rw [if_neg (by omega), if_neg (by omega), if_neg (by omega), if_pos rfl]; simp [hNA])
    clear hNA
    go_enter Tryz.func34, Tryz.ntmps34
    go_wp2_with fail
    refine (HW.out _).mono ?_
    rintro e w1 ⟨rfl, hd⟩
    obtain ⟨n1, rfl⟩ := hd.out
    clear hd
    go_wp2_with fail
    refine (NA.out _ (HC6.out n1)).mono ?_
    rintro e w2 ⟨rfl, rfl⟩
    go_wp2
    go_ret
    rw [HG.out]
    first
      | exact ⟨rfl, by repeat (first | exact Below.refl _ _ | apply below_alloc | apply pw_below_drewN)⟩
      | exact ⟨by simp [*], by repeat (first | exact Below.refl _ _ | apply below_alloc | apply pw_below_drewN)⟩
  · replace hNA : prog_may.bad a0_6 a1_1 = false := by simpa using hNA
    have NA := Aside0.mk (fun (W : World) (hc : W.cell? ⟨w.heap.size, 6, none⟩ = some (.int .i64 a0_6)) => show Calls Tryz.prog 47 #[.int .i64 a1_1, .pointer (some ⟨w.heap.size, 0, none⟩)] W fun e w' => e = .returned (.bool false) ∧ w' = W from hNA ▸ prog_may.isout a1_1 a0_6 w.heap.size W hc)
    by_cases hL : 0 < l1_4.length
    · have hL' : l1_4.isEmpty = false := by cases l1_4 with | nil => simp at hL | cons x t => rfl
      have HG := Aside0.mk (show prog_may.g a0_6 5 a1_1 a1_2 a1_3 l1_4 a2 a3 = false by unfold prog_may.g; rw [if_neg (by omega), if_neg (by omega), if_neg (by omega), if_pos rfl]; simp [hNA, hL'])
      clear hNA hL'
      go_enter Tryz.func34, Tryz.ntmps34
      go_wp2_with fail
      refine (HW.out _).mono ?_
      rintro e w1 ⟨rfl, hd⟩
      obtain ⟨n1, rfl⟩ := hd.out
      clear hd
      go_wp2_with fail
      refine (NA.out _ (HC6.out n1)).mono ?_
      rintro e w2 ⟨rfl, rfl⟩
      go_wp2
      go_ret
      rw [HG.out]
      first
        | exact ⟨rfl, by repeat (first | exact Below.refl _ _ | apply below_alloc | apply pw_below_drewN)⟩
        | exact ⟨by simp [*], by repeat (first | exact Below.refl _ _ | apply below_alloc | apply pw_below_drewN)⟩
    · have hL' : l1_4.isEmpty = true := by cases l1_4 with | nil => rfl | cons x t => simp at hL
      by_cases hB : a2 < a1_2
      · by_cases hM : a1_2 ≤ a3
        · have HG := Aside0.mk (show prog_may.g a0_6 5 a1_1 a1_2 a1_3 l1_4 a2 a3 = true by unfold prog_may.g; rw [if_neg (by omega), if_neg (by omega), if_neg (by omega), if_pos rfl]; simp [hNA, hL', hB, hM])
          clear hNA hL'
          go_enter Tryz.func34, Tryz.ntmps34
          go_wp2_with fail
          refine (HW.out _).mono ?_
          rintro e w1 ⟨rfl, hd⟩
          obtain ⟨n1, rfl⟩ := hd.out
          clear hd
          go_wp2_with fail
          refine (NA.out _ (HC6.out n1)).mono ?_
          rintro e w2 ⟨rfl, rfl⟩
          go_wp2
          go_ret
          rw [HG.out]
          first
            | exact ⟨rfl, by repeat (first | exact Below.refl _ _ | apply below_alloc | apply pw_below_drewN)⟩
            | exact ⟨by simp [*], by repeat (first | exact Below.refl _ _ | apply below_alloc | apply pw_below_drewN)⟩
        · have HG := Aside0.mk (show prog_may.g a0_6 5 a1_1 a1_2 a1_3 l1_4 a2 a3 = false by unfold prog_may.g; rw [if_neg (by omega), if_neg (by omega), if_neg (by omega), if_pos rfl]; simp [hNA, hL', hB, hM])
          clear hNA hL'
          go_enter Tryz.func34, Tryz.ntmps34
          go_wp2_with fail
          refine (HW.out _).mono ?_
          rintro e w1 ⟨rfl, hd⟩
          obtain ⟨n1, rfl⟩ := hd.out
          clear hd
          go_wp2_with fail
          refine (NA.out _ (HC6.out n1)).mono ?_
          rintro e w2 ⟨rfl, rfl⟩
          go_wp2
          go_ret
          rw [HG.out]
          first
            | exact ⟨rfl, by repeat (first | exact Below.refl _ _ | apply below_alloc | apply pw_below_drewN)⟩
            | exact ⟨by simp [*], by repeat (first | exact Below.refl _ _ | apply below_alloc | apply pw_below_drewN)⟩
      · have HG := Aside0.mk (show prog_may.g a0_6 5 a1_1 a1_2 a1_3 l1_4 a2 a3 = false by unfold prog_may.g; rw [if_neg (by omega), if_neg (by omega), if_neg (by omega), if_pos rfl]; simp [hNA, hL', hB])
        clear hNA hL'
        go_enter Tryz.func34, Tryz.ntmps34
        go_wp2_with fail
        refine (HW.out _).mono ?_
        rintro e w1 ⟨rfl, hd⟩
        obtain ⟨n1, rfl⟩ := hd.out
        clear hd
        go_wp2_with fail
        refine (NA.out _ (HC6.out n1)).mono ?_
        rintro e w2 ⟨rfl, rfl⟩
        go_wp2
        go_ret
        rw [HG.out]
        first
          | exact ⟨rfl, by repeat (first | exact Below.refl _ _ | apply below_alloc | apply pw_below_drewN)⟩
          | exact ⟨by simp [*], by repeat (first | exact Below.refl _ _ | apply below_alloc | apply pw_below_drewN)⟩

set_option maxHeartbeats 8000000 in
set_option maxRecDepth 100000 in
theorem prog_may.k6 (a0_0 a0_1 a0_2 a0_3 a0_4 a0_5 a0_6 a0_7 a0_8 a0_9 a0_10 a0_11 : Int) (a1_1 a1_2 a1_3 : Int) (A1_4 : Option Addr) (c1_4 : Nat) (l1_4 : List Int) (a2 a3 : Int) (w : World) (hr1_4 : Kd.C (Kd.int .i64) w A1_4 l1_4.length l1_4) (hc1_4 : l1_4.length ≤ c1_4) :
    Calls Tryz.prog 34 #[.agg #[.int .i64 a0_0, .int .i64 a0_1, .int .i64 a0_2, .int .i64 a0_3, .int .i64 a0_4, .int .i64 a0_5, .int .i64 a0_6, .int .i64 a0_7, .int .i64 a0_8, .int .i64 a0_9, .int .i64 a0_10, .int .i64 a0_11], .agg #[.int .i64 6, .int .i64 a1_1, .int .i64 a1_2, .int .i64 a1_3, .slice A1_4 l1_4.length c1_4], .int .i64 a2, .int .i64 a3] w fun e w' => e = .returned (.bool (prog_may.g a0_6 6 a1_1 a1_2 a1_3 l1_4 a2 a3)) ∧ Below w.heap.size w w' := by
  have hu50 := Tryz.underlying23
  have hu59 := Tryz.underlying30
  have HR := Aside0.mk hr1_4
  have HCC := Aside0.mk hc1_4
  clear hr1_4 hc1_4
  have HW := Aside0.mk (prog_may.word_at 6 (⟨#[114, 101, 116, 114, 121]⟩ : ByteArray) 0 false (by decide +kernel))
  have HC6 := Aside0.mk (prog_may.conf_cell w a0_0 a0_1 a0_2 a0_3 a0_4 a0_5 a0_6 a0_7 a0_8 a0_9 a0_10 a0_11 (.cells #[.int .i64 6, .int .i64 a1_1, .int .i64 a1_2, .int .i64 a1_3, .slice A1_4 l1_4.length c1_4] 30))
  by_cases hL : 0 < l1_4.length
  · have hL' : l1_4.isEmpty = false := by cases l1_4 with | nil => simp at hL | cons x t => rfl
    have HG := Aside0.mk (show prog_may.g a0_6 6 a1_1 a1_2 a1_3 l1_4 a2 a3 = false by unfold prog_may.g; rw [if_neg (by omega), if_neg (by omega), if_neg (by omega), if_neg (by omega), if_pos (.inl rfl)]; simp [hL'])
    clear hL'
    go_enter Tryz.func34, Tryz.ntmps34
    go_wp2_with fail
    refine (HW.out _).mono ?_
    rintro e w1 ⟨rfl, hd⟩
    obtain ⟨n1, rfl⟩ := hd.out
    clear hd
    go_wp2
    go_ret
    rw [HG.out]
    first
      | exact ⟨rfl, by repeat (first | exact Below.refl _ _ | apply below_alloc | apply pw_below_drewN)⟩
      | exact ⟨by simp [*], by repeat (first | exact Below.refl _ _ | apply below_alloc | apply pw_below_drewN)⟩
  · have hL' : l1_4.isEmpty = true := by cases l1_4 with | nil => rfl | cons x t => simp at hL
    have HG := Aside0.mk (show prog_may.g a0_6 6 a1_1 a1_2 a1_3 l1_4 a2 a3 = true by unfold prog_may.g; rw [if_neg (by omega), if_neg (by omega), if_neg (by omega), if_neg (by omega), if_pos (.inl rfl)]; simp [hL'])
    clear hL'
    go_enter Tryz.func34, Tryz.ntmps34
    go_wp2_with fail
    refine (HW.out _).mono ?_
    rintro e w1 ⟨rfl, hd⟩
    obtain ⟨n1, rfl⟩ := hd.out
    clear hd
    go_wp2
    go_ret
    rw [HG.out]
    first
      | exact ⟨rfl, by repeat (first | exact Below.refl _ _ | apply below_alloc | apply pw_below_drewN)⟩
      | exact ⟨by simp [*], by repeat (first | exact Below.refl _ _ | apply below_alloc | apply pw_below_drewN)⟩

set_option maxHeartbeats 8000000 in
set_option maxRecDepth 100000 in
theorem prog_may.k7 (a0_0 a0_1 a0_2 a0_3 a0_4 a0_5 a0_6 a0_7 a0_8 a0_9 a0_10 a0_11 : Int) (a1_1 a1_2 a1_3 : Int) (A1_4 : Option Addr) (c1_4 : Nat) (l1_4 : List Int) (a2 a3 : Int) (w : World) (hr1_4 : Kd.C (Kd.int .i64) w A1_4 l1_4.length l1_4) (hc1_4 : l1_4.length ≤ c1_4) :
    Calls Tryz.prog 34 #[.agg #[.int .i64 a0_0, .int .i64 a0_1, .int .i64 a0_2, .int .i64 a0_3, .int .i64 a0_4, .int .i64 a0_5, .int .i64 a0_6, .int .i64 a0_7, .int .i64 a0_8, .int .i64 a0_9, .int .i64 a0_10, .int .i64 a0_11], .agg #[.int .i64 7, .int .i64 a1_1, .int .i64 a1_2, .int .i64 a1_3, .slice A1_4 l1_4.length c1_4], .int .i64 a2, .int .i64 a3] w fun e w' => e = .returned (.bool (prog_may.g a0_6 7 a1_1 a1_2 a1_3 l1_4 a2 a3)) ∧ Below w.heap.size w w' := by
  have hu50 := Tryz.underlying23
  have hu59 := Tryz.underlying30
  have HR := Aside0.mk hr1_4
  have HCC := Aside0.mk hc1_4
  clear hr1_4 hc1_4
  have HW := Aside0.mk (prog_may.word_at 7 (⟨#[97, 98, 111, 114, 116]⟩ : ByteArray) 0 false (by decide +kernel))
  have HC6 := Aside0.mk (prog_may.conf_cell w a0_0 a0_1 a0_2 a0_3 a0_4 a0_5 a0_6 a0_7 a0_8 a0_9 a0_10 a0_11 (.cells #[.int .i64 7, .int .i64 a1_1, .int .i64 a1_2, .int .i64 a1_3, .slice A1_4 l1_4.length c1_4] 30))
  by_cases hL : 0 < l1_4.length
  · have hL' : l1_4.isEmpty = false := by cases l1_4 with | nil => simp at hL | cons x t => rfl
    have HG := Aside0.mk (show prog_may.g a0_6 7 a1_1 a1_2 a1_3 l1_4 a2 a3 = false by unfold prog_may.g; rw [if_neg (by omega), if_neg (by omega), if_neg (by omega), if_neg (by omega), if_pos (.inr rfl)]; simp [hL'])
    clear hL'
    go_enter Tryz.func34, Tryz.ntmps34
    go_wp2_with fail
    refine (HW.out _).mono ?_
    rintro e w1 ⟨rfl, hd⟩
    obtain ⟨n1, rfl⟩ := hd.out
    clear hd
    go_wp2
    go_ret
    rw [HG.out]
    first
      | exact ⟨rfl, by repeat (first | exact Below.refl _ _ | apply below_alloc | apply pw_below_drewN)⟩
      | exact ⟨by simp [*], by repeat (first | exact Below.refl _ _ | apply below_alloc | apply pw_below_drewN)⟩
  · have hL' : l1_4.isEmpty = true := by cases l1_4 with | nil => rfl | cons x t => simp at hL
    have HG := Aside0.mk (show prog_may.g a0_6 7 a1_1 a1_2 a1_3 l1_4 a2 a3 = true by unfold prog_may.g; rw [if_neg (by omega), if_neg (by omega), if_neg (by omega), if_neg (by omega), if_pos (.inr rfl)]; simp [hL'])
    clear hL'
    go_enter Tryz.func34, Tryz.ntmps34
    go_wp2_with fail
    refine (HW.out _).mono ?_
    rintro e w1 ⟨rfl, hd⟩
    obtain ⟨n1, rfl⟩ := hd.out
    clear hd
    go_wp2
    go_ret
    rw [HG.out]
    first
      | exact ⟨rfl, by repeat (first | exact Below.refl _ _ | apply below_alloc | apply pw_below_drewN)⟩
      | exact ⟨by simp [*], by repeat (first | exact Below.refl _ _ | apply below_alloc | apply pw_below_drewN)⟩

set_option maxHeartbeats 8000000 in
set_option maxRecDepth 100000 in
theorem prog_may.ko (a0_0 a0_1 a0_2 a0_3 a0_4 a0_5 a0_6 a0_7 a0_8 a0_9 a0_10 a0_11 : Int) (a1_0 : Int) (a1_1 a1_2 a1_3 : Int) (A1_4 : Option Addr) (c1_4 : Nat) (l1_4 : List Int) (a2 a3 : Int) (w : World) (hr1_4 : Kd.C (Kd.int .i64) w A1_4 l1_4.length l1_4) (hc1_4 : l1_4.length ≤ c1_4) (n1 : a1_0 ≠ 1) (n2 : a1_0 ≠ 2) (n3 : a1_0 ≠ 3) (n4 : a1_0 ≠ 4) (n5 : a1_0 ≠ 5) (n6 : a1_0 ≠ 6) (n7 : a1_0 ≠ 7) :
    Calls Tryz.prog 34 #[.agg #[.int .i64 a0_0, .int .i64 a0_1, .int .i64 a0_2, .int .i64 a0_3, .int .i64 a0_4, .int .i64 a0_5, .int .i64 a0_6, .int .i64 a0_7, .int .i64 a0_8, .int .i64 a0_9, .int .i64 a0_10, .int .i64 a0_11], .agg #[.int .i64 a1_0, .int .i64 a1_1, .int .i64 a1_2, .int .i64 a1_3, .slice A1_4 l1_4.length c1_4], .int .i64 a2, .int .i64 a3] w fun e w' => e = .returned (.bool (prog_may.g a0_6 a1_0 a1_1 a1_2 a1_3 l1_4 a2 a3)) ∧ Below w.heap.size w w' := by
  have hu50 := Tryz.underlying23
  have hu59 := Tryz.underlying30
  have HR := Aside0.mk hr1_4
  have HCC := Aside0.mk hc1_4
  clear hr1_4 hc1_4
  have hw : prog_word.f a1_0 = some ((⟨#[]⟩ : ByteArray), 0, false) := by
    unfold prog_word.f
    rw [if_neg n1, if_neg n2, if_neg n3, if_neg n4, if_neg n5, if_neg n6, if_neg n7]
  have HW := Aside0.mk (prog_may.word_at a1_0 (⟨#[]⟩ : ByteArray) 0 false hw)
  have HG := Aside0.mk (show prog_may.g a0_6 a1_0 a1_1 a1_2 a1_3 l1_4 a2 a3 = false by unfold prog_may.g; rw [if_neg (by omega), if_neg n3, if_neg n4, if_neg n5, if_neg (by omega)])
  clear hw n1 n2 n3 n4 n5 n6 n7
  go_enter Tryz.func34, Tryz.ntmps34
  go_wp2_with fail
  refine (HW.out _).mono ?_
  rintro e w1 ⟨rfl, hd⟩
  obtain ⟨n1, rfl⟩ := hd.out
  clear hd
  go_wp2
  go_ret
  rw [HG.out]
  first
    | exact ⟨rfl, by repeat (first | exact Below.refl _ _ | apply below_alloc | apply pw_below_drewN)⟩
    | exact ⟨by simp [*], by repeat (first | exact Below.refl _ _ | apply below_alloc | apply pw_below_drewN)⟩

def prog_may.f (a0_0 a0_1 a0_2 a0_3 a0_4 a0_5 a0_6 a0_7 a0_8 a0_9 a0_10 a0_11 a1_0 a1_1 a1_2 a1_3 : Int) (l1_4 : List Int) (a2 a3 : Int) : Option Bool := some (prog_may.g a0_6 a1_0 a1_1 a1_2 a1_3 l1_4 a2 a3)
theorem prog_may.calls (a0_0 a0_1 a0_2 a0_3 a0_4 a0_5 a0_6 a0_7 a0_8 a0_9 a0_10 a0_11 a1_0 a1_1 a1_2 a1_3 : Int) (A1_4 : Option Addr) (c1_4 : Nat) (l1_4 : List Int) (a2 a3 : Int) (r : Bool) (w : World) (hr1_4 : Kd.C (Kd.int .i64) w A1_4 l1_4.length l1_4) (hc1_4 : l1_4.length ≤ c1_4) (h : prog_may.f a0_0 a0_1 a0_2 a0_3 a0_4 a0_5 a0_6 a0_7 a0_8 a0_9 a0_10 a0_11 a1_0 a1_1 a1_2 a1_3 l1_4 a2 a3 = some r) :
    Calls Tryz.prog 34 #[.agg #[.int .i64 a0_0, .int .i64 a0_1, .int .i64 a0_2, .int .i64 a0_3, .int .i64 a0_4, .int .i64 a0_5, .int .i64 a0_6, .int .i64 a0_7, .int .i64 a0_8, .int .i64 a0_9, .int .i64 a0_10, .int .i64 a0_11], .agg #[.int .i64 a1_0, .int .i64 a1_1, .int .i64 a1_2, .int .i64 a1_3, .slice A1_4 l1_4.length c1_4], .int .i64 a2, .int .i64 a3] w fun e w' => e = .returned (.bool r) ∧ Below w.heap.size w w' := by
  obtain rfl := Option.some.inj h
  by_cases n1 : a1_0 = 1
  · subst n1; exact prog_may.k1 a0_0 a0_1 a0_2 a0_3 a0_4 a0_5 a0_6 a0_7 a0_8 a0_9 a0_10 a0_11 a1_1 a1_2 a1_3 A1_4 c1_4 l1_4 a2 a3 w hr1_4 hc1_4
  by_cases n2 : a1_0 = 2
  · subst n2; exact prog_may.k2 a0_0 a0_1 a0_2 a0_3 a0_4 a0_5 a0_6 a0_7 a0_8 a0_9 a0_10 a0_11 a1_1 a1_2 a1_3 A1_4 c1_4 l1_4 a2 a3 w hr1_4 hc1_4
  by_cases n3 : a1_0 = 3
  · subst n3; exact prog_may.k3 a0_0 a0_1 a0_2 a0_3 a0_4 a0_5 a0_6 a0_7 a0_8 a0_9 a0_10 a0_11 a1_1 a1_2 a1_3 A1_4 c1_4 l1_4 a2 a3 w hr1_4 hc1_4
  by_cases n4 : a1_0 = 4
  · subst n4; exact prog_may.k4 a0_0 a0_1 a0_2 a0_3 a0_4 a0_5 a0_6 a0_7 a0_8 a0_9 a0_10 a0_11 a1_1 a1_2 a1_3 A1_4 c1_4 l1_4 a2 a3 w hr1_4 hc1_4
  by_cases n5 : a1_0 = 5
  · subst n5; exact prog_may.k5 a0_0 a0_1 a0_2 a0_3 a0_4 a0_5 a0_6 a0_7 a0_8 a0_9 a0_10 a0_11 a1_1 a1_2 a1_3 A1_4 c1_4 l1_4 a2 a3 w hr1_4 hc1_4
  by_cases n6 : a1_0 = 6
  · subst n6; exact prog_may.k6 a0_0 a0_1 a0_2 a0_3 a0_4 a0_5 a0_6 a0_7 a0_8 a0_9 a0_10 a0_11 a1_1 a1_2 a1_3 A1_4 c1_4 l1_4 a2 a3 w hr1_4 hc1_4
  by_cases n7 : a1_0 = 7
  · subst n7; exact prog_may.k7 a0_0 a0_1 a0_2 a0_3 a0_4 a0_5 a0_6 a0_7 a0_8 a0_9 a0_10 a0_11 a1_1 a1_2 a1_3 A1_4 c1_4 l1_4 a2 a3 w hr1_4 hc1_4
  exact prog_may.ko a0_0 a0_1 a0_2 a0_3 a0_4 a0_5 a0_6 a0_7 a0_8 a0_9 a0_10 a0_11 a1_0 a1_1 a1_2 a1_3 A1_4 c1_4 l1_4 a2 a3 w hr1_4 hc1_4 n1 n2 n3 n4 n5 n6 n7

end Go.Proofs.YtkfhnicojokafaaGreat.PMd
