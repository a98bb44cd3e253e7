import Derived.Test.YtefcjnnngaaihaaDoorPrP
/- ProgOdd: what spoils a program. -/
namespace Go.Proofs.YtefcjnnngaaihaaDoor.Pg
open Go.RowKit Go.Proofs.Pg Go.Proofs.YtefcjnnngaaihaaDoor.Ln Go.Proofs.YtefcjnnngaaihaaDoorW.PrintWords Go.Proofs.YtefcjnnngaaihaaDoorW.PrintWords.Kd Go.Proofs.YtefcjnnngaaihaaDoor.PPg
set_option linter.unusedVariables false
set_option linter.unusedSimpArgs false
theorem Check_ {c0 c1 c2 c3 c4 c5 c6 c7 c8 c9 c10 c11 : Int} (A : Option Addr) (c n : Nat) (xs : List In) (r : Int) (w : World) (hn : xs.length = n) (hC : Kd.C k26 w A xs.length (xs.map toS)) (hc : xs.length ≤ c)
    (h : prog_Check.f 70 c0 c1 c2 c3 c4 c5 c6 c7 c8 c9 c10 c11 (xs.map toS) = some r) :
    Calls Tryd.prog 9 #[.agg #[.int .i64 c0, .int .i64 c1, .int .i64 c2, .int .i64 c3, .int .i64 c4, .int .i64 c5, .int .i64 c6, .int .i64 c7, .int .i64 c8, .int .i64 c9, .int .i64 c10, .int .i64 c11], .slice A n c] w fun e w' => e = .returned (.int .i64 r) ∧ Below w.heap.size w w' := by
  subst hn
  have h2 := prog_Check.calls 70 c0 c1 c2 c3 c4 c5 c6 c7 c8 c9 c10 c11 A c (xs.map toS) r w (by rw [List.length_map]; exact hC) (by rw [List.length_map]; exact hc) h
  rwa [List.length_map] at h2
def baseI (j : Nat) : In := { k := 3, a := bits .and .i64 (j : Int) 3, b := j }
def baseL : Nat → List In
  | 0 => []
  | j + 1 => baseL j ++ [baseI j]
theorem baseL_len : ∀ n, (baseL n).length = n
  | 0 => rfl
  | n + 1 => by rw [baseL, List.length_append, baseL_len n]; rfl
theorem baseL_at : ∀ n j (h : j < (baseL n).length), (baseL n)[j] = baseI j
  | 0, j, h => absurd h (by simp [baseL])
  | n + 1, j, h => by
    have hl := baseL_len n
    simp only [baseL]
    by_cases hj : j < n
    · rw [List.getElem_append_left (by omega)]; exact baseL_at n j (by omega)
    · have : j = n := by rw [baseL_len] at h; omega
      subst this
      rw [List.getElem_append_right (by omega)]
      simp [hl]
theorem base_ok : ∀ j : Fin 60, ∀ m : Fin 61, okAt 4 (m.val : Int) (baseI j.val) (j.val : Int) = true := by decide +kernel
theorem inb : InB 2 2 2 2 1 0 4 9 9 0 9 0 := by unfold InB; decide
theorem base_chk (n : Nat) (h : n ≤ 60) : chk 2 2 2 2 1 0 4 9 9 0 9 0 (baseL n) := by
  refine ⟨inb, by rw [baseL_len]; exact h, fun j hj => ?_⟩
  rw [baseL_at, baseL_len]
  rw [baseL_len] at hj
  exact base_ok ⟨j, by omega⟩ ⟨n, by omega⟩
theorem set_chk {c0 c1 c2 c3 c4 c5 c6 c7 c8 c9 c10 c11 : Int} {xs : List In} (h : chk c0 c1 c2 c3 c4 c5 c6 c7 c8 c9 c10 c11 xs) (q : Nat) (hq : q < xs.length) (y : In) :
    chk c0 c1 c2 c3 c4 c5 c6 c7 c8 c9 c10 c11 (xs.set q y) ↔ okAt c6 xs.length y (q : Int) = true := by
  constructor
  · intro h2
    have := h2.2.2 q (by rw [List.length_set]; exact hq)
    rwa [List.getElem_set_self, List.length_set] at this
  · intro h2
    refine ⟨h.1, by rw [List.length_set]; exact h.2.1, fun j hj => ?_⟩
    rw [List.length_set]
    rw [List.length_set] at hj
    by_cases e : q = j
    · subst e; rw [List.getElem_set_self]; exact h2
    · rw [List.getElem_set_ne e]; exact h.2.2 j hj
theorem check_set {c0 c1 c2 c3 c4 c5 c6 c7 c8 c9 c10 c11 : Int} {xs : List In} (h : chk c0 c1 c2 c3 c4 c5 c6 c7 c8 c9 c10 c11 xs) (q : Nat) (hq : q < xs.length) (y : In) :
    prog_Check.f 70 c0 c1 c2 c3 c4 c5 c6 c7 c8 c9 c10 c11 ((xs.set q y).map toS) = some (if okAt c6 xs.length y (q : Int) = true then 0 else 2) := by
  by_cases h2 : okAt c6 xs.length y (q : Int) = true
  · rw [if_pos h2]; exact check_yes ((set_chk h q hq y).2 h2)
  · rw [if_neg h2]; exact check_no (fun h3 => h2 ((set_chk h q hq y).1 h3))
theorem one_row (w : World) (v : Int) : Row (w.alloc (.cells #[.int .i64 v] 3)) 3 1 (some ⟨w.heap.size, 0, none⟩) 1 1 [.int .i64 v] :=
  ⟨rfl, Nat.le_refl _, by simp [maxLen], .inr ⟨w.heap.size, 0, _, rfl, heap_alloc_new w _, by simp, by simp⟩⟩
set_option maxHeartbeats 16000000 in
set_option maxRecDepth 100000 in
theorem odd_walk (n at_ tt : Int) (w : World) (hE : Env w) : Calls Tryd.prog 3 #[.int .i64 n, .int .i64 at_, .int .i64 tt] w fun e w' => e = .returned (.bool true) ∧ Below w.heap.size w w' := by
  have hu2 := Tryd.underlying26
  have HF := Aside0.mk (fun W (hb : Below w.heap.size w W) => first_ W (hE.below hb))
  clear hE
  go_enter Tryd.func3, Tryd.ntmps3
  go_wp2_with fail
  refine (HF.out _ (Below.refl _ _)).mono ?_
  rintro e w1 ⟨rfl, hb⟩
  have HB1 := Aside0.mk hb
  clear hb
  by_cases hz : n < 1 ∨ 60 < n ∨ at_ < 0 ∨ n ≤ at_
  · by_cases y1 : n < 1
    · clear hz
      go_wp2_with fail
      refine (HF.out _ HB1.out).mono ?_
      rintro e w3 ⟨rfl, hb⟩
      have HB3 := Aside0.mk (below_then HB1.out HB1.out.size hb)
      clear hb
      go_wp2
      go_ret
      exact ⟨rfl, HB3.out⟩
    · by_cases y2 : 60 < n
      · clear hz
        go_wp2_with fail
        refine (HF.out _ HB1.out).mono ?_
        rintro e w3 ⟨rfl, hb⟩
        have HB3 := Aside0.mk (below_then HB1.out HB1.out.size hb)
        clear hb
        go_wp2
        go_ret
        exact ⟨rfl, HB3.out⟩
      · by_cases y3 : at_ < 0
        · clear hz
          go_wp2_with fail
          refine (HF.out _ HB1.out).mono ?_
          rintro e w3 ⟨rfl, hb⟩
          have HB3 := Aside0.mk (below_then HB1.out HB1.out.size hb)
          clear hb
          go_wp2
          go_ret
          exact ⟨rfl, HB3.out⟩
        · have y4 : n ≤ at_ := by omega
          clear hz
          go_wp2_with fail
          refine (HF.out _ HB1.out).mono ?_
          rintro e w3 ⟨rfl, hb⟩
          have HB3 := Aside0.mk (below_then HB1.out HB1.out.size hb)
          clear hb
          go_wp2
          go_ret
          exact ⟨rfl, HB3.out⟩
  · have z1 : ¬ n < 1 := by omega
    have z2 : ¬ 60 < n := by omega
    have z3 : ¬ at_ < 0 := by omega
    have z4 : ¬ n ≤ at_ := by omega
    clear hz
    obtain ⟨N, rfl⟩ : ∃ N : Nat, n = N := ⟨n.toNat, by omega⟩
    obtain ⟨q, rfl⟩ : ∃ q : Nat, at_ = q := ⟨at_.toNat, by omega⟩
    have HNQ := Aside0.mk (show 0 < N ∧ N ≤ 60 ∧ q < N by omega)
    replace z1 : decide ((N : Int) < 1) = false := decide_eq_false z1
    replace z2 : decide (60 < (N : Int)) = false := decide_eq_false z2
    replace z3 : decide ((q : Int) < 0) = false := decide_eq_false z3
    replace z4 : decide (N ≤ q) = false := decide_eq_false (by omega)
    go_wp2_with fail
    clear z1 z2 z3 z4
    go_loopg [7, 8] N (fun gg v7 v8 wr => ∃ i : Nat, i ≤ N ∧ N - i ≤ gg ∧ v8 = .int .i64 i ∧ Aside0 (OutP w wr (baseL i) v7))
    case atStart => exact ⟨0, by omega, by omega, rfl, ⟨(OutP.zero w).after HB1.out⟩⟩
    case round =>
      obtain ⟨i, hi, hgg, rfl, HO⟩ := hrel
      by_cases hlt : i < N
      · have t1 : (i : Int) < (N : Int) := by omega
        obtain ⟨A4, c4, rfl, vs, q1, q2, q3, q4⟩ := HO.out
        have hba := below_alloc (Below.refl wr.heap.size wr) (.cells #[.int .i64 3, .int .i64 (bits .and .i64 (i : Int) 3), .int .i64 i, .int .i64 0, .slice none 0 0] 26)
        have HBA := Aside0.mk hba
        have BS := Aside0.mk (heap_alloc_new wr (.cells #[.int .i64 3, .int .i64 (bits .and .i64 (i : Int) 3), .int .i64 i, .int .i64 0, .slice none 0 0] 26))
        have HR4 := Aside0.mk (q1.below hba)
        have HQ := Aside0.mk (And.intro q2 (And.intro q3 q4))
        have W3 := Aside0.mk (show wrap64 ((i : Int) + 1) = ((i + 1 : Nat) : Int) by have := HNQ.out; unfold wrap64; omega)
        have HJ := Aside0.mk (And.intro hlt hgg)
        have HBL := Aside0.mk (And.intro (baseL_len i) (show baseL (i + 1) = baseL i ++ [baseI i] from rfl))
        generalize baseL i = bl at HR4 HQ HBL ⊢
        clear q1 q2 q3 q4 hba hlt hgg hi HO
        go_wp2_with (at_builtin; refine wpList_append_info rfl _ _ 23 rfl 26 _ 5 56 Tryd.underlying23 infoP rfl A4 bl.length c4 vs (by simp [Act.eval, Act.put]) HR4.out ⟨wr.heap.size, 0, none⟩ 1 1 (cellsI (baseI i) none 0) (by simp [Act.eval, Act.put]) rfl (five_at BS.out) (by simp [cellsI, Value.oneCell']) (by rw [HBL.out.1]; have := HNQ.out; have := HJ.out; unfold maxLen; omega) (by rw [HBL.out.1]; have := HNQ.out; have := HJ.out; omega) ?_; refine Hid.out ?_)
        refine Lib.hid ?_
        intro A2 c2 w6 hR6 hG6 hk6
        have HO6 := Aside0.mk (OutP.push (w := w) (x := baseI i) HR4.out HQ.out.1 (HQ.out.2.1.trans (Below.low HBA.out HQ.out.2.1.size)) (fun j y hy => by
          obtain ⟨B5, d5, e, r⟩ := HQ.out.2.2 j y hy
          exact ⟨B5, d5, e, r.below HBA.out⟩) (Row.zero _ _ _) hR6 hG6 (by simpa using hk6))
        clear hR6 hG6 hk6
        go_wp2
        go_roundg (N - (i + 1))
        case measure => have := HJ.out; omega
        case rel => exact ⟨i + 1, by have := HJ.out; omega, by have := HJ.out; omega, by rw [W3.out], ⟨by rw [HBL.out.2]; exact HO6.out⟩⟩
      · obtain rfl : i = N := by omega
        have t1 : ¬ ((i : Int) < (i : Int)) := by omega
        obtain ⟨g, off, c, rfl, hO⟩ := Own.of HO.out (by rw [baseL_len]; exact HNQ.out.1)
        have HCH := Aside0.mk (base_chk i HNQ.out.2.1)
        have HLN := Aside0.mk (baseL_len i)
        have HO1 := Aside0.mk hO
        generalize baseL i = xs at HO1 HCH HLN ⊢
        clear hO hi hgg hlt HO
        go_wp2_with fail
        refine (small_ _).mono ?_
        rintro e wa1 ⟨rfl, hb⟩
        unfold smallC
        have HP1 := Aside0.mk (HO1.out.after hb)
        have HK1 := Aside0.mk (Check_ (some ⟨g, off, none⟩) c xs.length _ 0 wa1 rfl HP1.out.C.2 HP1.out.C.1 (check_yes HCH.out))
        clear hb
        go_wp2_with fail
        refine HK1.out.mono ?_
        rintro e wb1 ⟨rfl, hb⟩
        have HO2 := Aside0.mk (HP1.out.after hb)
        clear hb HK1
        obtain ⟨v0, v1, v2, v3, v4, ⟨k0, k1, k2, k3, k4⟩, fz⟩ := HO2.out.cells q (by have := HLN.out; have := HNQ.out; omega)
        have f0 := fz (off + q * 5)
        have f1 := fz (off + q * 5 + 1)
        have f2 := fz (off + q * 5 + 2)
        have f3 := fz (off + q * 5 + 3)
        have f4 := fz (off + q * 5 + 4)
        have g0 : (0 : Int) ≤ (q : Int) := by omega
        have g1 : (q : Int) < (xs.length : Int) := by have := HLN.out; have := HNQ.out; omega
        have HQ2 := Aside0.mk (by have h := HO2.out.put q (by have := HLN.out; have := HNQ.out; omega) ({ k := 5, a := 3, b := tt } : In) none 0 (Row.zero _ _ _); exact h)
        clear fz
        obtain ⟨r2, hr2⟩ : ∃ r : Int, r = (if okAt 4 xs.length (({ k := 5, a := 3, b := tt } : In)) (q : Int) = true then 0 else 2) := ⟨_, rfl⟩
        have HR2 := Aside0.mk hr2
        clear hr2
        go_wp2_with fail
        refine (small_ _).mono ?_
        rintro e wa2 ⟨rfl, hb⟩
        unfold smallC
        have HP2 := Aside0.mk (HQ2.out.after hb)
        have HK2 := Aside0.mk (Check_ (some ⟨g, off, none⟩) c xs.length _ r2 wa2 (List.length_set ..) HP2.out.C.2 HP2.out.C.1 ((check_set HCH.out q (by have := HLN.out; have := HNQ.out; omega) _).trans (congrArg some HR2.out.symm)))
        clear hb
        go_wp2_with fail
        refine HK2.out.mono ?_
        rintro e wb2 ⟨rfl, hb⟩
        have HO3 := Aside0.mk (HP2.out.after hb)
        clear hb HK2
        clear k0 k1 k2 k3 k4 f0 f1 f2 f3 f4 g0 g1
        obtain ⟨v0, v1, v2, v3, v4, ⟨k0, k1, k2, k3, k4⟩, fz⟩ := HO3.out.cells q (by have := HLN.out; have := HNQ.out; rw [List.length_set]; omega)
        have f0 := fz (off + q * 5)
        have f1 := fz (off + q * 5 + 1)
        have f2 := fz (off + q * 5 + 2)
        have f3 := fz (off + q * 5 + 3)
        have f4 := fz (off + q * 5 + 4)
        have g0 : (0 : Int) ≤ (q : Int) := by omega
        have g1 : (q : Int) < (xs.length : Int) := by have := HLN.out; have := HNQ.out; omega
        have HQ3 := Aside0.mk (by have h := HO3.out.put q (by have := HLN.out; have := HNQ.out; rw [List.length_set]; omega) ({ k := 1, a := 4, c := -1 } : In) none 0 (Row.zero _ _ _); rw [List.set_set] at h; exact h)
        clear fz
        go_wp2_with fail
        refine (small_ _).mono ?_
        rintro e wa3 ⟨rfl, hb⟩
        unfold smallC
        have HP3 := Aside0.mk (HQ3.out.after hb)
        have HK3 := Aside0.mk (Check_ (some ⟨g, off, none⟩) c xs.length _ 2 wa3 (List.length_set ..) HP3.out.C.2 HP3.out.C.1 ((check_set HCH.out q (by have := HLN.out; have := HNQ.out; omega) _).trans (by simp [okAt, prog_may.g, prog_may.bad])))
        clear hb
        go_wp2_with fail
        refine HK3.out.mono ?_
        rintro e wb3 ⟨rfl, hb⟩
        have HO4 := Aside0.mk (HP3.out.after hb)
        clear hb HK3
        clear k0 k1 k2 k3 k4 f0 f1 f2 f3 f4 g0 g1
        have HA4 := Aside0.mk (HO4.out.after (below_alloc (Below.refl wb3.heap.size wb3) (.cells #[.int .i64 1] 3)))
        obtain ⟨v0, v1, v2, v3, v4, ⟨k0, k1, k2, k3, k4⟩, fz⟩ := HA4.out.cells q (by have := HLN.out; have := HNQ.out; rw [List.length_set]; omega)
        have f0 := fz (off + q * 5)
        have f1 := fz (off + q * 5 + 1)
        have f2 := fz (off + q * 5 + 2)
        have f3 := fz (off + q * 5 + 3)
        have f4 := fz (off + q * 5 + 4)
        have g0 : (0 : Int) ≤ (q : Int) := by omega
        have g1 : (q : Int) < (xs.length : Int) := by have := HLN.out; have := HNQ.out; omega
        have HQ4 := Aside0.mk (by have h := HA4.out.put q (by have := HLN.out; have := HNQ.out; rw [List.length_set]; omega) ({ k := 4, b := 9, l := [1] } : In) (some ⟨wb3.heap.size, 0, none⟩) 1 (one_row _ _); rw [List.set_set] at h; exact h)
        clear fz
        go_wp2_with fail
        refine (small_ _).mono ?_
        rintro e wa4 ⟨rfl, hb⟩
        unfold smallC
        have HP4 := Aside0.mk (HQ4.out.after hb)
        have HK4 := Aside0.mk (Check_ (some ⟨g, off, none⟩) c xs.length _ 2 wa4 (List.length_set ..) HP4.out.C.2 HP4.out.C.1 ((check_set HCH.out q (by have := HLN.out; have := HNQ.out; omega) _).trans (by simp [okAt, prog_may.g, prog_may.bad])))
        clear hb
        go_wp2_with fail
        refine HK4.out.mono ?_
        rintro e wb4 ⟨rfl, hb⟩
        have HO5 := Aside0.mk (HP4.out.after hb)
        clear hb HK4
        clear k0 k1 k2 k3 k4 f0 f1 f2 f3 f4 g0 g1
        have HA5 := Aside0.mk (HO5.out.after (below_alloc (Below.refl wb4.heap.size wb4) (.cells #[.int .i64 1] 3)))
        obtain ⟨v0, v1, v2, v3, v4, ⟨k0, k1, k2, k3, k4⟩, fz⟩ := HA5.out.cells q (by have := HLN.out; have := HNQ.out; rw [List.length_set]; omega)
        have f0 := fz (off + q * 5)
        have f1 := fz (off + q * 5 + 1)
        have f2 := fz (off + q * 5 + 2)
        have f3 := fz (off + q * 5 + 3)
        have f4 := fz (off + q * 5 + 4)
        have g0 : (0 : Int) ≤ (q : Int) := by omega
        have g1 : (q : Int) < (xs.length : Int) := by have := HLN.out; have := HNQ.out; omega
        have HQ5 := Aside0.mk (by have h := HA5.out.put q (by have := HLN.out; have := HNQ.out; rw [List.length_set]; omega) ({ k := 6, l := [1] } : In) (some ⟨wb4.heap.size, 0, none⟩) 1 (one_row _ _); rw [List.set_set] at h; exact h)
        clear fz
        go_wp2_with fail
        refine (small_ _).mono ?_
        rintro e wa5 ⟨rfl, hb⟩
        unfold smallC
        have HP5 := Aside0.mk (HQ5.out.after hb)
        have HK5 := Aside0.mk (Check_ (some ⟨g, off, none⟩) c xs.length _ 2 wa5 (List.length_set ..) HP5.out.C.2 HP5.out.C.1 ((check_set HCH.out q (by have := HLN.out; have := HNQ.out; omega) _).trans (by simp [okAt, prog_may.g, prog_may.bad])))
        clear hb
        go_wp2_with fail
        refine HK5.out.mono ?_
        rintro e wb5 ⟨rfl, hb⟩
        have HO6 := Aside0.mk (HP5.out.after hb)
        clear hb HK5
        clear k0 k1 k2 k3 k4 f0 f1 f2 f3 f4 g0 g1
        obtain ⟨v0, v1, v2, v3, v4, ⟨k0, k1, k2, k3, k4⟩, fz⟩ := HO6.out.cells q (by have := HLN.out; have := HNQ.out; rw [List.length_set]; omega)
        have f0 := fz (off + q * 5)
        have f1 := fz (off + q * 5 + 1)
        have f2 := fz (off + q * 5 + 2)
        have f3 := fz (off + q * 5 + 3)
        have f4 := fz (off + q * 5 + 4)
        have g0 : (0 : Int) ≤ (q : Int) := by omega
        have g1 : (q : Int) < (xs.length : Int) := by have := HLN.out; have := HNQ.out; omega
        have HQ6 := Aside0.mk (by have h := HO6.out.put q (by have := HLN.out; have := HNQ.out; rw [List.length_set]; omega) ({ k := 7, a := -9, b := tt, c := 77 } : In) none 0 (Row.zero _ _ _); rw [List.set_set] at h; exact h)
        clear fz
        go_wp2_with fail
        refine (HF.out _ HQ6.out.2.1).mono ?_
        rintro e wc ⟨rfl, hb⟩
        have HP6 := Aside0.mk (HQ6.out.after hb)
        clear hb k0 k1 k2 k3 k4 f0 f1 f2 f3 f4 g0 g1
        have hj : okAt 4 xs.length ({ k := 5, a := 3, b := tt } : In) (q : Int) = (decide ((q : Int) < tt) && decide (tt ≤ (i : Int))) := by have := HLN.out; rw [this]; simp [okAt, prog_may.g, prog_may.bad]
        have HC6 := Aside0.mk (fun (W : World) (hb : Below wc.heap.size wc W) => Check_ (some ⟨g, off, none⟩) c xs.length _ 0 W (List.length_set ..) (HP6.out.after hb).C.2 (HP6.out.after hb).C.1 ((check_set HCH.out q (by have := HLN.out; have := HNQ.out; omega) _).trans (by simp [okAt, prog_may.g, prog_may.bad])))
        rcases (by omega : ((q : Int) < tt ∧ tt ≤ (i : Int)) ∨ ¬ (q : Int) < tt ∨ ((q : Int) < tt ∧ ¬ tt ≤ (i : Int))) with ⟨j1, j2⟩ | j1 | ⟨j1, j2⟩
        · obtain rfl : r2 = 0 := by rw [HR2.out, hj, decide_eq_true j1, decide_eq_true j2]; rfl
          clear hj HR2
          go_wp2_with fail
          refine (small_ _).mono ?_
          rintro e wa6 ⟨rfl, hb⟩
          unfold smallC
          have HK6 := Aside0.mk (HC6.out wa6 hb)
          have HP7 := Aside0.mk (HP6.out.after hb)
          clear hb
          go_wp2_with fail
          refine HK6.out.mono ?_
          rintro e wb6 ⟨rfl, hb⟩
          have HP8 := Aside0.mk (HP7.out.after hb)
          clear hb
          go_wp2
          go_ret
          exact ⟨by first | rfl | (show Ending.returned (Value.bool !decide (tt ≤ (i : Int))) = _; rw [decide_eq_false (by omega)]; rfl), HP8.out.2.1⟩
        · obtain rfl : r2 = 2 := by rw [HR2.out, hj, decide_eq_false j1]; rfl
          clear hj HR2
          go_wp2_with fail
          refine (small_ _).mono ?_
          rintro e wa6 ⟨rfl, hb⟩
          unfold smallC
          have HK6 := Aside0.mk (HC6.out wa6 hb)
          have HP7 := Aside0.mk (HP6.out.after hb)
          clear hb
          go_wp2_with fail
          refine HK6.out.mono ?_
          rintro e wb6 ⟨rfl, hb⟩
          have HP8 := Aside0.mk (HP7.out.after hb)
          clear hb
          go_wp2
          go_ret
          exact ⟨by first | rfl | (show Ending.returned (Value.bool !decide (tt ≤ (i : Int))) = _; rw [decide_eq_false (by omega)]; rfl), HP8.out.2.1⟩
        · obtain rfl : r2 = 2 := by rw [HR2.out, hj, decide_eq_true j1, decide_eq_false j2]; rfl
          clear hj HR2
          go_wp2_with fail
          refine (small_ _).mono ?_
          rintro e wa6 ⟨rfl, hb⟩
          unfold smallC
          have HK6 := Aside0.mk (HC6.out wa6 hb)
          have HP7 := Aside0.mk (HP6.out.after hb)
          clear hb
          go_wp2_with fail
          refine HK6.out.mono ?_
          rintro e wb6 ⟨rfl, hb⟩
          have HP8 := Aside0.mk (HP7.out.after hb)
          clear hb
          go_wp2
          go_ret
          exact ⟨by first | rfl | (show Ending.returned (Value.bool !decide (tt ≤ (i : Int))) = _; rw [decide_eq_false (by omega)]; rfl), HP8.out.2.1⟩
end Go.Proofs.YtefcjnnngaaihaaDoor.Pg
