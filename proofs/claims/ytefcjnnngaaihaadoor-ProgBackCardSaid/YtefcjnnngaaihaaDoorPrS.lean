import Derived.Test.YtefcjnnngaaihaaDoorPr7
import Derived.Test.YtefcjnnngaaihaaDoorPaP
import Derived.Deep.QuietTactic
import Derived.BigQuiet
/- Same: two programs alike. -/
namespace Go.Proofs.YtefcjnnngaaihaaDoor.Pg
open Go.RowKit Go.Proofs.Pg Go.Proofs.YtefcjnnngaaihaaDoor.Ln Go.Proofs.YtefcjnnngaaihaaDoorW.PrintWords Go.Proofs.YtefcjnnngaaihaaDoorW.PrintWords.Kd Go.Proofs.YtefcjnnngaaihaaDoor.PPg
set_option linter.unusedVariables false
set_option linter.unusedSimpArgs false

theorem rd_toS2 (xs : List In) (i : Nat) (h : i < xs.length) : rd_T26 (xs.map toS) (i : Int) = toS xs[i] := by simp [rd_T26, List.getElem?_eq_getElem h]
theorem rd_at (l : List Int) (i : Nat) (h : i < l.length) : rd l (i : Int) = l[i] := by simp [rd, List.getElem?_eq_getElem h]
set_option maxHeartbeats 8000000 in
set_option maxRecDepth 100000 in
theorem Equal_ (A B : Option Addr) (c d : Nat) (l m : List Int) (w : World) (hl : (Kd.int .i64).C w A l.length l) (hm : (Kd.int .i64).C w B m.length m) :
    Calls Tryd.prog 27 #[.slice A l.length c, .slice B m.length d] w fun e w' => e = .returned (.bool (decide (l = m))) ∧ Below w.heap.size w w' := by
  have HL := Aside0.mk hl
  have HM := Aside0.mk hm
  have HS := Aside0.mk hl.2.1
  clear hl hm
  by_cases hlen : l.length = m.length
  · have e1 : ((l.length : Int) != (m.length : Int)) = false := by simp [hlen]
    have HLEN := Aside0.mk hlen
    clear hlen
    go_enter Tryd.func27, Tryd.ntmps27
    go_wp2
    go_loopg [13] l.length (fun gg v13 wr => ∃ (i : Nat), i ≤ l.length ∧ l.length - i ≤ gg ∧ v13 = .int .i64 i ∧ Aside0 (l.take i = m.take i) ∧ Aside0 (Below w.heap.size w wr))
    case atStart => exact ⟨0, by omega, by omega, rfl, ⟨rfl⟩, ⟨Below.refl _ _⟩⟩
    case round =>
      obtain ⟨i, hi, hgg, rfl, HT, HB⟩ := hrel
      by_cases hlt : i < l.length
      · have t1 : (i : Int) < (l.length : Int) := by omega
        have t2 : (i : Int) < (m.length : Int) := by have := HLEN.out; omega
        have t0 : (0 : Int) ≤ (i : Int) := by omega
        have hlm : i < m.length := by have := HLEN.out; omega
        obtain ⟨ad, hA, c9⟩ := at_int (C_below HL.out HB.out) (i : Int) t0 t1
        obtain ⟨bd, hB, d9⟩ := at_int (C_below HM.out HB.out) (i : Int) t0 t2
        rw [Int.toNat_natCast] at c9 d9
        cases hA
        cases hB
        have W3 := Aside0.mk (show wrap64 ((i : Int) + 1) = ((i + 1 : Nat) : Int) by have := HS.out; unfold wrap64; omega)
        have HJ := Aside0.mk (And.intro hlt (And.intro hgg hlm))
        by_cases hq : rd l i = rd m i
        · have q1 : (rd l i != rd m i) = false := by simp [hq]
          have HN := Aside0.mk (show l.take (i + 1) = m.take (i + 1) by
            rw [List.take_succ_eq_append_getElem hlt, List.take_succ_eq_append_getElem hlm, HT.out, ← rd_at l i hlt, ← rd_at m i hlm, hq])
          clear hq hlt hgg hlm hi
          generalize rd l i = x at c9 q1
          generalize rd m i = y at d9 q1
          go_wp2
          go_quiet (fail)
          go_wp2
          go_roundg (l.length - (i + 1))
          case measure => have := HJ.out; omega
          case rel => exact ⟨i + 1, by have := HJ.out; omega, by have := HJ.out; omega, by rw [W3.out], HN, ⟨by repeat (first | exact HB.out | apply below_drew | apply pw_below_drewN)⟩⟩
        · have q1 : (rd l i != rd m i) = true := by simpa using hq
          have HN := Aside0.mk (show decide (l = m) = false by
            apply decide_eq_false; intro e; subst e; exact hq rfl)
          clear hq hlt hgg hlm hi
          generalize rd l i = x at c9 q1
          generalize rd m i = y at d9 q1
          go_wp2
          go_quiet (fail)
          go_wp2
          go_ret
          exact ⟨by rw [HN.out]; first | done | rfl, by repeat (first | exact HB.out | apply below_drew | apply pw_below_drewN)⟩
      · obtain rfl : i = l.length := by omega
        have t1 : ¬ ((l.length : Int) < (l.length : Int)) := by omega
        have HN := Aside0.mk (show decide (l = m) = true by
          apply decide_eq_true
          have h1 := HT.out
          rw [List.take_length] at h1
          rw [HLEN.out, List.take_length] at h1
          exact h1)
        clear hi hgg hlt
        go_wp2
        go_ret
        exact ⟨by rw [HN.out]; first | done | rfl, HB.out⟩
  · have e1 : ((l.length : Int) != (m.length : Int)) = true := by simp; omega
    have HN := Aside0.mk (show decide (l = m) = false by apply decide_eq_false; intro e; subst e; exact hlen rfl)
    clear hlen
    go_enter Tryd.func27, Tryd.ntmps27
    go_wp2
    go_ret
    exact ⟨by rw [HN.out]; first | done | rfl, Below.refl _ _⟩

end Go.Proofs.YtefcjnnngaaihaaDoor.Pg
