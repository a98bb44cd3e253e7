import Derived.Test.YtfpnadalfopmcaaLr1
import Derived.Lib.Hide
/- without: all but one. -/
namespace Go.Proofs.Ytfpnadalfopmcaa.Ln
open Go.RowKit Go.Proofs.YtfpnadalfopmcaaW.PrintWords Go.Proofs.YtfpnadalfopmcaaW.PrintWords.Kd Go.Proofs.YtfpnadalfopmcaaW.PrintLast Go.Proofs.YtfpnadalfopmcaaW.PrintMore Go.Proofs.Ytfpnadalfopmcaa.PMd
set_option linter.unusedVariables false
set_option linter.unusedSimpArgs false
/-- The entries' row that a call makes. -/
def RowO (w : World) (l : List E) (v : Value) (wr : World) : Prop := ∃ A c, v = .slice A l.length c ∧ Row wr 50 2 A l.length c (flat l) ∧ (∀ k, blk A k → w.heap.size ≤ k) ∧ Below w.heap.size w wr
theorem filter_snoc {α : Type} (p : α → Bool) (l : List α) (x : α) : (l ++ [x]).filter p = l.filter p ++ (if p x = true then [x] else []) := by
  rw [List.filter_append]
  cases h : p x <;> simp [h]
theorem infoE0 : (Try.prog.info? 50).map (fun i => (i.zero, i.size, i.bytes)) = some (some (.agg #[.int .i64 0, .int .i64 0]), 2, 16) := by kernel_rfl
theorem two_at {w : World} {g : Nat} {a b : Value} {t : TypeId} (hv : w.heap[g]? = some (.cells #[a, b] t (0, 0))) : ∀ j x, [a, b][j]? = some x → w.cell? ((⟨g, 0, none⟩ : Addr).add j) = some x := by
  intro j x hj
  rw [Addr.add_lit, Nat.zero_add, blk_cell hv j]; simpa using hj
theorem RowO.push {w W w6 : World} {l : List E} {x : E} {A A2 : Option Addr} {c2 : Nat} (hk0 : ∀ k, blk A k → w.heap.size ≤ k) (hb : Below w.heap.size w W)
    (hR : Row w6 50 2 A2 (l.length + 1) c2 (flat l ++ [.int .i64 x.f0, .int .i64 x.f1])) (hG : Grew (blk A) W w6) (hk : ∀ k, blk A2 k → blk A k ∨ W.heap.size ≤ k) : RowO w (l ++ [x]) (.slice A2 (l.length + 1) c2) w6 :=
  ⟨A2, c2, by simp, by simpa [flat, encE] using hR, fun k hk2 => (hk k hk2).elim (hk0 k) (fun h => Nat.le_trans hb.size h), hG.to_below hb hb.size hk0⟩
set_option maxHeartbeats 8000000 in
set_option maxRecDepth 100000 in
theorem without_R (A : Option Addr) (c : Nat) (l : List E) (who : Int) (w : World) (hC : Kd.C k50 w A l.length l) (hl : l.length ≤ 1000000) :
    Calls Try.prog 35 #[.slice A l.length c, .int .i64 who] w fun e w' => ∃ v, e = .returned v ∧ RowO w (l.filter fun x => !(x.f0 == who)) v w' := by
  have hu2 := Try.underlying50
  have HR := Aside0.mk hC
  have HL := Aside0.mk hl
  clear hC hl
  go_enter Try.func35, Try.ntmps35
  go_wp2_with fail
  go_loopg [5, 6] l.length (fun gg v5 v6 wr => ∃ k : Nat, k ≤ l.length ∧ l.length - k ≤ gg ∧ v6 = .int .i64 k ∧ Aside0 (RowO w ((l.take k).filter fun x => !(x.f0 == who)) v5 wr))
  case atStart => exact ⟨0, by omega, by omega, rfl, ⟨none, 0, rfl, Row.zero _ _ _, fun k ⟨a, h, _⟩ => (by cases h), Below.refl _ _⟩⟩
  case round =>
    obtain ⟨k, hk, hgg, rfl, HO⟩ := hrel
    by_cases hlt : k < l.length
    · obtain ⟨A3, c3, rfl, hR3, hk3, hb3⟩ := HO.out
      obtain ⟨ad, e4, q0, q1⟩ := at_T50 (C_below HR.out hb3) (k : Int) (by omega) (by omega)
      cases e4
      have p1 : 0 ≤ (k : Int) := by omega
      have p2 : (k : Int) < l.length := by omega
      have hrd : rd_T50 l (k : Int) = l[k] := by simp [rd_T50, List.getElem?_eq_getElem hlt]
      rw [hrd] at q0 q1
      simp only [Int.toNat_natCast] at q0 q1
      have hn : (l.take (k + 1)).filter (fun x => !(x.f0 == who)) = (l.take k).filter (fun x => !(x.f0 == who)) ++ (if (!(l[k].f0 == who)) = true then [l[k]] else []) := by
        rw [List.take_succ_eq_append_getElem hlt]; exact filter_snoc _ _ _
      have hle : ((l.take k).filter (fun x => !(x.f0 == who))).length ≤ k := Nat.le_trans (List.length_filter_le _ _) (by rw [List.length_take]; omega)
      have HN := Aside0.mk hn
      have HLE := Aside0.mk hle
      have HJ := Aside0.mk (And.intro hlt hgg)
      have W3 := Aside0.mk (show wrap64 ((k : Int) + 1) = ((k + 1 : Nat) : Int) by have := HL.out; unfold wrap64; omega)
      generalize (l.take k).filter (fun x => !(x.f0 == who)) = ls at hR3 HN HLE HO ⊢
      generalize l[k] = x at q0 q1 HN
      obtain ⟨x0, x1⟩ := x
      simp only at q0 q1 HN
      have HO3 := Aside0.mk (And.intro hR3 (And.intro hk3 hb3))
      clear hrd hn hle hlt hgg hk hR3 hk3 hb3
      by_cases ht : x0 = who
      · have hb : (x0 != who) = false := by simp [ht]
        have HN1 := Aside0.mk (show (l.take (k + 1)).filter (fun x => !(x.f0 == who)) = ls by rw [HN.out, if_neg (by simp [ht]), List.append_nil])
        clear ht
        go_wp2
        go_roundg (l.length - (k + 1))
        case measure => have := HJ.out; omega
        case rel => exact ⟨k + 1, by have := HJ.out; omega, by have := HJ.out; omega, by rw [W3.out], ⟨by rw [HN1.out]; exact HO.out⟩⟩
      · have hb : (x0 != who) = true := by simpa using ht
        have HN1 := Aside0.mk (show (l.take (k + 1)).filter (fun x => !(x.f0 == who)) = ls ++ [⟨x0, x1⟩] by rw [HN.out, if_pos (by simpa using ht)])
        have HRA := Aside0.mk (HO3.out.1.alloc (.cells #[.int .i64 x0, .int .i64 x1] 50))
        have BS := Aside0.mk (blk_new wr (.cells #[.int .i64 x0, .int .i64 x1] 50))
        have HB1 := Aside0.mk (below_alloc HO3.out.2.2 (.cells #[.int .i64 x0, .int .i64 x1] 50))
        clear ht HO
        go_wp2_with (at_builtin; refine wpList_append_info rfl _ _ 27 rfl 50 _ 2 16 Try.underlying27 infoE0 rfl A3 ls.length c3 (flat ls) (by simp [Act.eval, Act.put]) HRA.out ⟨wr.heap.size, 0, none⟩ 1 1 [.int .i64 x0, .int .i64 x1] (by simp [Act.eval, Act.put]) rfl (two_at BS.out) (by simp [Value.oneCell']) (by have := HLE.out; have := HL.out; have := HJ.out; unfold maxLen; omega) (by have := HLE.out; have := HL.out; have := HJ.out; omega) ?_; refine Hid.out ?_)
        refine Lib.hid ?_
        intro A2 c2 w6 hR6 hG6 hk6
        have HO6 := Aside0.mk (RowO.push (x := ⟨x0, x1⟩) HO3.out.2.1 HB1.out hR6 hG6 (by simpa using hk6))
        clear hR6 hG6 hk6
        go_wp2
        go_roundg (l.length - (k + 1))
        case measure => have := HJ.out; omega
        case rel => exact ⟨k + 1, by have := HJ.out; omega, by have := HJ.out; omega, by rw [W3.out], ⟨by rw [HN1.out]; exact HO6.out⟩⟩
    · obtain rfl : k = l.length := by omega
      have hF := HO.out
      rw [List.take_length] at hF
      have HF := Aside0.mk hF
      have t1 : ¬ ((l.length : Int) < (l.length : Int)) := by omega
      clear hk hgg hlt hF HO
      go_wp2
      go_ret
      exact ⟨_, rfl, HF.out⟩
end Go.Proofs.Ytfpnadalfopmcaa.Ln
