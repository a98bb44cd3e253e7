import Derived.Test.YtkceadieigpolaaGreatLA
import Derived.Lib.Hide
import Derived.Deep.RegionLaw
import Derived.Deep.RegionHeld
import Derived.Test.YtkceadieigpolaaGreatLC
namespace Go.Proofs.YtkceadieigpolaaGreat.Ln
open Go.RowKit Go.Proofs.YtkceadieigpolaaGreatW.PrintWords Go.Proofs.YtkceadieigpolaaGreatW.PrintWords.Kd Go.Proofs.YtkceadieigpolaaGreatW.PrintLast Go.Proofs.YtkceadieigpolaaGreatW.PrintMore Go.Proofs.YtkceadieigpolaaGreat.PMd
set_option linter.unusedVariables false
set_option linter.unusedSimpArgs false
abbrev zE : E := z94
def IsLR (w : World) (b : Nat) (F : Nat → Prop) (hs qs : List E) : Prop :=
 ∃ hA hc qA qc, w.heap[b]? = some (.cells #[.slice hA hs.length hc, .slice qA qs.length qc] 65 (0, 0)) ∧ F b ∧
  Row w 94 2 hA hs.length hc (flat hs) ∧ (∀ k, blk hA k → F k) ∧ Row w 94 2 qA qs.length qc (flat qs) ∧ (∀ k, blk qA k → F k) ∧ (∀ k, blk hA k → blk qA k → False)
section
variable {w w' : World} {b : Nat} {F F' : Nat → Prop} {hs qs : List E}
theorem IsLR.move (h : IsLR w b F hs qs) (hm : ∀ k, F k → k < w.heap.size → w'.heap[k]? = w.heap[k]?) : IsLR w' b F hs qs := by
 obtain ⟨hA, hc, qA, qc, h1, h2, h3, h4, h5, h6, h7⟩ := h
 exact ⟨hA, hc, qA, qc, (hm b h2 (Array.getElem?_eq_some_iff.1 h1).1).trans h1, h2, h3.move (fun k hk hl => hm k (h4 k hk) hl), h4, h5.move (fun k hk hl => hm k (h6 k hk) hl), h6, h7⟩
theorem IsLR.below (h : IsLR w b F hs qs) (hb : Below w.heap.size w w') : IsLR w' b F hs qs := h.move (fun k _ hk => hb.block k hk)
theorem IsLR.grew {S : Nat → Prop} (h : IsLR w b F hs qs) (hg : Grew S w w') (hs_ : ∀ k, F k → ¬ S k) : IsLR w' b F hs qs := h.move (fun k hk hl => hg.block k hl (hs_ k hk))
theorem IsLR.open_ (h : IsLR w b F hs qs) : ∃ hA hc qA qc, w.cell? ⟨b, 0, none⟩ = some (.slice hA hs.length hc) ∧ w.cell? ⟨b, 1, none⟩ = some (.slice qA qs.length qc) ∧ hs.length ≤ hc ∧ qs.length ≤ qc ∧
  Kd.C k94 w hA hs.length hs ∧ Kd.C k94 w qA qs.length qs := by
 obtain ⟨hA, hc, qA, qc, h1, h2, h3, h4, h5, h6, h7⟩ := h
 exact ⟨hA, hc, qA, qc, (blk_cell h1 0).trans rfl, (blk_cell h1 1).trans rfl, h3.2.1, h5.2.1, h3.reads, h5.reads⟩
end
set_option maxHeartbeats 8000000 in
set_option maxRecDepth 100000 in
theorem Holds_R (w : World) (b : Nat) (F : Nat → Prop) (hs qs : List E) (who : Int) (hI : IsLR w b F hs qs) :
  Calls Tryz.prog 42 #[.pointer (some ⟨b, 0, none⟩), .int .i64 who] w fun e w' => e = .returned (.int .i64 (toldIn hs who)) ∧ w' = w := by
 have hu := Tryz.underlying65
 have hu2 := Tryz.underlying94
 obtain ⟨hA, hc, qA, qc, c0, c1, l0, l1, r0, r1⟩ := hI.open_
 have HR := Aside0.mk r0
 have hm := r0.2.1
 clear hI r0 r1 l0 l1
 go_enter Tryz.func42, Tryz.ntmps42
 go_wp2_with fail
 go_loop [5] (fun u => ∃ k : Nat, k ≤ hs.length ∧ u = .int .i64 k ∧ Aside0 (∀ i, i < k → ((hs.getD i zE).f0 == who) = false)) (fun u => hs.length - (intOf u).toNat)
 case atStart => exact ⟨0, by omega, rfl, ⟨fun i hi => by omega⟩⟩
 case round =>
  obtain ⟨k, hk, rfl, HT⟩ := hrel
  by_cases hlt : k < hs.length
  ·obtain ⟨ad, e4, q0, q1⟩ := at_T94 HR.out (k : Int) (by omega) (by omega)
   cases e4
   have p1 : 0 ≤ (k : Int) := by omega
   have p2 : (k : Int) < hs.length := by omega
   have hrd : rd_T94 hs (k : Int) = hs.getD k zE := by simp [rd_T94, zE]
   rw [hrd] at q0 q1
   simp only [Int.toNat_natCast] at q0 q1
   by_cases hq : (hs.getD k zE).f0 = who
   ·have hb : ((hs.getD k zE).f0 == who) = true := beq_iff_eq.2 hq
    have HF := Aside0.mk (show toldIn hs who = (hs.getD k zE).f1 by
     unfold toldIn
     rw [ix_hit hlt hb HT.out, if_pos (by omega), hrd])
    generalize (hs.getD k zE).f0 = x at q0 hb
    generalize (hs.getD k zE).f1 = y at q1 HF
    clear hq hrd
    go_wp2
    go_ret
    exact ⟨by rw [HF.out]; first | done | rfl, rfl⟩
   ·have hb : ((hs.getD k zE).f0 == who) = false := beq_eq_false_iff_ne.2 hq
    have HT1 := Aside0.mk (show ∀ i, i < k + 1 → ((hs.getD i zE).f0 == who) = false from fun i hi => by
     by_cases e : i = k
     ·subst e; exact hb
     ·exact HT.out i (by omega))
    generalize (hs.getD k zE).f0 = x at q0 hb
    generalize (hs.getD k zE).f1 = y at q1
    clear hq hrd HT
    go_wp2
    go_round
    case rel => exact ⟨k + 1, by omega, by go_num, HT1⟩
    case measure => simp [intOf]; omega
  ·have HF := Aside0.mk (show toldIn hs who = 0 by
    unfold toldIn
    rw [ix_miss (fun i hi => HT.out i (by omega)), if_neg (by omega)])
   go_wp2
   go_ret
   exact ⟨by rw [HF.out]; first | done | rfl, rfl⟩
set_option maxHeartbeats 8000000 in
set_option maxRecDepth 100000 in
theorem Waits_R (w : World) (b : Nat) (F : Nat → Prop) (hs qs : List E) (who : Int) (hI : IsLR w b F hs qs) :
  Calls Tryz.prog 46 #[.pointer (some ⟨b, 0, none⟩), .int .i64 who] w fun e w' => e = .returned (.int .i64 (toldIn qs who)) ∧ w' = w := by
 have hu := Tryz.underlying65
 have hu2 := Tryz.underlying94
 obtain ⟨hA, hc, qA, qc, c0, c1, l0, l1, r0, r1⟩ := hI.open_
 have HR := Aside0.mk r1
 have hm := r1.2.1
 clear hI r0 r1 l0 l1
 go_enter Tryz.func46, Tryz.ntmps46
 go_wp2_with fail
 go_loop [5] (fun u => ∃ k : Nat, k ≤ qs.length ∧ u = .int .i64 k ∧ Aside0 (∀ i, i < k → ((qs.getD i zE).f0 == who) = false)) (fun u => qs.length - (intOf u).toNat)
 case atStart => exact ⟨0, by omega, rfl, ⟨fun i hi => by omega⟩⟩
 case round =>
  obtain ⟨k, hk, rfl, HT⟩ := hrel
  by_cases hlt : k < qs.length
  ·obtain ⟨ad, e4, q0, q1⟩ := at_T94 HR.out (k : Int) (by omega) (by omega)
   cases e4
   have p1 : 0 ≤ (k : Int) := by omega
   have p2 : (k : Int) < qs.length := by omega
   have hrd : rd_T94 qs (k : Int) = qs.getD k zE := by simp [rd_T94, zE]
   rw [hrd] at q0 q1
   simp only [Int.toNat_natCast] at q0 q1
   by_cases hq : (qs.getD k zE).f0 = who
   ·have hb : ((qs.getD k zE).f0 == who) = true := beq_iff_eq.2 hq
    have HF := Aside0.mk (show toldIn qs who = (qs.getD k zE).f1 by
     unfold toldIn
     rw [ix_hit hlt hb HT.out, if_pos (by omega), hrd])
    generalize (qs.getD k zE).f0 = x at q0 hb
    generalize (qs.getD k zE).f1 = y at q1 HF
    clear hq hrd
    go_wp2
    go_ret
    exact ⟨by rw [HF.out]; first | done | rfl, rfl⟩
   ·have hb : ((qs.getD k zE).f0 == who) = false := beq_eq_false_iff_ne.2 hq
    have HT1 := Aside0.mk (show ∀ i, i < k + 1 → ((qs.getD i zE).f0 == who) = false from fun i hi => by
     by_cases e : i = k
     ·subst e; exact hb
     ·exact HT.out i (by omega))
    generalize (qs.getD k zE).f0 = x at q0 hb
    generalize (qs.getD k zE).f1 = y at q1
    clear hq hrd HT
    go_wp2
    go_round
    case rel => exact ⟨k + 1, by omega, by go_num, HT1⟩
    case measure => simp [intOf]; omega
  ·have HF := Aside0.mk (show toldIn qs who = 0 by
    unfold toldIn
    rw [ix_miss (fun i hi => HT.out i (by omega)), if_neg (by omega)])
   go_wp2
   go_ret
   exact ⟨by rw [HF.out]; first | done | rfl, rfl⟩
set_option maxHeartbeats 8000000 in
set_option maxRecDepth 100000 in
theorem convs_R (w : World) (b : Nat) (F : Nat → Prop) (hs qs : List E) (hI : IsLR w b F hs qs) :
  Calls Tryz.prog 68 #[.pointer (some ⟨b, 0, none⟩)] w fun e w' => e = .returned (.int .i64 (qs.countP fun x => toldIn hs x.f0 != 0 : Nat)) ∧ w' = w := by
 have hu := Tryz.underlying65
 have hu2 := Tryz.underlying94
 have HH := Aside0.mk (fun who => Holds_R w b F hs qs who hI)
 obtain ⟨hA, hc, qA, qc, c0, c1, l0, l1, r0, r1⟩ := hI.open_
 have HR := Aside0.mk r1
 have HM := Aside0.mk r1.2.1
 clear hI r0 r1 l0 l1 c0
 go_enter Tryz.func68, Tryz.ntmps68
 go_wp2_with fail
 go_loopg [3, 4] qs.length (fun gg v3 v4 wr => ∃ k : Nat, k ≤ qs.length ∧ qs.length - k ≤ gg ∧ v4 = .int .i64 k ∧ v3 = .int .i64 ((qs.take k).countP fun x => toldIn hs x.f0 != 0 : Nat) ∧ Aside0 (wr = w))
 case atStart => exact ⟨0, by omega, by omega, rfl, rfl, ⟨rfl⟩⟩
 case round =>
  obtain ⟨k, hk, hgg, rfl, rfl, HW⟩ := hrel
  obtain rfl := HW.out
  by_cases hlt : k < qs.length
  ·obtain ⟨ad, e4, q0, q1⟩ := at_T94 HR.out (k : Int) (by omega) (by omega)
   cases e4
   have p1 : 0 ≤ (k : Int) := by omega
   have p2 : (k : Int) < qs.length := by omega
   have hrd : rd_T94 qs (k : Int) = qs[k] := by simp [rd_T94, List.getElem?_eq_getElem hlt]
   rw [hrd] at q0 q1
   simp only [Int.toNat_natCast] at q0 q1
   have hn : (qs.take (k + 1)).countP (fun x => toldIn hs x.f0 != 0) = (qs.take k).countP (fun x => toldIn hs x.f0 != 0) + (if toldIn hs qs[k].f0 != 0 then 1 else 0) := by
    rw [List.take_succ_eq_append_getElem hlt, List.countP_append, List.countP_singleton]
   have hle : (qs.take k).countP (fun x => toldIn hs x.f0 != 0) ≤ k := Nat.le_trans List.countP_le_length (by rw [List.length_take]; omega)
   have HCL := Aside0.mk (HH.out qs[k].f0)
   have HN := Aside0.mk hn
   have HJ := Aside0.mk (And.intro hlt hgg)
   have W3 := Aside0.mk (show wrap64 ((k : Int) + 1) = ((k + 1 : Nat) : Int) by have := HM.out; unfold wrap64; omega)
   have W4 := Aside0.mk (show wrap64 (((qs.take k).countP (fun x => toldIn hs x.f0 != 0) : Nat) + 1 : Int) = (((qs.take k).countP (fun x => toldIn hs x.f0 != 0) + 1 : Nat) : Int) by have := HM.out; unfold wrap64; omega)
   generalize (qs.take k).countP (fun x => toldIn hs x.f0 != 0) = m at HN W4 ⊢
   generalize qs[k].f0 = x at q0 HCL HN
   clear hrd hn hle hlt hgg hk q1
   go_wp2_with fail
   refine HCL.out.mono ?_
   rintro e w3 ⟨rfl, rfl⟩
   by_cases ht : toldIn hs x = 0
   ·have hb : (toldIn hs x != 0) = false := by simp [ht]
    have HN1 := Aside0.mk (show (qs.take (k + 1)).countP (fun x => toldIn hs x.f0 != 0) = m by rw [HN.out, hb]; rfl)
    generalize toldIn hs x = tx at hb
    clear ht
    go_wp2
    go_roundg (qs.length - (k + 1))
    case measure => have := HJ.out; omega
    case rel => exact ⟨k + 1, by have := HJ.out; omega, by have := HJ.out; omega, by rw [W3.out], by rw [HN1.out], ⟨rfl⟩⟩
   ·have hb : (toldIn hs x != 0) = true := by simp [ht]
    have HN1 := Aside0.mk (show (qs.take (k + 1)).countP (fun x => toldIn hs x.f0 != 0) = m + 1 by rw [HN.out, hb]; rfl)
    generalize toldIn hs x = tx at hb
    clear ht
    go_wp2
    go_roundg (qs.length - (k + 1))
    case measure => have := HJ.out; omega
    case rel => exact ⟨k + 1, by have := HJ.out; omega, by have := HJ.out; omega, by rw [W3.out], by rw [HN1.out, W4.out], ⟨rfl⟩⟩
  ·obtain rfl : k = qs.length := by omega
   have HF := Aside0.mk (show (qs.take qs.length).countP (fun x => toldIn hs x.f0 != 0) = qs.countP (fun x => toldIn hs x.f0 != 0) by rw [List.take_length])
   have t1 : ¬ ((qs.length : Int) < (qs.length : Int)) := by omega
   clear hk hgg hlt
   go_wp2
   go_ret
   exact ⟨by first | rfl | (rw [HF.out]; rfl), rfl⟩
end Go.Proofs.YtkceadieigpolaaGreat.Ln
namespace Go.Proofs.YtkceadieigpolaaGreat.Ln
open Go.RowKit Go.Proofs.YtkceadieigpolaaGreatW.PrintWords Go.Proofs.YtkceadieigpolaaGreatW.PrintWords.Kd Go.Proofs.YtkceadieigpolaaGreatW.PrintLast Go.Proofs.YtkceadieigpolaaGreatW.PrintMore Go.Proofs.YtkceadieigpolaaGreat.PMd
set_option linter.unusedVariables false
set_option linter.unusedSimpArgs false
def RowO (w : World) (l : List E) (v : Value) (wr : World) : Prop := ∃ A c, v = .slice A l.length c ∧ Row wr 94 2 A l.length c (flat l) ∧ (∀ k, blk A k → w.heap.size ≤ k) ∧ Below w.heap.size w wr
theorem filter_snoc {α : Type} (p : α → Bool) (l : List α) (x : α) : (l ++ [x]).filter p = l.filter p ++ (if p x = true then [x] else []) := by
 rw [List.filter_append]
 cases h : p x <;> simp [h]
theorem infoE0 : (Tryz.prog.info? 94).map (fun i => (i.zero, i.size, i.bytes)) = some (some (.agg #[.int .i64 0, .int .i64 0]), 2, 16) := by kernel_rfl
theorem two_atR {w : World} {g : Nat} {a b : Value} {t : TypeId} (hv : w.heap[g]? = some (.cells #[a, b] t (0, 0))) : ∀ j x, [a, b][j]? = some x → w.cell? ((⟨g, 0, none⟩ : Addr).add j) = some x := by
 intro j x hj
 rw [Addr.add_lit, Nat.zero_add, blk_cell hv j]; simpa using hj
theorem RowO.push {w W w6 : World} {l : List E} {x : E} {A A2 : Option Addr} {c2 : Nat} (hk0 : ∀ k, blk A k → w.heap.size ≤ k) (hb : Below w.heap.size w W)
  (hR : Row w6 94 2 A2 (l.length + 1) c2 (flat l ++ [.int .i64 x.f0, .int .i64 x.f1])) (hG : Grew (blk A) W w6) (hk : ∀ k, blk A2 k → blk A k ∨ W.heap.size ≤ k) : RowO w (l ++ [x]) (.slice A2 (l.length + 1) c2) w6 :=
 ⟨A2, c2, by simp, by simpa [flat, encE] using hR, fun k hk2 => (hk k hk2).elim (hk0 k) (fun h => Nat.le_trans hb.size h), hG.to_below hb hb.size hk0⟩
set_option maxHeartbeats 8000000 in
set_option maxRecDepth 100000 in
theorem without_R (A : Option Addr) (c : Nat) (l : List E) (who : Int) (w : World) (hC : Kd.C k94 w A l.length l) (hl : l.length ≤ 1000000) :
  Calls Tryz.prog 82 #[.slice A l.length c, .int .i64 who] w fun e w' => ∃ v, e = .returned v ∧ RowO w (l.filter fun x => !(x.f0 == who)) v w' := by
 have hu2 := Tryz.underlying94
 have HR := Aside0.mk hC
 have HL := Aside0.mk hl
 clear hC hl
 go_enter Tryz.func82, Tryz.ntmps82
 go_wp2_with fail
 go_loopg [5, 6] l.length (fun gg v5 v6 wr => ∃ k : Nat, k ≤ l.length ∧ l.length - k ≤ gg ∧ v6 = .int .i64 k ∧ Aside0 (RowO w ((l.take k).filter fun x => !(x.f0 == who)) v5 wr))
 case atStart => exact ⟨0, by omega, by omega, rfl, ⟨none, 0, rfl, Row.zero _ _ _, fun k ⟨a, h, _⟩ => (by cases h), Below.refl _ _⟩⟩
 case round =>
  obtain ⟨k, hk, hgg, rfl, HO⟩ := hrel
  by_cases hlt : k < l.length
  ·obtain ⟨A3, c3, rfl, hR3, hk3, hb3⟩ := HO.out
   obtain ⟨ad, e4, q0, q1⟩ := at_T94 (C_below HR.out hb3) (k : Int) (by omega) (by omega)
   cases e4
   have p1 : 0 ≤ (k : Int) := by omega
   have p2 : (k : Int) < l.length := by omega
   have hrd : rd_T94 l (k : Int) = l[k] := by simp [rd_T94, List.getElem?_eq_getElem hlt]
   rw [hrd] at q0 q1
   simp only [Int.toNat_natCast] at q0 q1
   have hn : (l.take (k + 1)).filter (fun x => !(x.f0 == who)) = (l.take k).filter (fun x => !(x.f0 == who)) ++ (if (!(l[k].f0 == who)) = true then [l[k]] else []) := by
    rw [List.take_succ_eq_append_getElem hlt]; exact filter_snoc _ _ _
   have hle : ((l.take k).filter (fun x => !(x.f0 == who))).length ≤ k := Nat.le_trans (List.length_filter_le _ _) (by rw [List.length_take]; omega)
   have HN := Aside0.mk hn
   have HLE := Aside0.mk hle
   have HJ := Aside0.mk (And.intro hlt hgg)
   have W3 := Aside0.mk (show wrap64 ((k : Int) + 1) = ((k + 1 : Nat) : Int) by have := HL.out; unfold wrap64; omega)
   generalize (l.take k).filter (fun x => !(x.f0 == who)) = ls at hR3 HN HLE HO ⊢
   generalize l[k] = x at q0 q1 HN
   obtain ⟨x0, x1⟩ := x
   simp only at q0 q1 HN
   have HO3 := Aside0.mk (And.intro hR3 (And.intro hk3 hb3))
   clear hrd hn hle hlt hgg hk hR3 hk3 hb3
   by_cases ht : x0 = who
   ·have hb : (x0 != who) = false := by simp [ht]
    have HN1 := Aside0.mk (show (l.take (k + 1)).filter (fun x => !(x.f0 == who)) = ls by rw [HN.out, if_neg (by simp [ht]), List.append_nil])
    clear ht
    go_wp2
    go_roundg (l.length - (k + 1))
    case measure => have := HJ.out; omega
    case rel => exact ⟨k + 1, by have := HJ.out; omega, by have := HJ.out; omega, by rw [W3.out], ⟨by rw [HN1.out]; exact HO.out⟩⟩
   ·have hb : (x0 != who) = true := by simpa using ht
    have HN1 := Aside0.mk (show (l.take (k + 1)).filter (fun x => !(x.f0 == who)) = ls ++ [⟨x0, x1⟩] by rw [HN.out, if_pos (by simpa using ht)])
    have HRA := Aside0.mk (HO3.out.1.alloc (.cells #[.int .i64 x0, .int .i64 x1] 94))
    have BS := Aside0.mk (blk_new wr (.cells #[.int .i64 x0, .int .i64 x1] 94))
    have HB1 := Aside0.mk (below_alloc HO3.out.2.2 (.cells #[.int .i64 x0, .int .i64 x1] 94))
    clear ht HO
    go_wp2_with (at_builtin; refine wpList_append_info rfl _ _ 62 rfl 94 _ 2 16 Tryz.underlying62 infoE0 rfl A3 ls.length c3 (flat ls) (by simp [Act.eval, Act.put]) HRA.out ⟨wr.heap.size, 0, none⟩ 1 1 [.int .i64 x0, .int .i64 x1] (by simp [Act.eval, Act.put]) rfl (two_atR BS.out) (by simp [Value.oneCell']) (by have := HLE.out; have := HL.out; have := HJ.out; unfold maxLen; omega) (by have := HLE.out; have := HL.out; have := HJ.out; omega) ?_; refine Hid.out ?_)
    refine Lib.hid ?_
    intro A2 c2 w6 hR6 hG6 hk6
    have HO6 := Aside0.mk (RowO.push (x := ⟨x0, x1⟩) HO3.out.2.1 HB1.out hR6 hG6 (by simpa using hk6))
    clear hR6 hG6 hk6
    go_wp2
    go_roundg (l.length - (k + 1))
    case measure => have := HJ.out; omega
    case rel => exact ⟨k + 1, by have := HJ.out; omega, by have := HJ.out; omega, by rw [W3.out], ⟨by rw [HN1.out]; exact HO6.out⟩⟩
  ·obtain rfl : k = l.length := by omega
   have hF := HO.out
   rw [List.take_length] at hF
   have HF := Aside0.mk hF
   have t1 : ¬ ((l.length : Int) < (l.length : Int)) := by omega
   clear hk hgg hlt hF HO
   go_wp2
   go_ret
   exact ⟨_, rfl, HF.out⟩
end Go.Proofs.YtkceadieigpolaaGreat.Ln
namespace Go.Proofs.YtkceadieigpolaaGreat.Ln
open Go.RowKit Go.Proofs.YtkceadieigpolaaGreatW.PrintWords Go.Proofs.YtkceadieigpolaaGreatW.PrintWords.Kd Go.Proofs.YtkceadieigpolaaGreatW.PrintLast Go.Proofs.YtkceadieigpolaaGreatW.PrintMore Go.Proofs.YtkceadieigpolaaGreat.PMd
set_option linter.unusedVariables false
set_option linter.unusedSimpArgs false
def fitsD (a b : Int) : Bool := decide (0 ≤ a ∧ a ≤ 5) && decide (0 ≤ b ∧ b ≤ 5) && ltkref1_Fits.g a b
theorem fitsD_f (a b : Int) : ltkref1_Fits.f a b = some (fitsD a b) := rfl
theorem fitsD_tab : ∀ a b : Fin 6, fitsD (a.val : Int) (b.val : Int) = fitsM (b.val : Int) (a.val : Int) := by decide +kernel
theorem fitsD_is {a b : Int} (ha : 0 ≤ a ∧ a ≤ 5) (hb : 0 ≤ b ∧ b ≤ 5) : fitsD a b = fitsM b a := by
 have h := fitsD_tab ⟨a.toNat, by omega⟩ ⟨b.toNat, by omega⟩
 simp only at h
 rwa [Int.toNat_of_nonneg ha.1, Int.toNat_of_nonneg hb.1] at h
def fitsDA (hs : List E) (who m : Int) : Bool := !hs.any fun x => !(x.f0 == who) && !fitsD m x.f1
theorem fitsDA_is {hs : List E} {who m : Int} (hm : 0 ≤ m ∧ m ≤ 5) (h : ∀ x ∈ hs, 0 ≤ x.f1 ∧ x.f1 ≤ 5) : fitsDA hs who m = fitsAll hs who m := by
 unfold fitsDA fitsAll
 congr 1
 induction hs with
 | nil => rfl
 | cons x l ih =>
  rw [List.any_cons, List.any_cons, ih (fun y hy => h y (by simp [hy])), fitsD_is hm (h x (by simp))]
set_option maxHeartbeats 8000000 in
set_option maxRecDepth 100000 in
theorem fits_R (w : World) (b : Nat) (F : Nat → Prop) (hs qs : List E) (who m : Int) (hI : IsLR w b F hs qs) :
  Calls Tryz.prog 77 #[.pointer (some ⟨b, 0, none⟩), .int .i64 who, .int .i64 m] w fun e w' => e = .returned (.bool (fitsDA hs who m)) ∧ Below w.heap.size w w' := by
 have hu := Tryz.underlying65
 have hu2 := Tryz.underlying94
 have HI := Aside0.mk hI
 have HM := Aside0.mk (show hs.length ≤ 9223372036854775807 by obtain ⟨hA, hc, qA, qc, c0, c1, l0, l1, r0, r1⟩ := hI.open_; exact r0.2.1)
 clear hI
 obtain ⟨hA, hc, qA, qc, c0, c1, l0, l1, r0, r1⟩ := HI.out.open_
 clear c1 l0 l1 r0 r1
 go_enter Tryz.func77, Tryz.ntmps77
 go_wp2_with fail
 go_loopg [7] hs.length (fun gg v7 wr => ∃ k : Nat, k ≤ hs.length ∧ hs.length - k ≤ gg ∧ v7 = .int .i64 k ∧ Aside0 ((hs.take k).any (fun x => !(x.f0 == who) && !fitsD m x.f1) = false) ∧ Aside0 (Below w.heap.size w wr))
 case atStart => exact ⟨0, by omega, by omega, rfl, ⟨rfl⟩, ⟨Below.refl _ _⟩⟩
 case round =>
  obtain ⟨k, hk, hgg, rfl, HA, HB⟩ := hrel
  have d0 := cell_be c0 HB.out
  by_cases hlt : k < hs.length
  ·obtain ⟨_, _, _, _, d0', _, _, _, r0, _⟩ := (HI.out.below HB.out).open_
   rw [d0] at d0'
   injection d0' with d0'
   injection d0' with e1 _ e3
   subst e1; subst e3
   obtain ⟨ad, e4, q0, q1⟩ := at_T94 r0 (k : Int) (by omega) (by omega)
   cases e4
   have p1 : 0 ≤ (k : Int) := by omega
   have p2 : (k : Int) < hs.length := by omega
   have hrd : rd_T94 hs (k : Int) = hs[k] := by simp [rd_T94, List.getElem?_eq_getElem hlt]
   rw [hrd] at q0 q1
   simp only [Int.toNat_natCast] at q0 q1
   have hn : (hs.take (k + 1)).any (fun x => !(x.f0 == who) && !fitsD m x.f1) = (!(hs[k].f0 == who) && !fitsD m hs[k].f1) := by
    rw [List.take_succ_eq_append_getElem hlt, List.any_append, HA.out]; simp
   have hy : (!(hs[k].f0 == who) && !fitsD m hs[k].f1) = true → fitsDA hs who m = false := fun h => by
    unfold fitsDA
    rw [List.any_eq_true.2 ⟨hs[k], List.getElem_mem hlt, h⟩]; rfl
   have HN := Aside0.mk (And.intro hn hy)
   have HJ := Aside0.mk (And.intro hlt hgg)
   have W3 := Aside0.mk (show wrap64 ((k : Int) + 1) = ((k + 1 : Nat) : Int) by have := HM.out; unfold wrap64; omega)
   generalize hs[k].f0 = x at q0 HN
   generalize hs[k].f1 = y at q1 HN
   have HFC := Aside0.mk (fun W => ltkref1_Fits.calls m y (fitsD m y) W (fitsD_f m y))
   clear hrd hn hy hlt hgg hk r0
   by_cases ht : x = who
   ·have hb : (x != who) = false := by simp [ht]
    have HN1 := Aside0.mk (show (hs.take (k + 1)).any (fun x => !(x.f0 == who) && !fitsD m x.f1) = false by rw [HN.out.1]; simp [ht])
    clear ht
    go_wp2_with fail
    go_roundg (hs.length - (k + 1))
    case measure => have := HJ.out; omega
    case rel => exact ⟨k + 1, by have := HJ.out; omega, by have := HJ.out; omega, by rw [W3.out], HN1, HB⟩
   ·have hb : (x != who) = true := by simpa using ht
    have hb2 : (x == who) = false := by simpa using ht
    clear ht
    go_wp2_with fail
    refine (HFC.out _).mono ?_
    rintro e w3 ⟨rfl, hd⟩
    have HB3 := Aside0.mk (below_then HB.out HB.out.size hd)
    clear hd
    cases hf : fitsD m y with
    | true =>
     have HN1 := Aside0.mk (show (hs.take (k + 1)).any (fun x => !(x.f0 == who) && !fitsD m x.f1) = false by rw [HN.out.1, hf]; simp)
     clear hf
     go_wp2
     go_roundg (hs.length - (k + 1))
     case measure => have := HJ.out; omega
     case rel => exact ⟨k + 1, by have := HJ.out; omega, by have := HJ.out; omega, by rw [W3.out], HN1, HB3⟩
    | false =>
     have HN1 := Aside0.mk (HN.out.2 (by rw [hb2, hf]; rfl))
     clear hf
     go_wp2
     go_ret
     exact ⟨by rw [HN1.out]; first | done | rfl, HB3.out⟩
  ·obtain rfl : k = hs.length := by omega
   have HF := Aside0.mk (show fitsDA hs who m = true by unfold fitsDA; have := HA.out; rw [List.take_length] at this; rw [this]; rfl)
   have t1 : ¬ ((hs.length : Int) < (hs.length : Int)) := by omega
   clear hk hgg hlt HA
   go_wp2
   go_ret
   exact ⟨by rw [HF.out]; first | done | rfl, HB.out⟩
end Go.Proofs.YtkceadieigpolaaGreat.Ln
namespace Go.Proofs.YtkceadieigpolaaGreat.Ln
open Go.RowKit Go.Proofs.YtkceadieigpolaaGreatW.PrintWords Go.Proofs.YtkceadieigpolaaGreatW.PrintWords.Kd Go.Proofs.YtkceadieigpolaaGreatW.PrintLast Go.Proofs.YtkceadieigpolaaGreatW.PrintMore Go.Proofs.YtkceadieigpolaaGreat.PMd
set_option linter.unusedVariables false
set_option linter.unusedSimpArgs false
def stopAt (hs : List E) (who : Int) (k : Nat) : Prop := k ≤ hs.length ∧ (∀ i, i < k → (hs.getD i zE).f0 < who) ∧ (k < hs.length → ¬ (hs.getD k zE).f0 < who)
def PutPost (b : Nat) (F : Nat → Prop) (hs qs : List E) (who m : Int) (w : World) (e : Ending) (w' : World) : Prop :=
 ∃ k, stopAt hs who k ∧ e = .returned (.tuple #[]) ∧ IsLR w' b (fun j => F j ∨ w.heap.size ≤ j) (if k < hs.length ∧ (hs.getD k zE).f0 = who then hs.set k ⟨(hs.getD k zE).f0, m⟩ else hs.take k ++ ⟨who, m⟩ :: hs.drop k) qs ∧ Grew F w w'
theorem IsLR.mono' {w : World} {b : Nat} {F F' : Nat → Prop} {hs qs : List E} (h : IsLR w b F hs qs) (hf : ∀ k, F k → F' k) : IsLR w b F' hs qs := by
 obtain ⟨hA, hc, qA, qc, h1, h2, h3, h4, h5, h6, h7⟩ := h
 exact ⟨hA, hc, qA, qc, h1, hf _ h2, h3, fun k hk => hf _ (h4 k hk), h5, fun k hk => hf _ (h6 k hk), h7⟩
theorem flat_put (l : List E) (j : Nat) (m : Int) : (flat l).set (j * 2 + 1) (.int .i64 m) = flat (l.set j ⟨(l.getD j zE).f0, m⟩) := by
 induction l generalizing j with
 | nil => simp [flat]
 | cons y l ih =>
  have e : ∀ (y : E) (l : List E), flat (y :: l) = .int .i64 y.f0 :: .int .i64 y.f1 :: flat l := fun _ _ => rfl
  cases j with
  | zero => rw [e, List.set_cons_zero, e]; rfl
  | succ j =>
   rw [e, show (j + 1) * 2 + 1 = (j * 2 + 1) + 1 + 1 by omega, List.set_cons_succ, List.set_cons_succ, ih, List.set_cons_succ, e]
   simp
theorem IsLR.store {w : World} {b : Nat} {F : Nat → Prop} {hs qs : List E} (h : IsLR w b F hs qs) (k : Nat) (hk : k < hs.length) (m : Int) : ∃ g off hc qA qc, w.heap[b]? = some (.cells #[.slice (some ⟨g, off, none⟩) hs.length hc, .slice qA qs.length qc] 65 (0, 0)) ∧
  w.cell? ⟨g, off + (k * 2 + 1), none⟩ = some (.int .i64 (hs.getD k zE).f1) ∧ w.cell? ⟨g, off + k * 2, none⟩ = some (.int .i64 (hs.getD k zE).f0) ∧ w.frozen? ⟨g, off + (k * 2 + 1), none⟩ = false ∧ F g ∧
  IsLR (w.setCell ⟨g, off + (k * 2 + 1), none⟩ (.int .i64 m)) b F (hs.set k ⟨(hs.getD k zE).f0, m⟩) qs := by
 obtain ⟨hA, hc, qA, qc, h1, h2, h3, h4, h5, h6, h7⟩ := h
 obtain ⟨g, off, cur, rfl, hg, hcur, hcell⟩ := h3.at_ (by omega)
 have hv1 : (flat hs)[k * 2 + 1]? = some (.int .i64 (hs.getD k zE).f1) ∧ (flat hs)[k * 2]? = some (.int .i64 (hs.getD k zE).f0) := by
  have key : ∀ (l : List E) (k : Nat), k < l.length → (flat l)[k * 2 + 1]? = some (.int .i64 (l.getD k zE).f1) ∧ (flat l)[k * 2]? = some (.int .i64 (l.getD k zE).f0) := by
   intro l
   induction l with
   | nil => intro k hk; simp at hk
   | cons y l ih =>
    intro k hk
    have e : flat (y :: l) = .int .i64 y.f0 :: .int .i64 y.f1 :: flat l := rfl
    rw [e]
    cases k with
    | zero => exact ⟨rfl, rfl⟩
    | succ k =>
     have := ih k (by simpa using hk)
     rw [show (k + 1) * 2 + 1 = (k * 2 + 1) + 1 + 1 by omega, show (k + 1) * 2 = k * 2 + 1 + 1 by omega, List.getElem?_cons_succ, List.getElem?_cons_succ, List.getElem?_cons_succ, List.getElem?_cons_succ]
     simpa using this
  exact key hs k hk
 have hbg : b ≠ g := fun e => by
  subst e
  rw [h1] at hg
  injection hg with hg
  injection hg with _ hg
  exact absurd hg (by decide)
 have hqg : ¬ blk qA g := fun hk => h7 g ⟨_, rfl, rfl⟩ hk
 refine ⟨g, off, hc, qA, qc, h1, (hcell _ _ hv1.1).1, (hcell _ _ hv1.2).1, (hcell _ _ hv1.1).2, h4 g ⟨_, rfl, rfl⟩, some ⟨g, off, none⟩, hc, qA, qc, ?_, h2, ?_, h4, h5.set (p := ⟨g, _, none⟩) hqg _, h6, h7⟩
 ·rw [List.length_set]
  exact (Below.heap_setCell w ⟨g, off + (k * 2 + 1), none⟩ (.int .i64 m) b hbg).trans h1
 ·have h8 := h3.put (k * 2 + 1) (by rw [flat_len]; omega) (.int .i64 m)
  rw [flat_put] at h8
  rw [List.length_set]
  exact h8
set_option maxHeartbeats 8000000 in
set_option maxRecDepth 100000 in
theorem putStore_R (w : World) (b : Nat) (F : Nat → Prop) (hs qs : List E) (who m : Int) (k : Nat) (hI : IsLR w b F hs qs) (hst : stopAt hs who k) (hk : k < hs.length) (he : (hs.getD k zE).f0 = who) :
  Calls Tryz.prog 78 #[.pointer (some ⟨b, 0, none⟩), .int .i64 who, .int .i64 m] w fun e w' => PutPost b F hs qs who m w e w' := by
 have hu := Tryz.underlying65
 have hu2 := Tryz.underlying94
 have HI := Aside0.mk hI
 have HST := Aside0.mk hst
 have HK := Aside0.mk (And.intro hk he)
 obtain ⟨g, off, hc, qA, qc, h1, s1, s0, fz, hFg, hnew⟩ := hI.store k hk m
 obtain ⟨hA, hc', qA', qc', c0', c1, l0, l1, r0, r1⟩ := hI.open_
 have c0 : w.cell? ⟨b, 0, none⟩ = some (.slice (some ⟨g, off, none⟩) hs.length hc) := (blk_cell h1 0).trans rfl
 rw [c0] at c0'
 injection c0' with c0'
 injection c0' with e1 _ e3
 subst e1; subst e3
 have HR := Aside0.mk r0
 have hm := r0.2.1
 have HS := Aside0.mk (And.intro s1 (And.intro fz (And.intro hFg hnew)))
 clear hI c1 l0 l1 r0 r1 hst hk he h1 s1 s0 fz hFg hnew
 go_enter Tryz.func78, Tryz.ntmps78
 go_wp2_with fail
 go_loop [6] (fun u => ∃ i : Nat, i ≤ k ∧ u = .int .i64 i) (fun u => k - (intOf u).toNat)
 case atStart => exact ⟨0, by omega, rfl⟩
 case round =>
  obtain ⟨i, hi, rfl⟩ := hrel
  have hil : i < hs.length := by have := HK.out.1; omega
  obtain ⟨ad, e4, q0, q1⟩ := at_T94 HR.out (i : Int) (by omega) (by omega)
  cases e4
  have p1 : 0 ≤ (i : Int) := by omega
  have p2 : (i : Int) < hs.length := by omega
  have hrd : rd_T94 hs (i : Int) = hs.getD i zE := by simp [rd_T94, zE]
  rw [hrd] at q0 q1
  simp only [Int.toNat_natCast, Addr.add_lit] at q0 q1
  by_cases hlt : i < k
  ·have t1 := HST.out.2.1 i hlt
   generalize (hs.getD i zE).f0 = x at q0 t1
   clear hrd q1
   go_wp2
   go_round
   case rel => exact ⟨i + 1, by omega, by go_num⟩
   case measure => simp [intOf]; omega
  ·obtain rfl : i = k := by omega
   have t1 : ¬ ((hs.getD i zE).f0 < who) := by have := HK.out.2; omega
   have t2 : ((hs.getD i zE).f0 == who) = true := beq_iff_eq.2 HK.out.2
   have s1 : w.cell? ⟨g, off + i * 2 + 1, none⟩ = some (.int .i64 (hs.getD i zE).f1) := HS.out.1
   have s2 : w.frozen? ⟨g, off + i * 2 + 1, none⟩ = false := HS.out.2.1
   generalize (hs.getD i zE).f0 = x at q0 t1 t2
   clear hrd q1 hi hil hlt
   go_wp2
   refine bodyPost_ret (results_none rfl _ _ _) rfl ?_
   refine ⟨i, HST.out, rfl, ?_, ?_⟩
   ·rw [if_pos HK.out]
    exact HS.out.2.2.2.mono' (fun k hk => .inl hk)
   ·exact (Grew.refl F w).setCell (p := ⟨g, off + i * 2 + 1, none⟩) (.inl HS.out.2.2.1) _
end Go.Proofs.YtkceadieigpolaaGreat.Ln
namespace Go.Proofs.YtkceadieigpolaaGreat.Ln
open Go.RowKit Go.Proofs.YtkceadieigpolaaGreatW.PrintWords Go.Proofs.YtkceadieigpolaaGreatW.PrintWords.Kd Go.Proofs.YtkceadieigpolaaGreatW.PrintLast Go.Proofs.YtkceadieigpolaaGreatW.PrintMore Go.Proofs.YtkceadieigpolaaGreat.PMd
set_option linter.unusedVariables false
set_option linter.unusedSimpArgs false
theorem Row.front {w : World} {e sz n cap : Nat} {A : Option Addr} {xs : List Value} (h : Row w e sz A n cap xs) (k : Nat) (hk : k ≤ n) : Row w e sz A k cap (xs.take (k * sz)) := by
 obtain ⟨h1, h2, h3, h4⟩ := h
 have hm := Nat.mul_le_mul_right sz hk
 refine ⟨by rw [List.length_take, h1]; omega, by omega, h3, h4.imp id ?_⟩
 rintro ⟨g, off, cur, rfl, hg, hc, ht⟩
 exact ⟨g, off, cur, rfl, hg, hc, by rw [← ht, List.take_take, Nat.min_eq_left hm]⟩
theorem Row.back {w : World} {e sz n cap : Nat} {g off : Nat} {xs : List Value} (h : Row w e sz (some ⟨g, off, none⟩) n cap xs) (k : Nat) (hk : k ≤ n) : Row w e sz (some ⟨g, off + k * sz, none⟩) (n - k) (cap - k) (xs.drop (k * sz)) := by
 obtain ⟨h1, h2, h3, h4⟩ := h
 refine ⟨by rw [List.length_drop, h1, Nat.sub_mul], by omega, by omega, .inr ?_⟩
 rcases h4 with ⟨h4, _⟩ | ⟨g', off', cur, h4, hg, hc, ht⟩
 ·cases h4
 ·cases h4
  have hm := Nat.mul_le_mul_right sz (show k ≤ cap by omega)
  refine ⟨g, off + k * sz, cur, rfl, hg, by rw [Nat.sub_mul]; omega, ?_⟩
  rw [← ht, List.drop_take, List.drop_drop, Nat.sub_mul]
theorem run_append_none {P : Program} (w : World) (t ty e : TypeId) (i : TypeInfo) (z : Value) (ht : P.underlying t = some (.slice e)) (hi : P.info? e = some i) (hz : i.zero = some z)
  (A : Option Addr) (n cap c : Nat) (xs : List Value) (hR : Row w e i.size A n cap xs) :
  (Builtin.append_ #[t, t] ty #[.slice A n cap, .slice none 0 c]).run P w = .ok (.slice A n cap) w := by
 have hn : n ≤ cap := hR.2.1
 rcases hR.2.2.2 with ⟨rfl, rfl⟩ | ⟨g, off, cur, rfl, hg, hcs, htake⟩
 ·obtain rfl : n = 0 := by omega
  simp [Builtin.append_, run_underlying ht, sizeOf, typeInfo, hi, Builtin.lenOf, Builtin.firstCells]
 ·simp [Builtin.append_, run_underlying ht, sizeOf, typeInfo, hi, Builtin.lenOf, Builtin.firstCells, hn, storeCells]
theorem run_append_rows {P : Program} (w : World) (t ty e : TypeId) (z : Value) (size bytes : Nat) (ht : P.underlying t = some (.slice e)) (hinfo : (P.info? e).map (fun i => (i.zero, i.size, i.bytes)) = some (some z, size, bytes))
  (hzs : z.cells.size = size) (A : Option Addr) (n cap : Nat) (xs : List Value) (hR : Row w e size A n cap xs)
  (B : Option Addr) (m c : Nat) (news : List Value) (hN : Row w e size B m c news) (h1 : ∀ u ∈ news, u.oneCell' = true) (h63 : n + m ≤ maxLen) (hbytes : (n + m) * bytes ≤ 140737488355328) :
  ∃ A' cap' w', (Builtin.append_ #[t, t] ty #[.slice A n cap, .slice B m c]).run P w = .ok (.slice A' (n + m) cap') w' ∧ Row w' e size A' (n + m) cap' (xs ++ news) ∧ Grew (blk A) w w' ∧ (∀ k, blk A' k → blk A k ∨ w.heap.size ≤ k) := by
 cases hi : P.info? e with
 | none => rw [hi] at hinfo; cases hinfo
 | some i =>
  rw [hi] at hinfo
  obtain ⟨hz, hs1, hb1⟩ : i.zero = some z ∧ i.size = size ∧ i.bytes = bytes := by simpa using hinfo
  rcases hN.2.2.2 with ⟨rfl, rfl⟩ | ⟨g, off, cur, rfl, hg, hcs, htake⟩
  ·obtain rfl : m = 0 := by have := hN.2.1; omega
   obtain rfl : news = [] := List.eq_nil_of_length_eq_zero (by simpa using hN.1)
   refine ⟨A, cap, w, ?_, by simpa using hR, Grew.refl _ _, fun k hk => .inl hk⟩
   subst hs1
   exact run_append_none w t ty e i z ht hi hz A n cap 0 xs hR
  ·refine run_append_row (P := P) w t ty e i z size bytes ht hi hz hs1 hb1 hzs A n cap xs hR ⟨g, off, none⟩ m c news hN.1 (fun j u hu => ?_) h1 h63 hbytes
   by_cases hm : 0 < m
   ·obtain ⟨g', off', cur', h2, _, _, h3⟩ := hN.at_ hm
    cases h2
    rw [Addr.add_lit]
    exact (h3 j u hu).1
   ·have h0 : news = [] := List.eq_nil_of_length_eq_zero (by rw [hN.1, show m = 0 by omega, Nat.zero_mul])
    subst h0
    simp at hu
theorem step_append_rows {P : Program} {ops : Array Oper} {o : Oper} {a : Act} {w : World} {K : Act → World → Prop} {Q : Exit → Act → World → Prop} {E : Prop} (hgd : o.guard = none) (s x : Operand) (t : TypeId)
  (ho : o.op = .call { callee := .builtin .append, args := #[s, x], argTypes := #[t, t] })
  (e : TypeId) (z : Value) (size bytes : Nat) (ht : P.underlying t = some (.slice e)) (hinfo : (P.info? e).map (fun i => (i.zero, i.size, i.bytes)) = some (some z, size, bytes))
  (hzs : z.cells.size = size) (A : Option Addr) (n cap : Nat) (xs : List Value) (hs : a.eval s = .slice A n cap) (hR : Row w e size A n cap xs)
  (B : Option Addr) (m c : Nat) (news : List Value) (hx : a.eval x = .slice B m c) (hN : Row w e size B m c news) (h1 : ∀ u ∈ news, u.oneCell' = true)
  (h63 : n + m ≤ maxLen) (hbytes : (n + m) * bytes ≤ 140737488355328)
  (h : ∀ A' cap' w', Row w' e size A' (n + m) cap' (xs ++ news) → Grew (blk A) w w' → (∀ k, blk A' k → blk A k ∨ w.heap.size ≤ k) → K (a.put o.dst (.slice A' (n + m) cap')) w') :
  if Region.wanted o (yielded ops a.tmps) = true then Oper.wp P o a w K Q else E := by
 have hw : Region.wanted o (yielded ops a.tmps) = true := by simp [Region.wanted, hgd]
 rw [if_pos hw]
 obtain ⟨A', cap', w', hr, h2, h3, h4⟩ := run_append_rows (P := P) w t o.type e z size bytes ht hinfo hzs A n cap xs hR B m c news hN h1 h63 hbytes
 unfold Oper.wp execOp
 simp only [ho, resolve, invoke, builtin, Sem.run_bind, Sem.run_pure, Result.andThen_ok, List.map_toArray, List.map_cons, List.map_nil, hs, hx, hr]
 exact h _ _ _ h2 h3 h4
theorem wpList_append_rows {P : Program} {w : World} {ops : Array Oper} {rest : List Oper} {o : Oper} {a : Act} {Q : Exit → Act → World → Prop} (hgd : o.guard = none) (s x : Operand) (t : TypeId)
  (ho : o.op = .call { callee := .builtin .append, args := #[s, x], argTypes := #[t, t] })
  (e : TypeId) (z : Value) (size bytes : Nat) (ht : P.underlying t = some (.slice e)) (hinfo : (P.info? e).map (fun i => (i.zero, i.size, i.bytes)) = some (some z, size, bytes))
  (hzs : z.cells.size = size) (A : Option Addr) (n cap : Nat) (xs : List Value) (hs : a.eval s = .slice A n cap) (hR : Row w e size A n cap xs)
  (B : Option Addr) (m c : Nat) (news : List Value) (hx : a.eval x = .slice B m c) (hN : Row w e size B m c news) (h1 : ∀ u ∈ news, u.oneCell' = true)
  (h63 : n + m ≤ maxLen) (hbytes : (n + m) * bytes ≤ 140737488355328)
  (h : ∀ A' cap' w', Row w' e size A' (n + m) cap' (xs ++ news) → Grew (blk A) w w' → (∀ k, blk A' k → blk A k ∨ w.heap.size ≤ k) → wpList P ops Q rest (a.put o.dst (.slice A' (n + m) cap')) w') : wpList P ops Q (o :: rest) a w := by
 refine wpList_plain hgd fun K hK => ?_
 obtain ⟨A', cap', w', hr, h2, h3, h4⟩ := run_append_rows (P := P) w t o.type e z size bytes ht hinfo hzs A n cap xs hR B m c news hN h1 h63 hbytes
 unfold Oper.wp execOp
 simp only [ho, resolve, invoke, builtin, Sem.run_bind, Sem.run_pure, Result.andThen_ok, List.map_toArray, List.map_cons, List.map_nil, hs, hx, hr]
 exact hK _ _ (h A' cap' w' h2 h3 h4)
end Go.Proofs.YtkceadieigpolaaGreat.Ln
namespace Go.Proofs.YtkceadieigpolaaGreat.Up
open Go
set_option linter.unusedVariables false
section
variable {P : Program} {ops : Array Oper} {Q : Exit → Act → World → Prop} {md : Region.Mode} {st : List Nat} {S : World → Prop}
def none_ (st : List Nat) (l : Array Bool) : Bool := st.all fun j => !(l.getD j true)
theorem none_mono {l : Array Bool} {i : Nat} (h : none_ st (l.setIfInBounds i true) = true) : none_ st l = true := by
 unfold none_ at h ⊢
 rw [List.all_eq_true] at h ⊢
 intro j hj
 have h1 := h j hj
 rcases Nat.decEq i j with e | rfl
 ·rwa [getD_set_ne true e] at h1
 ·rcases Nat.lt_or_ge i l.size with k | k
  ·simp [k] at h1
  ·rwa [Array.setIfInBounds_eq_of_size_le k] at h1
theorem none_set {l : Array Bool} {i : Nat} (h : none_ st l = true) (hi : i ∉ st) : none_ st (l.setIfInBounds i true) = true := by
 unfold none_ at h ⊢
 rw [List.all_eq_true] at h ⊢
 intro j hj
 have hne : i ≠ j := fun e => hi (by rw [e]; exact hj)
 rw [getD_set_ne true hne]
 exact h j hj
def Till (P : Program) (md : Region.Mode) (ops : Array Oper) (Q : Exit → Act → World → Prop) (st : List Nat) (S : World → Prop) : Nat → Array Bool → Act → World → Prop
 | 0, l, a, w => Region.ready md ops l = [] ∧ Q .normal a w
 | n + 1, l, a, w => (Region.ready md ops l = [] → Q .normal a w) ∧
   ∀ i ∈ Region.ready md ops l, wpOp P ops Q i (fun a' w' => (none_ st (l.setIfInBounds i true) = true → S w') ∧ Till P md ops Q st S n (l.setIfInBounds i true) a' w') a w
theorem Till.any : ∀ (n : Nat) (l : Array Bool) (a : Act) (w : World), Till P md ops Q st S n l a w → wpAny P md ops Q n l a w
 | 0, _, _, _, h => h
 | n + 1, _, _, _, h => ⟨h.1, fun i hi => wpOp_mono (fun a' w' k => Till.any n _ a' w' k.2) (h.2 i hi)⟩
def waits (md : Region.Mode) (ops : Array Oper) (st : List Nat) (i : Nat) : Bool :=
 st.all fun j => match ops[j]? with | some o => o.after.any (fun e => Region.binds md e && e.on == i) | none => true
theorem waits_spec {i : Nat} (h : waits md ops st i = true) {j : Nat} {oj : Oper} (hj : ops[j]? = some oj) (hs : j ∈ st) : ∃ e ∈ oj.after, Region.binds md e = true ∧ e.on = i := by
 have h1 := List.all_eq_true.1 h j hs
 rw [hj] at h1
 obtain ⟨e, he, h2⟩ := Array.any_eq_true'.1 h1
 rw [Bool.and_eq_true, beq_iff_eq] at h2
 exact ⟨e, he, h2⟩
theorem not_listed {i : Nat} {l : Array Bool} (hr : i ∈ Region.ready md ops l) {b : Bool} (h : l.getD i b = true) (hb : b = false) : False := by
 subst hb
 have h0 := (mem_ready.1 hr).1
 rcases Nat.lt_or_ge i l.size with k | k
 ·simp [k] at h0 h
  rw [h0] at h
  cases h
 ·simp [Array.getElem?_eq_none k] at h
def via (md : Region.Mode) (ops : Array Oper) (l : Array Bool) (i m : Nat) : Bool :=
 m == i || (!(l.getD m true) && match ops[m]? with | some o => o.after.any (fun e => Region.binds md e && e.on == i) | none => false)
theorem via_spec {i m : Nat} {l : Array Bool} (h : via md ops l i m = true) : m = i ∨ l.getD m true = false ∧ ∃ o, ops[m]? = some o ∧ ∃ e ∈ o.after, Region.binds md e = true ∧ e.on = i := by
 unfold via at h
 rcases (Bool.or_eq_true_iff.1 h) with h | h
 ·exact .inl (by simpa using h)
 ·obtain ⟨h1, h2⟩ := (Bool.and_eq_true_iff.1 h)
  refine .inr ⟨by simpa using h1, ?_⟩
  cases ho : ops[m]? with
  | none => rw [ho] at h2; cases h2
  | some o =>
   rw [ho] at h2
   obtain ⟨e, he, h3⟩ := Array.any_eq_true'.1 h2
   rw [Bool.and_eq_true, beq_iff_eq] at h3
   exact ⟨o, rfl, e, he, h3⟩
theorem Till.first {S1 : World → Prop} {i : Nat} {oi : Oper} {v : Value} (hi : ops[i]? = some oi) (hist : i ∉ st) (hsel : ∀ (j : Nat) (o : Oper) cs b, ops[j]? = some o → o.op ≠ .select cs b)
  (hQ : ∀ c a w, Q (.panic c) (a.put oi.dst v) w → Q (.panic c) a w) (n : Nat) : ∀ (l : Array Bool) (a : Act) (w : World),
   (∀ j oj, ops[j]? = some oj → j ≠ i → l.getD j true = false → (∀ e ∈ oj.after, Region.binds md e = true → e.on ≠ i) → oi.apart ops oj = true) →
   i ∈ Region.ready md ops l →
   ((∀ W, S1 W) ∨ (S1 = S ∧ none_ st l = true ∧ ∃ m, waits md ops st m = true ∧ (m = i ∨ l.getD m true = false ∧ ∃ o, ops[m]? = some o ∧ ∃ e ∈ o.after, Region.binds md e = true ∧ e.on = i))) →
   YieldsIf P ops S1 oi v a → (none_ st l = true → S w) → S1 w → Till P md ops Q st S n (l.setIfInBounds i true) (a.put oi.dst v) w → Till P md ops Q st S (n + 1) l a w := by
 induction n with
 | zero =>
  intro l a w _ hr _ hy hS hS1 H
  refine ⟨fun h => (by rw [h] at hr; cases hr), fun j hj => ?_⟩
  rcases Nat.decEq j i with hji | rfl
  ·have := ready_mono hj hji
   rw [H.1] at this
   cases this
  ·exact hy.wpOp hi hS1 ⟨fun h => hS (none_mono h), H⟩
 | succ n ih =>
  intro l a w hfree hr hm hy hS hS1 H
  refine ⟨fun h => (by rw [h] at hr; cases hr), fun j hj => ?_⟩
  rcases Nat.decEq j i with hji | rfl
  ·obtain ⟨hun, oj, hoj, hall⟩ := mem_ready.1 hj
   have hno : ∀ e ∈ oj.after, Region.binds md e = true → e.on ≠ i := fun e he hb heq => not_listed hr (heq ▸ hall e he hb) rfl
   have hm2 : (∀ W, S1 W) ∨ (S1 = S ∧ none_ st (l.setIfInBounds j true) = true ∧ ∃ m, waits md ops st m = true ∧ (m = i ∨ (l.setIfInBounds j true).getD m true = false ∧ ∃ o, ops[m]? = some o ∧ ∃ e ∈ o.after, Region.binds md e = true ∧ e.on = i)) := by
    rcases hm with h | ⟨h0, h1, m, hst, hm⟩
    ·exact .inl h
    ·have hjm : j ≠ m := fun e => by
      subst e
      rcases hm with h | ⟨_, o, ho, e, he, hb, heq⟩
      ·exact hji h
      ·rw [hoj] at ho
       cases ho
       exact hno e he hb heq
     have hsj : j ∉ st := fun h => by
      obtain ⟨e, he, hb, heq⟩ := waits_spec hst hoj h
      rcases hm with rfl | ⟨h2, _⟩
      ·exact (hno e he hb heq).elim
      ·have h3 := hall e he hb
       rw [heq] at h3
       rcases Nat.lt_or_ge m l.size with k | k
       ·simp [k] at h2 h3
        rw [h2] at h3
        cases h3
       ·simp [Array.getElem?_eq_none k] at h2
     exact .inr ⟨h0, none_set h1 hsj, m, hst, hm.imp id fun ⟨h2, h3⟩ => ⟨by rw [getD_set_ne true hjm]; exact h2, h3⟩⟩
   have hk : ∀ w', (none_ st ((l.setIfInBounds i true).setIfInBounds j true) = true → S w') → none_ st (l.setIfInBounds j true) = true → S w' := fun w' k h =>
    k (by rw [Array.setIfInBounds_comm _ _ (Ne.symm hji)]; exact none_set h hist)
   refine wpOp_mono (fun a' w' k => ⟨hk w' k.2.1, ih (l.setIfInBounds j true) a' w' (fun q oq hq hqi hqu hqn => hfree q oq hq hqi ?_ hqn) (ready_mono hr (Ne.symm hji)) hm2 k.1 (hk w' k.2.1) ?_ ?_⟩)
    (wpOp_putIf hoj (hfree j oj hoj hji hun hno) (fun cs b => hsel i oi cs b hi) (fun cs b => hsel j oj cs b hoj) hQ hy (H.2 j (ready_mono hj hji)))
   ·rcases Nat.decEq j q with e | rfl
    ·rwa [getD_set_ne true e] at hqu
    ·exact hun
   ·rcases hm2 with h | ⟨h0, h1, _⟩
    ·exact h w'
    ·rw [h0]; exact hk w' k.2.1 h1
   ·rw [Array.setIfInBounds_comm _ _ hji]
    exact k.2.2
  ·exact hy.wpOp hi hS1 ⟨fun h => hS (none_mono h), H⟩
theorem Till.take (i m : Nat) {oi : Oper} {v : Value} {n : Nat} {l : Array Bool} {a : Act} {w : World} (hi : ops[i]? = some oi) (hist : st.contains i = false) (hs : Region.noSelect ops = true) (hf : Region.free md ops l i = true)
  (hr : (Region.ready md ops l).contains i = true) (hQ : ∀ c a w, Q (.panic c) (a.put oi.dst v) w → Q (.panic c) a w) (hnone : none_ st l = true) (hst : waits md ops st m = true) (hv : via md ops l i m = true)
  (hy : YieldsIf P ops S oi v a) (hS : S w) (h : Till P md ops Q st S n (l.setIfInBounds i true) (a.put oi.dst v) w) : Till P md ops Q st S (n + 1) l a w :=
 Till.first hi (by simpa using hist) (Region.noSelect_spec hs) hQ n l a w (Region.free_spec hi hf) (by simpa using hr) (.inr ⟨rfl, hnone, m, hst, via_spec hv⟩) hy (fun _ => hS) hS h
theorem Till.takeY (i : Nat) {oi : Oper} {v : Value} {n : Nat} {l : Array Bool} {a : Act} {w : World} (hi : ops[i]? = some oi) (hist : st.contains i = false) (hs : Region.noSelect ops = true) (hf : Region.free md ops l i = true)
  (hr : (Region.ready md ops l).contains i = true) (hQ : ∀ c a w, Q (.panic c) (a.put oi.dst v) w → Q (.panic c) a w)
  (hy : YieldsIf P ops (fun _ => True) oi v a) (hS : none_ st l = true → S w) (h : Till P md ops Q st S n (l.setIfInBounds i true) (a.put oi.dst v) w) : Till P md ops Q st S (n + 1) l a w :=
 Till.first hi (by simpa using hist) (Region.noSelect_spec hs) hQ n l a w (Region.free_spec hi hf) (by simpa using hr) (.inl fun _ => trivial) hy hS trivial h
def TillAll (P : Program) (md : Region.Mode) (ops : Array Oper) (Q : Exit → Act → World → Prop) (st : List Nat) (S : World → Prop) (n : Nat) (l : Array Bool) (a : Act) (w : World) (rs : List Nat) : Prop :=
 ∀ i ∈ rs, wpOp P ops Q i (fun a' w' => (none_ st (l.setIfInBounds i true) = true → S w') ∧ Till P md ops Q st S n (l.setIfInBounds i true) a' w') a w
theorem TillAll.nil {n : Nat} {l : Array Bool} {a : Act} {w : World} : TillAll P md ops Q st S n l a w [] := fun _ h => nomatch h
theorem TillAll.cons {n : Nat} {l : Array Bool} {a : Act} {w : World} {i : Nat} {o : Oper} {rs : List Nat} (ho : ops[i]? = some o)
  (h : ∀ K : Act → World → Prop, Shut (∀ a w, (none_ st (l.setIfInBounds i true) = true → S w) → ((none_ st (l.setIfInBounds i true) = true → S w) → Till P md ops Q st S n (l.setIfInBounds i true) a w) → K a w) → if Region.wanted o (yielded ops a.tmps) = true then Oper.wp P o a w K Q else K (a.put o.dst undef) w)
  (hs : TillAll P md ops Q st S n l a w rs) : TillAll P md ops Q st S n l a w (i :: rs) := fun j hj => by
 rcases List.mem_cons.1 hj with rfl | hj
 ·exact wpOp_step ho (fun K hK => h K (fun a w hS hW => hK a w ⟨hS, hW hS⟩))
 ·exact hs j hj
theorem Till.ready {rs : List Nat} {n : Nat} {l : Array Bool} {a : Act} {w : World} (hr : Region.ready md ops l = rs) (hne : rs ≠ []) (h : TillAll P md ops Q st S n l a w rs) : Till P md ops Q st S (n + 1) l a w :=
 ⟨fun h0 => absurd (hr ▸ h0) hne, hr ▸ h⟩
theorem Till.done {l : Array Bool} {a : Act} {w : World} (hr : Region.ready md ops l = []) (h : Q .normal a w) : ∀ n, Till P md ops Q st S n l a w
 | 0 => ⟨hr, h⟩
 | _ + 1 => ⟨fun _ => h, by rw [hr]; simp⟩
theorem Till.region (st : List Nat) (S : World → Prop) {id : Nat} {a : Act} {w : World} (hm : P.follows .mixedOrders = true) (hS : S w.drew)
  (h : S w.drew → Till P .any ops Q st S ops.size (Array.replicate ops.size false) a w.drew) : (Code.region id ops true).wp P Q a w :=
 wp_region_any hm (Till.any _ _ _ _ (h hS))
end
end Go.Proofs.YtkceadieigpolaaGreat.Up
namespace Go.Proofs.YtkceadieigpolaaGreat.Ln
open Go.RowKit Go.Proofs.YtkceadieigpolaaGreatW.PrintWords Go.Proofs.YtkceadieigpolaaGreatW.PrintWords.Kd Go.Proofs.YtkceadieigpolaaGreatW.PrintLast Go.Proofs.YtkceadieigpolaaGreatW.PrintMore Go.Proofs.YtkceadieigpolaaGreat.PMd Go.Proofs.YtkceadieigpolaaGreat
set_option linter.unusedVariables false
set_option linter.unusedSimpArgs false
theorem lit_be {B : Nat} {w0 w : World} (_hb : Below B w0 w) (e sz n : Nat) (cs : Array Value) (h : cs.size = n * sz) (hn : n ≤ maxLen) : Row (w.alloc (.cells cs e)) e sz (some ⟨w.heap.size, 0, none⟩) n n cs.toList := by
 refine ⟨by simpa using h, Nat.le_refl _, hn, .inr ⟨w.heap.size, 0, _, rfl, heap_alloc_new w _, by simp [h], ?_⟩⟩
 have h2 : cs.toList.length = n * sz := by simpa using h
 rw [← h2]
 exact List.take_length
theorem blk_le {a n : Nat} {o : Nat} (h : n ≤ a) : ∀ k, blk (some ⟨a, o, none⟩) k → n ≤ k := by
 rintro k ⟨x, h1, rfl⟩
 cases h1
 exact h
theorem blk_ne {a o a' o' : Nat} (h : a ≠ a') : ∀ k, blk (some ⟨a, o, none⟩) k → ¬ blk (some ⟨a', o', none⟩) k := by
 rintro k ⟨x, h1, rfl⟩ ⟨y, h2, h3⟩
 cases h1
 cases h2
 exact h h3.symm
theorem flat_take' (l : List E) (k : Nat) : (flat l).take (k * 2) = flat (l.take k) := by
 induction l generalizing k with
 | nil => simp [flat]
 | cons y l ih =>
  have e : ∀ (y : E) (l : List E), flat (y :: l) = .int .i64 y.f0 :: .int .i64 y.f1 :: flat l := fun _ _ => rfl
  cases k with
  | zero => simp [flat]
  | succ k => rw [e, List.take_succ_cons, e, show (k + 1) * 2 = (k * 2) + 1 + 1 by omega, List.take_succ_cons, List.take_succ_cons, ih]
theorem flat_drop' (l : List E) (k : Nat) : (flat l).drop (k * 2) = flat (l.drop k) := by
 induction l generalizing k with
 | nil => simp [flat]
 | cons y l ih =>
  have e : ∀ (y : E) (l : List E), flat (y :: l) = .int .i64 y.f0 :: .int .i64 y.f1 :: flat l := fun _ _ => rfl
  cases k with
  | zero => simp
  | succ k => rw [e, List.drop_succ_cons, show (k + 1) * 2 = (k * 2) + 1 + 1 by omega, List.drop_succ_cons, List.drop_succ_cons, ih]
theorem IsLR.setH {w W : World} {b : Nat} {F : Nat → Prop} {hs qs : List E} (h : IsLR w b F hs qs) (hb : Below w.heap.size w W) {A : Option Addr} {n c : Nat} {l : List E} {xs : List Value} (hR : Row W 94 2 A n c xs) (hk : ∀ k, blk A k → w.heap.size ≤ k) (hx : xs = flat l) (hn : n = l.length) :
  IsLR (W.setCell ⟨b, 0, none⟩ (.slice A n c)) b (fun j => F j ∨ w.heap.size ≤ j) l qs ∧ Grew F w (W.setCell ⟨b, 0, none⟩ (.slice A n c)) := by
 subst hx; subst hn
 obtain ⟨hA, hc, qA, qc, h1, h2, h3, h4, h5, h6, h7⟩ := h
 have hbl := (Array.getElem?_eq_some_iff.1 h1).1
 have hW : W.heap[b]? = _ := (hb.block b hbl).trans h1
 refine ⟨⟨A, c, qA, qc, ?_, .inl h2, hR.set (fun h => by have := hk _ h; have h9 : w.heap.size ≤ b := this; omega) _, fun k h => .inr (hk k h), (h5.below hb).set (fun h => (h5.ne h1 (by decide)) h) _, fun k h => .inl (h6 k h), fun k h8 h9 => by have := hk k h8; have := h5.lt h9; omega⟩, (Grew.of_below hb).setCell (.inl h2) _⟩
 exact heap_setCell_same W b 0 _ _ _ hW
theorem IsLR.setQ {w W : World} {b : Nat} {F : Nat → Prop} {hs qs : List E} (h : IsLR w b F hs qs) (hb : Below w.heap.size w W) {A : Option Addr} {n c : Nat} {l : List E} {xs : List Value} (hR : Row W 94 2 A n c xs) (hk : ∀ k, blk A k → w.heap.size ≤ k) (hx : xs = flat l) (hn : n = l.length) :
  IsLR (W.setCell ⟨b, 1, none⟩ (.slice A n c)) b (fun j => F j ∨ w.heap.size ≤ j) hs l ∧ Grew F w (W.setCell ⟨b, 1, none⟩ (.slice A n c)) := by
 subst hx; subst hn
 obtain ⟨hA, hc, qA, qc, h1, h2, h3, h4, h5, h6, h7⟩ := h
 have hbl := (Array.getElem?_eq_some_iff.1 h1).1
 have hW : W.heap[b]? = _ := (hb.block b hbl).trans h1
 refine ⟨⟨hA, hc, A, c, ?_, .inl h2, (h3.below hb).set (fun h => (h3.ne h1 (by decide)) h) _, fun k h => .inl (h4 k h), hR.set (fun h => by have := hk _ h; have h9 : w.heap.size ≤ b := this; omega) _, fun k h => .inr (hk k h), fun k h8 h9 => by have := hk k h9; have := h3.lt h8; omega⟩, (Grew.of_below hb).setCell (.inl h2) _⟩
 exact heap_setCell_same W b 1 _ _ _ hW
set_option maxHeartbeats 8000000 in
set_option maxRecDepth 100000 in
theorem putMiss_R (w : World) (b : Nat) (F : Nat → Prop) (hs qs : List E) (who m : Int) (k : Nat) (hI : IsLR w b F hs qs) (hst : stopAt hs who k) (hk : ¬ (k < hs.length ∧ (hs.getD k zE).f0 = who)) (hbig : hs.length < 1000000000000) :
  Calls Tryz.prog 78 #[.pointer (some ⟨b, 0, none⟩), .int .i64 who, .int .i64 m] w fun e w' => PutPost b F hs qs who m w e w' := by
 have hu := Tryz.underlying65
 have hu2 := Tryz.underlying94
 have HI := Aside0.mk hI
 have HST := Aside0.mk hst
 have HK := Aside0.mk hk
 have HB := Aside0.mk hbig
 have HKL := Aside0.mk hst.1
 have HL := Aside0.mk (show (hs.take k ++ ⟨who, m⟩ :: hs.drop k) = if k < hs.length ∧ (hs.getD k zE).f0 = who then hs.set k ⟨(hs.getD k zE).f0, m⟩ else hs.take k ++ ⟨who, m⟩ :: hs.drop k by rw [if_neg hk])
 have HFL := Aside0.mk (show [] ++ (flat hs).take (k * 2) ++ [Value.int .i64 who, .int .i64 m] ++ (flat hs).drop (k * 2) = flat (hs.take k ++ ⟨who, m⟩ :: hs.drop k) by rw [flat_take', flat_drop']; simp [flat, encE])
 have HNL := Aside0.mk (show 0 + k + 1 + (hs.length - k) = (hs.take k ++ ⟨who, m⟩ :: hs.drop k).length by have := hst.1; simp; omega)
 obtain ⟨hA, hc, qA, qc, h1, h2, h3, h4, h5, h6, h7⟩ := hI
 have HBW := Aside0.mk (Array.getElem?_eq_some_iff.1 h1).1
 have HX := Aside0.mk (fun (W : World) (hb : Below w.heap.size w W) => (show W.cell? ⟨b, 0, none⟩ = some (.slice hA hs.length hc) ∧ W.frozen? ⟨b, 0, none⟩ = false from
  have hW := (hb.block b HBW.out).trans h1
  ⟨(blk_cell hW 0).trans rfl, blk_frozen hW 0⟩))
 have c0 : w.cell? ⟨b, 0, none⟩ = some (.slice hA hs.length hc) := (blk_cell h1 0).trans rfl
 have HW := Aside0.mk h3
 have HR := Aside0.mk h3.reads
 have HBd := Aside0.mk (below_drew (Below.refl w.heap.size w))
 have hm := h3.reads.2.1
 have hcl := h3.2.1
 have hkl := hst.1
 have HF := Aside0.mk (h3.upto k hkl)
 have HO1 := Aside0.mk (show ∀ u ∈ (flat hs).take (k * 2), u.oneCell' = true from fun u hu => flat_one hs u (List.mem_of_mem_take hu))
 have HO2 := Aside0.mk (show ∀ u ∈ (flat hs).drop (k * 2), u.oneCell' = true from fun u hu => flat_one hs u (List.mem_of_mem_drop hu))
 have HBK0 := Aside0.mk (h3.from_ k hkl)
 clear h1 h2 h3 h4 h5 h6 h7 hst hk hbig
 go_enter Tryz.func78, Tryz.ntmps78
 go_wp2_with fail
 go_loop [6] (fun u => ∃ i : Nat, i ≤ k ∧ u = .int .i64 i) (fun u => k - (intOf u).toNat)
 case atStart => exact ⟨0, by omega, rfl⟩
 case round =>
  obtain ⟨i, hi, rfl⟩ := hrel
  have p3 : (i : Int) ≤ hs.length := by omega
  have p4 : (i : Int) ≤ hc := by omega
  by_cases hil : i < hs.length
  ·obtain ⟨g, off, cur, rfl, hg, -, -⟩ := HW.out.at_ (by omega)
   obtain ⟨ad, e4, q0, q1⟩ := at_T94 HR.out (i : Int) (by omega) (by omega)
   injection e4 with e4
   subst e4
   have p1 : 0 ≤ (i : Int) := by omega
   have p2 : (i : Int) < hs.length := by omega
   have hrd : rd_T94 hs (i : Int) = hs.getD i zE := by simp [rd_T94, zE]
   rw [hrd] at q0 q1
   simp only [Int.toNat_natCast, Addr.add_lit] at q0 q1
   by_cases hlt : i < k
   ·have t1 := HST.out.2.1 i hlt
    generalize (hs.getD i zE).f0 = x at q0 t1
    clear hrd q1 hg p3 p4
    go_wp2
    go_round
    case rel => exact ⟨i + 1, by omega, by go_num⟩
    case measure => simp [intOf]; omega
   ·obtain rfl : i = k := by omega
    have t1 : ¬ ((hs.getD i zE).f0 < who) := HST.out.2.2 hil
    have t2 : ((hs.getD i zE).f0 == who) = false := beq_eq_false_iff_ne.2 (fun e => HK.out ⟨hil, e⟩)
    have n1 : ¬ hc = i := by omega
    have hBK := HBK0.out
    rw [if_neg n1] at hBK
    simp only [Option.map_some, Addr.add_lit] at hBK
    have HBK := Aside0.mk hBK
    generalize (hs.getD i zE).f0 = x at q0 t1 t2
    clear hrd q1 hg hBK HBK0
    go_wp2_with fail
    clear q0 t1 t2 p1 p2 hlt hi hil
    refine Up.Till.region [23] (fun W => W.cell? ⟨b, 0, none⟩ = some (.slice (some ⟨g, off, none⟩) hs.length hc) ∧ W.frozen? ⟨b, 0, none⟩ = false) (by kernel_rfl) ?_ (fun hH => ?_)
    ·exact HX.out _ HBd.out
    refine Up.Till.takeY 0 (oi := ⟨some 55, .move (.tmp 0), 66, "ref.go:56", #[], none⟩) (v := ?vq1) rfl (by rfl) (by kernel_rfl) (by kernel_rfl) (by kernel_rfl) (fun _ _ _ h => h) (Or.inl ⟨by rfl, ?yq1⟩) (fun _ => by assumption) ?rq1
    case yq1 => (intro w hSw; clear hSw; go_simp; (try with_reducible rfl))
    (try simp only [Act.put, List.setIfInBounds_toArray, List.set_cons_zero, List.set_cons_succ])
    refine Up.Till.takeY 2 (oi := ⟨some 57, .move (.tmp 0), 66, "ref.go:56", #[], none⟩) (v := ?vq2) rfl (by rfl) (by kernel_rfl) (by kernel_rfl) (by kernel_rfl) (fun _ _ _ h => h) (Or.inl ⟨by rfl, ?yq2⟩) (fun _ => by assumption) ?rq2
    case yq2 => (intro w hSw; clear hSw; go_simp; (try with_reducible rfl))
    (try simp only [Act.put, List.setIfInBounds_toArray, List.set_cons_zero, List.set_cons_succ])
    refine Up.Till.takeY 3 (oi := ⟨some 58, .nilCheck (.tmp 57), 0, "ref.go:56", #[⟨2, .data⟩], none⟩) (v := ?vq3) rfl (by rfl) (by kernel_rfl) (by kernel_rfl) (by kernel_rfl) (fun _ _ _ h => h) (Or.inl ⟨by rfl, ?yq3⟩) (fun _ => by assumption) ?rq3
    case yq3 => (intro w hSw; clear hSw; go_simp; (try with_reducible rfl))
    (try simp only [Act.put, List.setIfInBounds_toArray, List.set_cons_zero, List.set_cons_succ])
    refine Up.Till.takeY 4 (oi := ⟨some 59, .fieldAddr 65 (.tmp 58) 0, 0, "ref.go:56", #[⟨3, .data⟩], none⟩) (v := ?vq4) rfl (by rfl) (by kernel_rfl) (by kernel_rfl) (by kernel_rfl) (fun _ _ _ h => h) (Or.inl ⟨by rfl, ?yq4⟩) (fun _ => by assumption) ?rq4
    case yq4 => (intro w hSw; clear hSw; go_simp; (try with_reducible rfl))
    (try simp only [Act.put, List.setIfInBounds_toArray, List.set_cons_zero, List.set_cons_succ])
    refine Up.Till.take 5 5 (oi := ⟨some 60, .load 62 (.tmp 59), 62, "ref.go:56", #[⟨4, .data⟩], none⟩) (v := ?vq5) rfl (by rfl) (by kernel_rfl) (by kernel_rfl) (by kernel_rfl) (fun _ _ _ h => h) (by kernel_rfl) (by kernel_rfl) (by kernel_rfl) (Or.inl ⟨by rfl, ?yq5⟩) (by assumption) ?rq5
    case yq5 => (intro w hSw; (try dsimp only at hSw); go_simp; (try with_reducible rfl))
    (try simp only [Act.put, List.setIfInBounds_toArray, List.set_cons_zero, List.set_cons_succ])
    refine Up.Till.takeY 6 (oi := ⟨some 61, .move (.tmp 6), 3, "ref.go:56", #[], none⟩) (v := ?vq6) rfl (by rfl) (by kernel_rfl) (by kernel_rfl) (by kernel_rfl) (fun _ _ _ h => h) (Or.inl ⟨by rfl, ?yq6⟩) (fun _ => by assumption) ?rq6
    case yq6 => (intro w hSw; clear hSw; go_simp; (try with_reducible rfl))
    (try simp only [Act.put, List.setIfInBounds_toArray, List.set_cons_zero, List.set_cons_succ])
    refine Up.Till.takeY 7 (oi := ⟨some 62, .slice 62 (.tmp 60) none (some (.tmp 61)) none, 62, "ref.go:56", #[⟨5, .data⟩, ⟨6, .data⟩], none⟩) (v := ?vq7) rfl (by rfl) (by kernel_rfl) (by kernel_rfl) (by kernel_rfl) (fun _ _ _ h => h) (Or.inl ⟨by rfl, ?yq7⟩) (fun _ => by assumption) ?rq7
    case yq7 => (intro w hSw; clear hSw; go_simp; (try with_reducible rfl))
    (try simp only [Act.put, List.setIfInBounds_toArray, List.set_cons_zero, List.set_cons_succ])
    refine Up.Till.takeY 9 (oi := ⟨some 64, .move (.tmp 1), 3, "ref.go:56", #[], none⟩) (v := ?vq8) rfl (by rfl) (by kernel_rfl) (by kernel_rfl) (by kernel_rfl) (fun _ _ _ h => h) (Or.inl ⟨by rfl, ?yq8⟩) (fun _ => by assumption) ?rq8
    case yq8 => (intro w hSw; clear hSw; go_simp; (try with_reducible rfl))
    (try simp only [Act.put, List.setIfInBounds_toArray, List.set_cons_zero, List.set_cons_succ])
    refine Up.Till.takeY 10 (oi := ⟨some 65, .move (.tmp 2), 3, "ref.go:56", #[], none⟩) (v := ?vq9) rfl (by rfl) (by kernel_rfl) (by kernel_rfl) (by kernel_rfl) (fun _ _ _ h => h) (Or.inl ⟨by rfl, ?yq9⟩) (fun _ => by assumption) ?rq9
    case yq9 => (intro w hSw; clear hSw; go_simp; (try with_reducible rfl))
    (try simp only [Act.put, List.setIfInBounds_toArray, List.set_cons_zero, List.set_cons_succ])
    refine Up.Till.takeY 11 (oi := ⟨some 66, .build 94 #[(0, .tmp 64), (1, .tmp 65)], 94, "ref.go:56", #[⟨9, .data⟩, ⟨10, .data⟩], none⟩) (v := ?vq10) rfl (by rfl) (by kernel_rfl) (by kernel_rfl) (by kernel_rfl) (fun _ _ _ h => h) (Or.inl ⟨by rfl, ?yq10⟩) (fun _ => by assumption) ?rq10
    case yq10 => (intro w hSw; clear hSw; go_simp; (try with_reducible rfl))
    (try simp only [Act.put, List.setIfInBounds_toArray, List.set_cons_zero, List.set_cons_succ])
    refine Up.Till.takeY 14 (oi := ⟨some 69, .move (.tmp 0), 66, "ref.go:56", #[], none⟩) (v := ?vq11) rfl (by rfl) (by kernel_rfl) (by kernel_rfl) (by kernel_rfl) (fun _ _ _ h => h) (Or.inl ⟨by rfl, ?yq11⟩) (fun _ => by assumption) ?rq11
    case yq11 => (intro w hSw; clear hSw; go_simp; (try with_reducible rfl))
    (try simp only [Act.put, List.setIfInBounds_toArray, List.set_cons_zero, List.set_cons_succ])
    refine Up.Till.takeY 15 (oi := ⟨some 70, .nilCheck (.tmp 69), 0, "ref.go:56", #[⟨14, .data⟩], none⟩) (v := ?vq12) rfl (by rfl) (by kernel_rfl) (by kernel_rfl) (by kernel_rfl) (fun _ _ _ h => h) (Or.inl ⟨by rfl, ?yq12⟩) (fun _ => by assumption) ?rq12
    case yq12 => (intro w hSw; clear hSw; go_simp; (try with_reducible rfl))
    (try simp only [Act.put, List.setIfInBounds_toArray, List.set_cons_zero, List.set_cons_succ])
    refine Up.Till.takeY 16 (oi := ⟨some 71, .fieldAddr 65 (.tmp 70) 0, 0, "ref.go:56", #[⟨15, .data⟩], none⟩) (v := ?vq13) rfl (by rfl) (by kernel_rfl) (by kernel_rfl) (by kernel_rfl) (fun _ _ _ h => h) (Or.inl ⟨by rfl, ?yq13⟩) (fun _ => by assumption) ?rq13
    case yq13 => (intro w hSw; clear hSw; go_simp; (try with_reducible rfl))
    (try simp only [Act.put, List.setIfInBounds_toArray, List.set_cons_zero, List.set_cons_succ])
    refine Up.Till.take 17 17 (oi := ⟨some 72, .load 62 (.tmp 71), 62, "ref.go:56", #[⟨16, .data⟩], none⟩) (v := ?vq14) rfl (by rfl) (by kernel_rfl) (by kernel_rfl) (by kernel_rfl) (fun _ _ _ h => h) (by kernel_rfl) (by kernel_rfl) (by kernel_rfl) (Or.inl ⟨by rfl, ?yq14⟩) (by assumption) ?rq14
    case yq14 => (intro w hSw; (try dsimp only at hSw); go_simp; (try with_reducible rfl))
    (try simp only [Act.put, List.setIfInBounds_toArray, List.set_cons_zero, List.set_cons_succ])
    refine Up.Till.takeY 18 (oi := ⟨some 73, .move (.tmp 6), 3, "ref.go:56", #[], none⟩) (v := ?vq15) rfl (by rfl) (by kernel_rfl) (by kernel_rfl) (by kernel_rfl) (fun _ _ _ h => h) (Or.inl ⟨by rfl, ?yq15⟩) (fun _ => by assumption) ?rq15
    case yq15 => (intro w hSw; clear hSw; go_simp; (try with_reducible rfl))
    (try simp only [Act.put, List.setIfInBounds_toArray, List.set_cons_zero, List.set_cons_succ])
    refine Up.Till.takeY 19 (oi := ⟨some 74, .slice 62 (.tmp 72) (some (.tmp 73)) none none, 62, "ref.go:56", #[⟨17, .data⟩, ⟨18, .data⟩], none⟩) (v := ?vq16) rfl (by rfl) (by kernel_rfl) (by kernel_rfl) (by kernel_rfl) (fun _ _ _ h => h) (Or.inl ⟨by rfl, ?yq16⟩) (fun _ => by assumption) ?rq16
    case yq16 => (intro w hSw; clear hSw; go_simp; (try with_reducible rfl))
    (try simp only [Act.put, List.setIfInBounds_toArray, List.set_cons_zero, List.set_cons_succ])
    refine Up.Till.ready (rs := [1, 12]) (by kernel_rfl) (by simp) ?_
    refine Up.TillAll.cons (o := ⟨some 56, .buildSlice 62 0 #[], 62, "ref.go:56", #[], none⟩) rfl (fun K hK => ?_) ?_
    ·go_simp
     have B_1 := Aside0.mk (below_alloc HBd.out (.cells #[] 94))
     have E_1 := Aside0.mk (lit_be HBd.out 94 2 0 #[] rfl (by decide))
     have LE := Aside0.mk (HBd.out.size)
     refine hK.out _ _ (fun _ => ?_) (fun hHq16 => ?_)
     ·(try dsimp only)
      exact HX.out _ B_1.out
     replace hHq16 := hHq16 (by rfl)
     clear hK K hH
     (try simp only [Act.put, List.setIfInBounds_toArray, List.set_cons_zero, List.set_cons_succ])
     refine Up.Till.ready (rs := [8, 12]) (by kernel_rfl) (by simp) ?_
     refine Up.TillAll.cons (o := ⟨some 63, .call { callee := Callee.builtin Builtin.append, args := #[.tmp 56, .tmp 62], argTypes := #[62, 62] }, 62, "ref.go:56", #[⟨1, .data⟩, ⟨7, .data⟩], none⟩) rfl (fun K hK => ?_) ?_
     ·refine step_append_rows (by rfl) (.tmp 56) (.tmp 62) 62 (by rfl) 94 (.agg #[.int .i64 0, .int .i64 0]) 2 16 Tryz.underlying62 infoE0 rfl _ 0 0 [] (by simp [Act.eval, Act.put]) E_1.out (some ⟨g, off, none⟩) i hc _ (by simp [Act.eval, Act.put]) (HF.out.below B_1.out) HO1.out (by have := HB.out; have := HKL.out; unfold maxLen; omega) (by have := HB.out; have := HKL.out; omega) ?_
      intro A_1_8 c_1_8 w_1_8 hR6 hG6 hk6
      have B_1_8 := Aside0.mk (hG6.to_below B_1.out B_1.out.size (blk_le (by have := LE.out; first | omega | (simp; done) | (simp; omega) | (simp at this ⊢; omega))))
      have R_1_8 := Aside0.mk hR6
      have K_1_8 := Aside0.mk (show ∀ k, blk A_1_8 k → w.heap.size ≤ k from fun k h => (hk6 k h).elim (blk_le (by have := LE.out; first | omega | (simp; done) | (simp; omega) | (simp at this ⊢; omega)) k) (fun h2 => Nat.le_trans B_1.out.size h2))
      clear hR6 hG6 hk6
      refine hK.out _ _ (fun _ => ?_) (fun hHq17 => ?_)
      ·(try dsimp only)
       exact HX.out _ B_1_8.out
      replace hHq17 := hHq17 (by rfl)
      clear hK K hHq16
      (try simp only [Act.put, List.setIfInBounds_toArray, List.set_cons_zero, List.set_cons_succ])
      refine Up.Till.ready (rs := [12]) (by kernel_rfl) (by simp) ?_
      refine Up.TillAll.cons (o := ⟨some 67, .buildSlice 62 1 #[(0, .tmp 66)], 62, "ref.go:56", #[⟨11, .data⟩], none⟩) rfl (fun K hK => ?_) Up.TillAll.nil
      go_simp
      have B_1_8_12 := Aside0.mk (below_alloc B_1_8.out (.cells #[.int .i64 who, .int .i64 m] 94))
      have N_1_8_12 := Aside0.mk (lit_be B_1_8.out 94 2 1 #[.int .i64 who, .int .i64 m] rfl (by decide))
      have R_1_8_12 := Aside0.mk (R_1_8.out.alloc (.cells #[.int .i64 who, .int .i64 m] 94))
      have K_1_8_12 := K_1_8
      refine hK.out _ _ (fun _ => ?_) (fun hHq18 => ?_)
      ·(try dsimp only)
       exact HX.out _ B_1_8_12.out
      replace hHq18 := hHq18 (by rfl)
      clear hK K hHq17
      (try simp only [Act.put, List.setIfInBounds_toArray, List.set_cons_zero, List.set_cons_succ])
      refine Up.Till.ready (rs := [13]) (by kernel_rfl) (by simp) ?_
      refine Up.TillAll.cons (o := ⟨some 68, .call { callee := Callee.builtin Builtin.append, args := #[.tmp 63, .tmp 67], argTypes := #[62, 62] }, 62, "ref.go:56", #[⟨8, .data⟩, ⟨12, .data⟩, ⟨8, .chain⟩], none⟩) rfl (fun K hK => ?_) Up.TillAll.nil
      refine step_append_rows (by rfl) (.tmp 63) (.tmp 67) 62 (by rfl) 94 (.agg #[.int .i64 0, .int .i64 0]) 2 16 Tryz.underlying62 infoE0 rfl _ _ _ _ (by simp [Act.eval, Act.put]) R_1_8_12.out _ 1 1 _ (by simp [Act.eval, Act.put]) N_1_8_12.out (by simp [Value.oneCell']) (by have := HB.out; have := HKL.out; unfold maxLen; omega) (by have := HB.out; have := HKL.out; omega) ?_
      intro A_1_8_12_13 c_1_8_12_13 w_1_8_12_13 hR6 hG6 hk6
      have B_1_8_12_13 := Aside0.mk (hG6.to_below B_1_8_12.out B_1_8_12.out.size K_1_8_12.out)
      have R_1_8_12_13 := Aside0.mk hR6
      have K_1_8_12_13 := Aside0.mk (show ∀ k, blk A_1_8_12_13 k → w.heap.size ≤ k from fun k h => (hk6 k h).elim (K_1_8_12.out k) (fun h2 => Nat.le_trans B_1_8_12.out.size h2))
      clear hR6 hG6 hk6
      refine hK.out _ _ (fun _ => ?_) (fun hHq19 => ?_)
      ·(try dsimp only)
       exact HX.out _ B_1_8_12_13.out
      replace hHq19 := hHq19 (by rfl)
      clear hK K hHq18
      (try simp only [Act.put, List.setIfInBounds_toArray, List.set_cons_zero, List.set_cons_succ])
      refine Up.Till.ready (rs := [20]) (by kernel_rfl) (by simp) ?_
      refine Up.TillAll.cons (o := ⟨some 75, .call { callee := Callee.builtin Builtin.append, args := #[.tmp 68, .tmp 74], argTypes := #[62, 62] }, 62, "ref.go:56", #[⟨13, .data⟩, ⟨19, .data⟩, ⟨13, .chain⟩], none⟩) rfl (fun K hK => ?_) Up.TillAll.nil
      refine step_append_rows (by rfl) (.tmp 68) (.tmp 74) 62 (by rfl) 94 (.agg #[.int .i64 0, .int .i64 0]) 2 16 Tryz.underlying62 infoE0 rfl _ _ _ _ (by simp [Act.eval, Act.put]) R_1_8_12_13.out (some ⟨g, off + i * 2, none⟩) (hs.length - i) (hc - i) _ (by simp [Act.eval, Act.put]) (HBK.out.below B_1_8_12_13.out) HO2.out (by have := HB.out; have := HKL.out; unfold maxLen; omega) (by have := HB.out; have := HKL.out; omega) ?_
      intro A_1_8_12_13_20 c_1_8_12_13_20 w_1_8_12_13_20 hR6 hG6 hk6
      have B_1_8_12_13_20 := Aside0.mk (hG6.to_below B_1_8_12_13.out B_1_8_12_13.out.size K_1_8_12_13.out)
      have R_1_8_12_13_20 := Aside0.mk hR6
      have K_1_8_12_13_20 := Aside0.mk (show ∀ k, blk A_1_8_12_13_20 k → w.heap.size ≤ k from fun k h => (hk6 k h).elim (K_1_8_12_13.out k) (fun h2 => Nat.le_trans B_1_8_12_13.out.size h2))
      clear hR6 hG6 hk6
      refine hK.out _ _ (fun _ => ?_) (fun hHq20 => ?_)
      ·(try dsimp only)
       exact HX.out _ B_1_8_12_13_20.out
      replace hHq20 := hHq20 (by rfl)
      clear hK K hHq19
      (try simp only [Act.put, List.setIfInBounds_toArray, List.set_cons_zero, List.set_cons_succ])
      refine Up.Till.takeY 21 (oi := ⟨some 76, .nilCheck (.tmp 55), 0, "ref.go:56", #[⟨0, .data⟩, ⟨0, .phase⟩, ⟨1, .phase⟩, ⟨2, .phase⟩, ⟨3, .phase⟩, ⟨4, .phase⟩, ⟨5, .phase⟩, ⟨6, .phase⟩, ⟨7, .phase⟩, ⟨8, .phase⟩, ⟨9, .phase⟩, ⟨10, .phase⟩, ⟨11, .phase⟩, ⟨12, .phase⟩, ⟨13, .phase⟩, ⟨14, .phase⟩, ⟨15, .phase⟩, ⟨16, .phase⟩, ⟨17, .phase⟩, ⟨18, .phase⟩, ⟨19, .phase⟩, ⟨20, .phase⟩], none⟩) (v := ?vq22) rfl (by rfl) (by kernel_rfl) (by kernel_rfl) (by kernel_rfl) (fun _ _ _ h => h) (Or.inl ⟨by rfl, ?yq22⟩) (fun _ => by assumption) ?rq22
      case yq22 => (intro w hSw; clear hSw; go_simp; (try with_reducible rfl))
      (try simp only [Act.put, List.setIfInBounds_toArray, List.set_cons_zero, List.set_cons_succ])
      refine Up.Till.takeY 22 (oi := ⟨some 77, .fieldAddr 65 (.tmp 76) 0, 0, "ref.go:56", #[⟨21, .data⟩, ⟨0, .phase⟩, ⟨1, .phase⟩, ⟨2, .phase⟩, ⟨3, .phase⟩, ⟨4, .phase⟩, ⟨5, .phase⟩, ⟨6, .phase⟩, ⟨7, .phase⟩, ⟨8, .phase⟩, ⟨9, .phase⟩, ⟨10, .phase⟩, ⟨11, .phase⟩, ⟨12, .phase⟩, ⟨13, .phase⟩, ⟨14, .phase⟩, ⟨15, .phase⟩, ⟨16, .phase⟩, ⟨17, .phase⟩, ⟨18, .phase⟩, ⟨19, .phase⟩, ⟨20, .phase⟩], none⟩) (v := ?vq23) rfl (by rfl) (by kernel_rfl) (by kernel_rfl) (by kernel_rfl) (fun _ _ _ h => h) (Or.inl ⟨by rfl, ?yq23⟩) (fun _ => by assumption) ?rq23
      case yq23 => (intro w hSw; clear hSw; go_simp; (try with_reducible rfl))
      (try simp only [Act.put, List.setIfInBounds_toArray, List.set_cons_zero, List.set_cons_succ])
      refine Up.Till.ready (rs := [23]) (by kernel_rfl) (by simp) ?_
      refine Up.TillAll.cons (o := ⟨none, .store 62 (.tmp 77) (.tmp 75), 0, "ref.go:56", #[⟨22, .data⟩, ⟨20, .data⟩, ⟨20, .chain⟩, ⟨0, .phase⟩, ⟨1, .phase⟩, ⟨2, .phase⟩, ⟨3, .phase⟩, ⟨4, .phase⟩, ⟨5, .phase⟩, ⟨6, .phase⟩, ⟨7, .phase⟩, ⟨8, .phase⟩, ⟨9, .phase⟩, ⟨10, .phase⟩, ⟨11, .phase⟩, ⟨12, .phase⟩, ⟨13, .phase⟩, ⟨14, .phase⟩, ⟨15, .phase⟩, ⟨16, .phase⟩, ⟨17, .phase⟩, ⟨18, .phase⟩, ⟨19, .phase⟩, ⟨20, .phase⟩], none⟩) rfl (fun K hK => ?_) Up.TillAll.nil
      obtain ⟨z0, z1⟩ := HX.out _ B_1_8_12_13_20.out
      go_simp
      refine hK.out _ _ (fun h => absurd h (by decide)) (fun hzz => ?_)
      clear hK K hzz hHq20
      (try simp only [Act.put, List.setIfInBounds_toArray, List.set_cons_zero, List.set_cons_succ])
      refine Up.Till.done (by kernel_rfl) ?_ _
      go_end0
      have hE := HI.out.setH B_1_8_12_13_20.out R_1_8_12_13_20.out K_1_8_12_13_20.out HFL.out HNL.out
      rw [HL.out] at hE
      simp only [Nat.zero_add, Nat.sub_self, Nat.add_zero] at hE
      exact ⟨i, HST.out, rfl, hE.1, hE.2⟩
     refine Up.TillAll.cons (o := ⟨some 67, .buildSlice 62 1 #[(0, .tmp 66)], 62, "ref.go:56", #[⟨11, .data⟩], none⟩) rfl (fun K hK => ?_) ?_
     ·go_simp
      have B_1_12 := Aside0.mk (below_alloc B_1.out (.cells #[.int .i64 who, .int .i64 m] 94))
      have N_1_12 := Aside0.mk (lit_be B_1.out 94 2 1 #[.int .i64 who, .int .i64 m] rfl (by decide))
      have E_1_12 := Aside0.mk (E_1.out.alloc (.cells #[.int .i64 who, .int .i64 m] 94))
      refine hK.out _ _ (fun _ => ?_) (fun hHq24 => ?_)
      ·(try dsimp only)
       exact HX.out _ B_1_12.out
      replace hHq24 := hHq24 (by rfl)
      clear hK K hHq16
      (try simp only [Act.put, List.setIfInBounds_toArray, List.set_cons_zero, List.set_cons_succ])
      refine Up.Till.ready (rs := [8]) (by kernel_rfl) (by simp) ?_
      refine Up.TillAll.cons (o := ⟨some 63, .call { callee := Callee.builtin Builtin.append, args := #[.tmp 56, .tmp 62], argTypes := #[62, 62] }, 62, "ref.go:56", #[⟨1, .data⟩, ⟨7, .data⟩], none⟩) rfl (fun K hK => ?_) Up.TillAll.nil
      refine step_append_rows (by rfl) (.tmp 56) (.tmp 62) 62 (by rfl) 94 (.agg #[.int .i64 0, .int .i64 0]) 2 16 Tryz.underlying62 infoE0 rfl _ 0 0 [] (by simp [Act.eval, Act.put]) E_1_12.out (some ⟨g, off, none⟩) i hc _ (by simp [Act.eval, Act.put]) (HF.out.below B_1_12.out) HO1.out (by have := HB.out; have := HKL.out; unfold maxLen; omega) (by have := HB.out; have := HKL.out; omega) ?_
      intro A_1_12_8 c_1_12_8 w_1_12_8 hR6 hG6 hk6
      have B_1_12_8 := Aside0.mk (hG6.to_below B_1_12.out B_1_12.out.size (blk_le (by have := LE.out; first | omega | (simp; done) | (simp; omega) | (simp at this ⊢; omega))))
      have R_1_12_8 := Aside0.mk hR6
      have K_1_12_8 := Aside0.mk (show ∀ k, blk A_1_12_8 k → w.heap.size ≤ k from fun k h => (hk6 k h).elim (blk_le (by have := LE.out; first | omega | (simp; done) | (simp; omega) | (simp at this ⊢; omega)) k) (fun h2 => Nat.le_trans B_1_12.out.size h2))
      have N_1_12_8 := Aside0.mk (N_1_12.out.grew hG6 (blk_ne (by first | omega | (simp; done) | (simp; omega))))
      clear hR6 hG6 hk6
      refine hK.out _ _ (fun _ => ?_) (fun hHq25 => ?_)
      ·(try dsimp only)
       exact HX.out _ B_1_12_8.out
      replace hHq25 := hHq25 (by rfl)
      clear hK K hHq24
      (try simp only [Act.put, List.setIfInBounds_toArray, List.set_cons_zero, List.set_cons_succ])
      refine Up.Till.ready (rs := [13]) (by kernel_rfl) (by simp) ?_
      refine Up.TillAll.cons (o := ⟨some 68, .call { callee := Callee.builtin Builtin.append, args := #[.tmp 63, .tmp 67], argTypes := #[62, 62] }, 62, "ref.go:56", #[⟨8, .data⟩, ⟨12, .data⟩, ⟨8, .chain⟩], none⟩) rfl (fun K hK => ?_) Up.TillAll.nil
      refine step_append_rows (by rfl) (.tmp 63) (.tmp 67) 62 (by rfl) 94 (.agg #[.int .i64 0, .int .i64 0]) 2 16 Tryz.underlying62 infoE0 rfl _ _ _ _ (by simp [Act.eval, Act.put]) R_1_12_8.out _ 1 1 _ (by simp [Act.eval, Act.put]) N_1_12_8.out (by simp [Value.oneCell']) (by have := HB.out; have := HKL.out; unfold maxLen; omega) (by have := HB.out; have := HKL.out; omega) ?_
      intro A_1_12_8_13 c_1_12_8_13 w_1_12_8_13 hR6 hG6 hk6
      have B_1_12_8_13 := Aside0.mk (hG6.to_below B_1_12_8.out B_1_12_8.out.size K_1_12_8.out)
      have R_1_12_8_13 := Aside0.mk hR6
      have K_1_12_8_13 := Aside0.mk (show ∀ k, blk A_1_12_8_13 k → w.heap.size ≤ k from fun k h => (hk6 k h).elim (K_1_12_8.out k) (fun h2 => Nat.le_trans B_1_12_8.out.size h2))
      clear hR6 hG6 hk6
      refine hK.out _ _ (fun _ => ?_) (fun hHq26 => ?_)
      ·(try dsimp only)
       exact HX.out _ B_1_12_8_13.out
      replace hHq26 := hHq26 (by rfl)
      clear hK K hHq25
      (try simp only [Act.put, List.setIfInBounds_toArray, List.set_cons_zero, List.set_cons_succ])
      refine Up.Till.ready (rs := [20]) (by kernel_rfl) (by simp) ?_
      refine Up.TillAll.cons (o := ⟨some 75, .call { callee := Callee.builtin Builtin.append, args := #[.tmp 68, .tmp 74], argTypes := #[62, 62] }, 62, "ref.go:56", #[⟨13, .data⟩, ⟨19, .data⟩, ⟨13, .chain⟩], none⟩) rfl (fun K hK => ?_) Up.TillAll.nil
      refine step_append_rows (by rfl) (.tmp 68) (.tmp 74) 62 (by rfl) 94 (.agg #[.int .i64 0, .int .i64 0]) 2 16 Tryz.underlying62 infoE0 rfl _ _ _ _ (by simp [Act.eval, Act.put]) R_1_12_8_13.out (some ⟨g, off + i * 2, none⟩) (hs.length - i) (hc - i) _ (by simp [Act.eval, Act.put]) (HBK.out.below B_1_12_8_13.out) HO2.out (by have := HB.out; have := HKL.out; unfold maxLen; omega) (by have := HB.out; have := HKL.out; omega) ?_
      intro A_1_12_8_13_20 c_1_12_8_13_20 w_1_12_8_13_20 hR6 hG6 hk6
      have B_1_12_8_13_20 := Aside0.mk (hG6.to_below B_1_12_8_13.out B_1_12_8_13.out.size K_1_12_8_13.out)
      have R_1_12_8_13_20 := Aside0.mk hR6
      have K_1_12_8_13_20 := Aside0.mk (show ∀ k, blk A_1_12_8_13_20 k → w.heap.size ≤ k from fun k h => (hk6 k h).elim (K_1_12_8_13.out k) (fun h2 => Nat.le_trans B_1_12_8_13.out.size h2))
      clear hR6 hG6 hk6
      refine hK.out _ _ (fun _ => ?_) (fun hHq27 => ?_)
      ·(try dsimp only)
       exact HX.out _ B_1_12_8_13_20.out
      replace hHq27 := hHq27 (by rfl)
      clear hK K hHq26
      (try simp only [Act.put, List.setIfInBounds_toArray, List.set_cons_zero, List.set_cons_succ])
      refine Up.Till.takeY 21 (oi := ⟨some 76, .nilCheck (.tmp 55), 0, "ref.go:56", #[⟨0, .data⟩, ⟨0, .phase⟩, ⟨1, .phase⟩, ⟨2, .phase⟩, ⟨3, .phase⟩, ⟨4, .phase⟩, ⟨5, .phase⟩, ⟨6, .phase⟩, ⟨7, .phase⟩, ⟨8, .phase⟩, ⟨9, .phase⟩, ⟨10, .phase⟩, ⟨11, .phase⟩, ⟨12, .phase⟩, ⟨13, .phase⟩, ⟨14, .phase⟩, ⟨15, .phase⟩, ⟨16, .phase⟩, ⟨17, .phase⟩, ⟨18, .phase⟩, ⟨19, .phase⟩, ⟨20, .phase⟩], none⟩) (v := ?vq29) rfl (by rfl) (by kernel_rfl) (by kernel_rfl) (by kernel_rfl) (fun _ _ _ h => h) (Or.inl ⟨by rfl, ?yq29⟩) (fun _ => by assumption) ?rq29
      case yq29 => (intro w hSw; clear hSw; go_simp; (try with_reducible rfl))
      (try simp only [Act.put, List.setIfInBounds_toArray, List.set_cons_zero, List.set_cons_succ])
      refine Up.Till.takeY 22 (oi := ⟨some 77, .fieldAddr 65 (.tmp 76) 0, 0, "ref.go:56", #[⟨21, .data⟩, ⟨0, .phase⟩, ⟨1, .phase⟩, ⟨2, .phase⟩, ⟨3, .phase⟩, ⟨4, .phase⟩, ⟨5, .phase⟩, ⟨6, .phase⟩, ⟨7, .phase⟩, ⟨8, .phase⟩, ⟨9, .phase⟩, ⟨10, .phase⟩, ⟨11, .phase⟩, ⟨12, .phase⟩, ⟨13, .phase⟩, ⟨14, .phase⟩, ⟨15, .phase⟩, ⟨16, .phase⟩, ⟨17, .phase⟩, ⟨18, .phase⟩, ⟨19, .phase⟩, ⟨20, .phase⟩], none⟩) (v := ?vq30) rfl (by rfl) (by kernel_rfl) (by kernel_rfl) (by kernel_rfl) (fun _ _ _ h => h) (Or.inl ⟨by rfl, ?yq30⟩) (fun _ => by assumption) ?rq30
      case yq30 => (intro w hSw; clear hSw; go_simp; (try with_reducible rfl))
      (try simp only [Act.put, List.setIfInBounds_toArray, List.set_cons_zero, List.set_cons_succ])
      refine Up.Till.ready (rs := [23]) (by kernel_rfl) (by simp) ?_
      refine Up.TillAll.cons (o := ⟨none, .store 62 (.tmp 77) (.tmp 75), 0, "ref.go:56", #[⟨22, .data⟩, ⟨20, .data⟩, ⟨20, .chain⟩, ⟨0, .phase⟩, ⟨1, .phase⟩, ⟨2, .phase⟩, ⟨3, .phase⟩, ⟨4, .phase⟩, ⟨5, .phase⟩, ⟨6, .phase⟩, ⟨7, .phase⟩, ⟨8, .phase⟩, ⟨9, .phase⟩, ⟨10, .phase⟩, ⟨11, .phase⟩, ⟨12, .phase⟩, ⟨13, .phase⟩, ⟨14, .phase⟩, ⟨15, .phase⟩, ⟨16, .phase⟩, ⟨17, .phase⟩, ⟨18, .phase⟩, ⟨19, .phase⟩, ⟨20, .phase⟩], none⟩) rfl (fun K hK => ?_) Up.TillAll.nil
      obtain ⟨z0, z1⟩ := HX.out _ B_1_12_8_13_20.out
      go_simp
      refine hK.out _ _ (fun h => absurd h (by decide)) (fun hzz => ?_)
      clear hK K hzz hHq27
      (try simp only [Act.put, List.setIfInBounds_toArray, List.set_cons_zero, List.set_cons_succ])
      refine Up.Till.done (by kernel_rfl) ?_ _
      go_end0
      have hE := HI.out.setH B_1_12_8_13_20.out R_1_12_8_13_20.out K_1_12_8_13_20.out HFL.out HNL.out
      rw [HL.out] at hE
      simp only [Nat.zero_add, Nat.sub_self, Nat.add_zero] at hE
      exact ⟨i, HST.out, rfl, hE.1, hE.2⟩
     exact Up.TillAll.nil
    refine Up.TillAll.cons (o := ⟨some 67, .buildSlice 62 1 #[(0, .tmp 66)], 62, "ref.go:56", #[⟨11, .data⟩], none⟩) rfl (fun K hK => ?_) ?_
    ·go_simp
     have B_12 := Aside0.mk (below_alloc HBd.out (.cells #[.int .i64 who, .int .i64 m] 94))
     have N_12 := Aside0.mk (lit_be HBd.out 94 2 1 #[.int .i64 who, .int .i64 m] rfl (by decide))
     refine hK.out _ _ (fun _ => ?_) (fun hHq31 => ?_)
     ·(try dsimp only)
      exact HX.out _ B_12.out
     replace hHq31 := hHq31 (by rfl)
     clear hK K hH
     (try simp only [Act.put, List.setIfInBounds_toArray, List.set_cons_zero, List.set_cons_succ])
     refine Up.Till.ready (rs := [1]) (by kernel_rfl) (by simp) ?_
     refine Up.TillAll.cons (o := ⟨some 56, .buildSlice 62 0 #[], 62, "ref.go:56", #[], none⟩) rfl (fun K hK => ?_) Up.TillAll.nil
     go_simp
     have B_12_1 := Aside0.mk (below_alloc B_12.out (.cells #[] 94))
     have E_12_1 := Aside0.mk (lit_be B_12.out 94 2 0 #[] rfl (by decide))
     have LE := Aside0.mk (B_12.out.size)
     have N_12_1 := Aside0.mk (N_12.out.alloc (.cells #[] 94))
     refine hK.out _ _ (fun _ => ?_) (fun hHq32 => ?_)
     ·(try dsimp only)
      exact HX.out _ B_12_1.out
     replace hHq32 := hHq32 (by rfl)
     clear hK K hHq31
     (try simp only [Act.put, List.setIfInBounds_toArray, List.set_cons_zero, List.set_cons_succ])
     refine Up.Till.ready (rs := [8]) (by kernel_rfl) (by simp) ?_
     refine Up.TillAll.cons (o := ⟨some 63, .call { callee := Callee.builtin Builtin.append, args := #[.tmp 56, .tmp 62], argTypes := #[62, 62] }, 62, "ref.go:56", #[⟨1, .data⟩, ⟨7, .data⟩], none⟩) rfl (fun K hK => ?_) Up.TillAll.nil
     refine step_append_rows (by rfl) (.tmp 56) (.tmp 62) 62 (by rfl) 94 (.agg #[.int .i64 0, .int .i64 0]) 2 16 Tryz.underlying62 infoE0 rfl _ 0 0 [] (by simp [Act.eval, Act.put]) E_12_1.out (some ⟨g, off, none⟩) i hc _ (by simp [Act.eval, Act.put]) (HF.out.below B_12_1.out) HO1.out (by have := HB.out; have := HKL.out; unfold maxLen; omega) (by have := HB.out; have := HKL.out; omega) ?_
     intro A_12_1_8 c_12_1_8 w_12_1_8 hR6 hG6 hk6
     have B_12_1_8 := Aside0.mk (hG6.to_below B_12_1.out B_12_1.out.size (blk_le (by have := LE.out; first | omega | (simp; done) | (simp; omega) | (simp at this ⊢; omega))))
     have R_12_1_8 := Aside0.mk hR6
     have K_12_1_8 := Aside0.mk (show ∀ k, blk A_12_1_8 k → w.heap.size ≤ k from fun k h => (hk6 k h).elim (blk_le (by have := LE.out; first | omega | (simp; done) | (simp; omega) | (simp at this ⊢; omega)) k) (fun h2 => Nat.le_trans B_12_1.out.size h2))
     have N_12_1_8 := Aside0.mk (N_12_1.out.grew hG6 (blk_ne (by first | omega | (simp; done) | (simp; omega))))
     clear hR6 hG6 hk6
     refine hK.out _ _ (fun _ => ?_) (fun hHq33 => ?_)
     ·(try dsimp only)
      exact HX.out _ B_12_1_8.out
     replace hHq33 := hHq33 (by rfl)
     clear hK K hHq32
     (try simp only [Act.put, List.setIfInBounds_toArray, List.set_cons_zero, List.set_cons_succ])
     refine Up.Till.ready (rs := [13]) (by kernel_rfl) (by simp) ?_
     refine Up.TillAll.cons (o := ⟨some 68, .call { callee := Callee.builtin Builtin.append, args := #[.tmp 63, .tmp 67], argTypes := #[62, 62] }, 62, "ref.go:56", #[⟨8, .data⟩, ⟨12, .data⟩, ⟨8, .chain⟩], none⟩) rfl (fun K hK => ?_) Up.TillAll.nil
     refine step_append_rows (by rfl) (.tmp 63) (.tmp 67) 62 (by rfl) 94 (.agg #[.int .i64 0, .int .i64 0]) 2 16 Tryz.underlying62 infoE0 rfl _ _ _ _ (by simp [Act.eval, Act.put]) R_12_1_8.out _ 1 1 _ (by simp [Act.eval, Act.put]) N_12_1_8.out (by simp [Value.oneCell']) (by have := HB.out; have := HKL.out; unfold maxLen; omega) (by have := HB.out; have := HKL.out; omega) ?_
     intro A_12_1_8_13 c_12_1_8_13 w_12_1_8_13 hR6 hG6 hk6
     have B_12_1_8_13 := Aside0.mk (hG6.to_below B_12_1_8.out B_12_1_8.out.size K_12_1_8.out)
     have R_12_1_8_13 := Aside0.mk hR6
     have K_12_1_8_13 := Aside0.mk (show ∀ k, blk A_12_1_8_13 k → w.heap.size ≤ k from fun k h => (hk6 k h).elim (K_12_1_8.out k) (fun h2 => Nat.le_trans B_12_1_8.out.size h2))
     clear hR6 hG6 hk6
     refine hK.out _ _ (fun _ => ?_) (fun hHq34 => ?_)
     ·(try dsimp only)
      exact HX.out _ B_12_1_8_13.out
     replace hHq34 := hHq34 (by rfl)
     clear hK K hHq33
     (try simp only [Act.put, List.setIfInBounds_toArray, List.set_cons_zero, List.set_cons_succ])
     refine Up.Till.ready (rs := [20]) (by kernel_rfl) (by simp) ?_
     refine Up.TillAll.cons (o := ⟨some 75, .call { callee := Callee.builtin Builtin.append, args := #[.tmp 68, .tmp 74], argTypes := #[62, 62] }, 62, "ref.go:56", #[⟨13, .data⟩, ⟨19, .data⟩, ⟨13, .chain⟩], none⟩) rfl (fun K hK => ?_) Up.TillAll.nil
     refine step_append_rows (by rfl) (.tmp 68) (.tmp 74) 62 (by rfl) 94 (.agg #[.int .i64 0, .int .i64 0]) 2 16 Tryz.underlying62 infoE0 rfl _ _ _ _ (by simp [Act.eval, Act.put]) R_12_1_8_13.out (some ⟨g, off + i * 2, none⟩) (hs.length - i) (hc - i) _ (by simp [Act.eval, Act.put]) (HBK.out.below B_12_1_8_13.out) HO2.out (by have := HB.out; have := HKL.out; unfold maxLen; omega) (by have := HB.out; have := HKL.out; omega) ?_
     intro A_12_1_8_13_20 c_12_1_8_13_20 w_12_1_8_13_20 hR6 hG6 hk6
     have B_12_1_8_13_20 := Aside0.mk (hG6.to_below B_12_1_8_13.out B_12_1_8_13.out.size K_12_1_8_13.out)
     have R_12_1_8_13_20 := Aside0.mk hR6
     have K_12_1_8_13_20 := Aside0.mk (show ∀ k, blk A_12_1_8_13_20 k → w.heap.size ≤ k from fun k h => (hk6 k h).elim (K_12_1_8_13.out k) (fun h2 => Nat.le_trans B_12_1_8_13.out.size h2))
     clear hR6 hG6 hk6
     refine hK.out _ _ (fun _ => ?_) (fun hHq35 => ?_)
     ·(try dsimp only)
      exact HX.out _ B_12_1_8_13_20.out
     replace hHq35 := hHq35 (by rfl)
     clear hK K hHq34
     (try simp only [Act.put, List.setIfInBounds_toArray, List.set_cons_zero, List.set_cons_succ])
     refine Up.Till.takeY 21 (oi := ⟨some 76, .nilCheck (.tmp 55), 0, "ref.go:56", #[⟨0, .data⟩, ⟨0, .phase⟩, ⟨1, .phase⟩, ⟨2, .phase⟩, ⟨3, .phase⟩, ⟨4, .phase⟩, ⟨5, .phase⟩, ⟨6, .phase⟩, ⟨7, .phase⟩, ⟨8, .phase⟩, ⟨9, .phase⟩, ⟨10, .phase⟩, ⟨11, .phase⟩, ⟨12, .phase⟩, ⟨13, .phase⟩, ⟨14, .phase⟩, ⟨15, .phase⟩, ⟨16, .phase⟩, ⟨17, .phase⟩, ⟨18, .phase⟩, ⟨19, .phase⟩, ⟨20, .phase⟩], none⟩) (v := ?vq37) rfl (by rfl) (by kernel_rfl) (by kernel_rfl) (by kernel_rfl) (fun _ _ _ h => h) (Or.inl ⟨by rfl, ?yq37⟩) (fun _ => by assumption) ?rq37
     case yq37 => (intro w hSw; clear hSw; go_simp; (try with_reducible rfl))
     (try simp only [Act.put, List.setIfInBounds_toArray, List.set_cons_zero, List.set_cons_succ])
     refine Up.Till.takeY 22 (oi := ⟨some 77, .fieldAddr 65 (.tmp 76) 0, 0, "ref.go:56", #[⟨21, .data⟩, ⟨0, .phase⟩, ⟨1, .phase⟩, ⟨2, .phase⟩, ⟨3, .phase⟩, ⟨4, .phase⟩, ⟨5, .phase⟩, ⟨6, .phase⟩, ⟨7, .phase⟩, ⟨8, .phase⟩, ⟨9, .phase⟩, ⟨10, .phase⟩, ⟨11, .phase⟩, ⟨12, .phase⟩, ⟨13, .phase⟩, ⟨14, .phase⟩, ⟨15, .phase⟩, ⟨16, .phase⟩, ⟨17, .phase⟩, ⟨18, .phase⟩, ⟨19, .phase⟩, ⟨20, .phase⟩], none⟩) (v := ?vq38) rfl (by rfl) (by kernel_rfl) (by kernel_rfl) (by kernel_rfl) (fun _ _ _ h => h) (Or.inl ⟨by rfl, ?yq38⟩) (fun _ => by assumption) ?rq38
     case yq38 => (intro w hSw; clear hSw; go_simp; (try with_reducible rfl))
     (try simp only [Act.put, List.setIfInBounds_toArray, List.set_cons_zero, List.set_cons_succ])
     refine Up.Till.ready (rs := [23]) (by kernel_rfl) (by simp) ?_
     refine Up.TillAll.cons (o := ⟨none, .store 62 (.tmp 77) (.tmp 75), 0, "ref.go:56", #[⟨22, .data⟩, ⟨20, .data⟩, ⟨20, .chain⟩, ⟨0, .phase⟩, ⟨1, .phase⟩, ⟨2, .phase⟩, ⟨3, .phase⟩, ⟨4, .phase⟩, ⟨5, .phase⟩, ⟨6, .phase⟩, ⟨7, .phase⟩, ⟨8, .phase⟩, ⟨9, .phase⟩, ⟨10, .phase⟩, ⟨11, .phase⟩, ⟨12, .phase⟩, ⟨13, .phase⟩, ⟨14, .phase⟩, ⟨15, .phase⟩, ⟨16, .phase⟩, ⟨17, .phase⟩, ⟨18, .phase⟩, ⟨19, .phase⟩, ⟨20, .phase⟩], none⟩) rfl (fun K hK => ?_) Up.TillAll.nil
     obtain ⟨z0, z1⟩ := HX.out _ B_12_1_8_13_20.out
     go_simp
     refine hK.out _ _ (fun h => absurd h (by decide)) (fun hzz => ?_)
     clear hK K hzz hHq35
     (try simp only [Act.put, List.setIfInBounds_toArray, List.set_cons_zero, List.set_cons_succ])
     refine Up.Till.done (by kernel_rfl) ?_ _
     go_end0
     have hE := HI.out.setH B_12_1_8_13_20.out R_12_1_8_13_20.out K_12_1_8_13_20.out HFL.out HNL.out
     rw [HL.out] at hE
     simp only [Nat.zero_add, Nat.sub_self, Nat.add_zero] at hE
     exact ⟨i, HST.out, rfl, hE.1, hE.2⟩
    exact Up.TillAll.nil
  ·obtain rfl : i = k := by omega
   obtain rfl : i = hs.length := by omega
   have t1 : ¬ ((hs.length : Int) < (hs.length : Int)) := by omega
   have HBK := Aside0.mk HBK0.out
   clear HBK0
   go_wp2_with fail
   refine Up.Till.region [23] (fun W => W.cell? ⟨b, 0, none⟩ = some (.slice hA hs.length hc) ∧ W.frozen? ⟨b, 0, none⟩ = false) (by kernel_rfl) ?_ (fun hH => ?_)
   ·exact HX.out _ HBd.out
   refine Up.Till.takeY 0 (oi := ⟨some 55, .move (.tmp 0), 66, "ref.go:56", #[], none⟩) (v := ?vr1) rfl (by rfl) (by kernel_rfl) (by kernel_rfl) (by kernel_rfl) (fun _ _ _ h => h) (Or.inl ⟨by rfl, ?yr1⟩) (fun _ => by assumption) ?rr1
   case yr1 => (intro w hSw; clear hSw; go_simp; (try with_reducible rfl))
   (try simp only [Act.put, List.setIfInBounds_toArray, List.set_cons_zero, List.set_cons_succ])
   refine Up.Till.takeY 2 (oi := ⟨some 57, .move (.tmp 0), 66, "ref.go:56", #[], none⟩) (v := ?vr2) rfl (by rfl) (by kernel_rfl) (by kernel_rfl) (by kernel_rfl) (fun _ _ _ h => h) (Or.inl ⟨by rfl, ?yr2⟩) (fun _ => by assumption) ?rr2
   case yr2 => (intro w hSw; clear hSw; go_simp; (try with_reducible rfl))
   (try simp only [Act.put, List.setIfInBounds_toArray, List.set_cons_zero, List.set_cons_succ])
   refine Up.Till.takeY 3 (oi := ⟨some 58, .nilCheck (.tmp 57), 0, "ref.go:56", #[⟨2, .data⟩], none⟩) (v := ?vr3) rfl (by rfl) (by kernel_rfl) (by kernel_rfl) (by kernel_rfl) (fun _ _ _ h => h) (Or.inl ⟨by rfl, ?yr3⟩) (fun _ => by assumption) ?rr3
   case yr3 => (intro w hSw; clear hSw; go_simp; (try with_reducible rfl))
   (try simp only [Act.put, List.setIfInBounds_toArray, List.set_cons_zero, List.set_cons_succ])
   refine Up.Till.takeY 4 (oi := ⟨some 59, .fieldAddr 65 (.tmp 58) 0, 0, "ref.go:56", #[⟨3, .data⟩], none⟩) (v := ?vr4) rfl (by rfl) (by kernel_rfl) (by kernel_rfl) (by kernel_rfl) (fun _ _ _ h => h) (Or.inl ⟨by rfl, ?yr4⟩) (fun _ => by assumption) ?rr4
   case yr4 => (intro w hSw; clear hSw; go_simp; (try with_reducible rfl))
   (try simp only [Act.put, List.setIfInBounds_toArray, List.set_cons_zero, List.set_cons_succ])
   refine Up.Till.take 5 5 (oi := ⟨some 60, .load 62 (.tmp 59), 62, "ref.go:56", #[⟨4, .data⟩], none⟩) (v := ?vr5) rfl (by rfl) (by kernel_rfl) (by kernel_rfl) (by kernel_rfl) (fun _ _ _ h => h) (by kernel_rfl) (by kernel_rfl) (by kernel_rfl) (Or.inl ⟨by rfl, ?yr5⟩) (by assumption) ?rr5
   case yr5 => (intro w hSw; (try dsimp only at hSw); go_simp; (try with_reducible rfl))
   (try simp only [Act.put, List.setIfInBounds_toArray, List.set_cons_zero, List.set_cons_succ])
   refine Up.Till.takeY 6 (oi := ⟨some 61, .move (.tmp 6), 3, "ref.go:56", #[], none⟩) (v := ?vr6) rfl (by rfl) (by kernel_rfl) (by kernel_rfl) (by kernel_rfl) (fun _ _ _ h => h) (Or.inl ⟨by rfl, ?yr6⟩) (fun _ => by assumption) ?rr6
   case yr6 => (intro w hSw; clear hSw; go_simp; (try with_reducible rfl))
   (try simp only [Act.put, List.setIfInBounds_toArray, List.set_cons_zero, List.set_cons_succ])
   refine Up.Till.takeY 7 (oi := ⟨some 62, .slice 62 (.tmp 60) none (some (.tmp 61)) none, 62, "ref.go:56", #[⟨5, .data⟩, ⟨6, .data⟩], none⟩) (v := ?vr7) rfl (by rfl) (by kernel_rfl) (by kernel_rfl) (by kernel_rfl) (fun _ _ _ h => h) (Or.inl ⟨by rfl, ?yr7⟩) (fun _ => by assumption) ?rr7
   case yr7 => (intro w hSw; clear hSw; go_simp; (try with_reducible rfl))
   (try simp only [Act.put, List.setIfInBounds_toArray, List.set_cons_zero, List.set_cons_succ])
   refine Up.Till.takeY 9 (oi := ⟨some 64, .move (.tmp 1), 3, "ref.go:56", #[], none⟩) (v := ?vr8) rfl (by rfl) (by kernel_rfl) (by kernel_rfl) (by kernel_rfl) (fun _ _ _ h => h) (Or.inl ⟨by rfl, ?yr8⟩) (fun _ => by assumption) ?rr8
   case yr8 => (intro w hSw; clear hSw; go_simp; (try with_reducible rfl))
   (try simp only [Act.put, List.setIfInBounds_toArray, List.set_cons_zero, List.set_cons_succ])
   refine Up.Till.takeY 10 (oi := ⟨some 65, .move (.tmp 2), 3, "ref.go:56", #[], none⟩) (v := ?vr9) rfl (by rfl) (by kernel_rfl) (by kernel_rfl) (by kernel_rfl) (fun _ _ _ h => h) (Or.inl ⟨by rfl, ?yr9⟩) (fun _ => by assumption) ?rr9
   case yr9 => (intro w hSw; clear hSw; go_simp; (try with_reducible rfl))
   (try simp only [Act.put, List.setIfInBounds_toArray, List.set_cons_zero, List.set_cons_succ])
   refine Up.Till.takeY 11 (oi := ⟨some 66, .build 94 #[(0, .tmp 64), (1, .tmp 65)], 94, "ref.go:56", #[⟨9, .data⟩, ⟨10, .data⟩], none⟩) (v := ?vr10) rfl (by rfl) (by kernel_rfl) (by kernel_rfl) (by kernel_rfl) (fun _ _ _ h => h) (Or.inl ⟨by rfl, ?yr10⟩) (fun _ => by assumption) ?rr10
   case yr10 => (intro w hSw; clear hSw; go_simp; (try with_reducible rfl))
   (try simp only [Act.put, List.setIfInBounds_toArray, List.set_cons_zero, List.set_cons_succ])
   refine Up.Till.takeY 14 (oi := ⟨some 69, .move (.tmp 0), 66, "ref.go:56", #[], none⟩) (v := ?vr11) rfl (by rfl) (by kernel_rfl) (by kernel_rfl) (by kernel_rfl) (fun _ _ _ h => h) (Or.inl ⟨by rfl, ?yr11⟩) (fun _ => by assumption) ?rr11
   case yr11 => (intro w hSw; clear hSw; go_simp; (try with_reducible rfl))
   (try simp only [Act.put, List.setIfInBounds_toArray, List.set_cons_zero, List.set_cons_succ])
   refine Up.Till.takeY 15 (oi := ⟨some 70, .nilCheck (.tmp 69), 0, "ref.go:56", #[⟨14, .data⟩], none⟩) (v := ?vr12) rfl (by rfl) (by kernel_rfl) (by kernel_rfl) (by kernel_rfl) (fun _ _ _ h => h) (Or.inl ⟨by rfl, ?yr12⟩) (fun _ => by assumption) ?rr12
   case yr12 => (intro w hSw; clear hSw; go_simp; (try with_reducible rfl))
   (try simp only [Act.put, List.setIfInBounds_toArray, List.set_cons_zero, List.set_cons_succ])
   refine Up.Till.takeY 16 (oi := ⟨some 71, .fieldAddr 65 (.tmp 70) 0, 0, "ref.go:56", #[⟨15, .data⟩], none⟩) (v := ?vr13) rfl (by rfl) (by kernel_rfl) (by kernel_rfl) (by kernel_rfl) (fun _ _ _ h => h) (Or.inl ⟨by rfl, ?yr13⟩) (fun _ => by assumption) ?rr13
   case yr13 => (intro w hSw; clear hSw; go_simp; (try with_reducible rfl))
   (try simp only [Act.put, List.setIfInBounds_toArray, List.set_cons_zero, List.set_cons_succ])
   refine Up.Till.take 17 17 (oi := ⟨some 72, .load 62 (.tmp 71), 62, "ref.go:56", #[⟨16, .data⟩], none⟩) (v := ?vr14) rfl (by rfl) (by kernel_rfl) (by kernel_rfl) (by kernel_rfl) (fun _ _ _ h => h) (by kernel_rfl) (by kernel_rfl) (by kernel_rfl) (Or.inl ⟨by rfl, ?yr14⟩) (by assumption) ?rr14
   case yr14 => (intro w hSw; (try dsimp only at hSw); go_simp; (try with_reducible rfl))
   (try simp only [Act.put, List.setIfInBounds_toArray, List.set_cons_zero, List.set_cons_succ])
   refine Up.Till.takeY 18 (oi := ⟨some 73, .move (.tmp 6), 3, "ref.go:56", #[], none⟩) (v := ?vr15) rfl (by rfl) (by kernel_rfl) (by kernel_rfl) (by kernel_rfl) (fun _ _ _ h => h) (Or.inl ⟨by rfl, ?yr15⟩) (fun _ => by assumption) ?rr15
   case yr15 => (intro w hSw; clear hSw; go_simp; (try with_reducible rfl))
   (try simp only [Act.put, List.setIfInBounds_toArray, List.set_cons_zero, List.set_cons_succ])
   refine Up.Till.takeY 19 (oi := ⟨some 74, .slice 62 (.tmp 72) (some (.tmp 73)) none none, 62, "ref.go:56", #[⟨17, .data⟩, ⟨18, .data⟩], none⟩) (v := ?vr16) rfl (by rfl) (by kernel_rfl) (by kernel_rfl) (by kernel_rfl) (fun _ _ _ h => h) (Or.inl ⟨by rfl, ?yr16⟩) (fun _ => by assumption) ?rr16
   case yr16 => (intro w hSw; clear hSw; go_simp; (try with_reducible rfl))
   (try simp only [Act.put, List.setIfInBounds_toArray, List.set_cons_zero, List.set_cons_succ])
   refine Up.Till.ready (rs := [1, 12]) (by kernel_rfl) (by simp) ?_
   refine Up.TillAll.cons (o := ⟨some 56, .buildSlice 62 0 #[], 62, "ref.go:56", #[], none⟩) rfl (fun K hK => ?_) ?_
   ·go_simp
    have B_1 := Aside0.mk (below_alloc HBd.out (.cells #[] 94))
    have E_1 := Aside0.mk (lit_be HBd.out 94 2 0 #[] rfl (by decide))
    have LE := Aside0.mk (HBd.out.size)
    refine hK.out _ _ (fun _ => ?_) (fun hHr16 => ?_)
    ·(try dsimp only)
     exact HX.out _ B_1.out
    replace hHr16 := hHr16 (by rfl)
    clear hK K hH
    (try simp only [Act.put, List.setIfInBounds_toArray, List.set_cons_zero, List.set_cons_succ])
    refine Up.Till.ready (rs := [8, 12]) (by kernel_rfl) (by simp) ?_
    refine Up.TillAll.cons (o := ⟨some 63, .call { callee := Callee.builtin Builtin.append, args := #[.tmp 56, .tmp 62], argTypes := #[62, 62] }, 62, "ref.go:56", #[⟨1, .data⟩, ⟨7, .data⟩], none⟩) rfl (fun K hK => ?_) ?_
    ·refine step_append_rows (by rfl) (.tmp 56) (.tmp 62) 62 (by rfl) 94 (.agg #[.int .i64 0, .int .i64 0]) 2 16 Tryz.underlying62 infoE0 rfl _ 0 0 [] (by simp [Act.eval, Act.put]) E_1.out hA hs.length hc _ (by simp [Act.eval, Act.put]) (HF.out.below B_1.out) HO1.out (by have := HB.out; have := HKL.out; unfold maxLen; omega) (by have := HB.out; have := HKL.out; omega) ?_
     intro A_1_8 c_1_8 w_1_8 hR6 hG6 hk6
     have B_1_8 := Aside0.mk (hG6.to_below B_1.out B_1.out.size (blk_le (by have := LE.out; first | omega | (simp; done) | (simp; omega) | (simp at this ⊢; omega))))
     have R_1_8 := Aside0.mk hR6
     have K_1_8 := Aside0.mk (show ∀ k, blk A_1_8 k → w.heap.size ≤ k from fun k h => (hk6 k h).elim (blk_le (by have := LE.out; first | omega | (simp; done) | (simp; omega) | (simp at this ⊢; omega)) k) (fun h2 => Nat.le_trans B_1.out.size h2))
     clear hR6 hG6 hk6
     refine hK.out _ _ (fun _ => ?_) (fun hHr17 => ?_)
     ·(try dsimp only)
      exact HX.out _ B_1_8.out
     replace hHr17 := hHr17 (by rfl)
     clear hK K hHr16
     (try simp only [Act.put, List.setIfInBounds_toArray, List.set_cons_zero, List.set_cons_succ])
     refine Up.Till.ready (rs := [12]) (by kernel_rfl) (by simp) ?_
     refine Up.TillAll.cons (o := ⟨some 67, .buildSlice 62 1 #[(0, .tmp 66)], 62, "ref.go:56", #[⟨11, .data⟩], none⟩) rfl (fun K hK => ?_) Up.TillAll.nil
     go_simp
     have B_1_8_12 := Aside0.mk (below_alloc B_1_8.out (.cells #[.int .i64 who, .int .i64 m] 94))
     have N_1_8_12 := Aside0.mk (lit_be B_1_8.out 94 2 1 #[.int .i64 who, .int .i64 m] rfl (by decide))
     have R_1_8_12 := Aside0.mk (R_1_8.out.alloc (.cells #[.int .i64 who, .int .i64 m] 94))
     have K_1_8_12 := K_1_8
     refine hK.out _ _ (fun _ => ?_) (fun hHr18 => ?_)
     ·(try dsimp only)
      exact HX.out _ B_1_8_12.out
     replace hHr18 := hHr18 (by rfl)
     clear hK K hHr17
     (try simp only [Act.put, List.setIfInBounds_toArray, List.set_cons_zero, List.set_cons_succ])
     refine Up.Till.ready (rs := [13]) (by kernel_rfl) (by simp) ?_
     refine Up.TillAll.cons (o := ⟨some 68, .call { callee := Callee.builtin Builtin.append, args := #[.tmp 63, .tmp 67], argTypes := #[62, 62] }, 62, "ref.go:56", #[⟨8, .data⟩, ⟨12, .data⟩, ⟨8, .chain⟩], none⟩) rfl (fun K hK => ?_) Up.TillAll.nil
     refine step_append_rows (by rfl) (.tmp 63) (.tmp 67) 62 (by rfl) 94 (.agg #[.int .i64 0, .int .i64 0]) 2 16 Tryz.underlying62 infoE0 rfl _ _ _ _ (by simp [Act.eval, Act.put]) R_1_8_12.out _ 1 1 _ (by simp [Act.eval, Act.put]) N_1_8_12.out (by simp [Value.oneCell']) (by have := HB.out; have := HKL.out; unfold maxLen; omega) (by have := HB.out; have := HKL.out; omega) ?_
     intro A_1_8_12_13 c_1_8_12_13 w_1_8_12_13 hR6 hG6 hk6
     have B_1_8_12_13 := Aside0.mk (hG6.to_below B_1_8_12.out B_1_8_12.out.size K_1_8_12.out)
     have R_1_8_12_13 := Aside0.mk hR6
     have K_1_8_12_13 := Aside0.mk (show ∀ k, blk A_1_8_12_13 k → w.heap.size ≤ k from fun k h => (hk6 k h).elim (K_1_8_12.out k) (fun h2 => Nat.le_trans B_1_8_12.out.size h2))
     clear hR6 hG6 hk6
     refine hK.out _ _ (fun _ => ?_) (fun hHr19 => ?_)
     ·(try dsimp only)
      exact HX.out _ B_1_8_12_13.out
     replace hHr19 := hHr19 (by rfl)
     clear hK K hHr18
     (try simp only [Act.put, List.setIfInBounds_toArray, List.set_cons_zero, List.set_cons_succ])
     refine Up.Till.ready (rs := [20]) (by kernel_rfl) (by simp) ?_
     refine Up.TillAll.cons (o := ⟨some 75, .call { callee := Callee.builtin Builtin.append, args := #[.tmp 68, .tmp 74], argTypes := #[62, 62] }, 62, "ref.go:56", #[⟨13, .data⟩, ⟨19, .data⟩, ⟨13, .chain⟩], none⟩) rfl (fun K hK => ?_) Up.TillAll.nil
     refine step_append_rows (by rfl) (.tmp 68) (.tmp 74) 62 (by rfl) 94 (.agg #[.int .i64 0, .int .i64 0]) 2 16 Tryz.underlying62 infoE0 rfl _ _ _ _ (by simp [Act.eval, Act.put]) R_1_8_12_13.out (if hc = hs.length then hA else hA.map (·.add (hs.length * 2))) (hs.length - hs.length) (hc - hs.length) _ (by simp [Act.eval, Act.put]) (HBK.out.below B_1_8_12_13.out) HO2.out (by have := HB.out; have := HKL.out; unfold maxLen; omega) (by have := HB.out; have := HKL.out; omega) ?_
     intro A_1_8_12_13_20 c_1_8_12_13_20 w_1_8_12_13_20 hR6 hG6 hk6
     have B_1_8_12_13_20 := Aside0.mk (hG6.to_below B_1_8_12_13.out B_1_8_12_13.out.size K_1_8_12_13.out)
     have R_1_8_12_13_20 := Aside0.mk hR6
     have K_1_8_12_13_20 := Aside0.mk (show ∀ k, blk A_1_8_12_13_20 k → w.heap.size ≤ k from fun k h => (hk6 k h).elim (K_1_8_12_13.out k) (fun h2 => Nat.le_trans B_1_8_12_13.out.size h2))
     clear hR6 hG6 hk6
     refine hK.out _ _ (fun _ => ?_) (fun hHr20 => ?_)
     ·(try dsimp only)
      exact HX.out _ B_1_8_12_13_20.out
     replace hHr20 := hHr20 (by rfl)
     clear hK K hHr19
     (try simp only [Act.put, List.setIfInBounds_toArray, List.set_cons_zero, List.set_cons_succ])
     refine Up.Till.takeY 21 (oi := ⟨some 76, .nilCheck (.tmp 55), 0, "ref.go:56", #[⟨0, .data⟩, ⟨0, .phase⟩, ⟨1, .phase⟩, ⟨2, .phase⟩, ⟨3, .phase⟩, ⟨4, .phase⟩, ⟨5, .phase⟩, ⟨6, .phase⟩, ⟨7, .phase⟩, ⟨8, .phase⟩, ⟨9, .phase⟩, ⟨10, .phase⟩, ⟨11, .phase⟩, ⟨12, .phase⟩, ⟨13, .phase⟩, ⟨14, .phase⟩, ⟨15, .phase⟩, ⟨16, .phase⟩, ⟨17, .phase⟩, ⟨18, .phase⟩, ⟨19, .phase⟩, ⟨20, .phase⟩], none⟩) (v := ?vr22) rfl (by rfl) (by kernel_rfl) (by kernel_rfl) (by kernel_rfl) (fun _ _ _ h => h) (Or.inl ⟨by rfl, ?yr22⟩) (fun _ => by assumption) ?rr22
     case yr22 => (intro w hSw; clear hSw; go_simp; (try with_reducible rfl))
     (try simp only [Act.put, List.setIfInBounds_toArray, List.set_cons_zero, List.set_cons_succ])
     refine Up.Till.takeY 22 (oi := ⟨some 77, .fieldAddr 65 (.tmp 76) 0, 0, "ref.go:56", #[⟨21, .data⟩, ⟨0, .phase⟩, ⟨1, .phase⟩, ⟨2, .phase⟩, ⟨3, .phase⟩, ⟨4, .phase⟩, ⟨5, .phase⟩, ⟨6, .phase⟩, ⟨7, .phase⟩, ⟨8, .phase⟩, ⟨9, .phase⟩, ⟨10, .phase⟩, ⟨11, .phase⟩, ⟨12, .phase⟩, ⟨13, .phase⟩, ⟨14, .phase⟩, ⟨15, .phase⟩, ⟨16, .phase⟩, ⟨17, .phase⟩, ⟨18, .phase⟩, ⟨19, .phase⟩, ⟨20, .phase⟩], none⟩) (v := ?vr23) rfl (by rfl) (by kernel_rfl) (by kernel_rfl) (by kernel_rfl) (fun _ _ _ h => h) (Or.inl ⟨by rfl, ?yr23⟩) (fun _ => by assumption) ?rr23
     case yr23 => (intro w hSw; clear hSw; go_simp; (try with_reducible rfl))
     (try simp only [Act.put, List.setIfInBounds_toArray, List.set_cons_zero, List.set_cons_succ])
     refine Up.Till.ready (rs := [23]) (by kernel_rfl) (by simp) ?_
     refine Up.TillAll.cons (o := ⟨none, .store 62 (.tmp 77) (.tmp 75), 0, "ref.go:56", #[⟨22, .data⟩, ⟨20, .data⟩, ⟨20, .chain⟩, ⟨0, .phase⟩, ⟨1, .phase⟩, ⟨2, .phase⟩, ⟨3, .phase⟩, ⟨4, .phase⟩, ⟨5, .phase⟩, ⟨6, .phase⟩, ⟨7, .phase⟩, ⟨8, .phase⟩, ⟨9, .phase⟩, ⟨10, .phase⟩, ⟨11, .phase⟩, ⟨12, .phase⟩, ⟨13, .phase⟩, ⟨14, .phase⟩, ⟨15, .phase⟩, ⟨16, .phase⟩, ⟨17, .phase⟩, ⟨18, .phase⟩, ⟨19, .phase⟩, ⟨20, .phase⟩], none⟩) rfl (fun K hK => ?_) Up.TillAll.nil
     obtain ⟨z0, z1⟩ := HX.out _ B_1_8_12_13_20.out
     go_simp
     refine hK.out _ _ (fun h => absurd h (by decide)) (fun hzz => ?_)
     clear hK K hzz hHr20
     (try simp only [Act.put, List.setIfInBounds_toArray, List.set_cons_zero, List.set_cons_succ])
     refine Up.Till.done (by kernel_rfl) ?_ _
     go_end0
     have hE := HI.out.setH B_1_8_12_13_20.out R_1_8_12_13_20.out K_1_8_12_13_20.out HFL.out HNL.out
     rw [HL.out] at hE
     simp only [Nat.zero_add, Nat.sub_self, Nat.add_zero] at hE
     exact ⟨hs.length, HST.out, rfl, hE.1, hE.2⟩
    refine Up.TillAll.cons (o := ⟨some 67, .buildSlice 62 1 #[(0, .tmp 66)], 62, "ref.go:56", #[⟨11, .data⟩], none⟩) rfl (fun K hK => ?_) ?_
    ·go_simp
     have B_1_12 := Aside0.mk (below_alloc B_1.out (.cells #[.int .i64 who, .int .i64 m] 94))
     have N_1_12 := Aside0.mk (lit_be B_1.out 94 2 1 #[.int .i64 who, .int .i64 m] rfl (by decide))
     have E_1_12 := Aside0.mk (E_1.out.alloc (.cells #[.int .i64 who, .int .i64 m] 94))
     refine hK.out _ _ (fun _ => ?_) (fun hHr24 => ?_)
     ·(try dsimp only)
      exact HX.out _ B_1_12.out
     replace hHr24 := hHr24 (by rfl)
     clear hK K hHr16
     (try simp only [Act.put, List.setIfInBounds_toArray, List.set_cons_zero, List.set_cons_succ])
     refine Up.Till.ready (rs := [8]) (by kernel_rfl) (by simp) ?_
     refine Up.TillAll.cons (o := ⟨some 63, .call { callee := Callee.builtin Builtin.append, args := #[.tmp 56, .tmp 62], argTypes := #[62, 62] }, 62, "ref.go:56", #[⟨1, .data⟩, ⟨7, .data⟩], none⟩) rfl (fun K hK => ?_) Up.TillAll.nil
     refine step_append_rows (by rfl) (.tmp 56) (.tmp 62) 62 (by rfl) 94 (.agg #[.int .i64 0, .int .i64 0]) 2 16 Tryz.underlying62 infoE0 rfl _ 0 0 [] (by simp [Act.eval, Act.put]) E_1_12.out hA hs.length hc _ (by simp [Act.eval, Act.put]) (HF.out.below B_1_12.out) HO1.out (by have := HB.out; have := HKL.out; unfold maxLen; omega) (by have := HB.out; have := HKL.out; omega) ?_
     intro A_1_12_8 c_1_12_8 w_1_12_8 hR6 hG6 hk6
     have B_1_12_8 := Aside0.mk (hG6.to_below B_1_12.out B_1_12.out.size (blk_le (by have := LE.out; first | omega | (simp; done) | (simp; omega) | (simp at this ⊢; omega))))
     have R_1_12_8 := Aside0.mk hR6
     have K_1_12_8 := Aside0.mk (show ∀ k, blk A_1_12_8 k → w.heap.size ≤ k from fun k h => (hk6 k h).elim (blk_le (by have := LE.out; first | omega | (simp; done) | (simp; omega) | (simp at this ⊢; omega)) k) (fun h2 => Nat.le_trans B_1_12.out.size h2))
     have N_1_12_8 := Aside0.mk (N_1_12.out.grew hG6 (blk_ne (by first | omega | (simp; done) | (simp; omega))))
     clear hR6 hG6 hk6
     refine hK.out _ _ (fun _ => ?_) (fun hHr25 => ?_)
     ·(try dsimp only)
      exact HX.out _ B_1_12_8.out
     replace hHr25 := hHr25 (by rfl)
     clear hK K hHr24
     (try simp only [Act.put, List.setIfInBounds_toArray, List.set_cons_zero, List.set_cons_succ])
     refine Up.Till.ready (rs := [13]) (by kernel_rfl) (by simp) ?_
     refine Up.TillAll.cons (o := ⟨some 68, .call { callee := Callee.builtin Builtin.append, args := #[.tmp 63, .tmp 67], argTypes := #[62, 62] }, 62, "ref.go:56", #[⟨8, .data⟩, ⟨12, .data⟩, ⟨8, .chain⟩], none⟩) rfl (fun K hK => ?_) Up.TillAll.nil
     refine step_append_rows (by rfl) (.tmp 63) (.tmp 67) 62 (by rfl) 94 (.agg #[.int .i64 0, .int .i64 0]) 2 16 Tryz.underlying62 infoE0 rfl _ _ _ _ (by simp [Act.eval, Act.put]) R_1_12_8.out _ 1 1 _ (by simp [Act.eval, Act.put]) N_1_12_8.out (by simp [Value.oneCell']) (by have := HB.out; have := HKL.out; unfold maxLen; omega) (by have := HB.out; have := HKL.out; omega) ?_
     intro A_1_12_8_13 c_1_12_8_13 w_1_12_8_13 hR6 hG6 hk6
     have B_1_12_8_13 := Aside0.mk (hG6.to_below B_1_12_8.out B_1_12_8.out.size K_1_12_8.out)
     have R_1_12_8_13 := Aside0.mk hR6
     have K_1_12_8_13 := Aside0.mk (show ∀ k, blk A_1_12_8_13 k → w.heap.size ≤ k from fun k h => (hk6 k h).elim (K_1_12_8.out k) (fun h2 => Nat.le_trans B_1_12_8.out.size h2))
     clear hR6 hG6 hk6
     refine hK.out _ _ (fun _ => ?_) (fun hHr26 => ?_)
     ·(try dsimp only)
      exact HX.out _ B_1_12_8_13.out
     replace hHr26 := hHr26 (by rfl)
     clear hK K hHr25
     (try simp only [Act.put, List.setIfInBounds_toArray, List.set_cons_zero, List.set_cons_succ])
     refine Up.Till.ready (rs := [20]) (by kernel_rfl) (by simp) ?_
     refine Up.TillAll.cons (o := ⟨some 75, .call { callee := Callee.builtin Builtin.append, args := #[.tmp 68, .tmp 74], argTypes := #[62, 62] }, 62, "ref.go:56", #[⟨13, .data⟩, ⟨19, .data⟩, ⟨13, .chain⟩], none⟩) rfl (fun K hK => ?_) Up.TillAll.nil
     refine step_append_rows (by rfl) (.tmp 68) (.tmp 74) 62 (by rfl) 94 (.agg #[.int .i64 0, .int .i64 0]) 2 16 Tryz.underlying62 infoE0 rfl _ _ _ _ (by simp [Act.eval, Act.put]) R_1_12_8_13.out (if hc = hs.length then hA else hA.map (·.add (hs.length * 2))) (hs.length - hs.length) (hc - hs.length) _ (by simp [Act.eval, Act.put]) (HBK.out.below B_1_12_8_13.out) HO2.out (by have := HB.out; have := HKL.out; unfold maxLen; omega) (by have := HB.out; have := HKL.out; omega) ?_
     intro A_1_12_8_13_20 c_1_12_8_13_20 w_1_12_8_13_20 hR6 hG6 hk6
     have B_1_12_8_13_20 := Aside0.mk (hG6.to_below B_1_12_8_13.out B_1_12_8_13.out.size K_1_12_8_13.out)
     have R_1_12_8_13_20 := Aside0.mk hR6
     have K_1_12_8_13_20 := Aside0.mk (show ∀ k, blk A_1_12_8_13_20 k → w.heap.size ≤ k from fun k h => (hk6 k h).elim (K_1_12_8_13.out k) (fun h2 => Nat.le_trans B_1_12_8_13.out.size h2))
     clear hR6 hG6 hk6
     refine hK.out _ _ (fun _ => ?_) (fun hHr27 => ?_)
     ·(try dsimp only)
      exact HX.out _ B_1_12_8_13_20.out
     replace hHr27 := hHr27 (by rfl)
     clear hK K hHr26
     (try simp only [Act.put, List.setIfInBounds_toArray, List.set_cons_zero, List.set_cons_succ])
     refine Up.Till.takeY 21 (oi := ⟨some 76, .nilCheck (.tmp 55), 0, "ref.go:56", #[⟨0, .data⟩, ⟨0, .phase⟩, ⟨1, .phase⟩, ⟨2, .phase⟩, ⟨3, .phase⟩, ⟨4, .phase⟩, ⟨5, .phase⟩, ⟨6, .phase⟩, ⟨7, .phase⟩, ⟨8, .phase⟩, ⟨9, .phase⟩, ⟨10, .phase⟩, ⟨11, .phase⟩, ⟨12, .phase⟩, ⟨13, .phase⟩, ⟨14, .phase⟩, ⟨15, .phase⟩, ⟨16, .phase⟩, ⟨17, .phase⟩, ⟨18, .phase⟩, ⟨19, .phase⟩, ⟨20, .phase⟩], none⟩) (v := ?vr29) rfl (by rfl) (by kernel_rfl) (by kernel_rfl) (by kernel_rfl) (fun _ _ _ h => h) (Or.inl ⟨by rfl, ?yr29⟩) (fun _ => by assumption) ?rr29
     case yr29 => (intro w hSw; clear hSw; go_simp; (try with_reducible rfl))
     (try simp only [Act.put, List.setIfInBounds_toArray, List.set_cons_zero, List.set_cons_succ])
     refine Up.Till.takeY 22 (oi := ⟨some 77, .fieldAddr 65 (.tmp 76) 0, 0, "ref.go:56", #[⟨21, .data⟩, ⟨0, .phase⟩, ⟨1, .phase⟩, ⟨2, .phase⟩, ⟨3, .phase⟩, ⟨4, .phase⟩, ⟨5, .phase⟩, ⟨6, .phase⟩, ⟨7, .phase⟩, ⟨8, .phase⟩, ⟨9, .phase⟩, ⟨10, .phase⟩, ⟨11, .phase⟩, ⟨12, .phase⟩, ⟨13, .phase⟩, ⟨14, .phase⟩, ⟨15, .phase⟩, ⟨16, .phase⟩, ⟨17, .phase⟩, ⟨18, .phase⟩, ⟨19, .phase⟩, ⟨20, .phase⟩], none⟩) (v := ?vr30) rfl (by rfl) (by kernel_rfl) (by kernel_rfl) (by kernel_rfl) (fun _ _ _ h => h) (Or.inl ⟨by rfl, ?yr30⟩) (fun _ => by assumption) ?rr30
     case yr30 => (intro w hSw; clear hSw; go_simp; (try with_reducible rfl))
     (try simp only [Act.put, List.setIfInBounds_toArray, List.set_cons_zero, List.set_cons_succ])
     refine Up.Till.ready (rs := [23]) (by kernel_rfl) (by simp) ?_
     refine Up.TillAll.cons (o := ⟨none, .store 62 (.tmp 77) (.tmp 75), 0, "ref.go:56", #[⟨22, .data⟩, ⟨20, .data⟩, ⟨20, .chain⟩, ⟨0, .phase⟩, ⟨1, .phase⟩, ⟨2, .phase⟩, ⟨3, .phase⟩, ⟨4, .phase⟩, ⟨5, .phase⟩, ⟨6, .phase⟩, ⟨7, .phase⟩, ⟨8, .phase⟩, ⟨9, .phase⟩, ⟨10, .phase⟩, ⟨11, .phase⟩, ⟨12, .phase⟩, ⟨13, .phase⟩, ⟨14, .phase⟩, ⟨15, .phase⟩, ⟨16, .phase⟩, ⟨17, .phase⟩, ⟨18, .phase⟩, ⟨19, .phase⟩, ⟨20, .phase⟩], none⟩) rfl (fun K hK => ?_) Up.TillAll.nil
     obtain ⟨z0, z1⟩ := HX.out _ B_1_12_8_13_20.out
     go_simp
     refine hK.out _ _ (fun h => absurd h (by decide)) (fun hzz => ?_)
     clear hK K hzz hHr27
     (try simp only [Act.put, List.setIfInBounds_toArray, List.set_cons_zero, List.set_cons_succ])
     refine Up.Till.done (by kernel_rfl) ?_ _
     go_end0
     have hE := HI.out.setH B_1_12_8_13_20.out R_1_12_8_13_20.out K_1_12_8_13_20.out HFL.out HNL.out
     rw [HL.out] at hE
     simp only [Nat.zero_add, Nat.sub_self, Nat.add_zero] at hE
     exact ⟨hs.length, HST.out, rfl, hE.1, hE.2⟩
    exact Up.TillAll.nil
   refine Up.TillAll.cons (o := ⟨some 67, .buildSlice 62 1 #[(0, .tmp 66)], 62, "ref.go:56", #[⟨11, .data⟩], none⟩) rfl (fun K hK => ?_) ?_
   ·go_simp
    have B_12 := Aside0.mk (below_alloc HBd.out (.cells #[.int .i64 who, .int .i64 m] 94))
    have N_12 := Aside0.mk (lit_be HBd.out 94 2 1 #[.int .i64 who, .int .i64 m] rfl (by decide))
    refine hK.out _ _ (fun _ => ?_) (fun hHr31 => ?_)
    ·(try dsimp only)
     exact HX.out _ B_12.out
    replace hHr31 := hHr31 (by rfl)
    clear hK K hH
    (try simp only [Act.put, List.setIfInBounds_toArray, List.set_cons_zero, List.set_cons_succ])
    refine Up.Till.ready (rs := [1]) (by kernel_rfl) (by simp) ?_
    refine Up.TillAll.cons (o := ⟨some 56, .buildSlice 62 0 #[], 62, "ref.go:56", #[], none⟩) rfl (fun K hK => ?_) Up.TillAll.nil
    go_simp
    have B_12_1 := Aside0.mk (below_alloc B_12.out (.cells #[] 94))
    have E_12_1 := Aside0.mk (lit_be B_12.out 94 2 0 #[] rfl (by decide))
    have LE := Aside0.mk (B_12.out.size)
    have N_12_1 := Aside0.mk (N_12.out.alloc (.cells #[] 94))
    refine hK.out _ _ (fun _ => ?_) (fun hHr32 => ?_)
    ·(try dsimp only)
     exact HX.out _ B_12_1.out
    replace hHr32 := hHr32 (by rfl)
    clear hK K hHr31
    (try simp only [Act.put, List.setIfInBounds_toArray, List.set_cons_zero, List.set_cons_succ])
    refine Up.Till.ready (rs := [8]) (by kernel_rfl) (by simp) ?_
    refine Up.TillAll.cons (o := ⟨some 63, .call { callee := Callee.builtin Builtin.append, args := #[.tmp 56, .tmp 62], argTypes := #[62, 62] }, 62, "ref.go:56", #[⟨1, .data⟩, ⟨7, .data⟩], none⟩) rfl (fun K hK => ?_) Up.TillAll.nil
    refine step_append_rows (by rfl) (.tmp 56) (.tmp 62) 62 (by rfl) 94 (.agg #[.int .i64 0, .int .i64 0]) 2 16 Tryz.underlying62 infoE0 rfl _ 0 0 [] (by simp [Act.eval, Act.put]) E_12_1.out hA hs.length hc _ (by simp [Act.eval, Act.put]) (HF.out.below B_12_1.out) HO1.out (by have := HB.out; have := HKL.out; unfold maxLen; omega) (by have := HB.out; have := HKL.out; omega) ?_
    intro A_12_1_8 c_12_1_8 w_12_1_8 hR6 hG6 hk6
    have B_12_1_8 := Aside0.mk (hG6.to_below B_12_1.out B_12_1.out.size (blk_le (by have := LE.out; first | omega | (simp; done) | (simp; omega) | (simp at this ⊢; omega))))
    have R_12_1_8 := Aside0.mk hR6
    have K_12_1_8 := Aside0.mk (show ∀ k, blk A_12_1_8 k → w.heap.size ≤ k from fun k h => (hk6 k h).elim (blk_le (by have := LE.out; first | omega | (simp; done) | (simp; omega) | (simp at this ⊢; omega)) k) (fun h2 => Nat.le_trans B_12_1.out.size h2))
    have N_12_1_8 := Aside0.mk (N_12_1.out.grew hG6 (blk_ne (by first | omega | (simp; done) | (simp; omega))))
    clear hR6 hG6 hk6
    refine hK.out _ _ (fun _ => ?_) (fun hHr33 => ?_)
    ·(try dsimp only)
     exact HX.out _ B_12_1_8.out
    replace hHr33 := hHr33 (by rfl)
    clear hK K hHr32
    (try simp only [Act.put, List.setIfInBounds_toArray, List.set_cons_zero, List.set_cons_succ])
    refine Up.Till.ready (rs := [13]) (by kernel_rfl) (by simp) ?_
    refine Up.TillAll.cons (o := ⟨some 68, .call { callee := Callee.builtin Builtin.append, args := #[.tmp 63, .tmp 67], argTypes := #[62, 62] }, 62, "ref.go:56", #[⟨8, .data⟩, ⟨12, .data⟩, ⟨8, .chain⟩], none⟩) rfl (fun K hK => ?_) Up.TillAll.nil
    refine step_append_rows (by rfl) (.tmp 63) (.tmp 67) 62 (by rfl) 94 (.agg #[.int .i64 0, .int .i64 0]) 2 16 Tryz.underlying62 infoE0 rfl _ _ _ _ (by simp [Act.eval, Act.put]) R_12_1_8.out _ 1 1 _ (by simp [Act.eval, Act.put]) N_12_1_8.out (by simp [Value.oneCell']) (by have := HB.out; have := HKL.out; unfold maxLen; omega) (by have := HB.out; have := HKL.out; omega) ?_
    intro A_12_1_8_13 c_12_1_8_13 w_12_1_8_13 hR6 hG6 hk6
    have B_12_1_8_13 := Aside0.mk (hG6.to_below B_12_1_8.out B_12_1_8.out.size K_12_1_8.out)
    have R_12_1_8_13 := Aside0.mk hR6
    have K_12_1_8_13 := Aside0.mk (show ∀ k, blk A_12_1_8_13 k → w.heap.size ≤ k from fun k h => (hk6 k h).elim (K_12_1_8.out k) (fun h2 => Nat.le_trans B_12_1_8.out.size h2))
    clear hR6 hG6 hk6
    refine hK.out _ _ (fun _ => ?_) (fun hHr34 => ?_)
    ·(try dsimp only)
     exact HX.out _ B_12_1_8_13.out
    replace hHr34 := hHr34 (by rfl)
    clear hK K hHr33
    (try simp only [Act.put, List.setIfInBounds_toArray, List.set_cons_zero, List.set_cons_succ])
    refine Up.Till.ready (rs := [20]) (by kernel_rfl) (by simp) ?_
    refine Up.TillAll.cons (o := ⟨some 75, .call { callee := Callee.builtin Builtin.append, args := #[.tmp 68, .tmp 74], argTypes := #[62, 62] }, 62, "ref.go:56", #[⟨13, .data⟩, ⟨19, .data⟩, ⟨13, .chain⟩], none⟩) rfl (fun K hK => ?_) Up.TillAll.nil
    refine step_append_rows (by rfl) (.tmp 68) (.tmp 74) 62 (by rfl) 94 (.agg #[.int .i64 0, .int .i64 0]) 2 16 Tryz.underlying62 infoE0 rfl _ _ _ _ (by simp [Act.eval, Act.put]) R_12_1_8_13.out (if hc = hs.length then hA else hA.map (·.add (hs.length * 2))) (hs.length - hs.length) (hc - hs.length) _ (by simp [Act.eval, Act.put]) (HBK.out.below B_12_1_8_13.out) HO2.out (by have := HB.out; have := HKL.out; unfold maxLen; omega) (by have := HB.out; have := HKL.out; omega) ?_
    intro A_12_1_8_13_20 c_12_1_8_13_20 w_12_1_8_13_20 hR6 hG6 hk6
    have B_12_1_8_13_20 := Aside0.mk (hG6.to_below B_12_1_8_13.out B_12_1_8_13.out.size K_12_1_8_13.out)
    have R_12_1_8_13_20 := Aside0.mk hR6
    have K_12_1_8_13_20 := Aside0.mk (show ∀ k, blk A_12_1_8_13_20 k → w.heap.size ≤ k from fun k h => (hk6 k h).elim (K_12_1_8_13.out k) (fun h2 => Nat.le_trans B_12_1_8_13.out.size h2))
    clear hR6 hG6 hk6
    refine hK.out _ _ (fun _ => ?_) (fun hHr35 => ?_)
    ·(try dsimp only)
     exact HX.out _ B_12_1_8_13_20.out
    replace hHr35 := hHr35 (by rfl)
    clear hK K hHr34
    (try simp only [Act.put, List.setIfInBounds_toArray, List.set_cons_zero, List.set_cons_succ])
    refine Up.Till.takeY 21 (oi := ⟨some 76, .nilCheck (.tmp 55), 0, "ref.go:56", #[⟨0, .data⟩, ⟨0, .phase⟩, ⟨1, .phase⟩, ⟨2, .phase⟩, ⟨3, .phase⟩, ⟨4, .phase⟩, ⟨5, .phase⟩, ⟨6, .phase⟩, ⟨7, .phase⟩, ⟨8, .phase⟩, ⟨9, .phase⟩, ⟨10, .phase⟩, ⟨11, .phase⟩, ⟨12, .phase⟩, ⟨13, .phase⟩, ⟨14, .phase⟩, ⟨15, .phase⟩, ⟨16, .phase⟩, ⟨17, .phase⟩, ⟨18, .phase⟩, ⟨19, .phase⟩, ⟨20, .phase⟩], none⟩) (v := ?vr37) rfl (by rfl) (by kernel_rfl) (by kernel_rfl) (by kernel_rfl) (fun _ _ _ h => h) (Or.inl ⟨by rfl, ?yr37⟩) (fun _ => by assumption) ?rr37
    case yr37 => (intro w hSw; clear hSw; go_simp; (try with_reducible rfl))
    (try simp only [Act.put, List.setIfInBounds_toArray, List.set_cons_zero, List.set_cons_succ])
    refine Up.Till.takeY 22 (oi := ⟨some 77, .fieldAddr 65 (.tmp 76) 0, 0, "ref.go:56", #[⟨21, .data⟩, ⟨0, .phase⟩, ⟨1, .phase⟩, ⟨2, .phase⟩, ⟨3, .phase⟩, ⟨4, .phase⟩, ⟨5, .phase⟩, ⟨6, .phase⟩, ⟨7, .phase⟩, ⟨8, .phase⟩, ⟨9, .phase⟩, ⟨10, .phase⟩, ⟨11, .phase⟩, ⟨12, .phase⟩, ⟨13, .phase⟩, ⟨14, .phase⟩, ⟨15, .phase⟩, ⟨16, .phase⟩, ⟨17, .phase⟩, ⟨18, .phase⟩, ⟨19, .phase⟩, ⟨20, .phase⟩], none⟩) (v := ?vr38) rfl (by rfl) (by kernel_rfl) (by kernel_rfl) (by kernel_rfl) (fun _ _ _ h => h) (Or.inl ⟨by rfl, ?yr38⟩) (fun _ => by assumption) ?rr38
    case yr38 => (intro w hSw; clear hSw; go_simp; (try with_reducible rfl))
    (try simp only [Act.put, List.setIfInBounds_toArray, List.set_cons_zero, List.set_cons_succ])
    refine Up.Till.ready (rs := [23]) (by kernel_rfl) (by simp) ?_
    refine Up.TillAll.cons (o := ⟨none, .store 62 (.tmp 77) (.tmp 75), 0, "ref.go:56", #[⟨22, .data⟩, ⟨20, .data⟩, ⟨20, .chain⟩, ⟨0, .phase⟩, ⟨1, .phase⟩, ⟨2, .phase⟩, ⟨3, .phase⟩, ⟨4, .phase⟩, ⟨5, .phase⟩, ⟨6, .phase⟩, ⟨7, .phase⟩, ⟨8, .phase⟩, ⟨9, .phase⟩, ⟨10, .phase⟩, ⟨11, .phase⟩, ⟨12, .phase⟩, ⟨13, .phase⟩, ⟨14, .phase⟩, ⟨15, .phase⟩, ⟨16, .phase⟩, ⟨17, .phase⟩, ⟨18, .phase⟩, ⟨19, .phase⟩, ⟨20, .phase⟩], none⟩) rfl (fun K hK => ?_) Up.TillAll.nil
    obtain ⟨z0, z1⟩ := HX.out _ B_12_1_8_13_20.out
    go_simp
    refine hK.out _ _ (fun h => absurd h (by decide)) (fun hzz => ?_)
    clear hK K hzz hHr35
    (try simp only [Act.put, List.setIfInBounds_toArray, List.set_cons_zero, List.set_cons_succ])
    refine Up.Till.done (by kernel_rfl) ?_ _
    go_end0
    have hE := HI.out.setH B_12_1_8_13_20.out R_12_1_8_13_20.out K_12_1_8_13_20.out HFL.out HNL.out
    rw [HL.out] at hE
    simp only [Nat.zero_add, Nat.sub_self, Nat.add_zero] at hE
    exact ⟨hs.length, HST.out, rfl, hE.1, hE.2⟩
   exact Up.TillAll.nil
end Go.Proofs.YtkceadieigpolaaGreat.Ln
namespace Go.Proofs.YtkceadieigpolaaGreat.Ln
open Go.RowKit Go.Proofs.YtkceadieigpolaaGreatW.PrintWords Go.Proofs.YtkceadieigpolaaGreatW.PrintLast Go.Proofs.YtkceadieigpolaaGreatW.PrintMore Go.Proofs.YtkceadieigpolaaGreat.PMd
set_option linter.unusedVariables false
set_option linter.unusedSimpArgs false
theorem put_hit {hs : List E} {who m : Int} (ha : Asc hs) {k : Nat} (hk : k < hs.length) (h : (hs.getD k zE).f0 = who) : grantsIn hs who m = hs.set k ⟨(hs.getD k zE).f0, m⟩ := by
 have hget : ∀ i, (hi : i < hs.length) → hs.getD i zE = hs[i] := fun i hi => by rw [List.getD_eq_getElem?_getD, List.getElem?_eq_getElem hi]; rfl
 have hix : ix (fun x => x.f0 == who) hs = (k : Int) := ix_hit hk (by rw [h]; simp) (fun i hi => by
  have hlt := List.pairwise_iff_getElem.1 ha i k (by omega) hk hi
  rw [hget i (by omega)]
  rw [hget k hk] at h
  exact beq_eq_false_iff_ne.2 (by omega))
 unfold grantsIn
 rw [hix, if_pos (by omega), Int.toNat_natCast]
theorem put_miss {hs : List E} {who m : Int} (ha : Asc hs) {k : Nat} (hk : k ≤ hs.length) (h1 : ∀ i, i < k → (hs.getD i zE).f0 < who) (h2 : k < hs.length → who < (hs.getD k zE).f0) : grantsIn hs who m = hs.take k ++ ⟨who, m⟩ :: hs.drop k := by
 have hget : ∀ i, (hi : i < hs.length) → hs.getD i zE = hs[i] := fun i hi => by rw [List.getD_eq_getElem?_getD, List.getElem?_eq_getElem hi]; rfl
 have hgt : ∀ i, k ≤ i → (hi : i < hs.length) → who < hs[i].f0 := fun i hki hi => by
  have h3 := h2 (by omega)
  rw [hget k (by omega)] at h3
  by_cases e : k = i
  ·subst e; exact h3
  ·have := List.pairwise_iff_getElem.1 ha k i (by omega) hi (by omega)
   omega
 have hix : ix (fun x => x.f0 == who) hs = -1 := ix_miss (fun i hi => by
  rw [hget i hi]
  apply beq_eq_false_iff_ne.2
  by_cases hki : i < k
  ·have := h1 i hki; rw [hget i hi] at this; omega
  ·have := hgt i (by omega) hi; omega)
 unfold grantsIn
 rw [hix, if_neg (by omega)]
 unfold insE
 have e : hs = hs.take k ++ hs.drop k := (List.take_append_drop k hs).symm
 have ht : ∀ y ∈ hs.take k, decide (y.f0 < who) = true := fun y hy => by
  obtain ⟨i, hi, rfl⟩ := List.mem_iff_getElem.1 hy
  rw [List.length_take] at hi
  rw [List.getElem_take]
  have := h1 i (by omega)
  rw [hget i (by omega)] at this
  exact decide_eq_true this
 have hd : ∀ y ∈ hs.drop k, decide (y.f0 < who) = false := fun y hy => by
  obtain ⟨i, hi, rfl⟩ := List.mem_iff_getElem.1 hy
  rw [List.length_drop] at hi
  rw [List.getElem_drop]
  exact decide_eq_false (by have := hgt (k + i) (by omega) (by omega); omega)
 have hdw : ∀ l : List E, (∀ y ∈ l, decide (y.f0 < who) = false) → l.takeWhile (fun y => decide (y.f0 < who)) = [] ∧ l.dropWhile (fun y => decide (y.f0 < who)) = l := fun l hl => by
  cases l with
  | nil => exact ⟨rfl, rfl⟩
  | cons y l =>
   have := hl y (by simp)
   exact ⟨by rw [List.takeWhile_cons_of_neg (by rw [this]; decide)], by rw [List.dropWhile_cons_of_neg (by rw [this]; decide)]⟩
 have htw : (hs.take k ++ hs.drop k).takeWhile (fun y => decide (y.f0 < who)) = hs.take k ++ (hs.drop k).takeWhile (fun y => decide (y.f0 < who)) := List.takeWhile_append_of_pos ht
 have htd : (hs.take k ++ hs.drop k).dropWhile (fun y => decide (y.f0 < who)) = (hs.drop k).dropWhile (fun y => decide (y.f0 < who)) := List.dropWhile_append_of_pos ht
 rw [List.take_append_drop] at htw htd
 rw [htw, htd, (hdw _ hd).1, (hdw _ hd).2, List.append_nil]
theorem count_front {α : Type} {P : α → Bool} : ∀ {l : List α}, l.Pairwise (fun a b => P b = true → P a = true) → l.countP P = (l.takeWhile P).length
 | [], _ => rfl
 | a :: l, h => by
  have h1 := List.pairwise_cons.1 h
  by_cases ha : P a = true
  ·rw [List.countP_cons_of_pos ha, List.takeWhile_cons_of_pos ha, List.length_cons, count_front h1.2]
  ·rw [List.countP_cons_of_neg ha, List.takeWhile_cons_of_neg ha]
   show _ = 0
   rw [List.countP_eq_zero]
   intro b hb hPb
   exact ha (h1.1 b hb hPb)
end Go.Proofs.YtkceadieigpolaaGreat.Ln
namespace Go.Proofs.YtkceadieigpolaaGreat.Ln
open Go.RowKit Go.Proofs.YtkceadieigpolaaGreatW.PrintWords Go.Proofs.YtkceadieigpolaaGreatW.PrintWords.Kd Go.Proofs.YtkceadieigpolaaGreatW.PrintLast Go.Proofs.YtkceadieigpolaaGreatW.PrintMore Go.Proofs.YtkceadieigpolaaGreat.PMd
set_option linter.unusedVariables false
set_option linter.unusedSimpArgs false
theorem stop_ex (hs : List E) (who : Int) : ∃ k, stopAt hs who k := by
 induction hs with
 | nil => exact ⟨0, Nat.le_refl _, fun i hi => by omega, fun h => by simp at h⟩
 | cons x l ih =>
  by_cases h : x.f0 < who
  ·obtain ⟨k, h1, h2, h3⟩ := ih
   refine ⟨k + 1, by simpa using h1, fun i hi => ?_, fun hk => by simpa using h3 (by simpa using hk)⟩
   cases i with
   | zero => simpa using h
   | succ i => simpa using h2 i (by omega)
  ·exact ⟨0, Nat.zero_le _, fun i hi => by omega, fun _ => by simpa using h⟩
theorem put_R (w : World) (b : Nat) (F : Nat → Prop) (hs qs : List E) (who m : Int) (hI : IsLR w b F hs qs) (ha : Asc hs) (hbig : hs.length < 1000000000000) :
  Calls Tryz.prog 78 #[.pointer (some ⟨b, 0, none⟩), .int .i64 who, .int .i64 m] w fun e w' => e = .returned (.tuple #[]) ∧ IsLR w' b (fun j => F j ∨ w.heap.size ≤ j) (grantsIn hs who m) qs ∧ Grew F w w' := by
 obtain ⟨k, hk⟩ := stop_ex hs who
 have fin : ∀ e w', PutPost b F hs qs who m w e w' → e = .returned (.tuple #[]) ∧ IsLR w' b (fun j => F j ∨ w.heap.size ≤ j) (grantsIn hs who m) qs ∧ Grew F w w' := by
  rintro e w' ⟨j, hj, he, h1, h2⟩
  refine ⟨he, ?_, h2⟩
  by_cases hc : j < hs.length ∧ (hs.getD j zE).f0 = who
  ·rw [if_pos hc] at h1
   rw [put_hit ha hc.1 hc.2]
   exact h1
  ·rw [if_neg hc] at h1
   rw [put_miss ha hj.1 hj.2.1 (fun h => by have := hj.2.2 h; have h3 : (hs.getD j zE).f0 ≠ who := fun e => hc ⟨h, e⟩; omega)]
   exact h1
 by_cases hc : k < hs.length ∧ (hs.getD k zE).f0 = who
 ·exact (putStore_R w b F hs qs who m k hI hk hc.1 hc.2).mono fin
 ·exact (putMiss_R w b F hs qs who m k hI hk hc hbig).mono fin
theorem supR_f : ∀ a b : Fin 6, ltkref1_Sup.f 20 [(a.val : Int), (b.val : Int)] = some (supM (a.val : Int) (b.val : Int)) := by decide +kernel
theorem supR_is {a b : Int} (ha : md a) (hb : md b) : ltkref1_Sup.f 20 [a, b] = some (supM a b) := by
 obtain ⟨x, rfl⟩ := fin6 ha; obtain ⟨y, rfl⟩ := fin6 hb; exact supR_f x y
theorem modeR_f (m : Int) : ltkref1_Mode.f m = some (knownM m) := known_f m
theorem told_waits {hs qs : List E} (h : InvS hs qs) (who : Int) : decide (ix (fun x => x.f0 == who) qs ≥ 0) = (toldIn qs who != 0) := by
 rw [ix_any]
 rcases told_cases qs who with ⟨h1, h2⟩ | ⟨x, hx, h2, h1⟩
 ·rw [h1, List.any_eq_false.2 (fun y hy => by simpa using h2 y hy)]; rfl
 ·rw [h1, List.any_eq_true.2 ⟨x, hx, by simpa using h2⟩]
  have := (h.mq x hx).2
  simpa using this
theorem sup_nz' {a b : Int} (ha : md a) (hb : md b) (h : b ≠ 0) : supM a b ≠ 0 := by
 obtain ⟨x, rfl⟩ := fin6 ha; obtain ⟨y, rfl⟩ := fin6 hb; exact (sup_md_f x y).2 (by omega)
end Go.Proofs.YtkceadieigpolaaGreat.Ln
