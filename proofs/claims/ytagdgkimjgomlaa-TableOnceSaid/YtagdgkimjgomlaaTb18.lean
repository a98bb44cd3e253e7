/- TableOnce: its walk. -/
import Derived.Test.YtagdgkimjgomlaaTb17
import Derived.Deep.DeepCutAuto
namespace Go.Proofs.Ytagdgkimjgomlaa.Ln
open Go.RowKit Go.Proofs.YtagdgkimjgomlaaW.PrintWords Go.Proofs.YtagdgkimjgomlaaW.PrintLast Go.Proofs.YtagdgkimjgomlaaW.PrintMore Go.Proofs.Ytagdgkimjgomlaa.PMd
open Go.Maps
open Go.Sort (grow)
set_option linter.unusedVariables false
set_option linter.unusedSimpArgs false
theorem getD_mem18 {l : List Op4} {i : Nat} (h : i < l.length) : l.getD i zOp4 ∈ l := by
  rw [List.getD_eq_getElem?_getD, List.getElem?_eq_getElem h]; exact List.getElem_mem h
set_option maxHeartbeats 8000000 in
set_option maxRecDepth 100000 in
theorem once_bad (nodes most : Int) (A : Option Addr) (c : Nat) (l : List Op4) (w : World) (h : 300 < l.length ∨ nodes > 60 ∨ nodes < 1) :
    Calls Try.prog 18 #[.int .i64 nodes, .int .i64 most, .slice A l.length c] w fun e w' => e = .returned (.bool true) ∧ Below w.heap.size w w' := by
  have key : ∀ a b c1 : Bool, decide (l.length > 300) = a → decide (nodes > 60) = b → decide (nodes < 1) = c1 → (a || b || c1) = true →
      Calls Try.prog 18 #[.int .i64 nodes, .int .i64 most, .slice A l.length c] w fun e w' => e = .returned (.bool true) ∧ Below w.heap.size w w' := by
    intro a b c1 ha hb hc h
    have ha' : decide ((l.length : Int) > 300) = a := by rw [← ha]; exact decide_eq_decide.2 (by omega)
    cases a with
    | true =>
      go_enter Try.func18, Try.ntmps18
      go_wp2_with fail
      refine (firstT_ w).mono ?_
      rintro e w1 ⟨rfl, hb⟩
      have HB1 := Aside0.mk hb
      clear hb
      go_wp2_with fail
      refine (firstT_ w1).mono ?_
      rintro e w2 ⟨rfl, hb⟩
      have HB2 := Aside0.mk (below_then HB1.out HB1.out.size hb)
      clear hb
      go_wp2
      go_ret
      exact ⟨rfl, HB2.out⟩
    | false =>
    cases b with
    | true =>
      go_enter Try.func18, Try.ntmps18
      go_wp2_with fail
      refine (firstT_ w).mono ?_
      rintro e w1 ⟨rfl, hb⟩
      have HB1 := Aside0.mk hb
      clear hb
      go_wp2_with fail
      refine (firstT_ w1).mono ?_
      rintro e w2 ⟨rfl, hb⟩
      have HB2 := Aside0.mk (below_then HB1.out HB1.out.size hb)
      clear hb
      go_wp2
      go_ret
      exact ⟨rfl, HB2.out⟩
    | false =>
    cases c1 with
    | true =>
      go_enter Try.func18, Try.ntmps18
      go_wp2_with fail
      refine (firstT_ w).mono ?_
      rintro e w1 ⟨rfl, hb⟩
      have HB1 := Aside0.mk hb
      clear hb
      go_wp2_with fail
      refine (firstT_ w1).mono ?_
      rintro e w2 ⟨rfl, hb⟩
      have HB2 := Aside0.mk (below_then HB1.out HB1.out.size hb)
      clear hb
      go_wp2
      go_ret
      exact ⟨rfl, HB2.out⟩
    | false => cases h
  refine key _ _ _ rfl rfl rfl ?_
  simp only [Bool.or_eq_true, decide_eq_true_eq]
  omega
set_option maxHeartbeats 8000000 in
set_option maxRecDepth 100000 in
theorem once_most (n : Nat) (most : Int) (A : Option Addr) (c : Nat) (l : List Op4) (w : World) (n1 : 1 ≤ n) (n2 : n ≤ 60) (h1 : l.length ≤ 300) (hm : most < 1 ∨ most > 4096) :
    Calls Try.prog 18 #[.int .i64 (n : Int), .int .i64 most, .slice A l.length c] w fun e w' => e = .returned (.bool true) ∧ Below w.heap.size w w' := by
  have b1 : decide ((n : Int) < 1) = false := decide_eq_false (by omega)
  have b2 : decide ((n : Int) > 60) = false := decide_eq_false (by omega)
  have b3 : decide ((l.length : Int) > 300) = false := decide_eq_false (by omega)
  have b4 : decide (l.length > 300) = false := decide_eq_false (by omega)
  have HNew := Aside0.mk (fun W => NewT_bad (n : Int) most W (by unfold newBad; simp; omega))
  clear n1 n2 h1 hm
  go_enter Try.func18, Try.ntmps18
  go_wp2_with fail
  refine (firstT_ w).mono ?_
  rintro e w1 ⟨rfl, hb1⟩
  have HB1 := Aside0.mk hb1
  clear hb1
  go_wp2_with fail
  refine (HNew.out w1).mono ?_
  rintro e w2 ⟨rfl, hb⟩
  have HB2 := Aside0.mk (below_then HB1.out HB1.out.size hb)
  clear hb HNew
  go_wp2_with fail
  refine (firstT_ w2).mono ?_
  rintro e w3 ⟨rfl, hb⟩
  have HB3 := Aside0.mk (below_then HB2.out HB2.out.size hb)
  clear hb
  go_wp2
  go_ret
  exact ⟨rfl, HB3.out⟩
set_option maxHeartbeats 8000000 in
set_option maxRecDepth 100000 in
theorem once_in (n : Nat) (most : Int) (A : Option Addr) (c : Nat) (l : List Op4) (w : World) (hr : Kd.C kOp4 w A l.length l) (hc : l.length ≤ c) (hl : ∀ x ∈ l, ok64 x.f0 ∧ ok64 x.f1 ∧ ok64 x.f2 ∧ ok64 x.f3) (n1 : 1 ≤ n) (n2 : n ≤ 60) (h1 : l.length ≤ 300) (m1 : 1 ≤ most) (m2 : most ≤ 4096) :
    Calls Try.prog 18 #[.int .i64 (n : Int), .int .i64 most, .slice A l.length c] w fun e w' => e = .returned (.bool true) ∧ Below w.heap.size w w' := by
  have mixed : Try.prog.follows Departure.mixedOrders = true := by kernel_rfl
  have hu33 := Try.underlying33
  have hu38 := Try.underlying38
  have hu67 := Try.underlying67
  have hu87 := Try.underlying87
  have HR := Aside0.mk hr
  have HN := Aside0.mk (And.intro n1 (And.intro n2 (And.intro h1 hc)))
  have HW := Aside0.mk hl
  have b1 : decide ((n : Int) < 1) = false := decide_eq_false (by omega)
  have b2 : decide ((n : Int) > 60) = false := decide_eq_false (by omega)
  have b3 : decide ((l.length : Int) > 300) = false := decide_eq_false (by omega)
  have b4 : decide (l.length > 300) = false := decide_eq_false (by omega)
  have HNew := Aside0.mk (fun W => NewT_ n most W n1 (by omega) m1 m2)
  have HO0 := Aside0.mk (oinv_zero n (show 0 ≤ most by omega))
  have HM := Aside0.mk m2
  clear hr hc hl n1 n2 h1 m1 m2
  go_enter Try.func18, Try.ntmps18
  go_wp2_with fail
  refine (firstT_ w).mono ?_
  rintro e w1 ⟨rfl, hb1⟩
  have HB1 := Aside0.mk hb1
  clear hb1
  go_wp2_with fail
  refine (HNew.out w1).mono ?_
  rintro e w2 ⟨rfl, hT, hb⟩
  have HT := Aside0.mk (hT.mono (F' := fun k => w.heap.size ≤ k) (fun k _ hk => Nat.le_trans HB1.out.size hk))
  have HB := Aside0.mk (below_then HB1.out HB1.out.size hb)
  clear hT hb HNew b1 b2 b3 b4
  generalize w1.heap.size + 1 = B at HT ⊢
  go_wp2_with fail
  go_loopg [9] l.length (fun gg v wr => ∃ (i : Nat) (ls : List LS) (f : At), i ≤ l.length ∧ l.length - i ≤ gg ∧ v = .int .i64 i ∧ Aside0 (IsTab wr B (fun k => w.heap.size ≤ k) ls most i f) ∧ Aside0 (Below w.heap.size w wr) ∧ Aside0 (OInv n most i ls f))
  case atStart => exact ⟨0, _, _, by omega, by omega, rfl, HT, HB, HO0⟩
  case round =>
    clear HT HB HB1 HO0
    obtain ⟨i, ls, f, hi, hgg, rfl, HT, HB, HV⟩ := hrel
    by_cases hlt : i < l.length
    · have t1 : (i : Int) < l.length := by omega
      have t0 : 0 ≤ (i : Int) := by omega
      obtain ⟨ad, rfl, q0, q1, q2, q3⟩ := at_Op4 HR.out i hlt
      have HWo := Aside0.mk (HW.out _ (getD_mem18 hlt))
      have HTx := Aside0.mk (HT.out.mono (F' := fun k => w.heap.size ≤ k ∧ k < wr.heap.size) (fun k hk h => ⟨h, hk⟩))
      have HLT := Aside0.mk (And.intro hlt (And.intro hgg (show i + 1 ≤ 301 by have := HN.out; omega)))
      generalize l.getD i zOp4 = o at q0 q1 q2 q3 HWo
      replace q0 := cell_be q0 HB.out
      replace q1 := cell_be q1 HB.out
      replace q2 := cell_be q2 HB.out
      replace q3 := cell_be q3 HB.out
      have W3 := Aside0.mk (show wrap64 ((i : Int) + 1) = ((i + 1 : Nat) : Int) by have := HN.out; unfold wrap64; omega)
      clear HT hlt hgg
      go_upto_if 66 with fail
      go_cut [] (fun wx => ∃ (ls2 : List LS) (f2 : At), Aside0 (IsTab wx B (fun k => w.heap.size ≤ k) ls2 most (i + 1) f2) ∧ Aside0 (Below w.heap.size w wx) ∧ Aside0 (OInv n most (i + 1) ls2 f2))
      case first =>
        have Y := blk_new wr (.cells #[.int .i64 o.f0, .int .i64 o.f1, .int .i64 o.f2, .int .i64 o.f3] 33)
        have HY := Aside0.mk Y
        have y0 : (wr.alloc (.cells #[.int .i64 o.f0, .int .i64 o.f1, .int .i64 o.f2, .int .i64 o.f3] 33)).cell? ⟨wr.heap.size, 0, none⟩ = some (.int .i64 o.f0) := (blk_cell Y 0).trans rfl
        have y1 : (wr.alloc (.cells #[.int .i64 o.f0, .int .i64 o.f1, .int .i64 o.f2, .int .i64 o.f3] 33)).cell? ⟨wr.heap.size, 1, none⟩ = some (.int .i64 o.f1) := (blk_cell Y 1).trans rfl
        have y2 : (wr.alloc (.cells #[.int .i64 o.f0, .int .i64 o.f1, .int .i64 o.f2, .int .i64 o.f3] 33)).cell? ⟨wr.heap.size, 2, none⟩ = some (.int .i64 o.f2) := (blk_cell Y 2).trans rfl
        have y3 : (wr.alloc (.cells #[.int .i64 o.f0, .int .i64 o.f1, .int .i64 o.f2, .int .i64 o.f3] 33)).cell? ⟨wr.heap.size, 3, none⟩ = some (.int .i64 o.f3) := (blk_cell Y 3).trans rfl
        have HB1 := Aside0.mk (below_alloc HB.out (.cells #[.int .i64 o.f0, .int .i64 o.f1, .int .i64 o.f2, .int .i64 o.f3] 33))
        have HT1 := Aside0.mk (HTx.out.below (below_alloc (Below.refl _ _) (.cells #[.int .i64 o.f0, .int .i64 o.f1, .int .i64 o.f2, .int .i64 o.f3] 33)))
        clear Y q0 q1 q2 q3
        by_cases hk : o.f0 = 0
        · have e1 : (o.f0 == 0) = true := beq_iff_eq.2 hk
          have HA := Aside0.mk (AskT_ HT1.out (HV.out.small (by have := HLT.out; omega) (by have := HN.out; omega)) (by have := HLT.out; omega) o.f1 o.f2 o.f3 HWo.out.2.1)
          have HV1 := Aside0.mk (HV.out.ask HWo.out.2.1 o.f2 o.f3)
          have hans := ask_answer HV.out.t most o.f1 o.f2 o.f3
          generalize askT ls most f o.f1 o.f2 o.f3 = R at HA HV1 hans
          obtain ⟨r, er, ls2, f2⟩ := R
          dsimp only at hans
          clear hk HTx HV HB
          rcases hans with ⟨h1, h2⟩ | ⟨h1, h2⟩
          · have c1 : (er == 0) = true := beq_iff_eq.2 h1
            have c2 : (r == 0) = false := beq_eq_false_iff_ne.2 h2
            have c3 : (er != 0) = false := bne_eq_false_iff_eq.2 h1
            clear h1 h2
            go_wp2_with fail
            refine HA.out.mono ?_
            rintro e w5 ⟨rfl, hT, hG⟩
            have HT5 := Aside0.mk (show IsTab w5 B (fun k => w.heap.size ≤ k) ls2 most (i + 1) f2 from hT.mono (fun k _ hk => hk.elim (fun h => h.1) (fun h => Nat.le_trans HB1.out.size h)))
            have HB5 := Aside0.mk (hG.to_below HB1.out HB1.out.size (fun k hk => hk.1))
            clear hT hG HA y0 y1 y2 y3 HT1 HB1 HY
            dsimp only
            go_wp2_with fail
            go_meet
            case rel => exact ⟨ls2, f2, HT5, HB5, HV1⟩
          · have c1 : (er == 0) = false := beq_eq_false_iff_ne.2 h1
            have c2 : (r != 0) = false := bne_eq_false_iff_eq.2 h2
            have c3 : (er != 0) = true := bne_iff_ne.2 h1
            clear h1 h2
            go_wp2_with fail
            refine HA.out.mono ?_
            rintro e w5 ⟨rfl, hT, hG⟩
            have HT5 := Aside0.mk (show IsTab w5 B (fun k => w.heap.size ≤ k) ls2 most (i + 1) f2 from hT.mono (fun k _ hk => hk.elim (fun h => h.1) (fun h => Nat.le_trans HB1.out.size h)))
            have HB5 := Aside0.mk (hG.to_below HB1.out HB1.out.size (fun k hk => hk.1))
            clear hT hG HA y0 y1 y2 y3 HT1 HB1 HY
            dsimp only
            go_wp2_with fail
            go_meet
            case rel => exact ⟨ls2, f2, HT5, HB5, HV1⟩
        · have e1 : (o.f0 == 0) = false := beq_eq_false_iff_ne.2 hk
          have HD := Aside0.mk (DropT_ HT1.out (by rw [HV.out.len]; have := HN.out; omega) (by rw [HV.out.len]; have := HN.out; omega) (HV.out.mS (by have := HLT.out; omega)) o.f1 HWo.out.2.1 (HV.out.outs o.f1))
          have HV1 := Aside0.mk ((HV.out.drop o.f1).more)
          have HG1 := Aside0.mk (And.intro (waits_gone HV.out.t o.f1) (held_gone HV.out.t o.f1))
          clear hk HTx HB
          go_wp2_with fail
          refine HD.out.mono ?_
          rintro e w5 ⟨A5, c5, rfl, -, -, hT, hG⟩
          have HT5 := Aside0.mk (show IsTab w5 B (fun k => w.heap.size ≤ k) (dropL ls o.f1 0) most i (dropF ls f o.f1) from hT.mono (fun k _ hk => hk.1.elim (fun h => h.1) (fun h => Nat.le_trans HB1.out.size h)))
          have HB5 := Aside0.mk (hG.to_below HB1.out HB1.out.size (fun k hk => hk.1))
          have Y5 := Aside0.mk ((hG.block wr.heap.size (by simp) (fun h => by have := h.2; omega)).trans HY.out)
          have z1 : w5.cell? ⟨wr.heap.size, 1, none⟩ = some (.int .i64 o.f1) := (blk_cell Y5.out 1).trans rfl
          have HWt := Aside0.mk (WaitsT_ HT5.out o.f1 HWo.out.2.1 (fun k h => by rw [dropL_len, HV.out.len]; have h1 := HV1.out.t.lt _ k h; rw [dropL_len, HV.out.len] at h1; exact h1))
          rw [HG1.out.1] at HWt
          clear hT hG HD y0 y1 y2 y3 HT1 HB1 HY
          go_wp2_with fail
          refine HWt.out.mono ?_
          rintro e w6 ⟨rfl, hb⟩
          have HT6 := Aside0.mk ((HT5.out.below hb).below (below_alloc (Below.refl _ _) (.cells #[.int .i64 0, .int .i64 0] 38)))
          have HB6 := Aside0.mk (below_alloc (below_then HB5.out HB5.out.size hb) (.cells #[.int .i64 0, .int .i64 0] 38))
          have v1 := cell_al (cell_be z1 hb) (.cells #[.int .i64 0, .int .i64 0] 38)
          have HH := Aside0.mk (HeldT_ HT6.out (by rw [dropL_len, HV.out.len]; have := HN.out; omega) o.f1)
          rw [HG1.out.2] at HH
          clear hb HWt z1 Y5 HT5 HB5 HV
          go_wp2_with fail
          refine HH.out.mono ?_
          rintro e w7 ⟨A7, c7, rfl, -, -, hb⟩
          have HT7 := Aside0.mk ((HT6.out.below hb).more (Nat.le_succ i))
          have HB7 := Aside0.mk (below_then HB6.out HB6.out.size hb)
          clear hb HH v1 HT6 HB6
          go_wp2_with fail
          go_meet
          case rel => exact ⟨_, _, HT7, HB7, HV1⟩
      case rest =>
        obtain ⟨ls2, f2, HT2, HB2, HV2⟩ := hcut
        have HL2 := Aside0.mk (And.intro HV2.out.len HV2.out.size)
        have HK2 := Aside0.mk (show lenT ls2 ≤ 4096 by have h1 := HV2.out.lk; have h2 := HM.out; omega)
        have HE2 := Aside0.mk (fun k (hk : k < ls2.length) => len_step (ls := ls2) hk)
        clear HTx HV HB q0 q1 q2 q3
        go_wp2_with fail
        go_loopg [15, 16, 17] n (fun gg v15 v16 v17 wr2 => ∃ k : Nat, k ≤ n ∧ n - k ≤ gg ∧ v17 = .int .i64 k ∧ v16 = .int .i64 (lenT (ls2.take k) : Nat) ∧ Aside0 (Out1 wc (whoT ls2 k) v15 wr2))
        case atStart => exact ⟨0, by omega, by omega, rfl, rfl, ⟨none, 0, rfl, Row.zero _ _ _, fun k h => (blk_none h).elim, Below.refl _ _⟩⟩
        case round =>
          obtain ⟨k, hk, hgk, rfl, rfl, HO⟩ := hrel
          obtain ⟨A15, c15, rfl, hR15, hk15, hb15⟩ := HO.out
          clear HO
          by_cases hlk : k < n
          · have t5 : (k : Int) < (n : Int) := by omega
            have hkl : k < ls2.length := by rw [HL2.out.1]; exact hlk
            obtain ⟨g, off, sc, m, bi, Gi, c0, -, -, -, -, -, cs, hI, ha, hG, -⟩ := HT2.out.at_ k hkl
            have HI := Aside0.mk hI
            have HLn := Aside0.mk (Lane_in wr B g off ls2.length sc k bi (cell_be c0 hb15) (cell_be cs hb15) hkl)
            have HSz := Aside0.mk (HL2.out.2 k hkl)
            have HSt := Aside0.mk (len_step hkl)
            have HWs := Aside0.mk (whoT_step hkl)
            have HWl := Aside0.mk (whoT_len HL2.out.2 k (Nat.le_of_lt hkl))
            have HOn := Aside0.mk (fun p (hp : p < (ls2.getD k zL).2.length) => who_once HV2.out.t hkl hp)
            have HTk := Aside0.mk (show lenT (ls2.take k) ≤ 60 * 301 by
              have h1 : lenT (ls2.take k) ≤ lenT ls2 := by
                have h2 : lenT ls2 = lenT (ls2.take k) + lenT (ls2.drop k) := by unfold lenT; rw [← List.sum_append, ← List.map_append, List.take_append_drop]
                omega
              have h3 := HK2.out
              omega)
            have HLL := Aside0.mk (show lenL (ls2.getD k zL) = (ls2.getD k zL).1.length + newIn (ls2.getD k zL).1 (ls2.getD k zL).2 from rfl)
            have HNl := Aside0.mk (new_le (ls2.getD k zL).1 (ls2.getD k zL).2)
            have HKn := Aside0.mk (And.intro hlk hgk)
            have WK1 := Aside0.mk (show wrap64 ((k : Int) + 1) = ((k + 1 : Nat) : Int) by have := HN.out; unfold wrap64; omega)
            have HR15 := Aside0.mk (And.intro hR15 (And.intro hk15 hb15))
            generalize hacc : lenT (ls2.take k) = acc at HSt HTk ⊢
            generalize lenL (ls2.getD k zL) = ll at HSt HLL
            generalize hwk : whoT ls2 k = WK at HWs HWl HOn HR15 ⊢
            generalize (ls2.getD k zL).1 = hs at HI HSz HLL HNl
            generalize (ls2.getD k zL).2 = qs at HI HSz HLL HNl HWs HOn
            clear hacc hwk hI ha hG c0 cs hR15 hk15 hb15 hlk hgk hkl hk
            go_wp2_with fail
            refine HLn.out.mono ?_
            rintro e w3 ⟨rfl, hb⟩
            have HB3 := Aside0.mk (below_then HR15.out.2.2 HR15.out.2.2.size hb)
            have HR3 := Aside0.mk (HR15.out.1.below hb)
            have HHo := Aside0.mk (Holders_ w3 bi Gi hs qs (HI.out.below HB3.out) (by have := HSz.out; have := HLT.out; omega))
            have HK15 := Aside0.mk HR15.out.2.1
            clear hb HLn HR15
            go_wp2_with fail
            refine HHo.out.mono ?_
            rintro e w4 ⟨A4, c4, rfl, -, -, hb⟩
            have HB4 := Aside0.mk (below_then HB3.out HB3.out.size hb)
            have HR4 := Aside0.mk (HR3.out.below hb)
            have HQu := Aside0.mk (Queue_ w4 bi Gi hs qs (HI.out.below HB4.out) (by have := HSz.out; have := HLT.out; omega))
            clear hb HHo HR3 HB3
            go_wp2_with fail
            refine HQu.out.mono ?_
            rintro e w5 ⟨A5, c5, rfl, hRq, -, hb⟩
            have HB5 := Aside0.mk (below_then HB4.out HB4.out.size hb)
            have HR5 := Aside0.mk (HR4.out.below hb)
            have HRq := Aside0.mk hRq
            have W1 := Aside0.mk (show wrap64 ((acc : Int) + (hs.length : Int)) = ((acc + hs.length : Nat) : Int) by have := HTk.out; have := HSz.out; have := HLT.out; unfold wrap64; omega)
            clear hb HQu HR4 HB4 hRq
            go_wp2_with fail
            go_loopg [15, 16, 21] qs.length (fun gg v15 v16 v21 wr3 => ∃ p : Nat, p ≤ qs.length ∧ qs.length - p ≤ gg ∧ v21 = .int .i64 p ∧ v16 = .int .i64 (acc + hs.length + newIn hs (qs.take p) : Nat) ∧ Aside0 (Out1 wc (WK ++ (qs.take p).map (·.f0)) v15 wr3) ∧ Aside0 (Row wr3 67 2 A5 qs.length c5 (flat qs)))
            case atStart => exact ⟨0, by omega, by omega, rfl, by rw [W1.out]; simp [newIn], ⟨A15, c15, by simp, by simpa using HR5.out, HK15.out, HB5.out⟩, HRq⟩
            case round =>
              obtain ⟨p, hp, hgp, rfl, rfl, HO, HQ⟩ := hrel
              obtain ⟨A9, c9, rfl, hR9, hk9, hb9⟩ := HO.out
              clear HO
              by_cases hlp : p < qs.length
              · have t6 : (p : Int) < (qs.length : Int) := by omega
                have t7 : 0 ≤ (p : Int) := by omega
                obtain ⟨g5, o5, cur5, hA5, -, -, -⟩ := HQ.out.at_ (by omega)
                subst hA5
                obtain ⟨ad5, hA5, r0, r1⟩ := at_T67 HQ.out.reads (p : Int) (by omega) (by omega)
                injection hA5 with hA5
                subst hA5
                simp only [Int.toNat_natCast, rdT_getD, Addr.add_lit] at r0 r1
                have HNS := Aside0.mk (new_step (hs := hs) hlp)
                have HOn2 := Aside0.mk (HOn.out p hlp)
                have HSt2 := Aside0.mk (show WK ++ (qs.take (p + 1)).map (·.f0) = (WK ++ (qs.take p).map (·.f0)) ++ [(qs.getD p z67).f0] by
                  have e : qs[p]? = some (qs.getD p z67) := get_getD hlp
                  rw [List.take_add_one, e, List.map_append, ← List.append_assoc]; rfl)
                have HWL := Aside0.mk (show (WK ++ (qs.take p).map (·.f0)).length ≤ 100000 by
                  have h1 := HWl.out
                  have h2 := HSz.out
                  have h3 := HLT.out
                  have h4 := HN.out
                  have h5 := HKn.out.1
                  have h6 : k * (i + 1) ≤ 60 * 301 := Nat.mul_le_mul (by omega) (by omega)
                  rw [List.length_append, List.length_map, List.length_take]; omega)
                have hnn : newIn hs (qs.take p) ≤ qs.length := Nat.le_trans (new_le _ _) (by rw [List.length_take]; omega)
                have HPn := Aside0.mk (And.intro hlp hgp)
                generalize newIn hs (qs.take p) = nn at HNS hnn ⊢
                generalize qs.getD p z67 = y at r0 r1 HNS HOn2 HSt2
                generalize hP : WK ++ (qs.take p).map (·.f0) = P at hR9 HOn2 HSt2 HWL ⊢
                have HHas := Aside0.mk (Has_ A9 c9 P y.f0 wr hR9.readsI hR9.2.1 (by have := HWL.out; omega))
                rw [decide_eq_false HOn2.out] at HHas
                have HR9 := Aside0.mk hR9
                have HB9 := Aside0.mk (And.intro hk9 hb9)
                have WP := Aside0.mk (show wrap64 ((p : Int) + 1) = ((p + 1 : Nat) : Int) by have := HSz.out; have := HLT.out; unfold wrap64; omega)
                have WN := Aside0.mk (show wrap64 ((acc : Int) + (hs.length : Int) + (nn : Int) + 1) = ((acc + hs.length + (nn + 1) : Nat) : Int) by have := HTk.out; have := HSz.out; have := HLT.out; unfold wrap64; omega)
                clear hP hR9 hk9 hb9 hlp hgp hp hnn
                go_wp2_with fail
                refine HHas.out.mono ?_
                rintro e w10 ⟨rfl, hb⟩
                have s0 := cell_be r0 hb
                have s0' := cell_al s0 (.cells #[.int .i64 y.f0] 3)
                have HR10 := Aside0.mk ((HR9.out.below hb).alloc (.cells #[.int .i64 y.f0] 3))
                have HB10 := Aside0.mk (below_alloc (below_then HB9.out.2 HB9.out.2.size hb) (.cells #[.int .i64 y.f0] 3))
                have HQ10 := Aside0.mk ((HQ.out.below hb).alloc (.cells #[.int .i64 y.f0] 3))
                have HS10 := Aside0.mk (Nat.le_trans HB9.out.2.size hb.size)
                have BS := Aside0.mk (blk_new w10 (.cells #[.int .i64 y.f0] 3))
                clear hb HHas r0 r1 HR9
                go_wp2_with (first | (at_builtin; refine wpList_append_info rfl _ _ 53 rfl 3 _ 1 8 Try.underlying53 info3 rfl A9 P.length c9 (ints P) (by simp [Act.eval, Act.put]) HR10.out ⟨w10.heap.size, 0, none⟩ 1 1 [.int .i64 y.f0] (by simp [Act.eval, Act.put]) rfl (one_at BS.out) (one_one _) (by have := HWL.out; unfold maxLen; omega) (by have := HWL.out; omega) ?_) | fail)
                intro A11 c11 w11 hR11 hG11 hk11
                have apart : ∀ k, (∃ cur, (w10.alloc (.cells #[.int .i64 y.f0] 3)).heap[k]? = some (.cells cur 67 (0, 0))) → ¬ blk A9 k := fun k ⟨cur, e1⟩ h8 => by
                  obtain ⟨cur2, e2⟩ := HR10.out.typed h8
                  rw [e1] at e2
                  injection e2 with e2
                  injection e2 with _ e2
                  exact absurd e2 (by decide)
                have hqt : ∃ cur, (w10.alloc (.cells #[.int .i64 y.f0] 3)).heap[g5]? = some (.cells cur 67 (0, 0)) := HQ10.out.typed ⟨_, rfl, rfl⟩
                have hq5 : w11.heap[g5]? = (w10.alloc (.cells #[.int .i64 y.f0] 3)).heap[g5]? := hG11.block g5 (by obtain ⟨cur, e1⟩ := hqt; exact (Array.getElem?_eq_some_iff.1 e1).1) (apart _ hqt)
                have s11 := (World.cell?_of_block (a := ⟨g5, o5 + p * 2, none⟩) hq5).trans s0'
                have HQ11 := Aside0.mk (HQ10.out.grew hG11 (fun k hk => apart k (HQ10.out.typed hk)))
                have HR11 := Aside0.mk hR11
                have HB11 := Aside0.mk (hG11.to_below HB10.out HB10.out.size (fun k h => HB9.out.1 k h))
                have HK11 := Aside0.mk (show ∀ k, blk A11 k → wc.heap.size ≤ k from fun k h => (hk11 k h).elim (HB9.out.1 k) (fun h2 => by have h3 := HS10.out; have h5 : w10.heap.size + 1 ≤ k := (by simpa using h2); omega))
                have HHl := Aside0.mk (Holds_ w11 bi Gi hs qs y.f0 (HI.out.below HB11.out))
                clear hR11 hG11 hk11 apart hqt hq5 s0 s0' HR10 HB10 HQ10 BS HQ
                by_cases hz : toldIn hs y.f0 = 0
                · have hq : (toldIn hs y.f0 == 0) = true := beq_iff_eq.2 hz
                  rw [if_pos hz] at HNS
                  clear hz
                  generalize toldIn hs y.f0 = v at HHl hq
                  go_wp2_with fail
                  refine HHl.out.mono ?_
                  rintro e w12 ⟨rfl, hb⟩
                  have HO12 := Aside0.mk (show Out1 wc (P ++ [y.f0]) (.slice A11 (P.length + 1) c11) w12 from ⟨A11, c11, by simp, by simpa [ints] using HR11.out.below hb, HK11.out, below_then HB11.out HB11.out.size hb⟩)
                  have HQ12 := Aside0.mk (HQ11.out.below hb)
                  clear hb HHl s11 HR11 HB11 HQ11
                  go_wp2
                  go_roundg (qs.length - (p + 1))
                  case measure => have := HPn.out; omega
                  case rel => exact ⟨p + 1, by have := HPn.out; omega, by have := HPn.out; omega, by rw [WP.out], by rw [HNS.out, WN.out], ⟨by rw [HSt2.out]; exact HO12.out⟩, HQ12⟩
                · have hq : (toldIn hs y.f0 == 0) = false := beq_eq_false_iff_ne.2 hz
                  rw [if_neg hz] at HNS
                  clear hz
                  generalize toldIn hs y.f0 = v at HHl hq
                  go_wp2_with fail
                  refine HHl.out.mono ?_
                  rintro e w12 ⟨rfl, hb⟩
                  have HO12 := Aside0.mk (show Out1 wc (P ++ [y.f0]) (.slice A11 (P.length + 1) c11) w12 from ⟨A11, c11, by simp, by simpa [ints] using HR11.out.below hb, HK11.out, below_then HB11.out HB11.out.size hb⟩)
                  have HQ12 := Aside0.mk (HQ11.out.below hb)
                  clear hb HHl s11 HR11 HB11 HQ11
                  go_wp2
                  go_roundg (qs.length - (p + 1))
                  case measure => have := HPn.out; omega
                  case rel => exact ⟨p + 1, by have := HPn.out; omega, by have := HPn.out; omega, by rw [WP.out], by rw [HNS.out]; congr 1; try omega, ⟨by rw [HSt2.out]; exact HO12.out⟩, HQ12⟩
              · obtain rfl : p = qs.length := by omega
                have t6 : ¬ (qs.length : Int) < (qs.length : Int) := by omega
                rw [List.take_length] at hR9 ⊢
                have HO9 := Aside0.mk (show Out1 wc (WK ++ qs.map (·.f0)) (.slice A9 (WK ++ qs.map (·.f0)).length c9) wr from ⟨A9, c9, rfl, hR9, hk9, hb9⟩)
                have hle : (WK ++ qs.map (·.f0)).length = WK.length + qs.length := by simp
                clear hR9 hk9 hb9 hlp hgp hp HQ
                go_wp2
                go_roundg (n - (k + 1))
                case measure => have := HKn.out; omega
                case rel => exact ⟨k + 1, by have := HKn.out; omega, by have := HKn.out; omega, by rw [WK1.out], by rw [HSt.out, HLL.out]; congr 1; omega, ⟨by rw [HWs.out, ← hle]; exact HO9.out⟩⟩
          · obtain rfl : k = n := by omega
            have t5 : ¬ (k : Int) < (k : Int) := by omega
            have hbr := hb15
            rw [show ls2.take k = ls2 by rw [List.take_of_length_le (by rw [HL2.out.1]; exact Nat.le_refl _)]]
            have HB5 := Aside0.mk hb15
            have HSm := Aside0.mk (HV2.out.small (by have := HLT.out; omega) (by have := HN.out; omega))
            have HLe := Aside0.mk (LenT_ (HT2.out.below hb15) HSm.out)
            have hlk2 : decide ((lenT ls2 : Int) > most) = false := decide_eq_false (by have := HV2.out.lk; omega)
            clear hR15 hk15 hb15 hbr hlk hgk hk
            generalize lenT ls2 = len at HLe hlk2 ⊢
            have e5 : ((len : Int) != (len : Int)) = false := by simp
            go_wp2_with fail
            refine HLe.out.mono ?_
            rintro e w6 ⟨rfl, hb⟩
            have HB6 := Aside0.mk (below_then HB5.out HB5.out.size hb)
            have HEd := Aside0.mk (EdgesT_ (HT2.out.below HB6.out) HSm.out (by have := HLT.out; omega) HV2.out.t.lt)
            clear hb HLe HB5
            go_wp2_with fail
            refine HEd.out.mono ?_
            rintro e w7 ⟨ll, hnd, hll, A7, c7, rfl, hR7, -, hb⟩
            have HEf := Aside0.mk (fun q (hq : q < (edUp ls2 f2 (sortedI ll) ll.length).length) => edge_facts HV2.out.t hll hq)
            have HR7 := Aside0.mk hR7
            have hcap := And.intro hR7.2.1 hR7.2.2.1
            have HCap := Aside0.mk hcap
            have HB7 := Aside0.mk (below_then HB6.out HB6.out.size hb)
            clear hb hnd hll hR7 hcap HEd HB6
            generalize edUp ls2 f2 (sortedI ll) ll.length = ED at HEf HR7 HCap ⊢
            go_wp2_with fail
            go_loopg [23] ED.length (fun gg v23 wr4 => ∃ q : Nat, q ≤ ED.length ∧ ED.length - q ≤ gg ∧ v23 = .int .i64 q ∧ Aside0 (Row wr4 87 2 A7 ED.length c7 (flatP ED)) ∧ Aside0 (Below wc.heap.size wc wr4))
            case atStart => exact ⟨0, by omega, by omega, rfl, HR7, HB7⟩
            case round =>
              clear HR7 HB7
              obtain ⟨q, hq, hgq, rfl, HR7, HB7⟩ := hrel
              by_cases hlq : q < ED.length
              · have t6 : (q : Int) < (ED.length : Int) := by omega
                have t7 : 0 ≤ (q : Int) := by omega
                obtain ⟨g7, o7, hA7, r0, r1⟩ := HR7.out.edge rfl hlq
                subst hA7
                obtain ⟨nn, hf, hnn, hok, hor, hne⟩ := HEf.out q hlq
                generalize (ED.getD q (0, 0)).1 = x at r0 hf hok hne
                generalize (ED.getD q (0, 0)).2 = y at r1 hor hne
                obtain ⟨g, off, sc, m, bi, Gi, c0, -, -, -, -, -, cs, hI, -, -, -⟩ := HT2.out.at_ nn hnn
                have HWt := Aside0.mk (WaitsT_ (HT2.out.below HB7.out) x hok (fun k h => HV2.out.t.lt x k h))
                have hwv : waitsT ls2 f2 x = ((nn : Int), toldIn (ls2.getD nn zL).2 x, true) := by unfold waitsT; rw [hf]
                rw [hwv] at HWt
                have HI := Aside0.mk hI
                have HC0 := Aside0.mk (And.intro c0 cs)
                have HLn := Aside0.mk (fun W (hb : Below wc.heap.size wc W) => Lane_in W B g off ls2.length sc nn bi (cell_be c0 hb) (cell_be cs hb) hnn)
                have HOr := Aside0.mk (And.intro hor (And.intro hne (And.intro hlq hgq)))
                have HCC := Aside0.mk (And.intro r0 r1)
                have WQ := Aside0.mk (show wrap64 ((q : Int) + 1) = ((q + 1 : Nat) : Int) by have h1 := HCap.out; unfold maxLen at h1; unfold wrap64; omega)
                generalize toldIn (ls2.getD nn zL).2 x = tq at HWt
                generalize (ls2.getD nn zL).1 = hs at HI HOr
                generalize (ls2.getD nn zL).2 = qs at HI HOr
                clear hI c0 cs hor hne hf hok hwv hlq hgq hq hnn
                go_wp2_with fail
                refine HWt.out.mono ?_
                rintro e w8 ⟨rfl, hb⟩
                have Z := blk_new w8 (.cells #[.int .i64 (nn : Int), .int .i64 tq] 38)
                have z0 : (w8.alloc (.cells #[.int .i64 (nn : Int), .int .i64 tq] 38)).cell? ⟨w8.heap.size, 0, none⟩ = some (.int .i64 (nn : Int)) := (blk_cell Z 0).trans rfl
                have HB8 := Aside0.mk (below_alloc (below_then HB7.out HB7.out.size hb) (.cells #[.int .i64 (nn : Int), .int .i64 tq] 38))
                have HR8 := Aside0.mk ((HR7.out.below hb).alloc (.cells #[.int .i64 (nn : Int), .int .i64 tq] 38))
                have s0 := cell_al (cell_be r0 hb) (.cells #[.int .i64 (nn : Int), .int .i64 tq] 38)
                have s1 := cell_al (cell_be r1 hb) (.cells #[.int .i64 (nn : Int), .int .i64 tq] 38)
                have HL8 := Aside0.mk (HLn.out _ HB8.out)
                clear hb HWt Z r0 r1 HLn HB7 HR7
                go_wp2_with fail
                refine HL8.out.mono ?_
                rintro e w9 ⟨rfl, hb⟩
                have HB9 := Aside0.mk (below_then HB8.out HB8.out.size hb)
                have HR9 := Aside0.mk (HR8.out.below hb)
                have v0 := cell_be s0 hb
                have v1 := cell_be s1 hb
                have K1 := Aside0.mk (fun (W : World) (hw : Below w9.heap.size w9 W) => Holds_ W bi Gi hs qs y (HI.out.below (below_then HB9.out HB9.out.size hw)))
                have K2 := Aside0.mk (fun (W : World) (hw : Below w9.heap.size w9 W) => Waits_ W bi Gi hs qs y (HI.out.below (below_then HB9.out HB9.out.size hw)))
                have v0' := fun d os => cell_gr v0 d os
                have v1' := fun d os => cell_gr v1 d os
                have e7 : (x == y) = false := beq_eq_false_iff_ne.2 HOr.out.2.1
                clear hb HL8 s0 s1 z0 HB8 HR8
                by_cases hh : toldIn hs y = 0
                · have hh2 : toldIn qs y ≠ 0 := HOr.out.1.resolve_left (fun h => h hh)
                  have e8 : (toldIn hs y == 0) = true := beq_iff_eq.2 hh
                  have e9 : (toldIn qs y == 0) = false := beq_eq_false_iff_ne.2 hh2
                  clear hh hh2
                  generalize toldIn hs y = th at K1 e8
                  generalize toldIn qs y = tw at K2 e9
                  go_wp2_with fail
                  refine wp_region_gr mixed (by kernel_rfl) ?_
                  repeat (first | go_big_quiet_step (first | exact Calls.gr_of (K1.out _ (below_gr _ _ _)) | exact Calls.gr_of (K2.out _ (below_gr _ _ _))) | simp only [Bool.not_true, Bool.not_false])
                  refine wpQuiet_nil ?_
                  intro _ hw'
                  obtain ⟨⟨d, os⟩, rfl⟩ := hw'
                  have hgr := below_gr w9 d os
                  have HB10 := Aside0.mk (below_then HB9.out HB9.out.size hgr)
                  have HR10 := Aside0.mk (HR9.out.below hgr)
                  clear v0 v1 v0' v1' hgr K1 K2 HB9 HR9
                  go_wp2
                  go_roundg (ED.length - (q + 1))
                  case measure => have := HOr.out.2.2; omega
                  case rel => exact ⟨q + 1, by have := HOr.out.2.2; omega, by have := HOr.out.2.2; omega, by rw [WQ.out], HR10, HB10⟩
                · have e8 : (toldIn hs y == 0) = false := beq_eq_false_iff_ne.2 hh
                  clear hh
                  generalize toldIn hs y = th at K1 e8
                  go_wp2_with fail
                  refine wp_region_gr mixed (by kernel_rfl) ?_
                  repeat (first | go_big_quiet_step (first | exact Calls.gr_of (K1.out _ (below_gr _ _ _)) | exact Calls.gr_of (K2.out _ (below_gr _ _ _))) | simp only [Bool.not_true, Bool.not_false])
                  refine wpQuiet_nil ?_
                  intro _ hw'
                  obtain ⟨⟨d, os⟩, rfl⟩ := hw'
                  have hgr := below_gr w9 d os
                  have HB10 := Aside0.mk (below_then HB9.out HB9.out.size hgr)
                  have HR10 := Aside0.mk (HR9.out.below hgr)
                  clear v0 v1 v0' v1' hgr K1 K2 HB9 HR9
                  go_wp2
                  go_roundg (ED.length - (q + 1))
                  case measure => have := HOr.out.2.2; omega
                  case rel => exact ⟨q + 1, by have := HOr.out.2.2; omega, by have := HOr.out.2.2; omega, by rw [WQ.out], HR10, HB10⟩
              · obtain rfl : q = ED.length := by omega
                have t6 : ¬ (ED.length : Int) < (ED.length : Int) := by omega
                have HT8 := Aside0.mk (HT2.out.below HB7.out)
                have HB8 := Aside0.mk (below_then HB2.out HB2.out.size HB7.out)
                clear hlq hgq hq HR7 HB7
                go_wp2
                go_roundg (l.length - (i + 1))
                case measure => have := HLT.out; omega
                case rel => exact ⟨i + 1, ls2, f2, by have := HLT.out; omega, by have := HLT.out; omega, by rw [W3.out], HT8, HB8, HV2⟩
    · obtain rfl : i = l.length := by omega
      have t1 : ¬ (l.length : Int) < l.length := by omega
      clear hlt HT HV
      go_wp2_with fail
      refine (firstT_ _).mono ?_
      rintro e w3 ⟨rfl, hb⟩
      have HB3 := Aside0.mk (below_then HB.out HB.out.size hb)
      clear hb
      go_wp2
      go_ret
      exact ⟨rfl, HB3.out⟩
theorem once_walk (nodes most : Int) (A : Option Addr) (c : Nat) (l : List Op4) (w : World) (hwn : ok64 nodes) (hwm : ok64 most) (hr : Kd.C kOp4 w A l.length l) (hc : l.length ≤ c) (hw : l.length ≤ maxLen) (hl : ∀ x ∈ l, ok64 x.f0 ∧ ok64 x.f1 ∧ ok64 x.f2 ∧ ok64 x.f3) :
    Calls Try.prog 18 #[.int .i64 nodes, .int .i64 most, .slice A l.length c] w fun e w' => e = .returned (.bool true) ∧ Below w.heap.size w w' := by
  by_cases h : 300 < l.length ∨ nodes > 60 ∨ nodes < 1
  · exact once_bad nodes most A c l w h
  · obtain ⟨n, rfl⟩ : ∃ n : Nat, nodes = n := ⟨nodes.toNat, by omega⟩
    by_cases hm : most < 1 ∨ most > 4096
    · exact once_most n most A c l w (by omega) (by omega) (by omega) hm
    · exact once_in n most A c l w hr hc hl (by omega) (by omega) (by omega) (by omega) (by omega)
end Go.Proofs.Ytagdgkimjgomlaa.Ln
