/- PathUp: the walk. -/
import Derived.Test.YtagdgkimjgomlaaPa3
namespace Go.Proofs.Ytagdgkimjgomlaa.Ln
open Go.RowKit Go.Proofs.YtagdgkimjgomlaaW.PrintWords Go.Proofs.YtagdgkimjgomlaaW.PrintLast Go.Proofs.YtagdgkimjgomlaaW.PrintMore Go.Proofs.Ytagdgkimjgomlaa.PMd
open Go.Maps
open Go.Sort (grow)
set_option linter.unusedVariables false
set_option linter.unusedSimpArgs false
theorem getD_repU (n i : Nat) : (List.replicate n zL).getD i zL = zL := by
  rw [List.getD_eq_getElem?_getD, List.getElem?_replicate]
  split <;> rfl
theorem linv_repU (n : Nat) : LInv (List.replicate n zL) := fun i _ => by rw [getD_repU]; exact inv_nil
set_option maxHeartbeats 8000000 in
set_option maxRecDepth 100000 in
theorem up_bad (s u : Int) (wt : Bool) (w : World) (h : s < 1 ∨ s > 8 ∨ u < 1 ∨ u > 8) :
    Calls Try.prog 5 #[.int .i64 s, .int .i64 u, .bool wt] w fun e w' => e = .returned (.bool true) ∧ Below w.heap.size w w' := by
  have key : ∀ a b c1 d : Bool, decide (s < 1) = a → decide (s > 8) = b → decide (u < 1) = c1 → decide (u > 8) = d → (a || b || c1 || d) = true →
      Calls Try.prog 5 #[.int .i64 s, .int .i64 u, .bool wt] w fun e w' => e = .returned (.bool true) ∧ Below w.heap.size w w' := by
    intro a b c1 d ha hb hc hd h
    cases a with
    | true =>
      go_enter Try.func5, Try.ntmps5
      go_wp2_with fail
      refine (firstP_ w).mono ?_
      rintro e w1 ⟨rfl, hb1⟩
      have HB := Aside0.mk hb1
      clear hb1
      go_wp2_with fail
      refine (firstP_ w1).mono ?_
      rintro e w2 ⟨rfl, hb2⟩
      have HB2 := Aside0.mk (below_then HB.out HB.out.size hb2)
      clear hb2
      go_wp2
      go_ret
      exact ⟨rfl, HB2.out⟩
    | false =>
    cases b with
    | true =>
      go_enter Try.func5, Try.ntmps5
      go_wp2_with fail
      refine (firstP_ w).mono ?_
      rintro e w1 ⟨rfl, hb1⟩
      have HB := Aside0.mk hb1
      clear hb1
      go_wp2_with fail
      refine (firstP_ w1).mono ?_
      rintro e w2 ⟨rfl, hb2⟩
      have HB2 := Aside0.mk (below_then HB.out HB.out.size hb2)
      clear hb2
      go_wp2
      go_ret
      exact ⟨rfl, HB2.out⟩
    | false =>
    cases c1 with
    | true =>
      go_enter Try.func5, Try.ntmps5
      go_wp2_with fail
      refine (firstP_ w).mono ?_
      rintro e w1 ⟨rfl, hb1⟩
      have HB := Aside0.mk hb1
      clear hb1
      go_wp2_with fail
      refine (firstP_ w1).mono ?_
      rintro e w2 ⟨rfl, hb2⟩
      have HB2 := Aside0.mk (below_then HB.out HB.out.size hb2)
      clear hb2
      go_wp2
      go_ret
      exact ⟨rfl, HB2.out⟩
    | false =>
    cases d with
    | true =>
      go_enter Try.func5, Try.ntmps5
      go_wp2_with fail
      refine (firstP_ w).mono ?_
      rintro e w1 ⟨rfl, hb1⟩
      have HB := Aside0.mk hb1
      clear hb1
      go_wp2_with fail
      refine (firstP_ w1).mono ?_
      rintro e w2 ⟨rfl, hb2⟩
      have HB2 := Aside0.mk (below_then HB.out HB.out.size hb2)
      clear hb2
      go_wp2
      go_ret
      exact ⟨rfl, HB2.out⟩
    | false => cases h
  refine key _ _ _ _ rfl rfl rfl rfl ?_
  simp only [Bool.or_eq_true, decide_eq_true_eq]
  omega
/-- What is known of the table between two requests. -/
def UpS (w : World) (B s u : Nat) (wt : Bool) (a k : Nat) (wr : World) (ls : List LS) : Prop :=
  ∃ n N f, IsTab wr B (fun k => w.heap.size ≤ k) ls 100 N f ∧ Below w.heap.size w wr ∧ N + n ≤ 40 ∧ ls.length = s + 2 ∧ LInv ls ∧ (∀ i, i < ls.length → (ls.getD i zL).1.length + (ls.getD i zL).2.length ≤ N) ∧ upGo s u wt n a k ls f = true
set_option maxHeartbeats 8000000 in
set_option maxRecDepth 100000 in
theorem up_in (s u : Nat) (wt : Bool) (w : World) (s1 : 1 ≤ s) (s2 : s ≤ 8) (u1 : 1 ≤ u) (u2 : u ≤ 8) :
    Calls Try.prog 5 #[.int .i64 (s : Int), .int .i64 (u : Int), .bool wt] w fun e w' => e = .returned (.bool true) ∧ Below w.heap.size w w' := by
  have hu41 := Try.underlying41
  have hu38 := Try.underlying38
  have b1 : decide ((s : Int) < 1) = false := decide_eq_false (by omega)
  have b2 : decide ((s : Int) > 8) = false := decide_eq_false (by omega)
  have b3 : decide ((u : Int) < 1) = false := decide_eq_false (by omega)
  have b4 : decide ((u : Int) > 8) = false := decide_eq_false (by omega)
  have HS := Aside0.mk (And.intro s1 (And.intro s2 (And.intro u1 u2)))
  have HNd := Aside0.mk (fun W => shape_Nodes.calls 1 1 (s : Int) 1 1 0 1 100 1 (u : Int) 1 0 _ W (nodesU_ s1 s2 u1 u2))
  have HNew := Aside0.mk (fun W => NewT_ (s + 2) 100 W (by omega) (by omega) (by decide) (by decide))
  clear s1 s2 u1 u2
  go_enter Try.func5, Try.ntmps5
  go_wp2_with fail
  refine (firstP_ w).mono ?_
  rintro e w1 ⟨rfl, hb1⟩
  have HB1 := Aside0.mk hb1
  have HBc := Aside0.mk (below_alloc hb1 (.cells #[.int .i64 1, .int .i64 1, .int .i64 (s : Int), .int .i64 1, .int .i64 1, .int .i64 0, .int .i64 1, .int .i64 100, .int .i64 1, .int .i64 (u : Int), .int .i64 1, .int .i64 0] 41))
  have HX := Aside0.mk (blk_new w1 (.cells #[.int .i64 1, .int .i64 1, .int .i64 (s : Int), .int .i64 1, .int .i64 1, .int .i64 0, .int .i64 1, .int .i64 100, .int .i64 1, .int .i64 (u : Int), .int .i64 1, .int .i64 0] 41))
  clear hb1
  go_wp2_with fail
  refine (HNd.out _).mono ?_
  rintro e w2 ⟨rfl, hb2⟩
  have HX2 := Aside0.mk ((hb2.block w1.heap.size (by simp)).trans HX.out)
  have HB2 := Aside0.mk (below_then HBc.out (Nat.le_trans HB1.out.size (by simp)) hb2)
  clear hb2 HNd b1 b2 b3 b4
  generalize w1.heap.size = B0 at HX2 ⊢
  have hlt0 : B0 < w2.heap.size := (Array.getElem?_eq_some_iff.1 HX2.out).1
  have X := Aside0.mk (fun W (hb : Below w2.heap.size w2 W) => (show W.cell? ⟨B0, 0, none⟩ = some (.int .i64 1) ∧ W.cell? ⟨B0, 1, none⟩ = some (.int .i64 1) ∧ W.cell? ⟨B0, 2, none⟩ = some (.int .i64 (s : Int)) ∧ W.cell? ⟨B0, 3, none⟩ = some (.int .i64 1) ∧ W.cell? ⟨B0, 4, none⟩ = some (.int .i64 1) ∧ W.cell? ⟨B0, 5, none⟩ = some (.int .i64 0) ∧ W.cell? ⟨B0, 6, none⟩ = some (.int .i64 1) ∧ W.cell? ⟨B0, 7, none⟩ = some (.int .i64 100) ∧ W.cell? ⟨B0, 8, none⟩ = some (.int .i64 1) ∧ W.cell? ⟨B0, 9, none⟩ = some (.int .i64 (u : Int)) ∧ W.cell? ⟨B0, 10, none⟩ = some (.int .i64 1) ∧ W.cell? ⟨B0, 11, none⟩ = some (.int .i64 0) from ⟨(hb.cell (p := ⟨B0, 0, none⟩) hlt0).trans ((blk_cell HX2.out 0).trans rfl), (hb.cell (p := ⟨B0, 1, none⟩) hlt0).trans ((blk_cell HX2.out 1).trans rfl), (hb.cell (p := ⟨B0, 2, none⟩) hlt0).trans ((blk_cell HX2.out 2).trans rfl), (hb.cell (p := ⟨B0, 3, none⟩) hlt0).trans ((blk_cell HX2.out 3).trans rfl), (hb.cell (p := ⟨B0, 4, none⟩) hlt0).trans ((blk_cell HX2.out 4).trans rfl), (hb.cell (p := ⟨B0, 5, none⟩) hlt0).trans ((blk_cell HX2.out 5).trans rfl), (hb.cell (p := ⟨B0, 6, none⟩) hlt0).trans ((blk_cell HX2.out 6).trans rfl), (hb.cell (p := ⟨B0, 7, none⟩) hlt0).trans ((blk_cell HX2.out 7).trans rfl), (hb.cell (p := ⟨B0, 8, none⟩) hlt0).trans ((blk_cell HX2.out 8).trans rfl), (hb.cell (p := ⟨B0, 9, none⟩) hlt0).trans ((blk_cell HX2.out 9).trans rfl), (hb.cell (p := ⟨B0, 10, none⟩) hlt0).trans ((blk_cell HX2.out 10).trans rfl), (hb.cell (p := ⟨B0, 11, none⟩) hlt0).trans ((blk_cell HX2.out 11).trans rfl)⟩))
  have X2 := X.out w2 (Below.refl _ _)
  obtain ⟨x0, x1, x2, x3, x4, x5, x6, x7, x8, x9, x10, x11⟩ := X2
  clear HX HX2 HBc
  go_wp2_with fail
  refine (HNew.out w2).mono ?_
  rintro e w3 ⟨rfl, hT, hb3⟩
  have HU := Aside0.mk (show UpS w2 (w2.heap.size + 1) s u wt 0 0 w3 (List.replicate (s + 2) zL) from ⟨40, 0, _, hT, hb3, by omega, List.length_replicate, linv_repU _, fun i _ => by rw [getD_repU]; exact Nat.le_refl _, upAll HS.out.1 HS.out.2.1 HS.out.2.2.1 HS.out.2.2.2 wt⟩)
  have HZ := Aside0.mk hlt0
  clear hT hb3 HNew hlt0 x0 x1 x2 x3 x4 x5 x6 x7 x8 x9 x10 x11
  generalize w2.heap.size + 1 = B at HU ⊢
  go_wp2_with fail
  go_loopg [10] s (fun gg v wr => ∃ (a : Nat) (ls : List LS), a ≤ s ∧ s - a ≤ gg ∧ v = .int .i64 a ∧ Aside0 (UpS w2 B s u wt a 0 wr ls))
  case atStart => exact ⟨0, _, by omega, by omega, rfl, HU⟩
  case round =>
    clear HU
    obtain ⟨a, ls, ha, hga, rfl, HU⟩ := hrel
    by_cases hla : a < s
    · have t1 : (a : Int) < s := by omega
      have HA := Aside0.mk hla
      have WA := Aside0.mk (show wrap64 ((a : Int) + 1) = ((a + 1 : Nat) : Int) by have := HS.out.2.1; unfold wrap64; omega)
      go_wp2_with fail
      go_loopg [11] 4 (fun gg v wr => ∃ (k : Nat) (ls : List LS), k ≤ 4 ∧ 4 - k ≤ gg ∧ v = .int .i64 k ∧ Aside0 (UpS w2 B s u wt a k wr ls))
      case atStart => exact ⟨0, ls, by omega, by omega, rfl, HU⟩
      case round =>
        clear HU
        obtain ⟨k, ls, hk, hgk, rfl, HU⟩ := hrel
        by_cases hlk : k < 4
        · have t2 : (k : Int) < 4 := by omega
          have WK := Aside0.mk (show wrap64 ((k : Int) + 1) = ((k + 1 : Nat) : Int) by unfold wrap64; omega)
          obtain ⟨n, N, f, hT, hB, hNn, hl, hV, hz, hg⟩ := HU.out
          obtain ⟨⟨l, ok⟩, hR⟩ : ∃ R, nxU s u wt a ls = R := ⟨_, rfl⟩
          have HC : Aside0 (Calls Try.prog 32 #[.agg #[.int .i64 1, .int .i64 1, .int .i64 (s : Int), .int .i64 1, .int .i64 1, .int .i64 0, .int .i64 1, .int .i64 100, .int .i64 1, .int .i64 (u : Int), .int .i64 1, .int .i64 0], .pointer (some ⟨B, 0, none⟩), .int .i64 0, .int .i64 (a : Int), .bool wt] wr (fun e w' => e = .returned (.tuple #[.agg #[.int .i64 l.f0, .int .i64 l.f1], .bool ok, .int .i64 0]) ∧ Below wr.heap.size wr w')) :=
            ⟨NextT_ hT hV (by have := HS.out.2.1; omega) (cU s u) 0 a wt lvU paU (fun j hj => lvU_ HS.out.1 HS.out.2.1 HS.out.2.2.1 HS.out.2.2.2 (by omega)) (fun j hj => paU_ HS.out.1 HS.out.2.1 HS.out.2.2.1 HS.out.2.2.2 (by omega)) 0 1 ((2 + a : Nat) : Int) (pathU_ HS.out.1 HS.out.2.1 HS.out.2.2.1 HS.out.2.2.2 hla) _ hR⟩
          have HT := Aside0.mk hT
          have HB := Aside0.mk hB
          have HV := Aside0.mk (And.intro hNn (And.intro hl (And.intro hV hz)))
          obtain ⟨x0, x1, x2, x3, x4, x5, x6, x7, x8, x9, x10, x11⟩ := X.out _ hB
          cases ok with
          | false =>
            obtain ⟨n', hn', hg'⟩ := up_no hg hla hlk hR
            have HG := Aside0.mk (And.intro hn' hg')
            clear hT hB hNn hl hV hz hg hR hn' hg' hla
            go_wp2_with fail
            refine HC.out.mono ?_
            rintro e w5 ⟨rfl, hb⟩
            have HU5 := Aside0.mk (show UpS w2 B s u wt (a + 1) 0 (w5.alloc (.cells #[.int .i64 l.f0, .int .i64 l.f1] 38)) ls from
              ⟨n', N, f, (HT.out.below hb).below (below_alloc (Below.refl _ _) _), below_alloc (below_then HB.out HB.out.size hb) _, by have := HV.out.1; have := HG.out.1; omega, HV.out.2.1, HV.out.2.2.1, HV.out.2.2.2, HG.out.2⟩)
            clear hb HC HT HB x0 x1 x2 x3 x4 x5 x6 x7 x8 x9 x10 x11
            go_wp2
            go_roundg (s - (a + 1))
            case measure => have := HA.out; omega
            case rel => exact ⟨a + 1, ls, by have := HA.out; omega, by omega, by rw [WA.out], HU5⟩
          | true =>
            obtain ⟨hk3, hcond, n', hn', hg'⟩ := up_yes hg hla hlk hR
            have HG := Aside0.mk (And.intro hn' hg')
            have k3 : ((k : Int) == 3) = false := beq_eq_false_iff_ne.2 (by omega)
            have HSm := Aside0.mk (small_of (n := N) (by rw [hl]; have := HS.out.2.1; omega) hz (by omega))
            clear hT hB hNn hl hV hz hg hR hn' hg' hla hk3
            by_cases q1 : l.f0 = 1
            · have e1 : (l.f0 == 1) = true := beq_iff_eq.2 q1
              rw [e1, Bool.true_and] at hcond
              clear q1
              by_cases q2 : l.f1 = 3
              · have e2 : (l.f1 == 3) = true := beq_iff_eq.2 q2
                have e4 : decide ((a : Int) ≥ (u : Int)) = true := decide_eq_true (by rw [e2, Bool.true_or, bne_eq_false_iff_eq] at hcond; have := of_decide_eq_true hcond.symm; omega)
                have e5 : (u : Int) ≤ (a : Int) := of_decide_eq_true e4
                clear q2 hcond
                go_wp2_with fail
                refine HC.out.mono ?_
                rintro e w5 ⟨rfl, hb⟩
                have Y := blk_new w5 (.cells #[.int .i64 l.f0, .int .i64 l.f1] 38)
                have y0 : (w5.alloc (.cells #[.int .i64 l.f0, .int .i64 l.f1] 38)).cell? ⟨w5.heap.size, 0, none⟩ = some (.int .i64 l.f0) := (blk_cell Y 0).trans rfl
                have y1 : (w5.alloc (.cells #[.int .i64 l.f0, .int .i64 l.f1] 38)).cell? ⟨w5.heap.size, 1, none⟩ = some (.int .i64 l.f1) := (blk_cell Y 1).trans rfl
                have HB5 := Aside0.mk (below_alloc (below_then HB.out HB.out.size hb) (.cells #[.int .i64 l.f0, .int .i64 l.f1] 38))
                have HAs := Aside0.mk (AskT_0 ((HT.out.below hb).below (below_alloc (Below.refl _ _) (.cells #[.int .i64 l.f0, .int .i64 l.f1] 38))) HB5.out HSm.out (by have := HV.out.1; omega) 0 l.f0 l.f1 (by decide))
                clear hb HC HT HB Y x0 x1 x2 x3 x4 x5 x6 x7 x8 x9 x10 x11
                go_wp2_with fail
                refine HAs.out.mono ?_
                rintro e w7 ⟨rfl, hT7, hB7⟩
                have HU7 := Aside0.mk (show UpS w2 B s u wt a (k + 1) w7 (askT ls 100 f 0 l.f0 l.f1).2.2.1 from ⟨n', N + 1, _, hT7, hB7, by have := HV.out.1; have := HG.out.1; omega, (askT_len _ _ _ _ _ _).trans HV.out.2.1, askT_inv HV.out.2.2.1 _ _ _ _ _, askT_size HV.out.2.2.2 _ _ _ _ _, HG.out.2⟩)
                clear hT7 hB7 HAs y0 y1
                go_wp2
                go_roundg (4 - (k + 1))
                case measure => omega
                case rel => exact ⟨k + 1, _, by omega, by omega, by first | rw [WK.out] | rfl | simp, HU7⟩
              · have e2 : (l.f1 == 3) = false := beq_eq_false_iff_ne.2 q2
                rw [e2, Bool.false_or] at hcond
                clear q2
                by_cases q3 : l.f1 = 5
                · have e3 : (l.f1 == 5) = true := beq_iff_eq.2 q3
                  have e4 : decide ((a : Int) ≥ (u : Int)) = true := decide_eq_true (by rw [e3, bne_eq_false_iff_eq] at hcond; have := of_decide_eq_true hcond.symm; omega)
                  have e5 : (u : Int) ≤ (a : Int) := of_decide_eq_true e4
                  clear q3 hcond
                  go_wp2_with fail
                  refine HC.out.mono ?_
                  rintro e w5 ⟨rfl, hb⟩
                  have Y := blk_new w5 (.cells #[.int .i64 l.f0, .int .i64 l.f1] 38)
                  have y0 : (w5.alloc (.cells #[.int .i64 l.f0, .int .i64 l.f1] 38)).cell? ⟨w5.heap.size, 0, none⟩ = some (.int .i64 l.f0) := (blk_cell Y 0).trans rfl
                  have y1 : (w5.alloc (.cells #[.int .i64 l.f0, .int .i64 l.f1] 38)).cell? ⟨w5.heap.size, 1, none⟩ = some (.int .i64 l.f1) := (blk_cell Y 1).trans rfl
                  have HB5 := Aside0.mk (below_alloc (below_then HB.out HB.out.size hb) (.cells #[.int .i64 l.f0, .int .i64 l.f1] 38))
                  have HAs := Aside0.mk (AskT_0 ((HT.out.below hb).below (below_alloc (Below.refl _ _) (.cells #[.int .i64 l.f0, .int .i64 l.f1] 38))) HB5.out HSm.out (by have := HV.out.1; omega) 0 l.f0 l.f1 (by decide))
                  clear hb HC HT HB Y x0 x1 x2 x3 x4 x5 x6 x7 x8 x9 x10 x11
                  go_wp2_with fail
                  refine HAs.out.mono ?_
                  rintro e w7 ⟨rfl, hT7, hB7⟩
                  have HU7 := Aside0.mk (show UpS w2 B s u wt a (k + 1) w7 (askT ls 100 f 0 l.f0 l.f1).2.2.1 from ⟨n', N + 1, _, hT7, hB7, by have := HV.out.1; have := HG.out.1; omega, (askT_len _ _ _ _ _ _).trans HV.out.2.1, askT_inv HV.out.2.2.1 _ _ _ _ _, askT_size HV.out.2.2.2 _ _ _ _ _, HG.out.2⟩)
                  clear hT7 hB7 HAs y0 y1
                  go_wp2
                  go_roundg (4 - (k + 1))
                  case measure => omega
                  case rel => exact ⟨k + 1, _, by omega, by omega, by first | rw [WK.out] | rfl | simp, HU7⟩
                · have e3 : (l.f1 == 5) = false := beq_eq_false_iff_ne.2 q3
                  have e4 : decide ((a : Int) ≥ (u : Int)) = false := decide_eq_false (by rw [e3, bne_eq_false_iff_eq] at hcond; have := of_decide_eq_false hcond.symm; omega)
                  have e5 : ¬ (u : Int) ≤ (a : Int) := of_decide_eq_false e4
                  clear q3 hcond
                  go_wp2_with fail
                  refine HC.out.mono ?_
                  rintro e w5 ⟨rfl, hb⟩
                  have Y := blk_new w5 (.cells #[.int .i64 l.f0, .int .i64 l.f1] 38)
                  have y0 : (w5.alloc (.cells #[.int .i64 l.f0, .int .i64 l.f1] 38)).cell? ⟨w5.heap.size, 0, none⟩ = some (.int .i64 l.f0) := (blk_cell Y 0).trans rfl
                  have y1 : (w5.alloc (.cells #[.int .i64 l.f0, .int .i64 l.f1] 38)).cell? ⟨w5.heap.size, 1, none⟩ = some (.int .i64 l.f1) := (blk_cell Y 1).trans rfl
                  have HB5 := Aside0.mk (below_alloc (below_then HB.out HB.out.size hb) (.cells #[.int .i64 l.f0, .int .i64 l.f1] 38))
                  have HAs := Aside0.mk (AskT_0 ((HT.out.below hb).below (below_alloc (Below.refl _ _) (.cells #[.int .i64 l.f0, .int .i64 l.f1] 38))) HB5.out HSm.out (by have := HV.out.1; omega) 0 l.f0 l.f1 (by decide))
                  clear hb HC HT HB Y x0 x1 x2 x3 x4 x5 x6 x7 x8 x9 x10 x11
                  go_wp2_with fail
                  refine HAs.out.mono ?_
                  rintro e w7 ⟨rfl, hT7, hB7⟩
                  have HU7 := Aside0.mk (show UpS w2 B s u wt a (k + 1) w7 (askT ls 100 f 0 l.f0 l.f1).2.2.1 from ⟨n', N + 1, _, hT7, hB7, by have := HV.out.1; have := HG.out.1; omega, (askT_len _ _ _ _ _ _).trans HV.out.2.1, askT_inv HV.out.2.2.1 _ _ _ _ _, askT_size HV.out.2.2.2 _ _ _ _ _, HG.out.2⟩)
                  clear hT7 hB7 HAs y0 y1
                  go_wp2
                  go_roundg (4 - (k + 1))
                  case measure => omega
                  case rel => exact ⟨k + 1, _, by omega, by omega, by first | rw [WK.out] | rfl | simp, HU7⟩
            · have e1 : (l.f0 == 1) = false := beq_eq_false_iff_ne.2 q1
              clear q1 hcond
              go_wp2_with fail
              refine HC.out.mono ?_
              rintro e w5 ⟨rfl, hb⟩
              have Y := blk_new w5 (.cells #[.int .i64 l.f0, .int .i64 l.f1] 38)
              have y0 : (w5.alloc (.cells #[.int .i64 l.f0, .int .i64 l.f1] 38)).cell? ⟨w5.heap.size, 0, none⟩ = some (.int .i64 l.f0) := (blk_cell Y 0).trans rfl
              have y1 : (w5.alloc (.cells #[.int .i64 l.f0, .int .i64 l.f1] 38)).cell? ⟨w5.heap.size, 1, none⟩ = some (.int .i64 l.f1) := (blk_cell Y 1).trans rfl
              have HB5 := Aside0.mk (below_alloc (below_then HB.out HB.out.size hb) (.cells #[.int .i64 l.f0, .int .i64 l.f1] 38))
              have HAs := Aside0.mk (AskT_0 ((HT.out.below hb).below (below_alloc (Below.refl _ _) (.cells #[.int .i64 l.f0, .int .i64 l.f1] 38))) HB5.out HSm.out (by have := HV.out.1; omega) 0 l.f0 l.f1 (by decide))
              clear hb HC HT HB Y x0 x1 x2 x3 x4 x5 x6 x7 x8 x9 x10 x11
              go_wp2_with fail
              refine HAs.out.mono ?_
              rintro e w7 ⟨rfl, hT7, hB7⟩
              have HU7 := Aside0.mk (show UpS w2 B s u wt a (k + 1) w7 (askT ls 100 f 0 l.f0 l.f1).2.2.1 from ⟨n', N + 1, _, hT7, hB7, by have := HV.out.1; have := HG.out.1; omega, (askT_len _ _ _ _ _ _).trans HV.out.2.1, askT_inv HV.out.2.2.1 _ _ _ _ _, askT_size HV.out.2.2.2 _ _ _ _ _, HG.out.2⟩)
              clear hT7 hB7 HAs y0 y1
              go_wp2
              go_roundg (4 - (k + 1))
              case measure => omega
              case rel => exact ⟨k + 1, _, by omega, by omega, by first | rw [WK.out] | rfl | simp, HU7⟩
        · have ek : k = 4 := by omega
          subst ek
          obtain ⟨n, N, f, hT, hB, hNn, hl, hV, hz, hg⟩ := HU.out
          obtain ⟨n', hn', hg'⟩ := up_four hg hla
          have HU5 := Aside0.mk (show UpS w2 B s u wt (a + 1) 0 wr ls from ⟨n', N, f, hT, hB, by omega, hl, hV, hz, hg'⟩)
          clear hT hB hNn hl hV hz hg hn' hg' hla
          go_wp2
          go_roundg (s - (a + 1))
          case measure => have := HA.out; omega
          case rel => exact ⟨a + 1, ls, by have := HA.out; omega, by omega, by rw [WA.out], HU5⟩
    · have ea : s = a := by omega
      subst ea
      have t1 : ¬ (s : Int) < s := by omega
      obtain ⟨n, N, f, hT, hB, hNn, hl, hV, hz, hg⟩ := HU.out
      obtain ⟨g1, g2⟩ := up_end hg (Nat.le_refl _)
      obtain ⟨x0, x1, x2, x3, x4, x5, x6, x7, x8, x9, x10, x11⟩ := X.out _ hB
      have HB := Aside0.mk hB
      have HStr : Aside0 (Calls Try.prog 33 #[.agg #[.int .i64 1, .int .i64 1, .int .i64 (s : Int), .int .i64 1, .int .i64 1, .int .i64 0, .int .i64 1, .int .i64 100, .int .i64 1, .int .i64 (u : Int), .int .i64 1, .int .i64 0], .pointer (some ⟨B, 0, none⟩), .int .i64 0, .int .i64 1] wr (fun e w' => e = .returned (.int .i64 ((min s u : Nat) : Int)) ∧ Below wr.heap.size wr w')) :=
        ⟨by rw [← g1]; exact Stripes_ hT (by have := HS.out.2.1; omega) (cU s u) 0 1 lvU paU (fun j hj => lvU_ HS.out.1 HS.out.2.1 HS.out.2.2.1 HS.out.2.2.2 (by omega)) (fun j hj => paU_ HS.out.1 HS.out.2.1 HS.out.2.2.1 HS.out.2.2.2 (by omega))⟩
      have HHo := Aside0.mk (fun W (hb : Below wr.heap.size wr W) => HoldsT_ (hT.below hb) 0 1)
      have HRd := Aside0.mk (fun W => Reads_M (holdsT ls 0 1) W (told_md_T hV 0 1))
      rw [g2] at HRd
      have HM := Aside0.mk (show (u < s → min s u = u) ∧ (¬ u < s → min s u = s) from ⟨fun h => by omega, fun h => by omega⟩)
      clear hT hB hNn hl hV hz hg g1 g2 ha hga hla HU
      generalize holdsT ls 0 1 = hv at HHo HRd
      by_cases hsu : u < s
      · have m1 := HM.out.1 hsu
        rw [m1] at HStr
        rw [decide_eq_true hsu] at HRd
        have k1 : decide ((s : Int) > (u : Int)) = true := decide_eq_true (by omega)
        have mm : min (s : Int) (u : Int) = (u : Int) := by omega
        have mi : (if (u : Int) < (s : Int) then (u : Int) else (s : Int)) = (u : Int) := if_pos (by omega)
        have HK := Aside0.mk hsu
        clear hsu m1
        go_wp2_with fail
        refine HStr.out.mono ?_
        rintro e w5 ⟨rfl, hb⟩
        have HB5 := Aside0.mk hb
        clear hb HStr x0 x1 x2 x3 x4 x5 x6 x7 x8 x9 x10 x11
        go_wp2_with fail
        refine (HHo.out w5 HB5.out).mono ?_
        rintro e w6 ⟨rfl, hb⟩
        have HB6 := Aside0.mk (below_then HB5.out HB5.out.size hb)
        clear hb HHo
        go_wp2_with fail
        refine (HRd.out w6).mono ?_
        rintro e w7 ⟨rfl, hb⟩
        have HB7 := Aside0.mk (below_then HB6.out HB6.out.size hb)
        clear hb HRd
        go_wp2_with fail
        refine (firstP_ w7).mono ?_
        rintro e w8 ⟨rfl, hb⟩
        have HB8 := Aside0.mk (below_then HB2.out HB2.out.size (below_then HB.out HB.out.size (below_then HB7.out HB7.out.size hb)))
        clear hb
        go_wp2
        go_ret
        exact ⟨by show Ending.returned (.bool _) = _; have := HK.out; simp [this], HB8.out⟩
      · have m1 := HM.out.2 hsu
        rw [m1] at HStr
        rw [decide_eq_false hsu] at HRd
        have k1 : decide ((s : Int) > (u : Int)) = false := decide_eq_false (by omega)
        have mm : min (s : Int) (u : Int) = (s : Int) := by omega
        have mi : (if (u : Int) < (s : Int) then (u : Int) else (s : Int)) = (s : Int) := if_neg (by omega)
        have HK := Aside0.mk hsu
        clear hsu m1
        go_wp2_with fail
        refine HStr.out.mono ?_
        rintro e w5 ⟨rfl, hb⟩
        have HB5 := Aside0.mk hb
        clear hb HStr x0 x1 x2 x3 x4 x5 x6 x7 x8 x9 x10 x11
        go_wp2_with fail
        refine (HHo.out w5 HB5.out).mono ?_
        rintro e w6 ⟨rfl, hb⟩
        have HB6 := Aside0.mk (below_then HB5.out HB5.out.size hb)
        clear hb HHo
        go_wp2_with fail
        refine (HRd.out w6).mono ?_
        rintro e w7 ⟨rfl, hb⟩
        have HB7 := Aside0.mk (below_then HB6.out HB6.out.size hb)
        clear hb HRd
        go_wp2_with fail
        refine (firstP_ w7).mono ?_
        rintro e w8 ⟨rfl, hb⟩
        have HB8 := Aside0.mk (below_then HB2.out HB2.out.size (below_then HB.out HB.out.size (below_then HB7.out HB7.out.size hb)))
        clear hb
        go_wp2
        go_ret
        exact ⟨by show Ending.returned (.bool _) = _; have := HK.out; simp [this], HB8.out⟩
theorem up_walk (s u : Int) (wt : Bool) (w : World) :
    Calls Try.prog 5 #[.int .i64 s, .int .i64 u, .bool wt] w fun e w' => e = .returned (.bool true) ∧ Below w.heap.size w w' := by
  by_cases h : s < 1 ∨ s > 8 ∨ u < 1 ∨ u > 8
  · exact up_bad s u wt w h
  · obtain ⟨m, rfl⟩ : ∃ m : Nat, s = m := ⟨s.toNat, by omega⟩
    obtain ⟨k, rfl⟩ : ∃ k : Nat, u = k := ⟨u.toNat, by omega⟩
    exact up_in m k wt w (by omega) (by omega) (by omega) (by omega)
end Go.Proofs.Ytagdgkimjgomlaa.Ln
