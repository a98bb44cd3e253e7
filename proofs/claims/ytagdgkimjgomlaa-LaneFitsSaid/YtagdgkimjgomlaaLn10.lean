/- A lane's Leave: the walk's parts. -/
import Derived.Test.YtagdgkimjgomlaaLn9
import Derived.Test.YtagdgkimjgomlaaQuiet
namespace Go.Proofs.Ytagdgkimjgomlaa.Ln
open Go.RowKit Go.Proofs.YtagdgkimjgomlaaW.PrintWords Go.Proofs.YtagdgkimjgomlaaW.PrintLast Go.Proofs.YtagdgkimjgomlaaW.PrintMore Go.Proofs.Ytagdgkimjgomlaa.PMd
open Go.Sort (grow)
set_option linter.unusedVariables false
set_option linter.unusedSimpArgs false
/-- Who is granted when the first ones that wait may. -/
def serveQ : List E → List E → List Int × List E × List E
  | hs, [] => ([], hs, [])
  | hs, x :: qs => if fitsAll hs x.f0 x.f1 then (x.f0 :: (serveQ (grantsIn hs x.f0 x.f1) qs).1, (serveQ (grantsIn hs x.f0 x.f1) qs).2) else ([], hs, x :: qs)
def fl (l : List E) (who : Int) : List E := l.filter fun x => !(x.f0 == who)
def leaveIn (hs qs : List E) (who : Int) : List Int × List E × List E := serveQ (fl hs who) (fl qs who)
def ints (l : List Int) : List Value := l.map (Value.int .i64)
set_option maxHeartbeats 8000000 in
set_option maxRecDepth 100000 in
theorem leave1 (x : E) (who : Int) (g : Nat) (w : World) (hc : w.cell? ⟨g, 0, none⟩ = some (.int .i64 who)) :
    Calls Try.prog 81 #[.agg #[.int .i64 x.f0, .int .i64 x.f1], .pointer (some ⟨g, 0, none⟩)] w fun e w' => e = .returned (.bool (x.f0 == who)) ∧ Below w.heap.size w w' := by
  have hu67 := Try.underlying67
  have hc2 : (w.alloc (.cells #[.int .i64 x.f0, .int .i64 x.f1] 67)).cell? ⟨g, 0, none⟩ = some (.int .i64 who) := cell_al hc _
  go_enter Try.func81, Try.ntmps81
  go_wp2
  go_ret
  exact ⟨rfl, below_alloc (Below.refl _ _) _⟩
theorem enters_leave1 : ∀ args w, (callFunc 81 args).run Try.prog w = .ok (.enter 81 args) w := ent_of Try.func81 (by kernel_rfl) rfl
theorem leave1.predG (who : Int) (g : Nat) (A : Option Addr) (w : World) (hc : w.cell? ⟨g, 0, none⟩ = some (.int .i64 who)) (hn : ¬ blk A g) : PredG 81 #[.pointer (some ⟨g, 0, none⟩)] (fun x => x.f0 == who) A w :=
  fun W x hG => leave1 x who g W (hG.cell hc hn)
theorem del_who (A : Option Addr) (c : Nat) (l : List E) (who : Int) (g : Nat) (w : World) (hR : Row w 67 2 A l.length c (flat l)) (hc : w.cell? ⟨g, 0, none⟩ = some (.int .i64 who)) (hn : ¬ blk A g) (hl : l.length ≤ 1000000) :
    Calls Try.prog 82 #[.slice A l.length c, .func (.func 81) #[] #[.pointer (some ⟨g, 0, none⟩)]] w fun e w' =>
      e = .returned (.slice A (fl l who).length c) ∧ Row w' 67 2 A (fl l who).length c (flat (fl l who)) ∧ Grew (blk A) w w' :=
  DeleteFunc_ _ _ (fun x => x.f0 == who) enters_leave1 A c l w hR (leave1.predG who g A w hc hn) hl
/-- Its blocks, no more. -/
theorem IsLane.exact_ {w : World} {b : Nat} {F : Nat → Prop} {hs qs : List E} (h : IsLane w b F hs qs) : ∃ F0 : Nat → Prop, IsLane w b F0 hs qs ∧ (∀ k, F0 k → F k ∧ k < w.heap.size) := by
  obtain ⟨hA, hc, qA, qc, h1, h2, h3, h4, h5, h6, h7⟩ := h
  refine ⟨fun k => k = b ∨ blk hA k ∨ blk qA k, ⟨hA, hc, qA, qc, h1, .inl rfl, h3, fun k hk => .inr (.inl hk), h5, fun k hk => .inr (.inr hk), h7⟩, fun k hk => ?_⟩
  rcases hk with rfl | hk | hk
  · exact ⟨h2, (Array.getElem?_eq_some_iff.1 h1).1⟩
  · exact ⟨h4 k hk, h3.lt hk⟩
  · exact ⟨h6 k hk, h5.lt hk⟩
theorem one_at {w : World} {g : Nat} {v : Value} {t : TypeId} (h : w.heap[g]? = some (.cells #[v] t (0, 0))) : ∀ j u, [v][j]? = some u → w.cell? ((⟨g, 0, none⟩ : Addr).add j) = some u := by
  intro j u hu
  rw [Addr.add_lit, Nat.zero_add]
  exact (blk_cell h j).trans (by simpa using hu)
theorem one_one (n : Int) : ∀ u ∈ [Value.int .i64 n], u.oneCell' = true := by
  intro u hu
  obtain rfl : u = Value.int .i64 n := by simpa using hu
  rfl
theorem grants_len (hs : List E) (who m : Int) : (grantsIn hs who m).length ≤ hs.length + 1 := by
  unfold grantsIn
  split
  · rw [List.length_set]; omega
  · rw [(insE_perm hs ⟨who, m⟩).length_eq]; simp
/-- The test of Leave's loop. -/
def LoopIn (b : Nat) (F : Nat → Prop) (w : World) (R : List Int × List E × List E) (N : Nat) (v : Value) (gg : Nat) (wr : World) : Prop :=
  ∃ (hs qs : List E) (out : List Int) (A' : Option Addr) (c' : Nat) (F0 : Nat → Prop), v = .slice A' out.length c' ∧ qs.length ≤ gg ∧ IsLane wr b F0 hs qs ∧ Row wr 3 1 A' out.length c' (ints out) ∧ (∀ k, blk A' k → w.heap.size ≤ k) ∧
    (∀ k, F0 k → (F k ∨ w.heap.size ≤ k) ∧ ¬ blk A' k ∧ k < wr.heap.size) ∧ Grew F w wr ∧ Asc hs ∧ (out ++ (serveQ hs qs).1, (serveQ hs qs).2) = R ∧ out.length + hs.length + 2 * qs.length ≤ N
set_option maxHeartbeats 8000000 in
set_option maxRecDepth 100000 in
theorem Leave_ (w : World) (b : Nat) (F : Nat → Prop) (hs qs : List E) (who : Int) (hI : IsLane w b F hs qs) (ha : Asc hs) (hl : hs.length + 2 * qs.length ≤ 900000) (hF : ∀ k, F k → k < w.heap.size) :
    Calls Try.prog 50 #[.pointer (some ⟨b, 0, none⟩), .int .i64 who] w fun e w' => ∃ A' c', e = .returned (.slice A' (leaveIn hs qs who).1.length c') ∧ Row w' 3 1 A' (leaveIn hs qs who).1.length c' (ints (leaveIn hs qs who).1) ∧
      (∀ k, blk A' k → w.heap.size ≤ k) ∧ IsLane w' b (fun k => (F k ∨ w.heap.size ≤ k) ∧ ¬ blk A' k) (leaveIn hs qs who).2.1 (leaveIn hs qs who).2.2 ∧ Grew F w w' := by
  have hu := Try.underlying105
  have hu67 := Try.underlying67
  obtain ⟨hA, hc, qA, qc, h1, h2, h3, h4, h5, h6, h7⟩ := hI
  have hcell0 : (w.alloc (.cells #[.int .i64 who] 3)).cell? ⟨w.heap.size, 0, none⟩ = some (.int .i64 who) := (blk_cell (blk_new w _) 0).trans rfl
  have ga : ¬ blk hA w.heap.size := fun h => Nat.lt_irrefl _ (h3.lt h)
  have gq : ¬ blk qA w.heap.size := fun h => Nat.lt_irrefl _ (h5.lt h)
  have HD1 := Aside0.mk (del_who hA hc hs who w.heap.size (w.alloc (.cells #[.int .i64 who] 3)) (h3.alloc _) hcell0 ga (by omega))
  have b0 := blk_alloc h1 (.cells #[.int .i64 who] 3)
  have c0 : (w.alloc (.cells #[.int .i64 who] 3)).cell? ⟨b, 0, none⟩ = some (.slice hA hs.length hc) := (blk_cell b0 0).trans rfl
  have B0 := Aside0.mk b0
  have H2 := Aside0.mk h2
  have H3 := Aside0.mk h3
  have H4 := Aside0.mk h4
  have H5 := Aside0.mk (h5.alloc (.cells #[.int .i64 who] 3))
  have H6 := Aside0.mk h6
  have H7 := Aside0.mk h7
  have HL := Aside0.mk hl
  have HA := Aside0.mk ha
  have GA := Aside0.mk ga
  have GQ := Aside0.mk gq
  have C0 := Aside0.mk hcell0
  have HF := Aside0.mk hF
  clear h1 h2 h3 h4 h5 h6 h7 hl ha ga gq hcell0 b0 hF
  go_enter Try.func50, Try.ntmps50
  go_wp2_with fail
  refine HD1.out.mono ?_
  rintro e w3 ⟨rfl, hR3, hG3⟩
  have hbA : ¬ blk hA b := (H3.out.alloc (.cells #[.int .i64 who] 3)).ne B0.out (by decide)
  have b3 := (hG3.block b (Array.getElem?_eq_some_iff.1 B0.out).1 hbA).trans B0.out
  have c3 : w3.cell? ⟨b, 0, none⟩ = some (.slice hA hs.length hc) := (blk_cell b3 0).trans rfl
  have d3 : w3.cell? ⟨b, 1, none⟩ = some (.slice qA qs.length qc) := (blk_cell b3 1).trans rfl
  have f3 : w3.frozen? ⟨b, 0, none⟩ = false := blk_frozen b3 0
  have B3 := Aside0.mk b3
  have HR3 := Aside0.mk hR3
  have HG3 := Aside0.mk hG3
  clear c0 hbA b3 hR3 hG3
  go_wp2_with fail
  have hbw : b ≠ w.heap.size := fun e => by have := (Array.getElem?_eq_some_iff.1 B0.out).1; have hc0 := B0.out; rw [e, blk_new] at hc0; injection hc0 with hc0; injection hc0 with _ hc0; exact absurd hc0 (by decide)
  have hqb : ¬ blk qA b := H5.out.ne B0.out (by decide)
  have q4 := (H5.out.grew HG3.out (fun k h h2 => H7.out k h2 h)).set (p := ⟨b, 0, none⟩) hqb (.slice hA (fl hs who).length hc)
  have e4 : (w3.setCell ⟨b, 0, none⟩ (.slice hA (fl hs who).length hc)).cell? ⟨w.heap.size, 0, none⟩ = some (.int .i64 who) := by
    rw [World.cell?_of_block (w := w3) (Below.heap_setCell w3 ⟨b, 0, none⟩ _ w.heap.size (fun e => hbw e.symm))]
    exact HG3.out.cell C0.out GA.out
  have HD2 := Aside0.mk (del_who qA qc qs who w.heap.size _ q4 e4 GQ.out (by have := HL.out; omega))
  have HQB := Aside0.mk hqb
  have B4 := Aside0.mk (blk_put B3.out 0 (.slice hA (fl hs who).length hc) rfl)
  have HR4 := Aside0.mk (HR3.out.set (p := ⟨b, 0, none⟩) ((H3.out.alloc (.cells #[.int .i64 who] 3)).ne B0.out (by decide)) (.slice hA (fl hs who).length hc))
  have HG4 := Aside0.mk (((Grew.of_below (below_alloc (Below.refl w.heap.size w) (.cells #[.int .i64 who] 3))).trans HG3.out (fun k h => .inl (H4.out k h))).setCell (p := ⟨b, 0, none⟩) (.inl H2.out) (.slice hA (fl hs who).length hc))
  generalize w3.setCell ⟨b, 0, none⟩ (.slice hA (fl hs who).length hc) = w4 at HD2 B4 HR4 HG4 ⊢
  clear c3 d3 f3 hqb q4 e4 hbw B3 HR3 HG3
  refine HD2.out.mono ?_
  rintro e w5 ⟨rfl, hR5, hG5⟩
  have b5 := (hG5.block b (Array.getElem?_eq_some_iff.1 B4.out).1 HQB.out).trans B4.out
  have c5 : w5.cell? ⟨b, 1, none⟩ = some (.slice qA qs.length qc) := (blk_cell b5 1).trans rfl
  have f5 : w5.frozen? ⟨b, 1, none⟩ = false := blk_frozen b5 1
  have B6 := Aside0.mk (blk_put b5 1 (.slice qA (fl qs who).length qc) rfl)
  have HI6 := Aside0.mk (show IsLane (w5.setCell ⟨b, 1, none⟩ (.slice qA (fl qs who).length qc)) b (fun k => k = b ∨ blk hA k ∨ blk qA k) (fl hs who) (fl qs who) from
    ⟨hA, hc, qA, qc, B6.out, .inl rfl, (HR4.out.grew hG5 (fun k h h2 => H7.out k h h2)).set (p := ⟨b, 1, none⟩) (HR4.out.ne B4.out (by decide)) _, fun k hk => .inr (.inl hk), hR5.set (p := ⟨b, 1, none⟩) HQB.out _, fun k hk => .inr (.inr hk), H7.out⟩)
  have HG6 := Aside0.mk ((HG4.out.trans hG5 (fun k h => .inl (H6.out k h))).setCell (p := ⟨b, 1, none⟩) (.inl H2.out) (.slice qA (fl qs who).length qc))
  have HZ := Aside0.mk (show ∀ k, (k = b ∨ blk hA k ∨ blk qA k) → (F k ∨ w.heap.size ≤ k) ∧ ¬ blk none k ∧ k < (w5.setCell ⟨b, 1, none⟩ (.slice qA (fl qs who).length qc)).heap.size from fun k hk => by
    have hf : F k := by rcases hk with rfl | h | h; exact H2.out; exact H4.out k h; exact H6.out k h
    exact ⟨.inl hf, fun h => blk_none h, Nat.lt_of_lt_of_le (HF.out k hf) HG6.out.size⟩)
  have HA6 := Aside0.mk (show Asc (fl hs who) from List.Pairwise.filter _ HA.out)
  have HL6 := Aside0.mk (show ([] : List Int).length + (fl hs who).length + 2 * (fl qs who).length ≤ 900000 from by
    have h1 : (fl hs who).length ≤ hs.length := List.length_filter_le _ _
    have h2 : (fl qs who).length ≤ qs.length := List.length_filter_le _ _
    have := HL.out
    simp only [List.length_nil]
    omega)
  clear hR5 hG5 b5
  go_wp2_with fail
  generalize w5.setCell ⟨b, 1, none⟩ (.slice qA (fl qs who).length qc) = w6 at B6 HI6 HG6 HZ ⊢
  clear c5 f5
  go_loopg [6] (fl qs who).length (fun gg v wr => LoopIn b F w (leaveIn hs qs who) 900000 v gg wr)
  case atStart => exact ⟨fl hs who, fl qs who, [], none, 0, _, rfl, Nat.le_refl _, HI6.out, Row.zero _ _ _, fun k h => (blk_none h).elim, HZ.out, HG6.out, HA6.out, rfl, HL6.out⟩
  case round =>
    clear B6 HI6 HG6 HZ HA6 HL6 HD2 HQB B4 HR4 HG4 B0 H3 H4 H5 H6 H7 HA GA GQ C0 HD1
    obtain ⟨hs1, qs1, out, A', c', F0, rfl, hgg, hI1, hRo, hko, hF0, hG1, ha1, hRes, hN⟩ := hrel
    cases qs1 with
    | nil =>
      have HI1 := Aside0.mk hI1
      obtain ⟨hA1, hc1, qA1, qc1, x0, x1, y0, y1, z0, z1⟩ := hI1.open_
      have mixed : Try.prog.follows Departure.mixedOrders = true := by kernel_rfl
      have cg := fun d os => cell_gr x1 d os
      have HRo := Aside0.mk hRo
      have HKo := Aside0.mk hko
      have HF0 := Aside0.mk hF0
      have HG1 := Aside0.mk hG1
      have HRes := Aside0.mk hRes
      clear hI1 hRo hko hF0 hG1 hRes x0 y0 y1 z0 z1 ha1
      go_wp2_with fail
      refine wp_region_gr mixed (by kernel_rfl) ?_
      repeat (go_big_quiet_step (fail))
      refine wpQuiet_nil ?_
      intro _ hw'
      obtain ⟨⟨d, os⟩, rfl⟩ := hw'
      go_wp2_with fail
      go_ret
      have hb := below_gr wr d os
      have hr : leaveIn hs qs who = (out, hs1, []) := by rw [← HRes.out]; simp [serveQ]
      rw [hr]
      exact ⟨A', c', rfl, HRo.out.below hb, HKo.out, (HI1.out.below hb).mono (fun k hk h => ⟨(HF0.out k h).1, (HF0.out k h).2.1⟩), HG1.out.below hb⟩
    | cons x qs1 =>
      have HI1 := Aside0.mk hI1
      obtain ⟨hA1, hc1, qA1, qc1, h1, h2, h3, h4, h5, h6, h7⟩ := hI1
      have mixed : Try.prog.follows Departure.mixedOrders = true := by kernel_rfl
      obtain ⟨gq, oq, cur, rfl, _, _, hcq⟩ := h5.at_ (by simp)
      have x1 : wr.cell? ⟨b, 1, none⟩ = some (.slice (some ⟨gq, oq, none⟩) (x :: qs1).length qc1) := (blk_cell h1 1).trans rfl
      have q0 : wr.cell? ⟨gq, oq, none⟩ = some (.int .i64 x.f0) := (hcq 0 _ rfl).1
      have q1 : wr.cell? ⟨gq, oq + 1, none⟩ = some (.int .i64 x.f1) := (hcq 1 _ rfl).1
      have H1 := Aside0.mk h1
      have H2' := Aside0.mk h2
      have H3 := Aside0.mk h3
      have H4 := Aside0.mk h4
      have H5 := Aside0.mk h5
      have H6 := Aside0.mk h6
      have H7 := Aside0.mk h7
      have cg := fun d os => cell_gr x1 d os
      have cq0 := fun d os => cell_gr q0 d os
      have cq1 := fun d os => cell_gr q1 d os
      have HFT := Aside0.mk (fun d os => fits_ (grow (wat wr d) os) b F0 hs1 (x :: qs1) x.f0 x.f1 (HI1.out.below (below_gr wr d os)))
      have p1 : decide (0 < (x :: qs1).length) = true := decide_eq_true (by simp)
      have p2 : (0 : Int) < ((x :: qs1).length : Int) := by rw [List.length_cons]; omega
      have HRo := Aside0.mk hRo
      have HKo := Aside0.mk hko
      have HF0 := Aside0.mk hF0
      have HG1 := Aside0.mk hG1
      have HRes := Aside0.mk hRes
      have HN := Aside0.mk hN
      have HGG := Aside0.mk hgg
      have HA1 := Aside0.mk ha1
      clear h1 h2 h3 h4 h5 h6 h7 hcq hRo hko hF0 hG1 hRes ha1 hN hgg
      generalize hqn : (x :: qs1).length = qn at p1 p2 cg x1
      have HQN := Aside0.mk hqn
      clear hqn
      cases hfit : fitsAll hs1 x.f0 x.f1 with
      | false =>
        rw [hfit] at HFT
        have HFIT := Aside0.mk hfit
        clear hfit
        go_wp2_with fail
        refine wp_region_gr mixed (by kernel_rfl) ?_
        repeat (go_big_quiet_step (exact Calls.gr_of (HFT.out _ _)))
        -- THE WAYS
        refine wpQuiet_nil ?_
        intro _ hw'
        obtain ⟨⟨d, os⟩, rfl⟩ := hw'
        go_wp2_with fail
        go_ret
        have hb := below_gr wr d os
        have hr : leaveIn hs qs who = (out, hs1, x :: qs1) := by rw [← HRes.out]; simp [serveQ, HFIT.out]
        rw [hr]
        exact ⟨A', c', rfl, HRo.out.below hb, HKo.out, (HI1.out.below hb).mono (fun k hk h => ⟨(HF0.out k h).1, (HF0.out k h).2.1⟩), HG1.out.below hb⟩
      | true =>
        rw [hfit] at HFT
        have HFIT := Aside0.mk hfit
        clear hfit
        go_wp2_with fail
        refine wp_region_gr mixed (by kernel_rfl) ?_
        repeat (go_big_quiet_step (exact Calls.gr_of (HFT.out _ _)))
        refine wpQuiet_nil ?_
        intro _ hw'
        obtain ⟨⟨d, os⟩, rfl⟩ := hw'
        have HB2 := Aside0.mk (below_gr wr d os)
        generalize grow (wat wr d) os = w2 at HB2 ⊢
        clear cg cq0 cq1 HFT d os
        have y0 := cell_be q0 HB2.out
        have y1 := cell_be q1 HB2.out
        have z1 := cell_be x1 HB2.out
        have b2 := (HB2.out.block b (Array.getElem?_eq_some_iff.1 H1.out).1).trans H1.out
        have x1a := cell_al z1 (.cells #[.int .i64 x.f0, .int .i64 x.f1] 67)
        have b2a := blk_alloc b2 (.cells #[.int .i64 x.f0, .int .i64 x.f1] 67)
        have f1a : (w2.alloc (.cells #[.int .i64 x.f0, .int .i64 x.f1] 67)).frozen? ⟨b, 1, none⟩ = false := blk_frozen b2a 1
        have bx := blk_new w2 (.cells #[.int .i64 x.f0, .int .i64 x.f1] 67)
        have hne : w2.heap.size ≠ b := fun e => by have := (Array.getElem?_eq_some_iff.1 b2).1; omega
        have B2A := Aside0.mk b2a
        have BX := Aside0.mk bx
        have HNE := Aside0.mk hne
        have h1l : (1 : Int) ≤ (qn : Int) := by omega
        have HQ1 := HQN.out
        clear q0 q1 x1 b2 b2a bx hne
        by_cases hq1 : qc1 = 1
        · subst hq1
          have b3 := Aside0.mk (blk_put B2A.out 1 (.slice (some ⟨gq, oq, none⟩) (qn - 1) 0) rfl)
          have bx3 := (Below.heap_setCell (w2.alloc (.cells #[.int .i64 x.f0, .int .i64 x.f1] 67)) ⟨b, 1, none⟩ (.slice (some ⟨gq, oq, none⟩) (qn - 1) 0) w2.heap.size HNE.out).trans BX.out
          have g0 : ((w2.alloc (.cells #[.int .i64 x.f0, .int .i64 x.f1] 67)).setCell ⟨b, 1, none⟩ (.slice (some ⟨gq, oq, none⟩) (qn - 1) 0)).cell? ⟨w2.heap.size, 0, none⟩ = some (.int .i64 x.f0) := (blk_cell bx3 0).trans rfl
          have g1 : ((w2.alloc (.cells #[.int .i64 x.f0, .int .i64 x.f1] 67)).setCell ⟨b, 1, none⟩ (.slice (some ⟨gq, oq, none⟩) (qn - 1) 0)).cell? ⟨w2.heap.size, 1, none⟩ = some (.int .i64 x.f1) := (blk_cell bx3 1).trans rfl
          have BX3 := Aside0.mk bx3
          have hR5 := H5.out.from_ 1 (by simp)
          rw [HQN.out] at hR5
          have hq5 : (flat (x :: qs1)).drop (1 * 2) = flat qs1 := rfl
          have hn5 : qn - 1 = qs1.length := by rw [← HQN.out]; rfl
          have hR5' : Row wr 67 2 (some ⟨gq, oq, none⟩) qs1.length 0 (flat qs1) := by
            rw [← hn5, ← hq5]
            simpa using hR5
          have hI3 : IsLane ((w2.alloc (.cells #[.int .i64 x.f0, .int .i64 x.f1] 67)).setCell ⟨b, 1, none⟩ (.slice (some ⟨gq, oq, none⟩) (qn - 1) 0)) b F0 hs1 qs1 := by
            refine ⟨hA1, hc1, some ⟨gq, oq, none⟩, 0, ?_, H2'.out, ((H3.out.below HB2.out).alloc _).set (p := ⟨b, 1, none⟩) (H3.out.ne H1.out (by decide)) _, H4.out, ((hR5'.below HB2.out).alloc _).set (p := ⟨b, 1, none⟩) (hR5'.ne H1.out (by decide)) _, ?_, ?_⟩
            · rw [← hn5]; exact b3.out
            · rintro k ⟨a, h, e⟩; cases h; exact H6.out k ⟨_, rfl, e⟩
            · rintro k h ⟨a, h2, e⟩; cases h2; exact H7.out k h ⟨_, rfl, e⟩
          have hG3 : Grew F0 wr ((w2.alloc (.cells #[.int .i64 x.f0, .int .i64 x.f1] 67)).setCell ⟨b, 1, none⟩ (.slice (some ⟨gq, oq, none⟩) (qn - 1) 0)) := ((Grew.of_below HB2.out).alloc _).setCell (.inl H2'.out) _
          have hRo3 : Row ((w2.alloc (.cells #[.int .i64 x.f0, .int .i64 x.f1] 67)).setCell ⟨b, 1, none⟩ (.slice (some ⟨gq, oq, none⟩) (qn - 1) 0)) 3 1 A' out.length c' (ints out) := HRo.out.grew hG3 (fun k hk h => (HF0.out k h).2.1 hk)
          have hbs : w2.heap.size < ((w2.alloc (.cells #[.int .i64 x.f0, .int .i64 x.f1] 67)).setCell ⟨b, 1, none⟩ (.slice (some ⟨gq, oq, none⟩) (qn - 1) 0)).heap.size := by simp
          have HRO3 := Aside0.mk hRo3
          have HBS := Aside0.mk hbs
          have HG3 := Aside0.mk hG3
          have HGR := Aside0.mk (grants_ _ b F0 hs1 qs1 x.f0 x.f1 hI3 HA1.out (by have := HN.out; omega))
          clear hR5 hq5 hn5 hR5' hI3 hG3 bx3 hRo3 hbs
          go_wp2_with fail
          refine HGR.out.mono ?_
          rintro e w4 ⟨rfl, hI4, hG4⟩
          have hZ4 : ¬ F0 w2.heap.size := fun h => by have := (HF0.out _ h).2.2; have := HB2.out.size; omega
          have bx4 := (hG4.block w2.heap.size HBS.out hZ4).trans BX3.out
          have k0 : w4.cell? ⟨w2.heap.size, 0, none⟩ = some (.int .i64 x.f0) := (blk_cell bx4 0).trans rfl
          have hRo4 := HRO3.out.grew hG4 (fun k hk h => (HF0.out k h).2.1 hk)
          have HRO4 := Aside0.mk (hRo4.alloc (.cells #[.int .i64 x.f0] 3))
          have HI4 := Aside0.mk hI4
          have HG4 := Aside0.mk hG4
          clear g0 g1 x1a f1a y0 y1 z1 hZ4 bx4 hI4 hG4 hRo4
          generalize hw3 : (w2.alloc (.cells #[.int .i64 x.f0, .int .i64 x.f1] 67)).setCell ⟨b, 1, none⟩ (.slice (some ⟨gq, oq, none⟩) (qn - 1) 0) = w3 at HG3 HI4 HG4 HRO3 HBS b3 BX3
          clear hw3 b3 BX3 HGR
          go_wp2_with (at_builtin; refine wpList_append_info rfl _ _ 53 rfl 3 _ 1 8 Try.underlying53 info3 rfl A' out.length c' (ints out) (by simp [Act.eval, Act.put]) HRO4.out ⟨w4.heap.size, 0, none⟩ 1 1 [.int .i64 x.f0] (by simp [Act.eval, Act.put]) rfl (one_at (blk_new w4 _)) (one_one _) (by have := HN.out; unfold maxLen; omega) (by have := HN.out; omega) ?_)
          intro A2 c2 w6 hR6 hG6 hk6
          have HR6 := Aside0.mk hR6
          have HG6 := Aside0.mk hG6
          have HK6 := Aside0.mk hk6
          clear hR6 hG6 hk6 k0
          go_wp2
          go_roundg qs1.length
          case measure => have h := HGG.out; rw [List.length_cons] at h; omega
          case rel =>
            obtain ⟨F1, hI6, hF1⟩ := HI4.out.exact_
            have e1 : ints out ++ [.int .i64 x.f0] = ints (out ++ [x.f0]) := by simp [ints]
            have e2 : (out ++ [x.f0]).length = out.length + 1 := by simp
            have hsz4 : (w4.alloc (.cells #[.int .i64 x.f0] 3)).heap.size = w4.heap.size + 1 := by simp
            have s13 : wr.heap.size ≤ w3.heap.size := HG3.out.size
            have s34 : w3.heap.size ≤ w4.heap.size := HG4.out.size
            have s46 : w4.heap.size + 1 ≤ w6.heap.size := by have := HG6.out.size; rw [hsz4] at this; exact this
            have s01 : w.heap.size ≤ wr.heap.size := HG1.out.size
            have hF1n : ∀ k, F1 k → ¬ blk A' k := fun k h hb => by
              rcases (hF1 k h).1 with h2 | h2
              · exact (HF0.out k h2).2.1 hb
              · have := HRO3.out.lt hb; omega
            refine ⟨grantsIn hs1 x.f0 x.f1, qs1, out ++ [x.f0], A2, c2, F1, by rw [e2], Nat.le_refl _, (hI6.below (below_alloc (Below.refl _ _) _)).grew HG6.out hF1n, by rw [e2, ← e1]; exact HR6.out, ?_, ?_, ?_, asc_grants HA1.out, ?_, ?_⟩
            · intro k hk
              rcases HK6.out k hk with h | h
              · exact HKo.out k h
              · (try rw [hsz4] at h); omega
            · intro k hk
              have h9 := hF1 k hk
              refine ⟨?_, fun hb => ?_, by omega⟩
              · rcases h9.1 with h2 | h2
                · exact (HF0.out k h2).1
                · exact .inr (by omega)
              · rcases HK6.out k hb with h | h
                · exact hF1n k hk h
                · (try rw [hsz4] at h); omega
            · have g1 : Grew F w w3 := HG1.out.trans HG3.out (fun k h => (HF0.out k h).1)
              have g2 : Grew F w w4 := g1.trans HG4.out (fun k h => (HF0.out k h).1)
              exact (g2.alloc _).trans HG6.out (fun k h => .inr (HKo.out k h))
            · rw [← HRes.out]
              simp [serveQ, HFIT.out]
            · have hg := grants_len hs1 x.f0 x.f1
              have := HN.out
              simp only [List.length_append, List.length_cons, List.length_nil] at this ⊢
              omega
        · have b3 := Aside0.mk (blk_put B2A.out 1 (.slice (some ⟨gq, oq + 2, none⟩) (qn - 1) (qc1 - 1)) rfl)
          have bx3 := (Below.heap_setCell (w2.alloc (.cells #[.int .i64 x.f0, .int .i64 x.f1] 67)) ⟨b, 1, none⟩ (.slice (some ⟨gq, oq + 2, none⟩) (qn - 1) (qc1 - 1)) w2.heap.size HNE.out).trans BX.out
          have g0 : ((w2.alloc (.cells #[.int .i64 x.f0, .int .i64 x.f1] 67)).setCell ⟨b, 1, none⟩ (.slice (some ⟨gq, oq + 2, none⟩) (qn - 1) (qc1 - 1))).cell? ⟨w2.heap.size, 0, none⟩ = some (.int .i64 x.f0) := (blk_cell bx3 0).trans rfl
          have g1 : ((w2.alloc (.cells #[.int .i64 x.f0, .int .i64 x.f1] 67)).setCell ⟨b, 1, none⟩ (.slice (some ⟨gq, oq + 2, none⟩) (qn - 1) (qc1 - 1))).cell? ⟨w2.heap.size, 1, none⟩ = some (.int .i64 x.f1) := (blk_cell bx3 1).trans rfl
          have BX3 := Aside0.mk bx3
          have hR5 := H5.out.from_ 1 (by simp)
          rw [HQN.out] at hR5
          have hq5 : (flat (x :: qs1)).drop (1 * 2) = flat qs1 := rfl
          have hn5 : qn - 1 = qs1.length := by rw [← HQN.out]; rfl
          have hR5' : Row wr 67 2 (some ⟨gq, oq + 2, none⟩) qs1.length (qc1 - 1) (flat qs1) := by
            rw [← hn5, ← hq5]
            simpa [hq1, Addr.add] using hR5
          have hI3 : IsLane ((w2.alloc (.cells #[.int .i64 x.f0, .int .i64 x.f1] 67)).setCell ⟨b, 1, none⟩ (.slice (some ⟨gq, oq + 2, none⟩) (qn - 1) (qc1 - 1))) b F0 hs1 qs1 := by
            refine ⟨hA1, hc1, some ⟨gq, oq + 2, none⟩, (qc1 - 1), ?_, H2'.out, ((H3.out.below HB2.out).alloc _).set (p := ⟨b, 1, none⟩) (H3.out.ne H1.out (by decide)) _, H4.out, ((hR5'.below HB2.out).alloc _).set (p := ⟨b, 1, none⟩) (hR5'.ne H1.out (by decide)) _, ?_, ?_⟩
            · rw [← hn5]; exact b3.out
            · rintro k ⟨a, h, e⟩; cases h; exact H6.out k ⟨_, rfl, e⟩
            · rintro k h ⟨a, h2, e⟩; cases h2; exact H7.out k h ⟨_, rfl, e⟩
          have hG3 : Grew F0 wr ((w2.alloc (.cells #[.int .i64 x.f0, .int .i64 x.f1] 67)).setCell ⟨b, 1, none⟩ (.slice (some ⟨gq, oq + 2, none⟩) (qn - 1) (qc1 - 1))) := ((Grew.of_below HB2.out).alloc _).setCell (.inl H2'.out) _
          have hRo3 : Row ((w2.alloc (.cells #[.int .i64 x.f0, .int .i64 x.f1] 67)).setCell ⟨b, 1, none⟩ (.slice (some ⟨gq, oq + 2, none⟩) (qn - 1) (qc1 - 1))) 3 1 A' out.length c' (ints out) := HRo.out.grew hG3 (fun k hk h => (HF0.out k h).2.1 hk)
          have hbs : w2.heap.size < ((w2.alloc (.cells #[.int .i64 x.f0, .int .i64 x.f1] 67)).setCell ⟨b, 1, none⟩ (.slice (some ⟨gq, oq + 2, none⟩) (qn - 1) (qc1 - 1))).heap.size := by simp
          have HRO3 := Aside0.mk hRo3
          have HBS := Aside0.mk hbs
          have HG3 := Aside0.mk hG3
          have HGR := Aside0.mk (grants_ _ b F0 hs1 qs1 x.f0 x.f1 hI3 HA1.out (by have := HN.out; omega))
          clear hR5 hq5 hn5 hR5' hI3 hG3 bx3 hRo3 hbs
          go_wp2_with fail
          refine HGR.out.mono ?_
          rintro e w4 ⟨rfl, hI4, hG4⟩
          have hZ4 : ¬ F0 w2.heap.size := fun h => by have := (HF0.out _ h).2.2; have := HB2.out.size; omega
          have bx4 := (hG4.block w2.heap.size HBS.out hZ4).trans BX3.out
          have k0 : w4.cell? ⟨w2.heap.size, 0, none⟩ = some (.int .i64 x.f0) := (blk_cell bx4 0).trans rfl
          have hRo4 := HRO3.out.grew hG4 (fun k hk h => (HF0.out k h).2.1 hk)
          have HRO4 := Aside0.mk (hRo4.alloc (.cells #[.int .i64 x.f0] 3))
          have HI4 := Aside0.mk hI4
          have HG4 := Aside0.mk hG4
          clear g0 g1 x1a f1a y0 y1 z1 hZ4 bx4 hI4 hG4 hRo4
          generalize hw3 : (w2.alloc (.cells #[.int .i64 x.f0, .int .i64 x.f1] 67)).setCell ⟨b, 1, none⟩ (.slice (some ⟨gq, oq + 2, none⟩) (qn - 1) (qc1 - 1)) = w3 at HG3 HI4 HG4 HRO3 HBS b3 BX3
          clear hw3 b3 BX3 HGR
          go_wp2_with (at_builtin; refine wpList_append_info rfl _ _ 53 rfl 3 _ 1 8 Try.underlying53 info3 rfl A' out.length c' (ints out) (by simp [Act.eval, Act.put]) HRO4.out ⟨w4.heap.size, 0, none⟩ 1 1 [.int .i64 x.f0] (by simp [Act.eval, Act.put]) rfl (one_at (blk_new w4 _)) (one_one _) (by have := HN.out; unfold maxLen; omega) (by have := HN.out; omega) ?_)
          intro A2 c2 w6 hR6 hG6 hk6
          have HR6 := Aside0.mk hR6
          have HG6 := Aside0.mk hG6
          have HK6 := Aside0.mk hk6
          clear hR6 hG6 hk6 k0
          go_wp2
          go_roundg qs1.length
          case measure => have h := HGG.out; rw [List.length_cons] at h; omega
          case rel =>
            obtain ⟨F1, hI6, hF1⟩ := HI4.out.exact_
            have e1 : ints out ++ [.int .i64 x.f0] = ints (out ++ [x.f0]) := by simp [ints]
            have e2 : (out ++ [x.f0]).length = out.length + 1 := by simp
            have hsz4 : (w4.alloc (.cells #[.int .i64 x.f0] 3)).heap.size = w4.heap.size + 1 := by simp
            have s13 : wr.heap.size ≤ w3.heap.size := HG3.out.size
            have s34 : w3.heap.size ≤ w4.heap.size := HG4.out.size
            have s46 : w4.heap.size + 1 ≤ w6.heap.size := by have := HG6.out.size; rw [hsz4] at this; exact this
            have s01 : w.heap.size ≤ wr.heap.size := HG1.out.size
            have hF1n : ∀ k, F1 k → ¬ blk A' k := fun k h hb => by
              rcases (hF1 k h).1 with h2 | h2
              · exact (HF0.out k h2).2.1 hb
              · have := HRO3.out.lt hb; omega
            refine ⟨grantsIn hs1 x.f0 x.f1, qs1, out ++ [x.f0], A2, c2, F1, by rw [e2], Nat.le_refl _, (hI6.below (below_alloc (Below.refl _ _) _)).grew HG6.out hF1n, by rw [e2, ← e1]; exact HR6.out, ?_, ?_, ?_, asc_grants HA1.out, ?_, ?_⟩
            · intro k hk
              rcases HK6.out k hk with h | h
              · exact HKo.out k h
              · (try rw [hsz4] at h); omega
            · intro k hk
              have h9 := hF1 k hk
              refine ⟨?_, fun hb => ?_, by omega⟩
              · rcases h9.1 with h2 | h2
                · exact (HF0.out k h2).1
                · exact .inr (by omega)
              · rcases HK6.out k hb with h | h
                · exact hF1n k hk h
                · (try rw [hsz4] at h); omega
            · have g1 : Grew F w w3 := HG1.out.trans HG3.out (fun k h => (HF0.out k h).1)
              have g2 : Grew F w w4 := g1.trans HG4.out (fun k h => (HF0.out k h).1)
              exact (g2.alloc _).trans HG6.out (fun k h => .inr (HKo.out k h))
            · rw [← HRes.out]
              simp [serveQ, HFIT.out]
            · have hg := grants_len hs1 x.f0 x.f1
              have := HN.out
              simp only [List.length_append, List.length_cons, List.length_nil] at this ⊢
              omega
end Go.Proofs.Ytagdgkimjgomlaa.Ln
