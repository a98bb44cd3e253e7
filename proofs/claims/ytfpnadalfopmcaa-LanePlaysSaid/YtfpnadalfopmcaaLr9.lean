import Derived.Test.YtfpnadalfopmcaaLr7
import Derived.Test.YtfpnadalfopmcaaLr2
/- The document's Leave: its loop. -/
namespace Go.Proofs.Ytfpnadalfopmcaa.Ln
open Go.RowKit Go.Proofs.YtfpnadalfopmcaaW.PrintWords Go.Proofs.YtfpnadalfopmcaaW.PrintWords.Kd Go.Proofs.YtfpnadalfopmcaaW.PrintLast Go.Proofs.YtfpnadalfopmcaaW.PrintMore Go.Proofs.Ytfpnadalfopmcaa.PMd Go.Proofs.Ytfpnadalfopmcaa
open Go.Sort (grow)
set_option linter.unusedVariables false
set_option linter.unusedSimpArgs false
theorem IsLR.exact_ {w : World} {b : Nat} {F : Nat → Prop} {hs qs : List E} (h : IsLR w b F hs qs) : ∃ F0 : Nat → Prop, IsLR w b F0 hs qs ∧ (∀ k, F0 k → F k ∧ k < w.heap.size) := by
  obtain ⟨hA, hc, qA, qc, h1, h2, h3, h4, h5, h6, h7⟩ := h
  refine ⟨fun k => k = b ∨ blk hA k ∨ blk qA k, ⟨hA, hc, qA, qc, h1, .inl rfl, h3, fun k hk => .inr (.inl hk), h5, fun k hk => .inr (.inr hk), h7⟩, fun k hk => ?_⟩
  rcases hk with rfl | hk | hk
  · exact ⟨h2, (Array.getElem?_eq_some_iff.1 h1).1⟩
  · exact ⟨h4 k hk, h3.lt hk⟩
  · exact ⟨h6 k hk, h5.lt hk⟩
/-- Both rows are new. -/
theorem IsLR.setHQ {w W : World} {b : Nat} {F : Nat → Prop} {hs qs : List E} (h : IsLR w b F hs qs) (hb : Below w.heap.size w W) {A1 A2 : Option Addr} {c1 c2 : Nat} {l1 l2 : List E}
    (hR1 : Row W 50 2 A1 l1.length c1 (flat l1)) (hk1 : ∀ k, blk A1 k → w.heap.size ≤ k) (hR2 : Row W 50 2 A2 l2.length c2 (flat l2)) (hk2 : ∀ k, blk A2 k → w.heap.size ≤ k) (hd : ∀ k, blk A1 k → blk A2 k → False) :
    IsLR ((W.setCell ⟨b, 0, none⟩ (.slice A1 l1.length c1)).setCell ⟨b, 1, none⟩ (.slice A2 l2.length c2)) b (fun j => j = b ∨ blk A1 j ∨ blk A2 j) l1 l2 ∧ Grew F w ((W.setCell ⟨b, 0, none⟩ (.slice A1 l1.length c1)).setCell ⟨b, 1, none⟩ (.slice A2 l2.length c2)) := by
  obtain ⟨hA, hc, qA, qc, h1, h2, h3, h4, h5, h6, h7⟩ := h
  have hbl := (Array.getElem?_eq_some_iff.1 h1).1
  have hW : W.heap[b]? = _ := (hb.block b hbl).trans h1
  have n1 : ¬ blk A1 b := fun h => by have := hk1 _ h; omega
  have n2 : ¬ blk A2 b := fun h => by have := hk2 _ h; omega
  have e1 := heap_setCell_same W b 0 _ _ (.slice A1 l1.length c1) hW
  have e2 := heap_setCell_same _ b 1 _ _ (.slice A2 l2.length c2) e1
  exact ⟨⟨A1, c1, A2, c2, e2, .inl rfl, (hR1.set (p := ⟨b, 0, none⟩) n1 _).set (p := ⟨b, 1, none⟩) n1 _, fun k h => .inr (.inl h), (hR2.set (p := ⟨b, 0, none⟩) n2 _).set (p := ⟨b, 1, none⟩) n2 _, fun k h => .inr (.inr h), hd⟩, ((Grew.of_below hb).setCell (.inl h2) _).setCell (.inl h2) _⟩
/-- The test of Leave's loop. -/
def LoopR (b : Nat) (F : Nat → Prop) (w : World) (R : List Int × List E × List E) (N : Nat) (v : Value) (gg : Nat) (wr : World) : Prop :=
  ∃ (hs qs : List E) (out : List Int) (A' : Option Addr) (c' : Nat) (F0 : Nat → Prop), v = .slice A' out.length c' ∧ qs.length ≤ gg ∧ IsLR wr b F0 hs qs ∧ Row wr 3 1 A' out.length c' (ints out) ∧ (∀ k, blk A' k → w.heap.size ≤ k) ∧
    (∀ k, F0 k → (F k ∨ w.heap.size ≤ k) ∧ ¬ blk A' k ∧ k < wr.heap.size) ∧ Grew F w wr ∧ (Asc hs ∧ (∀ x ∈ hs, md x.f1) ∧ ∀ x ∈ qs, md x.f1) ∧ (out ++ (serveQ hs qs).1, (serveQ hs qs).2) = R ∧ out.length + hs.length + 2 * qs.length ≤ N
theorem grants_md {hs : List E} {who m : Int} (ha : Asc hs) (h : ∀ x ∈ hs, md x.f1) (hm : md m) : ∀ x ∈ grantsIn hs who m, md x.f1 := fun x hx => by
  rcases (grants_mem ha).1 hx with rfl | ⟨hx, _⟩
  · exact hm
  · exact h x hx
def LeaveRP (b : Nat) (F : Nat → Prop) (hs qs : List E) (who : Int) (w : World) (e : Ending) (w' : World) : Prop :=
  ∃ A' c', e = .returned (.slice A' (leaveIn hs qs who).1.length c') ∧ Row w' 3 1 A' (leaveIn hs qs who).1.length c' (ints (leaveIn hs qs who).1) ∧
      (∀ k, blk A' k → w.heap.size ≤ k) ∧ IsLR w' b (fun k => (F k ∨ w.heap.size ≤ k) ∧ ¬ blk A' k) (leaveIn hs qs who).2.1 (leaveIn hs qs who).2.2 ∧ Grew F w w'
set_option maxHeartbeats 16000000 in
set_option maxRecDepth 100000 in
theorem Leave_R (w : World) (b : Nat) (F : Nat → Prop) (hs qs : List E) (who : Int) (hI : IsLR w b F hs qs) (ha : Asc hs) (hm1 : ∀ x ∈ hs, md x.f1) (hm2 : ∀ x ∈ qs, md x.f1) (hl : hs.length + 2 * qs.length ≤ 900000) (hF : ∀ k, F k → k < w.heap.size) :
    Calls Try.prog 10 #[.pointer (some ⟨b, 0, none⟩), .int .i64 who] w (LeaveRP b F hs qs who w) := by
  have hu := Try.underlying29
  have hu67 := Try.underlying50
  have HI := Aside0.mk hI
  have HA := Aside0.mk (And.intro ha (And.intro hm1 hm2))
  have HL := Aside0.mk hl
  have HFF := Aside0.mk hF
  obtain ⟨hA, hc, qA, qc, h1, h2, h3, h4, h5, h6, h7⟩ := hI
  have HBW := Aside0.mk (Array.getElem?_eq_some_iff.1 h1).1
  have HX := Aside0.mk (fun (W : World) (hb : Below w.heap.size w W) => (show W.cell? ⟨b, 0, none⟩ = some (.slice hA hs.length hc) ∧ W.cell? ⟨b, 1, none⟩ = some (.slice qA qs.length qc) from
    have hW := (hb.block b HBW.out).trans h1
    ⟨(blk_cell hW 0).trans rfl, (blk_cell hW 1).trans rfl⟩))
  have HZ := Aside0.mk (fun (W : World) (hb : Below w.heap.size w W) => (hb.block b HBW.out).trans h1)
  have HW1 := Aside0.mk (fun (W : World) (hb : Below w.heap.size w W) => without_R hA hc hs who W (h3.below hb).reads (by omega))
  have HW2 := Aside0.mk (fun (W : World) (hb : Below w.heap.size w W) => without_R qA qc qs who W (h5.below hb).reads (by omega))
  have HBd := Aside0.mk (below_drew (Below.refl w.heap.size w))
  clear h1 h2 h3 h4 h5 h6 h7 ha hm1 hm2 hl hF
  go_enter Try.func10, Try.ntmps10
  go_wp2_with fail
  refine Up.Till.region [16, 19] (fun W => W.cell? ⟨b, 0, none⟩ = some (.slice hA hs.length hc) ∧ W.cell? ⟨b, 1, none⟩ = some (.slice qA qs.length qc)) (by kernel_rfl) ?_ (fun hH => ?_)
  · exact HX.out _ HBd.out
  refine Up.Till.takeY 0 (oi := { dst := some 7, op := Op.move (Operand.tmp 0), type := 26, pos := "ref.go:105", after := #[], guard := none }) (v := ?vq1) rfl (by rfl) (by kernel_rfl) (by kernel_rfl) (by kernel_rfl) (fun _ _ _ h => h) (Or.inl ⟨by rfl, ?yq1⟩) (fun _ => by assumption) ?rq1
  case yq1 => (intro w hSw; clear hSw; go_simp; (try with_reducible rfl))
  (try simp only [Act.put, List.setIfInBounds_toArray, List.set_cons_zero, List.set_cons_succ])
  refine Up.Till.takeY 1 (oi := { dst := some 8, op := Op.move (Operand.tmp 0), type := 26, pos := "ref.go:105", after := #[{ on := 16, ground := Ground.gcOnly Departure.lateStores }], guard := none }) (v := ?vq2) rfl (by rfl) (by kernel_rfl) (by kernel_rfl) (by kernel_rfl) (fun _ _ _ h => h) (Or.inl ⟨by rfl, ?yq2⟩) (fun _ => by assumption) ?rq2
  case yq2 => (intro w hSw; clear hSw; go_simp; (try with_reducible rfl))
  (try simp only [Act.put, List.setIfInBounds_toArray, List.set_cons_zero, List.set_cons_succ])
  refine Up.Till.takeY 2 (oi := { dst := some 9, op := Op.move (Operand.tmp 0), type := 26, pos := "ref.go:105", after := #[], guard := none }) (v := ?vq3) rfl (by rfl) (by kernel_rfl) (by kernel_rfl) (by kernel_rfl) (fun _ _ _ h => h) (Or.inl ⟨by rfl, ?yq3⟩) (fun _ => by assumption) ?rq3
  case yq3 => (intro w hSw; clear hSw; go_simp; (try with_reducible rfl))
  (try simp only [Act.put, List.setIfInBounds_toArray, List.set_cons_zero, List.set_cons_succ])
  refine Up.Till.takeY 3 (oi := { dst := some 10, op := Op.nilCheck (Operand.tmp 9), type := 0, pos := "ref.go:105", after := #[{ on := 2, ground := Ground.data }], guard := none }) (v := ?vq4) rfl (by rfl) (by kernel_rfl) (by kernel_rfl) (by kernel_rfl) (fun _ _ _ h => h) (Or.inl ⟨by rfl, ?yq4⟩) (fun _ => by assumption) ?rq4
  case yq4 => (intro w hSw; clear hSw; go_simp; (try with_reducible rfl))
  (try simp only [Act.put, List.setIfInBounds_toArray, List.set_cons_zero, List.set_cons_succ])
  refine Up.Till.takeY 4 (oi := { dst := some 11, op := Op.fieldAddr 29 (Operand.tmp 10) 0, type := 0, pos := "ref.go:105", after := #[{ on := 3, ground := Ground.data }], guard := none }) (v := ?vq5) rfl (by rfl) (by kernel_rfl) (by kernel_rfl) (by kernel_rfl) (fun _ _ _ h => h) (Or.inl ⟨by rfl, ?yq5⟩) (fun _ => by assumption) ?rq5
  case yq5 => (intro w hSw; clear hSw; go_simp; (try with_reducible rfl))
  (try simp only [Act.put, List.setIfInBounds_toArray, List.set_cons_zero, List.set_cons_succ])
  refine Up.Till.take 5 5 (oi := { dst := some 12, op := Op.load 27 (Operand.tmp 11), type := 27, pos := "ref.go:105", after := #[{ on := 4, ground := Ground.data }], guard := none }) (v := ?vq6) rfl (by rfl) (by kernel_rfl) (by kernel_rfl) (by kernel_rfl) (fun _ _ _ h => h) (by kernel_rfl) (by kernel_rfl) (by kernel_rfl) (Or.inl ⟨by rfl, ?yq6⟩) (by assumption) ?rq6
  case yq6 => (intro w hSw; (try dsimp only at hSw); go_simp; (try with_reducible rfl))
  (try simp only [Act.put, List.setIfInBounds_toArray, List.set_cons_zero, List.set_cons_succ])
  refine Up.Till.takeY 6 (oi := { dst := some 13, op := Op.move (Operand.tmp 1), type := 3, pos := "ref.go:105", after := #[], guard := none }) (v := ?vq7) rfl (by rfl) (by kernel_rfl) (by kernel_rfl) (by kernel_rfl) (fun _ _ _ h => h) (Or.inl ⟨by rfl, ?yq7⟩) (fun _ => by assumption) ?rq7
  case yq7 => (intro w hSw; clear hSw; go_simp; (try with_reducible rfl))
  (try simp only [Act.put, List.setIfInBounds_toArray, List.set_cons_zero, List.set_cons_succ])
  refine Up.Till.takeY 8 (oi := { dst := some 15, op := Op.move (Operand.tmp 0), type := 26, pos := "ref.go:105", after := #[], guard := none }) (v := ?vq8) rfl (by rfl) (by kernel_rfl) (by kernel_rfl) (by kernel_rfl) (fun _ _ _ h => h) (Or.inl ⟨by rfl, ?yq8⟩) (fun _ => by assumption) ?rq8
  case yq8 => (intro w hSw; clear hSw; go_simp; (try with_reducible rfl))
  (try simp only [Act.put, List.setIfInBounds_toArray, List.set_cons_zero, List.set_cons_succ])
  refine Up.Till.takeY 9 (oi := { dst := some 16, op := Op.nilCheck (Operand.tmp 15), type := 0, pos := "ref.go:105", after := #[{ on := 8, ground := Ground.data }], guard := none }) (v := ?vq9) rfl (by rfl) (by kernel_rfl) (by kernel_rfl) (by kernel_rfl) (fun _ _ _ h => h) (Or.inl ⟨by rfl, ?yq9⟩) (fun _ => by assumption) ?rq9
  case yq9 => (intro w hSw; clear hSw; go_simp; (try with_reducible rfl))
  (try simp only [Act.put, List.setIfInBounds_toArray, List.set_cons_zero, List.set_cons_succ])
  refine Up.Till.takeY 10 (oi := { dst := some 17, op := Op.fieldAddr 29 (Operand.tmp 16) 1, type := 0, pos := "ref.go:105", after := #[{ on := 9, ground := Ground.data }], guard := none }) (v := ?vq10) rfl (by rfl) (by kernel_rfl) (by kernel_rfl) (by kernel_rfl) (fun _ _ _ h => h) (Or.inl ⟨by rfl, ?yq10⟩) (fun _ => by assumption) ?rq10
  case yq10 => (intro w hSw; clear hSw; go_simp; (try with_reducible rfl))
  (try simp only [Act.put, List.setIfInBounds_toArray, List.set_cons_zero, List.set_cons_succ])
  refine Up.Till.take 11 11 (oi := { dst := some 18, op := Op.load 27 (Operand.tmp 17), type := 27, pos := "ref.go:105", after := #[{ on := 10, ground := Ground.data }], guard := none }) (v := ?vq11) rfl (by rfl) (by kernel_rfl) (by kernel_rfl) (by kernel_rfl) (fun _ _ _ h => h) (by kernel_rfl) (by kernel_rfl) (by kernel_rfl) (Or.inl ⟨by rfl, ?yq11⟩) (by assumption) ?rq11
  case yq11 => (intro w hSw; (try dsimp only at hSw); go_simp; (try with_reducible rfl))
  (try simp only [Act.put, List.setIfInBounds_toArray, List.set_cons_zero, List.set_cons_succ])
  refine Up.Till.takeY 12 (oi := { dst := some 19, op := Op.move (Operand.tmp 1), type := 3, pos := "ref.go:105", after := #[], guard := none }) (v := ?vq12) rfl (by rfl) (by kernel_rfl) (by kernel_rfl) (by kernel_rfl) (fun _ _ _ h => h) (Or.inl ⟨by rfl, ?yq12⟩) (fun _ => by assumption) ?rq12
  case yq12 => (intro w hSw; clear hSw; go_simp; (try with_reducible rfl))
  (try simp only [Act.put, List.setIfInBounds_toArray, List.set_cons_zero, List.set_cons_succ])
  refine Up.Till.ready (rs := [7]) (by kernel_rfl) (by simp) ?_
  refine Up.TillAll.cons (o := { dst := some 14, op := Op.call { callee := Callee.value (Operand.func 35), args := #[Operand.tmp 12, Operand.tmp 13], argTypes := #[27, 3] }, type := 27, pos := "ref.go:105", after := #[{ on := 5, ground := Ground.data }, { on := 6, ground := Ground.data }], guard := none }) rfl (fun K hK => ?_) Up.TillAll.nil
  go_simp
  (go_at_call 35; (with_reducible refine (HW1.out _ HBd.out).mono ?_); rintro e w5 ⟨v5, rfl, ho5⟩; have O5 := Aside0.mk ho5; clear ho5)
  obtain ⟨A5, c5, rfl, r5, k5, b5⟩ := O5.out
  have R5 := Aside0.mk r5
  have B5 := Aside0.mk (below_then HBd.out HBd.out.size b5)
  have K5 := Aside0.mk (show ∀ k, blk A5 k → w.heap.size ≤ k from fun k h => Nat.le_trans HBd.out.size (k5 k h))
  clear r5 k5 b5 O5
  go_wp2_with fail
  refine hK.out _ _ (fun _ => ?_) (fun hHq12 => ?_)
  · (try dsimp only)
    exact HX.out _ B5.out
  replace hHq12 := hHq12 (by rfl)
  clear hK K hH
  (try simp only [Act.put, List.setIfInBounds_toArray, List.set_cons_zero, List.set_cons_succ])
  refine Up.Till.ready (rs := [13]) (by kernel_rfl) (by simp) ?_
  refine Up.TillAll.cons (o := { dst := some 20, op := Op.call { callee := Callee.value (Operand.func 35), args := #[Operand.tmp 18, Operand.tmp 19], argTypes := #[27, 3] }, type := 27, pos := "ref.go:105", after := #[{ on := 11, ground := Ground.data }, { on := 12, ground := Ground.data }, { on := 7, ground := Ground.chain }], guard := none }) rfl (fun K hK => ?_) Up.TillAll.nil
  go_simp
  (go_at_call 35; (with_reducible refine (HW2.out _ B5.out).mono ?_); rintro e w6 ⟨v6, rfl, ho6⟩; have O6 := Aside0.mk ho6; clear ho6)
  obtain ⟨A6, c6, rfl, r6, k6, b6⟩ := O6.out
  have R6 := Aside0.mk r6
  have B6 := Aside0.mk (below_then B5.out B5.out.size b6)
  have K6 := Aside0.mk (show ∀ k, blk A6 k → w.heap.size ≤ k from fun k h => Nat.le_trans B5.out.size (k6 k h))
  have D6 := Aside0.mk (show ∀ k, blk A5 k → blk A6 k → False from fun k h h2 => by have := k6 k h2; have := R5.out.lt h; omega)
  have R56 := Aside0.mk (R5.out.below b6)
  clear r6 k6 b6 O6
  go_wp2_with fail
  refine hK.out _ _ (fun _ => ?_) (fun hHq13 => ?_)
  · (try dsimp only)
    exact HX.out _ B6.out
  replace hHq13 := hHq13 (by rfl)
  clear hK K hHq12
  (try simp only [Act.put, List.setIfInBounds_toArray, List.set_cons_zero, List.set_cons_succ])
  refine Up.Till.takeY 14 (oi := { dst := some 21, op := Op.nilCheck (Operand.tmp 7), type := 0, pos := "ref.go:105", after := #[{ on := 0, ground := Ground.data }, { on := 0, ground := Ground.phase }, { on := 1, ground := Ground.textOnly Departure.lateStores }, { on := 2, ground := Ground.phase }, { on := 3, ground := Ground.phase }, { on := 4, ground := Ground.phase }, { on := 5, ground := Ground.phase }, { on := 6, ground := Ground.phase }, { on := 7, ground := Ground.phase }, { on := 8, ground := Ground.textOnly Departure.lateStores }, { on := 9, ground := Ground.textOnly Departure.lateStoresUnsure }, { on := 10, ground := Ground.textOnly Departure.lateStoresUnsure }, { on := 11, ground := Ground.phase }, { on := 12, ground := Ground.textOnly Departure.lateStores }, { on := 13, ground := Ground.phase }], guard := none }) (v := ?vq15) rfl (by rfl) (by kernel_rfl) (by kernel_rfl) (by kernel_rfl) (fun _ _ _ h => h) (Or.inl ⟨by rfl, ?yq15⟩) (fun _ => by assumption) ?rq15
  case yq15 => (intro w hSw; clear hSw; go_simp; (try with_reducible rfl))
  (try simp only [Act.put, List.setIfInBounds_toArray, List.set_cons_zero, List.set_cons_succ])
  refine Up.Till.takeY 15 (oi := { dst := some 22, op := Op.fieldAddr 29 (Operand.tmp 21) 0, type := 0, pos := "ref.go:105", after := #[{ on := 14, ground := Ground.data }, { on := 0, ground := Ground.phase }, { on := 1, ground := Ground.textOnly Departure.lateStores }, { on := 2, ground := Ground.phase }, { on := 3, ground := Ground.phase }, { on := 4, ground := Ground.phase }, { on := 5, ground := Ground.phase }, { on := 6, ground := Ground.phase }, { on := 7, ground := Ground.phase }, { on := 8, ground := Ground.textOnly Departure.lateStores }, { on := 9, ground := Ground.textOnly Departure.lateStoresUnsure }, { on := 10, ground := Ground.textOnly Departure.lateStoresUnsure }, { on := 11, ground := Ground.phase }, { on := 12, ground := Ground.textOnly Departure.lateStores }, { on := 13, ground := Ground.phase }], guard := none }) (v := ?vq16) rfl (by rfl) (by kernel_rfl) (by kernel_rfl) (by kernel_rfl) (fun _ _ _ h => h) (Or.inl ⟨by rfl, ?yq16⟩) (fun _ => by assumption) ?rq16
  case yq16 => (intro w hSw; clear hSw; go_simp; (try with_reducible rfl))
  (try simp only [Act.put, List.setIfInBounds_toArray, List.set_cons_zero, List.set_cons_succ])
  refine Up.Till.ready (rs := [16]) (by kernel_rfl) (by simp) ?_
  refine Up.TillAll.cons (o := { dst := none, op := Op.store 27 (Operand.tmp 22) (Operand.tmp 14), type := 0, pos := "ref.go:105", after := #[{ on := 15, ground := Ground.data }, { on := 7, ground := Ground.data }, { on := 13, ground := Ground.chain }, { on := 0, ground := Ground.phase }, { on := 1, ground := Ground.textOnly Departure.lateStores }, { on := 2, ground := Ground.phase }, { on := 3, ground := Ground.phase }, { on := 4, ground := Ground.phase }, { on := 5, ground := Ground.phase }, { on := 6, ground := Ground.phase }, { on := 7, ground := Ground.phase }, { on := 8, ground := Ground.textOnly Departure.lateStores }, { on := 9, ground := Ground.textOnly Departure.lateStoresUnsure }, { on := 10, ground := Ground.textOnly Departure.lateStoresUnsure }, { on := 11, ground := Ground.phase }, { on := 12, ground := Ground.textOnly Departure.lateStores }, { on := 13, ground := Ground.phase }], guard := none }) rfl (fun K hK => ?_) Up.TillAll.nil
  have z6 := HZ.out _ B6.out
  have c0 : w6.cell? ⟨b, 0, none⟩ = some (.slice hA hs.length hc) := (blk_cell z6 0).trans rfl
  have f0 := blk_frozen z6 0
  have c1 : w6.cell? ⟨b, 1, none⟩ = some (.slice qA qs.length qc) := (blk_cell z6 1).trans rfl
  have f1 := blk_frozen z6 1
  have HE := Aside0.mk (HI.out.setHQ B6.out R56.out K5.out R6.out K6.out D6.out)
  have S7 := Aside0.mk (show w6.heap.size ≤ ((w6.setCell ⟨b, 0, none⟩ (.slice A5 (List.filter (fun x => !x.f0 == who) hs).length c5)).setCell ⟨b, 1, none⟩ (.slice A6 (List.filter (fun x => !x.f0 == who) qs).length c6)).heap.size by simp)
  clear z6
  go_simp
  refine hK.out _ _ (fun h => absurd h (by decide)) (fun hzz => ?_)
  clear hK K hzz hHq13
  (try simp only [Act.put, List.setIfInBounds_toArray, List.set_cons_zero, List.set_cons_succ])
  refine Up.Till.takeY 17 (oi := { dst := some 23, op := Op.nilCheck (Operand.tmp 8), type := 0, pos := "ref.go:105", after := #[{ on := 1, ground := Ground.data }, { on := 0, ground := Ground.phase }, { on := 1, ground := Ground.phase }, { on := 2, ground := Ground.phase }, { on := 3, ground := Ground.phase }, { on := 4, ground := Ground.phase }, { on := 5, ground := Ground.phase }, { on := 6, ground := Ground.phase }, { on := 7, ground := Ground.phase }, { on := 8, ground := Ground.phase }, { on := 9, ground := Ground.phase }, { on := 10, ground := Ground.phase }, { on := 11, ground := Ground.phase }, { on := 12, ground := Ground.phase }, { on := 13, ground := Ground.phase }, { on := 14, ground := Ground.phase }, { on := 15, ground := Ground.phase }, { on := 16, ground := Ground.phase }], guard := none }) (v := ?vq18) rfl (by rfl) (by kernel_rfl) (by kernel_rfl) (by kernel_rfl) (fun _ _ _ h => h) (Or.inl ⟨by rfl, ?yq18⟩) (fun h => absurd h (by decide)) ?rq18
  case yq18 => (intro w hSw; clear hSw; go_simp; (try with_reducible rfl))
  (try simp only [Act.put, List.setIfInBounds_toArray, List.set_cons_zero, List.set_cons_succ])
  refine Up.Till.takeY 18 (oi := { dst := some 24, op := Op.fieldAddr 29 (Operand.tmp 23) 1, type := 0, pos := "ref.go:105", after := #[{ on := 17, ground := Ground.data }, { on := 0, ground := Ground.phase }, { on := 1, ground := Ground.phase }, { on := 2, ground := Ground.phase }, { on := 3, ground := Ground.phase }, { on := 4, ground := Ground.phase }, { on := 5, ground := Ground.phase }, { on := 6, ground := Ground.phase }, { on := 7, ground := Ground.phase }, { on := 8, ground := Ground.phase }, { on := 9, ground := Ground.phase }, { on := 10, ground := Ground.phase }, { on := 11, ground := Ground.phase }, { on := 12, ground := Ground.phase }, { on := 13, ground := Ground.phase }, { on := 14, ground := Ground.phase }, { on := 15, ground := Ground.phase }, { on := 16, ground := Ground.phase }], guard := none }) (v := ?vq19) rfl (by rfl) (by kernel_rfl) (by kernel_rfl) (by kernel_rfl) (fun _ _ _ h => h) (Or.inl ⟨by rfl, ?yq19⟩) (fun h => absurd h (by decide)) ?rq19
  case yq19 => (intro w hSw; clear hSw; go_simp; (try with_reducible rfl))
  (try simp only [Act.put, List.setIfInBounds_toArray, List.set_cons_zero, List.set_cons_succ])
  refine Up.Till.ready (rs := [19]) (by kernel_rfl) (by simp) ?_
  refine Up.TillAll.cons (o := { dst := none, op := Op.store 27 (Operand.tmp 24) (Operand.tmp 20), type := 0, pos := "ref.go:105", after := #[{ on := 18, ground := Ground.data }, { on := 13, ground := Ground.data }, { on := 16, ground := Ground.chain }, { on := 0, ground := Ground.phase }, { on := 1, ground := Ground.phase }, { on := 2, ground := Ground.phase }, { on := 3, ground := Ground.phase }, { on := 4, ground := Ground.phase }, { on := 5, ground := Ground.phase }, { on := 6, ground := Ground.phase }, { on := 7, ground := Ground.phase }, { on := 8, ground := Ground.phase }, { on := 9, ground := Ground.phase }, { on := 10, ground := Ground.phase }, { on := 11, ground := Ground.phase }, { on := 12, ground := Ground.phase }, { on := 13, ground := Ground.phase }, { on := 14, ground := Ground.phase }, { on := 15, ground := Ground.phase }, { on := 16, ground := Ground.phase }], guard := none }) rfl (fun K hK => ?_) Up.TillAll.nil
  go_simp
  refine hK.out _ _ (fun h => absurd h (by decide)) (fun hzz => ?_)
  clear hK K hzz
  (try simp only [Act.put, List.setIfInBounds_toArray, List.set_cons_zero, List.set_cons_succ])
  refine Up.Till.done (by kernel_rfl) ?_ _
  clear c0 c1 f0 f1
  go_wp2_with fail
  generalize hw6 : (w6.setCell ⟨b, 0, none⟩ (.slice A5 (List.filter (fun x => !x.f0 == who) hs).length c5)).setCell ⟨b, 1, none⟩ (.slice A6 (List.filter (fun x => !x.f0 == who) qs).length c6) = w7 at HE S7 ⊢
  clear hw6
  have HE1 := Aside0.mk (show IsLR w7 b (fun j => j = b ∨ blk A5 j ∨ blk A6 j) (fl hs who) (fl qs who) from HE.out.1)
  have HG1 := Aside0.mk HE.out.2
  have HZ7 := Aside0.mk (show ∀ k, (k = b ∨ blk A5 k ∨ blk A6 k) → (F k ∨ w.heap.size ≤ k) ∧ ¬ blk none k ∧ k < w7.heap.size from fun k hk => by
    obtain ⟨F9, h9, h10⟩ := HE1.out.exact_
    refine ⟨?_, fun h => blk_none h, ?_⟩
    · rcases hk with rfl | h | h
      · obtain ⟨_, _, _, _, _, h2, _⟩ := HI.out; exact .inl h2
      · exact .inr (K5.out k h)
      · exact .inr (K6.out k h)
    · rcases hk with rfl | h | h
      · exact Nat.lt_of_lt_of_le HBW.out HG1.out.size
      · exact Nat.lt_of_lt_of_le (R56.out.lt h) S7.out
      · exact Nat.lt_of_lt_of_le (R6.out.lt h) S7.out)
  have HA6 := Aside0.mk (show Asc (fl hs who) ∧ (∀ x ∈ fl hs who, md x.f1) ∧ ∀ x ∈ fl qs who, md x.f1 from ⟨List.Pairwise.filter _ HA.out.1, fun x hx => HA.out.2.1 x (List.mem_filter.1 hx).1, fun x hx => HA.out.2.2 x (List.mem_filter.1 hx).1⟩)
  have HL6 := Aside0.mk (show ([] : List Int).length + (fl hs who).length + 2 * (fl qs who).length ≤ 900000 from by
    have h1 : (fl hs who).length ≤ hs.length := List.length_filter_le _ _
    have h2 : (fl qs who).length ≤ qs.length := List.length_filter_le _ _
    have := HL.out
    simp only [List.length_nil]
    omega)
  clear HX HZ HW1 HW2 HBd
  go_loopg [5] (fl qs who).length (fun gg v wr => LoopR b F w (leaveIn hs qs who) 900000 v gg wr)
  case atStart => exact ⟨fl hs who, fl qs who, [], none, 0, _, rfl, Nat.le_refl _, HE1.out, Row.zero _ _ _, fun k h => (blk_none h).elim, HZ7.out, HG1.out, HA6.out, rfl, HL6.out⟩
  case round =>
    clear HE HE1 HG1 HZ7 HA6 HL6 R56 R6 S7 K5 K6 HI
    obtain ⟨hs1, qs1, out, A', c', F0, rfl, hgg, hI1, hRo, hko, hF0, hG1, ha1, hRes, hN⟩ := hrel
    have HI1 := Aside0.mk hI1
    have HRo := Aside0.mk hRo
    have HKo := Aside0.mk hko
    have HF0 := Aside0.mk hF0
    have HG1 := Aside0.mk hG1
    have HRes := Aside0.mk hRes
    have HN := Aside0.mk hN
    have HGG := Aside0.mk hgg
    have HA1 := Aside0.mk ha1
    clear hRo hko hF0 hG1 hRes ha1 hN hgg
    have mixed : Try.prog.follows Departure.mixedOrders = true := by kernel_rfl
    cases qs1 with
    | nil =>
      obtain ⟨hA1, hc1, qA1, qc1, x0, x1, y0, y1, z0, z1⟩ := hI1.open_
      have cg := fun d os => cell_gr x1 d os
      clear hI1 x0 y0 y1 z0 z1
      go_wp2_with fail
      refine wp_region_gr mixed (by kernel_rfl) ?_
      repeat (go_big_quiet_step (fail))
      refine wpQuiet_nil ?_
      intro _ hw'
      obtain ⟨⟨d, os⟩, rfl⟩ := hw'
      go_wp2_with fail
      go_ret
      have hb := below_gr wr d os
      have hr : leaveIn hs qs who = (out, hs1, []) := by rw [← HRes.out]; simp [serveQ]
      unfold LeaveRP
      rw [hr]
      exact ⟨A', c', rfl, HRo.out.below hb, HKo.out, (HI1.out.below hb).mono' (fun k h => ⟨(HF0.out k h).1, (HF0.out k h).2.1⟩), HG1.out.below hb⟩
    | cons x qs1 =>
      obtain ⟨hA1, hc1, qA1, qc1, h1, h2, h3, h4, h5, h6, h7⟩ := hI1
      obtain ⟨gq, oq, cur, rfl, _, _, hcq⟩ := h5.at_ (by simp)
      have x1 : wr.cell? ⟨b, 1, none⟩ = some (.slice (some ⟨gq, oq, none⟩) (x :: qs1).length qc1) := (blk_cell h1 1).trans rfl
      have q0 : wr.cell? ⟨gq, oq, none⟩ = some (.int .i64 x.f0) := (hcq 0 _ rfl).1
      have q1 : wr.cell? ⟨gq, oq + 1, none⟩ = some (.int .i64 x.f1) := (hcq 1 _ rfl).1
      have cg := fun d os => cell_gr x1 d os
      have cq0 := fun d os => cell_gr q0 d os
      have cq1 := fun d os => cell_gr q1 d os
      have HMX := Aside0.mk (show md x.f1 from HA1.out.2.2 x (by simp))
      have HFT := Aside0.mk (fun d os => fits_R (grow (wat wr d) os) b F0 hs1 (x :: qs1) x.f0 x.f1 (HI1.out.below (below_gr wr d os)))
      rw [fitsDA_is HMX.out HA1.out.2.1] at HFT
      have p1 : decide (0 < (x :: qs1).length) = true := decide_eq_true (by simp)
      have p2 : (0 : Int) < ((x :: qs1).length : Int) := by rw [List.length_cons]; omega
      have HFS := Aside0.mk h2
      clear h1 h2 h3 h4 h5 h6 h7 hcq
      generalize hqn : (x :: qs1).length = qn at p1 p2 cg x1
      have HQN := Aside0.mk hqn
      clear hqn
      cases hfit : fitsAll hs1 x.f0 x.f1 with
      | false =>
        rw [hfit] at HFT
        have HFIT := Aside0.mk hfit
        clear hfit
        go_wp2_with fail
        refine wp_region_gr mixed (by kernel_rfl) ?_
        repeat (go_big_quiet_step (exact Calls.gr_of (HFT.out _ _)))
        refine wpQuiet_nil ?_
        intro _ hw'
        obtain ⟨⟨d, os⟩, rfl⟩ := hw'
        go_wp2_with fail
        go_ret
        have hb := below_gr wr d os
        have hr : leaveIn hs qs who = (out, hs1, x :: qs1) := by rw [← HRes.out]; simp [serveQ, HFIT.out]
        unfold LeaveRP
        rw [hr]
        exact ⟨A', c', rfl, HRo.out.below hb, HKo.out, (HI1.out.below hb).mono' (fun k h => ⟨(HF0.out k h).1, (HF0.out k h).2.1⟩), HG1.out.below hb⟩
      | true =>
        rw [hfit] at HFT
        have HFIT := Aside0.mk hfit
        clear hfit
        go_wp2_with fail
        refine wp_region_gr mixed (by kernel_rfl) ?_
        repeat (go_big_quiet_step (exact Calls.gr_of (HFT.out _ _)))
        refine wpQuiet_nil ?_
        intro _ hw'
        obtain ⟨⟨d, os⟩, rfl⟩ := hw'
        have HB2 := Aside0.mk (below_gr wr d os)
        generalize grow (wat wr d) os = w2 at HB2 ⊢
        clear cg cq0 cq1 HFT d os
        have y0 := cell_be q0 HB2.out
        have y1 := cell_be q1 HB2.out
        have z1 := cell_be x1 HB2.out
        have bx := blk_new w2 (.cells #[.int .i64 x.f0, .int .i64 x.f1] 50)
        have BX := Aside0.mk bx
        have g0 : (w2.alloc (.cells #[.int .i64 x.f0, .int .i64 x.f1] 50)).cell? ⟨w2.heap.size, 0, none⟩ = some (.int .i64 x.f0) := (blk_cell bx 0).trans rfl
        have g1 : (w2.alloc (.cells #[.int .i64 x.f0, .int .i64 x.f1] 50)).cell? ⟨w2.heap.size, 1, none⟩ = some (.int .i64 x.f1) := (blk_cell bx 1).trans rfl
        have HIA := Aside0.mk (HI1.out.below (below_alloc HB2.out (.cells #[.int .i64 x.f0, .int .i64 x.f1] 50)))
        have HGR := Aside0.mk (put_R _ b F0 hs1 (x :: qs1) x.f0 x.f1 HIA.out HA1.out.1 (by have := HN.out; omega))
        have HRoA := Aside0.mk (HRo.out.below (below_alloc HB2.out (.cells #[.int .i64 x.f0, .int .i64 x.f1] 50)))
        have HSA := Aside0.mk (show wr.heap.size ≤ w2.heap.size from HB2.out.size)
        have HBA := Aside0.mk (below_alloc HB2.out (.cells #[.int .i64 x.f0, .int .i64 x.f1] 50))
        clear q0 q1 x1 bx
        go_wp2_with fail
        refine HGR.out.mono ?_
        rintro e w4 ⟨rfl, hI4, hG4⟩
        have HI4 := Aside0.mk hI4
        have HG4 := Aside0.mk hG4
        have hZ4 : ¬ F0 w2.heap.size := fun h => by have := (HF0.out _ h).2.2; have := HSA.out; omega
        have bx4 := (hG4.block w2.heap.size (by simp) hZ4).trans BX.out
        have BX4 := Aside0.mk bx4
        have HRo4 := Aside0.mk (HRoA.out.grew hG4 (fun k hk h => (HF0.out k h).2.1 hk))
        obtain ⟨hA4, hc4, qA4, qc4, k1, k2, k3, k4, k5, k6, k7⟩ := hI4
        have HK1 := Aside0.mk k1
        have t1 : w4.cell? ⟨b, 1, none⟩ = some (.slice qA4 (x :: qs1).length qc4) := (blk_cell k1 1).trans rfl
        have t2 := cell_al t1 (.cells #[] 50)
        have HK5 := Aside0.mk k5
        have p3 : (1 : Int) ≤ ((x :: qs1).length : Int) := by rw [List.length_cons]; omega
        have p4 : (1 : Int) ≤ (qc4 : Int) := by have := k5.2.1; rw [List.length_cons] at this; omega
        have p5 : ((x :: qs1).length : Int) ≤ (qc4 : Int) := by have := k5.2.1; omega
        rw [HQN.out] at t1 t2 p3 p5
        have hR5 := k5.from_ 1 (by simp)
        have HR5 := Aside0.mk (hR5.alloc (.cells #[] 50))
        rw [HQN.out] at HR5
        have HE0 := Aside0.mk (lit_be (Below.refl w4.heap.size w4) 50 2 0 #[] rfl (by decide))
        have HB40 := Aside0.mk (below_alloc (Below.refl w4.heap.size w4) (.cells #[] 50))
        have HO1 := Aside0.mk (show ∀ u ∈ (flat (x :: qs1)).drop (1 * 2), u.oneCell' = true from fun u hu => flat_one _ u (List.mem_of_mem_drop hu))
        clear g0 g1 y0 y1 z1 hG4 hZ4 bx4 k1 k2 k3 k4 k5 k6 k7 hR5
        by_cases hq1 : qc4 = 1
        all_goals
          go_wp2_with (at_builtin; refine wpList_append_rows rfl _ _ 27 rfl 50 _ 2 16 Try.underlying27 infoE0 rfl _ 0 0 [] (by simp [Act.eval, Act.put]) HE0.out (if qc4 = 1 then qA4 else qA4.map (·.add (1 * 2))) (qn - 1) (qc4 - 1) _ (by first | (simp [Act.eval, Act.put, hq1]; done) | (simp [Act.eval, Act.put, Addr.add, hq1]; done) | (simp [Act.eval, Act.put, hq1]; rfl)) HR5.out HO1.out (by have := HN.out; have := HQN.out; unfold maxLen; omega) (by have := HN.out; have := HQN.out; omega) ?_)
          intro A8 c8 w8 hR8 hG8 hk8
          have HB8 := Aside0.mk (hG8.to_below HB40.out HB40.out.size (blk_le (Nat.le_refl _)))
          have HR8 := Aside0.mk hR8
          have HK8 := Aside0.mk (show ∀ k, blk A8 k → w4.heap.size ≤ k from fun k h => (hk8 k h).elim (blk_le (Nat.le_refl _) k) (fun h2 => by first | exact Nat.le_trans HB40.out.size h2 | (have h3 : w4.heap.size + 1 ≤ k := h2; omega)))
          have hW8 := (HB8.out.block b (Array.getElem?_eq_some_iff.1 HK1.out).1).trans HK1.out
          have t3 : w8.cell? ⟨b, 1, none⟩ = some (.slice qA4 (x :: qs1).length qc4) := (blk_cell hW8 1).trans rfl
          have t4 : w8.frozen? ⟨b, 1, none⟩ = false := blk_frozen hW8 1
          have HI9 := Aside0.mk (HI4.out.setQ HB8.out HR8.out HK8.out (l := qs1) (show [] ++ (flat (x :: qs1)).drop (1 * 2) = flat qs1 from rfl) (by have := HQN.out; simp at this; omega))
          have HRo8 := Aside0.mk ((HRo4.out.below HB8.out).set (p := ⟨b, 1, none⟩) ((HRo4.out.ne HK1.out (by decide))) (.slice A8 (0 + (qn - 1)) c8))
          have hx8 := (HB8.out.block w2.heap.size (Nat.lt_of_lt_of_le (by simp) HG4.out.size)).trans BX4.out
          have hne : b ≠ w2.heap.size := fun e => by have := (HF0.out b HFS.out).2.2; have := HSA.out; omega
          have hx9 := (Below.heap_setCell w8 ⟨b, 1, none⟩ (.slice A8 (0 + (qn - 1)) c8) w2.heap.size (fun e => hne e.symm)).trans hx8
          simp only [Nat.zero_add] at HI9 HRo8 hx9
          have g0 : (w8.setCell ⟨b, 1, none⟩ (.slice A8 (qn - 1) c8)).cell? ⟨w2.heap.size, 0, none⟩ = some (.int .i64 x.f0) := (blk_cell hx9 0).trans rfl
          have HRoL := Aside0.mk (HRo8.out.alloc (.cells #[.int .i64 x.f0] 3))
          clear t1 t2 hR8 hG8 hk8 hW8 hx8 hne hx9
          go_wp2_with (at_builtin; refine wpList_append_info rfl _ _ 34 rfl 3 _ 1 8 Try.underlying34 info3 rfl A' out.length c' (ints out) (by simp [Act.eval, Act.put]) HRoL.out ⟨(w8.setCell ⟨b, 1, none⟩ (.slice A8 (qn - 1) c8)).heap.size, 0, none⟩ 1 1 [.int .i64 x.f0] (by simp [Act.eval, Act.put]) rfl (one_at (blk_new _ _)) (one_one _) (by have := HN.out; unfold maxLen; omega) (by have := HN.out; omega) ?_)
          intro A2 c2 w9 hR9 hG9 hk9
          have HR9 := Aside0.mk hR9
          have HG9 := Aside0.mk hG9
          have HK9 := Aside0.mk hk9
          clear hR9 hG9 hk9 g0 t3 t4
          go_wp2
          go_roundg qs1.length
          case measure => have h := HGG.out; rw [List.length_cons] at h; omega
          case rel =>
            obtain ⟨F1, hI9, hF1⟩ := HI9.out.1.exact_
            have hG89 := HI9.out.2
            have e1 : ints out ++ [.int .i64 x.f0] = ints (out ++ [x.f0]) := by simp [ints]
            have e2 : (out ++ [x.f0]).length = out.length + 1 := by simp
            have sA : (w2.alloc (.cells #[.int .i64 x.f0, .int .i64 x.f1] 50)).heap.size = w2.heap.size + 1 := by simp
            have s12 : wr.heap.size ≤ w2.heap.size := HSA.out
            have s4 := HG4.out.size
            have s8 : w4.heap.size ≤ (w8.setCell ⟨b, 1, none⟩ (.slice A8 (qn - 1) c8)).heap.size := hG89.size
            have s01 : w.heap.size ≤ wr.heap.size := HG1.out.size
            have e8 : (w8.setCell ⟨b, 1, none⟩ (.slice A8 (qn - 1) c8)).heap.size = w8.heap.size := by simp
            generalize w8.setCell ⟨b, 1, none⟩ (.slice A8 (qn - 1) c8) = W8 at e8 hI9 hF1 hG89 s8 HR9 HG9 HK9
            have hsz8 : (W8.alloc (.cells #[.int .i64 x.f0] 3)).heap.size = W8.heap.size + 1 := by simp
            have s9 : W8.heap.size + 1 ≤ w9.heap.size := by have := HG9.out.size; rw [hsz8] at this; exact this
            rw [sA] at s4
            have hF1n : ∀ k, F1 k → ¬ blk A' k := fun k h hb => by
              have h3 := HRo.out.lt hb
              rcases (hF1 k h).1 with (h2 | h2) | h2
              · exact (HF0.out k h2).2.1 hb
              · rw [sA] at h2; omega
              · omega
            refine ⟨grantsIn hs1 x.f0 x.f1, qs1, out ++ [x.f0], A2, c2, F1, by rw [e2], Nat.le_refl _, (hI9.below (below_alloc (Below.refl _ _) _)).grew HG9.out hF1n, by rw [e2, ← e1]; exact HR9.out, ?_, ?_, ?_, ⟨asc_grants HA1.out.1, grants_md HA1.out.1 HA1.out.2.1 HMX.out, fun y hy => HA1.out.2.2 y (by simp [hy])⟩, ?_, ?_⟩
            · intro k hk
              rcases HK9.out k hk with h | h
              · exact HKo.out k h
              · first | omega | (rw [hsz8] at h; omega)
            · intro k hk
              have h9 := hF1 k hk
              refine ⟨?_, fun hb => ?_, by omega⟩
              · rcases h9.1 with (h2 | h2) | h2
                · exact (HF0.out k h2).1
                · rw [sA] at h2; exact .inr (by omega)
                · exact .inr (by omega)
              · rcases HK9.out k hb with h | h
                · exact hF1n k hk h
                · first | omega | (rw [hsz8] at h; omega)
            · have g1 : Grew F w (w2.alloc (.cells #[.int .i64 x.f0, .int .i64 x.f1] 50)) := HG1.out.below HBA.out
              have g2 : Grew F w w4 := g1.trans HG4.out (fun k h => (HF0.out k h).1)
              have g3 : Grew F w W8 := g2.trans hG89 (fun k h => h.elim (fun h => (HF0.out k h).1) (fun h => .inr (by rw [sA] at h; omega)))
              exact (g3.alloc _).trans HG9.out (fun k h => .inr (HKo.out k h))
            · rw [← HRes.out]
              simp [serveQ, HFIT.out]
            · have hg := grants_len hs1 x.f0 x.f1
              have := HN.out
              simp only [List.length_append, List.length_cons, List.length_nil] at this ⊢
              omega
end Go.Proofs.Ytfpnadalfopmcaa.Ln
