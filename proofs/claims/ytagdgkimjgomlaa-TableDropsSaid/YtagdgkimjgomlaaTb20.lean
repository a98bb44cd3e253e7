/- TableDrops: its walk. -/
import Derived.Test.YtagdgkimjgomlaaTb19
import Derived.Deep.RegionHeld3
namespace Go.Proofs.Ytagdgkimjgomlaa.Ln
open Go.RowKit Go.Proofs.YtagdgkimjgomlaaW.PrintWords Go.Proofs.YtagdgkimjgomlaaW.PrintLast Go.Proofs.YtagdgkimjgomlaaW.PrintMore Go.Proofs.Ytagdgkimjgomlaa.PMd
open Go.Maps
open Go.Sort (grow)
set_option linter.unusedVariables false
set_option linter.unusedSimpArgs false
theorem getD_mem20 {l : List Op4} {i : Nat} (h : i < l.length) : l.getD i zOp4 ∈ l := by
  rw [List.getD_eq_getElem?_getD, List.getElem?_eq_getElem h]; exact List.getElem_mem h
theorem getD_memI {l : List Int} {i : Nat} (h : i < l.length) : l.getD i 0 ∈ l := by
  rw [List.getD_eq_getElem?_getD, List.getElem?_eq_getElem h]; exact List.getElem_mem h
theorem IsTab.rowed {w w' : World} {b N : Nat} {F : Nat → Prop} {ls : List LS} {most : Int} {f : At} (h : IsTab w b F ls most N f) {e n c : Nat} {A : Option Addr} {xs : List Value} (hR : Row w e 1 A n c xs) (he : noTab e) (hg : Grew (blk A) w w') : IsTab w' b F ls most N f := by
  obtain ⟨mm, F0, _, hmc, hT, hF⟩ := h.typed
  exact (hT.grew hg (fun k hk hb => by obtain ⟨cur, hc⟩ := hR.typed hb; exact (hF k hk).2.2.ne hmc he hc)).mono (fun k _ hk => (hF k hk).1)
theorem IsTab.put {w : World} {b N : Nat} {F : Nat → Prop} {ls : List LS} {most : Int} {f : At} (h : IsTab w b F ls most N f) {p : Addr} {cur : Array Value} {e : TypeId} (hp : w.heap[p.block]? = some (.cells cur e (0, 0))) (he : noTab e) (u : Value) : IsTab (w.setCell p u) b F ls most N f := by
  obtain ⟨mm, F0, _, hmc, hT, hF⟩ := h.typed
  exact (hT.move (fun k hk _ => Below.heap_setCell w p u k (fun e2 => by subst e2; exact (hF _ hk).2.2.ne hmc he hp))).mono (fun k _ hk => (hF k hk).1)
theorem waits_some (ls : List LS) (f : At) (who : Int) : (waitsT ls f who).2.2 = (f who).isSome := by
  unfold waitsT; cases f who <;> rfl
theorem waits_none (ls : List LS) {f : At} {who : Int} (h : f who = none) : waitsT ls f who = (0, 0, false) := by
  unfold waitsT; rw [h]
theorem Src.below {w w' : World} {Al : Option Addr} {m : Nat} {news : List Value} (h : Src w Al m news) (hb : Below w.heap.size w w') : Src w' Al m news := by
  rcases h with h | ⟨ad, rfl, h⟩
  · exact .inl h
  · exact .inr ⟨ad, rfl, fun j u hu => cell_be (h j u hu) hb⟩
theorem infoB : ∃ i, Try.prog.info? 4 = some i ∧ i.zero = some (.bool false) ∧ i.size = 1 ∧ i.bytes = 1 := by
  have h : (Try.prog.info? 4).map (fun i => (i.zero, i.size, i.bytes)) = some (some (.bool false), 1, 1) := by kernel_rfl
  cases hi : Try.prog.info? 4 with
  | none => rw [hi] at h; cases h
  | some i => rw [hi] at h; exact ⟨i, rfl, by simpa using h⟩
theorem Row.empty (w : World) (e : TypeId) : Row (w.alloc (.cells #[] e)) e 1 (some ⟨w.heap.size, 0, none⟩) 0 0 [] :=
  ⟨by simp, Nat.le_refl _, Nat.zero_le _, .inr ⟨w.heap.size, 0, #[], rfl, blk_new w _, by simp, by simp⟩⟩
theorem bools_set (B : List Bool) (j : Nat) (b : Bool) : bools (B.set j b) = (bools B).set j (.bool b) := by simp [bools, List.map_set]
theorem was_at {W : World} {gB x : Nat} {Bl : List Bool} (h : Row W 4 1 (some ⟨gB, 0, none⟩) 1001 1001 (bools Bl)) (hx : x < 1001) : W.cell? ⟨gB, x, none⟩ = some (.bool (Bl.getD x false)) ∧ W.frozen? ⟨gB, x, none⟩ = false ∧ ∃ cur, W.heap[gB]? = some (.cells cur 4 (0, 0)) := by
  have hl : Bl.length = 1001 := by have := h.1; simpa [bools] using this
  obtain ⟨g, off, cur, e, hg, _, hc⟩ := h.at_ (by omega)
  injection e with e
  injection e with e1 e2
  subst e1 e2
  have := hc x (.bool (Bl.getD x false)) (by unfold bools; rw [List.getElem?_map, List.getD_eq_getElem?_getD, List.getElem?_eq_getElem (by omega)]; rfl)
  rw [Nat.zero_add] at this
  exact ⟨this.1, this.2, cur, hg⟩
theorem was_put {W : World} {gB x : Nat} {Bl : List Bool} (h : Row W 4 1 (some ⟨gB, 0, none⟩) 1001 1001 (bools Bl)) (hx : x < 1001) (b : Bool) : Row (W.setCell ⟨gB, x, none⟩ (.bool b)) 4 1 (some ⟨gB, 0, none⟩) 1001 1001 (bools (Bl.set x b)) := by
  have h2 := h.put x (by have := h.1; omega) (.bool b)
  rwa [Nat.zero_add, ← bools_set] at h2
theorem made_bools2 : (madeCells #[Value.bool false] 1001).toList = bools (List.replicate 1001 false) := by
  rw [toList_madeCells_one]; unfold bools; rw [List.map_replicate]
theorem add_block (a : Addr) (n : Nat) : (a.add n).block = a.block := by unfold Addr.add; split <;> rfl
theorem noI : noTab 3 := by unfold noTab; decide
theorem noB : noTab 4 := by unfold noTab; decide
set_option maxHeartbeats 8000000 in
set_option maxRecDepth 100000 in
theorem drops_bad (nodes : Int) (A : Option Addr) (c : Nat) (l : List Op4) (Ao : Option Addr) (co : Nat) (order : List Int) (w : World) (h : nodes < 1 ∨ nodes > 60 ∨ 300 < l.length ∨ 100 < order.length) :
    Calls Try.prog 15 #[.int .i64 nodes, .slice A l.length c, .slice Ao order.length co] w fun e w' => e = .returned (.bool true) ∧ Below w.heap.size w w' := by
  have key : ∀ a b c1 d : Bool, decide (nodes < 1) = a → decide (nodes > 60) = b → decide (l.length > 300) = c1 → decide (order.length > 100) = d → (a || b || c1 || d) = true →
      Calls Try.prog 15 #[.int .i64 nodes, .slice A l.length c, .slice Ao order.length co] w fun e w' => e = .returned (.bool true) ∧ Below w.heap.size w w' := by
    intro a b c1 d ha hb hc hd h
    have hc' : decide ((l.length : Int) > 300) = c1 := by rw [← hc]; exact decide_eq_decide.2 (by omega)
    have hd' : decide ((order.length : Int) > 100) = d := by rw [← hd]; exact decide_eq_decide.2 (by omega)
    cases a with
    | true =>
      go_enter Try.func15, Try.ntmps15
      go_wp2_with fail
      refine (firstT_ w).mono ?_
      rintro e w1 ⟨rfl, hb1⟩
      have HB := Aside0.mk hb1
      clear hb1
      go_wp2_with fail
      refine (firstT_ w1).mono ?_
      rintro e w2 ⟨rfl, hb2⟩
      have HB2 := Aside0.mk (below_then HB.out HB.out.size hb2)
      clear hb2
      go_wp2
      go_ret
      exact ⟨rfl, HB2.out⟩
    | false =>
    cases b with
    | true =>
      go_enter Try.func15, Try.ntmps15
      go_wp2_with fail
      refine (firstT_ w).mono ?_
      rintro e w1 ⟨rfl, hb1⟩
      have HB := Aside0.mk hb1
      clear hb1
      go_wp2_with fail
      refine (firstT_ w1).mono ?_
      rintro e w2 ⟨rfl, hb2⟩
      have HB2 := Aside0.mk (below_then HB.out HB.out.size hb2)
      clear hb2
      go_wp2
      go_ret
      exact ⟨rfl, HB2.out⟩
    | false =>
    cases c1 with
    | true =>
      go_enter Try.func15, Try.ntmps15
      go_wp2_with fail
      refine (firstT_ w).mono ?_
      rintro e w1 ⟨rfl, hb1⟩
      have HB := Aside0.mk hb1
      clear hb1
      go_wp2_with fail
      refine (firstT_ w1).mono ?_
      rintro e w2 ⟨rfl, hb2⟩
      have HB2 := Aside0.mk (below_then HB.out HB.out.size hb2)
      clear hb2
      go_wp2
      go_ret
      exact ⟨rfl, HB2.out⟩
    | false =>
    cases d with
    | true =>
      go_enter Try.func15, Try.ntmps15
      go_wp2_with fail
      refine (firstT_ w).mono ?_
      rintro e w1 ⟨rfl, hb1⟩
      have HB := Aside0.mk hb1
      clear hb1
      go_wp2_with fail
      refine (firstT_ w1).mono ?_
      rintro e w2 ⟨rfl, hb2⟩
      have HB2 := Aside0.mk (below_then HB.out HB.out.size hb2)
      clear hb2
      go_wp2
      go_ret
      exact ⟨rfl, HB2.out⟩
    | false => cases h
  refine key _ _ _ _ rfl rfl rfl rfl ?_
  simp only [Bool.or_eq_true, decide_eq_true_eq]
  omega
set_option maxHeartbeats 16000000 in
set_option maxRecDepth 100000 in
theorem drops_in (n : Nat) (A : Option Addr) (c : Nat) (l : List Op4) (Ao : Option Addr) (co : Nat) (order : List Int) (w : World) (hr : Kd.C kOp4 w A l.length l) (hc : l.length ≤ c) (hl : ∀ x ∈ l, ok64 x.f0 ∧ ok64 x.f1 ∧ ok64 x.f2 ∧ ok64 x.f3)
    (hro : Kd.C (Kd.int .i64) w Ao order.length order) (hlo : ∀ x ∈ order, ok64 x) (n1 : 1 ≤ n) (n2 : n ≤ 60) (h1 : l.length ≤ 300) (h2 : order.length ≤ 100) :
    Calls Try.prog 15 #[.int .i64 (n : Int), .slice A l.length c, .slice Ao order.length co] w fun e w' => e = .returned (.bool true) ∧ Below w.heap.size w w' := by
  have mixed : Try.prog.follows Departure.mixedOrders = true := by kernel_rfl
  have hu33 := Try.underlying33
  have hu38 := Try.underlying38
  have HR := Aside0.mk hr
  have HN := Aside0.mk (And.intro n1 (And.intro n2 (And.intro h1 (And.intro hc h2))))
  have HW := Aside0.mk hl
  have HSo := Aside0.mk (Src.of_ints hro)
  have HLo := Aside0.mk hlo
  have HIB := Aside0.mk infoB
  have b1 : decide ((n : Int) < 1) = false := decide_eq_false (by omega)
  have b2 : decide ((n : Int) > 60) = false := decide_eq_false (by omega)
  have b3 : decide ((l.length : Int) > 300) = false := decide_eq_false (by omega)
  have b4 : decide (l.length > 300) = false := decide_eq_false (by omega)
  have b5 : decide ((order.length : Int) > 100) = false := decide_eq_false (by omega)
  have b6 : decide (order.length > 100) = false := decide_eq_false (by omega)
  have HNew := Aside0.mk (fun W => NewT_ n 4096 W n1 (by omega) (by decide) (by decide))
  have HO0 := Aside0.mk (dinv_zero n)
  clear hr hc hl hro hlo n1 n2 h1 h2
  go_enter Try.func15, Try.ntmps15
  go_wp2_with fail
  refine (firstT_ w).mono ?_
  rintro e w1 ⟨rfl, hb1⟩
  have HB1 := Aside0.mk hb1
  clear hb1
  go_wp2_with fail
  refine (HNew.out w1).mono ?_
  rintro e w2 ⟨rfl, hT, hb⟩
  have HT := Aside0.mk (hT.mono (F' := fun k => w.heap.size ≤ k) (fun k _ hk => Nat.le_trans HB1.out.size hk))
  have HB := Aside0.mk (below_then HB1.out HB1.out.size hb)
  clear hT hb HNew b1 b2 b3 b4 b5 b6
  generalize w1.heap.size + 1 = B at HT ⊢
  go_wp2_with fail
  go_loopg [9, 10] l.length (fun gg v9 v10 wr => ∃ (i : Nat) (ls : List LS) (f : At) (W : List Int) (A9 : Option Addr) (c9 : Nat), i ≤ l.length ∧ l.length - i ≤ gg ∧ v10 = .int .i64 i ∧ v9 = .slice A9 W.length c9 ∧ Aside0 (IsTab wr B (fun k => w.heap.size ≤ k) ls 4096 i f) ∧ Aside0 (Below w.heap.size w wr) ∧ Aside0 (DInv n i W [] ls f) ∧
    Aside0 (Row wr 3 1 A9 W.length c9 (ints W)) ∧ Aside0 ((∀ k, blk A9 k → w.heap.size ≤ k) ∧ W.length = i ∧ ∀ x ∈ W, ok64 x ∧ 0 ≤ x ∧ x ≤ 1000))
  case atStart => exact ⟨0, _, _, [], none, 0, by omega, by omega, rfl, rfl, HT, HB, HO0, ⟨Row.zero _ _ _⟩, ⟨fun k h => (blk_none h).elim, rfl, fun x hx => by cases hx⟩⟩
  case round =>
    clear HT HB HB1 HO0
    obtain ⟨i, ls, f, W, A9, c9, hi, hgg, rfl, rfl, HT, HB, HV, HRW, HWW⟩ := hrel
    by_cases hlt : i < l.length
    · have t1 : (i : Int) < l.length := by omega
      have t0 : 0 ≤ (i : Int) := by omega
      obtain ⟨ad, rfl, q0, q1, q2, q3⟩ := at_Op4 HR.out i hlt
      have HWo := Aside0.mk (HW.out _ (getD_mem20 hlt))
      have HLT := Aside0.mk (And.intro hlt hgg)
      generalize l.getD i zOp4 = o at q0 q1 q2 q3 HWo
      have HQ := Aside0.mk (And.intro q1 (And.intro q2 q3))
      replace q1 := cell_be q1 HB.out
      replace q2 := cell_be q2 HB.out
      replace q3 := cell_be q3 HB.out
      have W3 := Aside0.mk (show wrap64 ((i : Int) + 1) = ((i + 1 : Nat) : Int) by have := HN.out; unfold wrap64; omega)
      clear q0 hlt hgg
      by_cases g1 : o.f1 < 0
      · have e1 : decide (o.f1 < 0) = true := decide_eq_true g1
        clear g1 HT
        go_wp2_with fail
        refine (firstT_ _).mono ?_
        rintro e w3 ⟨rfl, hb⟩
        have HB3 := Aside0.mk (below_then HB.out HB.out.size hb)
        clear hb
        go_wp2
        go_ret
        exact ⟨rfl, HB3.out⟩
      · have e1 : decide (o.f1 < 0) = false := decide_eq_false g1
        by_cases g2 : o.f1 > 1000
        · have e2 : decide (o.f1 > 1000) = true := decide_eq_true g2
          clear g1 g2 HT
          go_wp2_with fail
          refine (firstT_ _).mono ?_
          rintro e w3 ⟨rfl, hb⟩
          have HB3 := Aside0.mk (below_then HB.out HB.out.size hb)
          clear hb
          go_wp2
          go_ret
          exact ⟨rfl, HB3.out⟩
        · have e2 : decide (o.f1 > 1000) = false := decide_eq_false g2
          have HGo := Aside0.mk (show 0 ≤ o.f1 ∧ o.f1 ≤ 1000 by omega)
          clear g1 g2
          have hbd := below_drew (Below.refl wr.heap.size wr)
          have HA := Aside0.mk (AskT_k (HT.out.below hbd) (below_then HB.out HB.out.size hbd) (HV.out.small (by have := HN.out; omega) (by have := HN.out; omega)) (by have := HN.out; omega) o.f1 o.f2 o.f3 HWo.out.2.1)
          have HV1 := Aside0.mk (HV.out.ask HWo.out.2.1 o.f2 o.f3)
          have HRd := Aside0.mk (show Row wr.drew 3 1 A9 W.length c9 (ints W) from HRW.out.drewN 1)
          clear hbd HT HV HRW
          generalize (askT ls 4096 f o.f1 o.f2 o.f3) = R at HV1 HA
          go_wp2_with fail
          go_region_held3 (fun W => W.cell? ⟨(ad.add (i * 4)).block, (ad.add (i * 4)).off + 1, none⟩ = some (.int .i64 o.f1) ∧ W.cell? ⟨(ad.add (i * 4)).block, (ad.add (i * 4)).off + 2, none⟩ = some (.int .i64 o.f2) ∧ W.cell? ⟨(ad.add (i * 4)).block, (ad.add (i * 4)).off + 3, none⟩ = some (.int .i64 o.f3))
            (first | exact ⟨q1, q2, q3⟩ | exact ⟨n1, n2, n3⟩)
            (first | (go_at_call 23; refine HA.out.mono ?_; rintro e w5 ⟨rfl, hT5, hB5, hK5⟩; have n1 := cell_be HQ.out.1 hB5; have n2 := cell_be HQ.out.2.1 hB5; have n3 := cell_be HQ.out.2.2 hB5))
          clear q1 q2 q3 n2 n3
          obtain ⟨r, er, ls2, f2⟩ := R
          have HT5 := Aside0.mk (hT5.below (below_alloc (Below.refl _ _) (.cells #[.int .i64 o.f1] 3)))
          have HB5 := Aside0.mk (below_alloc hB5 (.cells #[.int .i64 o.f1] 3))
          have HR5 := Aside0.mk ((HRd.out.keepT hK5 noI).alloc (.cells #[.int .i64 o.f1] 3))
          have BS := Aside0.mk (blk_new w5 (.cells #[.int .i64 o.f1] 3))
          have HS5 := Aside0.mk hB5.size
          clear hT5 hB5 hK5 HA HRd
          dsimp only at HV1 HT5 ⊢
          go_wp2_with (first | (at_builtin; refine wpList_append_info rfl _ _ 53 rfl 3 _ 1 8 Try.underlying53 info3 rfl A9 W.length c9 (ints W) (by simp [Act.eval, Act.put]) HR5.out ⟨w5.heap.size, 0, none⟩ 1 1 [.int .i64 o.f1] (by simp [Act.eval, Act.put]) rfl (one_at BS.out) (one_one _) (by have := HWW.out; have := HN.out; unfold maxLen; omega) (by have := HWW.out; have := HN.out; omega) ?_) | fail)
          intro A6 c6 w6 hR6 hG6 hk6
          have HT6 := Aside0.mk (HT5.out.rowed HR5.out noI hG6)
          have HB6 := Aside0.mk (hG6.to_below HB5.out HB5.out.size (fun k h => HWW.out.1 k h))
          have HR6 := Aside0.mk (show Row w6 3 1 A6 (W ++ [o.f1]).length c6 (ints (W ++ [o.f1])) by have h3 := hR6; simpa [ints] using h3)
          have HK6 := Aside0.mk (show ∀ k, blk A6 k → w.heap.size ≤ k from fun k h => (hk6 k h).elim (HWW.out.1 k) (fun h2 => by have h3 := HS5.out; have h4 : w5.heap.size + 1 ≤ k := (by simpa using h2); omega))
          clear hR6 hG6 hk6 HR5 HB5 HT5 BS n1
          go_wp2
          go_roundg (l.length - (i + 1))
          case measure => have := HLT.out; omega
          case rel => exact ⟨i + 1, ls2, f2, W ++ [o.f1], A6, c6, by have := HLT.out; omega, by have := HLT.out; omega, by first | (rw [W3.out]; done) | (simp; done), by simp, HT6, HB6, HV1, HR6, ⟨HK6.out, by have := HWW.out.2.1; simp; omega, fun x hx => by
            rcases List.mem_append.1 hx with hx | hx
            · exact HWW.out.2.2 x hx
            · rw [List.mem_singleton.1 hx]; exact ⟨HWo.out.2.1, HGo.out⟩⟩⟩
    · obtain rfl : i = l.length := by omega
      have t1 : ¬ (l.length : Int) < l.length := by omega
      have HE0 := Aside0.mk (Row.empty wr 3)
      have HSw := Aside0.mk ((HSo.out.below HB.out).below (below_alloc (Below.refl _ _) (.cells #[] 3)))
      have HTe := Aside0.mk (HT.out.below (below_alloc (Below.refl _ _) (.cells #[] 3)))
      have HBe := Aside0.mk (below_alloc HB.out (.cells #[] 3))
      have HRe := Aside0.mk (HRW.out.alloc (.cells #[] 3))
      have HLt := Aside0.mk (fun k (h : blk A9 k) => HRW.out.lt h)
      have HBs := Aside0.mk HB.out.size
      clear hlt hgg hi HT HB HRW
      go_wp2_with (first | (at_builtin; refine wpList_append_src rfl _ _ 53 rfl 3 _ 1 8 Try.underlying53 info3 rfl (some ⟨wr.heap.size, 0, none⟩) 0 0 [] (by simp [Act.eval, Act.put]) HE0.out Ao order.length co (ints order) (by simp [Act.eval, Act.put]) (by simp [ints]) HSw.out (ints_one order) (by have := HN.out; unfold maxLen; omega) (by have := HN.out; omega) ?_) | fail)
      intro A11 c11 w11 hR11 hG11 hk11
      have HT11 := Aside0.mk (HTe.out.rowed HE0.out noI hG11)
      have HB11 := Aside0.mk (hG11.to_below HBe.out HBe.out.size (fun k ⟨a, h, e⟩ => by cases h; have := HBs.out; subst e; exact this))
      have HRW11 := Aside0.mk (HRe.out.grew hG11 (fun k hk ⟨a, h, e⟩ => by cases h; have := HLt.out k hk; subst e; exact Nat.lt_irrefl _ this))
      have HR11 := Aside0.mk (show Row w11 3 1 A11 order.length c11 (ints order) by simpa using hR11)
      have HK11 := Aside0.mk (show ∀ k, blk A11 k → wr.heap.size ≤ k from fun k h => (hk11 k h).elim (fun ⟨a, h, e⟩ => by cases h; subst e; exact Nat.le_refl _) (fun h2 => by have h4 : wr.heap.size + 1 ≤ k := (by simpa using h2); omega))
      clear hR11 hG11 hk11 HE0 HSw HTe HBe HRe
      try rw [Nat.zero_add]
      go_wp2_with (first | (at_builtin; refine wpList_append_src rfl _ _ 53 rfl 3 _ 1 8 Try.underlying53 info3 rfl A11 order.length c11 (ints order) (by simp [Act.eval, Act.put]) HR11.out A9 W.length c9 (ints W) (by simp [Act.eval, Act.put]) (by simp [ints]) (Src.of_row HRW11.out) (ints_one W) (by have := HN.out; have := HWW.out; unfold maxLen; omega) (by have := HN.out; have := HWW.out; omega) ?_) | fail)
      intro A12 c12 w12 hR12 hG12 hk12
      have HT12 := Aside0.mk (HT11.out.rowed HR11.out noI hG12)
      have HB12 := Aside0.mk (hG12.to_below HB11.out HB11.out.size (fun k h => Nat.le_trans HBs.out (HK11.out k h)))
      have HRW12 := Aside0.mk (HRW11.out.grew hG12 (fun k hk h => by have h1 := HLt.out k hk; have h2 := HK11.out k h; omega))
      have HAL := Aside0.mk (show (order ++ W).length ≤ 400 ∧ (∀ x ∈ order ++ W, ok64 x) ∧ ∀ x ∈ W, x ∈ order ++ W from ⟨by have := HN.out; have := HWW.out; rw [List.length_append]; omega, fun x hx => (List.mem_append.1 hx).elim (HLo.out x) (fun h => (HWW.out.2.2 x h).1), fun x hx => List.mem_append_right _ hx⟩)
      have eL : order.length + W.length = (order ++ W).length := by simp
      have HRA12 := Aside0.mk (show Row w12 3 1 A12 (order ++ W).length c12 (ints (order ++ W)) by rw [← eL]; simpa [ints] using hR12)
      rw [eL]
      clear hR12 hG12 hk12 eL HR11 HRW11 HT11 HB11 HK11 HLt HBs
      generalize order ++ W = ALL at HAL HRA12 ⊢
      go_wp2_with fail
      go_loopg [12] ALL.length (fun gg v12 wr2 => ∃ (k : Nat) (ls : List LS) (f : At), k ≤ ALL.length ∧ ALL.length - k ≤ gg ∧ v12 = .int .i64 k ∧ Aside0 (IsTab wr2 B (fun k => w.heap.size ≤ k) ls 4096 l.length f) ∧ Aside0 (Below w.heap.size w wr2) ∧ Aside0 (DInv n l.length W (ALL.take k) ls f) ∧
        Aside0 (Row wr2 3 1 A9 W.length c9 (ints W)) ∧ Aside0 (Row wr2 3 1 A12 ALL.length c12 (ints ALL)))
      case atStart => exact ⟨0, _, _, by omega, by omega, rfl, HT12, HB12, by rw [List.take_zero]; exact HV, HRW12, HRA12⟩
      case round =>
        clear HT12 HB12 HV HRW12 HRA12
        obtain ⟨k, ls2, f2, hk, hgk, rfl, HT2, HB2, HV2, HRW2, HRA2⟩ := hrel
        by_cases hlk : k < ALL.length
        · have s1 : (k : Int) < ALL.length := by omega
          have s0 : 0 ≤ (k : Int) := by omega
          have HKk := Aside0.mk (And.intro hlk hgk)
          obtain ⟨i0, hi0, hz0, hs0, hb0⟩ := HIB.out
          go_wp2_with (first | (at_make; refine wpList_make_full _ rfl _ _ 81 rfl w.heap.size 4 i0 (.bool false) 1 Try.underlying81 hi0 hz0 hs0 .i64 .i64 1001 1001 1001 rfl rfl rfl rfl (by rw [hb0]; decide) (by unfold maxLen; decide) HB2.out.size ?_) | fail)
          intro w3 hown hgr
          have hbw : Below wr.heap.size wr w3 := (Below.refl _ _).grown hgr (Nat.le_refl _) (by simp)
          have HT3 := Aside0.mk (HT2.out.below hbw)
          have HB3 := Aside0.mk (below_then HB2.out HB2.out.size hbw)
          have HRW3 := Aside0.mk (HRW2.out.below hbw)
          have HRA3 := Aside0.mk (HRA2.out.below hbw)
          have hRb := row_of_owns hown
          rw [made_bools2] at hRb
          have HgB := Aside0.mk HB2.out.size
          have HM3 := Aside0.mk (show Marks f2 W 0 (List.replicate 1001 false) from ⟨List.length_replicate, fun q hq => by omega⟩)
          generalize wr.heap.size = gB at hRb HgB ⊢
          have HRb := Aside0.mk hRb
          clear hown hgr hbw hRb HT2 HB2 HRW2 HRA2 hi0 hz0 hs0 hb0 hlk hgk
          go_wp2_with fail
          go_loopg [14] W.length (fun gg v14 wr3 => ∃ (p : Nat) (Bl : List Bool), p ≤ W.length ∧ W.length - p ≤ gg ∧ v14 = .int .i64 p ∧ Aside0 (IsTab wr3 B (fun k => w.heap.size ≤ k) ls2 4096 l.length f2) ∧ Aside0 (Below w.heap.size w wr3) ∧ Aside0 (Row wr3 3 1 A9 W.length c9 (ints W)) ∧ Aside0 (Row wr3 3 1 A12 ALL.length c12 (ints ALL)) ∧
            Aside0 (Row wr3 4 1 (some ⟨gB, 0, none⟩) 1001 1001 (bools Bl)) ∧ Aside0 (Marks f2 W p Bl))
          case atStart => exact ⟨0, _, by omega, by omega, rfl, HT3, HB3, HRW3, HRA3, HRb, HM3⟩
          case round =>
            clear HT3 HB3 HRW3 HRA3 HRb HM3
            obtain ⟨p, Bl, hp, hgp, rfl, HT3, HB3, HRW3, HRA3, HRb, HM3⟩ := hrel
            by_cases hlp : p < W.length
            · have u1 : (p : Int) < W.length := by omega
              have u0 : 0 ≤ (p : Int) := by omega
              obtain ⟨ad9, rfl, r0⟩ := Kd.at_int HRW3.out.readsI (p : Int) (by omega) (by omega)
              rw [Int.toNat_natCast, show rd W (p : Int) = W.getD p 0 from by simp [rd]] at r0
              have hx := HWW.out.2.2 _ (getD_memI hlp)
              have HMs := Aside0.mk (marks_step HM3.out (fun x hx => (HWW.out.2.2 x hx).2) hlp)
              have HPp := Aside0.mk (And.intro hlp hgp)
              generalize W.getD p 0 = y at r0 hx HMs
              obtain ⟨x, rfl⟩ : ∃ x : Nat, y = (x : Int) := ⟨y.toNat, by omega⟩
              rw [Int.toNat_natCast] at HMs
              have y0 : 0 ≤ (x : Int) := by omega
              have y1 : (x : Int) < 1001 := by omega
              have HX := Aside0.mk (show x < 1001 by omega)
              obtain ⟨curB, hcB⟩ := (was_at HRb.out HX.out).2.2
              have HNe := Aside0.mk (show (ad9.add p).block ≠ gB from fun h => HRW3.out.ne hcB (by decide) ⟨_, rfl, by rw [← h, add_block]⟩)
              have hbd := below_drew (Below.refl wr.heap.size wr)
              have HWt := Aside0.mk (WaitsT_ (HT3.out.below hbd) (x : Int) hx.1 (fun k h => HV2.out.t.lt _ k h))
              have HRbd := Aside0.mk (show Row wr.drew 4 1 (some ⟨gB, 0, none⟩) 1001 1001 (bools Bl) from HRb.out.drewN 1)
              have W5 := Aside0.mk (show wrap64 ((p : Int) + 1) = ((p + 1 : Nat) : Int) by have := HN.out; have := HWW.out; unfold wrap64; omega)
              have r0d : wr.drew.cell? (ad9.add p) = some (.int .i64 (x : Int)) := r0
              have HR0d := Aside0.mk r0d
              have HBd := Aside0.mk hbd
              have HVb := Aside0.mk (waits_some ls2 f2 (x : Int))
              clear hcB hbd hx hlp hgp hp r0d
              generalize waitsT ls2 f2 (x : Int) = wv at HWt HVb
              go_wp2_with fail
              go_region_held3 (fun V => V.cell? (ad9.add p) = some (.int .i64 (x : Int)))
                (first | exact r0 | exact nr0 | exact nr1 _)
                (first | (go_at_call 36; refine HWt.out.mono ?_; rintro e w5 ⟨rfl, hb⟩; have nr0 := cell_be HR0d.out hb; have nw0 := (was_at (HRbd.out.below hb) HX.out).1; have nw1 := (was_at (HRbd.out.below hb) HX.out).2.1; have nr1 := fun u => (World.cell?_of_block (a := ad9.add p) (Below.heap_setCell w5 ⟨gB, x, none⟩ u _ HNe.out)).trans nr0))
              have hbw : Below wr.heap.size wr w5 := below_then HBd.out HBd.out.size hb
              rw [HVb.out]
              obtain ⟨cur5, hc5⟩ := (was_at (HRb.out.below hbw) HX.out).2.2
              have HT5 := Aside0.mk ((HT3.out.below hbw).put (p := ⟨gB, x, none⟩) hc5 noB (.bool (f2 (x : Int)).isSome))
              have HB5 := Aside0.mk ((below_then HB3.out HB3.out.size hbw).setCell (p := ⟨gB, x, none⟩) HgB.out (.bool (f2 (x : Int)).isSome))
              have HRW5 := Aside0.mk ((HRW3.out.below hbw).set (p := ⟨gB, x, none⟩) ((HRW3.out.below hbw).ne hc5 (by decide)) (.bool (f2 (x : Int)).isSome))
              have HRA5 := Aside0.mk ((HRA3.out.below hbw).set (p := ⟨gB, x, none⟩) ((HRA3.out.below hbw).ne hc5 (by decide)) (.bool (f2 (x : Int)).isSome))
              have HRb5 := Aside0.mk (was_put (HRb.out.below hbw) HX.out (f2 (x : Int)).isSome)
              clear hb hbw hc5 r0 nr0 nw0 nw1 nr1 HWt HVb HRbd HR0d HBd HT3 HB3 HRW3 HRA3 HRb
              go_wp2
              go_roundg (W.length - (p + 1))
              case measure => have := HPp.out; omega
              case rel => exact ⟨p + 1, _, by have := HPp.out; omega, by have := HPp.out; omega, by first | (rw [W5.out]; done) | (simp; done), HT5, HB5, HRW5, HRA5, HRb5, HMs⟩
            · obtain rfl : p = W.length := by omega
              have u1 : ¬ (W.length : Int) < W.length := by omega
              obtain ⟨ad11, rfl, r0⟩ := Kd.at_int HRA3.out.readsI (k : Int) (by omega) (by have := HKk.out.1; omega)
              rw [Int.toNat_natCast, show rd ALL (k : Int) = ALL.getD k 0 from by simp [rd]] at r0
              have hx := HAL.out.2.1 _ (getD_memI HKk.out.1)
              have HTk := Aside0.mk (show ALL.take k ++ [ALL.getD k 0] = ALL.take (k + 1) by
                have e : ALL[k]? = some (ALL.getD k 0) := by rw [List.getD_eq_getElem?_getD, List.getElem?_eq_getElem HKk.out.1]; rfl
                rw [List.take_add_one, e]; rfl)
              generalize ALL.getD k 0 = x0 at r0 hx HTk
              have HD := Aside0.mk (DropT_k HT3.out HB3.out (by rw [HV2.out.len]; have := HN.out; omega) (by rw [HV2.out.len]; have := HN.out; omega) (HV2.out.mS (by have := HN.out; omega)) x0 hx (HV2.out.outs x0))
              have HV3 := Aside0.mk (HV2.out.drop x0)
              rw [HTk.out] at HV3
              have HOu := Aside0.mk (fun x (hx : x ∈ dropO ls2 x0 0) => HV2.out.outs2 x0 hx)
              have HMk := Aside0.mk (fun x (hx : x ∈ W) => marks_at HM3.out hx)
              clear hlp hgp hp hx HV2 HM3
              generalize dropO ls2 x0 0 = G at HD HOu
              generalize dropL ls2 x0 0 = ls3 at HD HV3
              generalize dropF ls2 f2 x0 = f3 at HD HV3 HOu
              go_wp2_with fail
              refine HD.out.mono ?_
              rintro e w6 ⟨A15, c15, rfl, hR, -, hT, hb, hK⟩
              have HR6 := Aside0.mk hR
              have HT6 := Aside0.mk hT
              have HB6 := Aside0.mk hb
              have HRW6 := Aside0.mk (HRW3.out.keepT hK noI)
              have HRA6 := Aside0.mk (HRA3.out.keepT hK noI)
              have HRb6 := Aside0.mk (HRb.out.keepT hK noB)
              have HCap := Aside0.mk (Nat.le_trans hR.2.1 hR.2.2.1)
              have WK := Aside0.mk (show wrap64 ((k : Int) + 1) = ((k + 1 : Nat) : Int) by have h1 := HKk.out; have h2 := HAL.out.1; unfold wrap64; omega)
              clear hR hT hb hK HD HT3 HB3 HRW3 HRA3 HRb r0
              go_wp2_with fail
              go_loopg [16] G.length (fun gg v16 wr4 => ∃ q : Nat, q ≤ G.length ∧ G.length - q ≤ gg ∧ v16 = .int .i64 q ∧ Aside0 (Below w6.heap.size w6 wr4))
              case atStart => exact ⟨0, by omega, by omega, rfl, ⟨Below.refl _ _⟩⟩
              case round =>
                obtain ⟨q, hq, hgq, rfl, HC⟩ := hrel
                by_cases hlq : q < G.length
                · have u3 : (q : Int) < G.length := by omega
                  have u2 : 0 ≤ (q : Int) := by omega
                  have HR7 := Aside0.mk (HR6.out.below HC.out)
                  obtain ⟨ad15, rfl, r1⟩ := Kd.at_int HR7.out.readsI (q : Int) (by omega) (by omega)
                  rw [Int.toNat_natCast, show rd G (q : Int) = G.getD q 0 from by simp [rd]] at r1
                  obtain ⟨mW, mS, mN⟩ := HOu.out _ (getD_memI hlq)
                  have hx := HWW.out.2.2 _ mW
                  have hmk := HMk.out _ mW
                  rw [mS] at hmk
                  have HQq := Aside0.mk (And.intro hlq hgq)
                  have WQ := Aside0.mk (show wrap64 ((q : Int) + 1) = ((q + 1 : Nat) : Int) by have h1 := HCap.out; unfold maxLen at h1; unfold wrap64; omega)
                  generalize G.getD q 0 = y at r1 hx hmk mN
                  obtain ⟨x, rfl⟩ : ∃ x : Nat, y = (x : Int) := ⟨y.toNat, by omega⟩
                  rw [Int.toNat_natCast] at hmk
                  have HX := Aside0.mk (show x < 1001 by omega)
                  have v0 := (was_at (HRb6.out.below HC.out) HX.out).1
                  rw [hmk] at v0
                  have HWt := Aside0.mk (WaitsT_ (HT6.out.below HC.out) (x : Int) hx.1 (fun k h => HV3.out.t.lt _ k h))
                  rw [waits_none _ mN] at HWt
                  have g1 : decide ((x : Int) < 0) = false := decide_eq_false (by omega)
                  have g2 : decide ((x : Int) > 1000) = false := decide_eq_false (by omega)
                  have g3 : decide (x > 1000) = false := decide_eq_false (by omega)
                  have g5 : 0 ≤ (x : Int) := by omega
                  have g6 : (x : Int) < 1001 := by omega
                  clear mW mS mN hx hmk hlq hgq hq HR7
                  go_wp2_with fail
                  refine HWt.out.mono ?_
                  rintro e w7 ⟨rfl, hb⟩
                  have HC7 := Aside0.mk (below_alloc (below_then HC.out HC.out.size hb) (.cells #[.int .i64 0, .int .i64 0] 38))
                  have v1 := cell_al (cell_be v0 hb) (.cells #[.int .i64 0, .int .i64 0] 38)
                  have r2 := cell_al (cell_be r1 hb) (.cells #[.int .i64 0, .int .i64 0] 38)
                  clear hb v0 r1 HWt HC
                  go_wp2_with fail
                  go_roundg (G.length - (q + 1))
                  case measure => have := HQq.out; omega
                  case rel => exact ⟨q + 1, by have := HQq.out; omega, by have := HQq.out; omega, by first | (rw [WQ.out]; done) | (simp; done), HC7⟩
                · obtain rfl : q = G.length := by omega
                  have u3 : ¬ (G.length : Int) < G.length := by omega
                  have HT7 := Aside0.mk (HT6.out.below HC.out)
                  have HB7 := Aside0.mk (below_then HB6.out HB6.out.size HC.out)
                  have HRW7 := Aside0.mk (HRW6.out.below HC.out)
                  have HRA7 := Aside0.mk (HRA6.out.below HC.out)
                  clear hlq hgq hq HC
                  go_wp2
                  go_roundg (ALL.length - (k + 1))
                  case measure => have := HKk.out; omega
                  case rel => exact ⟨k + 1, ls3, f3, by have := HKk.out; omega, by have := HKk.out; omega, by first | (rw [WK.out]; done) | (simp; done), HT7, HB7, HV3, HRW7, HRA7⟩
        · obtain rfl : k = ALL.length := by omega
          have s1 : ¬ (ALL.length : Int) < ALL.length := by omega
          have HNo := Aside0.mk (HV2.out.nothing (by rw [List.take_length]; exact HAL.out.2.2))
          have HLn := Aside0.mk (fun (V : World) (hb : Below wr.heap.size wr V) => LenT_ (HT2.out.below hb) (HV2.out.small (by have := HN.out; omega) (by have := HN.out; omega)))
          have HEd := Aside0.mk (fun (V : World) (hb : Below wr.heap.size wr V) => EdgesT_ (HT2.out.below hb) (HV2.out.small (by have := HN.out; omega) (by have := HN.out; omega)) (by have := HN.out; omega) (fun x k h => HV2.out.t.lt x k h))
          rw [HNo.out.1] at HLn
          clear hlk hgk hk HT2 HV2 HRW2 HRA2
          go_wp2_with fail
          refine (firstT_ wr).mono ?_
          rintro e w3 ⟨rfl, hb⟩
          have HC3 := Aside0.mk hb
          clear hb
          go_wp2_with fail
          refine (HLn.out w3 HC3.out).mono ?_
          rintro e w4 ⟨rfl, hb⟩
          have HC4 := Aside0.mk (below_then HC3.out HC3.out.size hb)
          clear hb
          go_wp2_with fail
          refine (HEd.out w4 HC4.out).mono ?_
          rintro e w5 ⟨L, hnd, hL, A5, c5, rfl, -, -, hb⟩
          rw [edges_zero HNo.out.2 hL]
          have HC5 := Aside0.mk (below_then HB2.out HB2.out.size (below_then HC4.out HC4.out.size hb))
          clear hb hnd hL
          go_wp2
          go_ret
          exact ⟨rfl, HC5.out⟩
theorem drops_walk (nodes : Int) (A : Option Addr) (c : Nat) (l : List Op4) (Ao : Option Addr) (co : Nat) (order : List Int) (w : World) (hwn : ok64 nodes) (hr : Kd.C kOp4 w A l.length l) (hc : l.length ≤ c) (hw : l.length ≤ maxLen) (hl : ∀ x ∈ l, ok64 x.f0 ∧ ok64 x.f1 ∧ ok64 x.f2 ∧ ok64 x.f3)
    (hro : Kd.C (Kd.int .i64) w Ao order.length order) (hco : order.length ≤ co) (hwo : order.length ≤ maxLen) (hlo : ∀ x ∈ order, ok64 x) :
    Calls Try.prog 15 #[.int .i64 nodes, .slice A l.length c, .slice Ao order.length co] w fun e w' => e = .returned (.bool true) ∧ Below w.heap.size w w' := by
  by_cases h : nodes < 1 ∨ nodes > 60 ∨ 300 < l.length ∨ 100 < order.length
  · exact drops_bad nodes A c l Ao co order w h
  · obtain ⟨n, rfl⟩ : ∃ n : Nat, nodes = n := ⟨nodes.toNat, by omega⟩
    exact drops_in n A c l Ao co order w hr hc hl hro hlo (by omega) (by omega) (by omega) (by omega)
end Go.Proofs.Ytagdgkimjgomlaa.Ln
