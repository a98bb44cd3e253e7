/- The core tells its configuration, its heap. -/
import Derived.Test.YtodhanlbdbfieaaCc4
namespace Go.Proofs.Ytodhanlbdbfieaa.Co
open Go.RowKit Go.Proofs.YtodhanlbdbfieaaW.PrintWords Go.Proofs.YtodhanlbdbfieaaW.PrintLast Go.Proofs.YtodhanlbdbfieaaW.PrintMore Go.Proofs.Ytodhanlbdbfieaa.PMd Go.Proofs.Ytodhanlbdbfieaa.Ln
set_option linter.unusedVariables false
set_option linter.unusedSimpArgs false
def confV (c : Cf) : Value := .agg #[.int .i64 c.f0, .int .i64 c.f1, .int .i64 c.f2, .int .i64 c.f3, .int .i64 c.f4, .int .i64 c.f5, .int .i64 c.f6, .int .i64 c.f7, .int .i64 c.f8, .int .i64 c.f9, .int .i64 c.f10, .int .i64 c.f11]
theorem parts_at {w : World} {c : Cf} {P : Pl} (hp : w.heap[P.p]? = some (.cells (partsC c P) 92 (0, 0))) :
    w.cell? ⟨P.p, 0, none⟩ = some (.int .i64 c.f0) ∧ w.cell? ⟨P.p, 1, none⟩ = some (.int .i64 c.f1) ∧ w.cell? ⟨P.p, 2, none⟩ = some (.int .i64 c.f2) ∧ w.cell? ⟨P.p, 3, none⟩ = some (.int .i64 c.f3) ∧ w.cell? ⟨P.p, 4, none⟩ = some (.int .i64 c.f4) ∧ w.cell? ⟨P.p, 5, none⟩ = some (.int .i64 c.f5) ∧
    w.cell? ⟨P.p, 6, none⟩ = some (.int .i64 c.f6) ∧ w.cell? ⟨P.p, 7, none⟩ = some (.int .i64 c.f7) ∧ w.cell? ⟨P.p, 8, none⟩ = some (.int .i64 c.f8) ∧ w.cell? ⟨P.p, 9, none⟩ = some (.int .i64 c.f9) ∧ w.cell? ⟨P.p, 10, none⟩ = some (.int .i64 c.f10) ∧ w.cell? ⟨P.p, 11, none⟩ = some (.int .i64 c.f11) ∧ w.cell? ⟨P.p, 12, none⟩ = some (.pointer (some ⟨P.cb, 0, none⟩)) :=
  ⟨(blk_cell hp 0).trans rfl, (blk_cell hp 1).trans rfl, (blk_cell hp 2).trans rfl, (blk_cell hp 3).trans rfl, (blk_cell hp 4).trans rfl, (blk_cell hp 5).trans rfl, (blk_cell hp 6).trans rfl, (blk_cell hp 7).trans rfl, (blk_cell hp 8).trans rfl, (blk_cell hp 9).trans rfl, (blk_cell hp 10).trans rfl, (blk_cell hp 11).trans rfl, (blk_cell hp 12).trans rfl⟩
set_option maxHeartbeats 8000000 in
set_option maxRecDepth 100000 in
theorem partsConf_ (w : World) (c : Cf) (P : Pl) (hp : w.heap[P.p]? = some (.cells (partsC c P) 92 (0, 0))) :
    Calls Try.prog 34 #[.pointer (some ⟨P.p, 0, none⟩)] w fun e w' => e = .returned (.agg #[.int .i64 c.f0, .int .i64 c.f1, .int .i64 c.f2, .int .i64 c.f3, .int .i64 c.f4, .int .i64 c.f5, .int .i64 c.f6, .int .i64 c.f7, .int .i64 c.f8, .int .i64 c.f9, .int .i64 c.f10, .int .i64 c.f11]) ∧ Below w.heap.size w w' := by
  have hu := Try.underlying92
  have hu2 := Try.underlying41
  have hlt := (Array.getElem?_eq_some_iff.1 hp).1
  obtain ⟨x0, x1, x2, x3, x4, x5, x6, x7, x8, x9, x10, x11, _⟩ := parts_at (blk_alloc hp (.cells #[.int .i64 0, .int .i64 0, .int .i64 0, .int .i64 0, .int .i64 0, .int .i64 0, .int .i64 0, .int .i64 0, .int .i64 0, .int .i64 0, .int .i64 0, .int .i64 0] 41))
  clear hp
  go_enter Try.func34, Try.ntmps34
  go_wp2
  refine bodyPost_ret (v := .agg #[.int .i64 c.f0, .int .i64 c.f1, .int .i64 c.f2, .int .i64 c.f3, .int .i64 c.f4, .int .i64 c.f5, .int .i64 c.f6, .int .i64 c.f7, .int .i64 c.f8, .int .i64 c.f9, .int .i64 c.f10, .int .i64 c.f11]) ?_ rfl ⟨rfl, ?_⟩
  · simp [results, Try.results34, go_sem]
  · exact below_alloc (Below.refl _ _) _
/-- A row of whole numbers of the call's own, while it is made. -/
def OutI (w : World) (l : List Int) (v : Value) (wr : World) : Prop :=
  ∃ A' c', v = .slice A' l.length c' ∧ Row wr 3 1 A' l.length c' (vi l) ∧ (∀ k, blk A' k → w.heap.size ≤ k) ∧ Below w.heap.size w wr
set_option maxHeartbeats 8000000 in
set_option maxRecDepth 100000 in
theorem partsHeap_ (w : World) (c : Cf) (P : Pl) (F : Nat → Prop) (ws : List Int) (cnt : Int) (n : Nat) (hp : w.heap[P.p]? = some (.cells (partsC c P) 92 (0, 0))) (hI : IsCells w P.cb F ws cnt)
    (hn : shape_Words.f c.f0 c.f1 c.f2 c.f3 c.f4 c.f5 c.f6 c.f7 c.f8 c.f9 c.f10 c.f11 = some (n : Int)) (hl : n ≤ ws.length) (hn2 : n ≤ 65536) :
    Calls Try.prog 30 #[.pointer (some ⟨P.p, 0, none⟩)] w fun e w' => ∃ v, e = .returned v ∧ OutI w (ws.take n) v w' := by
  have hu := Try.underlying92
  have hu2 := Try.underlying41
  have HW := Aside0.mk (fun W => shape_Words.calls c.f0 c.f1 c.f2 c.f3 c.f4 c.f5 c.f6 c.f7 c.f8 c.f9 c.f10 c.f11 (n : Int) W hn)
  have HI := Aside0.mk (hI.mono (F' := fun k => k < w.heap.size) (fun k hk _ => hk))
  have HP := Aside0.mk hp
  have HL := Aside0.mk hl
  have HN := Aside0.mk hn2
  obtain ⟨x0, x1, x2, x3, x4, x5, x6, x7, x8, x9, x10, x11, _⟩ := parts_at hp
  clear hp hI hn hl hn2
  go_enter Try.func30, Try.ntmps30
  go_wp2_with fail
  refine (HW.out _).mono ?_
  rintro e w1 ⟨rfl, hb⟩
  have HB := Aside0.mk hb
  clear hb x0 x1 x2 x3 x4 x5 x6 x7 x8 x9 x10 x11
  go_wp2_with fail
  go_loopg [3, 10] n (fun gg v3 v10 wr => ∃ i : Nat, i ≤ n ∧ n - i ≤ gg ∧ v10 = .int .i64 i ∧ Aside0 (OutI w (ws.take i) v3 wr))
  case atStart => exact ⟨0, by omega, by omega, rfl, ⟨none, 0, rfl, Row.zero _ _ _, (fun k ⟨a, h, _⟩ => by cases h), HB.out⟩⟩
  case round =>
    obtain ⟨i, hi, hgg, rfl, HO⟩ := hrel
    obtain ⟨A', c', rfl, hR1, hk1, hb1⟩ := HO.out
    have e1 : (ws.take i).length = i := by have := HL.out; rw [List.length_take]; omega
    rw [e1] at hR1 ⊢
    by_cases hlt : i < n
    · have t1 : (i : Int) < n := by omega
      have c12 := (parts_at ((hb1.block P.p (Array.getElem?_eq_some_iff.1 HP.out).1).trans HP.out)).2.2.2.2.2.2.2.2.2.2.2.2
      have HPk := Aside0.mk (cellPeek_ wr P.cb _ ws cnt i (HI.out.below hb1) (by have := HL.out; omega))
      have HR1 := Aside0.mk (hR1.alloc (.cells #[.int .i64 (ws.getD i 0)] 3))
      have HB1 := Aside0.mk hb1
      have HK1 := Aside0.mk hk1
      have BS := Aside0.mk (blk_new wr (.cells #[.int .i64 (ws.getD i 0)] 3))
      have W3 := Aside0.mk (show wrap64 ((i : Int) + 1) = ((i + 1 : Nat) : Int) by have := HN.out; unfold wrap64; omega)
      have HE := Aside0.mk (show ws.take (i + 1) = ws.take i ++ [ws.getD i 0] by
        have hil : i < ws.length := by have := HL.out; omega
        rw [List.take_succ_eq_append_getElem hil, List.getD_eq_getElem?_getD, List.getElem?_eq_getElem hil]; rfl)
      have HE1 := Aside0.mk e1
      have HLT := Aside0.mk (And.intro hlt hgg)
      clear hR1 hk1 hb1 HO e1 hi hgg hlt
      go_wp2_with fail
      refine HPk.out.mono ?_
      rintro e w3 ⟨rfl, rfl⟩
      go_wp2_with (at_builtin; refine wpList_append_info rfl _ _ 34 rfl 3 _ 1 8 Try.underlying34 info3 rfl A' i c' (vi (ws.take i)) (by simp [Act.eval, Act.put]) HR1.out ⟨w3.heap.size, 0, none⟩ 1 1 [.int .i64 (ws.getD i 0)] (by simp [Act.eval, Act.put]) rfl (one_at0 BS.out) (by simp [Value.oneCell']) (by have := HLT.out; have := HN.out; unfold maxLen; omega) (by have := HLT.out; have := HN.out; omega) ?_)
      intro A2 c2 w6 hR6 hG6 hk6
      have HR6 := Aside0.mk hR6
      have HB6 := Aside0.mk (hG6.to_below (below_alloc HB1.out _) (below_alloc HB1.out _).size (fun k hk => HK1.out k hk))
      have HK6 := Aside0.mk (show ∀ k, blk A2 k → w.heap.size ≤ k from fun k hk => (hk6 k hk).elim (HK1.out k) (fun h => by have := HB1.out.size; have h2 : w3.heap.size + 1 ≤ k := (by simpa using h); omega))
      clear hR6 hG6 hk6
      go_wp2
      go_roundg (n - (i + 1))
      case measure => have := HLT.out; omega
      case rel =>
        refine ⟨i + 1, by have := HLT.out; omega, by have := HLT.out; omega, by rw [W3.out], ⟨A2, c2, ?_, ?_, HK6.out, HB6.out⟩⟩
        · rw [HE.out, List.length_append, HE1.out]; rfl
        · rw [HE.out, List.length_append, HE1.out]
          simpa [vi] using HR6.out
    · obtain rfl : i = n := by omega
      have t1 : ¬ (i : Int) < i := by omega
      have HO2 := HO
      have HE1 := Aside0.mk e1
      clear hR1 hk1 hb1 HO hi hgg hlt e1
      go_wp2
      go_ret
      refine ⟨_, ?_, HO2.out⟩
      rw [HE1.out]
      rfl
end Go.Proofs.Ytodhanlbdbfieaa.Co
