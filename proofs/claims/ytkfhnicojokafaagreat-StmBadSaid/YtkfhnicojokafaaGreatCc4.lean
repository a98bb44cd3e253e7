/- A table of nobody, in short: New. The core's edges when nobody waits; its configuration; its heap. -/
import Derived.Test.YtkfhnicojokafaaGreatCc3
namespace Go.Proofs.YtkfhnicojokafaaGreat.Co
open Go.RowKit Go.Proofs.YtkfhnicojokafaaGreatW.PrintWords Go.Proofs.YtkfhnicojokafaaGreatW.PrintLast Go.Proofs.YtkfhnicojokafaaGreatW.PrintMore Go.Proofs.YtkfhnicojokafaaGreat.PMd Go.Proofs.YtkfhnicojokafaaGreat.Ln
open Go.Maps
set_option linter.unusedVariables false
set_option linter.unusedSimpArgs false
/-- An append as a step of a region that draws its order. -/
theorem step_append_row {P : Program} {ops : Array Oper} {o : Oper} {a : Act} {w : World} {K : Act → World → Prop} {Q : Exit → Act → World → Prop} {E : Prop} (hgd : o.guard = none) (s x : Operand) (t : TypeId)
    (ho : o.op = .call { callee := .builtin .append, args := #[s, x], argTypes := #[t, t] })
    (e : TypeId) (z : Value) (size bytes : Nat) (ht : P.underlying t = some (.slice e)) (hinfo : (P.info? e).map (fun i => (i.zero, i.size, i.bytes)) = some (some z, size, bytes))
    (hzs : z.cells.size = size) (A : Option Addr) (n cap : Nat) (xs : List Value) (hs : a.eval s = .slice A n cap) (hR : Row w e size A n cap xs)
    (ad : Addr) (m c : Nat) (news : List Value) (hx : a.eval x = .slice (some ad) m c) (hl : news.length = m * size) (hnews : ∀ j u, news[j]? = some u → w.cell? (ad.add j) = some u) (h1 : ∀ u ∈ news, u.oneCell' = true)
    (h63 : n + m ≤ maxLen) (hbytes : (n + m) * bytes ≤ 140737488355328)
    (h : ∀ A' cap' w', Row w' e size A' (n + m) cap' (xs ++ news) → Grew (blk A) w w' → (∀ k, blk A' k → blk A k ∨ w.heap.size ≤ k) → K (a.put o.dst (.slice A' (n + m) cap')) w') :
    if Region.wanted o (yielded ops a.tmps) = true then Oper.wp P o a w K Q else E := by
  have hw : Region.wanted o (yielded ops a.tmps) = true := by simp [Region.wanted, hgd]
  rw [if_pos hw]
  cases hi : P.info? e with
  | none => rw [hi] at hinfo; cases hinfo
  | some i =>
    rw [hi] at hinfo
    obtain ⟨hz, hs1, hb1⟩ : i.zero = some z ∧ i.size = size ∧ i.bytes = bytes := by simpa using hinfo
    obtain ⟨A', cap', w', hr, h2, h3, h4⟩ := run_append_row (P := P) w t o.type e i z size bytes ht hi hz hs1 hb1 hzs A n cap xs hR ad m c news hl hnews h1 h63 hbytes
    unfold Oper.wp execOp
    simp only [ho, resolve, invoke, builtin, Sem.run_bind, Sem.run_pure, Result.andThen_ok, List.map_toArray, List.map_cons, List.map_nil, hs, hx, hr]
    exact h _ _ _ h2 h3 h4
theorem infoS0 : (Tryz.prog.info? 110).map (fun i => (i.zero, i.size, i.bytes)) = some (some (.agg #[.pointer none]), 1, 8) := by kernel_rfl
theorem one_at0 {w : World} {g : Nat} {v : Value} {t : TypeId} (hv : w.heap[g]? = some (.cells #[v] t (0, 0))) : ∀ j x, [v][j]? = some x → w.cell? ((⟨g, 0, none⟩ : Addr).add j) = some x := by
  intro j x hj
  rcases j with _ | j
  · obtain rfl : v = x := by simpa using hj
    exact (blk_cell hv 0).trans rfl
  · simp at hj
/-- The table while its spots are made. -/
def TabG (w0 w : World) (i : Nat) (most : Int) : Prop :=
  ∃ sA sc xs, w.heap[w0.heap.size + 1]? = some (.cells #[.slice sA i sc, .int .i64 most, .map (some w0.heap.size)] 106 (0, 0)) ∧ w.heap[w0.heap.size]? = some (.map #[] 0) ∧ Row w 110 1 sA i sc xs ∧ (∀ k, blk sA k → w0.heap.size + 1 < k) ∧ Below w0.heap.size w0 w
set_option maxHeartbeats 8000000 in
set_option maxRecDepth 100000 in
theorem newTL_ (n : Nat) (most : Int) (w : World) (h1 : 1 ≤ n) (h2 : n ≤ 10000) (h3 : 1 ≤ most) (h4 : most ≤ 4096) :
    Calls Tryz.prog 28 #[.int .i64 (n : Int), .int .i64 most] w fun e w' => e = .returned (.tuple #[.pointer (some ⟨w.heap.size + 1, 0, none⟩), .int .i64 0]) ∧
      TabL w' (w.heap.size + 1) (fun k => w.heap.size ≤ k ∧ k < w.heap.size + 2) ∧ Below w.heap.size w w' := by
  have hu := Tryz.underlying106
  have hu2 := Tryz.underlying110
  have a1 : decide ((n : Int) < 1) = false := decide_eq_false (by omega)
  have a2 : decide ((n : Int) > 10000) = false := decide_eq_false (by omega)
  have a3 : decide (most < 1) = false := decide_eq_false (by omega)
  have a4 : decide (most > 4096) = false := decide_eq_false (by omega)
  have hmm := @run_makeMap Tryz.prog
  have HN := Aside0.mk h2
  have e1 : (w.alloc (.map #[] 0)).heap.size = w.heap.size + 1 := by simp
  have HZ := Aside0.mk (show TabG w ((w.alloc (.map #[] 0)).alloc (.cells #[.slice none 0 0, .int .i64 most, .map (some w.heap.size)] 106)) 0 most from by
    have hb := blk_new (w.alloc (.map #[] 0)) (.cells #[.slice none 0 0, .int .i64 most, .map (some w.heap.size)] 106)
    rw [e1] at hb
    exact ⟨none, 0, [], hb, blk_alloc (heap_alloc_new w _) _, Row.zero _ _ _, (fun k ⟨a, h, _⟩ => by cases h), below_alloc (below_alloc (Below.refl _ _) _) _⟩)
  clear h1 h2 h3 h4
  go_enter Tryz.func28, Tryz.ntmps28
  go_wp2_with fail
  go_loopg [26] n (fun gg v26 wr => ∃ i : Nat, i ≤ n ∧ n - i ≤ gg ∧ v26 = .int .i64 i ∧ Aside0 (TabG w wr i most))
  case atStart => exact ⟨0, by omega, by omega, rfl, HZ⟩
  case round =>
    obtain ⟨i, hi, hgg, rfl, HT⟩ := hrel
    obtain ⟨sA, sc, xs, hb, hm, hR, hk, hB⟩ := HT.out
    by_cases hlt : i < n
    · have t1 : (i : Int) < n := by omega
      have c0 : wr.cell? ⟨w.heap.size + 1, 0, none⟩ = some (.slice sA i sc) := (blk_cell hb 0).trans rfl
      have fz : wr.frozen? ⟨w.heap.size + 1, 0, none⟩ = false := blk_frozen hb 0
      have hbl := (Array.getElem?_eq_some_iff.1 hb).1
      have hnb : ¬ blk sA (w.heap.size + 1) := fun h => by have := hk _ h; omega
      have hnm : ¬ blk sA w.heap.size := fun h => by have := hk _ h; omega
      have HR := Aside0.mk hR
      have HK := Aside0.mk hk
      have HM := Aside0.mk hm
      have HB := Aside0.mk hB
      have HBK := Aside0.mk hb
      have HS := Aside0.mk (And.intro hnb (And.intro hbl (And.intro hnm fz)))
      have C0 := Aside0.mk c0
      have W3 := Aside0.mk (show wrap64 ((i : Int) + 1) = ((i + 1 : Nat) : Int) by have := HN.out; unfold wrap64; omega)
      clear hR hb hm hnb hnm hbl hk hB fz HT a1 a2 a3 a4 hmm e1 HZ
      go_wp2_with fail
      go_region_law (first
        | (refine step_append_row rfl (.tmp 32) (.tmp 35) 104 rfl 110 (.agg #[.pointer none]) 1 8 Tryz.underlying104 infoS0 rfl sA i sc xs (by simp [Act.eval, Act.put]) HR5.out ⟨w5.heap.size, 0, none⟩ 1 1 [.pointer (some ⟨gL, 0, none⟩)] (by simp [Act.eval, Act.put]) rfl (one_at0 BS5.out) (by simp [Value.oneCell']) (by have := HN.out; unfold maxLen; omega) (by have := HN.out; omega) ?_
           intro A2 c2 w6 hR6 hG6 hk6
           have hbk := (hG6.block (w.heap.size + 1) (by have := HL5.out; simp; omega) HS.out.1).trans HK5.out
           have c7 := (World.cell?_of_block (a := ⟨w.heap.size + 1, 0, none⟩) hbk).trans C0.out
           have f7 := (World.frozen?_of_block (a := ⟨w.heap.size + 1, 0, none⟩) hbk).trans HS.out.2.2.2
           have HBK6 := Aside0.mk (hbk.trans HBK.out)
           have HR6 := Aside0.mk hR6
           have HG6 := Aside0.mk hG6
           have HK6 := Aside0.mk hk6
           clear hR6 hG6 hk6 hbk)
        | (go_simp
           go_at_call 46
           refine (lane_New.calls [] [] wr.drew _ (Below.refl _ _) rfl).mono ?_
           rintro e w5 ⟨gL, rfl, hI5, _, hb5⟩
           have c5 := cell_be0 (w := wr.drew) c0 hb5
           have c6 := cell_al0 c5 (.cells #[.pointer (some ⟨gL, 0, none⟩)] 110)
           have HR5 := Aside0.mk (((show Row wr.drew 110 1 sA i sc xs from HR.out).below hb5).alloc (.cells #[.pointer (some ⟨gL, 0, none⟩)] 110))
           have BS5 := Aside0.mk (blk_new w5 (.cells #[.pointer (some ⟨gL, 0, none⟩)] 110))
           have HL5 := Aside0.mk (show w.heap.size + 1 < w5.heap.size from Nat.lt_of_lt_of_le HS.out.2.1 hb5.size)
           have HK5 := Aside0.mk ((Below.heap_alloc w5 (.cells #[.pointer (some ⟨gL, 0, none⟩)] 110) (w.heap.size + 1) HL5.out).trans (hb5.block (w.heap.size + 1) HS.out.2.1))
           have HB5 := Aside0.mk (show Below wr.heap.size wr w5 from ⟨hb5.os, hb5.tape, hb5.output, hb5.size, hb5.block⟩)
           clear hI5 hb5))
      all_goals (go_wp2; go_roundg (n - (i + 1)))
      all_goals first
        | omega
        | (refine ⟨i + 1, by omega, by omega, by rw [W3.out], ⟨A2, c2, xs ++ [.pointer (some ⟨gL, 0, none⟩)], ?_, ?_, ?_, ?_, ?_⟩⟩
           · exact heap_setCell_same w6 (w.heap.size + 1) 0 _ _ (.slice A2 (i + 1) c2) HBK6.out
           · rw [Below.heap_setCell _ _ _ _ (by simp)]
             exact (HG6.out.block _ (by have := HL5.out; simp; omega) HS.out.2.2.1).trans ((Below.heap_alloc _ _ _ (by have := HL5.out; omega)).trans ((HB5.out.block _ (by have := HS.out.2.1; omega)).trans HM.out))
           · refine HR6.out.set (p := ⟨w.heap.size + 1, 0, none⟩) (fun hk => ?_) _
             rcases HK6.out _ hk with h | h
             · exact HS.out.1 h
             · have := HL5.out; have h2 : w5.heap.size + 1 ≤ w.heap.size + 1 := by simpa using h
               omega
           · intro k hk
             rcases HK6.out k hk with h | h
             · exact HK.out k h
             · have := HL5.out; have h2 : w5.heap.size + 1 ≤ k := by simpa using h
               omega
           · exact (HG6.out.to_below (below_alloc (below_then HB.out HB.out.size HB5.out) _) (by have := HL5.out; simp; omega) (fun k hk => by have := HK.out k hk; omega)).setCell (p := ⟨w.heap.size + 1, 0, none⟩) (Nat.le_succ _) (.slice A2 (i + 1) c2))
    · have ei : i = n := by omega
      subst ei
      have t1 : ¬ (i : Int) < i := by omega
      have HM := Aside0.mk hm
      have HB := Aside0.mk hB
      have HBK := Aside0.mk hb
      clear a1 a2 a3 a4 hmm hb hm hR hk hB
      go_wp2
      go_ret2
      exact ⟨rfl, ⟨sA, i, sc, most, w.heap.size, HBK.out, HM.out, ⟨by omega, by omega⟩, ⟨Nat.le_refl _, by omega⟩⟩, HB.out⟩
set_option maxHeartbeats 8000000 in
set_option maxRecDepth 100000 in
/-- The core's edges, when nobody waits. -/
theorem coreEdgesNil_ (w : World) (b : Nat) (P : Pl) (F FT : Nat → Prop) (s : CoreS) (h : IsCore w b P F s) (hT : TabL w P.tb FT) :
    Calls Tryz.prog 58 #[.pointer (some ⟨b, 0, none⟩)] w fun e w' => e = .returned (.slice none 0 0) ∧ Below w.heap.size w w' := by
  have hu := Tryz.underlying62
  have hu2 := Tryz.underlying77
  have c0 := cell_al0 h.at0 (.cells #[.pointer (some ⟨b, 0, none⟩)] 42)
  have c1 := cell_al0 (show w.cell? ⟨P.p, 13, none⟩ = some (.pointer (some ⟨P.tb, 0, none⟩)) from (blk_cell h.parts 13).trans rfl) (.cells #[.pointer (some ⟨b, 0, none⟩)] 42)
  have HT := Aside0.mk (edgesNil_ (hT.move (w' := w.alloc (.cells #[.pointer (some ⟨b, 0, none⟩)] 42)) (fun k _ hk => Below.heap_alloc _ _ _ hk)))
  clear h hT
  go_enter Tryz.func58, Tryz.ntmps58
  go_wp2_with fail
  refine HT.out.mono ?_
  rintro e w1 ⟨rfl, hb⟩
  have HB := Aside0.mk (below_then (below_alloc (Below.refl _ _) _) (below_alloc (Below.refl _ _) _).size hb)
  clear hb
  go_wp2_with fail
  refine (deleteEdgeNil_ _ _).mono ?_
  rintro e w2 ⟨rfl, rfl⟩
  go_wp2
  go_ret
  exact ⟨rfl, HB.out⟩
end Go.Proofs.YtkfhnicojokafaaGreat.Co
