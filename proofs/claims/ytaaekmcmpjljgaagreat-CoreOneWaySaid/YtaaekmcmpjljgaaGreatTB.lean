import Derived.Test.YtaaekmcmpjljgaaGreatTA
import Derived.Deep.RegionLaw
import Derived.BigQuiet
namespace Go.Proofs.YtaaekmcmpjljgaaGreat.Ln
open Go.RowKit Go.Proofs.YtaaekmcmpjljgaaGreatW.PrintWords Go.Proofs.YtaaekmcmpjljgaaGreatW.PrintLast Go.Proofs.YtaaekmcmpjljgaaGreatW.PrintMore Go.Proofs.YtaaekmcmpjljgaaGreat.PMd
open Go.Maps
set_option linter.unusedVariables false
set_option linter.unusedSimpArgs false
theorem step_append_row {P : Program} {ops : Array Oper} {o : Oper} {a : Act} {w : World} {K : Act → World → Prop} {Q : Exit → Act → World → Prop} {E : Prop} (hgd : o.guard = none) (s x : Operand) (t : TypeId)
    (ho : o.op = .call { callee := .builtin .append, args := #[s, x], argTypes := #[t, t] })
    (e : TypeId) (z : Value) (size bytes : Nat) (ht : P.underlying t = some (.slice e)) (hinfo : (P.info? e).map (fun i => (i.zero, i.size, i.bytes)) = some (some z, size, bytes))
    (hzs : z.cells.size = size) (A : Option Addr) (n cap : Nat) (xs : List Value) (hs : a.eval s = .slice A n cap) (hR : Row w e size A n cap xs)
    (ad : Addr) (m c : Nat) (news : List Value) (hx : a.eval x = .slice (some ad) m c) (hl : news.length = m * size) (hnews : ∀ j u, news[j]? = some u → w.cell? (ad.add j) = some u) (h1 : ∀ u ∈ news, u.oneCell' = true)
    (h63 : n + m ≤ maxLen) (hbytes : (n + m) * bytes ≤ 140737488355328)
    (h : ∀ A' cap' w', Row w' e size A' (n + m) cap' (xs ++ news) → Grew (blk A) w w' → (∀ k, blk A' k → blk A k ∨ w.heap.size ≤ k) → K (a.put o.dst (.slice A' (n + m) cap')) w') :
    if Region.wanted o (yielded ops a.tmps) = true then Oper.wp P o a w K Q else E := by
  have hw : Region.wanted o (yielded ops a.tmps) = true := by simp [Region.wanted, hgd]
  rw [if_pos hw]
  cases hi : P.info? e with
  | none => rw [hi] at hinfo; cases hinfo
  | some i =>
    rw [hi] at hinfo
    obtain ⟨hz, hs1, hb1⟩ : i.zero = some z ∧ i.size = size ∧ i.bytes = bytes := by simpa using hinfo
    obtain ⟨A', cap', w', hr, h2, h3, h4⟩ := run_append_row (P := P) w t o.type e i z size bytes ht hi hz hs1 hb1 hzs A n cap xs hR ad m c news hl hnews h1 h63 hbytes
    unfold Oper.wp execOp
    simp only [ho, resolve, invoke, builtin, Sem.run_bind, Sem.run_pure, Result.andThen_ok, List.map_toArray, List.map_cons, List.map_nil, hs, hx, hr]
    exact h _ _ _ h2 h3 h4
theorem getD_app_lt {ls : List LS} {x : LS} {i : Nat} (h : i < ls.length) : (ls ++ [x]).getD i zL = ls.getD i zL := by
  rw [List.getD_eq_getElem?_getD, List.getD_eq_getElem?_getD, List.getElem?_append_left h]
theorem getD_app_at {ls : List LS} {x : LS} : (ls ++ [x]).getD ls.length zL = x := by
  rw [List.getD_eq_getElem?_getD, List.getElem?_append_right (Nat.le_refl _)]; simp
theorem getD_nat_lt {l : List Nat} {x i : Nat} (h : i < l.length) : (l ++ [x]).getD i 0 = l.getD i 0 := by
  rw [List.getD_eq_getElem?_getD, List.getD_eq_getElem?_getD, List.getElem?_append_left h]
theorem getD_nat_at {l : List Nat} {x : Nat} : (l ++ [x]).getD l.length 0 = x := by
  rw [List.getD_eq_getElem?_getD, List.getElem?_append_right (Nat.le_refl _)]; simp
theorem IsTab.push {w : World} {b N : Nat} {F : Nat → Prop} {ls : List LS} {most : Int} {f : At} (h : IsTab w b F ls most N f) (hF : ∀ k, w.heap.size ≤ k → F k) : ∃ sA sc xs, w.cell? ⟨b, 0, none⟩ = some (.slice sA ls.length sc) ∧ Row w 81 1 sA ls.length sc xs ∧
    ¬ blk sA b ∧ b < w.heap.size ∧ w.frozen? ⟨b, 0, none⟩ = false ∧ (∀ k, blk sA k → F k) ∧ F b ∧
    ∀ bl w5 w6 A' c', IsLane w5 bl (fun k => w.heap.size ≤ k) [] [] → Below w.heap.size w w5 → Row w6 81 1 A' (ls.length + 1) c' (xs ++ [pT bl]) → Grew (blk sA) w5 w6 → (∀ k, blk A' k → blk sA k ∨ w5.heap.size ≤ k) →
      IsTab (w6.setCell ⟨b, 0, none⟩ (.slice A' (ls.length + 1) c')) b F (ls ++ [zL]) most N f := by
  obtain ⟨sA, sc, m, bs, G, h1, h2, h3, h4, h5⟩ := h
  have hbl := (Array.getElem?_eq_some_iff.1 h1).1
  have hnb : ¬ blk sA b := h5.row.ne h1 (by decide)
  refine ⟨sA, sc, bs.map pT, (blk_cell h1 0).trans rfl, h5.row, hnb, hbl, blk_frozen h1 0, h5.rowF, h2, fun bl w5 w6 A' c' hI hb hR hg hA => ?_⟩
  have hbm : b ≠ m := fun e => by subst e; exact h4.cells h1
  have hmA : ¬ blk sA m := fun hk => by obtain ⟨cur, hc⟩ := h5.row.typed hk; exact h4.cells hc
  have hm := h4.lt
  have hs5 := hb.size
  have hblen : bs.length = ls.length := by have := h5.row.1; simpa using this
  have b6 : w6.heap[b]? = some (.cells #[.slice sA ls.length sc, .int .i64 most, .map (some m)] 77 (0, 0)) := (hg.block b (by omega) hnb).trans ((hb.block b hbl).trans h1)
  have keep : ∀ k, k < w.heap.size → k ≠ b → ¬ blk sA k → (w6.setCell ⟨b, 0, none⟩ (.slice A' (ls.length + 1) c')).heap[k]? = w.heap[k]? := fun k hk hkb hks => by
    rw [Below.heap_setCell _ _ _ _ (fun e => hkb e)]
    exact (hg.block k (by omega) hks).trans (hb.block k hk)
  have hA' : ∀ k, blk A' k → blk sA k ∨ w.heap.size ≤ k := fun k hk => (hA k hk).imp id (fun h => by omega)
  have hnbA : ¬ blk A' b := fun hk => (hA' b hk).elim hnb (fun h => by omega)
  refine ⟨A', c', m, bs ++ [bl], fun j k => if j = ls.length then w.heap.size ≤ k ∧ k < w5.heap.size else j < ls.length ∧ G j k ∧ k < w.heap.size, ?_, h2, h3, h4.move (keep m hm (fun e => hbm e.symm) hmA), ⟨?_, ?_, ?_, ?_, ?_, ?_, ?_⟩⟩
  · rw [List.length_append]
    exact heap_setCell_same w6 b 0 _ _ (.slice A' (ls.length + 1) c') b6
  · rw [List.length_append, List.map_append]
    exact hR.set (p := ⟨b, 0, none⟩) hnbA _
  · exact fun k hk => (hA' k hk).elim (h5.rowF k) (hF k)
  · intro j hj
    rw [List.length_append] at hj
    by_cases e : j = ls.length
    · subst e
      rw [getD_app_at, ← hblen, getD_nat_at]
      refine ((hI.mono (F' := fun k => w.heap.size ≤ k ∧ k < w5.heap.size) (fun k hk h => ⟨h, hk⟩)).move (fun k hk hl => ?_)).mono (fun k _ hk => by rw [if_pos rfl]; exact hk)
      rw [Below.heap_setCell _ _ _ _ (fun e => by have e2 : k = b := e; have := hk.1; omega)]
      exact hg.block k hl (fun hks => by have := h5.row.lt hks; omega)
    · have hj' : j < ls.length := by simp at hj; omega
      rw [getD_app_lt hj', getD_nat_lt (by omega)]
      refine (((h5.lane j hj').mono (F' := fun k => G j k ∧ k < w.heap.size) (fun k hk h => ⟨h, hk⟩)).move (fun k hk hl => keep k hl (h5.off j k hk.1).1 (h5.off j k hk.1).2.2)).mono (fun k _ hk => by rw [if_neg e]; exact ⟨hj', hk⟩)
  · intro j hj
    rw [List.length_append] at hj
    by_cases e : j = ls.length
    · subst e
      rw [getD_app_at]; exact List.Pairwise.nil
    · have hj' : j < ls.length := by simp at hj; omega
      rw [getD_app_lt hj']; exact h5.asc j hj'
  · intro j k hk
    by_cases e : j = ls.length
    · rw [if_pos e] at hk; exact hF k hk.1
    · rw [if_neg e] at hk; exact h5.own j k hk.2.1
  · intro j k hk
    by_cases e : j = ls.length
    · rw [if_pos e] at hk
      refine ⟨by omega, by omega, fun hk2 => ?_⟩
      rcases hA k hk2 with h | h
      · have := h5.row.lt h; omega
      · omega
    · rw [if_neg e] at hk
      obtain ⟨o1, o2, o3⟩ := h5.off j k hk.2.1
      exact ⟨o1, o2, fun hk2 => (hA' k hk2).elim o3 (fun h => by omega)⟩
  · intro j j' k hk hk'
    by_cases e : j = ls.length
    · by_cases e' : j' = ls.length
      · omega
      · rw [if_pos e] at hk; rw [if_neg e'] at hk'; omega
    · rw [if_neg e] at hk
      by_cases e' : j' = ls.length
      · rw [if_pos e'] at hk'; omega
      · rw [if_neg e'] at hk'; exact h5.apart j j' k hk.2.1 hk'.2.1
theorem IsTab.zero (w : World) (most : Int) : IsTab ((w.alloc (.map #[] 0)).alloc (.cells #[.slice none 0 0, .int .i64 most, .map (some w.heap.size)] 77)) (w.heap.size + 1) (fun k => w.heap.size ≤ k) [] most 0 (fun _ => none) := by
  have e1 : (w.alloc (.map #[] 0)).heap.size = w.heap.size + 1 := by simp
  have hb := blk_new (w.alloc (.map #[] 0)) (.cells #[.slice none 0 0, .int .i64 most, .map (some w.heap.size)] 77)
  rw [e1] at hb
  refine ⟨none, 0, w.heap.size, [], fun _ _ => False, hb, by omega, Nat.le_refl _, (MapAt.empty w).move (Below.heap_alloc _ _ _ (by rw [e1]; omega)), ⟨Row.zero _ _ _, fun k hk => (blk_none hk).elim, fun i hi => by simp at hi, fun i hi => by simp at hi, fun _ _ h => h.elim, fun _ _ h => h.elim, fun _ _ _ h => h.elim⟩⟩
theorem infoS : (Tryz.prog.info? 81).map (fun i => (i.zero, i.size, i.bytes)) = some (some (.agg #[.pointer none]), 1, 8) := by kernel_rfl
set_option maxHeartbeats 8000000 in
set_option maxRecDepth 100000 in
theorem NewT_ (n : Nat) (most : Int) (w : World) (h1 : 1 ≤ n) (h2 : n ≤ 10000) (h3 : 1 ≤ most) (h4 : most ≤ 4096) :
    Calls Tryz.prog 32 #[.int .i64 (n : Int), .int .i64 most] w fun e w' => e = .returned (.tuple #[.pointer (some ⟨w.heap.size + 1, 0, none⟩), .int .i64 0]) ∧
      IsTab w' (w.heap.size + 1) (fun k => w.heap.size ≤ k) (List.replicate n zL) most 0 (fun _ => none) ∧ Below w.heap.size w w' := by
  have hu := Tryz.underlying77
  have hu2 := Tryz.underlying81
  have a1 : decide ((n : Int) < 1) = false := decide_eq_false (by omega)
  have a2 : decide ((n : Int) > 10000) = false := decide_eq_false (by omega)
  have a3 : decide (most < 1) = false := decide_eq_false (by omega)
  have a4 : decide (most > 4096) = false := decide_eq_false (by omega)
  have hmm := @run_makeMap Tryz.prog
  have HN := Aside0.mk h2
  have HZ := Aside0.mk (IsTab.zero w most)
  have HBZ := Aside0.mk (below_alloc (below_alloc (Below.refl w.heap.size w) (.map #[] 0)) (.cells #[.slice none 0 0, .int .i64 most, .map (some w.heap.size)] 77))
  have e1 : (w.alloc (.map #[] 0)).heap.size = w.heap.size + 1 := by simp
  clear h1 h2 h3 h4
  go_enter Tryz.func32, Tryz.ntmps32
  go_wp2_with fail
  go_loopg [26] n (fun gg v26 wr => ∃ i : Nat, i ≤ n ∧ n - i ≤ gg ∧ v26 = .int .i64 i ∧ Aside0 (IsTab wr (w.heap.size + 1) (fun k => w.heap.size ≤ k) (List.replicate i zL) most 0 (fun _ => none)) ∧ Aside0 (Below w.heap.size w wr))
  case atStart => exact ⟨0, by omega, by omega, rfl, HZ, HBZ⟩
  case round =>
    obtain ⟨i, hi, hgg, rfl, HT, HB⟩ := hrel
    by_cases hlt : i < n
    · have t1 : (i : Int) < n := by omega
      obtain ⟨sA, sc, xs, c0, hR, hnb, hbl, fz, hsF, hbF, hclose⟩ := HT.out.push (fun k hk => Nat.le_trans HB.out.size hk)
      rw [List.length_replicate] at c0 hR hclose
      have HR := Aside0.mk hR
      have HC := Aside0.mk hclose
      have HS := Aside0.mk (And.intro hnb (And.intro hbl (And.intro hsF fz)))
      have C0 := Aside0.mk c0
      have W3 := Aside0.mk (show wrap64 ((i : Int) + 1) = ((i + 1 : Nat) : Int) by have := HN.out; unfold wrap64; omega)
      clear hR hclose hnb hbl hsF hbF fz a1 a2 a3 a4 hmm
      go_wp2_with fail
      go_region_law (first
        | (refine step_append_row rfl (.tmp 32) (.tmp 35) 74 rfl 81 (.agg #[.pointer none]) 1 8 Tryz.underlying74 infoS rfl sA i sc xs (by simp [Act.eval, Act.put]) HR5.out ⟨w5.heap.size, 0, none⟩ 1 1 [pT wr.heap.size] (by simp [Act.eval, Act.put]) rfl (one_at BS5.out) (by simp [pT, Value.oneCell']) (by have := HN.out; unfold maxLen; omega) (by have := HN.out; omega) ?_
           intro A2 c2 w6 hR6 hG6 hk6
           have hbk := (hG6.block (w.heap.size + 1) (by have := HL5.out; simp; omega) HS.out.1).trans HK5.out
           have c7 := (World.cell?_of_block (a := ⟨w.heap.size + 1, 0, none⟩) hbk).trans C0.out
           have f7 := (World.frozen?_of_block (a := ⟨w.heap.size + 1, 0, none⟩) hbk).trans HS.out.2.2.2
           have HR6 := Aside0.mk hR6
           have HG6 := Aside0.mk hG6
           have HK6 := Aside0.mk hk6
           clear hR6 hG6 hk6 hbk)
        | (go_simp
           go_at_call 56
           refine (New_ _ (fun k => wr.heap.size ≤ k) (by simp)).mono ?_
           rintro e w5 ⟨rfl, hI5, hb5⟩
           have HI5 := Aside0.mk hI5
           have c5 := cell_be (w := wr.drew) c0 hb5
           have c6 := cell_al c5 (.cells #[.pointer (some ⟨wr.heap.size, 0, none⟩)] 81)
           have HR5 := Aside0.mk (((show Row wr.drew 81 1 sA i sc xs from HR.out).below hb5).alloc (.cells #[.pointer (some ⟨wr.heap.size, 0, none⟩)] 81))
           have BS5 := Aside0.mk (blk_new w5 (.cells #[.pointer (some ⟨wr.heap.size, 0, none⟩)] 81))
           have HL5 := Aside0.mk (show w.heap.size + 1 < w5.heap.size from Nat.lt_of_lt_of_le HS.out.2.1 hb5.size)
           have HK5 := Aside0.mk ((Below.heap_alloc w5 (.cells #[.pointer (some ⟨wr.heap.size, 0, none⟩)] 81) (w.heap.size + 1) HL5.out).trans (hb5.block (w.heap.size + 1) HS.out.2.1))
           have HB5 := Aside0.mk (show Below wr.heap.size wr w5 from ⟨hb5.os, hb5.tape, hb5.output, hb5.size, hb5.block⟩)
           clear hI5 hb5))
      all_goals (go_wp2; go_roundg (n - (i + 1)))
      all_goals first
        | omega
        | (refine ⟨i + 1, by omega, by omega, by rw [W3.out], ⟨?_⟩, ⟨?_⟩⟩
           · rw [List.replicate_succ']
             exact HC.out wr.heap.size _ w6 A2 c2 (HI5.out.below (below_alloc (Below.refl _ _) (.cells #[.pointer (some ⟨wr.heap.size, 0, none⟩)] 81))) (below_alloc HB5.out _) HR6.out HG6.out HK6.out
           · exact (HG6.out.to_below (below_alloc (below_then HB.out HB.out.size HB5.out) _) (by have := HL5.out; simp; omega) HS.out.2.2.1).setCell (p := ⟨w.heap.size + 1, 0, none⟩) (Nat.le_succ _) (.slice A2 (i + 1) c2))
    · have ei : i = n := by omega
      subst ei
      have t1 : ¬ (i : Int) < i := by omega
      clear a1 a2 a3 a4 hmm
      go_wp2
      go_ret2
      exact ⟨rfl, HT.out, HB.out⟩
end Go.Proofs.YtaaekmcmpjljgaaGreat.Ln
namespace Go.Proofs.YtaaekmcmpjljgaaGreat.Ln
open Go.RowKit Go.Proofs.YtaaekmcmpjljgaaGreatW.PrintWords Go.Proofs.YtaaekmcmpjljgaaGreatW.PrintLast Go.Proofs.YtaaekmcmpjljgaaGreatW.PrintMore Go.Proofs.YtaaekmcmpjljgaaGreat.PMd
open Go.Maps
open Go.Sort (grow)
set_option linter.unusedVariables false
set_option linter.unusedSimpArgs false
def askT (ls : List LS) (most : Int) (f : At) (who node m : Int) : Int × Int × List LS × At :=
  if node < 0 ∨ (ls.length : Int) ≤ node then (0, 4, ls, f)
  else if (f who).isSome then (0, 5, ls, f)
  else if who < 0 ∨ knownM m = false ∨ m = 0 then (0, 1, ls, f)
  else if hasIn (ls.getD node.toNat zL).1 (ls.getD node.toNat zL).2 who = false ∧ most ≤ (lenT ls : Nat) then (0, 3, ls, f)
  else ((askIn (ls.getD node.toNat zL).1 (ls.getD node.toNat zL).2 who m).1, 0, ls.set node.toNat (askIn (ls.getD node.toNat zL).1 (ls.getD node.toNat zL).2 who m).2,
    if (askIn (ls.getD node.toNat zL).1 (ls.getD node.toNat zL).2 who m).1 = 2 then f.put who node.toNat else f)
def AskPostT (b : Nat) (F : Nat → Prop) (most : Int) (N : Nat) (R : Int × Int × List LS × At) (w : World) (e : Ending) (w' : World) : Prop :=
  e = .returned (.tuple #[.int .i64 R.1, .int .i64 R.2.1]) ∧ IsTab w' b (fun k => F k ∨ w.heap.size ≤ k) R.2.2.1 most (N + 1) R.2.2.2 ∧ Grew F w w'
theorem MapAt.more {w : World} {m N N' : Nat} {f : At} (h : MapAt w m N f) (hn : N ≤ N') : MapAt w m N' f := by
  obtain ⟨D, h1, h2⟩ := h
  exact ⟨D, h1.mono hn, h2⟩
theorem IsTab.more {w : World} {b : Nat} {F : Nat → Prop} {ls : List LS} {most : Int} {N N' : Nat} {f : At} (h : IsTab w b F ls most N f) (hn : N ≤ N') : IsTab w b F ls most N' f := by
  obtain ⟨sA, sc, m, bs, G, h1, h2, h3, h4, h5⟩ := h
  exact ⟨sA, sc, m, bs, G, h1, h2, h3, h4.more hn, h5⟩
theorem ask_same {w w' : World} {b : Nat} {F : Nat → Prop} {ls : List LS} {most : Int} {N : Nat} {f : At} (h : IsTab w b F ls most N f) (hb : Below w.heap.size w w') {R : Int × Int × List LS × At} {x y : Int} (hR : R = (x, y, ls, f)) :
    AskPostT b F most N R w (.returned (.tuple #[.int .i64 x, .int .i64 y])) w' := by
  subst hR
  exact ⟨rfl, ((h.below hb).more (Nat.le_succ N)).mono (fun k _ hk => .inl hk), Grew.of_below hb⟩
section
variable {w : World} {b : Nat} {F : Nat → Prop} {ls : List LS} {most : Int} {N : Nat} {f : At}
set_option maxHeartbeats 8000000 in
set_option maxRecDepth 100000 in
theorem AskT_out (h : IsTab w b F ls most N f) (who node m : Int) (ho : node < 0 ∨ (ls.length : Int) ≤ node) :
    Calls Tryz.prog 11 #[.pointer (some ⟨b, 0, none⟩), .int .i64 who, .int .i64 node, .int .i64 m] w (AskPostT b F most N (askT ls most f who node m) w) := by
  have hu := Tryz.underlying77
  have HR := Aside0.mk (show askT ls most f who node m = (0, 4, ls, f) from if_pos ho)
  have HT := Aside0.mk h
  obtain ⟨sA, sc, m', c0, -⟩ := h.open_
  clear h
  by_cases h1 : node < 0
  · have h2 : decide (node < 0) = true := decide_eq_true h1
    clear h1 ho
    go_enter Tryz.func11, Tryz.ntmps11
    go_wp2
    go_ret2
    exact ask_same HT.out (Below.refl _ _) HR.out
  · have h2 : decide (node < 0) = false := decide_eq_false h1
    have h3 : (ls.length : Int) ≤ node := by omega
    have h4 : decide (node ≥ (ls.length : Int)) = true := decide_eq_true h3
    clear h1 ho
    go_enter Tryz.func11, Tryz.ntmps11
    go_wp2
    go_ret2
    exact ask_same HT.out (Below.refl _ _) HR.out
set_option maxHeartbeats 8000000 in
set_option maxRecDepth 100000 in
theorem AskT_waits (h : IsTab w b F ls most N f) (who node m : Int) (hw : ok64 who) (ho : ¬ (node < 0 ∨ (ls.length : Int) ≤ node)) (hf : (f who).isSome = true) :
    Calls Tryz.prog 11 #[.pointer (some ⟨b, 0, none⟩), .int .i64 who, .int .i64 node, .int .i64 m] w (AskPostT b F most N (askT ls most f who node m) w) := by
  have hu := Tryz.underlying77
  have HR := Aside0.mk (show askT ls most f who node m = (0, 5, ls, f) by unfold askT; rw [if_neg ho, if_pos hf])
  have HT := Aside0.mk h
  obtain ⟨sA, sc, m', c0, c1, c2, l0, l1, ⟨D, hown, hD⟩, -⟩ := h.open_
  have HO := Aside0.mk hown
  have HK := Aside0.mk (Maps.keyOf_int_mk Tryz.underlying3 hw)
  have HD := Aside0.mk ((hD who hw).1.trans hf)
  have h2 : decide (node < 0) = false := decide_eq_false (by omega)
  have h3 : node < (ls.length : Int) := by omega
  have h4 : decide (node ≥ (ls.length : Int)) = false := decide_eq_false (by omega)
  clear h hown hD hf ho
  go_enter Tryz.func11, Tryz.ntmps11
  go_wp2_with (first | (at_lookup; refine wpList_lookup_own_ok_int _ rfl _ _ 75 rfl 3 3 .i64 keyed Tryz.underlying75 Tryz.underlying3 (Tryz.zeroValue3 _) m' N D rfl HO.out _ _ rfl HK.out ?_; intro c hat hwc; rw [HD.out]) | fail)
  go_ret2
  exact ask_same HT.out (Below.refl _ _) HR.out
set_option maxHeartbeats 8000000 in
set_option maxRecDepth 100000 in
theorem AskT_bad (h : IsTab w b F ls most N f) (who node m : Int) (hw : ok64 who) (ho : ¬ (node < 0 ∨ (ls.length : Int) ≤ node)) (hf : (f who).isSome = false) (hb : who < 0 ∨ knownM m = false ∨ m = 0) :
    Calls Tryz.prog 11 #[.pointer (some ⟨b, 0, none⟩), .int .i64 who, .int .i64 node, .int .i64 m] w (AskPostT b F most N (askT ls most f who node m) w) := by
  have hu := Tryz.underlying77
  have HR := Aside0.mk (show askT ls most f who node m = (0, 1, ls, f) by unfold askT; rw [if_neg ho, hf, if_neg (by decide), if_pos hb])
  have HT := Aside0.mk h
  obtain ⟨sA, sc, m', c0, c1, c2, l0, l1, ⟨D, hown, hD⟩, -⟩ := h.open_
  have HO := Aside0.mk hown
  have HK := Aside0.mk (Maps.keyOf_int_mk Tryz.underlying3 hw)
  have HD := Aside0.mk ((hD who hw).1.trans hf)
  have HKn := Aside0.mk (Known_ m)
  have h2 : decide (node < 0) = false := decide_eq_false (by omega)
  have h3 : node < (ls.length : Int) := by omega
  have h4 : decide (node ≥ (ls.length : Int)) = false := decide_eq_false (by omega)
  clear h hown hD hf ho hw
  by_cases h5 : who < 0
  · have h6 : decide (who < 0) = true := decide_eq_true h5
    clear hb h5
    go_enter Tryz.func11, Tryz.ntmps11
    go_wp2_with (first | (at_lookup; refine wpList_lookup_own_ok_int _ rfl _ _ 75 rfl 3 3 .i64 keyed Tryz.underlying75 Tryz.underlying3 (Tryz.zeroValue3 _) m' N D rfl HO.out _ _ rfl HK.out ?_; intro c hat hwc; rw [HD.out]) | fail)
    go_ret2
    exact ask_same HT.out (Below.refl _ _) HR.out
  · have h6 : decide (who < 0) = false := decide_eq_false h5
    cases h7 : knownM m with
    | false =>
      rw [h7] at HKn
      clear hb h5
      go_enter Tryz.func11, Tryz.ntmps11
      go_wp2_with (first | (at_lookup; refine wpList_lookup_own_ok_int _ rfl _ _ 75 rfl 3 3 .i64 keyed Tryz.underlying75 Tryz.underlying3 (Tryz.zeroValue3 _) m' N D rfl HO.out _ _ rfl HK.out ?_; intro c hat hwc; rw [HD.out]) | fail)
      refine (HKn.out _).mono ?_
      rintro e w3 ⟨rfl, hd⟩
      obtain ⟨n, rfl⟩ := hd.out
      go_wp2
      go_ret2
      exact ask_same HT.out (pw_below_drewN (Below.refl _ _) _) HR.out
    | true =>
      have h8 : (m == 0) = true := beq_iff_eq.2 (by rcases hb with hb | hb | hb; exact absurd hb h5; rw [h7] at hb; cases hb; exact hb)
      rw [h7] at HKn
      clear hb h5
      go_enter Tryz.func11, Tryz.ntmps11
      go_wp2_with (first | (at_lookup; refine wpList_lookup_own_ok_int _ rfl _ _ 75 rfl 3 3 .i64 keyed Tryz.underlying75 Tryz.underlying3 (Tryz.zeroValue3 _) m' N D rfl HO.out _ _ rfl HK.out ?_; intro c hat hwc; rw [HD.out]) | fail)
      refine (HKn.out _).mono ?_
      rintro e w3 ⟨rfl, hd⟩
      obtain ⟨n, rfl⟩ := hd.out
      go_wp2
      go_ret2
      exact ask_same HT.out (pw_below_drewN (Below.refl _ _) _) HR.out
set_option maxHeartbeats 8000000 in
set_option maxRecDepth 100000 in
theorem AskT_full (h : IsTab w b F ls most N f) (hs : Small ls) (who node m : Int) (hw : ok64 who) (ho : ¬ (node < 0 ∨ (ls.length : Int) ≤ node)) (hf : (f who).isSome = false) (hb : ¬ (who < 0 ∨ knownM m = false ∨ m = 0))
    (hg : hasIn (ls.getD node.toNat zL).1 (ls.getD node.toNat zL).2 who = false ∧ most ≤ (lenT ls : Nat)) :
    Calls Tryz.prog 11 #[.pointer (some ⟨b, 0, none⟩), .int .i64 who, .int .i64 node, .int .i64 m] w (AskPostT b F most N (askT ls most f who node m) w) := by
  have mixed : Tryz.prog.follows Departure.mixedOrders = true := by kernel_rfl
  have hu := Tryz.underlying77
  have hu2 := Tryz.underlying81
  have HR := Aside0.mk (show askT ls most f who node m = (0, 3, ls, f) by unfold askT; rw [if_neg ho, hf, if_neg (by decide), if_neg hb, if_pos hg])
  obtain ⟨i, rfl⟩ : ∃ i : Nat, node = i := ⟨node.toNat, by omega⟩
  rw [Int.toNat_natCast] at hg
  have hi : i < ls.length := by omega
  have HT := Aside0.mk h
  have HS := Aside0.mk hs
  obtain ⟨g, off, sc, m', bi, Gi, c0, c1, c2, l0, l1, ⟨D, hown, hD⟩, cs, hI, -, -, -⟩ := h.at_ i hi
  have HO := Aside0.mk hown
  have HK := Aside0.mk (Maps.keyOf_int_mk Tryz.underlying3 hw)
  have HD := Aside0.mk ((hD who hw).1.trans hf)
  have HKn := Aside0.mk (Known_ m)
  have h2 : decide ((i : Int) < 0) = false := decide_eq_false (by omega)
  have h3 : (i : Int) < (ls.length : Int) := by omega
  have h3' : 0 ≤ (i : Int) := by omega
  have h4 : decide ((i : Int) ≥ (ls.length : Int)) = false := decide_eq_false (by omega)
  have h6 : decide (who < 0) = false := decide_eq_false (fun h => hb (.inl h))
  have h7 : knownM m = true := by cases hk : knownM m; exact absurd (.inr (.inl hk)) hb; rfl
  have h8 : (m == 0) = false := beq_eq_false_iff_ne.2 (fun h => hb (.inr (.inr h)))
  have HG := Aside0.mk (And.intro hg.1 (show decide (((lenT ls : Nat) : Int) ≥ most) = true from decide_eq_true hg.2))
  have HI := Aside0.mk hI
  have C0 := Aside0.mk c0
  have C1 := Aside0.mk c1
  have CS := Aside0.mk cs
  rw [h7] at HKn
  clear h hs hown hD hf ho hw hb hg h7 hI c1 cs
  go_enter Tryz.func11, Tryz.ntmps11
  go_wp2_with (first | (at_lookup; refine wpList_lookup_own_ok_int _ rfl _ _ 75 rfl 3 3 .i64 keyed Tryz.underlying75 Tryz.underlying3 (Tryz.zeroValue3 _) m' N D rfl HO.out _ _ rfl HK.out ?_; intro c hat hwc; rw [HD.out]) | fail)
  refine (HKn.out _).mono ?_
  rintro e w3 ⟨rfl, hd⟩
  have hb3 : Below w.heap.size w w3 := by obtain ⟨n, rfl⟩ := hd.out; exact pw_below_drewN (Below.refl _ _) _
  have HB3 := Aside0.mk hb3
  have d0 := cell_be C0.out hb3
  have d1 := cell_be C1.out hb3
  have ds := cell_be CS.out hb3
  have D0 := Aside0.mk (fun d os => cell_gr d0 d os)
  have D1 := Aside0.mk (fun d os => cell_gr d1 d os)
  have DS := Aside0.mk (fun d os => cell_gr ds d os)
  have HA := Aside0.mk (fun d os => has_ (grow (wat w3 d) os) bi Gi _ _ who ((HI.out.below HB3.out).below (below_gr w3 d os)))
  have HL := Aside0.mk (fun d os => LenT_ ((HT.out.below HB3.out).below (below_gr w3 d os)) HS.out)
  rw [HG.out.1] at HA
  have hq : decide (((lenT ls : Nat) : Int) ≥ most) = true := HG.out.2
  generalize lenT ls = q at HL hq
  clear hd hb3 c0 c2 d0 d1 ds HKn
  go_wp2_with fail
  have k0 := D0.out
  have k1 := D1.out
  have ks := DS.out
  refine wp_region_gr mixed (by kernel_rfl) ?_
  repeat (go_big_quiet_step (first | exact Calls.gr_of (HA.out _ _) | exact Calls.gr_of (HL.out _ _)))
  refine wpQuiet_nil ?_
  intro _ hw'
  obtain ⟨⟨d, os⟩, rfl⟩ := hw'
  have HB5 := Aside0.mk (below_then HB3.out HB3.out.size (below_gr w3 d os))
  clear k0 k1 ks D0 D1 DS HA HL
  generalize grow (wat w3 d) os = w5 at HB5 ⊢
  go_wp2
  go_ret2
  exact ask_same HT.out HB5.out HR.out
set_option maxHeartbeats 8000000 in
set_option maxRecDepth 100000 in
theorem AskT_go (h : IsTab w b F ls most N f) (hs : Small ls) (hN : N ≤ 1000000) (who node m : Int) (hw : ok64 who) (ho : ¬ (node < 0 ∨ (ls.length : Int) ≤ node)) (hf : (f who).isSome = false) (hb : ¬ (who < 0 ∨ knownM m = false ∨ m = 0))
    (hg : ¬ (hasIn (ls.getD node.toNat zL).1 (ls.getD node.toNat zL).2 who = false ∧ most ≤ (lenT ls : Nat))) :
    Calls Tryz.prog 11 #[.pointer (some ⟨b, 0, none⟩), .int .i64 who, .int .i64 node, .int .i64 m] w (AskPostT b F most N (askT ls most f who node m) w) := by
  have mixed : Tryz.prog.follows Departure.mixedOrders = true := by kernel_rfl
  have hu := Tryz.underlying77
  have hu2 := Tryz.underlying81
  have HR := Aside0.mk (show askT ls most f who node m = ((askIn (ls.getD node.toNat zL).1 (ls.getD node.toNat zL).2 who m).1, 0, ls.set node.toNat (askIn (ls.getD node.toNat zL).1 (ls.getD node.toNat zL).2 who m).2,
    if (askIn (ls.getD node.toNat zL).1 (ls.getD node.toNat zL).2 who m).1 = 2 then f.put who node.toNat else f) by unfold askT; rw [if_neg ho, hf, if_neg (by decide), if_neg hb, if_neg hg])
  obtain ⟨i, rfl⟩ : ∃ i : Nat, node = i := ⟨node.toNat, by omega⟩
  rw [Int.toNat_natCast] at hg HR
  have hi : i < ls.length := by omega
  have HT := Aside0.mk h
  have HS := Aside0.mk hs
  have HN := Aside0.mk (And.intro hN hi)
  obtain ⟨g, off, sc, m', bi, Gi, c0, c1, c2, l0, l1, ⟨D, hown, hD⟩, cs, hI, -, -, -⟩ := h.at_ i hi
  have HO := Aside0.mk hown
  have HK := Aside0.mk (Maps.keyOf_int_mk Tryz.underlying3 hw)
  have HW := Aside0.mk hw
  have HD := Aside0.mk ((hD who hw).1.trans hf)
  have HKn := Aside0.mk (Known_ m)
  have h2 : decide ((i : Int) < 0) = false := decide_eq_false (by omega)
  have h3 : (i : Int) < (ls.length : Int) := by omega
  have h3' : 0 ≤ (i : Int) := by omega
  have h4 : decide ((i : Int) ≥ (ls.length : Int)) = false := decide_eq_false (by omega)
  have h6 : decide (who < 0) = false := decide_eq_false (fun h => hb (.inl h))
  have h7 : knownM m = true := by cases hk : knownM m; exact absurd (.inr (.inl hk)) hb; rfl
  have h8 : (m == 0) = false := beq_eq_false_iff_ne.2 (fun h => hb (.inr (.inr h)))
  have HI := Aside0.mk hI
  have C0 := Aside0.mk c0
  have C1 := Aside0.mk c1
  have CS := Aside0.mk cs
  rw [h7] at HKn
  have tail : ∀ w5, Below w.heap.size w w5 → ∃ g off sc bi Gi, w5.cell? ⟨b, 0, none⟩ = some (.slice (some ⟨g, off, none⟩) ls.length sc) ∧ w5.cell? ⟨g, off + i, none⟩ = some (.pointer (some ⟨bi, 0, none⟩)) ∧
      Calls Tryz.prog 41 #[.pointer (some ⟨bi, 0, none⟩), .int .i64 who, .int .i64 m] w5 (fun e w' => e = .returned (.int .i64 (askIn (ls.getD i zL).1 (ls.getD i zL).2 who m).1) ∧
        IsTab w' b (fun k => F k ∨ w.heap.size ≤ k) (ls.set i (askIn (ls.getD i zL).1 (ls.getD i zL).2 who m).2) most N f ∧ Grew F w w') := fun w5 hb5 => by
    obtain ⟨g, off, sc, m', bi, Gi, c0, c1, c2, l0, l1, hm, cs, hI, ha, hG, hclose⟩ := (h.below hb5).at_ i hi
    refine ⟨g, off, sc, bi, Gi, c0, cs, (Ask_ w5 bi Gi _ _ who m hI ha (by have := (hs.2 i hi).1; omega) (by have := (hs.2 i hi).2; omega)).mono ?_⟩
    rintro e w' ⟨rfl, hI', hg'⟩
    refine ⟨rfl, (hclose w' _ _ hI' (asc_ask ha) hg').mono (fun k _ hk => hk.imp id (fun h => Nat.le_trans hb5.size h)), ?_⟩
    exact Grew.after hb5 (hg'.mono (fun k _ hk => hG k hk))
  have TL := Aside0.mk tail
  clear h hs hown hD hf ho hw hb h7 hI c1 cs hN hi tail
  by_cases hh : hasIn (ls.getD i zL).1 (ls.getD i zL).2 who = true
  · have HH := Aside0.mk hh
    have HQ := Aside0.mk (show True ∧ lenT ls = lenT ls from ⟨trivial, rfl⟩)
    clear hh hg
    go_enter Tryz.func11, Tryz.ntmps11
    go_wp2_with (first | (at_lookup; refine wpList_lookup_own_ok_int _ rfl _ _ 75 rfl 3 3 .i64 keyed Tryz.underlying75 Tryz.underlying3 (Tryz.zeroValue3 _) m' N D rfl HO.out _ _ rfl HK.out ?_; intro c hat hwc; rw [HD.out]) | fail)
    refine (HKn.out _).mono ?_
    rintro e w3 ⟨rfl, hd⟩
    have hb3 : Below w.heap.size w w3 := by obtain ⟨n, rfl⟩ := hd.out; exact pw_below_drewN (Below.refl _ _) _
    have HB3 := Aside0.mk hb3
    have d0 := cell_be C0.out hb3
    have d1 := cell_be C1.out hb3
    have ds := cell_be CS.out hb3
    have D0 := Aside0.mk (fun d os => cell_gr d0 d os)
    have D1 := Aside0.mk (fun d os => cell_gr d1 d os)
    have DS := Aside0.mk (fun d os => cell_gr ds d os)
    have HA := Aside0.mk (fun d os => has_ (grow (wat w3 d) os) bi Gi _ _ who ((HI.out.below HB3.out).below (below_gr w3 d os)))
    have HL := Aside0.mk (fun d os => LenT_ ((HT.out.below HB3.out).below (below_gr w3 d os)) HS.out)
    rw [HH.out] at HA
    generalize lenT ls = q at HL HQ
    have hq := HQ.out
    clear hd hb3 c0 c2 d0 d1 ds HKn
    go_wp2_with fail
    have k0 := D0.out
    have k1 := D1.out
    have ks := DS.out
    refine wp_region_gr mixed (by kernel_rfl) ?_
    repeat (go_big_quiet_step (first | exact Calls.gr_of (HA.out _ _) | exact Calls.gr_of (HL.out _ _)))
    refine wpQuiet_nil ?_
    intro _ hw'
    obtain ⟨⟨d, os⟩, rfl⟩ := hw'
    have HB5 := Aside0.mk (below_then HB3.out HB3.out.size (below_gr w3 d os))
    clear k0 k1 ks D0 D1 DS HA HL hq
    generalize grow (wat w3 d) os = w5 at HB5 ⊢
    obtain ⟨g2, off2, sc2, bi2, Gi2, c0, cs, hC⟩ := TL.out w5 HB5.out
    have HC := Aside0.mk hC
    clear hC
    by_cases h2r : (askIn (ls.getD i zL).1 (ls.getD i zL).2 who m).1 = 2
    · have hr2 : ((askIn (ls.getD i zL).1 (ls.getD i zL).2 who m).1 == 2) = true := beq_iff_eq.2 h2r
      rw [if_pos h2r] at HR
      clear h2r
      generalize (askIn (ls.getD i zL).1 (ls.getD i zL).2 who m).1 = r at HC HR hr2
      generalize (askIn (ls.getD i zL).1 (ls.getD i zL).2 who m).2 = s2 at HC HR
      go_wp2_with fail
      refine HC.out.mono ?_
      rintro e w6 ⟨rfl, hT6, hG6⟩
      obtain ⟨sA6, sc6, m6, -, -, e2, -, -, ⟨D6, hown6, hD6⟩, hFm, hcl⟩ := hT6.open_
      have HO6 := Aside0.mk hown6
      have HD6 := Aside0.mk hD6
      have HCL := Aside0.mk hcl
      have HG6 := Aside0.mk hG6
      have HF6 := Aside0.mk hFm
      clear hown6 hD6 hcl hT6 hG6 hFm HC c0 cs
      go_wp2_with (first | (at_mapUpdate; refine wpList_mapUpdate_own _ rfl _ _ _ 75 rfl 3 3 keyed Tryz.underlying75 _ m6 N D6 rfl HO6.out (by have := HN.out.1; unfold maxLen; omega) _ _ _ rfl rfl HK.out _ [] (plainElem_int Tryz.underlying3 (Go.WalkArith.wf_i64 (n := (i : Int)) (by have h1 := HS.out.1; have h2 := HN.out.2; omega))) ?_; intro w7 hown7 hgrow7) | fail)
      have HM7 := Aside0.mk (MapAt.put (w := w6) (N := 0) HD6.out (by obtain ⟨es, clock, _, _, _, hD⟩ := HO6.out; exact ⟨_, hD⟩) HW.out i hown7)
      have HG7 := Aside0.mk (Grew.of_grown hgrow7)
      clear hown7 hgrow7
      go_wp2
      go_ret2
      rw [HR.out]
      have hg7 : Grew (fun k => k = m6) w6 w7 := HG7.out.mono (fun k _ hk => by simpa using hk)
      refine ⟨rfl, HCL.out w7 (N + 1) _ HM7.out hg7, HG6.out.trans hg7 (fun k hk => by subst hk; exact HF6.out)⟩
    · have hr2 : ((askIn (ls.getD i zL).1 (ls.getD i zL).2 who m).1 == 2) = false := beq_eq_false_iff_ne.2 h2r
      rw [if_neg h2r] at HR
      clear h2r
      generalize (askIn (ls.getD i zL).1 (ls.getD i zL).2 who m).1 = r at HC HR hr2
      generalize (askIn (ls.getD i zL).1 (ls.getD i zL).2 who m).2 = s2 at HC HR
      go_wp2_with fail
      refine HC.out.mono ?_
      rintro e w6 ⟨rfl, hT6, hG6⟩
      have HT6 := Aside0.mk (And.intro hT6 hG6)
      clear hT6 hG6 HC c0 cs
      go_wp2
      go_ret2
      rw [HR.out]
      exact ⟨rfl, HT6.out.1.more (Nat.le_succ N), HT6.out.2⟩
  · have HH := Aside0.mk (show hasIn (ls.getD i zL).1 (ls.getD i zL).2 who = false by simpa using hh)
    have HQ := Aside0.mk (show decide (((lenT ls : Nat) : Int) ≥ most) = false from decide_eq_false (fun h => hg ⟨by simpa using hh, h⟩))
    clear hh hg
    go_enter Tryz.func11, Tryz.ntmps11
    go_wp2_with (first | (at_lookup; refine wpList_lookup_own_ok_int _ rfl _ _ 75 rfl 3 3 .i64 keyed Tryz.underlying75 Tryz.underlying3 (Tryz.zeroValue3 _) m' N D rfl HO.out _ _ rfl HK.out ?_; intro c hat hwc; rw [HD.out]) | fail)
    refine (HKn.out _).mono ?_
    rintro e w3 ⟨rfl, hd⟩
    have hb3 : Below w.heap.size w w3 := by obtain ⟨n, rfl⟩ := hd.out; exact pw_below_drewN (Below.refl _ _) _
    have HB3 := Aside0.mk hb3
    have d0 := cell_be C0.out hb3
    have d1 := cell_be C1.out hb3
    have ds := cell_be CS.out hb3
    have D0 := Aside0.mk (fun d os => cell_gr d0 d os)
    have D1 := Aside0.mk (fun d os => cell_gr d1 d os)
    have DS := Aside0.mk (fun d os => cell_gr ds d os)
    have HA := Aside0.mk (fun d os => has_ (grow (wat w3 d) os) bi Gi _ _ who ((HI.out.below HB3.out).below (below_gr w3 d os)))
    have HL := Aside0.mk (fun d os => LenT_ ((HT.out.below HB3.out).below (below_gr w3 d os)) HS.out)
    rw [HH.out] at HA
    generalize lenT ls = q at HL HQ
    have hq := HQ.out
    clear hd hb3 c0 c2 d0 d1 ds HKn
    go_wp2_with fail
    have k0 := D0.out
    have k1 := D1.out
    have ks := DS.out
    refine wp_region_gr mixed (by kernel_rfl) ?_
    repeat (go_big_quiet_step (first | exact Calls.gr_of (HA.out _ _) | exact Calls.gr_of (HL.out _ _)))
    refine wpQuiet_nil ?_
    intro _ hw'
    obtain ⟨⟨d, os⟩, rfl⟩ := hw'
    have HB5 := Aside0.mk (below_then HB3.out HB3.out.size (below_gr w3 d os))
    clear k0 k1 ks D0 D1 DS HA HL hq
    generalize grow (wat w3 d) os = w5 at HB5 ⊢
    obtain ⟨g2, off2, sc2, bi2, Gi2, c0, cs, hC⟩ := TL.out w5 HB5.out
    have HC := Aside0.mk hC
    clear hC
    by_cases h2r : (askIn (ls.getD i zL).1 (ls.getD i zL).2 who m).1 = 2
    · have hr2 : ((askIn (ls.getD i zL).1 (ls.getD i zL).2 who m).1 == 2) = true := beq_iff_eq.2 h2r
      rw [if_pos h2r] at HR
      clear h2r
      generalize (askIn (ls.getD i zL).1 (ls.getD i zL).2 who m).1 = r at HC HR hr2
      generalize (askIn (ls.getD i zL).1 (ls.getD i zL).2 who m).2 = s2 at HC HR
      go_wp2_with fail
      refine HC.out.mono ?_
      rintro e w6 ⟨rfl, hT6, hG6⟩
      obtain ⟨sA6, sc6, m6, -, -, e2, -, -, ⟨D6, hown6, hD6⟩, hFm, hcl⟩ := hT6.open_
      have HO6 := Aside0.mk hown6
      have HD6 := Aside0.mk hD6
      have HCL := Aside0.mk hcl
      have HG6 := Aside0.mk hG6
      have HF6 := Aside0.mk hFm
      clear hown6 hD6 hcl hT6 hG6 hFm HC c0 cs
      go_wp2_with (first | (at_mapUpdate; refine wpList_mapUpdate_own _ rfl _ _ _ 75 rfl 3 3 keyed Tryz.underlying75 _ m6 N D6 rfl HO6.out (by have := HN.out.1; unfold maxLen; omega) _ _ _ rfl rfl HK.out _ [] (plainElem_int Tryz.underlying3 (Go.WalkArith.wf_i64 (n := (i : Int)) (by have h1 := HS.out.1; have h2 := HN.out.2; omega))) ?_; intro w7 hown7 hgrow7) | fail)
      have HM7 := Aside0.mk (MapAt.put (w := w6) (N := 0) HD6.out (by obtain ⟨es, clock, _, _, _, hD⟩ := HO6.out; exact ⟨_, hD⟩) HW.out i hown7)
      have HG7 := Aside0.mk (Grew.of_grown hgrow7)
      clear hown7 hgrow7
      go_wp2
      go_ret2
      rw [HR.out]
      have hg7 : Grew (fun k => k = m6) w6 w7 := HG7.out.mono (fun k _ hk => by simpa using hk)
      refine ⟨rfl, HCL.out w7 (N + 1) _ HM7.out hg7, HG6.out.trans hg7 (fun k hk => by subst hk; exact HF6.out)⟩
    · have hr2 : ((askIn (ls.getD i zL).1 (ls.getD i zL).2 who m).1 == 2) = false := beq_eq_false_iff_ne.2 h2r
      rw [if_neg h2r] at HR
      clear h2r
      generalize (askIn (ls.getD i zL).1 (ls.getD i zL).2 who m).1 = r at HC HR hr2
      generalize (askIn (ls.getD i zL).1 (ls.getD i zL).2 who m).2 = s2 at HC HR
      go_wp2_with fail
      refine HC.out.mono ?_
      rintro e w6 ⟨rfl, hT6, hG6⟩
      have HT6 := Aside0.mk (And.intro hT6 hG6)
      clear hT6 hG6 HC c0 cs
      go_wp2
      go_ret2
      rw [HR.out]
      exact ⟨rfl, HT6.out.1.more (Nat.le_succ N), HT6.out.2⟩
theorem AskT_ (h : IsTab w b F ls most N f) (hs : Small ls) (hN : N ≤ 1000000) (who node m : Int) (hw : ok64 who) :
    Calls Tryz.prog 11 #[.pointer (some ⟨b, 0, none⟩), .int .i64 who, .int .i64 node, .int .i64 m] w (AskPostT b F most N (askT ls most f who node m) w) := by
  by_cases ho : node < 0 ∨ (ls.length : Int) ≤ node
  · exact AskT_out h who node m ho
  · cases hf : (f who).isSome with
    | true => exact AskT_waits h who node m hw ho hf
    | false =>
      by_cases hb : who < 0 ∨ knownM m = false ∨ m = 0
      · exact AskT_bad h who node m hw ho hf hb
      · by_cases hg : hasIn (ls.getD node.toNat zL).1 (ls.getD node.toNat zL).2 who = false ∧ most ≤ (lenT ls : Nat)
        · exact AskT_full h hs who node m hw ho hf hb hg
        · exact AskT_go h hs hN who node m hw ho hf hb hg
end
end Go.Proofs.YtaaekmcmpjljgaaGreat.Ln
