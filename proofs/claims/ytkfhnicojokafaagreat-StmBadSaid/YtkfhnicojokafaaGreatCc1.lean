/- Cells in memory: what they are; New, Of, asked, Store, Peek, Len, Count. -/
import Derived.Test.YtkfhnicojokafaaGreatPMdx
import Derived.Test.YtkfhnicojokafaaGreatRow2
import Derived.Outline
namespace Go.Proofs.YtkfhnicojokafaaGreat.Co
open Go.RowKit Go.Proofs.YtkfhnicojokafaaGreatW.PrintWords Go.Proofs.YtkfhnicojokafaaGreatW.PrintLast Go.Proofs.YtkfhnicojokafaaGreatW.PrintMore Go.Proofs.YtkfhnicojokafaaGreat.PMd Go.Proofs.YtkfhnicojokafaaGreat.Ln
set_option linter.unusedVariables false
set_option linter.unusedSimpArgs false
theorem cell_al0 {w : World} {a : Addr} {v : Value} (hc : w.cell? a = some v) (o : Obj) : (w.alloc o).cell? a = some v :=
  ((below_alloc (Below.refl w.heap.size w) o).cell (World.block_lt_of_cell? w a hc)).trans hc
theorem cell_be0 {w w' : World} {a : Addr} {v : Value} (hc : w.cell? a = some v) (h : Below w.heap.size w w') : w'.cell? a = some v :=
  (h.cell (World.block_lt_of_cell? w a hc)).trans hc
/-- Whole numbers as values. -/
def vi (l : List Int) : List Value := l.map (Value.int .i64)
theorem vi_len (l : List Int) : (vi l).length = l.length := by simp [vi]
theorem vi_get {l : List Int} {i : Nat} (h : i < l.length) : (vi l)[i]? = some (.int .i64 (l.getD i 0)) := by
  simp [vi, List.getElem?_eq_getElem h, List.getD_eq_getElem?_getD]
theorem vi_set (l : List Int) (i : Nat) (v : Int) : (vi l).set i (.int .i64 v) = vi (l.set i v) := by simp [vi, List.map_set]
theorem vi_rep (n : Nat) : vi (List.replicate n 0) = List.replicate n (.int .i64 0) := by simp [vi]
theorem vi_one (l : List Int) : ∀ u ∈ vi l, u.oneCell' = true := by
  intro u hu
  obtain ⟨x, _, rfl⟩ := List.mem_map.1 hu
  rfl
theorem wrap_in (i : Int) (h0 : -9223372036854775808 ≤ i) (h : i ≤ 9223372036854775807) : wrap64 i = i := by unfold wrap64; omega
/-- Cells of a row of whole numbers. -/
theorem Row.int_at {w : World} {e g off n cap : Nat} {l : List Int} (h : Row w e 1 (some ⟨g, off, none⟩) n cap (vi l)) {i : Nat} (hi : i < l.length) :
    w.cell? ⟨g, off + i, none⟩ = some (.int .i64 (l.getD i 0)) ∧ w.frozen? ⟨g, off + i, none⟩ = false := by
  have hn : 0 < n := by have := h.1; rw [vi_len] at this; omega
  obtain ⟨g', off', cur, e, _, _, hc⟩ := h.at_ hn
  cases e
  exact hc i _ (vi_get hi)
theorem Row.some_ {w : World} {e sz n cap : Nat} {A : Option Addr} {xs : List Value} (h : Row w e sz A n cap xs) (hn : 0 < n) : ∃ g off, A = some ⟨g, off, none⟩ := by
  obtain ⟨g, off, cur, e, _⟩ := h.at_ hn
  exact ⟨g, off, e⟩
theorem Row.reads_vi {w : World} {A : Option Addr} {c : Nat} {l : List Int} {e : Nat} (h : Row w e 1 A l.length c (vi l)) : Kd.C (Kd.int .i64) w A l.length l := by
  refine ⟨rfl, by have h1 := h.2.1; have h2 := h.2.2.1; unfold maxLen at h2; omega, fun hn => ?_⟩
  obtain ⟨g, off, cur, rfl, _, _, hc⟩ := h.at_ hn
  refine ⟨_, rfl, fun j p hj => ⟨[.int .i64 p], rfl, rfl, fun i u hu => ?_⟩⟩
  rw [Addr.add_lit]
  match i, hu with
  | 0, hu => obtain rfl : Value.int .i64 p = u := by simpa using hu
             rw [Nat.add_zero]
             show w.cell? ⟨g, off + j * 1, none⟩ = _
             rw [Nat.mul_one]
             exact (hc j _ (by simp [vi, hj])).1
  | i + 1, hu => simp at hu
/-- Cells at block b: their words, how often they were asked. -/
def IsCells (w : World) (b : Nat) (F : Nat → Prop) (ws : List Int) (cnt : Int) : Prop :=
  ∃ A c, w.heap[b]? = some (.cells #[.slice A ws.length c, .int .i64 cnt] 103 (0, 0)) ∧ F b ∧ Row w 3 1 A ws.length c (vi ws) ∧ (∀ k, blk A k → F k)
section
variable {w w' : World} {b : Nat} {F F' : Nat → Prop} {ws : List Int} {cnt : Int}
theorem IsCells.mono (h : IsCells w b F ws cnt) (hf : ∀ k, k < w.heap.size → F k → F' k) : IsCells w b F' ws cnt := by
  obtain ⟨A, c, h1, h2, h3, h4⟩ := h
  exact ⟨A, c, h1, hf _ (Array.getElem?_eq_some_iff.1 h1).1 h2, h3, fun k hk => hf _ (h3.lt hk) (h4 k hk)⟩
theorem IsCells.move (h : IsCells w b F ws cnt) (hm : ∀ k, F k → k < w.heap.size → w'.heap[k]? = w.heap[k]?) : IsCells w' b F ws cnt := by
  obtain ⟨A, c, h1, h2, h3, h4⟩ := h
  exact ⟨A, c, (hm b h2 (Array.getElem?_eq_some_iff.1 h1).1).trans h1, h2, h3.move (fun k hk hl => hm k (h4 k hk) hl), h4⟩
theorem IsCells.below (h : IsCells w b F ws cnt) (hb : Below w.heap.size w w') : IsCells w' b F ws cnt := h.move (fun k _ hk => hb.block k hk)
theorem IsCells.grew {S : Nat → Prop} (h : IsCells w b F ws cnt) (hg : Grew S w w') (hs_ : ∀ k, F k → ¬ S k) : IsCells w' b F ws cnt := h.move (fun k hk hl => hg.block k hl (hs_ k hk))
end
set_option maxHeartbeats 8000000 in
set_option maxRecDepth 100000 in
theorem cellNew_ (n : Nat) (hn : n ≤ 65536) (w : World) :
    Calls Tryz.prog 45 #[.int .i64 (n : Int)] w fun e w' => e = .returned (.tuple #[.pointer (some ⟨w.heap.size + 1, 0, none⟩), .int .i64 0]) ∧
      w'.heap[w.heap.size]? = some (.cells (List.replicate n (.int .i64 0)).toArray 3 (0, 0)) ∧ w'.heap[w.heap.size + 1]? = some (.cells #[.slice (some ⟨w.heap.size, 0, none⟩) n n, .int .i64 0] 103 (0, 0)) ∧ Below w.heap.size w w' := by
  have hu := Tryz.underlying103
  have hmk := print_make_int (P := Tryz.prog) 24 3 (.int .i64 0) 8 Tryz.underlying24 info3 rfl (by omega) (n : Int) (by omega) (by omega)
  have hcells : (madeCells #[Value.int .i64 0] n) = (List.replicate n (Value.int .i64 0)).toArray := by
    apply Array.ext
    · simp [madeCells]
    · intro i h1 h2
      simp [madeCells, Nat.mod_one]
  have HC := Aside0.mk hcells
  have a1 : decide ((n : Int) < 0) = false := decide_eq_false (by omega)
  have a2 : decide ((n : Int) > 65536) = false := decide_eq_false (by omega)
  have a3 : decide (65536 < n) = false := decide_eq_false (by omega)
  clear hcells hn
  go_enter Tryz.func45, Tryz.ntmps45
  go_wp2
  go_ret2
  refine ⟨rfl, ?_, ?_, below_alloc (below_alloc (Below.refl _ _) _) _⟩
  · rw [← HC.out]; exact blk_alloc (blk_new w _) _
  · have := blk_new (w.alloc (.cells (madeCells #[Value.int .i64 0] n) 3)) (.cells #[.slice (some ⟨w.heap.size, 0, none⟩) n n, .int .i64 0] 103)
    rwa [show (w.alloc (.cells (madeCells #[Value.int .i64 0] n) 3)).heap.size = w.heap.size + 1 from by simp] at this
set_option maxHeartbeats 8000000 in
set_option maxRecDepth 100000 in
theorem cellOf_ (n : Nat) (A : Option Addr) (cA : Nat) (l : List Int) (w : World) (hr : Kd.C (Kd.int .i64) w A l.length l) (hc : l.length ≤ cA) (hn : n ≤ 65536) (h0 : 0 < l.length) (hl : l.length ≤ n) :
    Calls Tryz.prog 26 #[.int .i64 (n : Int), .slice A l.length cA] w fun e w' => ∃ b, w.heap.size ≤ b ∧ e = .returned (.tuple #[.pointer (some ⟨b, 0, none⟩), .int .i64 0]) ∧
      IsCells w' b (fun k => w.heap.size ≤ k) (l ++ List.replicate (n - l.length) 0) 0 ∧ Below w.heap.size w w' := by
  have hu := Tryz.underlying103
  have HR := Aside0.mk hr
  have HN := Aside0.mk (cellNew_ n hn w)
  have HL := Aside0.mk hl
  have H0 := Aside0.mk h0
  have HNN := Aside0.mk hn
  clear hr hc hn h0 hl
  go_enter Tryz.func26, Tryz.ntmps26
  go_wp2_with fail
  refine HN.out.mono ?_
  rintro e w1 ⟨rfl, h1, h2, hb⟩
  obtain ⟨ad, rfl, hsrc⟩ := (Kd.reads_of_C (d := (0 : Int)) (h1 := fun _ => rfl) (Kd.C_below HR.out hb)).2.2 H0.out
  have HSRC := Aside0.mk (show ∀ j v, (vi l)[j]? = some v → w1.cell? (ad.add j) = some v from fun j v hv => by
    have hj : j < l.length := by have := (List.getElem?_eq_some_iff.1 hv).1; rwa [vi_len] at this
    rw [vi_get hj] at hv
    cases hv
    exact hsrc j hj)
  have c0 : w1.cell? ⟨w.heap.size + 1, 0, none⟩ = some (.slice (some ⟨w.heap.size, 0, none⟩) n n) := (blk_cell h2 0).trans rfl
  have HRow := Aside0.mk (show Row w1 3 1 (some ⟨w.heap.size, 0, none⟩) n n (vi (List.replicate n 0)) from ⟨by simp [vi], Nat.le_refl _, by have := HNN.out; unfold maxLen; omega, .inr ⟨w.heap.size, 0, _, rfl, h1, by simp, by simp [vi]⟩⟩)
  have H2 := Aside0.mk h2
  have HB := Aside0.mk hb
  have HS := Aside0.mk (show (Tryz.prog.info? 3).map (·.size) = some 1 by
    obtain ⟨i0, hi, _, hz, _⟩ := info_parts info3
    rw [hi]; simp [hz])
  have HQ := Aside0.mk (show (vi l).length = Nat.min l.length n * 1 by rw [vi_len]; have := HL.out; simp [Nat.min_eq_left this])
  have HP := Aside0.mk (show 0 + (vi l).length ≤ (vi (List.replicate n 0)).length by rw [vi_len, vi_len]; simpa using HL.out)
  clear h1 h2 hb hsrc
  go_wp2_with (with_reducible refine gate_copy ?_; refine wpList_copy_row rfl _ _ 24 24 rfl 3 1 Tryz.underlying24 HS.out w.heap.size 0 n n _ HRow.out 0 n n ad l.length cA (by simp [Act.eval, Act.put]) (by simp [Act.eval, Act.put]) (vi l) HQ.out HSRC.out HP.out (vi_one l) ?_)
  intro w2 hR2 hG2
  have HR2 := Aside0.mk hR2
  have HG2 := Aside0.mk hG2
  clear hR2 hG2
  go_wp2
  go_ret2
  have hlt : w.heap.size + 1 < w1.heap.size := (Array.getElem?_eq_some_iff.1 H2.out).1
  have hsp : Go.splice (vi (List.replicate n 0)) 0 (vi l) = vi (l ++ List.replicate (n - l.length) 0) := by
    unfold Go.splice vi
    simp [List.map_append]
  have hlen : (l ++ List.replicate (n - l.length) (0 : Int)).length = n := by have := HL.out; simp; omega
  refine ⟨w.heap.size + 1, by omega, rfl, ⟨some ⟨w.heap.size, 0, none⟩, n, ?_, by omega, ?_, fun k hk => ?_⟩, HG2.out.to_below HB.out HB.out.size (fun k hk => by omega)⟩
  · rw [hlen]; exact (HG2.out.block _ hlt (by omega)).trans H2.out
  · rw [hlen, ← hsp]; exact HR2.out
  · obtain ⟨a, h1, h2⟩ := hk
    cases h1
    exact Nat.le_of_eq h2
set_option maxHeartbeats 8000000 in
set_option maxRecDepth 100000 in
theorem asked_ (w : World) (b : Nat) (A : Option Addr) (n c : Nat) (cnt a : Int) (hb : w.heap[b]? = some (.cells #[.slice A n c, .int .i64 cnt] 103 (0, 0))) (h0 : 0 ≤ cnt) (h1 : cnt ≤ 1000000000000000) :
    Calls Tryz.prog 129 #[.pointer (some ⟨b, 0, none⟩), .int .i64 a] w fun e w' => e = .returned (.bool (decide (0 ≤ a ∧ a < n))) ∧ w' = w.setCell ⟨b, 1, none⟩ (.int .i64 (cnt + 1)) := by
  have hu := Tryz.underlying103
  have c0 : w.cell? ⟨b, 0, none⟩ = some (.slice A n c) := (blk_cell hb 0).trans rfl
  have c1 : w.cell? ⟨b, 1, none⟩ = some (.int .i64 cnt) := (blk_cell hb 1).trans rfl
  have f1 : w.frozen? ⟨b, 1, none⟩ = false := blk_frozen hb 1
  have W := Aside0.mk (show wrap64 (cnt + 1) = cnt + 1 from wrap_in _ (by omega) (by omega))
  clear hb
  by_cases g0 : 0 ≤ a
  · by_cases g1 : a < (n : Int)
    · have d0 : decide (a ≥ 0) = true := decide_eq_true g0
      have d1 : decide (a < (n : Int)) = true := decide_eq_true g1
      have D := Aside0.mk (show decide (0 ≤ a ∧ a < (n : Int)) = true from decide_eq_true ⟨g0, g1⟩)
      go_enter Tryz.func129, Tryz.ntmps129
      go_wp2
      go_ret
      exact ⟨by first | rfl | (rw [D.out]; rfl), by first | rfl | rw [W.out]⟩
    · have d0 : decide (a ≥ 0) = true := decide_eq_true g0
      have d1 : decide (a < (n : Int)) = false := decide_eq_false g1
      have D := Aside0.mk (show decide (0 ≤ a ∧ a < (n : Int)) = false from decide_eq_false (fun h => g1 h.2))
      go_enter Tryz.func129, Tryz.ntmps129
      go_wp2
      go_ret
      exact ⟨by first | rfl | (rw [D.out]; rfl), by first | rfl | rw [W.out]⟩
  · have d0 : decide (a ≥ 0) = false := decide_eq_false g0
    have D := Aside0.mk (show decide (0 ≤ a ∧ a < (n : Int)) = false from decide_eq_false (fun h => g0 h.1))
    go_enter Tryz.func129, Tryz.ntmps129
    go_wp2
    go_ret
    exact ⟨by first | rfl | (rw [D.out]; rfl), by first | rfl | rw [W.out]⟩
set_option maxHeartbeats 8000000 in
set_option maxRecDepth 100000 in
theorem cellStore_ (w : World) (b : Nat) (F : Nat → Prop) (ws : List Int) (cnt v : Int) (a : Nat) (hI : IsCells w b F ws cnt) (h0 : 0 ≤ cnt) (h1 : cnt ≤ 1000000000000000) (ha : a < ws.length) :
    Calls Tryz.prog 90 #[.pointer (some ⟨b, 0, none⟩), .int .i64 (a : Int), .int .i64 v] w fun e w' => e = .returned (.int .i64 0) ∧ IsCells w' b F (ws.set a v) (cnt + 1) ∧ Grew F w w' := by
  have hu := Tryz.underlying103
  obtain ⟨A, c, hb, hF, hR, hA⟩ := hI
  have HASK := Aside0.mk (show Calls Tryz.prog 129 #[.pointer (some ⟨b, 0, none⟩), .int .i64 (a : Int)] w fun e w' => e = .returned (.bool true) ∧ w' = w.setCell ⟨b, 1, none⟩ (.int .i64 (cnt + 1)) from
    (asked_ w b A ws.length c cnt a hb h0 h1).mono fun e w' ⟨h2, h3⟩ => ⟨by rw [h2, decide_eq_true (show 0 ≤ (a : Int) ∧ (a : Int) < (ws.length : Int) by omega)], h3⟩)
  obtain ⟨g, off, rfl⟩ := Row.some_ hR (by omega)
  have hne : g ≠ b := fun e => hR.ne hb (by decide) ⟨_, rfl, e⟩
  have hb1 := blk_put hb 1 (.int .i64 (cnt + 1)) rfl
  have hR1 : Row (w.setCell ⟨b, 1, none⟩ (.int .i64 (cnt + 1))) 3 1 (some ⟨g, off, none⟩) ws.length c (vi ws) := hR.set (p := ⟨b, 1, none⟩) (fun ⟨x, hx, hx2⟩ => by cases hx; exact hne hx2) _
  have c0 : (w.setCell ⟨b, 1, none⟩ (.int .i64 (cnt + 1))).cell? ⟨b, 0, none⟩ = some (.slice (some ⟨g, off, none⟩) ws.length c) := (blk_cell hb1 0).trans rfl
  obtain ⟨c1, f1⟩ := Row.int_at hR1 ha
  have p0 : 0 ≤ (a : Int) := by omega
  have p1 : (a : Int) < (ws.length : Int) := by omega
  have HB := Aside0.mk hb
  have HB1 := Aside0.mk hb1
  have HR1 := Aside0.mk hR1
  have HF := Aside0.mk hF
  have HA := Aside0.mk hA
  have HNE := Aside0.mk hne
  clear hb hb1 hR hR1 hF hA hne h0 h1 ha
  generalize hW : w.setCell ⟨b, 1, none⟩ (.int .i64 (cnt + 1)) = W at HASK HB1 HR1 c0 c1 f1
  have HW := Aside0.mk hW
  clear hW
  go_enter Tryz.func90, Tryz.ntmps90
  go_wp2_with fail
  refine HASK.out.mono ?_
  rintro e w1 ⟨rfl, rfl⟩
  go_wp2
  go_ret
  have hp := HR1.out.put a (by rw [vi_len]; exact Int.ofNat_lt.1 p1) (.int .i64 v)
  rw [vi_set] at hp
  refine ⟨rfl, ⟨some ⟨g, off, none⟩, c, ?_, HF.out, ?_, HA.out⟩, ?_⟩
  · rw [List.length_set]
    exact (Below.heap_setCell _ _ _ b (fun e => HNE.out e.symm)).trans HB1.out
  · rw [List.length_set]
    exact hp
  · rw [← HW.out]
    exact ((Grew.refl F w).setCell (p := ⟨b, 1, none⟩) (.inl HF.out) _).setCell (p := ⟨g, off + a, none⟩) (.inl (HA.out g ⟨_, rfl, rfl⟩)) _
set_option maxHeartbeats 8000000 in
set_option maxRecDepth 100000 in
theorem cellPeek_ (w : World) (b : Nat) (F : Nat → Prop) (ws : List Int) (cnt : Int) (a : Nat) (hI : IsCells w b F ws cnt) (ha : a < ws.length) :
    Calls Tryz.prog 121 #[.pointer (some ⟨b, 0, none⟩), .int .i64 (a : Int)] w fun e w' => e = .returned (.int .i64 (ws.getD a 0)) ∧ w' = w := by
  have hu := Tryz.underlying103
  obtain ⟨A, c, hb, hF, hR, hA⟩ := hI
  obtain ⟨g, off, rfl⟩ := Row.some_ hR (by omega)
  have c0 : w.cell? ⟨b, 0, none⟩ = some (.slice (some ⟨g, off, none⟩) ws.length c) := (blk_cell hb 0).trans rfl
  obtain ⟨c1, f1⟩ := Row.int_at hR ha
  have p0 : 0 ≤ (a : Int) := by omega
  have p1 : (a : Int) < (ws.length : Int) := by omega
  have d0 : decide ((a : Int) < 0) = false := decide_eq_false (by omega)
  have d1 : decide ((a : Int) ≥ (ws.length : Int)) = false := decide_eq_false (by omega)
  have d2 : decide (ws.length ≤ a) = false := decide_eq_false (by omega)
  clear hb hF hR hA f1 ha
  go_enter Tryz.func121, Tryz.ntmps121
  go_wp2
  go_ret
  exact ⟨rfl, rfl⟩
end Go.Proofs.YtkfhnicojokafaaGreat.Co
