import Derived.Test.YtaaekmcmpjljgaaGreatPMdx
import Derived.Test.YtaaekmcmpjljgaaGreatLA
import Derived.Outline
import Derived.Maps.OwnSet
import Derived.Maps.RangeWalk
import Derived.Deep.RegionLaw
import Derived.Deep.RegionHeld3
namespace Go.Proofs.YtaaekmcmpjljgaaGreat.Co
open Go.RowKit Go.Proofs.YtaaekmcmpjljgaaGreatW.PrintWords Go.Proofs.YtaaekmcmpjljgaaGreatW.PrintLast Go.Proofs.YtaaekmcmpjljgaaGreatW.PrintMore Go.Proofs.YtaaekmcmpjljgaaGreat.PMd Go.Proofs.YtaaekmcmpjljgaaGreat.Ln
set_option linter.unusedVariables false
set_option linter.unusedSimpArgs false
theorem cell_al0 {w : World} {a : Addr} {v : Value} (hc : w.cell? a = some v) (o : Obj) : (w.alloc o).cell? a = some v :=
  ((below_alloc (Below.refl w.heap.size w) o).cell (World.block_lt_of_cell? w a hc)).trans hc
theorem cell_be0 {w w' : World} {a : Addr} {v : Value} (hc : w.cell? a = some v) (h : Below w.heap.size w w') : w'.cell? a = some v :=
  (h.cell (World.block_lt_of_cell? w a hc)).trans hc
def vi (l : List Int) : List Value := l.map (Value.int .i64)
theorem vi_len (l : List Int) : (vi l).length = l.length := by simp [vi]
theorem vi_get {l : List Int} {i : Nat} (h : i < l.length) : (vi l)[i]? = some (.int .i64 (l.getD i 0)) := by
  simp [vi, List.getElem?_eq_getElem h, List.getD_eq_getElem?_getD]
theorem vi_set (l : List Int) (i : Nat) (v : Int) : (vi l).set i (.int .i64 v) = vi (l.set i v) := by simp [vi, List.map_set]
theorem vi_rep (n : Nat) : vi (List.replicate n 0) = List.replicate n (.int .i64 0) := by simp [vi]
theorem vi_one (l : List Int) : ∀ u ∈ vi l, u.oneCell' = true := by
  intro u hu
  obtain ⟨x, _, rfl⟩ := List.mem_map.1 hu
  rfl
theorem wrap_in (i : Int) (h0 : -9223372036854775808 ≤ i) (h : i ≤ 9223372036854775807) : wrap64 i = i := by unfold wrap64; omega
theorem Row.int_at {w : World} {e g off n cap : Nat} {l : List Int} (h : Row w e 1 (some ⟨g, off, none⟩) n cap (vi l)) {i : Nat} (hi : i < l.length) :
    w.cell? ⟨g, off + i, none⟩ = some (.int .i64 (l.getD i 0)) ∧ w.frozen? ⟨g, off + i, none⟩ = false := by
  have hn : 0 < n := by have := h.1; rw [vi_len] at this; omega
  obtain ⟨g', off', cur, e, _, _, hc⟩ := h.at_ hn
  cases e
  exact hc i _ (vi_get hi)
theorem Row.some_ {w : World} {e sz n cap : Nat} {A : Option Addr} {xs : List Value} (h : Row w e sz A n cap xs) (hn : 0 < n) : ∃ g off, A = some ⟨g, off, none⟩ := by
  obtain ⟨g, off, cur, e, _⟩ := h.at_ hn
  exact ⟨g, off, e⟩
theorem Row.reads_vi {w : World} {A : Option Addr} {c : Nat} {l : List Int} {e : Nat} (h : Row w e 1 A l.length c (vi l)) : Kd.C (Kd.int .i64) w A l.length l := by
  refine ⟨rfl, by have h1 := h.2.1; have h2 := h.2.2.1; unfold maxLen at h2; omega, fun hn => ?_⟩
  obtain ⟨g, off, cur, rfl, _, _, hc⟩ := h.at_ hn
  refine ⟨_, rfl, fun j p hj => ⟨[.int .i64 p], rfl, rfl, fun i u hu => ?_⟩⟩
  rw [Addr.add_lit]
  match i, hu with
  | 0, hu => obtain rfl : Value.int .i64 p = u := by simpa using hu
             rw [Nat.add_zero]
             show w.cell? ⟨g, off + j * 1, none⟩ = _
             rw [Nat.mul_one]
             exact (hc j _ (by simp [vi, hj])).1
  | i + 1, hu => simp at hu
def IsCells (w : World) (b : Nat) (F : Nat → Prop) (ws : List Int) (cnt : Int) : Prop :=
  ∃ A c, w.heap[b]? = some (.cells #[.slice A ws.length c, .int .i64 cnt] 94 (0, 0)) ∧ F b ∧ Row w 3 1 A ws.length c (vi ws) ∧ (∀ k, blk A k → F k)
section
variable {w w' : World} {b : Nat} {F F' : Nat → Prop} {ws : List Int} {cnt : Int}
theorem IsCells.mono (h : IsCells w b F ws cnt) (hf : ∀ k, k < w.heap.size → F k → F' k) : IsCells w b F' ws cnt := by
  obtain ⟨A, c, h1, h2, h3, h4⟩ := h
  exact ⟨A, c, h1, hf _ (Array.getElem?_eq_some_iff.1 h1).1 h2, h3, fun k hk => hf _ (h3.lt hk) (h4 k hk)⟩
theorem IsCells.move (h : IsCells w b F ws cnt) (hm : ∀ k, F k → k < w.heap.size → w'.heap[k]? = w.heap[k]?) : IsCells w' b F ws cnt := by
  obtain ⟨A, c, h1, h2, h3, h4⟩ := h
  exact ⟨A, c, (hm b h2 (Array.getElem?_eq_some_iff.1 h1).1).trans h1, h2, h3.move (fun k hk hl => hm k (h4 k hk) hl), h4⟩
theorem IsCells.below (h : IsCells w b F ws cnt) (hb : Below w.heap.size w w') : IsCells w' b F ws cnt := h.move (fun k _ hk => hb.block k hk)
theorem IsCells.grew {S : Nat → Prop} (h : IsCells w b F ws cnt) (hg : Grew S w w') (hs_ : ∀ k, F k → ¬ S k) : IsCells w' b F ws cnt := h.move (fun k hk hl => hg.block k hl (hs_ k hk))
end
set_option maxHeartbeats 8000000 in
set_option maxRecDepth 100000 in
theorem cellNew_ (n : Nat) (hn : n ≤ 65536) (w : World) :
    Calls Tryz.prog 55 #[.int .i64 (n : Int)] w fun e w' => e = .returned (.tuple #[.pointer (some ⟨w.heap.size + 1, 0, none⟩), .int .i64 0]) ∧
      w'.heap[w.heap.size]? = some (.cells (List.replicate n (.int .i64 0)).toArray 3 (0, 0)) ∧ w'.heap[w.heap.size + 1]? = some (.cells #[.slice (some ⟨w.heap.size, 0, none⟩) n n, .int .i64 0] 94 (0, 0)) ∧ Below w.heap.size w w' := by
  have hu := Tryz.underlying94
  have hmk := print_make_int (P := Tryz.prog) 29 3 (.int .i64 0) 8 Tryz.underlying29 info3 rfl (by omega) (n : Int) (by omega) (by omega)
  have hcells : (madeCells #[Value.int .i64 0] n) = (List.replicate n (Value.int .i64 0)).toArray := by
    apply Array.ext
    · simp [madeCells]
    · intro i h1 h2
      simp [madeCells, Nat.mod_one]
  have HC := Aside0.mk hcells
  have a1 : decide ((n : Int) < 0) = false := decide_eq_false (by omega)
  have a2 : decide ((n : Int) > 65536) = false := decide_eq_false (by omega)
  have a3 : decide (65536 < n) = false := decide_eq_false (by omega)
  clear hcells hn
  go_enter Tryz.func55, Tryz.ntmps55
  go_wp2
  go_ret2
  refine ⟨rfl, ?_, ?_, below_alloc (below_alloc (Below.refl _ _) _) _⟩
  · rw [← HC.out]; exact blk_alloc (blk_new w _) _
  · have := blk_new (w.alloc (.cells (madeCells #[Value.int .i64 0] n) 3)) (.cells #[.slice (some ⟨w.heap.size, 0, none⟩) n n, .int .i64 0] 94)
    rwa [show (w.alloc (.cells (madeCells #[Value.int .i64 0] n) 3)).heap.size = w.heap.size + 1 from by simp] at this
set_option maxHeartbeats 8000000 in
set_option maxRecDepth 100000 in
theorem cellOf_ (n : Nat) (A : Option Addr) (cA : Nat) (l : List Int) (w : World) (hr : Kd.C (Kd.int .i64) w A l.length l) (hc : l.length ≤ cA) (hn : n ≤ 65536) (h0 : 0 < l.length) (hl : l.length ≤ n) :
    Calls Tryz.prog 30 #[.int .i64 (n : Int), .slice A l.length cA] w fun e w' => ∃ b, w.heap.size ≤ b ∧ e = .returned (.tuple #[.pointer (some ⟨b, 0, none⟩), .int .i64 0]) ∧
      IsCells w' b (fun k => w.heap.size ≤ k) (l ++ List.replicate (n - l.length) 0) 0 ∧ Below w.heap.size w w' := by
  have hu := Tryz.underlying94
  have HR := Aside0.mk hr
  have HN := Aside0.mk (cellNew_ n hn w)
  have HL := Aside0.mk hl
  have H0 := Aside0.mk h0
  have HNN := Aside0.mk hn
  clear hr hc hn h0 hl
  go_enter Tryz.func30, Tryz.ntmps30
  go_wp2_with fail
  refine HN.out.mono ?_
  rintro e w1 ⟨rfl, h1, h2, hb⟩
  obtain ⟨ad, rfl, hsrc⟩ := (Kd.reads_of_C (d := (0 : Int)) (h1 := fun _ => rfl) (Kd.C_below HR.out hb)).2.2 H0.out
  have HSRC := Aside0.mk (show ∀ j v, (vi l)[j]? = some v → w1.cell? (ad.add j) = some v from fun j v hv => by
    have hj : j < l.length := by have := (List.getElem?_eq_some_iff.1 hv).1; rwa [vi_len] at this
    rw [vi_get hj] at hv
    cases hv
    exact hsrc j hj)
  have c0 : w1.cell? ⟨w.heap.size + 1, 0, none⟩ = some (.slice (some ⟨w.heap.size, 0, none⟩) n n) := (blk_cell h2 0).trans rfl
  have HRow := Aside0.mk (show Row w1 3 1 (some ⟨w.heap.size, 0, none⟩) n n (vi (List.replicate n 0)) from ⟨by simp [vi], Nat.le_refl _, by have := HNN.out; unfold maxLen; omega, .inr ⟨w.heap.size, 0, _, rfl, h1, by simp, by simp [vi]⟩⟩)
  have H2 := Aside0.mk h2
  have HB := Aside0.mk hb
  have HS := Aside0.mk (show (Tryz.prog.info? 3).map (·.size) = some 1 by
    obtain ⟨i0, hi, _, hz, _⟩ := info_parts info3
    rw [hi]; simp [hz])
  have HQ := Aside0.mk (show (vi l).length = Nat.min l.length n * 1 by rw [vi_len]; have := HL.out; simp [Nat.min_eq_left this])
  have HP := Aside0.mk (show 0 + (vi l).length ≤ (vi (List.replicate n 0)).length by rw [vi_len, vi_len]; simpa using HL.out)
  clear h1 h2 hb hsrc
  go_wp2_with (with_reducible refine gate_copy ?_; refine wpList_copy_row rfl _ _ 29 29 rfl 3 1 Tryz.underlying29 HS.out w.heap.size 0 n n _ HRow.out 0 n n ad l.length cA (by simp [Act.eval, Act.put]) (by simp [Act.eval, Act.put]) (vi l) HQ.out HSRC.out HP.out (vi_one l) ?_)
  intro w2 hR2 hG2
  have HR2 := Aside0.mk hR2
  have HG2 := Aside0.mk hG2
  clear hR2 hG2
  go_wp2
  go_ret2
  have hlt : w.heap.size + 1 < w1.heap.size := (Array.getElem?_eq_some_iff.1 H2.out).1
  have hsp : Go.splice (vi (List.replicate n 0)) 0 (vi l) = vi (l ++ List.replicate (n - l.length) 0) := by
    unfold Go.splice vi
    simp [List.map_append]
  have hlen : (l ++ List.replicate (n - l.length) (0 : Int)).length = n := by have := HL.out; simp; omega
  refine ⟨w.heap.size + 1, by omega, rfl, ⟨some ⟨w.heap.size, 0, none⟩, n, ?_, by omega, ?_, fun k hk => ?_⟩, HG2.out.to_below HB.out HB.out.size (fun k hk => by omega)⟩
  · rw [hlen]; exact (HG2.out.block _ hlt (by omega)).trans H2.out
  · rw [hlen, ← hsp]; exact HR2.out
  · obtain ⟨a, h1, h2⟩ := hk
    cases h1
    exact Nat.le_of_eq h2
set_option maxHeartbeats 8000000 in
set_option maxRecDepth 100000 in
theorem cellPeek_ (w : World) (b : Nat) (F : Nat → Prop) (ws : List Int) (cnt : Int) (a : Nat) (hI : IsCells w b F ws cnt) (ha : a < ws.length) :
    Calls Tryz.prog 53 #[.pointer (some ⟨b, 0, none⟩), .int .i64 (a : Int)] w fun e w' => e = .returned (.int .i64 (ws.getD a 0)) ∧ w' = w := by
  have hu := Tryz.underlying94
  obtain ⟨A, c, hb, hF, hR, hA⟩ := hI
  obtain ⟨g, off, rfl⟩ := Row.some_ hR (by omega)
  have c0 : w.cell? ⟨b, 0, none⟩ = some (.slice (some ⟨g, off, none⟩) ws.length c) := (blk_cell hb 0).trans rfl
  obtain ⟨c1, f1⟩ := Row.int_at hR ha
  have p0 : 0 ≤ (a : Int) := by omega
  have p1 : (a : Int) < (ws.length : Int) := by omega
  have d0 : decide ((a : Int) < 0) = false := decide_eq_false (by omega)
  have d1 : decide ((a : Int) ≥ (ws.length : Int)) = false := decide_eq_false (by omega)
  have d2 : decide (ws.length ≤ a) = false := decide_eq_false (by omega)
  clear hb hF hR hA f1 ha
  go_enter Tryz.func53, Tryz.ntmps53
  go_wp2
  go_ret
  exact ⟨rfl, rfl⟩
set_option maxHeartbeats 8000000 in
theorem cellCount_ (w : World) (b : Nat) (F : Nat → Prop) (ws : List Int) (cnt : Int) (hI : IsCells w b F ws cnt) :
    Calls Tryz.prog 27 #[.pointer (some ⟨b, 0, none⟩)] w fun e w' => e = .returned (.int .i64 cnt) ∧ w' = w := by
  have hu := Tryz.underlying94
  obtain ⟨A, c, hb, hF, hR, hA⟩ := hI
  have c0 : w.cell? ⟨b, 1, none⟩ = some (.int .i64 cnt) := (blk_cell hb 1).trans rfl
  clear hb hF hR hA
  go_enter Tryz.func27, Tryz.ntmps27
  go_wp2
  go_ret
  exact ⟨rfl, rfl⟩
end Go.Proofs.YtaaekmcmpjljgaaGreat.Co
namespace Go.Proofs.YtaaekmcmpjljgaaGreat.Co
open Go.RowKit Go.Proofs.YtaaekmcmpjljgaaGreatW.PrintWords Go.Proofs.YtaaekmcmpjljgaaGreatW.PrintLast Go.Proofs.YtaaekmcmpjljgaaGreatW.PrintMore Go.Proofs.YtaaekmcmpjljgaaGreat.PMd Go.Proofs.YtaaekmcmpjljgaaGreat.Ln
set_option linter.unusedVariables false
set_option linter.unusedSimpArgs false
structure Cf where
  (f0 f1 f2 f3 f4 f5 f6 f7 f8 f9 f10 f11 : Int)
structure CoreS where
  c : Cf
  ws : List Int
  cnt : Int
  tk : List Int
  ac : List Bool
  dm : List Int
  now : Int
structure Pl where
  (p cb tb db nb sb : Nat)
def vb (l : List Bool) : List Value := l.map Value.bool
def ptr (b : Nat) : Value := .pointer (some ⟨b, 0, none⟩)
def partsC (c : Cf) (P : Pl) : Array Value := #[.int .i64 c.f0, .int .i64 c.f1, .int .i64 c.f2, .int .i64 c.f3, .int .i64 c.f4, .int .i64 c.f5, .int .i64 c.f6, .int .i64 c.f7, .int .i64 c.f8, .int .i64 c.f9, .int .i64 c.f10, .int .i64 c.f11,
  .pointer (some ⟨P.cb, 0, none⟩), .pointer (some ⟨P.tb, 0, none⟩), .pointer (some ⟨P.db, 0, none⟩), .pointer (some ⟨P.nb, 0, none⟩), .pointer (some ⟨P.sb, 0, none⟩)]
def IsCore (w : World) (b : Nat) (P : Pl) (F : Nat → Prop) (s : CoreS) : Prop :=
  ∃ tA tc aA ac dA dc FC, w.heap[b]? = some (.cells #[.pointer (some ⟨P.p, 0, none⟩), .slice tA s.tk.length tc, .slice aA s.ac.length ac, .slice dA s.dm.length dc, .int .i64 s.now] 36 (0, 0)) ∧
    w.heap[P.p]? = some (.cells (partsC s.c P) 73 (0, 0)) ∧ F b ∧ F P.p ∧
    Row w 3 1 tA s.tk.length tc (vi s.tk) ∧ (∀ k, blk tA k → F k) ∧ Row w 4 1 aA s.ac.length ac (vb s.ac) ∧ (∀ k, blk aA k → F k) ∧ Row w 26 1 dA s.dm.length dc (vi s.dm) ∧ (∀ k, blk dA k → F k) ∧
    IsCells w P.cb FC s.ws s.cnt ∧ (∀ k, FC k → F k) ∧ (∀ k, FC k → k ≠ b ∧ k ≠ P.p ∧ ¬ blk tA k ∧ ¬ blk aA k ∧ ¬ blk dA k)
section
variable {w w' : World} {b : Nat} {P : Pl} {F F' : Nat → Prop} {s : CoreS}
theorem IsCore.move (h : IsCore w b P F s) (hm : ∀ k, F k → k < w.heap.size → w'.heap[k]? = w.heap[k]?) : IsCore w' b P F s := by
  obtain ⟨tA, tc, aA, ac, dA, dc, FC, h1, h2, h3, h4, h5, h6, h7, h8, h9, h10, h11, h12, h13⟩ := h
  exact ⟨tA, tc, aA, ac, dA, dc, FC, (hm b h3 (Array.getElem?_eq_some_iff.1 h1).1).trans h1, (hm _ h4 (Array.getElem?_eq_some_iff.1 h2).1).trans h2, h3, h4, h5.move (fun k hk hl => hm k (h6 k hk) hl), h6, h7.move (fun k hk hl => hm k (h8 k hk) hl), h8,
    h9.move (fun k hk hl => hm k (h10 k hk) hl), h10, h11.move (fun k hk hl => hm k (h12 k hk) hl), h12, h13⟩
theorem IsCore.below (h : IsCore w b P F s) (hb : Below w.heap.size w w') : IsCore w' b P F s := h.move (fun k _ hk => hb.block k hk)
theorem IsCore.grew {S : Nat → Prop} (h : IsCore w b P F s) (hg : Grew S w w') (hs_ : ∀ k, F k → ¬ S k) : IsCore w' b P F s := h.move (fun k hk hl => hg.block k hl (hs_ k hk))
theorem IsCore.drewN (h : IsCore w b P F s) (m : Nat) : IsCore (w.drewN m) b P F s := h
theorem IsCore.parts (h : IsCore w b P F s) : w.heap[P.p]? = some (.cells (partsC s.c P) 73 (0, 0)) := by
  obtain ⟨_, _, _, _, _, _, _, _, h2, _⟩ := h
  exact h2
theorem IsCore.at0 (h : IsCore w b P F s) : w.cell? ⟨b, 0, none⟩ = some (.pointer (some ⟨P.p, 0, none⟩)) := by
  obtain ⟨_, _, _, _, _, _, _, h1, _⟩ := h
  exact (blk_cell h1 0).trans rfl
theorem IsCore.at4 (h : IsCore w b P F s) : w.cell? ⟨b, 4, none⟩ = some (.int .i64 s.now) ∧ w.frozen? ⟨b, 4, none⟩ = false := by
  obtain ⟨_, _, _, _, _, _, _, h1, _⟩ := h
  exact ⟨(blk_cell h1 4).trans rfl, blk_frozen h1 4⟩
theorem IsCore.cells (h : IsCore w b P F s) : ∃ FC, IsCells w P.cb FC s.ws s.cnt ∧ (∀ k, FC k → F k) := by
  obtain ⟨_, _, _, _, _, _, FC, _, _, _, _, _, _, _, _, _, _, h11, h12, _⟩ := h
  exact ⟨FC, h11, h12⟩
end
set_option maxHeartbeats 8000000 in
set_option maxRecDepth 100000 in
theorem birthNew_ (m : Int) (w : World) (h1 : 1 ≤ m) (h2 : m ≤ 10000) :
    Calls Tryz.prog 34 #[.int .i64 m] w fun e w' => e = .returned (.tuple #[.pointer (some ⟨w.heap.size, 0, none⟩), .int .i64 0]) ∧ w' = w.alloc (.cells #[.int .i64 0, .int .i64 m] 103) := by
  have hu := Tryz.underlying103
  have a1 : decide (m < 1) = false := decide_eq_false (by omega)
  have a2 : decide (m > 10000) = false := decide_eq_false (by omega)
  clear h1 h2
  go_enter Tryz.func34, Tryz.ntmps34
  go_wp2
  go_ret2
  exact ⟨rfl, rfl⟩
set_option maxHeartbeats 8000000 in
set_option maxRecDepth 100000 in
theorem napNew_ (w : World) :
    Calls Tryz.prog 35 #[] w fun e w' => e = .returned (.pointer (some ⟨w.heap.size + 1, 0, none⟩)) ∧ w' = (w.alloc (.map #[] 0)).alloc (.cells #[.map (some w.heap.size)] 106) := by
  have hu := Tryz.underlying106
  have hmm := @run_makeMap Tryz.prog
  go_enter Tryz.func35, Tryz.ntmps35
  go_wp2
  go_ret
  exact ⟨rfl, rfl⟩
set_option maxHeartbeats 8000000 in
set_option maxRecDepth 100000 in
theorem storyNew_ (w : World) :
    Calls Tryz.prog 36 #[] w fun e w' => e = .returned (.pointer (some ⟨w.heap.size, 0, none⟩)) ∧ w' = w.alloc (.cells #[.slice none 0 0] 109) := by
  have hu := Tryz.underlying109
  go_enter Tryz.func36, Tryz.ntmps36
  go_wp2
  go_ret
  exact ⟨rfl, rfl⟩
set_option maxHeartbeats 8000000 in
set_option maxRecDepth 100000 in
theorem coreNow_ (w : World) (b : Nat) (P : Pl) (F : Nat → Prop) (s : CoreS) (h : IsCore w b P F s) :
    Calls Tryz.prog 23 #[.pointer (some ⟨b, 0, none⟩)] w fun e w' => e = .returned (.int .i64 s.now) ∧ w' = w := by
  have hu := Tryz.underlying36
  obtain ⟨c4, f4⟩ := h.at4
  clear h
  go_enter Tryz.func23, Tryz.ntmps23
  go_wp2
  go_ret
  exact ⟨rfl, rfl⟩
set_option maxHeartbeats 8000000 in
set_option maxRecDepth 100000 in
theorem partsCells_ (w : World) (c : Cf) (P : Pl) (hp : w.heap[P.p]? = some (.cells (partsC c P) 73 (0, 0))) :
    Calls Tryz.prog 26 #[.pointer (some ⟨P.p, 0, none⟩)] w fun e w' => e = .returned (.pointer (some ⟨P.cb, 0, none⟩)) ∧ w' = w := by
  have hu := Tryz.underlying73
  have c12 : w.cell? ⟨P.p, 12, none⟩ = some (.pointer (some ⟨P.cb, 0, none⟩)) := (blk_cell hp 12).trans rfl
  clear hp
  go_enter Tryz.func26, Tryz.ntmps26
  go_wp2
  go_ret
  exact ⟨rfl, rfl⟩
end Go.Proofs.YtaaekmcmpjljgaaGreat.Co
namespace Go.Proofs.YtaaekmcmpjljgaaGreat.Co
open Go.RowKit Go.Proofs.YtaaekmcmpjljgaaGreatW.PrintWords Go.Proofs.YtaaekmcmpjljgaaGreatW.PrintLast Go.Proofs.YtaaekmcmpjljgaaGreatW.PrintMore Go.Proofs.YtaaekmcmpjljgaaGreat.PMd Go.Proofs.YtaaekmcmpjljgaaGreat.Ln
open Go.Maps
set_option linter.unusedVariables false
set_option linter.unusedSimpArgs false
def TabL (w : World) (b : Nat) (F : Nat → Prop) : Prop :=
  ∃ sA sn sc most m, w.heap[b]? = some (.cells #[.slice sA sn sc, .int .i64 most, .map (some m)] 77 (0, 0)) ∧ w.heap[m]? = some (.map #[] 0) ∧ F b ∧ F m
theorem TabL.move {w w' : World} {b : Nat} {F : Nat → Prop} (h : TabL w b F) (hm : ∀ k, F k → k < w.heap.size → w'.heap[k]? = w.heap[k]?) : TabL w' b F := by
  obtain ⟨sA, sn, sc, most, m, h1, h2, h3, h4⟩ := h
  exact ⟨sA, sn, sc, most, m, (hm b h3 (Array.getElem?_eq_some_iff.1 h1).1).trans h1, (hm m h4 (Array.getElem?_eq_some_iff.1 h2).1).trans h2, h3, h4⟩
set_option maxRecDepth 1000000 in
set_option maxHeartbeats 8000000 in
theorem bitsLen64_0 (w : World) : Calls Tryz.prog 129 #[.int .u64 0] w fun e w' => ∃ v : Int, e = .returned (.int .i64 v) ∧ Below w.heap.size w w' := by
  go_enter Tryz.func129, Tryz.ntmps129
  go_wp2
  go_ret
  exact ⟨_, rfl, by repeat (first | exact Below.refl _ _ | apply below_drew | apply below_alloc)⟩
theorem bitsLen_0 (w : World) : Calls Tryz.prog 109 #[.int .u64 0] w fun e w' => ∃ v : Int, e = .returned (.int .i64 v) ∧ Below w.heap.size w w' := by
  go_enter Tryz.func109, Tryz.ntmps109
  go_wp2_with fail
  refine (bitsLen64_0 _).mono ?_
  rintro e w1 ⟨v, rfl, hb⟩
  have HB := Aside0.mk hb
  clear hb
  go_wp2
  go_ret
  exact ⟨v, rfl, HB.out⟩
set_option maxHeartbeats 8000000 in
theorem insertion_0 (w : World) : Calls Tryz.prog 119 #[.slice none 0 0, .int .i64 0, .int .i64 0] w fun e w' => e = .returned (.tuple #[]) ∧ w' = w := by
  go_enter Tryz.func119, Tryz.ntmps119
  go_wp2_with fail
  go_loop [6] (fun v => v = .int .i64 1) (fun _ => 0)
  case atStart => rfl
  case round =>
    obtain rfl := hrel
    go_wp2
    go_end0
    exact ⟨rfl, rfl⟩
set_option maxHeartbeats 8000000 in
theorem pdq_0 (v : Int) (w : World) : Calls Tryz.prog 108 #[.slice none 0 0, .int .i64 0, .int .i64 0, .int .i64 v] w fun e w' => e = .returned (.tuple #[]) ∧ w' = w := by
  have HI := Aside0.mk insertion_0
  go_enter Tryz.func108, Tryz.ntmps108
  go_wp2_with fail
  refine wp_loop_rounds 1 ?_
  rw [rounds_succ]
  go_wp2_with fail
  refine (HI.out _).mono ?_
  rintro e w1 ⟨rfl, rfl⟩
  go_wp2
  exact bodyPost_ret (results_none rfl _ _ _) rfl ⟨rfl, rfl⟩
set_option maxHeartbeats 8000000 in
theorem sortNil_ (w : World) : Calls Tryz.prog 77 #[.slice none 0 0] w fun e w' => e = .returned (.tuple #[]) ∧ Below w.heap.size w w' := by
  go_enter Tryz.func77, Tryz.ntmps77
  go_wp2_with fail
  refine (bitsLen_0 _).mono ?_
  rintro e w1 ⟨v, rfl, hb⟩
  have HB := Aside0.mk hb
  clear hb
  go_wp2_with fail
  refine (pdq_0 v w1).mono ?_
  rintro e w2 ⟨rfl, rfl⟩
  go_wp2
  go_end0
  exact ⟨rfl, HB.out⟩
set_option maxHeartbeats 8000000 in
theorem indexEdgeNil_ (g : Value) (w : World) : Calls Tryz.prog 76 #[.slice none 0 0, g] w fun e w' => e = .returned (.int .i64 (-1)) ∧ w' = w := by
  go_enter Tryz.func76, Tryz.ntmps76
  go_wp2_with fail
  go_loop [8] (fun v => v = .int .i64 0) (fun _ => 0)
  case atStart => rfl
  case round =>
    obtain rfl := hrel
    go_wp2
    go_ret
    exact ⟨rfl, rfl⟩
set_option maxHeartbeats 8000000 in
theorem deleteEdgeNil_ (g : Value) (w : World) : Calls Tryz.prog 46 #[.slice none 0 0, g] w fun e w' => e = .returned (.slice none 0 0) ∧ w' = w := by
  go_enter Tryz.func46, Tryz.ntmps46
  go_wp2_with fail
  refine (indexEdgeNil_ g w).mono ?_
  rintro e w1 ⟨rfl, rfl⟩
  go_wp2
  go_ret
  exact ⟨rfl, rfl⟩
theorem keyed0 : Keyed Tryz.prog 3 := int_keyed Tryz.underlying3
theorem ranges_cnt0 {w : World} {P : Program} {K : TypeId} {R : Value → Option (DataW Unit × List MemPlace)} {b r n : Nat} {D : DataW Unit} {left : Lit → Bool} {cnt : Nat} (h : w.ranges P K R b r n D left cnt) : cnt ≤ n := by
  obtain ⟨es, clock, since, seen, c0, h1, h2, h3, h4, h5, h6, h7, _⟩ := h
  rw [← h7]
  exact Nat.le_trans (Array.size_filter_le ..) h3
set_option maxHeartbeats 8000000 in
set_option maxRecDepth 100000 in
theorem edgesNil_ {w : World} {b : Nat} {F : Nat → Prop} (h : TabL w b F) :
    Calls Tryz.prog 47 #[.pointer (some ⟨b, 0, none⟩)] w fun e w' => e = .returned (.slice none 0 0) ∧ Below w.heap.size w w' := by
  have hu := Tryz.underlying77
  obtain ⟨sA, sn, sc, most, m, h1, h2, h3, h4⟩ := h
  have c2 : w.cell? ⟨b, 2, none⟩ = some (.map (some m)) := (blk_cell h1 2).trans rfl
  obtain ⟨D, hown⟩ : ∃ D : DataW Unit, w.ownsMap Tryz.prog 3 (plainElem Tryz.prog 3) m 0 D := by
    obtain ⟨es, clock, hb, hx⟩ := World.ownsMap_made w Tryz.prog 3 (plainElem Tryz.prog 3)
    exact ⟨_, es, clock, by rw [show (w.alloc (.map #[] 0)).heap[w.heap.size]? = some (.map #[] 0) from heap_alloc_new w _] at hb; rw [h2]; exact hb, hx⟩
  have HO := Aside0.mk hown
  clear h1 h2 h3 h4 hown
  go_enter Tryz.func47, Tryz.ntmps47
  go_wp2_with (first | (at_range; refine wpList_range_own _ rfl _ 75 rfl 3 3 keyed0 Tryz.underlying75 _ m 0 D rfl HO.out ?_; intro w0 hrg0 hg0 hs0) | fail)
  go_frame
  have HR0 := Aside0.mk hrg0
  have HB0 := Aside0.mk (show Below w.heap.size w w0 from ⟨hg0.os, hg0.tape, hg0.output, hg0.size, fun k hk => hg0.block k hk (by simp)⟩)
  clear hrg0 hg0 hs0 c2
  go_loopw [3, 4] (fun v3 _ wr => ∃ (left : Lit → Bool) (cnt : Nat), Aside0 (wr.ranges Tryz.prog 3 (plainElem Tryz.prog 3) m w.heap.size 0 D left cnt) ∧ v3 = .slice none 0 0 ∧ Aside0 (Below w.heap.size w wr)) (fun _ _ wr => wr.rangeLeft m w.heap.size)
  case atStart => exact ⟨_, _, HR0, rfl, HB0⟩
  case round =>
    obtain ⟨left, cnt, HRg, rfl, HB1⟩ := hrel
    have hcz := ranges_cnt0 HRg.out
    go_wp2_with (first | (at_next; refine wpList_next_ranges_ii _ rfl _ rfl 3 3 .i64 .i64 keyed0 Tryz.underlying3 Tryz.underlying3 m w.heap.size 0 _ _ _ rfl HRg.out ?_ ?_) | fail)
    · intro hc0 hl0
      clear hc0 hl0 hcz
      go_wp2_with fail
      refine (sortNil_ _).mono ?_
      rintro e w5 ⟨rfl, hb⟩
      have HB5 := Aside0.mk (below_then HB1.out HB1.out.size hb)
      clear hb
      go_wp2_with fail
      go_loopg [5, 27] 1 (fun gg v5 v27 wr => v5 = .slice none 0 0 ∧ v27 = .int .i64 0 ∧ Aside0 (Below w.heap.size w wr))
      case atStart => exact ⟨rfl, rfl, HB5⟩
      case round =>
        obtain ⟨rfl, rfl, HB6⟩ := hrel
        go_wp2
        go_ret
        exact ⟨rfl, HB6.out⟩
    · intro x c w1 cnt1 hwx hwc hlx hat hrg1 hlt hg1 hs1 hen
      exfalso
      omega
end Go.Proofs.YtaaekmcmpjljgaaGreat.Co
namespace Go.Proofs.YtaaekmcmpjljgaaGreat.Co
open Go.RowKit Go.Proofs.YtaaekmcmpjljgaaGreatW.PrintWords Go.Proofs.YtaaekmcmpjljgaaGreatW.PrintLast Go.Proofs.YtaaekmcmpjljgaaGreatW.PrintMore Go.Proofs.YtaaekmcmpjljgaaGreat.PMd Go.Proofs.YtaaekmcmpjljgaaGreat.Ln
open Go.Maps
set_option linter.unusedVariables false
set_option linter.unusedSimpArgs false
theorem step_append_row {P : Program} {ops : Array Oper} {o : Oper} {a : Act} {w : World} {K : Act → World → Prop} {Q : Exit → Act → World → Prop} {E : Prop} (hgd : o.guard = none) (s x : Operand) (t : TypeId)
    (ho : o.op = .call { callee := .builtin .append, args := #[s, x], argTypes := #[t, t] })
    (e : TypeId) (z : Value) (size bytes : Nat) (ht : P.underlying t = some (.slice e)) (hinfo : (P.info? e).map (fun i => (i.zero, i.size, i.bytes)) = some (some z, size, bytes))
    (hzs : z.cells.size = size) (A : Option Addr) (n cap : Nat) (xs : List Value) (hs : a.eval s = .slice A n cap) (hR : Row w e size A n cap xs)
    (ad : Addr) (m c : Nat) (news : List Value) (hx : a.eval x = .slice (some ad) m c) (hl : news.length = m * size) (hnews : ∀ j u, news[j]? = some u → w.cell? (ad.add j) = some u) (h1 : ∀ u ∈ news, u.oneCell' = true)
    (h63 : n + m ≤ maxLen) (hbytes : (n + m) * bytes ≤ 140737488355328)
    (h : ∀ A' cap' w', Row w' e size A' (n + m) cap' (xs ++ news) → Grew (blk A) w w' → (∀ k, blk A' k → blk A k ∨ w.heap.size ≤ k) → K (a.put o.dst (.slice A' (n + m) cap')) w') :
    if Region.wanted o (yielded ops a.tmps) = true then Oper.wp P o a w K Q else E := by
  have hw : Region.wanted o (yielded ops a.tmps) = true := by simp [Region.wanted, hgd]
  rw [if_pos hw]
  cases hi : P.info? e with
  | none => rw [hi] at hinfo; cases hinfo
  | some i =>
    rw [hi] at hinfo
    obtain ⟨hz, hs1, hb1⟩ : i.zero = some z ∧ i.size = size ∧ i.bytes = bytes := by simpa using hinfo
    obtain ⟨A', cap', w', hr, h2, h3, h4⟩ := run_append_row (P := P) w t o.type e i z size bytes ht hi hz hs1 hb1 hzs A n cap xs hR ad m c news hl hnews h1 h63 hbytes
    unfold Oper.wp execOp
    simp only [ho, resolve, invoke, builtin, Sem.run_bind, Sem.run_pure, Result.andThen_ok, List.map_toArray, List.map_cons, List.map_nil, hs, hx, hr]
    exact h _ _ _ h2 h3 h4
theorem infoS0 : (Tryz.prog.info? 81).map (fun i => (i.zero, i.size, i.bytes)) = some (some (.agg #[.pointer none]), 1, 8) := by kernel_rfl
theorem one_at0 {w : World} {g : Nat} {v : Value} {t : TypeId} (hv : w.heap[g]? = some (.cells #[v] t (0, 0))) : ∀ j x, [v][j]? = some x → w.cell? ((⟨g, 0, none⟩ : Addr).add j) = some x := by
  intro j x hj
  rcases j with _ | j
  · obtain rfl : v = x := by simpa using hj
    exact (blk_cell hv 0).trans rfl
  · simp at hj
def TabG (w0 w : World) (i : Nat) (most : Int) : Prop :=
  ∃ sA sc xs, w.heap[w0.heap.size + 1]? = some (.cells #[.slice sA i sc, .int .i64 most, .map (some w0.heap.size)] 77 (0, 0)) ∧ w.heap[w0.heap.size]? = some (.map #[] 0) ∧ Row w 81 1 sA i sc xs ∧ (∀ k, blk sA k → w0.heap.size + 1 < k) ∧ Below w0.heap.size w0 w
set_option maxHeartbeats 8000000 in
set_option maxRecDepth 100000 in
theorem newTL_ (n : Nat) (most : Int) (w : World) (h1 : 1 ≤ n) (h2 : n ≤ 10000) (h3 : 1 ≤ most) (h4 : most ≤ 4096) :
    Calls Tryz.prog 32 #[.int .i64 (n : Int), .int .i64 most] w fun e w' => e = .returned (.tuple #[.pointer (some ⟨w.heap.size + 1, 0, none⟩), .int .i64 0]) ∧
      TabL w' (w.heap.size + 1) (fun k => w.heap.size ≤ k ∧ k < w.heap.size + 2) ∧ Below w.heap.size w w' := by
  have hu := Tryz.underlying77
  have hu2 := Tryz.underlying81
  have a1 : decide ((n : Int) < 1) = false := decide_eq_false (by omega)
  have a2 : decide ((n : Int) > 10000) = false := decide_eq_false (by omega)
  have a3 : decide (most < 1) = false := decide_eq_false (by omega)
  have a4 : decide (most > 4096) = false := decide_eq_false (by omega)
  have hmm := @run_makeMap Tryz.prog
  have HN := Aside0.mk h2
  have e1 : (w.alloc (.map #[] 0)).heap.size = w.heap.size + 1 := by simp
  have HZ := Aside0.mk (show TabG w ((w.alloc (.map #[] 0)).alloc (.cells #[.slice none 0 0, .int .i64 most, .map (some w.heap.size)] 77)) 0 most from by
    have hb := blk_new (w.alloc (.map #[] 0)) (.cells #[.slice none 0 0, .int .i64 most, .map (some w.heap.size)] 77)
    rw [e1] at hb
    exact ⟨none, 0, [], hb, blk_alloc (heap_alloc_new w _) _, Row.zero _ _ _, (fun k ⟨a, h, _⟩ => by cases h), below_alloc (below_alloc (Below.refl _ _) _) _⟩)
  clear h1 h2 h3 h4
  go_enter Tryz.func32, Tryz.ntmps32
  go_wp2_with fail
  go_loopg [26] n (fun gg v26 wr => ∃ i : Nat, i ≤ n ∧ n - i ≤ gg ∧ v26 = .int .i64 i ∧ Aside0 (TabG w wr i most))
  case atStart => exact ⟨0, by omega, by omega, rfl, HZ⟩
  case round =>
    obtain ⟨i, hi, hgg, rfl, HT⟩ := hrel
    obtain ⟨sA, sc, xs, hb, hm, hR, hk, hB⟩ := HT.out
    by_cases hlt : i < n
    · have t1 : (i : Int) < n := by omega
      have c0 : wr.cell? ⟨w.heap.size + 1, 0, none⟩ = some (.slice sA i sc) := (blk_cell hb 0).trans rfl
      have fz : wr.frozen? ⟨w.heap.size + 1, 0, none⟩ = false := blk_frozen hb 0
      have hbl := (Array.getElem?_eq_some_iff.1 hb).1
      have hnb : ¬ blk sA (w.heap.size + 1) := fun h => by have := hk _ h; omega
      have hnm : ¬ blk sA w.heap.size := fun h => by have := hk _ h; omega
      have HR := Aside0.mk hR
      have HK := Aside0.mk hk
      have HM := Aside0.mk hm
      have HB := Aside0.mk hB
      have HBK := Aside0.mk hb
      have HS := Aside0.mk (And.intro hnb (And.intro hbl (And.intro hnm fz)))
      have C0 := Aside0.mk c0
      have W3 := Aside0.mk (show wrap64 ((i : Int) + 1) = ((i + 1 : Nat) : Int) by have := HN.out; unfold wrap64; omega)
      clear hR hb hm hnb hnm hbl hk hB fz HT a1 a2 a3 a4 hmm e1 HZ
      go_wp2_with fail
      go_region_law (first
        | (refine step_append_row rfl (.tmp 32) (.tmp 35) 74 rfl 81 (.agg #[.pointer none]) 1 8 Tryz.underlying74 infoS0 rfl sA i sc xs (by simp [Act.eval, Act.put]) HR5.out ⟨w5.heap.size, 0, none⟩ 1 1 [.pointer (some ⟨gL, 0, none⟩)] (by simp [Act.eval, Act.put]) rfl (one_at0 BS5.out) (by simp [Value.oneCell']) (by have := HN.out; unfold maxLen; omega) (by have := HN.out; omega) ?_
           intro A2 c2 w6 hR6 hG6 hk6
           have hbk := (hG6.block (w.heap.size + 1) (by have := HL5.out; simp; omega) HS.out.1).trans HK5.out
           have c7 := (World.cell?_of_block (a := ⟨w.heap.size + 1, 0, none⟩) hbk).trans C0.out
           have f7 := (World.frozen?_of_block (a := ⟨w.heap.size + 1, 0, none⟩) hbk).trans HS.out.2.2.2
           have HBK6 := Aside0.mk (hbk.trans HBK.out)
           have HR6 := Aside0.mk hR6
           have HG6 := Aside0.mk hG6
           have HK6 := Aside0.mk hk6
           clear hR6 hG6 hk6 hbk)
        | (go_simp
           go_at_call 56
           refine (lane_New.calls [] [] wr.drew _ (Below.refl _ _) rfl).mono ?_
           rintro e w5 ⟨gL, rfl, hI5, _, hb5⟩
           have c5 := cell_be0 (w := wr.drew) c0 hb5
           have c6 := cell_al0 c5 (.cells #[.pointer (some ⟨gL, 0, none⟩)] 81)
           have HR5 := Aside0.mk (((show Row wr.drew 81 1 sA i sc xs from HR.out).below hb5).alloc (.cells #[.pointer (some ⟨gL, 0, none⟩)] 81))
           have BS5 := Aside0.mk (blk_new w5 (.cells #[.pointer (some ⟨gL, 0, none⟩)] 81))
           have HL5 := Aside0.mk (show w.heap.size + 1 < w5.heap.size from Nat.lt_of_lt_of_le HS.out.2.1 hb5.size)
           have HK5 := Aside0.mk ((Below.heap_alloc w5 (.cells #[.pointer (some ⟨gL, 0, none⟩)] 81) (w.heap.size + 1) HL5.out).trans (hb5.block (w.heap.size + 1) HS.out.2.1))
           have HB5 := Aside0.mk (show Below wr.heap.size wr w5 from ⟨hb5.os, hb5.tape, hb5.output, hb5.size, hb5.block⟩)
           clear hI5 hb5))
      all_goals (go_wp2; go_roundg (n - (i + 1)))
      all_goals first
        | omega
        | (refine ⟨i + 1, by omega, by omega, by rw [W3.out], ⟨A2, c2, xs ++ [.pointer (some ⟨gL, 0, none⟩)], ?_, ?_, ?_, ?_, ?_⟩⟩
           · exact heap_setCell_same w6 (w.heap.size + 1) 0 _ _ (.slice A2 (i + 1) c2) HBK6.out
           · rw [Below.heap_setCell _ _ _ _ (by simp)]
             exact (HG6.out.block _ (by have := HL5.out; simp; omega) HS.out.2.2.1).trans ((Below.heap_alloc _ _ _ (by have := HL5.out; omega)).trans ((HB5.out.block _ (by have := HS.out.2.1; omega)).trans HM.out))
           · refine HR6.out.set (p := ⟨w.heap.size + 1, 0, none⟩) (fun hk => ?_) _
             rcases HK6.out _ hk with h | h
             · exact HS.out.1 h
             · have := HL5.out; have h2 : w5.heap.size + 1 ≤ w.heap.size + 1 := by simpa using h
               omega
           · intro k hk
             rcases HK6.out k hk with h | h
             · exact HK.out k h
             · have := HL5.out; have h2 : w5.heap.size + 1 ≤ k := by simpa using h
               omega
           · exact (HG6.out.to_below (below_alloc (below_then HB.out HB.out.size HB5.out) _) (by have := HL5.out; simp; omega) (fun k hk => by have := HK.out k hk; omega)).setCell (p := ⟨w.heap.size + 1, 0, none⟩) (Nat.le_succ _) (.slice A2 (i + 1) c2))
    · have ei : i = n := by omega
      subst ei
      have t1 : ¬ (i : Int) < i := by omega
      have HM := Aside0.mk hm
      have HB := Aside0.mk hB
      have HBK := Aside0.mk hb
      clear a1 a2 a3 a4 hmm hb hm hR hk hB
      go_wp2
      go_ret2
      exact ⟨rfl, ⟨sA, i, sc, most, w.heap.size, HBK.out, HM.out, ⟨by omega, by omega⟩, ⟨Nat.le_refl _, by omega⟩⟩, HB.out⟩
set_option maxHeartbeats 8000000 in
set_option maxRecDepth 100000 in
theorem coreEdgesNil_ (w : World) (b : Nat) (P : Pl) (F FT : Nat → Prop) (s : CoreS) (h : IsCore w b P F s) (hT : TabL w P.tb FT) :
    Calls Tryz.prog 16 #[.pointer (some ⟨b, 0, none⟩)] w fun e w' => e = .returned (.slice none 0 0) ∧ Below w.heap.size w w' := by
  have hu := Tryz.underlying36
  have hu2 := Tryz.underlying73
  have c0 := cell_al0 h.at0 (.cells #[.pointer (some ⟨b, 0, none⟩)] 25)
  have c1 := cell_al0 (show w.cell? ⟨P.p, 13, none⟩ = some (.pointer (some ⟨P.tb, 0, none⟩)) from (blk_cell h.parts 13).trans rfl) (.cells #[.pointer (some ⟨b, 0, none⟩)] 25)
  have HT := Aside0.mk (edgesNil_ (hT.move (w' := w.alloc (.cells #[.pointer (some ⟨b, 0, none⟩)] 25)) (fun k _ hk => Below.heap_alloc _ _ _ hk)))
  clear h hT
  go_enter Tryz.func16, Tryz.ntmps16
  go_wp2_with fail
  refine HT.out.mono ?_
  rintro e w1 ⟨rfl, hb⟩
  have HB := Aside0.mk (below_then (below_alloc (Below.refl _ _) _) (below_alloc (Below.refl _ _) _).size hb)
  clear hb
  go_wp2_with fail
  refine (deleteEdgeNil_ _ _).mono ?_
  rintro e w2 ⟨rfl, rfl⟩
  go_wp2
  go_ret
  exact ⟨rfl, HB.out⟩
end Go.Proofs.YtaaekmcmpjljgaaGreat.Co
namespace Go.Proofs.YtaaekmcmpjljgaaGreat.Co
open Go.RowKit Go.Proofs.YtaaekmcmpjljgaaGreatW.PrintWords Go.Proofs.YtaaekmcmpjljgaaGreatW.PrintLast Go.Proofs.YtaaekmcmpjljgaaGreatW.PrintMore Go.Proofs.YtaaekmcmpjljgaaGreat.PMd Go.Proofs.YtaaekmcmpjljgaaGreat.Ln
set_option linter.unusedVariables false
set_option linter.unusedSimpArgs false
theorem parts_at {w : World} {c : Cf} {P : Pl} (hp : w.heap[P.p]? = some (.cells (partsC c P) 73 (0, 0))) :
    w.cell? ⟨P.p, 0, none⟩ = some (.int .i64 c.f0) ∧ w.cell? ⟨P.p, 1, none⟩ = some (.int .i64 c.f1) ∧ w.cell? ⟨P.p, 2, none⟩ = some (.int .i64 c.f2) ∧ w.cell? ⟨P.p, 3, none⟩ = some (.int .i64 c.f3) ∧ w.cell? ⟨P.p, 4, none⟩ = some (.int .i64 c.f4) ∧ w.cell? ⟨P.p, 5, none⟩ = some (.int .i64 c.f5) ∧
    w.cell? ⟨P.p, 6, none⟩ = some (.int .i64 c.f6) ∧ w.cell? ⟨P.p, 7, none⟩ = some (.int .i64 c.f7) ∧ w.cell? ⟨P.p, 8, none⟩ = some (.int .i64 c.f8) ∧ w.cell? ⟨P.p, 9, none⟩ = some (.int .i64 c.f9) ∧ w.cell? ⟨P.p, 10, none⟩ = some (.int .i64 c.f10) ∧ w.cell? ⟨P.p, 11, none⟩ = some (.int .i64 c.f11) ∧ w.cell? ⟨P.p, 12, none⟩ = some (.pointer (some ⟨P.cb, 0, none⟩)) :=
  ⟨(blk_cell hp 0).trans rfl, (blk_cell hp 1).trans rfl, (blk_cell hp 2).trans rfl, (blk_cell hp 3).trans rfl, (blk_cell hp 4).trans rfl, (blk_cell hp 5).trans rfl, (blk_cell hp 6).trans rfl, (blk_cell hp 7).trans rfl, (blk_cell hp 8).trans rfl, (blk_cell hp 9).trans rfl, (blk_cell hp 10).trans rfl, (blk_cell hp 11).trans rfl, (blk_cell hp 12).trans rfl⟩
def OutI (w : World) (l : List Int) (v : Value) (wr : World) : Prop :=
  ∃ A' c', v = .slice A' l.length c' ∧ Row wr 3 1 A' l.length c' (vi l) ∧ (∀ k, blk A' k → w.heap.size ≤ k) ∧ Below w.heap.size w wr
set_option maxHeartbeats 8000000 in
set_option maxRecDepth 100000 in
theorem partsHeap_ (w : World) (c : Cf) (P : Pl) (F : Nat → Prop) (ws : List Int) (cnt : Int) (n : Nat) (hp : w.heap[P.p]? = some (.cells (partsC c P) 73 (0, 0))) (hI : IsCells w P.cb F ws cnt)
    (hn : shape_Words.f c.f0 c.f1 c.f2 c.f3 c.f4 c.f5 c.f6 c.f7 c.f8 c.f9 c.f10 c.f11 = some (n : Int)) (hl : n ≤ ws.length) (hn2 : n ≤ 65536) :
    Calls Tryz.prog 25 #[.pointer (some ⟨P.p, 0, none⟩)] w fun e w' => ∃ v, e = .returned v ∧ OutI w (ws.take n) v w' := by
  have hu := Tryz.underlying73
  have hu2 := Tryz.underlying24
  have HW := Aside0.mk (fun W => shape_Words.calls c.f0 c.f1 c.f2 c.f3 c.f4 c.f5 c.f6 c.f7 c.f8 c.f9 c.f10 c.f11 (n : Int) W hn)
  have HI := Aside0.mk (hI.mono (F' := fun k => k < w.heap.size) (fun k hk _ => hk))
  have HP := Aside0.mk hp
  have HL := Aside0.mk hl
  have HN := Aside0.mk hn2
  obtain ⟨x0, x1, x2, x3, x4, x5, x6, x7, x8, x9, x10, x11, _⟩ := parts_at hp
  clear hp hI hn hl hn2
  go_enter Tryz.func25, Tryz.ntmps25
  go_wp2_with fail
  refine (HW.out _).mono ?_
  rintro e w1 ⟨rfl, hb⟩
  have HB := Aside0.mk hb
  clear hb x0 x1 x2 x3 x4 x5 x6 x7 x8 x9 x10 x11
  go_wp2_with fail
  go_loopg [3, 10] n (fun gg v3 v10 wr => ∃ i : Nat, i ≤ n ∧ n - i ≤ gg ∧ v10 = .int .i64 i ∧ Aside0 (OutI w (ws.take i) v3 wr))
  case atStart => exact ⟨0, by omega, by omega, rfl, ⟨none, 0, rfl, Row.zero _ _ _, (fun k ⟨a, h, _⟩ => by cases h), HB.out⟩⟩
  case round =>
    obtain ⟨i, hi, hgg, rfl, HO⟩ := hrel
    obtain ⟨A', c', rfl, hR1, hk1, hb1⟩ := HO.out
    have e1 : (ws.take i).length = i := by have := HL.out; rw [List.length_take]; omega
    rw [e1] at hR1 ⊢
    by_cases hlt : i < n
    · have t1 : (i : Int) < n := by omega
      have c12 := (parts_at ((hb1.block P.p (Array.getElem?_eq_some_iff.1 HP.out).1).trans HP.out)).2.2.2.2.2.2.2.2.2.2.2.2
      have HPk := Aside0.mk (cellPeek_ wr P.cb _ ws cnt i (HI.out.below hb1) (by have := HL.out; omega))
      have HR1 := Aside0.mk (hR1.alloc (.cells #[.int .i64 (ws.getD i 0)] 3))
      have HB1 := Aside0.mk hb1
      have HK1 := Aside0.mk hk1
      have BS := Aside0.mk (blk_new wr (.cells #[.int .i64 (ws.getD i 0)] 3))
      have W3 := Aside0.mk (show wrap64 ((i : Int) + 1) = ((i + 1 : Nat) : Int) by have := HN.out; unfold wrap64; omega)
      have HE := Aside0.mk (show ws.take (i + 1) = ws.take i ++ [ws.getD i 0] by
        have hil : i < ws.length := by have := HL.out; omega
        rw [List.take_succ_eq_append_getElem hil, List.getD_eq_getElem?_getD, List.getElem?_eq_getElem hil]; rfl)
      have HE1 := Aside0.mk e1
      have HLT := Aside0.mk (And.intro hlt hgg)
      clear hR1 hk1 hb1 HO e1 hi hgg hlt
      go_wp2_with fail
      refine HPk.out.mono ?_
      rintro e w3 ⟨rfl, rfl⟩
      go_wp2_with (at_builtin; refine wpList_append_info rfl _ _ 29 rfl 3 _ 1 8 Tryz.underlying29 info3 rfl A' i c' (vi (ws.take i)) (by simp [Act.eval, Act.put]) HR1.out ⟨w3.heap.size, 0, none⟩ 1 1 [.int .i64 (ws.getD i 0)] (by simp [Act.eval, Act.put]) rfl (one_at0 BS.out) (by simp [Value.oneCell']) (by have := HLT.out; have := HN.out; unfold maxLen; omega) (by have := HLT.out; have := HN.out; omega) ?_)
      intro A2 c2 w6 hR6 hG6 hk6
      have HR6 := Aside0.mk hR6
      have HB6 := Aside0.mk (hG6.to_below (below_alloc HB1.out _) (below_alloc HB1.out _).size (fun k hk => HK1.out k hk))
      have HK6 := Aside0.mk (show ∀ k, blk A2 k → w.heap.size ≤ k from fun k hk => (hk6 k hk).elim (HK1.out k) (fun h => by have := HB1.out.size; have h2 : w3.heap.size + 1 ≤ k := (by simpa using h); omega))
      clear hR6 hG6 hk6
      go_wp2
      go_roundg (n - (i + 1))
      case measure => have := HLT.out; omega
      case rel =>
        refine ⟨i + 1, by have := HLT.out; omega, by have := HLT.out; omega, by rw [W3.out], ⟨A2, c2, ?_, ?_, HK6.out, HB6.out⟩⟩
        · rw [HE.out, List.length_append, HE1.out]; rfl
        · rw [HE.out, List.length_append, HE1.out]
          simpa [vi] using HR6.out
    · obtain rfl : i = n := by omega
      have t1 : ¬ (i : Int) < i := by omega
      have HO2 := HO
      have HE1 := Aside0.mk e1
      clear hR1 hk1 hb1 HO hi hgg hlt e1
      go_wp2
      go_ret
      refine ⟨_, ?_, HO2.out⟩
      rw [HE1.out]
      rfl
end Go.Proofs.YtaaekmcmpjljgaaGreat.Co
namespace Go.Proofs.YtaaekmcmpjljgaaGreat.Co
open Go.RowKit Go.Proofs.YtaaekmcmpjljgaaGreatW.PrintWords Go.Proofs.YtaaekmcmpjljgaaGreatW.PrintLast Go.Proofs.YtaaekmcmpjljgaaGreatW.PrintMore Go.Proofs.YtaaekmcmpjljgaaGreat.PMd Go.Proofs.YtaaekmcmpjljgaaGreat.Ln
set_option linter.unusedVariables false
set_option linter.unusedSimpArgs false
theorem made_rep (v : Value) (n : Nat) : (madeCells #[v] n) = (List.replicate n v).toArray := by
  apply Array.ext
  · simp [madeCells]
  · intro i h1 h2
    simp [madeCells, Nat.mod_one]
theorem alloc4 (W : World) (a b c d : Obj) : ((((W.alloc a).alloc b).alloc c).alloc d).heap[W.heap.size]? = some a ∧ ((((W.alloc a).alloc b).alloc c).alloc d).heap[W.heap.size + 1]? = some b ∧ ((((W.alloc a).alloc b).alloc c).alloc d).heap[W.heap.size + 1 + 1]? = some c ∧
    ((((W.alloc a).alloc b).alloc c).alloc d).heap[W.heap.size + 1 + 1 + 1]? = some d ∧ Below W.heap.size W ((((W.alloc a).alloc b).alloc c).alloc d) := by
  have e1 : (W.alloc a).heap.size = W.heap.size + 1 := by simp
  have e2 : ((W.alloc a).alloc b).heap.size = W.heap.size + 1 + 1 := by simp
  have e3 : (((W.alloc a).alloc b).alloc c).heap.size = W.heap.size + 1 + 1 + 1 := by simp
  refine ⟨?_, ?_, ?_, ?_, below_alloc (below_alloc (below_alloc (below_alloc (Below.refl _ _) _) _) _) _⟩
  · rw [Below.heap_alloc _ _ _ (by omega), Below.heap_alloc _ _ _ (by omega), Below.heap_alloc _ _ _ (by omega)]
    exact heap_alloc_new W a
  · rw [Below.heap_alloc _ _ _ (by omega), Below.heap_alloc _ _ _ (by omega), ← e1]
    exact heap_alloc_new _ b
  · rw [Below.heap_alloc _ _ _ (by omega), ← e2]
    exact heap_alloc_new _ c
  · rw [← e3]
    exact heap_alloc_new _ d
theorem row_full {w : World} {k e : Nat} {xs : List Value} (h : w.heap[k]? = some (.cells xs.toArray e (0, 0))) (hl : xs.length ≤ maxLen) : Row w e 1 (some ⟨k, 0, none⟩) xs.length xs.length xs :=
  ⟨by simp, Nat.le_refl _, hl, .inr ⟨k, 0, _, rfl, h, by simp, by simp⟩⟩
def NewsT (TP : World → Nat → (Nat → Prop) → Prop) (nodes locks : Int) : Prop := ∀ W : World, Calls Tryz.prog 32 #[.int .i64 nodes, .int .i64 locks] W fun e W' =>
  ∃ tb FT, e = .returned (.tuple #[.pointer (some ⟨tb, 0, none⟩), .int .i64 0]) ∧ TP W' tb FT ∧ (∀ k, FT k → W.heap.size ≤ k ∧ k < W'.heap.size) ∧ Below W.heap.size W W'
def MovesT (TP : World → Nat → (Nat → Prop) → Prop) : Prop := ∀ W W' tb FT, TP W tb FT → (∀ k, FT k → k < W.heap.size → W'.heap[k]? = W.heap[k]?) → TP W' tb FT
def Made (TP : World → Nat → (Nat → Prop) → Prop) (w : World) (c : Cf) (heap : List Int) (sz n : Nat) (e : Ending) (w' : World) : Prop :=
  ∃ b P F FT, e = .returned (.tuple #[.pointer (some ⟨b, 0, none⟩), .int .i64 0]) ∧ IsCore w' b P F ⟨c, heap ++ List.replicate (sz - heap.length) 0, 0, List.replicate n 0, List.replicate n false, List.replicate n 0, 0⟩ ∧
    TP w' P.tb FT ∧ (∀ k, F k → w.heap.size ≤ k ∧ ¬ FT k) ∧ (∀ k, FT k → w.heap.size ≤ k) ∧ Below w.heap.size w w'
theorem made_end {TP : World → Nat → (Nat → Prop) → Prop} {w W W' : World} {c : Cf} {heap : List Int} {sz n cb tb db nb sb p kT kA kD kC wT0 wT1 : Nat} {FT FC : Nat → Prop} (hTP : MovesT TP) (hn : n ≤ 64)
    (hW : W.heap.size ≤ kC) (hT : W'.heap[kT]? = some (.cells (madeCells #[.int .i64 0] n) 3)) (hA : W'.heap[kA]? = some (.cells (madeCells #[.bool false] n) 4)) (hD : W'.heap[kD]? = some (.cells (madeCells #[.int .i64 0] n) 26))
    (hC : W'.heap[kC]? = some (.cells #[.pointer (some ⟨p, 0, none⟩), .slice (some ⟨kT, 0, none⟩) n n, .slice (some ⟨kA, 0, none⟩) n n, .slice (some ⟨kD, 0, none⟩) n n, .int .i64 0] 36))
    (hkT : W.heap.size ≤ kT) (hkA : W.heap.size ≤ kA) (hkD : W.heap.size ≤ kD) (hb : Below W.heap.size W W')
    (hp : W.heap[p]? = some (.cells (partsC c ⟨p, cb, tb, db, nb, sb⟩) 73)) (hcells : IsCells W cb FC (heap ++ List.replicate (sz - heap.length) 0) 0)
    (hFC : ∀ k, FC k → w.heap.size ≤ k ∧ k < wT0) (hFT : ∀ k, FT k → wT0 ≤ k ∧ k < wT1) (hpT : wT1 ≤ p) (h01 : wT0 ≤ wT1) (h1W : wT1 ≤ W.heap.size) (hw0 : w.heap.size ≤ wT0) (hTab : TP W tb FT) (hB : Below w.heap.size w W) :
    Made TP w c heap sz n (.returned (.tuple #[.pointer (some ⟨kC, 0, none⟩), .int .i64 0])) W' := by
  have hpl := (Array.getElem?_eq_some_iff.1 hp).1
  rw [made_rep] at hT hA hD
  refine ⟨kC, ⟨p, cb, tb, db, nb, sb⟩, fun k => FC k ∨ k = p ∨ W.heap.size ≤ k, FT, rfl, ⟨some ⟨kT, 0, none⟩, n, some ⟨kA, 0, none⟩, n, some ⟨kD, 0, none⟩, n, FC, ?_, (hb.block p hpl).trans hp, .inr (.inr hW), .inr (.inl rfl), ?_, ?_, ?_, ?_, ?_, ?_, hcells.below hb, fun k hk => .inl hk, fun k hk => ?_⟩, ?_, ?_, ?_, below_then hB hB.size hb⟩
  · simpa using hC
  · have := row_full (w := W') (k := kT) (e := 3) (xs := vi (List.replicate n 0)) (by rw [vi_rep]; exact hT) (by rw [vi_len]; unfold maxLen; simp; omega)
    simpa [vi_len] using this
  · rintro k ⟨a, h1, h2⟩; cases h1; exact .inr (.inr (h2 ▸ hkT))
  · have := row_full (w := W') (k := kA) (e := 4) (xs := vb (List.replicate n false)) (by simpa [vb] using hA) (by unfold maxLen vb; simp; omega)
    simpa [vb] using this
  · rintro k ⟨a, h1, h2⟩; cases h1; exact .inr (.inr (h2 ▸ hkA))
  · have := row_full (w := W') (k := kD) (e := 26) (xs := vi (List.replicate n 0)) (by rw [vi_rep]; exact hD) (by rw [vi_len]; unfold maxLen; simp; omega)
    simpa [vi_len] using this
  · rintro k ⟨a, h1, h2⟩; cases h1; exact .inr (.inr (h2 ▸ hkD))
  · have h3 := hFC k hk
    refine ⟨by omega, by show k ≠ p; omega, ?_, ?_, ?_⟩
    · rintro ⟨a, e1, e2⟩; cases e1; have e2 : kT = k := e2; omega
    · rintro ⟨a, e1, e2⟩; cases e1; have e2 : kA = k := e2; omega
    · rintro ⟨a, e1, e2⟩; cases e1; have e2 : kD = k := e2; omega
  · exact hTP W W' tb FT hTab (fun k _ hk => hb.block k hk)
  · intro k hk
    have hFT2 := hFT k
    rcases hk with hk | hk | hk
    · have := hFC k hk
      exact ⟨this.1, fun h => by have := hFT2 h; omega⟩
    · exact ⟨by omega, fun h => by have := hFT2 h; omega⟩
    · exact ⟨by have := hB.size; omega, fun h => by have := hFT2 h; omega⟩
  · intro k hk
    have := hFT k hk
    omega
set_option maxHeartbeats 16000000 in
set_option maxRecDepth 100000 in
theorem coreNew_ {TP : World → Nat → (Nat → Prop) → Prop} (hTP : MovesT TP) (c : Cf) (A : Option Addr) (cA : Nat) (heap : List Int) (w : World) (sz : Nat) (nd : Int) (hr : Kd.C (Kd.int .i64) w A heap.length heap) (hc : heap.length ≤ cA)
    (hck : shape_Check.f c.f0 c.f1 c.f2 c.f3 c.f4 c.f5 c.f6 c.f7 c.f8 c.f9 c.f10 c.f11 = some 0) (hwd : shape_Words.f c.f0 c.f1 c.f2 c.f3 c.f4 c.f5 c.f6 c.f7 c.f8 c.f9 c.f10 c.f11 = some (heap.length : Int)) (hcl : shape_Cells.f c.f0 c.f1 c.f2 c.f3 c.f4 c.f5 c.f6 c.f7 c.f8 c.f9 c.f10 c.f11 = some (sz : Int)) (hnd : shape_Nodes.f c.f0 c.f1 c.f2 c.f3 c.f4 c.f5 c.f6 c.f7 c.f8 c.f9 c.f10 c.f11 = some nd)
    (h0 : 0 < heap.length) (h1 : heap.length ≤ sz) (h2 : sz ≤ 65536) (hT : NewsT TP nd c.f7) (ht1 : 1 ≤ c.f10) (ht2 : c.f10 ≤ 10000) (hf0 : 0 ≤ c.f4) (hf1 : c.f4 ≤ 64) :
    Calls Tryz.prog 8 #[.agg #[.int .i64 c.f0, .int .i64 c.f1, .int .i64 c.f2, .int .i64 c.f3, .int .i64 c.f4, .int .i64 c.f5, .int .i64 c.f6, .int .i64 c.f7, .int .i64 c.f8, .int .i64 c.f9, .int .i64 c.f10, .int .i64 c.f11], .slice A heap.length cA] w (Made TP w c heap sz c.f4.toNat) := by
  have hu := Tryz.underlying24
  have hu2 := Tryz.underlying73
  have hu3 := Tryz.underlying36
  have HK := Aside0.mk (fun W => shape_Check.calls c.f0 c.f1 c.f2 c.f3 c.f4 c.f5 c.f6 c.f7 c.f8 c.f9 c.f10 c.f11 0 W hck)
  have HW := Aside0.mk (fun W => shape_Words.calls c.f0 c.f1 c.f2 c.f3 c.f4 c.f5 c.f6 c.f7 c.f8 c.f9 c.f10 c.f11 (heap.length : Int) W hwd)
  have HC := Aside0.mk (fun W => shape_Cells.calls c.f0 c.f1 c.f2 c.f3 c.f4 c.f5 c.f6 c.f7 c.f8 c.f9 c.f10 c.f11 (sz : Int) W hcl)
  have HN := Aside0.mk (fun W => shape_Nodes.calls c.f0 c.f1 c.f2 c.f3 c.f4 c.f5 c.f6 c.f7 c.f8 c.f9 c.f10 c.f11 nd W hnd)
  have HO := Aside0.mk (fun W (hb : Below w.heap.size w W) => cellOf_ sz A cA heap W (Kd.C_below hr hb) hc h2 h0 h1)
  have HT := Aside0.mk (fun W => hT W)
  have HB0 := Aside0.mk (fun W => birthNew_ c.f10 W ht1 ht2)
  have HN2 := Aside0.mk (show c.f4.toNat ≤ 64 by omega)
  have HTP := Aside0.mk hTP
  have hm1 := print_make_int (P := Tryz.prog) 29 3 (.int .i64 0) 8 Tryz.underlying29 info3 rfl (by omega) c.f4 (by omega) (by omega)
  have hm2 := print_make_int (P := Tryz.prog) 33 4 (.bool false) 1 Tryz.underlying33 (show (Tryz.prog.info? 4).map (fun i => (i.zero, i.size, i.bytes)) = some (some (.bool false), 1, 1) by kernel_rfl) rfl (by omega) c.f4 (by omega) (by omega)
  have hm3 := print_make_int (P := Tryz.prog) 34 26 (.int .i64 0) 8 Tryz.underlying34 (show (Tryz.prog.info? 26).map (fun i => (i.zero, i.size, i.bytes)) = some (some (.int .i64 0), 1, 8) by kernel_rfl) rfl (by omega) c.f4 (by omega) (by omega)
  have HM := Aside0.mk (And.intro hm1 (And.intro hm2 hm3))
  clear hr hc hck hwd hcl hnd h0 h1 h2 hT ht1 ht2 hf0 hf1 hTP hm1 hm2 hm3
  go_enter Tryz.func8, Tryz.ntmps8
  go_wp2_with fail
  have BK := Aside0.mk (blk_new w (.cells #[.int .i64 c.f0, .int .i64 c.f1, .int .i64 c.f2, .int .i64 c.f3, .int .i64 c.f4, .int .i64 c.f5, .int .i64 c.f6, .int .i64 c.f7, .int .i64 c.f8, .int .i64 c.f9, .int .i64 c.f10, .int .i64 c.f11] 24))
  have HA0 := Aside0.mk (below_alloc (Below.refl w.heap.size w) (.cells #[.int .i64 c.f0, .int .i64 c.f1, .int .i64 c.f2, .int .i64 c.f3, .int .i64 c.f4, .int .i64 c.f5, .int .i64 c.f6, .int .i64 c.f7, .int .i64 c.f8, .int .i64 c.f9, .int .i64 c.f10, .int .i64 c.f11] 24))
  obtain ⟨g, hg⟩ : ∃ g, g = w.heap.size := ⟨_, rfl⟩
  have HG := Aside0.mk hg
  rw [← hg] at BK
  obtain ⟨w0, hw0⟩ : ∃ W, W = w.alloc (.cells #[.int .i64 c.f0, .int .i64 c.f1, .int .i64 c.f2, .int .i64 c.f3, .int .i64 c.f4, .int .i64 c.f5, .int .i64 c.f6, .int .i64 c.f7, .int .i64 c.f8, .int .i64 c.f9, .int .i64 c.f10, .int .i64 c.f11] 24) := ⟨_, rfl⟩
  have HW0 := Aside0.mk hw0
  rw [← hw0] at BK HA0
  have HX := Aside0.mk (fun W (hb : Below w0.heap.size w0 W) => (show W.cell? ⟨g, 0, none⟩ = some (.int .i64 c.f0) ∧ W.cell? ⟨g, 1, none⟩ = some (.int .i64 c.f1) ∧ W.cell? ⟨g, 2, none⟩ = some (.int .i64 c.f2) ∧ W.cell? ⟨g, 3, none⟩ = some (.int .i64 c.f3) ∧ W.cell? ⟨g, 4, none⟩ = some (.int .i64 c.f4) ∧ W.cell? ⟨g, 5, none⟩ = some (.int .i64 c.f5) ∧ W.cell? ⟨g, 6, none⟩ = some (.int .i64 c.f6) ∧ W.cell? ⟨g, 7, none⟩ = some (.int .i64 c.f7) ∧ W.cell? ⟨g, 8, none⟩ = some (.int .i64 c.f8) ∧ W.cell? ⟨g, 9, none⟩ = some (.int .i64 c.f9) ∧ W.cell? ⟨g, 10, none⟩ = some (.int .i64 c.f10) ∧ W.cell? ⟨g, 11, none⟩ = some (.int .i64 c.f11) from by
    have h := (hb.block g (Array.getElem?_eq_some_iff.1 BK.out).1).trans BK.out
    exact ⟨(blk_cell h 0).trans rfl, (blk_cell h 1).trans rfl, (blk_cell h 2).trans rfl, (blk_cell h 3).trans rfl, (blk_cell h 4).trans rfl, (blk_cell h 5).trans rfl, (blk_cell h 6).trans rfl, (blk_cell h 7).trans rfl, (blk_cell h 8).trans rfl, (blk_cell h 9).trans rfl, (blk_cell h 10).trans rfl, (blk_cell h 11).trans rfl⟩))
  rw [← HW0.out]
  clear hg hw0
  (try rw [← HG.out])
  refine (HK.out _).mono ?_
  rintro e w1 ⟨rfl, hb⟩
  have E1 := Aside0.mk hb
  clear hb
  (try rw [← HG.out])
  obtain ⟨x0, x1, x2, x3, x4, x5, x6, x7, x8, x9, x10, x11⟩ := HX.out _ E1.out
  go_wp2_with fail
  refine (HW.out _).mono ?_
  rintro e w2 ⟨rfl, hb⟩
  have E2 := Aside0.mk (below_then E1.out E1.out.size hb)
  clear hb E1 x0 x1 x2 x3 x4 x5 x6 x7 x8 x9 x10 x11
  obtain ⟨x0, x1, x2, x3, x4, x5, x6, x7, x8, x9, x10, x11⟩ := HX.out _ E2.out
  go_wp2_with fail
  refine (HC.out _).mono ?_
  rintro e w3 ⟨rfl, hb⟩
  have E3 := Aside0.mk (below_then E2.out E2.out.size hb)
  have HB3 := Aside0.mk (below_then HA0.out HA0.out.size E3.out)
  clear hb E2 x0 x1 x2 x3 x4 x5 x6 x7 x8 x9 x10 x11
  go_wp2_with fail
  refine (HO.out _ HB3.out).mono ?_
  rintro e w4 ⟨cb, hcb, rfl, hI4, hb⟩
  have E4 := Aside0.mk (below_then E3.out E3.out.size hb)
  have HI4 := Aside0.mk (hI4.mono (F' := fun k => w.heap.size ≤ k ∧ k < w4.heap.size) (fun k hk h => ⟨Nat.le_trans HB3.out.size h, hk⟩))
  have HBd4 := Aside0.mk (below_drew (Below.refl w4.heap.size w4))
  clear hb hI4 hcb
  obtain ⟨x0, x1, x2, x3, x4, x5, x6, x7, x8, x9, x10, x11⟩ := HX.out _ E4.out
  go_wp2_with fail
  refine wp_region_held_drew (S := (fun W => W.cell? ⟨g, 0, none⟩ = some (.int .i64 c.f0) ∧ W.cell? ⟨g, 1, none⟩ = some (.int .i64 c.f1) ∧ W.cell? ⟨g, 2, none⟩ = some (.int .i64 c.f2) ∧ W.cell? ⟨g, 3, none⟩ = some (.int .i64 c.f3) ∧ W.cell? ⟨g, 4, none⟩ = some (.int .i64 c.f4) ∧ W.cell? ⟨g, 5, none⟩ = some (.int .i64 c.f5) ∧ W.cell? ⟨g, 6, none⟩ = some (.int .i64 c.f6) ∧ W.cell? ⟨g, 7, none⟩ = some (.int .i64 c.f7) ∧ W.cell? ⟨g, 8, none⟩ = some (.int .i64 c.f8) ∧ W.cell? ⟨g, 9, none⟩ = some (.int .i64 c.f9) ∧ W.cell? ⟨g, 10, none⟩ = some (.int .i64 c.f10) ∧ W.cell? ⟨g, 11, none⟩ = some (.int .i64 c.f11))) (by kernel_rfl) ?_ (fun hH => ?_)
  · exact HX.out _ (below_then E4.out E4.out.size HBd4.out)
  refine wpAnyH_take (i := 0) (oi := { dst := some 32, op := Op.load 24 (Operand.tmp 2), type := 24, pos := "core.go:72", after := #[], guard := none }) (v := ?vp1) rfl (by kernel_rfl) (by kernel_rfl) (by kernel_rfl) (fun _ _ _ h => h) (Or.inl ⟨by rfl, ?yp1⟩) (by assumption) ?rp1
  case yp1 => (intro w hSw; (try dsimp only at hSw); go_simp; (try with_reducible rfl))
  (try simp only [Act.put, List.setIfInBounds_toArray, List.set_cons_zero, List.set_cons_succ])
  refine wpAnyH_take (i := 2) (oi := { dst := some 34, op := Op.fieldAddr 24 (Operand.tmp 2) 7, type := 0, pos := "core.go:72", after := #[], guard := none }) (v := ?vp2) rfl (by kernel_rfl) (by kernel_rfl) (by kernel_rfl) (fun _ _ _ h => h) (Or.inl ⟨by rfl, ?yp2⟩) (by assumption) ?rp2
  case yp2 => (intro w hSw; (try dsimp only at hSw); go_simp; (try with_reducible rfl))
  (try simp only [Act.put, List.setIfInBounds_toArray, List.set_cons_zero, List.set_cons_succ])
  refine wpAnyH_take (i := 3) (oi := { dst := some 35, op := Op.load 3 (Operand.tmp 34), type := 3, pos := "core.go:72", after := #[{ on := 2, ground := Ground.data }], guard := none }) (v := ?vp3) rfl (by kernel_rfl) (by kernel_rfl) (by kernel_rfl) (fun _ _ _ h => h) (Or.inl ⟨by rfl, ?yp3⟩) (by assumption) ?rp3
  case yp3 => (intro w hSw; (try dsimp only at hSw); go_simp; (try with_reducible rfl))
  (try simp only [Act.put, List.setIfInBounds_toArray, List.set_cons_zero, List.set_cons_succ])
  refine wpAnyH_ready (rs := [1]) (by kernel_rfl) (by simp) ?_
  refine AllReadyH.cons (o := { dst := some 33, op := Op.call { callee := Callee.value (Operand.func 33), args := #[Operand.tmp 32], argTypes := #[24] }, type := 3, pos := "core.go:72", after := #[{ on := 0, ground := Ground.data }], guard := none }) rfl (fun K hK => ?_) AllReadyH.nil
  go_simp
  (go_at_call 33; (with_reducible refine (HN.out _).mono ?_); rintro e w5 ⟨rfl, hb5⟩; have G5 := Aside0.mk (below_then HBd4.out HBd4.out.size hb5); clear hb5)
  go_wp2_with fail
  refine hK.out _ _ ?_ (fun hHp3 => ?_)
  · (try dsimp only)
    exact HX.out _ (below_then E4.out E4.out.size G5.out)
  clear hK K hH
  (try simp only [Act.put, List.setIfInBounds_toArray, List.set_cons_zero, List.set_cons_succ])
  refine wpAnyH_ready (rs := [4]) (by kernel_rfl) (by simp) ?_
  refine AllReadyH.cons (o := { dst := some 36, op := Op.call { callee := Callee.value (Operand.func 32), args := #[Operand.tmp 33, Operand.tmp 35], argTypes := #[3, 3] }, type := 63, pos := "core.go:72", after := #[{ on := 1, ground := Ground.data }, { on := 3, ground := Ground.data }, { on := 1, ground := Ground.chain }], guard := none }) rfl (fun K hK => ?_) AllReadyH.nil
  go_simp
  (go_at_call 32; (with_reducible refine (HT.out _).mono ?_); rintro e w6 ⟨tb, FT, rfl, hT6, hF6, hb6⟩; have HT6 := Aside0.mk hT6; have HF6 := Aside0.mk hF6; have HS6 := Aside0.mk hb6.size; have G6 := Aside0.mk (below_then G5.out G5.out.size hb6); clear hT6 hF6 hb6)
  go_wp2_with fail
  refine hK.out _ _ ?_ (fun hHp4 => ?_)
  · (try dsimp only)
    exact HX.out _ (below_then E4.out E4.out.size G6.out)
  clear hK K hHp3
  (try simp only [Act.put, List.setIfInBounds_toArray, List.set_cons_zero, List.set_cons_succ])
  refine wpAnyH_take (i := 5) (oi := { dst := some 31, op := Op.move (Operand.tmp 36), type := 63, pos := "core.go:72", after := #[{ on := 4, ground := Ground.data }], guard := none }) (v := ?vp6) rfl (by kernel_rfl) (by kernel_rfl) (by kernel_rfl) (fun _ _ _ h => h) (Or.inl ⟨by rfl, ?yp6⟩) (by assumption) ?rp6
  case yp6 => (intro w hSw; (try dsimp only at hSw); go_simp; (try with_reducible rfl))
  (try simp only [Act.put, List.setIfInBounds_toArray, List.set_cons_zero, List.set_cons_succ])
  refine wpAnyH_take (i := 6) (oi := { dst := some 37, op := Op.extract (Operand.tmp 31) 0, type := 30, pos := "core.go:72", after := #[{ on := 5, ground := Ground.data }], guard := none }) (v := ?vp7) rfl (by kernel_rfl) (by kernel_rfl) (by kernel_rfl) (fun _ _ _ h => h) (Or.inl ⟨by rfl, ?yp7⟩) (by assumption) ?rp7
  case yp7 => (intro w hSw; (try dsimp only at hSw); go_simp; (try with_reducible rfl))
  (try simp only [Act.put, List.setIfInBounds_toArray, List.set_cons_zero, List.set_cons_succ])
  refine wpAnyH_take (i := 7) (oi := { dst := some 38, op := Op.extract (Operand.tmp 31) 1, type := 26, pos := "core.go:72", after := #[{ on := 5, ground := Ground.data }, { on := 8, ground := Ground.gcOnly Departure.lateStores }], guard := none }) (v := ?vp8) rfl (by kernel_rfl) (by kernel_rfl) (by kernel_rfl) (fun _ _ _ h => h) (Or.inl ⟨by rfl, ?yp8⟩) (by assumption) ?rp8
  case yp8 => (intro w hSw; (try dsimp only at hSw); go_simp; (try with_reducible rfl))
  (try simp only [Act.put, List.setIfInBounds_toArray, List.set_cons_zero, List.set_cons_succ])
  refine wpAnyH_take (i := 8) (oi := { dst := some 8, op := Op.assign (Operand.tmp 37), type := 30, pos := "core.go:72", after := #[{ on := 6, ground := Ground.data }, { on := 4, ground := Ground.chain }, { on := 0, ground := Ground.phase }, { on := 1, ground := Ground.phase }, { on := 2, ground := Ground.phase }, { on := 3, ground := Ground.phase }, { on := 4, ground := Ground.phase }, { on := 5, ground := Ground.phase }, { on := 6, ground := Ground.phase }, { on := 7, ground := Ground.textOnly Departure.lateStores }], guard := none }) (v := ?vp9) rfl (by kernel_rfl) (by kernel_rfl) (by kernel_rfl) (fun _ _ _ h => h) (Or.inl ⟨by rfl, ?yp9⟩) (by assumption) ?rp9
  case yp9 => (intro w hSw; (try dsimp only at hSw); go_simp; (try with_reducible rfl))
  (try simp only [Act.put, List.setIfInBounds_toArray, List.set_cons_zero, List.set_cons_succ])
  refine wpAnyH_take (i := 9) (oi := { dst := some 7, op := Op.assign (Operand.tmp 38), type := 26, pos := "core.go:72", after := #[{ on := 7, ground := Ground.data }, { on := 8, ground := Ground.chain }, { on := 0, ground := Ground.phase }, { on := 1, ground := Ground.phase }, { on := 2, ground := Ground.phase }, { on := 3, ground := Ground.phase }, { on := 4, ground := Ground.phase }, { on := 5, ground := Ground.phase }, { on := 6, ground := Ground.phase }, { on := 7, ground := Ground.phase }, { on := 8, ground := Ground.phase }], guard := none }) (v := ?vp10) rfl (by kernel_rfl) (by kernel_rfl) (by kernel_rfl) (fun _ _ _ h => h) (Or.inl ⟨by rfl, ?yp10⟩) (by assumption) ?rp10
  case yp10 => (intro w hSw; (try dsimp only at hSw); go_simp; (try with_reducible rfl))
  (try simp only [Act.put, List.setIfInBounds_toArray, List.set_cons_zero, List.set_cons_succ])
  refine wpAnyH_done (by kernel_rfl) ?_ _
  have E6 := Aside0.mk (below_then E4.out E4.out.size G6.out)
  clear x0 x1 x2 x3 x4 x5 x6 x7 x8 x9 x10 x11
  obtain ⟨x0, x1, x2, x3, x4, x5, x6, x7, x8, x9, x10, x11⟩ := HX.out _ E6.out
  go_wp2_with fail
  refine (HB0.out _).mono ?_
  rintro e w7 ⟨rfl, rfl⟩
  have E7 := Aside0.mk (below_alloc E6.out (.cells #[.int .i64 0, .int .i64 c.f10] 103))
  clear x0 x1 x2 x3 x4 x5 x6 x7 x8 x9 x10 x11
  obtain ⟨x0, x1, x2, x3, x4, x5, x6, x7, x8, x9, x10, x11⟩ := HX.out _ E7.out
  have G7 := Aside0.mk (below_alloc (Below.refl w6.heap.size w6) (.cells #[.int .i64 0, .int .i64 c.f10] 103))
  obtain ⟨w7, hw7⟩ : ∃ W, W = w6.alloc (.cells #[.int .i64 0, .int .i64 c.f10] 103) := ⟨_, rfl⟩
  have HW7 := Aside0.mk hw7
  rw [← hw7] at E7 G7 x0 x1 x2 x3 x4 x5 x6 x7 x8 x9 x10 x11
  obtain ⟨db, hdb⟩ : ∃ db, db = w6.heap.size := ⟨_, rfl⟩
  have HDB := Aside0.mk hdb
  rw [← hw7, ← hdb]
  clear hw7 hdb
  have HBd7 := Aside0.mk (below_drew (Below.refl w7.heap.size w7))
  go_wp2_with fail
  refine wp_region_held_drew (S := (fun W => W.cell? ⟨g, 0, none⟩ = some (.int .i64 c.f0) ∧ W.cell? ⟨g, 1, none⟩ = some (.int .i64 c.f1) ∧ W.cell? ⟨g, 2, none⟩ = some (.int .i64 c.f2) ∧ W.cell? ⟨g, 3, none⟩ = some (.int .i64 c.f3) ∧ W.cell? ⟨g, 4, none⟩ = some (.int .i64 c.f4) ∧ W.cell? ⟨g, 5, none⟩ = some (.int .i64 c.f5) ∧ W.cell? ⟨g, 6, none⟩ = some (.int .i64 c.f6) ∧ W.cell? ⟨g, 7, none⟩ = some (.int .i64 c.f7) ∧ W.cell? ⟨g, 8, none⟩ = some (.int .i64 c.f8) ∧ W.cell? ⟨g, 9, none⟩ = some (.int .i64 c.f9) ∧ W.cell? ⟨g, 10, none⟩ = some (.int .i64 c.f10) ∧ W.cell? ⟨g, 11, none⟩ = some (.int .i64 c.f11))) (by kernel_rfl) ?_ (fun hH => ?_)
  · exact HX.out _ (below_then E7.out E7.out.size HBd7.out)
  refine wpAnyH_take (i := 0) (oi := { dst := some 51, op := Op.load 24 (Operand.tmp 2), type := 24, pos := "core.go:80", after := #[], guard := none }) (v := ?vq1) rfl (by kernel_rfl) (by kernel_rfl) (by kernel_rfl) (fun _ _ _ h => h) (Or.inl ⟨by rfl, ?yq1⟩) (by assumption) ?rq1
  case yq1 => (intro w hSw; (try dsimp only at hSw); go_simp; (try with_reducible rfl))
  (try simp only [Act.put, List.setIfInBounds_toArray, List.set_cons_zero, List.set_cons_succ])
  refine wpAnyH_take (i := 1) (oi := { dst := some 52, op := Op.move (Operand.tmp 6), type := 59, pos := "core.go:80", after := #[], guard := none }) (v := ?vq2) rfl (by kernel_rfl) (by kernel_rfl) (by kernel_rfl) (fun _ _ _ h => h) (Or.inl ⟨by rfl, ?yq2⟩) (by assumption) ?rq2
  case yq2 => (intro w hSw; (try dsimp only at hSw); go_simp; (try with_reducible rfl))
  (try simp only [Act.put, List.setIfInBounds_toArray, List.set_cons_zero, List.set_cons_succ])
  refine wpAnyH_take (i := 2) (oi := { dst := some 53, op := Op.move (Operand.tmp 8), type := 30, pos := "core.go:80", after := #[], guard := none }) (v := ?vq3) rfl (by kernel_rfl) (by kernel_rfl) (by kernel_rfl) (fun _ _ _ h => h) (Or.inl ⟨by rfl, ?yq3⟩) (by assumption) ?rq3
  case yq3 => (intro w hSw; (try dsimp only at hSw); go_simp; (try with_reducible rfl))
  (try simp only [Act.put, List.setIfInBounds_toArray, List.set_cons_zero, List.set_cons_succ])
  refine wpAnyH_take (i := 3) (oi := { dst := some 54, op := Op.move (Operand.tmp 9), type := 65, pos := "core.go:80", after := #[], guard := none }) (v := ?vq4) rfl (by kernel_rfl) (by kernel_rfl) (by kernel_rfl) (fun _ _ _ h => h) (Or.inl ⟨by rfl, ?yq4⟩) (by assumption) ?rq4
  case yq4 => (intro w hSw; (try dsimp only at hSw); go_simp; (try with_reducible rfl))
  (try simp only [Act.put, List.setIfInBounds_toArray, List.set_cons_zero, List.set_cons_succ])
  refine wpAnyH_ready (rs := [4]) (by kernel_rfl) (by simp) ?_
  refine AllReadyH.cons (o := { dst := some 55, op := Op.call { callee := Callee.value (Operand.func 35), args := #[], argTypes := #[] }, type := 68, pos := "core.go:80", after := #[], guard := none }) rfl (fun K hK => ?_) AllReadyH.nil
  go_simp
  (go_at_call 35; (with_reducible refine (napNew_ _).mono ?_); rintro e w8 ⟨rfl, rfl⟩)
  go_wp2_with fail
  refine hK.out _ _ ?_ (fun hHq4 => ?_)
  · (try dsimp only)
    exact HX.out _ (below_then E7.out E7.out.size (below_alloc (below_alloc HBd7.out _) _))
  clear hK K hH
  (try simp only [Act.put, List.setIfInBounds_toArray, List.set_cons_zero, List.set_cons_succ])
  refine wpAnyH_ready (rs := [5]) (by kernel_rfl) (by simp) ?_
  refine AllReadyH.cons (o := { dst := some 56, op := Op.call { callee := Callee.value (Operand.func 36), args := #[], argTypes := #[] }, type := 70, pos := "core.go:80", after := #[{ on := 4, ground := Ground.chain }], guard := none }) rfl (fun K hK => ?_) AllReadyH.nil
  go_simp
  (go_at_call 36; (with_reducible refine (storyNew_ _).mono ?_); rintro e w9 ⟨rfl, rfl⟩)
  go_wp2_with fail
  refine hK.out _ _ ?_ (fun hHq5 => ?_)
  · (try dsimp only)
    exact HX.out _ (below_then E7.out E7.out.size (below_alloc (below_alloc (below_alloc HBd7.out _) _) _))
  clear hK K hHq4
  (try simp only [Act.put, List.setIfInBounds_toArray, List.set_cons_zero, List.set_cons_succ])
  refine wpAnyH_take (i := 6) (oi := { dst := some 57, op := Op.build 73 #[(0, Operand.tmp 51), (1, Operand.tmp 52), (2, Operand.tmp 53), (3, Operand.tmp 54), (4, Operand.tmp 55), (5, Operand.tmp 56)], type := 73, pos := "core.go:80", after := #[{ on := 0, ground := Ground.data }, { on := 1, ground := Ground.data }, { on := 2, ground := Ground.data }, { on := 3, ground := Ground.data }, { on := 4, ground := Ground.data }, { on := 5, ground := Ground.data }], guard := none }) (v := ?vq7) rfl (by kernel_rfl) (by kernel_rfl) (by kernel_rfl) (fun _ _ _ h => h) (Or.inl ⟨by rfl, ?yq7⟩) (by assumption) ?rq7
  case yq7 => (intro w hSw; (try dsimp only at hSw); go_simp; (try with_reducible rfl))
  (try simp only [Act.put, List.setIfInBounds_toArray, List.set_cons_zero, List.set_cons_succ])
  refine wpAnyH_ready (rs := [7]) (by kernel_rfl) (by simp) ?_
  refine AllReadyH.cons (o := { dst := some 58, op := Op.box 73 (Operand.tmp 57), type := 32, pos := "core.go:80", after := #[{ on := 6, ground := Ground.data }], guard := none }) rfl (fun K hK => ?_) AllReadyH.nil
  go_simp
  refine hK.out _ _ ?_ (fun hHq7 => ?_)
  · (try dsimp only)
    exact HX.out _ (below_then E7.out E7.out.size (below_alloc (below_alloc (below_alloc (below_alloc HBd7.out _) _) _) _))
  clear hK K hHq5
  (try simp only [Act.put, List.setIfInBounds_toArray, List.set_cons_zero, List.set_cons_succ])
  refine wpAnyH_take (i := 8) (oi := { dst := some 10, op := Op.assign (Operand.tmp 58), type := 32, pos := "core.go:80", after := #[{ on := 7, ground := Ground.data }, { on := 5, ground := Ground.chain }, { on := 0, ground := Ground.phase }, { on := 1, ground := Ground.phase }, { on := 2, ground := Ground.phase }, { on := 3, ground := Ground.phase }, { on := 4, ground := Ground.phase }, { on := 5, ground := Ground.phase }, { on := 6, ground := Ground.phase }, { on := 7, ground := Ground.phase }], guard := none }) (v := ?vq9) rfl (by kernel_rfl) (by kernel_rfl) (by kernel_rfl) (fun _ _ _ h => h) (Or.inl ⟨by rfl, ?yq9⟩) (by assumption) ?rq9
  case yq9 => (intro w hSw; (try dsimp only at hSw); go_simp; (try with_reducible rfl))
  (try simp only [Act.put, List.setIfInBounds_toArray, List.set_cons_zero, List.set_cons_succ])
  refine wpAnyH_done (by kernel_rfl) ?_ _
  have E9 := Aside0.mk (below_then E7.out E7.out.size (below_drew (below_alloc (below_alloc (below_alloc (below_alloc (Below.refl w7.heap.size w7) (.map #[] 0)) (.cells #[.map (some w7.heap.size)] 106)) (.cells #[.slice none 0 0] 109)) (.cells (partsC c ⟨w7.heap.size + 1 + 1 + 1, cb, tb, db, w7.heap.size + 1, w7.heap.size + 1 + 1⟩) 73))))
  have HA4 := Aside0.mk (alloc4 w7 (.map #[] 0) (.cells #[.map (some w7.heap.size)] 106) (.cells #[.slice none 0 0] 109) (.cells (partsC c ⟨w7.heap.size + 1 + 1 + 1, cb, tb, db, w7.heap.size + 1, w7.heap.size + 1 + 1⟩) 73))
  obtain ⟨w10, hw10⟩ : ∃ W, W = ((((w7.alloc (.map #[] 0)).alloc (.cells #[.map (some w7.heap.size)] 106)).alloc (.cells #[.slice none 0 0] 109)).alloc (.cells (partsC c ⟨w7.heap.size + 1 + 1 + 1, cb, tb, db, w7.heap.size + 1, w7.heap.size + 1 + 1⟩) 73)).drew := ⟨_, rfl⟩
  have HW10 := Aside0.mk hw10
  rw [← hw10] at E9
  have HSZ := Aside0.mk (show w10.heap.size = w7.heap.size + 1 + 1 + 1 + 1 by rw [hw10]; simp)
  rw [show ((((w7.alloc (.map #[] 0)).alloc (.cells #[.map (some w7.heap.size)] 106)).alloc (.cells #[.slice none 0 0] 109)).alloc (.cells #[.int .i64 c.f0, .int .i64 c.f1, .int .i64 c.f2, .int .i64 c.f3, .int .i64 c.f4, .int .i64 c.f5, .int .i64 c.f6, .int .i64 c.f7, .int .i64 c.f8, .int .i64 c.f9, .int .i64 c.f10, .int .i64 c.f11, .pointer (some ⟨cb, 0, none⟩), .pointer (some ⟨tb, 0, none⟩), .pointer (some ⟨db, 0, none⟩), .pointer (some ⟨w7.heap.size + 1, 0, none⟩), .pointer (some ⟨w7.heap.size + 1 + 1, 0, none⟩)] 73)).drew = w10 from hw10.symm]
  clear hw10 x0 x1 x2 x3 x4 x5 x6 x7 x8 x9 x10 x11
  have HPP := Aside0.mk (show w10.heap[w7.heap.size + 1 + 1 + 1]? = some (.cells (partsC c ⟨w7.heap.size + 1 + 1 + 1, cb, tb, db, w7.heap.size + 1, w7.heap.size + 1 + 1⟩) 73 (0, 0)) from by rw [HW10.out]; exact HA4.out.2.2.2.1)
  obtain ⟨p, hp⟩ : ∃ p, p = w7.heap.size + 1 + 1 + 1 := ⟨_, rfl⟩
  have HPQ := Aside0.mk hp
  rw [← hp] at HPP ⊢
  clear hp
  have J7 := Aside0.mk (show Below w7.heap.size w7 w10 from by
    rw [HW10.out]; exact below_drew (below_alloc (below_alloc (below_alloc (below_alloc (Below.refl _ _) _) _) _) _))
  have J6 := Aside0.mk (below_then G7.out G7.out.size J7.out)
  have J4 := Aside0.mk (below_then G6.out G6.out.size J6.out)
  have J0 := Aside0.mk (below_then HA0.out HA0.out.size E9.out)
  have HCL := Aside0.mk (HI4.out.below J4.out)
  have HTB := Aside0.mk (HTP.out w6 w10 tb FT HT6.out (fun k _ hl => J6.out.block k hl))
  have HNUM := Aside0.mk (show w.heap.size ≤ w5.heap.size ∧ w4.heap.size ≤ w5.heap.size ∧ w5.heap.size ≤ w6.heap.size ∧ w6.heap.size ≤ p ∧ w6.heap.size ≤ w10.heap.size from by
    have h1 := HA0.out.size
    have h2 := E4.out.size
    have h3 := G5.out.size
    have h4 := HS6.out
    have h5 := G7.out.size
    have h6 := J7.out.size
    have h7 := HPQ.out
    have h8 : w4.drew.heap.size = w4.heap.size := rfl
    refine ⟨by omega, by omega, by omega, by omega, by omega⟩)
  have HBd10 := Aside0.mk (below_drew (Below.refl w10.heap.size w10))
  obtain ⟨x0, x1, x2, x3, x4, x5, x6, x7, x8, x9, x10, x11⟩ := HX.out _ E9.out
  obtain ⟨hm1, hm2, hm3⟩ := HM.out
  go_wp2_with fail
  refine wp_region_held_drew (S := (fun W => W.cell? ⟨g, 0, none⟩ = some (.int .i64 c.f0) ∧ W.cell? ⟨g, 1, none⟩ = some (.int .i64 c.f1) ∧ W.cell? ⟨g, 2, none⟩ = some (.int .i64 c.f2) ∧ W.cell? ⟨g, 3, none⟩ = some (.int .i64 c.f3) ∧ W.cell? ⟨g, 4, none⟩ = some (.int .i64 c.f4) ∧ W.cell? ⟨g, 5, none⟩ = some (.int .i64 c.f5) ∧ W.cell? ⟨g, 6, none⟩ = some (.int .i64 c.f6) ∧ W.cell? ⟨g, 7, none⟩ = some (.int .i64 c.f7) ∧ W.cell? ⟨g, 8, none⟩ = some (.int .i64 c.f8) ∧ W.cell? ⟨g, 9, none⟩ = some (.int .i64 c.f9) ∧ W.cell? ⟨g, 10, none⟩ = some (.int .i64 c.f10) ∧ W.cell? ⟨g, 11, none⟩ = some (.int .i64 c.f11))) (by kernel_rfl) ?_ (fun hH => ?_)
  · exact HX.out _ (below_then E9.out E9.out.size HBd10.out)
  refine wpAnyH_take (i := 0) (oi := { dst := some 59, op := Op.move (Operand.tmp 10), type := 32, pos := "core.go:81", after := #[], guard := none }) (v := ?vr1) rfl (by kernel_rfl) (by kernel_rfl) (by kernel_rfl) (fun _ _ _ h => h) (Or.inl ⟨by rfl, ?yr1⟩) (by assumption) ?rr1
  case yr1 => (intro w hSw; (try dsimp only at hSw); go_simp; (try with_reducible rfl))
  (try simp only [Act.put, List.setIfInBounds_toArray, List.set_cons_zero, List.set_cons_succ])
  refine wpAnyH_take (i := 1) (oi := { dst := some 60, op := Op.fieldAddr 24 (Operand.tmp 2) 4, type := 0, pos := "core.go:81", after := #[], guard := none }) (v := ?vr2) rfl (by kernel_rfl) (by kernel_rfl) (by kernel_rfl) (fun _ _ _ h => h) (Or.inl ⟨by rfl, ?yr2⟩) (by assumption) ?rr2
  case yr2 => (intro w hSw; (try dsimp only at hSw); go_simp; (try with_reducible rfl))
  (try simp only [Act.put, List.setIfInBounds_toArray, List.set_cons_zero, List.set_cons_succ])
  refine wpAnyH_take (i := 2) (oi := { dst := some 61, op := Op.load 3 (Operand.tmp 60), type := 3, pos := "core.go:81", after := #[{ on := 1, ground := Ground.data }], guard := none }) (v := ?vr3) rfl (by kernel_rfl) (by kernel_rfl) (by kernel_rfl) (fun _ _ _ h => h) (Or.inl ⟨by rfl, ?yr3⟩) (by assumption) ?rr3
  case yr3 => (intro w hSw; (try dsimp only at hSw); go_simp; (try with_reducible rfl))
  (try simp only [Act.put, List.setIfInBounds_toArray, List.set_cons_zero, List.set_cons_succ])
  refine wpAnyH_take (i := 4) (oi := { dst := some 63, op := Op.fieldAddr 24 (Operand.tmp 2) 4, type := 0, pos := "core.go:81", after := #[], guard := none }) (v := ?vr4) rfl (by kernel_rfl) (by kernel_rfl) (by kernel_rfl) (fun _ _ _ h => h) (Or.inl ⟨by rfl, ?yr4⟩) (by assumption) ?rr4
  case yr4 => (intro w hSw; (try dsimp only at hSw); go_simp; (try with_reducible rfl))
  (try simp only [Act.put, List.setIfInBounds_toArray, List.set_cons_zero, List.set_cons_succ])
  refine wpAnyH_take (i := 5) (oi := { dst := some 64, op := Op.load 3 (Operand.tmp 63), type := 3, pos := "core.go:81", after := #[{ on := 4, ground := Ground.data }], guard := none }) (v := ?vr5) rfl (by kernel_rfl) (by kernel_rfl) (by kernel_rfl) (fun _ _ _ h => h) (Or.inl ⟨by rfl, ?yr5⟩) (by assumption) ?rr5
  case yr5 => (intro w hSw; (try dsimp only at hSw); go_simp; (try with_reducible rfl))
  (try simp only [Act.put, List.setIfInBounds_toArray, List.set_cons_zero, List.set_cons_succ])
  refine wpAnyH_take (i := 7) (oi := { dst := some 66, op := Op.fieldAddr 24 (Operand.tmp 2) 4, type := 0, pos := "core.go:81", after := #[], guard := none }) (v := ?vr6) rfl (by kernel_rfl) (by kernel_rfl) (by kernel_rfl) (fun _ _ _ h => h) (Or.inl ⟨by rfl, ?yr6⟩) (by assumption) ?rr6
  case yr6 => (intro w hSw; (try dsimp only at hSw); go_simp; (try with_reducible rfl))
  (try simp only [Act.put, List.setIfInBounds_toArray, List.set_cons_zero, List.set_cons_succ])
  refine wpAnyH_take (i := 8) (oi := { dst := some 67, op := Op.load 3 (Operand.tmp 66), type := 3, pos := "core.go:81", after := #[{ on := 7, ground := Ground.data }], guard := none }) (v := ?vr7) rfl (by kernel_rfl) (by kernel_rfl) (by kernel_rfl) (fun _ _ _ h => h) (Or.inl ⟨by rfl, ?yr7⟩) (by assumption) ?rr7
  case yr7 => (intro w hSw; (try dsimp only at hSw); go_simp; (try with_reducible rfl))
  (try simp only [Act.put, List.setIfInBounds_toArray, List.set_cons_zero, List.set_cons_succ])
  refine wpAnyH_ready (rs := [3, 6, 9]) (by kernel_rfl) (by simp) ?_
  refine AllReadyH.cons (o := { dst := some 62, op := Op.makeSlice 29 (Operand.tmp 61) (Operand.tmp 61), type := 29, pos := "core.go:81", after := #[{ on := 2, ground := Ground.data }, { on := 2, ground := Ground.data }], guard := none }) rfl (fun K hK => ?_) ?_
  · go_simp
    refine hK.out _ _ ?_ (fun hHr7 => ?_)
    · (try dsimp only)
      exact HX.out _ (below_then E9.out E9.out.size (below_alloc HBd10.out _))
    clear hK K hH
    (try simp only [Act.put, List.setIfInBounds_toArray, List.set_cons_zero, List.set_cons_succ])
    refine wpAnyH_ready (rs := [6, 9]) (by kernel_rfl) (by simp) ?_
    refine AllReadyH.cons (o := { dst := some 65, op := Op.makeSlice 33 (Operand.tmp 64) (Operand.tmp 64), type := 33, pos := "core.go:81", after := #[{ on := 5, ground := Ground.data }, { on := 5, ground := Ground.data }], guard := none }) rfl (fun K hK => ?_) ?_
    · go_simp
      refine hK.out _ _ ?_ (fun hHr8 => ?_)
      · (try dsimp only)
        exact HX.out _ (below_then E9.out E9.out.size (below_alloc (below_alloc HBd10.out _) _))
      clear hK K hHr7
      (try simp only [Act.put, List.setIfInBounds_toArray, List.set_cons_zero, List.set_cons_succ])
      refine wpAnyH_ready (rs := [9]) (by kernel_rfl) (by simp) ?_
      refine AllReadyH.cons (o := { dst := some 68, op := Op.makeSlice 34 (Operand.tmp 67) (Operand.tmp 67), type := 34, pos := "core.go:81", after := #[{ on := 8, ground := Ground.data }, { on := 8, ground := Ground.data }], guard := none }) rfl (fun K hK => ?_) AllReadyH.nil
      go_simp
      refine hK.out _ _ ?_ (fun hHr9 => ?_)
      · (try dsimp only)
        exact HX.out _ (below_then E9.out E9.out.size (below_alloc (below_alloc (below_alloc HBd10.out _) _) _))
      clear hK K hHr8
      (try simp only [Act.put, List.setIfInBounds_toArray, List.set_cons_zero, List.set_cons_succ])
      refine wpAnyH_take (i := 10) (oi := { dst := some 69, op := Op.build 36 #[(0, Operand.tmp 59), (1, Operand.tmp 62), (2, Operand.tmp 65), (3, Operand.tmp 68)], type := 36, pos := "core.go:81", after := #[{ on := 0, ground := Ground.data }, { on := 3, ground := Ground.data }, { on := 6, ground := Ground.data }, { on := 9, ground := Ground.data }], guard := none }) (v := ?vr11) rfl (by kernel_rfl) (by kernel_rfl) (by kernel_rfl) (fun _ _ _ h => h) (Or.inl ⟨by rfl, ?yr11⟩) (by assumption) ?rr11
      case yr11 => (intro w hSw; (try dsimp only at hSw); go_simp; (try with_reducible rfl))
      (try simp only [Act.put, List.setIfInBounds_toArray, List.set_cons_zero, List.set_cons_succ])
      refine wpAnyH_ready (rs := [11]) (by kernel_rfl) (by simp) ?_
      refine AllReadyH.cons (o := { dst := some 70, op := Op.box 36 (Operand.tmp 69), type := 25, pos := "core.go:81", after := #[{ on := 10, ground := Ground.data }], guard := none }) rfl (fun K hK => ?_) AllReadyH.nil
      go_simp
      refine hK.out _ _ ?_ (fun hHr11 => ?_)
      · (try dsimp only)
        exact HX.out _ (below_then E9.out E9.out.size (below_alloc (below_alloc (below_alloc (below_alloc HBd10.out _) _) _) _))
      clear hK K hHr9
      (try simp only [Act.put, List.setIfInBounds_toArray, List.set_cons_zero, List.set_cons_succ])
      refine wpAnyH_take (i := 12) (oi := { dst := some 4, op := Op.assign (Operand.tmp 70), type := 25, pos := "core.go:81", after := #[{ on := 11, ground := Ground.data }, { on := 0, ground := Ground.phase }, { on := 1, ground := Ground.phase }, { on := 2, ground := Ground.phase }, { on := 3, ground := Ground.phase }, { on := 4, ground := Ground.phase }, { on := 5, ground := Ground.phase }, { on := 6, ground := Ground.phase }, { on := 7, ground := Ground.phase }, { on := 8, ground := Ground.phase }, { on := 9, ground := Ground.phase }, { on := 10, ground := Ground.phase }, { on := 11, ground := Ground.phase }], guard := none }) (v := ?vr13) rfl (by kernel_rfl) (by kernel_rfl) (by kernel_rfl) (fun _ _ _ h => h) (Or.inl ⟨by rfl, ?yr13⟩) (by assumption) ?rr13
      case yr13 => (intro w hSw; (try dsimp only at hSw); go_simp; (try with_reducible rfl))
      (try simp only [Act.put, List.setIfInBounds_toArray, List.set_cons_zero, List.set_cons_succ])
      refine wpAnyH_take (i := 13) (oi := { dst := some 5, op := Op.assign (Operand.const (Value.int IntKind.i64 0)), type := 26, pos := "core.go:81", after := #[{ on := 12, ground := Ground.chain }, { on := 0, ground := Ground.phase }, { on := 1, ground := Ground.phase }, { on := 2, ground := Ground.phase }, { on := 3, ground := Ground.phase }, { on := 4, ground := Ground.phase }, { on := 5, ground := Ground.phase }, { on := 6, ground := Ground.phase }, { on := 7, ground := Ground.phase }, { on := 8, ground := Ground.phase }, { on := 9, ground := Ground.phase }, { on := 10, ground := Ground.phase }, { on := 11, ground := Ground.phase }, { on := 12, ground := Ground.phase }], guard := none }) (v := ?vr14) rfl (by kernel_rfl) (by kernel_rfl) (by kernel_rfl) (fun _ _ _ h => h) (Or.inl ⟨by rfl, ?yr14⟩) (by assumption) ?rr14
      case yr14 => (intro w hSw; (try dsimp only at hSw); go_simp; (try with_reducible rfl))
      (try simp only [Act.put, List.setIfInBounds_toArray, List.set_cons_zero, List.set_cons_succ])
      refine wpAnyH_done (by kernel_rfl) ?_ _
      go_wp2
      go_ret2
      have q := alloc4 w10 (.cells (madeCells #[.int .i64 0] c.f4.toNat) 3) (.cells (madeCells #[.bool false] c.f4.toNat) 4) (.cells (madeCells #[.int .i64 0] c.f4.toNat) 26) (.cells #[.pointer (some ⟨p, 0, none⟩), .slice (some ⟨w10.heap.size, 0, none⟩) c.f4.toNat c.f4.toNat, .slice (some ⟨w10.heap.size + 1, 0, none⟩) c.f4.toNat c.f4.toNat, .slice (some ⟨w10.heap.size + 1 + 1, 0, none⟩) c.f4.toNat c.f4.toNat, .int .i64 0] 36)
      have nn := HNUM.out
      exact made_end (W := w10) (cb := cb) (tb := tb) (db := db) (nb := w7.heap.size + 1) (sb := w7.heap.size + 1 + 1) (p := p) (kT := w10.heap.size) (kA := w10.heap.size + 1) (kD := w10.heap.size + 1 + 1) (wT0 := w5.heap.size) (wT1 := w6.heap.size) (FC := fun k => w.heap.size ≤ k ∧ k < w4.heap.size) HTP.out HN2.out (by omega) q.1 q.2.1 q.2.2.1 q.2.2.2.1 (by omega) (by omega) (by omega) (below_drew q.2.2.2.2) HPP.out HCL.out (fun k hk => ⟨hk.1, by omega⟩) HF6.out nn.2.2.2.1 nn.2.2.1 nn.2.2.2.2 nn.1 HTB.out J0.out
    refine AllReadyH.cons (o := { dst := some 68, op := Op.makeSlice 34 (Operand.tmp 67) (Operand.tmp 67), type := 34, pos := "core.go:81", after := #[{ on := 8, ground := Ground.data }, { on := 8, ground := Ground.data }], guard := none }) rfl (fun K hK => ?_) ?_
    · go_simp
      refine hK.out _ _ ?_ (fun hHr14 => ?_)
      · (try dsimp only)
        exact HX.out _ (below_then E9.out E9.out.size (below_alloc (below_alloc HBd10.out _) _))
      clear hK K hHr7
      (try simp only [Act.put, List.setIfInBounds_toArray, List.set_cons_zero, List.set_cons_succ])
      refine wpAnyH_ready (rs := [6]) (by kernel_rfl) (by simp) ?_
      refine AllReadyH.cons (o := { dst := some 65, op := Op.makeSlice 33 (Operand.tmp 64) (Operand.tmp 64), type := 33, pos := "core.go:81", after := #[{ on := 5, ground := Ground.data }, { on := 5, ground := Ground.data }], guard := none }) rfl (fun K hK => ?_) AllReadyH.nil
      go_simp
      refine hK.out _ _ ?_ (fun hHr15 => ?_)
      · (try dsimp only)
        exact HX.out _ (below_then E9.out E9.out.size (below_alloc (below_alloc (below_alloc HBd10.out _) _) _))
      clear hK K hHr14
      (try simp only [Act.put, List.setIfInBounds_toArray, List.set_cons_zero, List.set_cons_succ])
      refine wpAnyH_take (i := 10) (oi := { dst := some 69, op := Op.build 36 #[(0, Operand.tmp 59), (1, Operand.tmp 62), (2, Operand.tmp 65), (3, Operand.tmp 68)], type := 36, pos := "core.go:81", after := #[{ on := 0, ground := Ground.data }, { on := 3, ground := Ground.data }, { on := 6, ground := Ground.data }, { on := 9, ground := Ground.data }], guard := none }) (v := ?vr17) rfl (by kernel_rfl) (by kernel_rfl) (by kernel_rfl) (fun _ _ _ h => h) (Or.inl ⟨by rfl, ?yr17⟩) (by assumption) ?rr17
      case yr17 => (intro w hSw; (try dsimp only at hSw); go_simp; (try with_reducible rfl))
      (try simp only [Act.put, List.setIfInBounds_toArray, List.set_cons_zero, List.set_cons_succ])
      refine wpAnyH_ready (rs := [11]) (by kernel_rfl) (by simp) ?_
      refine AllReadyH.cons (o := { dst := some 70, op := Op.box 36 (Operand.tmp 69), type := 25, pos := "core.go:81", after := #[{ on := 10, ground := Ground.data }], guard := none }) rfl (fun K hK => ?_) AllReadyH.nil
      go_simp
      refine hK.out _ _ ?_ (fun hHr17 => ?_)
      · (try dsimp only)
        exact HX.out _ (below_then E9.out E9.out.size (below_alloc (below_alloc (below_alloc (below_alloc HBd10.out _) _) _) _))
      clear hK K hHr15
      (try simp only [Act.put, List.setIfInBounds_toArray, List.set_cons_zero, List.set_cons_succ])
      refine wpAnyH_take (i := 12) (oi := { dst := some 4, op := Op.assign (Operand.tmp 70), type := 25, pos := "core.go:81", after := #[{ on := 11, ground := Ground.data }, { on := 0, ground := Ground.phase }, { on := 1, ground := Ground.phase }, { on := 2, ground := Ground.phase }, { on := 3, ground := Ground.phase }, { on := 4, ground := Ground.phase }, { on := 5, ground := Ground.phase }, { on := 6, ground := Ground.phase }, { on := 7, ground := Ground.phase }, { on := 8, ground := Ground.phase }, { on := 9, ground := Ground.phase }, { on := 10, ground := Ground.phase }, { on := 11, ground := Ground.phase }], guard := none }) (v := ?vr19) rfl (by kernel_rfl) (by kernel_rfl) (by kernel_rfl) (fun _ _ _ h => h) (Or.inl ⟨by rfl, ?yr19⟩) (by assumption) ?rr19
      case yr19 => (intro w hSw; (try dsimp only at hSw); go_simp; (try with_reducible rfl))
      (try simp only [Act.put, List.setIfInBounds_toArray, List.set_cons_zero, List.set_cons_succ])
      refine wpAnyH_take (i := 13) (oi := { dst := some 5, op := Op.assign (Operand.const (Value.int IntKind.i64 0)), type := 26, pos := "core.go:81", after := #[{ on := 12, ground := Ground.chain }, { on := 0, ground := Ground.phase }, { on := 1, ground := Ground.phase }, { on := 2, ground := Ground.phase }, { on := 3, ground := Ground.phase }, { on := 4, ground := Ground.phase }, { on := 5, ground := Ground.phase }, { on := 6, ground := Ground.phase }, { on := 7, ground := Ground.phase }, { on := 8, ground := Ground.phase }, { on := 9, ground := Ground.phase }, { on := 10, ground := Ground.phase }, { on := 11, ground := Ground.phase }, { on := 12, ground := Ground.phase }], guard := none }) (v := ?vr20) rfl (by kernel_rfl) (by kernel_rfl) (by kernel_rfl) (fun _ _ _ h => h) (Or.inl ⟨by rfl, ?yr20⟩) (by assumption) ?rr20
      case yr20 => (intro w hSw; (try dsimp only at hSw); go_simp; (try with_reducible rfl))
      (try simp only [Act.put, List.setIfInBounds_toArray, List.set_cons_zero, List.set_cons_succ])
      refine wpAnyH_done (by kernel_rfl) ?_ _
      go_wp2
      go_ret2
      have q := alloc4 w10 (.cells (madeCells #[.int .i64 0] c.f4.toNat) 3) (.cells (madeCells #[.int .i64 0] c.f4.toNat) 26) (.cells (madeCells #[.bool false] c.f4.toNat) 4) (.cells #[.pointer (some ⟨p, 0, none⟩), .slice (some ⟨w10.heap.size, 0, none⟩) c.f4.toNat c.f4.toNat, .slice (some ⟨w10.heap.size + 1 + 1, 0, none⟩) c.f4.toNat c.f4.toNat, .slice (some ⟨w10.heap.size + 1, 0, none⟩) c.f4.toNat c.f4.toNat, .int .i64 0] 36)
      have nn := HNUM.out
      exact made_end (W := w10) (cb := cb) (tb := tb) (db := db) (nb := w7.heap.size + 1) (sb := w7.heap.size + 1 + 1) (p := p) (kT := w10.heap.size) (kA := w10.heap.size + 1 + 1) (kD := w10.heap.size + 1) (wT0 := w5.heap.size) (wT1 := w6.heap.size) (FC := fun k => w.heap.size ≤ k ∧ k < w4.heap.size) HTP.out HN2.out (by omega) q.1 q.2.2.1 q.2.1 q.2.2.2.1 (by omega) (by omega) (by omega) (below_drew q.2.2.2.2) HPP.out HCL.out (fun k hk => ⟨hk.1, by omega⟩) HF6.out nn.2.2.2.1 nn.2.2.1 nn.2.2.2.2 nn.1 HTB.out J0.out
    exact AllReadyH.nil
  refine AllReadyH.cons (o := { dst := some 65, op := Op.makeSlice 33 (Operand.tmp 64) (Operand.tmp 64), type := 33, pos := "core.go:81", after := #[{ on := 5, ground := Ground.data }, { on := 5, ground := Ground.data }], guard := none }) rfl (fun K hK => ?_) ?_
  · go_simp
    refine hK.out _ _ ?_ (fun hHr20 => ?_)
    · (try dsimp only)
      exact HX.out _ (below_then E9.out E9.out.size (below_alloc HBd10.out _))
    clear hK K hH
    (try simp only [Act.put, List.setIfInBounds_toArray, List.set_cons_zero, List.set_cons_succ])
    refine wpAnyH_ready (rs := [3, 9]) (by kernel_rfl) (by simp) ?_
    refine AllReadyH.cons (o := { dst := some 62, op := Op.makeSlice 29 (Operand.tmp 61) (Operand.tmp 61), type := 29, pos := "core.go:81", after := #[{ on := 2, ground := Ground.data }, { on := 2, ground := Ground.data }], guard := none }) rfl (fun K hK => ?_) ?_
    · go_simp
      refine hK.out _ _ ?_ (fun hHr21 => ?_)
      · (try dsimp only)
        exact HX.out _ (below_then E9.out E9.out.size (below_alloc (below_alloc HBd10.out _) _))
      clear hK K hHr20
      (try simp only [Act.put, List.setIfInBounds_toArray, List.set_cons_zero, List.set_cons_succ])
      refine wpAnyH_ready (rs := [9]) (by kernel_rfl) (by simp) ?_
      refine AllReadyH.cons (o := { dst := some 68, op := Op.makeSlice 34 (Operand.tmp 67) (Operand.tmp 67), type := 34, pos := "core.go:81", after := #[{ on := 8, ground := Ground.data }, { on := 8, ground := Ground.data }], guard := none }) rfl (fun K hK => ?_) AllReadyH.nil
      go_simp
      refine hK.out _ _ ?_ (fun hHr22 => ?_)
      · (try dsimp only)
        exact HX.out _ (below_then E9.out E9.out.size (below_alloc (below_alloc (below_alloc HBd10.out _) _) _))
      clear hK K hHr21
      (try simp only [Act.put, List.setIfInBounds_toArray, List.set_cons_zero, List.set_cons_succ])
      refine wpAnyH_take (i := 10) (oi := { dst := some 69, op := Op.build 36 #[(0, Operand.tmp 59), (1, Operand.tmp 62), (2, Operand.tmp 65), (3, Operand.tmp 68)], type := 36, pos := "core.go:81", after := #[{ on := 0, ground := Ground.data }, { on := 3, ground := Ground.data }, { on := 6, ground := Ground.data }, { on := 9, ground := Ground.data }], guard := none }) (v := ?vr24) rfl (by kernel_rfl) (by kernel_rfl) (by kernel_rfl) (fun _ _ _ h => h) (Or.inl ⟨by rfl, ?yr24⟩) (by assumption) ?rr24
      case yr24 => (intro w hSw; (try dsimp only at hSw); go_simp; (try with_reducible rfl))
      (try simp only [Act.put, List.setIfInBounds_toArray, List.set_cons_zero, List.set_cons_succ])
      refine wpAnyH_ready (rs := [11]) (by kernel_rfl) (by simp) ?_
      refine AllReadyH.cons (o := { dst := some 70, op := Op.box 36 (Operand.tmp 69), type := 25, pos := "core.go:81", after := #[{ on := 10, ground := Ground.data }], guard := none }) rfl (fun K hK => ?_) AllReadyH.nil
      go_simp
      refine hK.out _ _ ?_ (fun hHr24 => ?_)
      · (try dsimp only)
        exact HX.out _ (below_then E9.out E9.out.size (below_alloc (below_alloc (below_alloc (below_alloc HBd10.out _) _) _) _))
      clear hK K hHr22
      (try simp only [Act.put, List.setIfInBounds_toArray, List.set_cons_zero, List.set_cons_succ])
      refine wpAnyH_take (i := 12) (oi := { dst := some 4, op := Op.assign (Operand.tmp 70), type := 25, pos := "core.go:81", after := #[{ on := 11, ground := Ground.data }, { on := 0, ground := Ground.phase }, { on := 1, ground := Ground.phase }, { on := 2, ground := Ground.phase }, { on := 3, ground := Ground.phase }, { on := 4, ground := Ground.phase }, { on := 5, ground := Ground.phase }, { on := 6, ground := Ground.phase }, { on := 7, ground := Ground.phase }, { on := 8, ground := Ground.phase }, { on := 9, ground := Ground.phase }, { on := 10, ground := Ground.phase }, { on := 11, ground := Ground.phase }], guard := none }) (v := ?vr26) rfl (by kernel_rfl) (by kernel_rfl) (by kernel_rfl) (fun _ _ _ h => h) (Or.inl ⟨by rfl, ?yr26⟩) (by assumption) ?rr26
      case yr26 => (intro w hSw; (try dsimp only at hSw); go_simp; (try with_reducible rfl))
      (try simp only [Act.put, List.setIfInBounds_toArray, List.set_cons_zero, List.set_cons_succ])
      refine wpAnyH_take (i := 13) (oi := { dst := some 5, op := Op.assign (Operand.const (Value.int IntKind.i64 0)), type := 26, pos := "core.go:81", after := #[{ on := 12, ground := Ground.chain }, { on := 0, ground := Ground.phase }, { on := 1, ground := Ground.phase }, { on := 2, ground := Ground.phase }, { on := 3, ground := Ground.phase }, { on := 4, ground := Ground.phase }, { on := 5, ground := Ground.phase }, { on := 6, ground := Ground.phase }, { on := 7, ground := Ground.phase }, { on := 8, ground := Ground.phase }, { on := 9, ground := Ground.phase }, { on := 10, ground := Ground.phase }, { on := 11, ground := Ground.phase }, { on := 12, ground := Ground.phase }], guard := none }) (v := ?vr27) rfl (by kernel_rfl) (by kernel_rfl) (by kernel_rfl) (fun _ _ _ h => h) (Or.inl ⟨by rfl, ?yr27⟩) (by assumption) ?rr27
      case yr27 => (intro w hSw; (try dsimp only at hSw); go_simp; (try with_reducible rfl))
      (try simp only [Act.put, List.setIfInBounds_toArray, List.set_cons_zero, List.set_cons_succ])
      refine wpAnyH_done (by kernel_rfl) ?_ _
      go_wp2
      go_ret2
      have q := alloc4 w10 (.cells (madeCells #[.bool false] c.f4.toNat) 4) (.cells (madeCells #[.int .i64 0] c.f4.toNat) 3) (.cells (madeCells #[.int .i64 0] c.f4.toNat) 26) (.cells #[.pointer (some ⟨p, 0, none⟩), .slice (some ⟨w10.heap.size + 1, 0, none⟩) c.f4.toNat c.f4.toNat, .slice (some ⟨w10.heap.size, 0, none⟩) c.f4.toNat c.f4.toNat, .slice (some ⟨w10.heap.size + 1 + 1, 0, none⟩) c.f4.toNat c.f4.toNat, .int .i64 0] 36)
      have nn := HNUM.out
      exact made_end (W := w10) (cb := cb) (tb := tb) (db := db) (nb := w7.heap.size + 1) (sb := w7.heap.size + 1 + 1) (p := p) (kT := w10.heap.size + 1) (kA := w10.heap.size) (kD := w10.heap.size + 1 + 1) (wT0 := w5.heap.size) (wT1 := w6.heap.size) (FC := fun k => w.heap.size ≤ k ∧ k < w4.heap.size) HTP.out HN2.out (by omega) q.2.1 q.1 q.2.2.1 q.2.2.2.1 (by omega) (by omega) (by omega) (below_drew q.2.2.2.2) HPP.out HCL.out (fun k hk => ⟨hk.1, by omega⟩) HF6.out nn.2.2.2.1 nn.2.2.1 nn.2.2.2.2 nn.1 HTB.out J0.out
    refine AllReadyH.cons (o := { dst := some 68, op := Op.makeSlice 34 (Operand.tmp 67) (Operand.tmp 67), type := 34, pos := "core.go:81", after := #[{ on := 8, ground := Ground.data }, { on := 8, ground := Ground.data }], guard := none }) rfl (fun K hK => ?_) ?_
    · go_simp
      refine hK.out _ _ ?_ (fun hHr27 => ?_)
      · (try dsimp only)
        exact HX.out _ (below_then E9.out E9.out.size (below_alloc (below_alloc HBd10.out _) _))
      clear hK K hHr20
      (try simp only [Act.put, List.setIfInBounds_toArray, List.set_cons_zero, List.set_cons_succ])
      refine wpAnyH_ready (rs := [3]) (by kernel_rfl) (by simp) ?_
      refine AllReadyH.cons (o := { dst := some 62, op := Op.makeSlice 29 (Operand.tmp 61) (Operand.tmp 61), type := 29, pos := "core.go:81", after := #[{ on := 2, ground := Ground.data }, { on := 2, ground := Ground.data }], guard := none }) rfl (fun K hK => ?_) AllReadyH.nil
      go_simp
      refine hK.out _ _ ?_ (fun hHr28 => ?_)
      · (try dsimp only)
        exact HX.out _ (below_then E9.out E9.out.size (below_alloc (below_alloc (below_alloc HBd10.out _) _) _))
      clear hK K hHr27
      (try simp only [Act.put, List.setIfInBounds_toArray, List.set_cons_zero, List.set_cons_succ])
      refine wpAnyH_take (i := 10) (oi := { dst := some 69, op := Op.build 36 #[(0, Operand.tmp 59), (1, Operand.tmp 62), (2, Operand.tmp 65), (3, Operand.tmp 68)], type := 36, pos := "core.go:81", after := #[{ on := 0, ground := Ground.data }, { on := 3, ground := Ground.data }, { on := 6, ground := Ground.data }, { on := 9, ground := Ground.data }], guard := none }) (v := ?vr30) rfl (by kernel_rfl) (by kernel_rfl) (by kernel_rfl) (fun _ _ _ h => h) (Or.inl ⟨by rfl, ?yr30⟩) (by assumption) ?rr30
      case yr30 => (intro w hSw; (try dsimp only at hSw); go_simp; (try with_reducible rfl))
      (try simp only [Act.put, List.setIfInBounds_toArray, List.set_cons_zero, List.set_cons_succ])
      refine wpAnyH_ready (rs := [11]) (by kernel_rfl) (by simp) ?_
      refine AllReadyH.cons (o := { dst := some 70, op := Op.box 36 (Operand.tmp 69), type := 25, pos := "core.go:81", after := #[{ on := 10, ground := Ground.data }], guard := none }) rfl (fun K hK => ?_) AllReadyH.nil
      go_simp
      refine hK.out _ _ ?_ (fun hHr30 => ?_)
      · (try dsimp only)
        exact HX.out _ (below_then E9.out E9.out.size (below_alloc (below_alloc (below_alloc (below_alloc HBd10.out _) _) _) _))
      clear hK K hHr28
      (try simp only [Act.put, List.setIfInBounds_toArray, List.set_cons_zero, List.set_cons_succ])
      refine wpAnyH_take (i := 12) (oi := { dst := some 4, op := Op.assign (Operand.tmp 70), type := 25, pos := "core.go:81", after := #[{ on := 11, ground := Ground.data }, { on := 0, ground := Ground.phase }, { on := 1, ground := Ground.phase }, { on := 2, ground := Ground.phase }, { on := 3, ground := Ground.phase }, { on := 4, ground := Ground.phase }, { on := 5, ground := Ground.phase }, { on := 6, ground := Ground.phase }, { on := 7, ground := Ground.phase }, { on := 8, ground := Ground.phase }, { on := 9, ground := Ground.phase }, { on := 10, ground := Ground.phase }, { on := 11, ground := Ground.phase }], guard := none }) (v := ?vr32) rfl (by kernel_rfl) (by kernel_rfl) (by kernel_rfl) (fun _ _ _ h => h) (Or.inl ⟨by rfl, ?yr32⟩) (by assumption) ?rr32
      case yr32 => (intro w hSw; (try dsimp only at hSw); go_simp; (try with_reducible rfl))
      (try simp only [Act.put, List.setIfInBounds_toArray, List.set_cons_zero, List.set_cons_succ])
      refine wpAnyH_take (i := 13) (oi := { dst := some 5, op := Op.assign (Operand.const (Value.int IntKind.i64 0)), type := 26, pos := "core.go:81", after := #[{ on := 12, ground := Ground.chain }, { on := 0, ground := Ground.phase }, { on := 1, ground := Ground.phase }, { on := 2, ground := Ground.phase }, { on := 3, ground := Ground.phase }, { on := 4, ground := Ground.phase }, { on := 5, ground := Ground.phase }, { on := 6, ground := Ground.phase }, { on := 7, ground := Ground.phase }, { on := 8, ground := Ground.phase }, { on := 9, ground := Ground.phase }, { on := 10, ground := Ground.phase }, { on := 11, ground := Ground.phase }, { on := 12, ground := Ground.phase }], guard := none }) (v := ?vr33) rfl (by kernel_rfl) (by kernel_rfl) (by kernel_rfl) (fun _ _ _ h => h) (Or.inl ⟨by rfl, ?yr33⟩) (by assumption) ?rr33
      case yr33 => (intro w hSw; (try dsimp only at hSw); go_simp; (try with_reducible rfl))
      (try simp only [Act.put, List.setIfInBounds_toArray, List.set_cons_zero, List.set_cons_succ])
      refine wpAnyH_done (by kernel_rfl) ?_ _
      go_wp2
      go_ret2
      have q := alloc4 w10 (.cells (madeCells #[.bool false] c.f4.toNat) 4) (.cells (madeCells #[.int .i64 0] c.f4.toNat) 26) (.cells (madeCells #[.int .i64 0] c.f4.toNat) 3) (.cells #[.pointer (some ⟨p, 0, none⟩), .slice (some ⟨w10.heap.size + 1 + 1, 0, none⟩) c.f4.toNat c.f4.toNat, .slice (some ⟨w10.heap.size, 0, none⟩) c.f4.toNat c.f4.toNat, .slice (some ⟨w10.heap.size + 1, 0, none⟩) c.f4.toNat c.f4.toNat, .int .i64 0] 36)
      have nn := HNUM.out
      exact made_end (W := w10) (cb := cb) (tb := tb) (db := db) (nb := w7.heap.size + 1) (sb := w7.heap.size + 1 + 1) (p := p) (kT := w10.heap.size + 1 + 1) (kA := w10.heap.size) (kD := w10.heap.size + 1) (wT0 := w5.heap.size) (wT1 := w6.heap.size) (FC := fun k => w.heap.size ≤ k ∧ k < w4.heap.size) HTP.out HN2.out (by omega) q.2.2.1 q.1 q.2.1 q.2.2.2.1 (by omega) (by omega) (by omega) (below_drew q.2.2.2.2) HPP.out HCL.out (fun k hk => ⟨hk.1, by omega⟩) HF6.out nn.2.2.2.1 nn.2.2.1 nn.2.2.2.2 nn.1 HTB.out J0.out
    exact AllReadyH.nil
  refine AllReadyH.cons (o := { dst := some 68, op := Op.makeSlice 34 (Operand.tmp 67) (Operand.tmp 67), type := 34, pos := "core.go:81", after := #[{ on := 8, ground := Ground.data }, { on := 8, ground := Ground.data }], guard := none }) rfl (fun K hK => ?_) ?_
  · go_simp
    refine hK.out _ _ ?_ (fun hHr33 => ?_)
    · (try dsimp only)
      exact HX.out _ (below_then E9.out E9.out.size (below_alloc HBd10.out _))
    clear hK K hH
    (try simp only [Act.put, List.setIfInBounds_toArray, List.set_cons_zero, List.set_cons_succ])
    refine wpAnyH_ready (rs := [3, 6]) (by kernel_rfl) (by simp) ?_
    refine AllReadyH.cons (o := { dst := some 62, op := Op.makeSlice 29 (Operand.tmp 61) (Operand.tmp 61), type := 29, pos := "core.go:81", after := #[{ on := 2, ground := Ground.data }, { on := 2, ground := Ground.data }], guard := none }) rfl (fun K hK => ?_) ?_
    · go_simp
      refine hK.out _ _ ?_ (fun hHr34 => ?_)
      · (try dsimp only)
        exact HX.out _ (below_then E9.out E9.out.size (below_alloc (below_alloc HBd10.out _) _))
      clear hK K hHr33
      (try simp only [Act.put, List.setIfInBounds_toArray, List.set_cons_zero, List.set_cons_succ])
      refine wpAnyH_ready (rs := [6]) (by kernel_rfl) (by simp) ?_
      refine AllReadyH.cons (o := { dst := some 65, op := Op.makeSlice 33 (Operand.tmp 64) (Operand.tmp 64), type := 33, pos := "core.go:81", after := #[{ on := 5, ground := Ground.data }, { on := 5, ground := Ground.data }], guard := none }) rfl (fun K hK => ?_) AllReadyH.nil
      go_simp
      refine hK.out _ _ ?_ (fun hHr35 => ?_)
      · (try dsimp only)
        exact HX.out _ (below_then E9.out E9.out.size (below_alloc (below_alloc (below_alloc HBd10.out _) _) _))
      clear hK K hHr34
      (try simp only [Act.put, List.setIfInBounds_toArray, List.set_cons_zero, List.set_cons_succ])
      refine wpAnyH_take (i := 10) (oi := { dst := some 69, op := Op.build 36 #[(0, Operand.tmp 59), (1, Operand.tmp 62), (2, Operand.tmp 65), (3, Operand.tmp 68)], type := 36, pos := "core.go:81", after := #[{ on := 0, ground := Ground.data }, { on := 3, ground := Ground.data }, { on := 6, ground := Ground.data }, { on := 9, ground := Ground.data }], guard := none }) (v := ?vr37) rfl (by kernel_rfl) (by kernel_rfl) (by kernel_rfl) (fun _ _ _ h => h) (Or.inl ⟨by rfl, ?yr37⟩) (by assumption) ?rr37
      case yr37 => (intro w hSw; (try dsimp only at hSw); go_simp; (try with_reducible rfl))
      (try simp only [Act.put, List.setIfInBounds_toArray, List.set_cons_zero, List.set_cons_succ])
      refine wpAnyH_ready (rs := [11]) (by kernel_rfl) (by simp) ?_
      refine AllReadyH.cons (o := { dst := some 70, op := Op.box 36 (Operand.tmp 69), type := 25, pos := "core.go:81", after := #[{ on := 10, ground := Ground.data }], guard := none }) rfl (fun K hK => ?_) AllReadyH.nil
      go_simp
      refine hK.out _ _ ?_ (fun hHr37 => ?_)
      · (try dsimp only)
        exact HX.out _ (below_then E9.out E9.out.size (below_alloc (below_alloc (below_alloc (below_alloc HBd10.out _) _) _) _))
      clear hK K hHr35
      (try simp only [Act.put, List.setIfInBounds_toArray, List.set_cons_zero, List.set_cons_succ])
      refine wpAnyH_take (i := 12) (oi := { dst := some 4, op := Op.assign (Operand.tmp 70), type := 25, pos := "core.go:81", after := #[{ on := 11, ground := Ground.data }, { on := 0, ground := Ground.phase }, { on := 1, ground := Ground.phase }, { on := 2, ground := Ground.phase }, { on := 3, ground := Ground.phase }, { on := 4, ground := Ground.phase }, { on := 5, ground := Ground.phase }, { on := 6, ground := Ground.phase }, { on := 7, ground := Ground.phase }, { on := 8, ground := Ground.phase }, { on := 9, ground := Ground.phase }, { on := 10, ground := Ground.phase }, { on := 11, ground := Ground.phase }], guard := none }) (v := ?vr39) rfl (by kernel_rfl) (by kernel_rfl) (by kernel_rfl) (fun _ _ _ h => h) (Or.inl ⟨by rfl, ?yr39⟩) (by assumption) ?rr39
      case yr39 => (intro w hSw; (try dsimp only at hSw); go_simp; (try with_reducible rfl))
      (try simp only [Act.put, List.setIfInBounds_toArray, List.set_cons_zero, List.set_cons_succ])
      refine wpAnyH_take (i := 13) (oi := { dst := some 5, op := Op.assign (Operand.const (Value.int IntKind.i64 0)), type := 26, pos := "core.go:81", after := #[{ on := 12, ground := Ground.chain }, { on := 0, ground := Ground.phase }, { on := 1, ground := Ground.phase }, { on := 2, ground := Ground.phase }, { on := 3, ground := Ground.phase }, { on := 4, ground := Ground.phase }, { on := 5, ground := Ground.phase }, { on := 6, ground := Ground.phase }, { on := 7, ground := Ground.phase }, { on := 8, ground := Ground.phase }, { on := 9, ground := Ground.phase }, { on := 10, ground := Ground.phase }, { on := 11, ground := Ground.phase }, { on := 12, ground := Ground.phase }], guard := none }) (v := ?vr40) rfl (by kernel_rfl) (by kernel_rfl) (by kernel_rfl) (fun _ _ _ h => h) (Or.inl ⟨by rfl, ?yr40⟩) (by assumption) ?rr40
      case yr40 => (intro w hSw; (try dsimp only at hSw); go_simp; (try with_reducible rfl))
      (try simp only [Act.put, List.setIfInBounds_toArray, List.set_cons_zero, List.set_cons_succ])
      refine wpAnyH_done (by kernel_rfl) ?_ _
      go_wp2
      go_ret2
      have q := alloc4 w10 (.cells (madeCells #[.int .i64 0] c.f4.toNat) 26) (.cells (madeCells #[.int .i64 0] c.f4.toNat) 3) (.cells (madeCells #[.bool false] c.f4.toNat) 4) (.cells #[.pointer (some ⟨p, 0, none⟩), .slice (some ⟨w10.heap.size + 1, 0, none⟩) c.f4.toNat c.f4.toNat, .slice (some ⟨w10.heap.size + 1 + 1, 0, none⟩) c.f4.toNat c.f4.toNat, .slice (some ⟨w10.heap.size, 0, none⟩) c.f4.toNat c.f4.toNat, .int .i64 0] 36)
      have nn := HNUM.out
      exact made_end (W := w10) (cb := cb) (tb := tb) (db := db) (nb := w7.heap.size + 1) (sb := w7.heap.size + 1 + 1) (p := p) (kT := w10.heap.size + 1) (kA := w10.heap.size + 1 + 1) (kD := w10.heap.size) (wT0 := w5.heap.size) (wT1 := w6.heap.size) (FC := fun k => w.heap.size ≤ k ∧ k < w4.heap.size) HTP.out HN2.out (by omega) q.2.1 q.2.2.1 q.1 q.2.2.2.1 (by omega) (by omega) (by omega) (below_drew q.2.2.2.2) HPP.out HCL.out (fun k hk => ⟨hk.1, by omega⟩) HF6.out nn.2.2.2.1 nn.2.2.1 nn.2.2.2.2 nn.1 HTB.out J0.out
    refine AllReadyH.cons (o := { dst := some 65, op := Op.makeSlice 33 (Operand.tmp 64) (Operand.tmp 64), type := 33, pos := "core.go:81", after := #[{ on := 5, ground := Ground.data }, { on := 5, ground := Ground.data }], guard := none }) rfl (fun K hK => ?_) ?_
    · go_simp
      refine hK.out _ _ ?_ (fun hHr40 => ?_)
      · (try dsimp only)
        exact HX.out _ (below_then E9.out E9.out.size (below_alloc (below_alloc HBd10.out _) _))
      clear hK K hHr33
      (try simp only [Act.put, List.setIfInBounds_toArray, List.set_cons_zero, List.set_cons_succ])
      refine wpAnyH_ready (rs := [3]) (by kernel_rfl) (by simp) ?_
      refine AllReadyH.cons (o := { dst := some 62, op := Op.makeSlice 29 (Operand.tmp 61) (Operand.tmp 61), type := 29, pos := "core.go:81", after := #[{ on := 2, ground := Ground.data }, { on := 2, ground := Ground.data }], guard := none }) rfl (fun K hK => ?_) AllReadyH.nil
      go_simp
      refine hK.out _ _ ?_ (fun hHr41 => ?_)
      · (try dsimp only)
        exact HX.out _ (below_then E9.out E9.out.size (below_alloc (below_alloc (below_alloc HBd10.out _) _) _))
      clear hK K hHr40
      (try simp only [Act.put, List.setIfInBounds_toArray, List.set_cons_zero, List.set_cons_succ])
      refine wpAnyH_take (i := 10) (oi := { dst := some 69, op := Op.build 36 #[(0, Operand.tmp 59), (1, Operand.tmp 62), (2, Operand.tmp 65), (3, Operand.tmp 68)], type := 36, pos := "core.go:81", after := #[{ on := 0, ground := Ground.data }, { on := 3, ground := Ground.data }, { on := 6, ground := Ground.data }, { on := 9, ground := Ground.data }], guard := none }) (v := ?vr43) rfl (by kernel_rfl) (by kernel_rfl) (by kernel_rfl) (fun _ _ _ h => h) (Or.inl ⟨by rfl, ?yr43⟩) (by assumption) ?rr43
      case yr43 => (intro w hSw; (try dsimp only at hSw); go_simp; (try with_reducible rfl))
      (try simp only [Act.put, List.setIfInBounds_toArray, List.set_cons_zero, List.set_cons_succ])
      refine wpAnyH_ready (rs := [11]) (by kernel_rfl) (by simp) ?_
      refine AllReadyH.cons (o := { dst := some 70, op := Op.box 36 (Operand.tmp 69), type := 25, pos := "core.go:81", after := #[{ on := 10, ground := Ground.data }], guard := none }) rfl (fun K hK => ?_) AllReadyH.nil
      go_simp
      refine hK.out _ _ ?_ (fun hHr43 => ?_)
      · (try dsimp only)
        exact HX.out _ (below_then E9.out E9.out.size (below_alloc (below_alloc (below_alloc (below_alloc HBd10.out _) _) _) _))
      clear hK K hHr41
      (try simp only [Act.put, List.setIfInBounds_toArray, List.set_cons_zero, List.set_cons_succ])
      refine wpAnyH_take (i := 12) (oi := { dst := some 4, op := Op.assign (Operand.tmp 70), type := 25, pos := "core.go:81", after := #[{ on := 11, ground := Ground.data }, { on := 0, ground := Ground.phase }, { on := 1, ground := Ground.phase }, { on := 2, ground := Ground.phase }, { on := 3, ground := Ground.phase }, { on := 4, ground := Ground.phase }, { on := 5, ground := Ground.phase }, { on := 6, ground := Ground.phase }, { on := 7, ground := Ground.phase }, { on := 8, ground := Ground.phase }, { on := 9, ground := Ground.phase }, { on := 10, ground := Ground.phase }, { on := 11, ground := Ground.phase }], guard := none }) (v := ?vr45) rfl (by kernel_rfl) (by kernel_rfl) (by kernel_rfl) (fun _ _ _ h => h) (Or.inl ⟨by rfl, ?yr45⟩) (by assumption) ?rr45
      case yr45 => (intro w hSw; (try dsimp only at hSw); go_simp; (try with_reducible rfl))
      (try simp only [Act.put, List.setIfInBounds_toArray, List.set_cons_zero, List.set_cons_succ])
      refine wpAnyH_take (i := 13) (oi := { dst := some 5, op := Op.assign (Operand.const (Value.int IntKind.i64 0)), type := 26, pos := "core.go:81", after := #[{ on := 12, ground := Ground.chain }, { on := 0, ground := Ground.phase }, { on := 1, ground := Ground.phase }, { on := 2, ground := Ground.phase }, { on := 3, ground := Ground.phase }, { on := 4, ground := Ground.phase }, { on := 5, ground := Ground.phase }, { on := 6, ground := Ground.phase }, { on := 7, ground := Ground.phase }, { on := 8, ground := Ground.phase }, { on := 9, ground := Ground.phase }, { on := 10, ground := Ground.phase }, { on := 11, ground := Ground.phase }, { on := 12, ground := Ground.phase }], guard := none }) (v := ?vr46) rfl (by kernel_rfl) (by kernel_rfl) (by kernel_rfl) (fun _ _ _ h => h) (Or.inl ⟨by rfl, ?yr46⟩) (by assumption) ?rr46
      case yr46 => (intro w hSw; (try dsimp only at hSw); go_simp; (try with_reducible rfl))
      (try simp only [Act.put, List.setIfInBounds_toArray, List.set_cons_zero, List.set_cons_succ])
      refine wpAnyH_done (by kernel_rfl) ?_ _
      go_wp2
      go_ret2
      have q := alloc4 w10 (.cells (madeCells #[.int .i64 0] c.f4.toNat) 26) (.cells (madeCells #[.bool false] c.f4.toNat) 4) (.cells (madeCells #[.int .i64 0] c.f4.toNat) 3) (.cells #[.pointer (some ⟨p, 0, none⟩), .slice (some ⟨w10.heap.size + 1 + 1, 0, none⟩) c.f4.toNat c.f4.toNat, .slice (some ⟨w10.heap.size + 1, 0, none⟩) c.f4.toNat c.f4.toNat, .slice (some ⟨w10.heap.size, 0, none⟩) c.f4.toNat c.f4.toNat, .int .i64 0] 36)
      have nn := HNUM.out
      exact made_end (W := w10) (cb := cb) (tb := tb) (db := db) (nb := w7.heap.size + 1) (sb := w7.heap.size + 1 + 1) (p := p) (kT := w10.heap.size + 1 + 1) (kA := w10.heap.size + 1) (kD := w10.heap.size) (wT0 := w5.heap.size) (wT1 := w6.heap.size) (FC := fun k => w.heap.size ≤ k ∧ k < w4.heap.size) HTP.out HN2.out (by omega) q.2.2.1 q.2.1 q.1 q.2.2.2.1 (by omega) (by omega) (by omega) (below_drew q.2.2.2.2) HPP.out HCL.out (fun k hk => ⟨hk.1, by omega⟩) HF6.out nn.2.2.2.1 nn.2.2.1 nn.2.2.2.2 nn.1 HTB.out J0.out
    exact AllReadyH.nil
  exact AllReadyH.nil
end Go.Proofs.YtaaekmcmpjljgaaGreat.Co
namespace Go.Proofs.YtaaekmcmpjljgaaGreat.Co
open Go.RowKit Go.Proofs.YtaaekmcmpjljgaaGreatW.PrintWords Go.Proofs.YtaaekmcmpjljgaaGreatW.PrintLast Go.Proofs.YtaaekmcmpjljgaaGreatW.PrintMore Go.Proofs.YtaaekmcmpjljgaaGreat.PMd Go.Proofs.YtaaekmcmpjljgaaGreat.Ln
set_option linter.unusedVariables false
set_option linter.unusedSimpArgs false
theorem tabMoves : MovesT TabL := fun W W' tb FT h hm => h.move hm
theorem tabNews (n : Nat) (most : Int) (h1 : 1 ≤ n) (h2 : n ≤ 10000) (h3 : 1 ≤ most) (h4 : most ≤ 4096) : NewsT TabL (n : Int) most := fun W => by
  refine (newTL_ n most W h1 h2 h3 h4).mono ?_
  rintro e W' ⟨q1, q2, q3⟩
  refine ⟨W.heap.size + 1, _, q1, q2, fun k hk => ⟨hk.1, ?_⟩, q3⟩
  obtain ⟨sA, sn, sc, most, m, h5, _⟩ := q2
  have := (Array.getElem?_eq_some_iff.1 h5).1
  omega
def c1 : Cf := ⟨1, 1, 1, 1, 1, 0, 1, 9, 1, 0, 1, 0⟩
theorem c1_chk : shape_Check.f 1 1 1 1 1 0 1 9 1 0 1 0 = some 0 := by decide +kernel
theorem c1_words : shape_Words.f 1 1 1 1 1 0 1 9 1 0 1 0 = some 1 := by decide +kernel
theorem c1_cells : shape_Cells.f 1 1 1 1 1 0 1 9 1 0 1 0 = some 9 := by decide +kernel
theorem c1_nodes : shape_Nodes.f 1 1 1 1 1 0 1 9 1 0 1 0 = some 3 := by decide +kernel
theorem slice_one0 {w : World} (x : Int) : Kd.C (Kd.int .i64) (w.alloc (.cells #[.int .i64 x] 3)) (some ⟨w.heap.size, 0, none⟩) 1 [x] := by
  refine ⟨rfl, by omega, fun _ => ⟨_, rfl, fun j p hj => ?_⟩⟩
  match j, hj with
  | 0, hj => obtain rfl : x = p := by simpa using hj
             exact ⟨[.int .i64 x], rfl, rfl, fun i u hu => by
               match i, hu with
               | 0, hu => obtain rfl : Value.int .i64 x = u := by simpa using hu
                          exact (blk_cell (blk_new w _) 0).trans rfl
               | i + 1, hu => simp at hu⟩
  | j + 1, hj => simp at hj
set_option maxHeartbeats 16000000 in
set_option maxRecDepth 100000 in
theorem coreFirst_ (w : World) : Calls Tryz.prog 7 #[] w fun e w' => e = .returned (.bool true) ∧ Below w.heap.size w w' := by
  have hu := Tryz.underlying24
  have hu2 := Tryz.underlying36
  have hu3 := Tryz.underlying73
  have HN := Aside0.mk (fun W (A : Option Addr) (hr : Kd.C (Kd.int .i64) W A 1 [7]) => (show Calls Tryz.prog 8 #[.agg #[.int .i64 1, .int .i64 1, .int .i64 1, .int .i64 1, .int .i64 1, .int .i64 0, .int .i64 1, .int .i64 9, .int .i64 1, .int .i64 0, .int .i64 1, .int .i64 0], .slice A 1 1] W (Made TabL W c1 [7] 9 1) from coreNew_ tabMoves c1 A 1 [7] W 9 3 hr (Nat.le_refl _) c1_chk c1_words c1_cells c1_nodes (by simp) (by simp) (by omega) (tabNews 3 9 (by omega) (by omega) (by omega) (by omega)) (by decide) (by decide) (by decide) (by decide)))
  have HI := Aside0.mk (fun W (A B : Option Addr) (cA cB : Nat) hA (hcA : 1 ≤ cA) hB (hcB : 1 ≤ cB) => ltkref_Ints.calls 20 A cA [7] B cB [7] true W hA hcA hB hcB (by decide +kernel))
  go_enter Tryz.func7, Tryz.ntmps7
  go_wp2_with fail
  refine (HN.out _ _ (by
    have := slice_one0 (w := w.alloc (.cells #[.int .i64 1, .int .i64 1, .int .i64 1, .int .i64 1, .int .i64 1, .int .i64 0, .int .i64 1, .int .i64 9, .int .i64 1, .int .i64 0, .int .i64 1, .int .i64 0] 24)) 7
    rwa [show (w.alloc (.cells #[.int .i64 1, .int .i64 1, .int .i64 1, .int .i64 1, .int .i64 1, .int .i64 0, .int .i64 1, .int .i64 9, .int .i64 1, .int .i64 0, .int .i64 1, .int .i64 0] 24)).heap.size = w.heap.size + 1 from by simp] at this)).mono ?_
  rintro e w1 ⟨b, P, F, FT, rfl, hC, hT, hF, hFT, hb⟩
  have HB1 := Aside0.mk (below_then (below_alloc (below_alloc (Below.refl w.heap.size w) _) _) (below_alloc (below_alloc (Below.refl w.heap.size w) _) _).size hb)
  have HC1 := Aside0.mk hC
  have HT1 := Aside0.mk hT
  clear hC hT hF hFT hb HN
  go_wp2_with fail
  refine (coreEdgesNil_ w1 b P F FT _ HC1.out HT1.out).mono ?_
  rintro e w2 ⟨rfl, hb⟩
  have HC2 := Aside0.mk (HC1.out.below hb)
  have HB2 := Aside0.mk (below_then HB1.out HB1.out.size hb)
  clear hb
  have c0 := HC2.out.at0
  go_wp2_with fail
  refine (coreNow_ w2 b P F _ HC2.out).mono ?_
  rintro e w3 ⟨rfl, rfl⟩
  go_wp2_with fail
  obtain ⟨FC, hcells, _⟩ := HC2.out.cells
  have HCL := Aside0.mk hcells
  clear hcells
  refine (partsHeap_ w3 c1 P FC _ _ 1 HC2.out.parts HCL.out c1_words (by simp) (by omega)).mono ?_
  rintro e w4 ⟨v, rfl, A', c', rfl, hR4, hk4, hb4⟩
  have HR4 := Aside0.mk (Row.reads_vi hR4)
  have HcL := Aside0.mk hR4.2.1
  have HB4 := Aside0.mk hb4
  have c0 := cell_be0 c0 hb4
  clear hR4 hk4 hb4
  go_wp2_with fail
  refine (HI.out _ A' (some ⟨w4.heap.size, 0, none⟩) c' 1 (Kd.C_alloc HR4.out _) HcL.out (slice_one0 7) (Nat.le_refl _)).mono ?_
  rintro e w5 ⟨rfl, hd⟩
  have HB5 := Aside0.mk (below_then HB4.out HB4.out.size (below_then (below_alloc (Below.refl w4.heap.size w4) _) (below_alloc (Below.refl w4.heap.size w4) _).size hd.below))
  have HC5 := Aside0.mk (HC2.out.below HB5.out)
  clear hd c0
  have c0 := HC5.out.at0
  go_wp2_with fail
  refine (partsCells_ w5 c1 P HC5.out.parts).mono ?_
  rintro e w6 ⟨rfl, rfl⟩
  go_wp2_with fail
  refine (partsCells_ w6 c1 P HC5.out.parts).mono ?_
  rintro e w7 ⟨rfl, rfl⟩
  go_wp2_with fail
  refine (cellCount_ w7 P.cb FC _ 0 (HCL.out.below HB5.out)).mono ?_
  rintro e w8 ⟨rfl, rfl⟩
  go_wp2
  go_ret
  exact ⟨rfl, below_then HB2.out HB2.out.size HB5.out⟩
end Go.Proofs.YtaaekmcmpjljgaaGreat.Co
