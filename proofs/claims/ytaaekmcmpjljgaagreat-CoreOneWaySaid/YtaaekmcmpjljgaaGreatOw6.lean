import Derived.Test.YtaaekmcmpjljgaaGreatOwB
import Derived.Deep.RegionLaw
import Derived.Deep.RegionHeld3
namespace Go.Proofs.YtaaekmcmpjljgaaGreat.Co
open Go.RowKit Go.Proofs.YtaaekmcmpjljgaaGreatW.PrintWords Go.Proofs.YtaaekmcmpjljgaaGreatW.PrintLast Go.Proofs.YtaaekmcmpjljgaaGreatW.PrintMore Go.Proofs.YtaaekmcmpjljgaaGreat.PMd Go.Proofs.YtaaekmcmpjljgaaGreat.Ln Go.Proofs.YtaaekmcmpjljgaaGreat.Gr
open Go.Maps
open Go.Sort (grow)
set_option linter.unusedVariables false
set_option linter.unusedSimpArgs false
def Ka (w0 w : World) (a b : Nat) (P : Pl) (most : Int) (nb : Nat) (k : KT) : Prop :=
  ∃ F FT N, IsCore w b P F k.s ∧ IsTab w P.tb FT k.ls most N k.f ∧ N ≤ nb ∧ (∀ j, F j → (w0.heap.size ≤ j ∧ ¬ FT j) ∧ j ≠ a) ∧ (∀ j, FT j → w0.heap.size ≤ j ∧ j ≠ a) ∧ Below w0.heap.size w0 w ∧ a < w.heap.size
section
variable {w0 w : World} {a b : Nat} {P : Pl} {most : Int} {nb : Nat} {k : KT}
theorem Ka.kl (h : Ka w0 w a b P most nb k) : Kl w0 w b P most nb k := by
  obtain ⟨F, FT, N, h1, h2, h3, h4, h5, h6, h7⟩ := h
  exact ⟨F, FT, N, h1, h2, h3, fun j hj => (h4 j hj).1, fun j hj => (h5 j hj).1, h6⟩
theorem Kl.ka (h : Kl w0 w b P most nb k) (o : Obj) : Ka w0 (w.alloc o) w.heap.size b P most nb k := by
  obtain ⟨F, FT, N, h1, h2, h3, h4, h5, h6⟩ := h
  have hb := below_alloc (Below.refl w.heap.size w) o
  exact ⟨fun j => F j ∧ j < w.heap.size, fun j => FT j ∧ j < w.heap.size, N, (core_bound h1).below hb, (h2.mono (fun j hj hF => ⟨hF, hj⟩)).below hb, h3, fun j hj => ⟨⟨(h4 j hj.1).1, fun hh => (h4 j hj.1).2 hh.1⟩, by have := hj.2; omega⟩, fun j hj => ⟨h5 j hj.1, by have := hj.2; omega⟩, below_then h6 h6.size hb, by simp⟩
theorem Kl.more (h : Kl w0 w b P most nb k) : Kl w0 w b P most (nb + 1) k := by
  obtain ⟨F, FT, N, h1, h2, h3, h4, h5, h6⟩ := h
  exact ⟨F, FT, N, h1, h2, by omega, h4, h5, h6⟩
theorem Ka.below {w' : World} (h : Ka w0 w a b P most nb k) (hb : Below w.heap.size w w') : Ka w0 w' a b P most nb k := by
  obtain ⟨F, FT, N, h1, h2, h3, h4, h5, h6, h7⟩ := h
  exact ⟨F, FT, N, h1.below hb, h2.below hb, h3, h4, h5, below_then h6 h6.size hb, Nat.lt_of_lt_of_le h7 hb.size⟩
theorem Ka.left {w' : World} {F FT : Nat → Prop} {N : Nat} {s' : CoreS} (h2 : IsTab w P.tb FT k.ls most N k.f) (h3 : N ≤ nb) (h4 : ∀ j, F j → (w0.heap.size ≤ j ∧ ¬ FT j) ∧ j ≠ a) (h5 : ∀ j, FT j → w0.heap.size ≤ j ∧ j ≠ a) (h6 : Below w0.heap.size w0 w) (h7 : a < w.heap.size) (hI : IsCore w' b P F s') (hg : Grew F w w') :
    Ka w0 w' a b P most nb { k with s := s' } ∧ w'.heap[a]? = w.heap[a]? :=
  ⟨⟨F, FT, N, hI, h2.grew hg (fun j hj hF => (h4 j hF).1.2 hj), h3, h4, h5, hg.to_below h6 h6.size (fun j hj => (h4 j hj).1.1), Nat.lt_of_lt_of_le h7 hg.size⟩, hg.block a h7 (fun hF => (h4 a hF).2 rfl)⟩
theorem ka_live (h : Ka w0 w a b P most nb k) (hl : Lens k.s) (t tick : Int) : Calls Tryz.prog 10 #[.pointer (some ⟨b, 0, none⟩), .int .i64 t, .int .i64 tick] w fun e w' => e = .returned (.tuple #[]) ∧ Ka w0 w' a b P most nb (k.live t tick) ∧ w'.heap[a]? = w.heap[a]? := by
  obtain ⟨F, FT, N, h1, h2, h3, h4, h5, h6, h7⟩ := h
  exact (Live_ h1 hl t tick).mono fun e w' ⟨e1, e2, e3⟩ => ⟨e1, Ka.left h2 h3 h4 h5 h6 h7 e2 e3⟩
theorem ka_ends (h : Ka w0 w a b P most nb k) (hl : Lens k.s) (t : Int) : Calls Tryz.prog 15 #[.pointer (some ⟨b, 0, none⟩), .int .i64 t] w fun e w' => e = .returned (.tuple #[]) ∧ Ka w0 w' a b P most nb (k.ends t) ∧ w'.heap[a]? = w.heap[a]? := by
  obtain ⟨F, FT, N, h1, h2, h3, h4, h5, h6, h7⟩ := h
  exact (Ends_ h1 hl t).mono fun e w' ⟨e1, e2, e3⟩ => ⟨e1, Ka.left h2 h3 h4 h5 h6 h7 e2 e3⟩
theorem ka_ask (h : Ka w0 w a b P most nb k) (hs : Small k.ls) (hn : nb ≤ 1000000) (who node m : Int) (hw : ok64 who) :
    Calls Tryz.prog 11 #[.pointer (some ⟨P.tb, 0, none⟩), .int .i64 who, .int .i64 node, .int .i64 m] w fun e w' => (∃ r g, e = .returned (.tuple #[.int .i64 r, .int .i64 g])) ∧ Ka w0 w' a b P most (nb + 1) (k.ask most who node m) ∧ w'.heap[a]? = w.heap[a]? := by
  obtain ⟨F, FT, N, h1, h2, h3, h4, h5, h6, h7⟩ := h
  refine (AskT_ h2 hs (by omega) who node m hw).mono ?_
  rintro e w' ⟨e1, e2, e3⟩
  refine ⟨⟨_, _, e1⟩, ⟨fun j => F j ∧ j < w.heap.size, fun j => FT j ∨ w.heap.size ≤ j, N + 1, (core_bound h1).grew e3 (fun j hj hT => (h4 j hj.1).1.2 hT), e2, by omega, fun j hj => ⟨⟨(h4 j hj.1).1.1, fun hh => hh.elim (h4 j hj.1).1.2 (fun h => by have := hj.2; omega)⟩, (h4 j hj.1).2⟩, fun j hj => hj.elim (h5 j) (fun h => ⟨by have := h6.size; omega, by omega⟩), e3.to_below h6 h6.size (fun j hj => (h5 j hj).1), Nat.lt_of_lt_of_le h7 e3.size⟩, e3.block a h7 (fun hF => (h5 a hF).2 rfl)⟩
theorem ka_drop {nd i : Nat} (h : Ka w0 w a b P most nb k) (o : OInv nd most i k.ls k.f) (hi : i ≤ 400000) (n1 : 1 ≤ nd) (n2 : nd ≤ 10000) (who : Int) (hw : ok64 who) :
    Calls Tryz.prog 21 #[.pointer (some ⟨P.tb, 0, none⟩), .int .i64 who] w fun e w' => (∃ A n c, e = .returned (.slice A n c)) ∧ Ka w0 w' a b P most nb (k.drop who) ∧ w'.heap[a]? = w.heap[a]? := by
  obtain ⟨F, FT, N, g1, g2, g3, g4, g5, g6, g7⟩ := h
  refine (DropT_ g2 (by rw [o.len]; omega) (by rw [o.len]; omega) (o.mS hi) who hw (o.outs who)).mono ?_
  rintro e w' ⟨A, c, e1, _, _, e4, e5⟩
  refine ⟨⟨_, _, _, e1⟩, ⟨fun j => F j ∧ j < w.heap.size, fun j => (FT j ∨ w.heap.size ≤ j) ∧ ¬ blk A j, N, (core_bound g1).grew e5 (fun j hj hT => (g4 j hj.1).1.2 hT), e4, g3, fun j hj => ⟨⟨(g4 j hj.1).1.1, fun hh => hh.1.elim (g4 j hj.1).1.2 (fun h => by have := hj.2; omega)⟩, (g4 j hj.1).2⟩, fun j hj => hj.1.elim (g5 j) (fun h => ⟨by have := g6.size; omega, by omega⟩), e5.to_below g6 g6.size (fun j hj => (g5 j hj).1), Nat.lt_of_lt_of_le g7 e5.size⟩, e5.block a g7 (fun hF => (g5 a hF).2 rfl)⟩
end
def El (s : CoreS) (t : Nat) (el : Int) : Prop := (el = -1 ∧ ∀ x : Int, 0 ≤ x → x < t → ¬ Cnt s x) ∨ ((0 ≤ el ∧ el < t) ∧ Cnt s el ∧ ∀ x : Int, 0 ≤ x → x < t → Cnt s x → x ≠ el → tickOf s el < tickOf s x)
theorem El.zero (s : CoreS) : El s 0 (-1) := .inl ⟨rfl, fun x h0 h1 => by omega⟩
theorem El.no {s : CoreS} {t : Nat} {el : Int} (h : El s t el) (hc : ¬ Cnt s t) : El s (t + 1) el := by
  rcases h with ⟨h1, h2⟩ | ⟨h1, h2, h3⟩
  · refine .inl ⟨h1, fun x h0 hx => ?_⟩
    by_cases e : x = t
    · rw [e]; exact hc
    · exact h2 x h0 (by omega)
  · refine .inr ⟨⟨h1.1, by omega⟩, h2, fun x h0 hx hcx hne => ?_⟩
    by_cases e : x = t
    · rw [e] at hcx; exact (hc hcx).elim
    · exact h3 x h0 (by omega) hcx hne
theorem El.first {s : CoreS} {t : Nat} {el : Int} (h : El s t el) (hn : el < 0) (hc : Cnt s t) : El s (t + 1) t := by
  rcases h with ⟨h1, h2⟩ | ⟨h1, _⟩
  · refine .inr ⟨⟨by omega, by omega⟩, hc, fun x h0 hx hcx hne => ?_⟩
    exact (h2 x h0 (by omega) hcx).elim
  · omega
theorem El.less {s : CoreS} {t : Nat} {el : Int} (h : El s t el) (hn : ¬ el < 0) (hc : Cnt s t) (hl : tickOf s t < tickOf s el) : El s (t + 1) t := by
  rcases h with ⟨h1, _⟩ | ⟨h1, h2, h3⟩
  · omega
  · refine .inr ⟨⟨by omega, by omega⟩, hc, fun x h0 hx hcx hne => ?_⟩
    by_cases e : x = el
    · rw [e]; exact hl
    · have := h3 x h0 (by omega) hcx e
      omega
theorem El.stay {s : CoreS} {t : Nat} {el : Int} (hd : TkD s) (h : El s t el) (hn : ¬ el < 0) (hc : Cnt s t) (hl : ¬ tickOf s t < tickOf s el) : El s (t + 1) el := by
  rcases h with ⟨h1, _⟩ | ⟨h1, h2, h3⟩
  · omega
  · refine .inr ⟨⟨h1.1, by omega⟩, h2, fun x h0 hx hcx hne => ?_⟩
    by_cases e : x = t
    · rw [e]
      have := hd el t h2.1 hc.1 (by omega)
      omega
    · exact h3 x h0 (by omega) hcx hne
theorem El.eldest {s : CoreS} {n : Nat} {el : Int} (hn : s.tk.length = n) (h : El s n el) : el = -1 ∨ (0 ≤ el ∧ Eldest s el) := by
  rcases h with ⟨h1, _⟩ | ⟨h1, h2, h3⟩
  · exact .inl h1
  · refine .inr ⟨h1.1, h2, fun x hx hne => ?_⟩
    have := hasB_iff.1 (act_has hx.1)
    rw [hn] at this
    exact h3 x this.1 this.2 hx hne
theorem zeros_at (m : Nat) (hm : m ≤ 65536) (W : World) : Kd.C (Kd.int .i64) (W.alloc (.cells (madeCells #[.int .i64 0] m) 3)) (some ⟨W.heap.size, 0, none⟩) m (List.replicate m 0) := by
  have hR : Row (W.alloc (.cells (madeCells #[.int .i64 0] m) 3)) 3 1 (some ⟨W.heap.size, 0, none⟩) (List.replicate m (0 : Int)).length m (vi (List.replicate m 0)) := by
    refine ⟨by simp [vi], by simp, by unfold maxLen; omega, .inr ⟨W.heap.size, 0, _, rfl, blk_new W _, ?_, ?_⟩⟩
    · rw [made_rep]; simp
    · rw [made_rep]; simp [vi]
  have q := Row.reads_vi hR
  rwa [List.length_replicate] at q
theorem owi_fresh (c : Cf) (m sz n nd : Nat) (h64 : n ≤ 64) (h7 : 0 ≤ c.f7) : OwI nd n c.f7 0 1 (fresh c (List.replicate m 0) sz n nd) := by
  have ha : ∀ x, actOf (fresh c (List.replicate m 0) sz n nd).s x = true → False := fun x hx => by
    unfold actOf fresh at hx
    dsimp only at hx
    split at hx
    · rw [List.getD_eq_getElem?_getD, List.getElem?_replicate] at hx
      split at hx <;> cases hx
    · cases hx
  refine ⟨oinv_zero nd h7, fun j _ x hx => ?_, ⟨by simp [fresh], by simp [fresh], by simpa [fresh] using h64⟩, by simp [fresh], fun x y hx => (ha x hx).elim, fun x hx => (ha x hx).elim⟩
  have hx : x ∈ folk ((List.replicate nd zL).getD j zL) := hx
  rw [getD_rep9] at hx
  cases hx
theorem getD_memW {l : List Op4} {i : Nat} (h : i < l.length) : l.getD i zOp4 ∈ l := by
  rw [List.getD_eq_getElem?_getD, List.getElem?_eq_getElem h]; exact List.getElem_mem h
theorem marks_same (s : CoreS) (l : List Ed) : Same s (marksS s l) := by
  unfold marksS woundS deathS
  split
  · exact doomS_same _ _ _
  · split
    · exact doomS_same _ _ _
    · exact ⟨rfl, rfl, rfl, rfl⟩
theorem finv_same {k : KT} {n : Nat} (h : FInv k n) (s : CoreS) : FInv { k with s := s } n := h
set_option maxHeartbeats 16000000 in
set_option maxRecDepth 100000 in
theorem one_long (c : Cf) (A : Option Addr) (cA : Nat) (l : List Op4) (w : World) (h : 300 < l.length) : Calls Tryz.prog 6 #[.agg #[.int .i64 c.f0, .int .i64 c.f1, .int .i64 c.f2, .int .i64 c.f3, .int .i64 c.f4, .int .i64 c.f5, .int .i64 c.f6, .int .i64 c.f7, .int .i64 c.f8, .int .i64 c.f9, .int .i64 c.f10, .int .i64 c.f11], .slice A l.length cA] w fun e w' => e = .returned (.bool true) ∧ Below w.heap.size w w' := by
  have hu := Tryz.underlying24
  have HF := Aside0.mk coreFirst_
  have a1 : decide ((l.length : Int) > 300) = true := decide_eq_true (by omega)
  have a2 : decide (l.length > 300) = true := decide_eq_true (by omega)
  have a3 : decide (300 < l.length) = true := decide_eq_true (by omega)
  have HB0 := Aside0.mk (below_alloc (Below.refl w.heap.size w) (.cells #[.int .i64 c.f0, .int .i64 c.f1, .int .i64 c.f2, .int .i64 c.f3, .int .i64 c.f4, .int .i64 c.f5, .int .i64 c.f6, .int .i64 c.f7, .int .i64 c.f8, .int .i64 c.f9, .int .i64 c.f10, .int .i64 c.f11] 24))
  clear h
  go_enter Tryz.func6, Tryz.ntmps6
  go_wp2_with fail
  refine (HF.out _).mono ?_
  rintro e w1 ⟨rfl, hb⟩
  have HB1 := Aside0.mk (below_then HB0.out HB0.out.size hb)
  clear hb
  go_wp2_with fail
  refine (HF.out _).mono ?_
  rintro e w2 ⟨rfl, hb⟩
  have HB2 := Aside0.mk (below_then HB1.out HB1.out.size hb)
  clear hb
  go_wp2_with fail
  go_ret
  exact ⟨rfl, HB2.out⟩
set_option maxHeartbeats 16000000 in
set_option maxRecDepth 100000 in
theorem one_bad (c : Cf) (A : Option Addr) (cA : Nat) (l : List Op4) (w : World) (h : l.length ≤ 300) (r : Int) (hr : r ≠ 0) (hk : ltkref1_Check.f 20 c.f0 c.f1 c.f2 c.f3 c.f4 c.f5 c.f6 c.f7 c.f8 c.f9 c.f10 c.f11 = some r) : Calls Tryz.prog 6 #[.agg #[.int .i64 c.f0, .int .i64 c.f1, .int .i64 c.f2, .int .i64 c.f3, .int .i64 c.f4, .int .i64 c.f5, .int .i64 c.f6, .int .i64 c.f7, .int .i64 c.f8, .int .i64 c.f9, .int .i64 c.f10, .int .i64 c.f11], .slice A l.length cA] w fun e w' => e = .returned (.bool true) ∧ Below w.heap.size w w' := by
  have hu := Tryz.underlying24
  have HF := Aside0.mk coreFirst_
  have a1 : decide ((l.length : Int) > 300) = false := decide_eq_false (by omega)
  have a2 : decide (l.length > 300) = false := decide_eq_false (by omega)
  have a3 : decide (300 < l.length) = false := decide_eq_false (by omega)
  have a4 : (r != 0) = true := bne_iff_ne.2 hr
  have HB0 := Aside0.mk (below_alloc (Below.refl w.heap.size w) (.cells #[.int .i64 c.f0, .int .i64 c.f1, .int .i64 c.f2, .int .i64 c.f3, .int .i64 c.f4, .int .i64 c.f5, .int .i64 c.f6, .int .i64 c.f7, .int .i64 c.f8, .int .i64 c.f9, .int .i64 c.f10, .int .i64 c.f11] 24))
  have HX := Aside0.mk (fun W (hb : Below (w.alloc (.cells #[.int .i64 c.f0, .int .i64 c.f1, .int .i64 c.f2, .int .i64 c.f3, .int .i64 c.f4, .int .i64 c.f5, .int .i64 c.f6, .int .i64 c.f7, .int .i64 c.f8, .int .i64 c.f9, .int .i64 c.f10, .int .i64 c.f11] 24)).heap.size (w.alloc (.cells #[.int .i64 c.f0, .int .i64 c.f1, .int .i64 c.f2, .int .i64 c.f3, .int .i64 c.f4, .int .i64 c.f5, .int .i64 c.f6, .int .i64 c.f7, .int .i64 c.f8, .int .i64 c.f9, .int .i64 c.f10, .int .i64 c.f11] 24)) W) => (show W.cell? ⟨w.heap.size, 0, none⟩ = some (.int .i64 c.f0) ∧ W.cell? ⟨w.heap.size, 1, none⟩ = some (.int .i64 c.f1) ∧ W.cell? ⟨w.heap.size, 2, none⟩ = some (.int .i64 c.f2) ∧ W.cell? ⟨w.heap.size, 3, none⟩ = some (.int .i64 c.f3) ∧ W.cell? ⟨w.heap.size, 4, none⟩ = some (.int .i64 c.f4) ∧ W.cell? ⟨w.heap.size, 5, none⟩ = some (.int .i64 c.f5) ∧ W.cell? ⟨w.heap.size, 6, none⟩ = some (.int .i64 c.f6) ∧ W.cell? ⟨w.heap.size, 7, none⟩ = some (.int .i64 c.f7) ∧ W.cell? ⟨w.heap.size, 8, none⟩ = some (.int .i64 c.f8) ∧ W.cell? ⟨w.heap.size, 9, none⟩ = some (.int .i64 c.f9) ∧ W.cell? ⟨w.heap.size, 10, none⟩ = some (.int .i64 c.f10) ∧ W.cell? ⟨w.heap.size, 11, none⟩ = some (.int .i64 c.f11) from by
    have h := (hb.block w.heap.size (by simp)).trans (blk_new w (.cells #[.int .i64 c.f0, .int .i64 c.f1, .int .i64 c.f2, .int .i64 c.f3, .int .i64 c.f4, .int .i64 c.f5, .int .i64 c.f6, .int .i64 c.f7, .int .i64 c.f8, .int .i64 c.f9, .int .i64 c.f10, .int .i64 c.f11] 24))
    exact ⟨(blk_cell h 0).trans rfl, (blk_cell h 1).trans rfl, (blk_cell h 2).trans rfl, (blk_cell h 3).trans rfl, (blk_cell h 4).trans rfl, (blk_cell h 5).trans rfl, (blk_cell h 6).trans rfl, (blk_cell h 7).trans rfl, (blk_cell h 8).trans rfl, (blk_cell h 9).trans rfl, (blk_cell h 10).trans rfl, (blk_cell h 11).trans rfl⟩))
  have HK := Aside0.mk (fun W => ltkref1_Check.calls 20 c.f0 c.f1 c.f2 c.f3 c.f4 c.f5 c.f6 c.f7 c.f8 c.f9 c.f10 c.f11 r W hk)
  clear h hr hk
  go_enter Tryz.func6, Tryz.ntmps6
  go_wp2_with fail
  refine (HF.out _).mono ?_
  rintro e w1 ⟨rfl, hb⟩
  have HB1 := Aside0.mk (below_then HB0.out HB0.out.size hb)
  obtain ⟨x0, x1, x2, x3, x4, x5, x6, x7, x8, x9, x10, x11⟩ := HX.out _ hb
  clear hb
  go_wp2_with fail
  refine (HK.out _).mono ?_
  rintro e w2 ⟨rfl, hb⟩
  have HB2 := Aside0.mk (below_then HB1.out HB1.out.size hb)
  clear hb x0 x1 x2 x3 x4 x5 x6 x7 x8 x9 x10 x11
  go_wp2_with fail
  refine (HF.out _).mono ?_
  rintro e w3 ⟨rfl, hb⟩
  have HB3 := Aside0.mk (below_then HB2.out HB2.out.size hb)
  clear hb
  go_wp2_with fail
  go_ret
  exact ⟨rfl, HB3.out⟩
set_option maxHeartbeats 16000000 in
set_option maxRecDepth 100000 in
theorem one_in (c : Cf) (A : Option Addr) (cA : Nat) (l : List Op4) (w : World) (hr : Kd.C kOp4 w A l.length l) (hc : l.length ≤ cA) (hl : ∀ x ∈ l, ok64 x.f0 ∧ ok64 x.f1 ∧ ok64 x.f2 ∧ ok64 x.f3) (h : l.length ≤ 300) (hk : ltkref1_Check.f 20 c.f0 c.f1 c.f2 c.f3 c.f4 c.f5 c.f6 c.f7 c.f8 c.f9 c.f10 c.f11 = some 0) (hB : InB c.f0 c.f1 c.f2 c.f3 c.f4 c.f5 c.f6 c.f7 c.f8 c.f9 c.f10 c.f11) (m sz nd : Nat) (z1 : 1 ≤ m) (z2 : m ≤ sz) (z3 : sz ≤ 65536) (z4 : 1 ≤ nd) (z5 : nd ≤ 10000)
    (hwd : shape_Words.f c.f0 c.f1 c.f2 c.f3 c.f4 c.f5 c.f6 c.f7 c.f8 c.f9 c.f10 c.f11 = some (m : Int)) (hcl : shape_Cells.f c.f0 c.f1 c.f2 c.f3 c.f4 c.f5 c.f6 c.f7 c.f8 c.f9 c.f10 c.f11 = some (sz : Int)) (hnd : shape_Nodes.f c.f0 c.f1 c.f2 c.f3 c.f4 c.f5 c.f6 c.f7 c.f8 c.f9 c.f10 c.f11 = some (nd : Int)) (hwr : ltkref1_Words.f 20 c.f0 c.f1 c.f2 c.f3 c.f4 c.f5 c.f6 c.f7 c.f8 c.f9 c.f10 c.f11 = some (m : Int)) : Calls Tryz.prog 6 #[.agg #[.int .i64 c.f0, .int .i64 c.f1, .int .i64 c.f2, .int .i64 c.f3, .int .i64 c.f4, .int .i64 c.f5, .int .i64 c.f6, .int .i64 c.f7, .int .i64 c.f8, .int .i64 c.f9, .int .i64 c.f10, .int .i64 c.f11], .slice A l.length cA] w fun e w' => e = .returned (.bool true) ∧ Below w.heap.size w w' := by
  have hu := Tryz.underlying24
  have hu2 := Tryz.underlying36
  have hu3 := Tryz.underlying73
  have hu4 := Tryz.underlying53
  have HF := Aside0.mk coreFirst_
  have a1 : decide ((l.length : Int) > 300) = false := decide_eq_false (by omega)
  have a2 : decide (l.length > 300) = false := decide_eq_false (by omega)
  have a3 : decide (300 < l.length) = false := decide_eq_false (by omega)
  have HB0 := Aside0.mk (below_alloc (Below.refl w.heap.size w) (.cells #[.int .i64 c.f0, .int .i64 c.f1, .int .i64 c.f2, .int .i64 c.f3, .int .i64 c.f4, .int .i64 c.f5, .int .i64 c.f6, .int .i64 c.f7, .int .i64 c.f8, .int .i64 c.f9, .int .i64 c.f10, .int .i64 c.f11] 24))
  have HX := Aside0.mk (fun W (hb : Below (w.alloc (.cells #[.int .i64 c.f0, .int .i64 c.f1, .int .i64 c.f2, .int .i64 c.f3, .int .i64 c.f4, .int .i64 c.f5, .int .i64 c.f6, .int .i64 c.f7, .int .i64 c.f8, .int .i64 c.f9, .int .i64 c.f10, .int .i64 c.f11] 24)).heap.size (w.alloc (.cells #[.int .i64 c.f0, .int .i64 c.f1, .int .i64 c.f2, .int .i64 c.f3, .int .i64 c.f4, .int .i64 c.f5, .int .i64 c.f6, .int .i64 c.f7, .int .i64 c.f8, .int .i64 c.f9, .int .i64 c.f10, .int .i64 c.f11] 24)) W) => (show W.cell? ⟨w.heap.size, 0, none⟩ = some (.int .i64 c.f0) ∧ W.cell? ⟨w.heap.size, 1, none⟩ = some (.int .i64 c.f1) ∧ W.cell? ⟨w.heap.size, 2, none⟩ = some (.int .i64 c.f2) ∧ W.cell? ⟨w.heap.size, 3, none⟩ = some (.int .i64 c.f3) ∧ W.cell? ⟨w.heap.size, 4, none⟩ = some (.int .i64 c.f4) ∧ W.cell? ⟨w.heap.size, 5, none⟩ = some (.int .i64 c.f5) ∧ W.cell? ⟨w.heap.size, 6, none⟩ = some (.int .i64 c.f6) ∧ W.cell? ⟨w.heap.size, 7, none⟩ = some (.int .i64 c.f7) ∧ W.cell? ⟨w.heap.size, 8, none⟩ = some (.int .i64 c.f8) ∧ W.cell? ⟨w.heap.size, 9, none⟩ = some (.int .i64 c.f9) ∧ W.cell? ⟨w.heap.size, 10, none⟩ = some (.int .i64 c.f10) ∧ W.cell? ⟨w.heap.size, 11, none⟩ = some (.int .i64 c.f11) from by
    have h := (hb.block w.heap.size (by simp)).trans (blk_new w (.cells #[.int .i64 c.f0, .int .i64 c.f1, .int .i64 c.f2, .int .i64 c.f3, .int .i64 c.f4, .int .i64 c.f5, .int .i64 c.f6, .int .i64 c.f7, .int .i64 c.f8, .int .i64 c.f9, .int .i64 c.f10, .int .i64 c.f11] 24))
    exact ⟨(blk_cell h 0).trans rfl, (blk_cell h 1).trans rfl, (blk_cell h 2).trans rfl, (blk_cell h 3).trans rfl, (blk_cell h 4).trans rfl, (blk_cell h 5).trans rfl, (blk_cell h 6).trans rfl, (blk_cell h 7).trans rfl, (blk_cell h 8).trans rfl, (blk_cell h 9).trans rfl, (blk_cell h 10).trans rfl, (blk_cell h 11).trans rfl⟩))
  have HK := Aside0.mk (fun W => ltkref1_Check.calls 20 c.f0 c.f1 c.f2 c.f3 c.f4 c.f5 c.f6 c.f7 c.f8 c.f9 c.f10 c.f11 0 W hk)
  have HWd := Aside0.mk (fun W => ltkref1_Words.calls 20 c.f0 c.f1 c.f2 c.f3 c.f4 c.f5 c.f6 c.f7 c.f8 c.f9 c.f10 c.f11 (m : Int) W hwr)
  have HNw := Aside0.mk (fun W : World => (show Calls Tryz.prog 8 #[.agg #[.int .i64 c.f0, .int .i64 c.f1, .int .i64 c.f2, .int .i64 c.f3, .int .i64 c.f4, .int .i64 c.f5, .int .i64 c.f6, .int .i64 c.f7, .int .i64 c.f8, .int .i64 c.f9, .int .i64 c.f10, .int .i64 c.f11], .slice (some ⟨W.heap.size, 0, none⟩) m m] (W.alloc (.cells (madeCells #[.int .i64 0] m) 3)) (fun e w' => ∃ b P, e = .returned (.tuple #[.pointer (some ⟨b, 0, none⟩), .int .i64 0]) ∧ Kl (W.alloc (.cells (madeCells #[.int .i64 0] m) 3)) w' b P c.f7 0 (fresh c (List.replicate m 0) sz c.f4.toNat nd)) from by
    have q := coreNew_ (movesT nd c.f7) c (some ⟨W.heap.size, 0, none⟩) m (List.replicate m 0) (W.alloc (.cells (madeCells #[.int .i64 0] m) 3)) sz nd (by rw [List.length_replicate]; exact zeros_at m (by omega) W) (by rw [List.length_replicate]; exact Nat.le_refl _) (chk_yes hB) (by rw [List.length_replicate]; exact hwd) hcl hnd (by rw [List.length_replicate]; omega) (by rw [List.length_replicate]; exact z2) z3 (newsT nd c.f7 z4 z5 hB.2.2.2.2.2.2.2.1.1 hB.2.2.2.2.2.2.2.1.2) hB.2.2.2.2.2.2.2.2.2.2.1.1 hB.2.2.2.2.2.2.2.2.2.2.1.2 (by have := hB.2.2.2.2.1.1; omega) hB.2.2.2.2.1.2
    rw [List.length_replicate] at q
    exact q.mono (fun e w' hm => kl_made hm)))
  have hmk : ∀ W : World, (Instr.makeSlice 29 (.int .i64 (m : Int)) (.int .i64 (m : Int))).run Tryz.prog W = .ok (.slice (some ⟨W.heap.size, 0, none⟩) m m) (W.alloc (.cells (madeCells #[.int .i64 0] m) 3)) := by
    have := print_make_int (P := Tryz.prog) 29 3 (.int .i64 0) 8 Tryz.underlying29 info3 rfl (by omega) (m : Int) (by omega) (by rw [Int.toNat_natCast]; omega)
    rwa [Int.toNat_natCast] at this
  have HMK := Aside0.mk hmk
  have HR := Aside0.mk hr
  have HW := Aside0.mk hl
  have HBI := Aside0.mk hB
  have HN := Aside0.mk (And.intro h (And.intro z4 (And.intro z5 hc)))
  obtain ⟨n, hn4⟩ : ∃ n : Nat, c.f4 = (n : Int) := ⟨c.f4.toNat, by have := hB.2.2.2.2.1.1; omega⟩
  have HN4 := Aside0.mk hn4
  have H64 := Aside0.mk (show n ≤ 64 by have := hB.2.2.2.2.1.2; omega)
  have HOW := Aside0.mk (owi_fresh c m sz n nd H64.out (by have := hB.2.2.2.2.2.2.2.1.1; omega))
  have hn5 : c.f4.toNat = n := by rw [hn4, Int.toNat_natCast]
  rw [hn5] at HNw
  clear h hk hB z1 z2 z3 z4 z5 hwd hcl hnd hwr hr hc hl hmk hn4 hn5
  go_enter Tryz.func6, Tryz.ntmps6
  go_wp2_with fail
  refine (HF.out _).mono ?_
  rintro e w1 ⟨rfl, hb⟩
  have E1 := Aside0.mk hb
  obtain ⟨x0, x1, x2, x3, x4, x5, x6, x7, x8, x9, x10, x11⟩ := HX.out _ hb
  clear hb
  go_wp2_with fail
  refine (HK.out _).mono ?_
  rintro e w2 ⟨rfl, hb⟩
  have E2 := Aside0.mk (below_then E1.out E1.out.size hb)
  have HBd := Aside0.mk (below_drew (Below.refl w2.heap.size w2))
  clear hb x0 x1 x2 x3 x4 x5 x6 x7 x8 x9 x10 x11 HK E1
  obtain ⟨x0, x1, x2, x3, x4, x5, x6, x7, x8, x9, x10, x11⟩ := HX.out _ E2.out
  have hmk := HMK.out
  go_wp2_with fail
  refine wp_region_held_drew (S := (fun W => W.cell? ⟨w.heap.size, 0, none⟩ = some (.int .i64 c.f0) ∧ W.cell? ⟨w.heap.size, 1, none⟩ = some (.int .i64 c.f1) ∧ W.cell? ⟨w.heap.size, 2, none⟩ = some (.int .i64 c.f2) ∧ W.cell? ⟨w.heap.size, 3, none⟩ = some (.int .i64 c.f3) ∧ W.cell? ⟨w.heap.size, 4, none⟩ = some (.int .i64 c.f4) ∧ W.cell? ⟨w.heap.size, 5, none⟩ = some (.int .i64 c.f5) ∧ W.cell? ⟨w.heap.size, 6, none⟩ = some (.int .i64 c.f6) ∧ W.cell? ⟨w.heap.size, 7, none⟩ = some (.int .i64 c.f7) ∧ W.cell? ⟨w.heap.size, 8, none⟩ = some (.int .i64 c.f8) ∧ W.cell? ⟨w.heap.size, 9, none⟩ = some (.int .i64 c.f9) ∧ W.cell? ⟨w.heap.size, 10, none⟩ = some (.int .i64 c.f10) ∧ W.cell? ⟨w.heap.size, 11, none⟩ = some (.int .i64 c.f11))) (by kernel_rfl) ?_ (fun hH => ?_)
  · exact HX.out _ (below_then E2.out E2.out.size HBd.out)
  refine wpAnyH_take (i := 0) (oi := { dst := some 25, op := Op.load 24 (Operand.tmp 2), type := 24, pos := "law.go:92", after := #[], guard := none }) (v := ?vp1) rfl (by kernel_rfl) (by kernel_rfl) (by kernel_rfl) (fun _ _ _ h => h) (Or.inl ⟨by rfl, ?yp1⟩) (by assumption) ?rp1
  case yp1 => (intro w hSw; (try dsimp only at hSw); go_simp; (try with_reducible rfl))
  (try simp only [Act.put, List.setIfInBounds_toArray, List.set_cons_zero, List.set_cons_succ])
  refine wpAnyH_take (i := 1) (oi := { dst := some 26, op := Op.load 24 (Operand.tmp 2), type := 24, pos := "law.go:92", after := #[], guard := none }) (v := ?vp2) rfl (by kernel_rfl) (by kernel_rfl) (by kernel_rfl) (fun _ _ _ h => h) (Or.inl ⟨by rfl, ?yp2⟩) (by assumption) ?rp2
  case yp2 => (intro w hSw; (try dsimp only at hSw); go_simp; (try with_reducible rfl))
  (try simp only [Act.put, List.setIfInBounds_toArray, List.set_cons_zero, List.set_cons_succ])
  refine wpAnyH_ready (rs := [2]) (by kernel_rfl) (by simp) ?_
  refine AllReadyH.cons (o := { dst := some 27, op := Op.call { callee := Callee.value (Operand.func 20), args := #[Operand.tmp 26], argTypes := #[24] }, type := 3, pos := "law.go:92", after := #[{ on := 1, ground := Ground.data }], guard := none }) rfl (fun K hK => ?_) AllReadyH.nil
  go_simp
  (go_at_call 20; (with_reducible refine (HWd.out _).mono ?_); rintro e w3 ⟨rfl, hb3⟩; have G3 := Aside0.mk (below_then HBd.out HBd.out.size hb3); clear hb3)
  go_wp2_with fail
  refine hK.out _ _ ?_ (fun hHp2 => ?_)
  · (try dsimp only)
    exact HX.out _ (below_then E2.out E2.out.size G3.out)
  clear hK K hH
  (try simp only [Act.put, List.setIfInBounds_toArray, List.set_cons_zero, List.set_cons_succ])
  refine wpAnyH_ready (rs := [3]) (by kernel_rfl) (by simp) ?_
  refine AllReadyH.cons (o := { dst := some 28, op := Op.makeSlice 29 (Operand.tmp 27) (Operand.tmp 27), type := 29, pos := "law.go:92", after := #[{ on := 2, ground := Ground.data }, { on := 2, ground := Ground.data }], guard := none }) rfl (fun K hK => ?_) AllReadyH.nil
  go_simp
  refine hK.out _ _ ?_ (fun hHp3 => ?_)
  · (try dsimp only)
    exact HX.out _ (below_then E2.out E2.out.size (below_alloc G3.out _))
  clear hK K hHp2
  (try simp only [Act.put, List.setIfInBounds_toArray, List.set_cons_zero, List.set_cons_succ])
  refine wpAnyH_ready (rs := [4]) (by kernel_rfl) (by simp) ?_
  refine AllReadyH.cons (o := { dst := some 29, op := Op.call { callee := Callee.value (Operand.func 8), args := #[Operand.tmp 25, Operand.tmp 28], argTypes := #[24, 29] }, type := 27, pos := "law.go:92", after := #[{ on := 0, ground := Ground.data }, { on := 3, ground := Ground.data }, { on := 2, ground := Ground.chain }], guard := none }) rfl (fun K hK => ?_) AllReadyH.nil
  go_simp
  (go_at_call 8; (with_reducible refine (HNw.out _).mono ?_); rintro e w4 ⟨b, P, rfl, hk⟩; have HK4 := Aside0.mk hk; clear hk)
  go_wp2_with fail
  refine hK.out _ _ ?_ (fun hHp4 => ?_)
  · (try dsimp only)
    exact HX.out _ (below_then E2.out E2.out.size (below_then (below_alloc G3.out (.cells (madeCells #[.int .i64 0] m) 3)) (below_alloc G3.out (.cells (madeCells #[.int .i64 0] m) 3)).size HK4.out.base))
  clear hK K hHp3
  (try simp only [Act.put, List.setIfInBounds_toArray, List.set_cons_zero, List.set_cons_succ])
  refine wpAnyH_take (i := 5) (oi := { dst := some 24, op := Op.move (Operand.tmp 29), type := 27, pos := "law.go:92", after := #[{ on := 4, ground := Ground.data }], guard := none }) (v := ?vp6) rfl (by kernel_rfl) (by kernel_rfl) (by kernel_rfl) (fun _ _ _ h => h) (Or.inl ⟨by rfl, ?yp6⟩) (by assumption) ?rp6
  case yp6 => (intro w hSw; (try dsimp only at hSw); go_simp; (try with_reducible rfl))
  (try simp only [Act.put, List.setIfInBounds_toArray, List.set_cons_zero, List.set_cons_succ])
  refine wpAnyH_take (i := 6) (oi := { dst := some 30, op := Op.extract (Operand.tmp 24) 0, type := 25, pos := "law.go:92", after := #[{ on := 5, ground := Ground.data }], guard := none }) (v := ?vp7) rfl (by kernel_rfl) (by kernel_rfl) (by kernel_rfl) (fun _ _ _ h => h) (Or.inl ⟨by rfl, ?yp7⟩) (by assumption) ?rp7
  case yp7 => (intro w hSw; (try dsimp only at hSw); go_simp; (try with_reducible rfl))
  (try simp only [Act.put, List.setIfInBounds_toArray, List.set_cons_zero, List.set_cons_succ])
  refine wpAnyH_take (i := 7) (oi := { dst := some 31, op := Op.extract (Operand.tmp 24) 1, type := 26, pos := "law.go:92", after := #[{ on := 5, ground := Ground.data }, { on := 8, ground := Ground.gcOnly Departure.lateStores }], guard := none }) (v := ?vp8) rfl (by kernel_rfl) (by kernel_rfl) (by kernel_rfl) (fun _ _ _ h => h) (Or.inl ⟨by rfl, ?yp8⟩) (by assumption) ?rp8
  case yp8 => (intro w hSw; (try dsimp only at hSw); go_simp; (try with_reducible rfl))
  (try simp only [Act.put, List.setIfInBounds_toArray, List.set_cons_zero, List.set_cons_succ])
  refine wpAnyH_take (i := 8) (oi := { dst := some 5, op := Op.assign (Operand.tmp 30), type := 25, pos := "law.go:92", after := #[{ on := 6, ground := Ground.data }, { on := 4, ground := Ground.chain }, { on := 0, ground := Ground.phase }, { on := 1, ground := Ground.phase }, { on := 2, ground := Ground.phase }, { on := 3, ground := Ground.phase }, { on := 4, ground := Ground.phase }, { on := 5, ground := Ground.phase }, { on := 6, ground := Ground.phase }, { on := 7, ground := Ground.textOnly Departure.lateStores }], guard := none }) (v := ?vp9) rfl (by kernel_rfl) (by kernel_rfl) (by kernel_rfl) (fun _ _ _ h => h) (Or.inl ⟨by rfl, ?yp9⟩) (by assumption) ?rp9
  case yp9 => (intro w hSw; (try dsimp only at hSw); go_simp; (try with_reducible rfl))
  (try simp only [Act.put, List.setIfInBounds_toArray, List.set_cons_zero, List.set_cons_succ])
  refine wpAnyH_take (i := 9) (oi := { dst := some 6, op := Op.assign (Operand.tmp 31), type := 26, pos := "law.go:92", after := #[{ on := 7, ground := Ground.data }, { on := 8, ground := Ground.chain }, { on := 0, ground := Ground.phase }, { on := 1, ground := Ground.phase }, { on := 2, ground := Ground.phase }, { on := 3, ground := Ground.phase }, { on := 4, ground := Ground.phase }, { on := 5, ground := Ground.phase }, { on := 6, ground := Ground.phase }, { on := 7, ground := Ground.phase }, { on := 8, ground := Ground.phase }], guard := none }) (v := ?vp10) rfl (by kernel_rfl) (by kernel_rfl) (by kernel_rfl) (fun _ _ _ h => h) (Or.inl ⟨by rfl, ?yp10⟩) (by assumption) ?rp10
  case yp10 => (intro w hSw; (try dsimp only at hSw); go_simp; (try with_reducible rfl))
  (try simp only [Act.put, List.setIfInBounds_toArray, List.set_cons_zero, List.set_cons_succ])
  refine wpAnyH_done (by kernel_rfl) ?_ _
  have E4 := Aside0.mk (below_then E2.out E2.out.size (below_alloc G3.out (.cells (madeCells #[.int .i64 0] m) 3)))
  clear x0 x1 x2 x3 x4 x5 x6 x7 x8 x9 x10 x11 HWd HNw G3 E2 HBd hmk HMK
  generalize w3.alloc (.cells (madeCells #[.int .i64 0] m) 3) = wN at HK4 E4 ⊢
  have z0 := HK4.out.at0
  go_wp2_with fail
  refine (kl_table HK4.out).mono ?_
  rintro e w5 ⟨rfl, rfl⟩
  clear z0
  go_wp2_with fail
  have EN := Aside0.mk (below_then HB0.out HB0.out.size E4.out)
  go_loopg [7, 8] l.length (fun gg v7 v8 wr => ∃ (i nx : Nat) (k : KT), i ≤ l.length ∧ l.length - i ≤ gg ∧ v8 = .int .i64 i ∧ v7 = .int .i64 nx ∧ nx ≤ i + 1 ∧ Aside0 (Kl wN wr b P c.f7 i k) ∧ Aside0 (OwI nd n c.f7 i nx k) ∧ Aside0 (k.s.c = c))
  case atStart => exact ⟨0, 1, fresh c (List.replicate m 0) sz n nd, by omega, by omega, rfl, rfl, by omega, HK4, HOW, ⟨rfl⟩⟩
  case round =>
    clear HK4 HOW
    obtain ⟨i, nx, k, hi, hgg, rfl, rfl, hnx, HK, HO, HC⟩ := hrel
    by_cases hlt : i < l.length
    · have t1 : (i : Int) < l.length := by omega
      have t0 : 0 ≤ (i : Int) := by omega
      obtain ⟨ad, rfl, q0, q1, q2, q3⟩ := at_Op4 (Kd.C_below (Kd.C_below HR.out EN.out) HK.out.base) i hlt
      have HWo := Aside0.mk (HW.out _ (getD_memW hlt))
      have HLT := Aside0.mk (And.intro hlt (And.intro hgg (And.intro hnx (show i + 1 ≤ 301 by have := HN.out; omega))))
      have W3 := Aside0.mk (show wrap64 ((i : Int) + 1) = ((i + 1 : Nat) : Int) by have := HN.out; unfold wrap64; omega)
      generalize l.getD i zOp4 = x at q0 q1 q2 q3 HWo
      have Y := blk_new wr (.cells #[.int .i64 x.f0, .int .i64 x.f1, .int .i64 x.f2, .int .i64 x.f3] 53)
      have HY := Aside0.mk Y
      have y0 : (wr.alloc (.cells #[.int .i64 x.f0, .int .i64 x.f1, .int .i64 x.f2, .int .i64 x.f3] 53)).cell? ⟨wr.heap.size, 0, none⟩ = some (.int .i64 x.f0) := (blk_cell Y 0).trans rfl
      have y1 : (wr.alloc (.cells #[.int .i64 x.f0, .int .i64 x.f1, .int .i64 x.f2, .int .i64 x.f3] 53)).cell? ⟨wr.heap.size, 1, none⟩ = some (.int .i64 x.f1) := (blk_cell Y 1).trans rfl
      have HKa := Aside0.mk (Kl.ka HK.out (.cells #[.int .i64 x.f0, .int .i64 x.f1, .int .i64 x.f2, .int .i64 x.f3] 53))
      have X4 := Aside0.mk (below_then E4.out E4.out.size (below_alloc HK.out.base (.cells #[.int .i64 x.f0, .int .i64 x.f1, .int .i64 x.f2, .int .i64 x.f3] 53)))
      have x4 := (HX.out _ X4.out).2.2.2.2.1
      rw [HN4.out] at x4
      clear Y hlt hgg hi hnx
      by_cases w0 : x.f1 < 0
      · have b1 : decide (x.f1 < 0) = true := decide_eq_true w0
        clear w0
        go_wp2_with fail
        go_roundg (l.length - (i + 1))
        case measure => have := HLT.out; omega
        case rel => exact ⟨i + 1, nx, k, by have := HLT.out; omega, Nat.le_refl _, by first | rw [W3.out] | simp, rfl, by have := HLT.out; omega, ⟨HKa.out.kl.more⟩, ⟨HO.out.more⟩, HC⟩
      by_cases w1 : (n : Int) ≤ x.f1
      · have b1 : decide (x.f1 < 0) = false := decide_eq_false w0
        have b2 : decide (x.f1 ≥ (n : Int)) = true := decide_eq_true w1
        have b3 : decide ((n : Int) ≤ x.f1) = true := decide_eq_true w1
        clear w0 w1
        go_wp2_with fail
        go_roundg (l.length - (i + 1))
        case measure => have := HLT.out; omega
        case rel => exact ⟨i + 1, nx, k, by have := HLT.out; omega, Nat.le_refl _, by first | rw [W3.out] | simp, rfl, by have := HLT.out; omega, ⟨HKa.out.kl.more⟩, ⟨HO.out.more⟩, HC⟩
      have b1 : decide (x.f1 < 0) = false := decide_eq_false w0
      have b2 : decide (x.f1 ≥ (n : Int)) = false := decide_eq_false w1
      have b3 : decide ((n : Int) ≤ x.f1) = false := decide_eq_false w1
      have HV := Aside0.mk (And.intro (show 0 ≤ x.f1 by omega) (show x.f1 < n by omega))
      clear w0 w1
      by_cases k0 : x.f0 = 0
      · have e0 : (x.f0 == 0) = true := beq_iff_eq.2 k0
        clear k0
        go_wp2_with fail
        clear q0 q1 q2 q3 y0 y1 x4
        generalize wr.alloc (.cells #[.int .i64 x.f0, .int .i64 x.f1, .int .i64 x.f2, .int .i64 x.f3] 53) = wa at HKa HY X4 ⊢
        generalize wr.heap.size = a at HKa HY ⊢
        have HSO := Aside0.mk (fun (W : World) (h1 : W.cell? ⟨b, 0, none⟩ = some (.pointer (some ⟨P.p, 0, none⟩))) (h2 : W.heap[a]? = wa.heap[a]?) => (show W.cell? ⟨b, 0, none⟩ = some (.pointer (some ⟨P.p, 0, none⟩)) ∧ W.cell? ⟨a, 1, none⟩ = some (.int .i64 x.f1) ∧ W.cell? ⟨a, 2, none⟩ = some (.int .i64 x.f2) ∧ W.cell? ⟨a, 3, none⟩ = some (.int .i64 x.f3) from ⟨h1, (blk_cell (h2.trans HY.out) 1).trans rfl, (blk_cell (h2.trans HY.out) 2).trans rfl, (blk_cell (h2.trans HY.out) 3).trans rfl⟩))
        have HKd := Aside0.mk (HKa.out.below (below_drew (Below.refl _ _)))
        refine wp_region_held_drew (S := (fun W => W.cell? ⟨b, 0, none⟩ = some (.pointer (some ⟨P.p, 0, none⟩)) ∧ W.cell? ⟨a, 1, none⟩ = some (.int .i64 x.f1) ∧ W.cell? ⟨a, 2, none⟩ = some (.int .i64 x.f2) ∧ W.cell? ⟨a, 3, none⟩ = some (.int .i64 x.f3))) (by kernel_rfl) ?_ (fun hH => ?_)
        · exact HSO.out _ HKd.out.kl.at0 rfl
        refine wpAnyH_take (i := 0) (oi := { dst := some 117, op := Op.move (Operand.tmp 5), type := 25, pos := "law.go:104", after := #[], guard := none }) (v := ?vq261) rfl (by kernel_rfl) (by kernel_rfl) (by kernel_rfl) (fun _ _ _ h => h) (Or.inl ⟨by rfl, ?yq261⟩) (by assumption) ?rq261
        case yq261 => (intro w hSw; (try dsimp only at hSw); go_simp; (try with_reducible rfl))
        (try simp only [Act.put, List.setIfInBounds_toArray, List.set_cons_zero, List.set_cons_succ])
        refine wpAnyH_take (i := 1) (oi := { dst := some 118, op := Op.nilCheck (Operand.tmp 117), type := 0, pos := "law.go:104", after := #[{ on := 0, ground := Ground.data }], guard := none }) (v := ?vq262) rfl (by kernel_rfl) (by kernel_rfl) (by kernel_rfl) (fun _ _ _ h => h) (Or.inl ⟨by rfl, ?yq262⟩) (by assumption) ?rq262
        case yq262 => (intro w hSw; (try dsimp only at hSw); go_simp; (try with_reducible rfl))
        (try simp only [Act.put, List.setIfInBounds_toArray, List.set_cons_zero, List.set_cons_succ])
        refine wpAnyH_take (i := 2) (oi := { dst := some 119, op := Op.fieldAddr 36 (Operand.tmp 118) 0, type := 0, pos := "law.go:104", after := #[{ on := 1, ground := Ground.data }], guard := none }) (v := ?vq263) rfl (by kernel_rfl) (by kernel_rfl) (by kernel_rfl) (fun _ _ _ h => h) (Or.inl ⟨by rfl, ?yq263⟩) (by assumption) ?rq263
        case yq263 => (intro w hSw; (try dsimp only at hSw); go_simp; (try with_reducible rfl))
        (try simp only [Act.put, List.setIfInBounds_toArray, List.set_cons_zero, List.set_cons_succ])
        refine wpAnyH_take (i := 3) (oi := { dst := some 120, op := Op.load 32 (Operand.tmp 119), type := 32, pos := "law.go:104", after := #[{ on := 2, ground := Ground.data }], guard := none }) (v := ?vq264) rfl (by kernel_rfl) (by kernel_rfl) (by kernel_rfl) (fun _ _ _ h => h) (Or.inl ⟨by rfl, ?yq264⟩) (by assumption) ?rq264
        case yq264 => (intro w hSw; (try dsimp only at hSw); go_simp; (try with_reducible rfl))
        (try simp only [Act.put, List.setIfInBounds_toArray, List.set_cons_zero, List.set_cons_succ])
        refine wpAnyH_take (i := 5) (oi := { dst := some 122, op := Op.fieldAddr 53 (Operand.tmp 9) 1, type := 0, pos := "law.go:104", after := #[], guard := none }) (v := ?vq265) rfl (by kernel_rfl) (by kernel_rfl) (by kernel_rfl) (fun _ _ _ h => h) (Or.inl ⟨by rfl, ?yq265⟩) (by assumption) ?rq265
        case yq265 => (intro w hSw; (try dsimp only at hSw); go_simp; (try with_reducible rfl))
        (try simp only [Act.put, List.setIfInBounds_toArray, List.set_cons_zero, List.set_cons_succ])
        refine wpAnyH_take (i := 6) (oi := { dst := some 123, op := Op.load 3 (Operand.tmp 122), type := 3, pos := "law.go:104", after := #[{ on := 5, ground := Ground.data }], guard := none }) (v := ?vq266) rfl (by kernel_rfl) (by kernel_rfl) (by kernel_rfl) (fun _ _ _ h => h) (Or.inl ⟨by rfl, ?yq266⟩) (by assumption) ?rq266
        case yq266 => (intro w hSw; (try dsimp only at hSw); go_simp; (try with_reducible rfl))
        (try simp only [Act.put, List.setIfInBounds_toArray, List.set_cons_zero, List.set_cons_succ])
        refine wpAnyH_take (i := 7) (oi := { dst := some 124, op := Op.fieldAddr 53 (Operand.tmp 9) 2, type := 0, pos := "law.go:104", after := #[], guard := none }) (v := ?vq267) rfl (by kernel_rfl) (by kernel_rfl) (by kernel_rfl) (fun _ _ _ h => h) (Or.inl ⟨by rfl, ?yq267⟩) (by assumption) ?rq267
        case yq267 => (intro w hSw; (try dsimp only at hSw); go_simp; (try with_reducible rfl))
        (try simp only [Act.put, List.setIfInBounds_toArray, List.set_cons_zero, List.set_cons_succ])
        refine wpAnyH_take (i := 8) (oi := { dst := some 125, op := Op.load 3 (Operand.tmp 124), type := 3, pos := "law.go:104", after := #[{ on := 7, ground := Ground.data }], guard := none }) (v := ?vq268) rfl (by kernel_rfl) (by kernel_rfl) (by kernel_rfl) (fun _ _ _ h => h) (Or.inl ⟨by rfl, ?yq268⟩) (by assumption) ?rq268
        case yq268 => (intro w hSw; (try dsimp only at hSw); go_simp; (try with_reducible rfl))
        (try simp only [Act.put, List.setIfInBounds_toArray, List.set_cons_zero, List.set_cons_succ])
        refine wpAnyH_take (i := 9) (oi := { dst := some 126, op := Op.fieldAddr 53 (Operand.tmp 9) 3, type := 0, pos := "law.go:104", after := #[], guard := none }) (v := ?vq269) rfl (by kernel_rfl) (by kernel_rfl) (by kernel_rfl) (fun _ _ _ h => h) (Or.inl ⟨by rfl, ?yq269⟩) (by assumption) ?rq269
        case yq269 => (intro w hSw; (try dsimp only at hSw); go_simp; (try with_reducible rfl))
        (try simp only [Act.put, List.setIfInBounds_toArray, List.set_cons_zero, List.set_cons_succ])
        refine wpAnyH_take (i := 10) (oi := { dst := some 127, op := Op.load 3 (Operand.tmp 126), type := 3, pos := "law.go:104", after := #[{ on := 9, ground := Ground.data }], guard := none }) (v := ?vq2610) rfl (by kernel_rfl) (by kernel_rfl) (by kernel_rfl) (fun _ _ _ h => h) (Or.inl ⟨by rfl, ?yq2610⟩) (by assumption) ?rq2610
        case yq2610 => (intro w hSw; (try dsimp only at hSw); go_simp; (try with_reducible rfl))
        (try simp only [Act.put, List.setIfInBounds_toArray, List.set_cons_zero, List.set_cons_succ])
        refine wpAnyH_ready (rs := [4]) (by kernel_rfl) (by simp) ?_
        refine AllReadyH.cons (o := { dst := some 121, op := Op.call { callee := Callee.value (Operand.func 9), args := #[Operand.tmp 120], argTypes := #[32] }, type := 30, pos := "law.go:104", after := #[{ on := 3, ground := Ground.data }], guard := none }) rfl (fun K hK => ?_) AllReadyH.nil
        go_simp
        (go_at_call 9; (with_reducible refine (kl_table HKd.out.kl).mono ?_); rintro e w5 ⟨rfl, rfl⟩)
        go_wp2_with fail
        refine hK.out _ _ ?_ (fun hHq2610 => ?_)
        · (try dsimp only)
          exact HSO.out _ HKd.out.kl.at0 rfl
        clear hK K hH
        (try simp only [Act.put, List.setIfInBounds_toArray, List.set_cons_zero, List.set_cons_succ])
        refine wpAnyH_ready (rs := [11]) (by kernel_rfl) (by simp) ?_
        refine AllReadyH.cons (o := { dst := some 128, op := Op.call { callee := Callee.value (Operand.func 11), args := #[Operand.tmp 121, Operand.tmp 123, Operand.tmp 125, Operand.tmp 127], argTypes := #[30, 3, 3, 3] }, type := 38, pos := "law.go:104", after := #[{ on := 4, ground := Ground.data }, { on := 6, ground := Ground.data }, { on := 8, ground := Ground.data }, { on := 10, ground := Ground.data }, { on := 4, ground := Ground.chain }], guard := none }) rfl (fun K hK => ?_) AllReadyH.nil
        go_simp
        (go_at_call 11; (with_reducible refine (ka_ask HKd.out (HO.out.o.small (by have := HLT.out; omega) (by have := HN.out; omega)) (by have := HLT.out; omega) x.f1 x.f2 x.f3 HWo.out.2.1).mono ?_); rintro e w6 ⟨⟨r6, g6, rfl⟩, hk, hh⟩; have HK6 := Aside0.mk hk; have HH6 := Aside0.mk hh; clear hk hh)
        go_wp2_with fail
        refine hK.out _ _ ?_ (fun hHq2611 => ?_)
        · (try dsimp only)
          exact HSO.out _ HK6.out.kl.at0 HH6.out
        clear hK K hHq2610
        (try simp only [Act.put, List.setIfInBounds_toArray, List.set_cons_zero, List.set_cons_succ])
        refine wpAnyH_done (by kernel_rfl) ?_ _
        go_wp2_with fail
        go_roundg (l.length - (i + 1))
        case measure => have := HLT.out; omega
        case rel => exact ⟨i + 1, nx, k.ask c.f7 x.f1 x.f2 x.f3, by have := HLT.out; omega, Nat.le_refl _, by first | rw [W3.out] | simp, rfl, by have := HLT.out; omega, ⟨HK6.out.kl⟩, ⟨HO.out.ask H64.out HV.out.1 HV.out.2 x.f2 x.f3⟩, HC⟩
      have e0 : (x.f0 == 0) = false := beq_eq_false_iff_ne.2 k0
      by_cases k1 : x.f0 = 1
      · have e1 : (x.f0 == 1) = true := beq_iff_eq.2 k1
        clear k0 k1
        go_wp2_with fail
        clear q0 q1 q2 q3 y0 y1 x4
        generalize wr.alloc (.cells #[.int .i64 x.f0, .int .i64 x.f1, .int .i64 x.f2, .int .i64 x.f3] 53) = wa at HKa HY X4 ⊢
        generalize wr.heap.size = a at HKa HY ⊢
        have HSO := Aside0.mk (fun (W : World) (h1 : W.cell? ⟨b, 0, none⟩ = some (.pointer (some ⟨P.p, 0, none⟩))) (h2 : W.heap[a]? = wa.heap[a]?) => (show W.cell? ⟨b, 0, none⟩ = some (.pointer (some ⟨P.p, 0, none⟩)) ∧ W.cell? ⟨a, 1, none⟩ = some (.int .i64 x.f1) ∧ W.cell? ⟨a, 2, none⟩ = some (.int .i64 x.f2) ∧ W.cell? ⟨a, 3, none⟩ = some (.int .i64 x.f3) from ⟨h1, (blk_cell (h2.trans HY.out) 1).trans rfl, (blk_cell (h2.trans HY.out) 2).trans rfl, (blk_cell (h2.trans HY.out) 3).trans rfl⟩))
        have HKd := Aside0.mk (HKa.out.below (below_drew (Below.refl _ _)))
        refine wp_region_held_drew (S := (fun W => W.cell? ⟨b, 0, none⟩ = some (.pointer (some ⟨P.p, 0, none⟩)) ∧ W.cell? ⟨a, 1, none⟩ = some (.int .i64 x.f1) ∧ W.cell? ⟨a, 2, none⟩ = some (.int .i64 x.f2) ∧ W.cell? ⟨a, 3, none⟩ = some (.int .i64 x.f3))) (by kernel_rfl) ?_ (fun hH => ?_)
        · exact HSO.out _ HKd.out.kl.at0 rfl
        refine wpAnyH_take (i := 0) (oi := { dst := some 131, op := Op.move (Operand.tmp 5), type := 25, pos := "law.go:106", after := #[], guard := none }) (v := ?vq281) rfl (by kernel_rfl) (by kernel_rfl) (by kernel_rfl) (fun _ _ _ h => h) (Or.inl ⟨by rfl, ?yq281⟩) (by assumption) ?rq281
        case yq281 => (intro w hSw; (try dsimp only at hSw); go_simp; (try with_reducible rfl))
        (try simp only [Act.put, List.setIfInBounds_toArray, List.set_cons_zero, List.set_cons_succ])
        refine wpAnyH_take (i := 1) (oi := { dst := some 132, op := Op.nilCheck (Operand.tmp 131), type := 0, pos := "law.go:106", after := #[{ on := 0, ground := Ground.data }], guard := none }) (v := ?vq282) rfl (by kernel_rfl) (by kernel_rfl) (by kernel_rfl) (fun _ _ _ h => h) (Or.inl ⟨by rfl, ?yq282⟩) (by assumption) ?rq282
        case yq282 => (intro w hSw; (try dsimp only at hSw); go_simp; (try with_reducible rfl))
        (try simp only [Act.put, List.setIfInBounds_toArray, List.set_cons_zero, List.set_cons_succ])
        refine wpAnyH_take (i := 2) (oi := { dst := some 133, op := Op.fieldAddr 36 (Operand.tmp 132) 0, type := 0, pos := "law.go:106", after := #[{ on := 1, ground := Ground.data }], guard := none }) (v := ?vq283) rfl (by kernel_rfl) (by kernel_rfl) (by kernel_rfl) (fun _ _ _ h => h) (Or.inl ⟨by rfl, ?yq283⟩) (by assumption) ?rq283
        case yq283 => (intro w hSw; (try dsimp only at hSw); go_simp; (try with_reducible rfl))
        (try simp only [Act.put, List.setIfInBounds_toArray, List.set_cons_zero, List.set_cons_succ])
        refine wpAnyH_take (i := 3) (oi := { dst := some 134, op := Op.load 32 (Operand.tmp 133), type := 32, pos := "law.go:106", after := #[{ on := 2, ground := Ground.data }], guard := none }) (v := ?vq284) rfl (by kernel_rfl) (by kernel_rfl) (by kernel_rfl) (fun _ _ _ h => h) (Or.inl ⟨by rfl, ?yq284⟩) (by assumption) ?rq284
        case yq284 => (intro w hSw; (try dsimp only at hSw); go_simp; (try with_reducible rfl))
        (try simp only [Act.put, List.setIfInBounds_toArray, List.set_cons_zero, List.set_cons_succ])
        refine wpAnyH_take (i := 5) (oi := { dst := some 136, op := Op.fieldAddr 53 (Operand.tmp 9) 1, type := 0, pos := "law.go:106", after := #[], guard := none }) (v := ?vq285) rfl (by kernel_rfl) (by kernel_rfl) (by kernel_rfl) (fun _ _ _ h => h) (Or.inl ⟨by rfl, ?yq285⟩) (by assumption) ?rq285
        case yq285 => (intro w hSw; (try dsimp only at hSw); go_simp; (try with_reducible rfl))
        (try simp only [Act.put, List.setIfInBounds_toArray, List.set_cons_zero, List.set_cons_succ])
        refine wpAnyH_take (i := 6) (oi := { dst := some 137, op := Op.load 3 (Operand.tmp 136), type := 3, pos := "law.go:106", after := #[{ on := 5, ground := Ground.data }], guard := none }) (v := ?vq286) rfl (by kernel_rfl) (by kernel_rfl) (by kernel_rfl) (fun _ _ _ h => h) (Or.inl ⟨by rfl, ?yq286⟩) (by assumption) ?rq286
        case yq286 => (intro w hSw; (try dsimp only at hSw); go_simp; (try with_reducible rfl))
        (try simp only [Act.put, List.setIfInBounds_toArray, List.set_cons_zero, List.set_cons_succ])
        refine wpAnyH_ready (rs := [4]) (by kernel_rfl) (by simp) ?_
        refine AllReadyH.cons (o := { dst := some 135, op := Op.call { callee := Callee.value (Operand.func 9), args := #[Operand.tmp 134], argTypes := #[32] }, type := 30, pos := "law.go:106", after := #[{ on := 3, ground := Ground.data }], guard := none }) rfl (fun K hK => ?_) AllReadyH.nil
        go_simp
        (go_at_call 9; (with_reducible refine (kl_table HKd.out.kl).mono ?_); rintro e w5 ⟨rfl, rfl⟩)
        go_wp2_with fail
        refine hK.out _ _ ?_ (fun hHq286 => ?_)
        · (try dsimp only)
          exact HSO.out _ HKd.out.kl.at0 rfl
        clear hK K hH
        (try simp only [Act.put, List.setIfInBounds_toArray, List.set_cons_zero, List.set_cons_succ])
        refine wpAnyH_ready (rs := [7]) (by kernel_rfl) (by simp) ?_
        refine AllReadyH.cons (o := { dst := some 138, op := Op.call { callee := Callee.value (Operand.func 21), args := #[Operand.tmp 135, Operand.tmp 137], argTypes := #[30, 3] }, type := 29, pos := "law.go:106", after := #[{ on := 4, ground := Ground.data }, { on := 6, ground := Ground.data }, { on := 4, ground := Ground.chain }], guard := none }) rfl (fun K hK => ?_) AllReadyH.nil
        go_simp
        (go_at_call 21; (with_reducible refine (ka_drop HKd.out HO.out.o (by have := HLT.out; omega) (by have := HN.out; omega) (by have := HN.out; omega) x.f1 HWo.out.2.1).mono ?_); rintro e w6 ⟨⟨A6, n6, c6, rfl⟩, hk, hh⟩; have HK6 := Aside0.mk hk; have HH6 := Aside0.mk hh; clear hk hh)
        go_wp2_with fail
        refine hK.out _ _ ?_ (fun hHq287 => ?_)
        · (try dsimp only)
          exact HSO.out _ HK6.out.kl.at0 HH6.out
        clear hK K hHq286
        (try simp only [Act.put, List.setIfInBounds_toArray, List.set_cons_zero, List.set_cons_succ])
        refine wpAnyH_done (by kernel_rfl) ?_ _
        go_wp2_with fail
        go_roundg (l.length - (i + 1))
        case measure => have := HLT.out; omega
        case rel => exact ⟨i + 1, nx, k.drop x.f1, by have := HLT.out; omega, Nat.le_refl _, by first | rw [W3.out] | simp, rfl, by have := HLT.out; omega, ⟨HK6.out.kl.more⟩, ⟨(HO.out.drop x.f1).more⟩, HC⟩
      have e1 : (x.f0 == 1) = false := beq_eq_false_iff_ne.2 k1
      by_cases k2 : x.f0 = 2
      · have e2 : (x.f0 == 2) = true := beq_iff_eq.2 k2
        have W4 := Aside0.mk (show wrap64 ((nx : Int) + 1) = ((nx + 1 : Nat) : Int) by have := HLT.out; unfold wrap64; omega)
        have HFx := Aside0.mk (show actOf (k.live x.f1 nx).s x.f1 = true ∧ tickOf (k.live x.f1 nx).s x.f1 = (nx : Int) ∧ doomOf (k.live x.f1 nx).s x.f1 = 0 from by
          have := live_facts HO.out.l (tick := (nx : Int)) (HO.out.has HV.out.1 HV.out.2) x.f1
          rw [if_pos rfl, if_pos rfl, if_pos rfl] at this
          exact this)
        have HO2 := Aside0.mk (show OwI nd n c.f7 i ((nx + 1 : Nat) : Int) (k.live x.f1 nx) from by
          have := HO.out.live HV.out.1 HV.out.2
          rwa [show ((nx : Int) + 1) = ((nx + 1 : Nat) : Int) from by omega] at this)
        have n1 : ((nx : Int) != (nx : Int)) = false := by simp
        clear k0 k1 k2
        go_wp2_with fail
        refine (ka_live HKa.out HO.out.l x.f1 nx).mono ?_
        rintro e w5 ⟨rfl, hk, hh⟩
        have HK5 := Aside0.mk hk
        have z1 : w5.cell? ⟨wr.heap.size, 1, none⟩ = some (.int .i64 x.f1) := (blk_cell (hh.trans HY.out) 1).trans rfl
        clear hk hh q0 q1 q2 q3 y0 y1 x4
        go_wp2_with fail
        refine (kl_doom HK5.out.kl HO2.out.l x.f1).mono ?_
        rintro e w6 ⟨rfl, rfl⟩
        rw [HFx.out.2.2]
        go_wp2_with fail
        refine (kl_ticket HK5.out.kl HO2.out.l x.f1).mono ?_
        rintro e w7 ⟨rfl, rfl⟩
        rw [HFx.out.2.1]
        go_wp2_with fail
        refine (kl_active HK5.out.kl HO2.out.l x.f1).mono ?_
        rintro e w8 ⟨rfl, rfl⟩
        rw [HFx.out.1]
        go_wp2_with fail
        go_roundg (l.length - (i + 1))
        case measure => have := HLT.out; omega
        case rel => exact ⟨i + 1, nx + 1, k.live x.f1 nx, by have := HLT.out; omega, Nat.le_refl _, by first | rw [W3.out] | simp, by first | rw [W4.out] | simp, by have := HLT.out; omega, ⟨HK5.out.kl.more⟩, ⟨HO2.out.more⟩, ⟨by show (liveS k.s x.f1 nx).c = c; unfold liveS; split <;> exact HC.out⟩⟩
      have e2 : (x.f0 == 2) = false := beq_eq_false_iff_ne.2 k2
      by_cases k3 : x.f0 = 3
      · have e3 : (x.f0 == 3) = true := beq_iff_eq.2 k3
        have HFx := Aside0.mk (show actOf (k.ends x.f1).s x.f1 = false ∧ doomOf (k.ends x.f1).s x.f1 = doomOf k.s x.f1 from by
          have := ends_facts HO.out.l (HO.out.has HV.out.1 HV.out.2) x.f1
          rw [if_pos rfl] at this
          exact ⟨this.1, this.2.2⟩)
        have HO2 := Aside0.mk (HO.out.ends HV.out.1 HV.out.2)
        clear k0 k1 k2 k3
        go_wp2_with fail
        refine (kl_doom HKa.out.kl HO.out.l x.f1).mono ?_
        rintro e w4 ⟨rfl, rfl⟩
        go_wp2_with fail
        refine (ka_ends HKa.out HO.out.l x.f1).mono ?_
        rintro e w5 ⟨rfl, hk, hh⟩
        have HK5 := Aside0.mk hk
        have z1 : w5.cell? ⟨wr.heap.size, 1, none⟩ = some (.int .i64 x.f1) := (blk_cell (hh.trans HY.out) 1).trans rfl
        clear hk hh q0 q1 q2 q3 y0 y1 x4
        go_wp2_with fail
        refine (kl_active HK5.out.kl HO2.out.l x.f1).mono ?_
        rintro e w6 ⟨rfl, rfl⟩
        rw [HFx.out.1]
        go_wp2_with fail
        refine (kl_doom HK5.out.kl HO2.out.l x.f1).mono ?_
        rintro e w7 ⟨rfl, rfl⟩
        rw [HFx.out.2]
        generalize doomOf k.s x.f1 = dd
        have n1 : (dd != dd) = false := by simp
        go_wp2_with fail
        go_roundg (l.length - (i + 1))
        case measure => have := HLT.out; omega
        case rel => exact ⟨i + 1, nx, k.ends x.f1, by have := HLT.out; omega, Nat.le_refl _, by first | rw [W3.out] | simp, rfl, by have := HLT.out; omega, ⟨HK5.out.kl.more⟩, ⟨HO2.out.more⟩, ⟨by show (endsS k.s x.f1).c = c; unfold endsS; split <;> exact HC.out⟩⟩
      have e3 : (x.f0 == 3) = false := beq_eq_false_iff_ne.2 k3
      clear k0 k1 k2 k3 HV
      have HKq := Aside0.mk HKa.out.kl
      have HL := Aside0.mk HO.out.l
      have HD := Aside0.mk HO.out.d
      have HE0 := Aside0.mk (El.zero k.s)
      have X4' := Aside0.mk x4
      go_wp2_with fail
      clear q0 q1 q2 q3 y0 y1 HKa HY x4
      generalize wr.alloc (.cells #[.int .i64 x.f0, .int .i64 x.f1, .int .i64 x.f2, .int .i64 x.f3] 53) = wa at HKq X4 X4' ⊢
      go_loopg [11, 12] n (fun gg v11 v12 wr => ∃ (t : Nat) (el : Int), t ≤ n ∧ n - t ≤ gg ∧ v12 = .int .i64 t ∧ v11 = .int .i64 el ∧ Aside0 (El k.s t el) ∧ wr = wa)
      case atStart => exact ⟨0, -1, by omega, by omega, rfl, rfl, HE0, rfl⟩
      case round =>
        obtain ⟨t, el, ht, hgt, rfl, rfl, HE, rfl⟩ := hrel
        have x4 := X4'.out
        by_cases hlt : t < n
        · have t3 : (t : Int) < n := by omega
          have HTT := Aside0.mk (And.intro hlt hgt)
          have WT := Aside0.mk (show wrap64 ((t : Int) + 1) = ((t + 1 : Nat) : Int) by have := H64.out; unfold wrap64; omega)
          clear hlt hgt ht
          go_wp2_with fail
          refine (kl_active HKq.out HL.out t).mono ?_
          rintro e w6 ⟨rfl, rfl⟩
          by_cases ha : actOf k.s (t : Int) = true
          · rw [ha]
            go_wp2_with fail
            refine (kl_doom HKq.out HL.out t).mono ?_
            rintro e w6 ⟨rfl, rfl⟩
            by_cases hd : doomOf k.s (t : Int) = 0
            · have d1 : (doomOf k.s (t : Int) == 0) = true := beq_iff_eq.2 hd
              have HCn := Aside0.mk (show Cnt k.s (t : Int) from ⟨ha, hd⟩)
              rw [hd]
              clear ha hd d1
              by_cases he : el < 0
              · have d2 : decide (el < 0) = true := decide_eq_true he
                have HEn := Aside0.mk (HE.out.first he HCn.out)
                clear he
                go_wp2_with fail
                go_roundg (n - (t + 1))
                case measure => have := HTT.out; omega
                case rel => exact ⟨t + 1, t, by have := HTT.out; omega, Nat.le_refl _, by first | rw [WT.out] | simp, rfl, HEn, rfl⟩
              · have d2 : decide (el < 0) = false := decide_eq_false he
                go_wp2_with fail
                refine (kl_ticket HKq.out HL.out t).mono ?_
                rintro e w6 ⟨rfl, rfl⟩
                go_wp2_with fail
                refine (kl_ticket HKq.out HL.out el).mono ?_
                rintro e w6 ⟨rfl, rfl⟩
                by_cases hx : tickOf k.s (t : Int) < tickOf k.s el
                · have d3 : decide (tickOf k.s (t : Int) < tickOf k.s el) = true := decide_eq_true hx
                  have HEn := Aside0.mk (HE.out.less (by omega) HCn.out hx)
                  clear he
                  go_wp2_with fail
                  go_roundg (n - (t + 1))
                  case measure => have := HTT.out; omega
                  case rel => exact ⟨t + 1, t, by have := HTT.out; omega, Nat.le_refl _, by first | rw [WT.out] | simp, rfl, HEn, rfl⟩
                · have d3 : decide (tickOf k.s (t : Int) < tickOf k.s el) = false := decide_eq_false hx
                  have HEn := Aside0.mk (HE.out.stay HD.out (by omega) HCn.out hx)
                  clear he
                  go_wp2_with fail
                  go_roundg (n - (t + 1))
                  case measure => have := HTT.out; omega
                  case rel => exact ⟨t + 1, el, by have := HTT.out; omega, Nat.le_refl _, by first | rw [WT.out] | simp, rfl, HEn, rfl⟩
            · have d1 : (doomOf k.s (t : Int) == 0) = false := beq_eq_false_iff_ne.2 hd
              have HEn := Aside0.mk (HE.out.no (fun h => hd h.2))
              clear ha hd
              go_wp2_with fail
              go_roundg (n - (t + 1))
              case measure => have := HTT.out; omega
              case rel => exact ⟨t + 1, el, by have := HTT.out; omega, Nat.le_refl _, by first | rw [WT.out] | simp, rfl, HEn, rfl⟩
          · have HEn := Aside0.mk (HE.out.no (fun h => ha h.1))
            rw [show actOf k.s (t : Int) = false from by simpa using ha]
            clear ha
            go_wp2_with fail
            go_roundg (n - (t + 1))
            case measure => have := HTT.out; omega
            case rel => exact ⟨t + 1, el, by have := HTT.out; omega, Nat.le_refl _, by first | rw [WT.out] | simp, rfl, HEn, rfl⟩
        · obtain rfl : t = n := by omega
          have t3 : ¬ ((t : Int) < t) := by omega
          have hmt := marks_tick k.s (k.ed t) HL.out HD.out (fun x hx => (HO.out.edge x hx).1) (by have := HBI.out.2.2.2.2.2.2.2.2.2.2.2; rw [HC.out]; omega)
          have HM1 := Aside0.mk hmt.1
          have HM2 := Aside0.mk hmt.2.1
          have HM3 := Aside0.mk hmt.2.2.1
          have HM4 := Aside0.mk (show tkB c.f11 (tickS (marksS k.s (k.ed t)) (k.ed t)) (liveE (tickS (marksS k.s (k.ed t)) (k.ed t)) (k.ed t)) from by have := hmt.2.2.2; rwa [HC.out] at this)
          have HG0 := Aside0.mk (HO.out.good (by have := HLT.out; omega) (by have := HN.out; omega) H64.out)
          have HF0 := Aside0.mk (HO.out.finv H64.out)
          have HSm := Aside0.mk (marks_same k.s (k.ed t))
          have HO1 := Aside0.mk (show OwI nd t c.f7 i nx (k.marks t) from HO.out.same HSm.out)
          have HO2 := Aside0.mk (show OwI nd t c.f7 i nx ((k.marks t).tick t) from HO.out.same HM1.out)
          have HG1 := Aside0.mk (HO1.out.good (by have := HLT.out; omega) (by have := HN.out; omega) H64.out)
          have HG2 := Aside0.mk (HO2.out.good (by have := HLT.out; omega) (by have := HN.out; omega) H64.out)
          have HI := Aside0.mk (show i ≤ 1000000 by have := HLT.out; omega)
          have HEd := Aside0.mk (HE.out.eldest HO.out.n)
          have HTo := Aside0.mk (fun x (hx : x ∈ liveE (tickS (marksS k.s (k.ed t)) (k.ed t)) (k.ed t)) => (HO.out.edge x (mem_live.1 hx).1).2.2)
          clear hmt hlt hgt ht HE
          go_wp2_with fail
          clear x4
          refine (kl_marks HKq.out HI.out HG0.out HF0.out).mono ?_
          rintro e w6 ⟨rfl, hk⟩
          have HK6 := Aside0.mk hk
          clear hk
          go_wp2_with fail
          refine (kl_tick HK6.out HI.out HG1.out HF0.out).mono ?_
          rintro e w7 ⟨⟨A7, c7, rfl, -⟩, hk⟩
          have HK7 := Aside0.mk hk
          clear hk
          have X7 := Aside0.mk (below_then E4.out E4.out.size HK7.out.base)
          have HONE := Aside0.mk (oneWay_ HK7.out HI.out HG2.out HF0.out c HN4.out H64.out HM3.out HTo.out HM4.out)
          rcases HEd.out with rfl | ⟨e0, e1⟩
          · obtain ⟨x0, x1, x2, x3, x4, x5, x6, x7, x8, x9, x10, x11⟩ := HX.out _ X7.out
            go_wp2_with fail
            refine HONE.out.mono ?_
            rintro e w8 ⟨rfl, hk⟩
            have HK8 := Aside0.mk hk
            clear hk x0 x1 x2 x3 x4 x5 x6 x7 x8 x9 x10 x11
            go_wp2_with fail
            go_roundg (l.length - (i + 1))
            case measure => have := HLT.out; omega
            case rel => exact ⟨i + 1, nx, (k.marks t).tick t, by have := HLT.out; omega, Nat.le_refl _, by first | rw [W3.out] | simp, rfl, by have := HLT.out; omega, ⟨HK8.out.more⟩, ⟨HO2.out.more⟩, ⟨HM1.out.2.2.1.trans HC.out⟩⟩
          · have d0 : decide (el ≥ 0) = true := decide_eq_true e0
            have d0' : decide (0 ≤ el) = true := decide_eq_true e0
            have HDz := Aside0.mk (HM2.out el e1)
            clear e0 e1
            go_wp2_with fail
            refine (kl_doom HK7.out HO2.out.l el).mono ?_
            rintro e w8 ⟨rfl, rfl⟩
            rw [show doomOf ((k.marks t).tick t).s el = 0 from HDz.out]
            obtain ⟨x0, x1, x2, x3, x4, x5, x6, x7, x8, x9, x10, x11⟩ := HX.out _ X7.out
            go_wp2_with fail
            refine HONE.out.mono ?_
            rintro e w8 ⟨rfl, hk⟩
            have HK8 := Aside0.mk hk
            clear hk x0 x1 x2 x3 x4 x5 x6 x7 x8 x9 x10 x11
            go_wp2_with fail
            go_roundg (l.length - (i + 1))
            case measure => have := HLT.out; omega
            case rel => exact ⟨i + 1, nx, (k.marks t).tick t, by have := HLT.out; omega, Nat.le_refl _, by first | rw [W3.out] | simp, rfl, by have := HLT.out; omega, ⟨HK8.out.more⟩, ⟨HO2.out.more⟩, ⟨HM1.out.2.2.1.trans HC.out⟩⟩
    · obtain rfl : i = l.length := by omega
      have t1 : ¬ ((l.length : Int) < l.length) := by omega
      have HZ := Aside0.mk (below_then EN.out EN.out.size HK.out.base)
      clear hlt hgg hi hnx
      go_wp2_with fail
      refine (HF.out _).mono ?_
      rintro e w6 ⟨rfl, hb⟩
      have HZ2 := Aside0.mk (below_then HZ.out HZ.out.size hb)
      clear hb
      go_wp2_with fail
      go_ret
      exact ⟨rfl, HZ2.out⟩
set_option maxHeartbeats 16000000 in
set_option maxRecDepth 100000 in
theorem one_walk (c : Cf) (A : Option Addr) (cc : Nat) (l : List Op4) (w : World) (hr : Kd.C kOp4 w A l.length l) (hc : l.length ≤ cc) (hw : l.length ≤ maxLen) (hl : ∀ x ∈ l, ok64 x.f0 ∧ ok64 x.f1 ∧ ok64 x.f2 ∧ ok64 x.f3) : Calls Tryz.prog 6 #[.agg #[.int .i64 c.f0, .int .i64 c.f1, .int .i64 c.f2, .int .i64 c.f3, .int .i64 c.f4, .int .i64 c.f5, .int .i64 c.f6, .int .i64 c.f7, .int .i64 c.f8, .int .i64 c.f9, .int .i64 c.f10, .int .i64 c.f11], .slice A l.length cc] w fun e w' => e = .returned (.bool true) ∧ Below w.heap.size w w' := by
  by_cases h : l.length ≤ 300
  · rcases conf_all c with ⟨r, h1, h2⟩ | ⟨h1, h2, m, sz, nd, g1, g2, g3, g4, g5, g6, g7, g8, g9⟩
    · exact one_bad c A cc l w h r h1 h2
    · exact one_in c A cc l w hr hc hl h h1 h2 m sz nd g1 g2 g3 g4 g5 g6 g7 g8 g9
  · exact one_long c A cc l w (by omega)
end Go.Proofs.YtaaekmcmpjljgaaGreat.Co
