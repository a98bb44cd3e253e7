import Derived.Test.YtaaekmcmpjljgaaGreatCA
import Derived.Test.YtaaekmcmpjljgaaGreatGC
import Derived.Deep.RegionLaw
import Derived.Test.YtaaekmcmpjljgaaGreatTb8
import Derived.Test.YtaaekmcmpjljgaaGreatTB
import Derived.Deep.RegionHeld3
namespace Go.Proofs.YtaaekmcmpjljgaaGreat.Co
open Go.RowKit Go.Proofs.YtaaekmcmpjljgaaGreatW.PrintWords Go.Proofs.YtaaekmcmpjljgaaGreatW.PrintLast Go.Proofs.YtaaekmcmpjljgaaGreatW.PrintMore Go.Proofs.YtaaekmcmpjljgaaGreat.PMd Go.Proofs.YtaaekmcmpjljgaaGreat.Ln Go.Proofs.YtaaekmcmpjljgaaGreat.Gr
set_option linter.unusedVariables false
set_option linter.unusedSimpArgs false
theorem Row.val_at {w : World} {e n cap : Nat} {A : Option Addr} {xs : List Value} (h : Row w e 1 A n cap xs) {i : Nat} {v : Value} (hv : xs[i]? = some v) (hn : 0 < n) :
    ∃ g off, A = some ⟨g, off, none⟩ ∧ w.cell? ⟨g, off + i, none⟩ = some v ∧ w.frozen? ⟨g, off + i, none⟩ = false := by
  obtain ⟨g', off', cur, e, _, _, hc⟩ := h.at_ hn
  exact ⟨g', off', e, (hc i _ hv).1, (hc i _ hv).2⟩
def Lens (s : CoreS) : Prop := s.ac.length = s.tk.length ∧ s.dm.length = s.tk.length ∧ s.tk.length ≤ 64
def hasB (s : CoreS) (t : Int) : Bool := decide (0 ≤ t ∧ t < (s.tk.length : Int))
def doomOf (s : CoreS) (t : Int) : Int := if hasB s t then s.dm.getD t.toNat 0 else 0
def tickOf (s : CoreS) (t : Int) : Int := if hasB s t then s.tk.getD t.toNat 0 else 0
def actOf (s : CoreS) (t : Int) : Bool := if hasB s t then s.ac.getD t.toNat false else false
def countsB (s : CoreS) (t : Int) : Bool := if actOf s t then s.dm.getD t.toNat 0 == 0 else false
theorem has_cases (s : CoreS) (t : Int) : hasB s t = false ∨ ∃ k : Nat, t = (k : Int) ∧ k < s.tk.length ∧ hasB s t = true := by
  unfold hasB
  by_cases h : 0 ≤ t ∧ t < (s.tk.length : Int)
  · exact .inr ⟨t.toNat, by omega, by omega, decide_eq_true h⟩
  · exact .inl (decide_eq_false h)
section
variable {w : World} {b : Nat} {P : Pl} {F : Nat → Prop} {s : CoreS}
theorem IsCore.blk_at (h : IsCore w b P F s) : ∃ tA tc aA ac dA dc, w.cell? ⟨b, 1, none⟩ = some (.slice tA s.tk.length tc) ∧ w.cell? ⟨b, 2, none⟩ = some (.slice aA s.ac.length ac) ∧ w.cell? ⟨b, 3, none⟩ = some (.slice dA s.dm.length dc) ∧
    Row w 3 1 tA s.tk.length tc (vi s.tk) ∧ Row w 4 1 aA s.ac.length ac (vb s.ac) ∧ Row w 26 1 dA s.dm.length dc (vi s.dm) := by
  obtain ⟨tA, tc, aA, ac, dA, dc, FC, h1, h2, h3, h4, h5, h6, h7, h8, h9, h10, h11, h12, h13⟩ := h
  exact ⟨tA, tc, aA, ac, dA, dc, (blk_cell h1 1).trans rfl, (blk_cell h1 2).trans rfl, (blk_cell h1 3).trans rfl, h5, h7, h9⟩
set_option maxRecDepth 100000 in
theorem has_ (h : IsCore w b P F s) (t : Int) (hl : s.tk.length ≤ 64) : Calls Tryz.prog 37 #[.pointer (some ⟨b, 0, none⟩), .int .i64 t] w fun e w' => e = .returned (.bool (hasB s t)) ∧ w' = w := by
  have hu := Tryz.underlying36
  obtain ⟨tA, tc, aA, ac, dA, dc, c1, c2, c3, r1, r2, r3⟩ := h.blk_at
  obtain ⟨n, hn⟩ : ∃ n, n = s.tk.length := ⟨_, rfl⟩
  have HH := Aside0.mk (show hasB s t = decide (0 ≤ t ∧ t < (n : Int)) from by rw [hn]; rfl)
  rw [← hn] at c1
  have HN := Aside0.mk hn
  clear h r1 r2 r3 hn c2 c3
  by_cases h0 : 0 ≤ t
  · by_cases h1 : t < (n : Int)
    · have HF := Aside0.mk (show true = hasB s t by rw [HH.out]; exact (decide_eq_true ⟨h0, h1⟩).symm)
      go_enter Tryz.func37, Tryz.ntmps37
      go_wp2_with fail
      go_ret
      exact ⟨congrArg (fun q => Ending.returned (.bool q)) HF.out, rfl⟩
    · have HF := Aside0.mk (show false = hasB s t by rw [HH.out]; exact (decide_eq_false (fun h => h1 h.2)).symm)
      go_enter Tryz.func37, Tryz.ntmps37
      go_wp2_with fail
      go_ret
      exact ⟨congrArg (fun q => Ending.returned (.bool q)) HF.out, rfl⟩
  · have HF := Aside0.mk (show false = hasB s t by rw [HH.out]; exact (decide_eq_false (fun h => h0 h.1)).symm)
    go_enter Tryz.func37, Tryz.ntmps37
    go_wp2_with fail
    go_ret
    exact ⟨congrArg (fun q => Ending.returned (.bool q)) HF.out, rfl⟩
set_option maxRecDepth 100000 in
theorem coreDoom_ (h : IsCore w b P F s) (hl : Lens s) (t : Int) : Calls Tryz.prog 14 #[.pointer (some ⟨b, 0, none⟩), .int .i64 t] w fun e w' => e = .returned (.int .i64 (doomOf s t)) ∧ w' = w := by
  have hu := Tryz.underlying36
  have HH := Aside0.mk (has_ h t hl.2.2)
  obtain ⟨tA, tc, aA, ac, dA, dc, c1, c2, c3, r1, r2, r3⟩ := h.blk_at
  have HL := Aside0.mk hl
  rcases has_cases s t with hf | ⟨k, rfl, hk, hf⟩
  · have HF := Aside0.mk (show doomOf s t = 0 by unfold doomOf; rw [hf]; rfl)
    rw [hf] at HH
    clear h r1 r2 r3 hf hl c1 c2 c3
    go_enter Tryz.func14, Tryz.ntmps14
    go_wp2_with fail
    refine HH.out.mono ?_
    rintro e w1 ⟨rfl, rfl⟩
    go_wp2_with fail
    go_ret
    exact ⟨congrArg (fun q : Int => Ending.returned (.int .i64 q)) HF.out.symm, rfl⟩
  · have HF := Aside0.mk (show doomOf s (k : Int) = s.dm.getD k 0 by unfold doomOf; rw [hf]; rfl)
    rw [hf] at HH
    have hd : k < s.dm.length := by rw [hl.2.1]; exact hk
    obtain ⟨g, off, rfl, q0, _⟩ := Row.val_at r3 (vi_get hd) (by omega)
    have t1 : 0 ≤ (k : Int) := by omega
    have t2 : (k : Int) < (s.dm.length : Int) := by omega
    have t3 : s.dm.length ≤ 9223372036854775807 := by have := hl.2.2; have := hl.2.1; omega
    generalize s.dm.getD k 0 = z at q0 HF
    clear h r1 r2 r3 hf hl c1 c2 hk hd
    go_enter Tryz.func14, Tryz.ntmps14
    go_wp2_with fail
    refine HH.out.mono ?_
    rintro e w1 ⟨rfl, rfl⟩
    go_wp2_with fail
    go_ret
    exact ⟨congrArg (fun q : Int => Ending.returned (.int .i64 q)) HF.out.symm, rfl⟩
set_option maxRecDepth 100000 in
theorem coreTicket_ (h : IsCore w b P F s) (hl : Lens s) (t : Int) : Calls Tryz.prog 17 #[.pointer (some ⟨b, 0, none⟩), .int .i64 t] w fun e w' => e = .returned (.int .i64 (tickOf s t)) ∧ w' = w := by
  have hu := Tryz.underlying36
  have HH := Aside0.mk (has_ h t hl.2.2)
  obtain ⟨tA, tc, aA, ac, dA, dc, c1, c2, c3, r1, r2, r3⟩ := h.blk_at
  have HL := Aside0.mk hl
  rcases has_cases s t with hf | ⟨k, rfl, hk, hf⟩
  · have HF := Aside0.mk (show tickOf s t = 0 by unfold tickOf; rw [hf]; rfl)
    rw [hf] at HH
    clear h r1 r2 r3 hf hl c1 c2 c3
    go_enter Tryz.func17, Tryz.ntmps17
    go_wp2_with fail
    refine HH.out.mono ?_
    rintro e w1 ⟨rfl, rfl⟩
    go_wp2_with fail
    go_ret
    exact ⟨congrArg (fun q : Int => Ending.returned (.int .i64 q)) HF.out.symm, rfl⟩
  · have HF := Aside0.mk (show tickOf s (k : Int) = s.tk.getD k 0 by unfold tickOf; rw [hf]; rfl)
    rw [hf] at HH
    obtain ⟨g, off, rfl, q0, _⟩ := Row.val_at r1 (vi_get hk) (by omega)
    have t1 : 0 ≤ (k : Int) := by omega
    have t2 : (k : Int) < (s.tk.length : Int) := by omega
    have t3 : s.tk.length ≤ 9223372036854775807 := by have := hl.2.2; omega
    generalize s.tk.getD k 0 = z at q0 HF
    clear h r1 r2 r3 hf hl c2 c3 hk
    go_enter Tryz.func17, Tryz.ntmps17
    go_wp2_with fail
    refine HH.out.mono ?_
    rintro e w1 ⟨rfl, rfl⟩
    go_wp2_with fail
    go_ret
    exact ⟨congrArg (fun q : Int => Ending.returned (.int .i64 q)) HF.out.symm, rfl⟩
theorem vb_get {l : List Bool} {i : Nat} (h : i < l.length) : (vb l)[i]? = some (.bool (l.getD i false)) := by
  simp [vb, List.getElem?_eq_getElem h, List.getD_eq_getElem?_getD]
set_option maxRecDepth 100000 in
theorem coreActive_ (h : IsCore w b P F s) (hl : Lens s) (t : Int) : Calls Tryz.prog 18 #[.pointer (some ⟨b, 0, none⟩), .int .i64 t] w fun e w' => e = .returned (.bool (actOf s t)) ∧ w' = w := by
  have hu := Tryz.underlying36
  have HH := Aside0.mk (has_ h t hl.2.2)
  obtain ⟨tA, tc, aA, ac, dA, dc, c1, c2, c3, r1, r2, r3⟩ := h.blk_at
  have HL := Aside0.mk hl
  rcases has_cases s t with hf | ⟨k, rfl, hk, hf⟩
  · have HF := Aside0.mk (show actOf s t = false by unfold actOf; rw [hf]; rfl)
    rw [hf] at HH
    clear h r1 r2 r3 hf hl c1 c2 c3
    go_enter Tryz.func18, Tryz.ntmps18
    go_wp2_with fail
    refine HH.out.mono ?_
    rintro e w1 ⟨rfl, rfl⟩
    go_wp2_with fail
    go_ret
    exact ⟨congrArg (fun q => Ending.returned (.bool q)) HF.out.symm, rfl⟩
  · have HF := Aside0.mk (show actOf s (k : Int) = s.ac.getD k false by unfold actOf; rw [hf]; rfl)
    rw [hf] at HH
    have hd : k < s.ac.length := by rw [hl.1]; exact hk
    obtain ⟨g, off, rfl, q0, _⟩ := Row.val_at r2 (vb_get hd) (by omega)
    have t1 : 0 ≤ (k : Int) := by omega
    have t2 : (k : Int) < (s.ac.length : Int) := by omega
    have t3 : s.ac.length ≤ 9223372036854775807 := by have := hl.2.2; have := hl.1; omega
    generalize s.ac.getD k false = z at q0 HF
    clear h r1 r2 r3 hf hl c1 c3 hk hd
    go_enter Tryz.func18, Tryz.ntmps18
    go_wp2_with fail
    refine HH.out.mono ?_
    rintro e w1 ⟨rfl, rfl⟩
    go_wp2_with fail
    go_ret
    exact ⟨congrArg (fun q => Ending.returned (.bool q)) HF.out.symm, rfl⟩
set_option maxRecDepth 100000 in
theorem counts_ (h : IsCore w b P F s) (hl : Lens s) (t : Int) : Calls Tryz.prog 49 #[.pointer (some ⟨b, 0, none⟩), .int .i64 t] w fun e w' => e = .returned (.bool (countsB s t)) ∧ w' = w := by
  have hu := Tryz.underlying36
  have HH := Aside0.mk (coreActive_ h hl t)
  obtain ⟨tA, tc, aA, ac, dA, dc, c1, c2, c3, r1, r2, r3⟩ := h.blk_at
  have HL := Aside0.mk hl
  cases ha : actOf s t with
  | false =>
    have HF := Aside0.mk (show countsB s t = false by unfold countsB; rw [ha]; rfl)
    rw [ha] at HH
    clear h r1 r2 r3 hl c1 c2 c3 ha
    go_enter Tryz.func49, Tryz.ntmps49
    go_wp2_with fail
    refine HH.out.mono ?_
    rintro e w1 ⟨rfl, rfl⟩
    go_wp2_with fail
    go_ret
    exact ⟨congrArg (fun q => Ending.returned (.bool q)) HF.out.symm, rfl⟩
  | true =>
    rcases has_cases s t with hf | ⟨k, rfl, hk, hf⟩
    · unfold actOf at ha
      rw [hf] at ha
      cases ha
    · have HF := Aside0.mk (show countsB s (k : Int) = (s.dm.getD k 0 == 0) by unfold countsB; rw [ha]; rfl)
      rw [ha] at HH
      have hd : k < s.dm.length := by rw [hl.2.1]; exact hk
      obtain ⟨g, off, rfl, q0, _⟩ := Row.val_at r3 (vi_get hd) (by omega)
      have t1 : 0 ≤ (k : Int) := by omega
      have t2 : (k : Int) < (s.dm.length : Int) := by omega
      have t3 : s.dm.length ≤ 9223372036854775807 := by have := hl.2.2; have := hl.2.1; omega
      generalize s.dm.getD k 0 = z at q0 HF
      clear h r1 r2 r3 hf hl c1 c2 hk hd ha
      go_enter Tryz.func49, Tryz.ntmps49
      go_wp2_with fail
      refine HH.out.mono ?_
      rintro e w1 ⟨rfl, rfl⟩
      go_wp2_with fail
      go_ret
      exact ⟨congrArg (fun q => Ending.returned (.bool q)) HF.out.symm, rfl⟩
set_option maxRecDepth 100000 in
theorem partsTable_ (c : Cf) (hp : w.heap[P.p]? = some (.cells (partsC c P) 73 (0, 0))) : Calls Tryz.prog 9 #[.pointer (some ⟨P.p, 0, none⟩)] w fun e w' => e = .returned (.pointer (some ⟨P.tb, 0, none⟩)) ∧ w' = w := by
  have hu := Tryz.underlying73
  have c1 : w.cell? ⟨P.p, 13, none⟩ = some (.pointer (some ⟨P.tb, 0, none⟩)) := (blk_cell hp 13).trans rfl
  clear hp
  go_enter Tryz.func9, Tryz.ntmps9
  go_wp2_with fail
  go_ret
  exact ⟨rfl, rfl⟩
end
end Go.Proofs.YtaaekmcmpjljgaaGreat.Co
namespace Go.Proofs.YtaaekmcmpjljgaaGreat.Co
open Go.RowKit Go.Proofs.YtaaekmcmpjljgaaGreatW.PrintWords Go.Proofs.YtaaekmcmpjljgaaGreatW.PrintLast Go.Proofs.YtaaekmcmpjljgaaGreatW.PrintMore Go.Proofs.YtaaekmcmpjljgaaGreat.PMd Go.Proofs.YtaaekmcmpjljgaaGreat.Ln Go.Proofs.YtaaekmcmpjljgaaGreat.Gr
set_option linter.unusedVariables false
set_option linter.unusedSimpArgs false
theorem vb_set (l : List Bool) (i : Nat) (v : Bool) : (vb l).set i (.bool v) = vb (l.set i v) := by simp [vb, List.map_set]
theorem off_of {w : World} {e sz n c : Nat} {A : Option Addr} {xs : List Value} (h : Row w e sz A n c xs) {k : Nat} {cs : Array Value} {t : TypeId} (hb : w.heap[k]? = some (.cells cs t (0, 0))) (hne : t ≠ e) : ¬ blk A k := fun hk => by
  obtain ⟨cur, hc⟩ := h.typed hk
  rw [hb] at hc
  injection hc with hc
  injection hc with _ hc
  exact hne hc
section
variable {w : World} {b : Nat} {P : Pl} {F : Nat → Prop} {s : CoreS}
theorem IsCore.pb (h : IsCore w b P F s) : P.p ≠ b := fun e => by
  obtain ⟨tA, tc, aA, ac, dA, dc, FC, h1, h2, _⟩ := h
  rw [e] at h2
  rw [h1] at h2
  injection h2 with h2
  injection h2 with _ h2
  exact absurd h2 (by decide)
theorem IsCore.tk_to (h : IsCore w b P F s) (k : Nat) (hk : k < s.tk.length) (v : Int) : ∃ g off c, w.cell? ⟨b, 1, none⟩ = some (.slice (some ⟨g, off, none⟩) s.tk.length c) ∧ w.cell? ⟨g, off + k, none⟩ = some (.int .i64 (s.tk.getD k 0)) ∧ w.frozen? ⟨g, off + k, none⟩ = false ∧ F g ∧ g ≠ b ∧ g ≠ P.p ∧
    IsCore (w.setCell ⟨g, off + k, none⟩ (.int .i64 v)) b P F { s with tk := s.tk.set k v } := by
  have hpb := h.pb
  obtain ⟨tA, tc, aA, ac, dA, dc, FC, h1, h2, h3, h4, h5, h6, h7, h8, h9, h10, h11, h12, h13⟩ := h
  obtain ⟨g, off, cur, hA, hg, hs, hc⟩ := h5.at_ (by omega)
  subst hA
  have hgb : ∀ j, j ≠ g → (w.setCell ⟨g, off + k, none⟩ (.int .i64 v)).heap[j]? = w.heap[j]? := fun j hj => Below.heap_setCell w ⟨g, off + k, none⟩ _ j hj
  have n1 : b ≠ g := fun e => by rw [e] at h1; rw [h1] at hg; injection hg with hg; injection hg with _ hg; exact absurd hg (by decide)
  have n2 : P.p ≠ g := fun e => by rw [e] at h2; rw [h2] at hg; injection hg with hg; injection hg with _ hg; exact absurd hg (by decide)
  have nC : ∀ q, FC q → q ≠ g := fun q hq e => (h13 q hq).2.2.1 ⟨_, rfl, e.symm⟩
  refine ⟨g, off, tc, (blk_cell h1 1).trans rfl, (hc k _ (vi_get hk)).1, (hc k _ (vi_get hk)).2, h6 g ⟨_, rfl, rfl⟩, fun e => n1 e.symm, fun e => n2 e.symm, ?_⟩
  refine ⟨some ⟨g, off, none⟩, tc, aA, ac, dA, dc, FC, ?_, (hgb _ n2).trans h2, h3, h4, ?_, h6, h7.set (p := ⟨g, off + k, none⟩) (off_of h7 hg (by decide)) _, h8, h9.set (p := ⟨g, off + k, none⟩) (off_of h9 hg (by decide)) _, h10, h11.move (fun q hq _ => hgb q (nC q hq)), h12, h13⟩
  · have := (hgb b n1).trans h1
    simpa using this
  · have := h5.put k (by rw [vi_len]; exact hk) (.int .i64 v)
    rw [vi_set] at this
    simpa using this
theorem IsCore.ac_to (h : IsCore w b P F s) (k : Nat) (hk : k < s.ac.length) (v : Bool) : ∃ g off c, w.cell? ⟨b, 2, none⟩ = some (.slice (some ⟨g, off, none⟩) s.ac.length c) ∧ w.cell? ⟨g, off + k, none⟩ = some (.bool (s.ac.getD k false)) ∧ w.frozen? ⟨g, off + k, none⟩ = false ∧ F g ∧ g ≠ b ∧ g ≠ P.p ∧
    IsCore (w.setCell ⟨g, off + k, none⟩ (.bool v)) b P F { s with ac := s.ac.set k v } := by
  have hpb := h.pb
  obtain ⟨tA, tc, aA, ac, dA, dc, FC, h1, h2, h3, h4, h5, h6, h7, h8, h9, h10, h11, h12, h13⟩ := h
  obtain ⟨g, off, cur, hA, hg, hs, hc⟩ := h7.at_ (by omega)
  subst hA
  have hgb : ∀ j, j ≠ g → (w.setCell ⟨g, off + k, none⟩ (.bool v)).heap[j]? = w.heap[j]? := fun j hj => Below.heap_setCell w ⟨g, off + k, none⟩ _ j hj
  have n1 : b ≠ g := fun e => by rw [e] at h1; rw [h1] at hg; injection hg with hg; injection hg with _ hg; exact absurd hg (by decide)
  have n2 : P.p ≠ g := fun e => by rw [e] at h2; rw [h2] at hg; injection hg with hg; injection hg with _ hg; exact absurd hg (by decide)
  have nC : ∀ q, FC q → q ≠ g := fun q hq e => (h13 q hq).2.2.2.1 ⟨_, rfl, e.symm⟩
  refine ⟨g, off, ac, (blk_cell h1 2).trans rfl, (hc k _ (vb_get hk)).1, (hc k _ (vb_get hk)).2, h8 g ⟨_, rfl, rfl⟩, fun e => n1 e.symm, fun e => n2 e.symm, ?_⟩
  refine ⟨tA, tc, some ⟨g, off, none⟩, ac, dA, dc, FC, ?_, (hgb _ n2).trans h2, h3, h4, h5.set (p := ⟨g, off + k, none⟩) (off_of h5 hg (by decide)) _, h6, ?_, h8, h9.set (p := ⟨g, off + k, none⟩) (off_of h9 hg (by decide)) _, h10, h11.move (fun q hq _ => hgb q (nC q hq)), h12, h13⟩
  · have := (hgb b n1).trans h1
    simpa using this
  · have := h7.put k (by rw [show (vb s.ac).length = s.ac.length by simp [vb]]; exact hk) (.bool v)
    rw [vb_set] at this
    simpa using this
theorem IsCore.dm_to (h : IsCore w b P F s) (k : Nat) (hk : k < s.dm.length) (v : Int) : ∃ g off c, w.cell? ⟨b, 3, none⟩ = some (.slice (some ⟨g, off, none⟩) s.dm.length c) ∧ w.cell? ⟨g, off + k, none⟩ = some (.int .i64 (s.dm.getD k 0)) ∧ w.frozen? ⟨g, off + k, none⟩ = false ∧ F g ∧ g ≠ b ∧ g ≠ P.p ∧
    IsCore (w.setCell ⟨g, off + k, none⟩ (.int .i64 v)) b P F { s with dm := s.dm.set k v } := by
  have hpb := h.pb
  obtain ⟨tA, tc, aA, ac, dA, dc, FC, h1, h2, h3, h4, h5, h6, h7, h8, h9, h10, h11, h12, h13⟩ := h
  obtain ⟨g, off, cur, hA, hg, hs, hc⟩ := h9.at_ (by omega)
  subst hA
  have hgb : ∀ j, j ≠ g → (w.setCell ⟨g, off + k, none⟩ (.int .i64 v)).heap[j]? = w.heap[j]? := fun j hj => Below.heap_setCell w ⟨g, off + k, none⟩ _ j hj
  have n1 : b ≠ g := fun e => by rw [e] at h1; rw [h1] at hg; injection hg with hg; injection hg with _ hg; exact absurd hg (by decide)
  have n2 : P.p ≠ g := fun e => by rw [e] at h2; rw [h2] at hg; injection hg with hg; injection hg with _ hg; exact absurd hg (by decide)
  have nC : ∀ q, FC q → q ≠ g := fun q hq e => (h13 q hq).2.2.2.2 ⟨_, rfl, e.symm⟩
  refine ⟨g, off, dc, (blk_cell h1 3).trans rfl, (hc k _ (vi_get hk)).1, (hc k _ (vi_get hk)).2, h10 g ⟨_, rfl, rfl⟩, fun e => n1 e.symm, fun e => n2 e.symm, ?_⟩
  refine ⟨tA, tc, aA, ac, some ⟨g, off, none⟩, dc, FC, ?_, (hgb _ n2).trans h2, h3, h4, h5.set (p := ⟨g, off + k, none⟩) (off_of h5 hg (by decide)) _, h6, h7.set (p := ⟨g, off + k, none⟩) (off_of h7 hg (by decide)) _, h8, ?_, h10, h11.move (fun q hq _ => hgb q (nC q hq)), h12, h13⟩
  · have := (hgb b n1).trans h1
    simpa using this
  · have := h9.put k (by rw [vi_len]; exact hk) (.int .i64 v)
    rw [vi_set] at this
    simpa using this
end
end Go.Proofs.YtaaekmcmpjljgaaGreat.Co
namespace Go.Proofs.YtaaekmcmpjljgaaGreat.Co
open Go.RowKit Go.Proofs.YtaaekmcmpjljgaaGreatW.PrintWords Go.Proofs.YtaaekmcmpjljgaaGreatW.PrintLast Go.Proofs.YtaaekmcmpjljgaaGreatW.PrintMore Go.Proofs.YtaaekmcmpjljgaaGreat.PMd Go.Proofs.YtaaekmcmpjljgaaGreat.Ln Go.Proofs.YtaaekmcmpjljgaaGreat.Gr
set_option linter.unusedVariables false
set_option linter.unusedSimpArgs false
def liveS (s : CoreS) (t tick : Int) : CoreS := if hasB s t then { s with tk := s.tk.set t.toNat tick, ac := s.ac.set t.toNat true, dm := s.dm.set t.toNat 0 } else s
def endsS (s : CoreS) (t : Int) : CoreS := if hasB s t then { s with ac := s.ac.set t.toNat false } else s
def doom1S (s : CoreS) (t e : Int) : CoreS := if hasB s t then { s with dm := s.dm.set t.toNat e } else s
def doomS (s : CoreS) (e : Int) : List Int → CoreS
  | [] => s
  | t :: l => doomS (doom1S s t e) e l
theorem grew_put {F : Nat → Prop} {w0 w : World} (h : Grew F w0 w) {p : Addr} (hp : F p.block) (u : Value) : Grew F w0 (w.setCell p u) :=
  ⟨h.os, h.tape, h.output, by rw [show (w.setCell p u).heap.size = w.heap.size by simp [World.setCell]]; exact h.size, fun k hk hn => (Below.heap_setCell w p u k (fun e => hn (e ▸ hp))).trans (h.block k hk hn)⟩
theorem grew_drew {F : Nat → Prop} {w w' : World} (h : Grew F w w') : Grew F w w'.drew := ⟨h.os, h.tape, h.output, h.size, h.block⟩
section
variable {w : World} {b : Nat} {P : Pl} {F : Nat → Prop} {s : CoreS}
def Left (w : World) (b : Nat) (P : Pl) (F : Nat → Prop) (s' : CoreS) (e : Ending) (w' : World) : Prop := e = .returned (.tuple #[]) ∧ IsCore w' b P F s' ∧ Grew F w w'
set_option maxHeartbeats 8000000 in
set_option maxRecDepth 100000 in
theorem Live_ (h : IsCore w b P F s) (hl : Lens s) (t tick : Int) : Calls Tryz.prog 10 #[.pointer (some ⟨b, 0, none⟩), .int .i64 t, .int .i64 tick] w (Left w b P F (liveS s t tick)) := by
  have hu := Tryz.underlying36
  have HH := Aside0.mk (has_ h t hl.2.2)
  have H0 := Aside0.mk h
  rcases has_cases s t with hf | ⟨k, rfl, hk, hf⟩
  · have HF := Aside0.mk (show liveS s t tick = s by unfold liveS; rw [hf]; rfl)
    rw [hf] at HH
    clear h hf hl
    go_enter Tryz.func10, Tryz.ntmps10
    go_wp2_with fail
    refine HH.out.mono ?_
    rintro e w1 ⟨rfl, rfl⟩
    go_wp2_with fail
    go_end0
    exact ⟨rfl, by rw [HF.out]; exact H0.out, Grew.refl _ _⟩
  · have HF := Aside0.mk (show liveS s (k : Int) tick = { s with tk := s.tk.set k tick, ac := s.ac.set k true, dm := s.dm.set k 0 } by unfold liveS; rw [hf]; rfl)
    rw [hf] at HH
    obtain ⟨g1, o1, t1, a1, b1, f1, G1, n1, -, i1⟩ := h.tk_to k hk tick
    obtain ⟨g2, o2, t2, a2, b2, f2, G2, n2, -, i2⟩ := i1.ac_to k (by rw [hl.1]; exact hk) true
    obtain ⟨g3, o3, t3, a3, b3, f3, G3, n3, -, i3⟩ := i2.dm_to k (by rw [hl.2.1]; exact hk) 0
    have a2' : w.cell? ⟨b, 2, none⟩ = some (.slice (some ⟨g2, o2, none⟩) s.ac.length t2) := (World.cell?_of_block (a := ⟨b, 2, none⟩) (Below.heap_setCell w ⟨g1, o1 + k, none⟩ _ b (Ne.symm n1))).symm.trans a2
    have a3' : w.cell? ⟨b, 3, none⟩ = some (.slice (some ⟨g3, o3, none⟩) s.dm.length t3) := (World.cell?_of_block (a := ⟨b, 3, none⟩) ((Below.heap_setCell _ ⟨g2, o2 + k, none⟩ _ b (Ne.symm n2)).trans (Below.heap_setCell w ⟨g1, o1 + k, none⟩ _ b (Ne.symm n1)))).symm.trans a3
    have l2 : s.ac.length = s.tk.length := hl.1
    have l3 : s.dm.length = s.tk.length := hl.2.1
    rw [l2] at a2'
    rw [l3] at a3'
    have HI3 := Aside0.mk i3
    have HG := Aside0.mk (And.intro G1 (And.intro G2 G3))
    have q1 : 0 ≤ (k : Int) := by omega
    have q2 : (k : Int) < (s.tk.length : Int) := by omega
    have q3 : s.tk.length ≤ 9223372036854775807 := by have := hl.2.2; omega
    dsimp only at b2 b3 f2 f3
    generalize s.tk.getD k 0 = v1 at b1
    generalize s.ac.getD k false = v2 at b2
    generalize s.dm.getD k 0 = v3 at b3
    generalize s.tk.length = n at a1 a2' a3' q2 q3
    have d1 : w.drew.cell? ⟨b, 1, none⟩ = some (.slice (some ⟨g1, o1, none⟩) n t1) := a1
    have d2 : w.drew.cell? ⟨b, 2, none⟩ = some (.slice (some ⟨g2, o2, none⟩) n t2) := a2'
    have d3 : w.drew.cell? ⟨b, 3, none⟩ = some (.slice (some ⟨g3, o3, none⟩) n t3) := a3'
    have e1 : w.drew.cell? ⟨g1, o1 + k, none⟩ = some (.int .i64 v1) := b1
    have e2 : (w.setCell ⟨g1, o1 + k, none⟩ (.int .i64 tick)).drew.cell? ⟨g2, o2 + k, none⟩ = some (.bool v2) := b2
    have e3 : ((w.setCell ⟨g1, o1 + k, none⟩ (.int .i64 tick)).setCell ⟨g2, o2 + k, none⟩ (.bool true)).drew.cell? ⟨g3, o3 + k, none⟩ = some (.int .i64 v3) := b3
    have z1 : w.drew.frozen? ⟨g1, o1 + k, none⟩ = false := f1
    have z2 : (w.setCell ⟨g1, o1 + k, none⟩ (.int .i64 tick)).drew.frozen? ⟨g2, o2 + k, none⟩ = false := f2
    have z3 : ((w.setCell ⟨g1, o1 + k, none⟩ (.int .i64 tick)).setCell ⟨g2, o2 + k, none⟩ (.bool true)).drew.frozen? ⟨g3, o3 + k, none⟩ = false := f3
    clear h hl hk hf i1 i2 i3 G1 G2 G3 n1 n2 n3 a2 a3 l2 l3 a1 a2' a3' b1 b2 b3 f1 f2 f3
    go_enter Tryz.func10, Tryz.ntmps10
    go_wp2_with fail
    refine HH.out.mono ?_
    rintro e w1 ⟨rfl, rfl⟩
    go_wp2_with fail
    go_region_law fail
    all_goals
      go_end0
      refine ⟨rfl, by rw [HF.out]; exact HI3.out, grew_drew (grew_put (grew_put (grew_put (Grew.refl F w1) (p := ⟨g1, o1 + k, none⟩) HG.out.1 _) (p := ⟨g2, o2 + k, none⟩) HG.out.2.1 _) (p := ⟨g3, o3 + k, none⟩) HG.out.2.2 _)⟩
set_option maxHeartbeats 8000000 in
set_option maxRecDepth 100000 in
theorem Ends_ (h : IsCore w b P F s) (hl : Lens s) (t : Int) : Calls Tryz.prog 15 #[.pointer (some ⟨b, 0, none⟩), .int .i64 t] w (Left w b P F (endsS s t)) := by
  have hu := Tryz.underlying36
  have HH := Aside0.mk (has_ h t hl.2.2)
  have H0 := Aside0.mk h
  rcases has_cases s t with hf | ⟨k, rfl, hk, hf⟩
  · have HF := Aside0.mk (show endsS s t = s by unfold endsS; rw [hf]; rfl)
    rw [hf] at HH
    clear h hf hl
    go_enter Tryz.func15, Tryz.ntmps15
    go_wp2_with fail
    refine HH.out.mono ?_
    rintro e w1 ⟨rfl, rfl⟩
    go_wp2_with fail
    go_end0
    exact ⟨rfl, by rw [HF.out]; exact H0.out, Grew.refl _ _⟩
  · have HF := Aside0.mk (show endsS s (k : Int) = { s with ac := s.ac.set k false } by unfold endsS; rw [hf]; rfl)
    rw [hf] at HH
    have hk2 : k < s.ac.length := by rw [hl.1]; exact hk
    obtain ⟨g2, o2, t2, a2, b2, f2, G2, n2, -, i2⟩ := h.ac_to k hk2 false
    have HI3 := Aside0.mk i2
    have HG := Aside0.mk G2
    have q1 : 0 ≤ (k : Int) := by omega
    have q2 : (k : Int) < (s.ac.length : Int) := by omega
    have q3 : s.ac.length ≤ 9223372036854775807 := by have := hl.2.2; have := hl.1; omega
    generalize s.ac.getD k false = v2 at b2
    generalize s.ac.length = n at a2 q2 q3
    clear h hl hk hk2 hf i2 G2 n2
    go_enter Tryz.func15, Tryz.ntmps15
    go_wp2_with fail
    refine HH.out.mono ?_
    rintro e w1 ⟨rfl, rfl⟩
    go_wp2_with fail
    go_end0
    exact ⟨rfl, by rw [HF.out]; exact HI3.out, grew_put (Grew.refl F w1) (p := ⟨g2, o2 + k, none⟩) HG.out _⟩
theorem doom1_lens (hl : Lens s) (t e : Int) : Lens (doom1S s t e) := by
  unfold doom1S
  split
  · exact ⟨hl.1, by simp [hl.2.1], hl.2.2⟩
  · exact hl
theorem doomS_snoc (e : Int) : ∀ (l : List Int) (s : CoreS) (x : Int), doomS s e (l ++ [x]) = doom1S (doomS s e l) x e
  | [], _, _ => rfl
  | _ :: l, s, x => doomS_snoc e l _ x
theorem doomS_lens (e : Int) : ∀ (l : List Int) (s : CoreS), Lens s → Lens (doomS s e l)
  | [], _, h => h
  | t :: l, s, h => doomS_lens e l _ (doom1_lens h t e)
set_option maxHeartbeats 8000000 in
set_option maxRecDepth 100000 in
theorem doom_ (h : IsCore w b P F s) (hl : Lens s) (A : Option Addr) (c : Nat) (l : List Int) (e0 : Int) (hr : Row w 3 1 A l.length c (ints l)) (ho : ∀ k, blk A k → ¬ F k) (hll : l.length ≤ 1000000) :
    Calls Tryz.prog 42 #[.pointer (some ⟨b, 0, none⟩), .slice A l.length c, .int .i64 e0] w fun e w' => e = .returned (.slice A l.length c) ∧ IsCore w' b P F (doomS s e0 l) ∧ Grew F w w' ∧ w'.heap[b]? = w.heap[b]? := by
  have hu := Tryz.underlying36
  have HR := Aside0.mk hr
  have HO := Aside0.mk ho
  have HL := Aside0.mk hl
  have hl63 : l.length ≤ 9223372036854775807 := by omega
  have HLL := Aside0.mk hll
  have H0 := Aside0.mk h
  clear h hr ho hl
  go_enter Tryz.func42, Tryz.ntmps42
  go_wp2_with fail
  go_loopg [8, 11] l.length (fun gg _ v wr => ∃ k : Nat, k ≤ l.length ∧ l.length - k ≤ gg ∧ v = .int .i64 k ∧ Aside0 (IsCore wr b P F (doomS s e0 (l.take k))) ∧ Aside0 (Grew F w wr) ∧ Aside0 (wr.heap[b]? = w.heap[b]?))
  case atStart => exact ⟨0, by omega, by omega, rfl, H0, ⟨Grew.refl _ _⟩, ⟨rfl⟩⟩
  case round =>
    obtain ⟨k, hk, hgg, rfl, HI, HG, HBB⟩ := hrel
    by_cases hlt : k < l.length
    · obtain ⟨ad, rfl, q0⟩ := Kd.at_int (HR.out.grew HG.out (fun j hj hf => HO.out j hj hf)).readsI (k : Int) (by omega) (by omega)
      have p1 : 0 ≤ (k : Int) := by omega
      have p2 : (k : Int) < l.length := by omega
      have hsn : l.take (k + 1) = l.take k ++ [l[k]] := by rw [List.take_add_one, List.getElem?_eq_getElem hlt]; rfl
      rw [Int.toNat_natCast, show rd l (k : Int) = l[k] from by simp [rd, List.getElem?_eq_getElem hlt]] at q0
      have hs1 : doomS s e0 (l.take (k + 1)) = doom1S (doomS s e0 (l.take k)) l[k] e0 := by rw [hsn, doomS_snoc]
      generalize l[k] = x at q0 hs1
      have hls := doomS_lens e0 (l.take k) s HL.out
      generalize doomS s e0 (l.take k) = s1 at HI hs1 hls
      have HS1 := Aside0.mk hs1
      have HH := Aside0.mk (has_ HI.out x hls.2.2)
      rcases has_cases s1 x with hf | ⟨j, rfl, hj, hf⟩
      · have HF := Aside0.mk (show doomS s e0 (l.take (k + 1)) = s1 by rw [hs1]; unfold doom1S; rw [hf]; rfl)
        rw [hf] at HH
        clear hsn hf hls hs1
        go_wp2_with fail
        refine HH.out.mono ?_
        rintro e w1 ⟨rfl, rfl⟩
        go_wp2_with fail
        go_roundg (l.length - (k + 1))
        case measure => omega
        case rel => exact ⟨k + 1, by omega, by omega, by go_num, ⟨by rw [HF.out]; exact HI.out⟩, HG, HBB⟩
      · have HF := Aside0.mk (show doomS s e0 (l.take (k + 1)) = { s1 with dm := s1.dm.set j e0 } by rw [hs1]; unfold doom1S; rw [hf]; rfl)
        rw [hf] at HH
        have hj2 : j < s1.dm.length := by rw [hls.2.1]; exact hj
        obtain ⟨g2, o2, t2, a2, b2, f2, G2, n2, -, i2⟩ := HI.out.dm_to j hj2 e0
        have HI3 := Aside0.mk i2
        have HBB3 := Aside0.mk ((Below.heap_setCell wr ⟨g2, o2 + j, none⟩ (.int .i64 e0) b (Ne.symm n2)).trans HBB.out)
        have HG3 := Aside0.mk (grew_put HG.out (p := ⟨g2, o2 + j, none⟩) G2 (.int .i64 e0))
        have r1 : 0 ≤ (j : Int) := by omega
        have r2 : (j : Int) < (s1.dm.length : Int) := by omega
        have r3 : s1.dm.length ≤ 9223372036854775807 := by have := hls.2.2; have := hls.2.1; omega
        generalize s1.dm.getD j 0 = v2 at b2
        generalize s1.dm.length = n at a2 r2 r3
        clear hsn hls hs1 hj hj2 hf i2 G2 n2
        go_wp2_with fail
        refine HH.out.mono ?_
        rintro e w1 ⟨rfl, rfl⟩
        go_wp2_with fail
        go_roundg (l.length - (k + 1))
        case measure => omega
        case rel => exact ⟨k + 1, by omega, by omega, by go_num, ⟨by rw [HF.out]; exact HI3.out⟩, HG3, HBB3⟩
    · have HF := Aside0.mk (show l.take k = l from List.take_of_length_le (by omega))
      go_wp2_with fail
      go_ret
      exact ⟨rfl, by have := HI.out; rw [HF.out] at this; exact this, HG.out, HBB.out⟩
end
end Go.Proofs.YtaaekmcmpjljgaaGreat.Co
namespace Go.Proofs.YtaaekmcmpjljgaaGreat.Co
open Go.RowKit Go.Proofs.YtaaekmcmpjljgaaGreatW.PrintWords Go.Proofs.YtaaekmcmpjljgaaGreatW.PrintLast Go.Proofs.YtaaekmcmpjljgaaGreatW.PrintMore Go.Proofs.YtaaekmcmpjljgaaGreat.PMd Go.Proofs.YtaaekmcmpjljgaaGreat.Ln Go.Proofs.YtaaekmcmpjljgaaGreat.Gr
open Go.Maps
set_option linter.unusedVariables false
set_option linter.unusedSimpArgs false
theorem ok64_to {x : Int} (h : wrap64 x = x) : ok64 x := by
  have h1 := wrap64_wf x
  rw [h] at h1
  exact h1
theorem asc_ext {a b : List Int} (ha : a.Pairwise (· < ·)) (hb : b.Pairwise (· < ·)) (h : ∀ x, x ∈ a ↔ x ∈ b) : a = b := by
  induction a generalizing b with
  | nil => exact (List.eq_nil_iff_forall_not_mem.2 (fun x hx => by have := (h x).2 hx; cases this)).symm
  | cons x a ih =>
    cases b with
    | nil => exact absurd ((h x).1 (List.mem_cons_self ..)) (by simp)
    | cons y b =>
      obtain ⟨ha1, ha2⟩ := List.pairwise_cons.1 ha
      obtain ⟨hb1, hb2⟩ := List.pairwise_cons.1 hb
      have exy : x = y := by
        have h1 := (h x).1 (List.mem_cons_self ..)
        have h2 := (h y).2 (List.mem_cons_self ..)
        rcases List.mem_cons.1 h1 with h1 | h1
        · exact h1
        · rcases List.mem_cons.1 h2 with h2 | h2
          · exact h2.symm
          · have := ha1 y h2; have := hb1 x h1; omega
      subst exy
      rw [ih ha2 hb2 (fun z => ?_)]
      have hz := h z
      rw [List.mem_cons, List.mem_cons] at hz
      constructor
      · intro hm
        rcases hz.1 (.inr hm) with e | e
        · subst e; exact absurd (ha1 z hm) (by omega)
        · exact e
      · intro hm
        rcases hz.2 (.inr hm) with e | e
        · subst e; exact absurd (hb1 z hm) (by omega)
        · exact e
theorem sortedI_asc {l : List Int} (h : l.Nodup) : (sortedI l).Pairwise (· < ·) := by
  have h1 : (sortedI l).Pairwise (fun a b => decide (a ≤ b) = true) := List.pairwise_mergeSort (fun a b c h1 h2 => by simp at *; omega) (fun a b => by simp; omega) l
  have h2 : (sortedI l).Nodup := (List.mergeSort_perm l _).nodup_iff.2 h
  exact List.Pairwise.imp₂ (fun a b h1 h2 => by have h3 := of_decide_eq_true h1; omega) h1 h2
theorem sortedI_mem {l : List Int} {x : Int} : x ∈ sortedI l ↔ x ∈ l := by unfold sortedI; exact List.mem_mergeSort
theorem sortedI_len (l : List Int) : (sortedI l).length = l.length := List.length_mergeSort _
theorem edUp_all (ls : List LS) (f : At) (l : List Int) : edUp ls f (sortedI l) l.length = (sortedI l).flatMap (edT ls f) := by
  unfold edUp
  rw [List.take_of_length_le (by rw [sortedI_len]; exact Nat.le_refl _)]
def edK (ls : List LS) (f : At) (n : Nat) : List Ed := (List.range n).flatMap fun (i : Nat) => edT ls f (i : Int)
theorem flat_filter (ls : List LS) (f : At) : ∀ l : List Int, (l.filter fun x => (f x).isSome).flatMap (edT ls f) = l.flatMap (edT ls f)
  | [] => rfl
  | x :: l => by
    by_cases h : (f x).isSome
    · rw [List.filter_cons_of_pos (p := fun x => (f x).isSome) h, List.flatMap_cons, List.flatMap_cons, flat_filter ls f l]
    · rw [List.filter_cons_of_neg (p := fun x => (f x).isSome) h, List.flatMap_cons, flat_filter ls f l]
      have : edT ls f x = [] := by
        unfold edT
        cases hf : f x with
        | none => rfl
        | some n => rw [hf] at h; exact absurd rfl h
      rw [this, List.nil_append]
theorem edges_canon {ls : List LS} {f : At} {n : Nat} (hn : n ≤ 1000000) (hd : ∀ x, (f x).isSome = true → 0 ≤ x ∧ x < n) {l : List Int} (h1 : l.Nodup) (hl : ∀ x, x ∈ l ↔ ok64 x ∧ (f x).isSome = true) : edUp ls f (sortedI l) l.length = edK ls f n := by
  have e : sortedI l = ((List.range n).map Int.ofNat).filter (fun x => (f x).isSome) := by
    refine asc_ext (sortedI_asc h1) ?_ (fun x => ?_)
    · refine List.Pairwise.filter _ ?_
      rw [List.pairwise_map]
      exact List.Pairwise.imp (fun h => by simpa using h) List.pairwise_lt_range
    · rw [sortedI_mem, hl x, List.mem_filter, List.mem_map]
      constructor
      · rintro ⟨-, h⟩
        have := hd x h
        exact ⟨⟨x.toNat, by rw [List.mem_range]; omega, by simp; omega⟩, h⟩
      · rintro ⟨⟨i, hi, rfl⟩, h⟩
        rw [List.mem_range] at hi
        exact ⟨ok64_to (by show wrap64 (i : Int) = i; unfold wrap64; omega), h⟩
  rw [edUp_all, e, flat_filter, List.flatMap_map]
  rfl
def liveE (s : CoreS) (l : List Ed) : List Ed := l.filter fun x => countsB s x.1 && countsB s x.2
theorem liveE_is (s : CoreS) (l : List Ed) : (l.filter fun x => !(!countsB s x.1 || !countsB s x.2)) = liveE s l := by unfold liveE; congr 1; funext x; simp
theorem dead_lens (s : CoreS) (l : List Ed) : (liveE s l).length ≤ l.length := List.length_filter_le _ _
theorem core_bound {w : World} {b : Nat} {P : Pl} {F : Nat → Prop} {s : CoreS} (h : IsCore w b P F s) : IsCore w b P (fun k => F k ∧ k < w.heap.size) s := by
  obtain ⟨tA, tc, aA, ac, dA, dc, FC, h1, h2, h3, h4, h5, h6, h7, h8, h9, h10, h11, h12, h13⟩ := h
  exact ⟨tA, tc, aA, ac, dA, dc, fun k => FC k ∧ k < w.heap.size, h1, h2, ⟨h3, (Array.getElem?_eq_some_iff.1 h1).1⟩, ⟨h4, (Array.getElem?_eq_some_iff.1 h2).1⟩, h5, fun k hk => ⟨h6 k hk, h5.lt hk⟩, h7, fun k hk => ⟨h8 k hk, h7.lt hk⟩, h9, fun k hk => ⟨h10 k hk, h9.lt hk⟩,
    h11.mono (fun k hl hk => ⟨hk, hl⟩), fun k hk => ⟨h12 k hk.1, hk.2⟩, fun k hk => h13 k hk.1⟩
section
variable {w : World} {b : Nat} {P : Pl} {F FT : Nat → Prop} {s : CoreS} {ls : List LS} {most : Int} {N : Nat} {f : At}
set_option maxHeartbeats 8000000 in
set_option maxRecDepth 100000 in
theorem edges1_ (x y : Int) (g : Nat) (h : IsCore w b P F s) (hl : Lens s) (hc : w.cell? ⟨g, 0, none⟩ = some (.pointer (some ⟨b, 0, none⟩))) :
    Calls Tryz.prog 48 #[.agg #[.int .i64 x, .int .i64 y], .pointer (some ⟨g, 0, none⟩)] w fun e w' => e = .returned (.bool (!countsB s x || !countsB s y)) ∧ Below w.heap.size w w' := by
  have hu := Tryz.underlying87
  have c1 := cell_al0 hc (.cells #[.int .i64 x, .int .i64 y] 87)
  have HB := Aside0.mk (below_alloc (Below.refl w.heap.size w) (.cells #[.int .i64 x, .int .i64 y] 87))
  have H1 := Aside0.mk (counts_ (h.below HB.out) hl x)
  have H2 := Aside0.mk (counts_ (h.below HB.out) hl y)
  generalize countsB s x = p at H1
  generalize countsB s y = q at H2
  clear h hl
  cases p with
  | false =>
    go_enter Tryz.func48, Tryz.ntmps48
    go_wp2_with fail
    refine H1.out.mono ?_
    rintro e w1 ⟨rfl, rfl⟩
    go_wp2_with fail
    go_ret
    exact ⟨rfl, HB.out⟩
  | true =>
    go_enter Tryz.func48, Tryz.ntmps48
    go_wp2_with fail
    refine H1.out.mono ?_
    rintro e w1 ⟨rfl, rfl⟩
    go_wp2_with fail
    refine H2.out.mono ?_
    rintro e w2 ⟨rfl, rfl⟩
    go_wp2_with fail
    go_ret
    exact ⟨rfl, HB.out⟩
theorem enters_edges1 : ∀ args w, (callFunc 48 args).run Tryz.prog w = .ok (.enter 48 args) w := ent_of Tryz.func48 (by kernel_rfl) rfl
structure Fine (ls : List LS) (N : Nat) (f : At) (n : Nat) : Prop where
  small : Small ls
  keys : N ≤ 1000000
  lt : ∀ x k, f x = some k → k < ls.length
  dom : ∀ x, (f x).isSome = true → 0 ≤ x ∧ x < n
  few : (edK ls f n).length ≤ 400000
  most : n ≤ 1000000
set_option maxHeartbeats 8000000 in
set_option maxRecDepth 100000 in
theorem coreEdges_ (h : IsCore w b P F s) (hl : Lens s) (hT : IsTab w P.tb FT ls most N f) {n : Nat} (hf : Fine ls N f n) :
    Calls Tryz.prog 16 #[.pointer (some ⟨b, 0, none⟩)] w (OutE w (liveE s (edK ls f n))) := by
  have hu := Tryz.underlying36
  have hu2 := Tryz.underlying73
  have c0 := cell_al0 h.at0 (.cells #[.pointer (some ⟨b, 0, none⟩)] 25)
  have c1 := cell_al0 (show w.cell? ⟨P.p, 13, none⟩ = some (.pointer (some ⟨P.tb, 0, none⟩)) from (blk_cell h.parts 13).trans rfl) (.cells #[.pointer (some ⟨b, 0, none⟩)] 25)
  have HB0 := Aside0.mk (below_alloc (Below.refl w.heap.size w) (.cells #[.pointer (some ⟨b, 0, none⟩)] 25))
  have HC := Aside0.mk ((core_bound h).below HB0.out)
  have HL := Aside0.mk hl
  have HBX := Aside0.mk ((blk_cell (blk_new w (.cells #[.pointer (some ⟨b, 0, none⟩)] 25)) 0).trans rfl : (w.alloc (.cells #[.pointer (some ⟨b, 0, none⟩)] 25)).cell? ⟨w.heap.size, 0, none⟩ = some (.pointer (some ⟨b, 0, none⟩)))
  have HT := Aside0.mk (EdgesT_ (hT.below HB0.out) hf.small hf.keys hf.lt)
  have HF := Aside0.mk hf
  clear h hT hl hf
  go_enter Tryz.func16, Tryz.ntmps16
  go_wp2_with fail
  refine HT.out.mono ?_
  rintro e w1 ⟨l, l1, l2, A1, c1', rfl, r1, k1, b1⟩
  rw [edges_canon HF.out.most HF.out.dom l1 l2] at r1 ⊢
  have HB1 := Aside0.mk b1
  have HK1 := Aside0.mk k1
  have HR1 := Aside0.mk (show RowE w1 A1 c1' (edK ls f n) from r1)
  have HD := Aside0.mk (deleteE_ 48 #[.pointer (some ⟨w.heap.size, 0, none⟩)] (fun x => !countsB s x.1 || !countsB s x.2) enters_edges1 A1 c1' (edK ls f n) w1 HR1.out
    (fun W x y hG => edges1_ x y w.heap.size ((HC.out.below b1).move (fun k hF hk => hG.block k hk (fun hA => by have h1 := HK1.out k hA; have h2 := HB0.out; have h3 := hF.2; simp at h1; omega))) HL.out
      ((World.cell?_of_block (a := ⟨w.heap.size, 0, none⟩) (hG.block w.heap.size (Nat.lt_of_lt_of_le (by simp) HB1.out.size) (fun hA => by have h1 := HK1.out _ hA; simp at h1; omega))).trans ((HB1.out.cell (p := ⟨w.heap.size, 0, none⟩) (by simp)).trans HBX.out))) (by have := HF.out.few; omega))
  clear l1 l2 r1 k1 b1 HT
  go_wp2_with fail
  refine HD.out.mono ?_
  rintro e w2 ⟨rfl, r2, g2⟩
  rw [liveE_is] at r2 ⊢
  have HR2 := Aside0.mk r2
  have HG2 := Aside0.mk g2
  clear r2 g2
  go_wp2
  go_ret
  exact ⟨A1, c1', rfl, HR2.out, fun k hk => Nat.le_trans HB0.out.size (HK1.out k hk), HG2.out.to_below (below_then HB0.out HB0.out.size HB1.out) (below_then HB0.out HB0.out.size HB1.out).size (fun k hk => Nat.le_trans HB0.out.size (HK1.out k hk))⟩
end
end Go.Proofs.YtaaekmcmpjljgaaGreat.Co
namespace Go.Proofs.YtaaekmcmpjljgaaGreat.Co
open Go.RowKit Go.Proofs.YtaaekmcmpjljgaaGreatW.PrintWords Go.Proofs.YtaaekmcmpjljgaaGreatW.PrintLast Go.Proofs.YtaaekmcmpjljgaaGreatW.PrintMore Go.Proofs.YtaaekmcmpjljgaaGreat.PMd Go.Proofs.YtaaekmcmpjljgaaGreat.Ln Go.Proofs.YtaaekmcmpjljgaaGreat.Gr
open Go.Maps
set_option linter.unusedVariables false
set_option linter.unusedSimpArgs false
theorem core_mono {w : World} {b : Nat} {P : Pl} {F F' : Nat → Prop} {s : CoreS} (h : IsCore w b P F s) (hf : ∀ k, F k → F' k) : IsCore w b P F' s := by
  obtain ⟨tA, tc, aA, ac, dA, dc, FC, h1, h2, h3, h4, h5, h6, h7, h8, h9, h10, h11, h12, h13⟩ := h
  exact ⟨tA, tc, aA, ac, dA, dc, FC, h1, h2, hf _ h3, hf _ h4, h5, fun k hk => hf k (h6 k hk), h7, fun k hk => hf k (h8 k hk), h9, fun k hk => hf k (h10 k hk), h11, fun k hk => hf k (h12 k hk), h13⟩
theorem vic_len (d : List Int) (l : List Ed) (n : Nat) : ∀ (k : Nat) (gone c r : List Int), vicGo d l k gone c = some r → (∀ x ∈ c, x ∈ nodesE l ∧ x ∉ gone) → gone.length + unm (nodesE l) gone ≤ n → r.length ≤ n
  | k, gone, [], r, h, _, hn => by
    rw [vicGo_nil] at h
    injection h with h
    rw [← h]; omega
  | 0, gone, x :: c, r, h, _, _ => by cases h
  | k + 1, gone, x :: c, r, h, hc, hn => by
    unfold vicGo at h
    simp only at h
    have hm := hc _ (maxI_mem (ageF d) x c)
    refine vic_len d l n k _ _ r h (fun y hy => without_nodes (circ_sub y hy)) ?_
    have := unm_snoc (nodes_nodup l) hm.1 hm.2
    simp; omega
theorem vicF_len (d : List Int) (l : List Ed) : (vicF d l).length ≤ (nodesE l).length :=
  vic_len d l _ _ _ _ _ (vic_is d l) (fun x hx => ⟨circ_sub x hx, by simp⟩) (by rw [unm_nil]; simp)
theorem live_ok {s : CoreS} {l : List Ed} (h : OkE l) : OkE (liveE s l) := fun x hx => h x (List.mem_filter.1 hx).1
def woundS (s : CoreS) (l : List Ed) : CoreS := doomS s 7 (woundF s.tk (liveE s l))
def deathS (s : CoreS) (l : List Ed) : CoreS := doomS s 8 (deathF s.tk (liveE s l))
def marksS (s : CoreS) (l : List Ed) : CoreS := if s.c.f11 = 1 then woundS s l else if s.c.f11 = 2 then deathS s l else s
def tickL (s : CoreS) (l : List Ed) : List Int := if s.c.f11 = 0 then vicF s.tk (liveE s l) else []
def tickS (s : CoreS) (l : List Ed) : CoreS := doomS s 9 (tickL s l)
section
variable {w : World} {b : Nat} {P : Pl} {F FT : Nat → Prop} {s : CoreS} {ls : List LS} {most : Int} {N : Nat} {f : At}
set_option maxHeartbeats 16000000 in
set_option maxRecDepth 100000 in
theorem Marks_ (h : IsCore w b P F s) (hl : Lens s) (hT : IsTab w P.tb FT ls most N f) {n : Nat} (hf : Fine ls N f n) (hok : OkE (edK ls f n)) :
    Calls Tryz.prog 12 #[.pointer (some ⟨b, 0, none⟩)] w (Left w b P F (marksS s (edK ls f n))) := by
  have hu := Tryz.underlying36
  have hu2 := Tryz.underlying73
  have hu3 := Tryz.underlying24
  have c0 := h.at0
  have c1 : w.cell? ⟨P.p, 11, none⟩ = some (.int .i64 s.c.f11) := (blk_cell h.parts 11).trans rfl
  have HM := Aside0.mk (show marksS s (edK ls f n) = if s.c.f11 = 1 then woundS s (edK ls f n) else if s.c.f11 = 2 then deathS s (edK ls f n) else s from rfl)
  have hd : IsCore w.drew b P F s := h
  have HC := Aside0.mk (core_bound hd)
  have HL := Aside0.mk hl
  have HE := Aside0.mk (coreEdges_ hd hl (hT.move (w' := w.drew) (fun _ _ _ => rfl)) hf)
  have HOK := Aside0.mk (live_ok (s := s) hok)
  have HLN := Aside0.mk (Nat.le_trans (dead_lens s (edK ls f n)) hf.few)
  have H0 := Aside0.mk h
  obtain ⟨tA, tc, aA, ac, dA, dc, t1, -, -, r1, -, -⟩ := hd.blk_at
  have HTK := Aside0.mk r1
  have HS1 := Aside0.mk (show woundS s (edK ls f n) = doomS s 7 (woundF s.tk (liveE s (edK ls f n))) from rfl)
  have HS2 := Aside0.mk (show deathS s (edK ls f n) = doomS s 8 (deathF s.tk (liveE s (edK ls f n))) from rfl)
  generalize liveE s (edK ls f n) = L at HE HOK HLN HS1 HS2
  generalize hp : s.c.f11 = pol at c1 HM
  clear h hd hl hT hf hok r1
  by_cases h1 : pol = 1
  · rw [if_pos h1] at HM
    subst h1
    clear hp
    go_enter Tryz.func12, Tryz.ntmps12
    go_wp2_with fail
    go_region_held3 (fun W => W.cell? ⟨b, 1, none⟩ = some (.slice tA s.tk.length tc))
      (first | exact t1 | exact t7 | exact t8 | exact t9)
      (first
        | (go_at_call 16; refine HE.out.mono ?_; rintro e w7 ⟨A7, c7, rfl, hR7, hk7, hb7⟩; have t7 := cell_be0 t1 hb7
           have HW7 := Aside0.mk (Wounds_ tA tc s.tk A7 c7 L w7 (Row.reads_vi (HTK.out.below hb7)) hR7 HLN.out HOK.out)
           have HB7 := Aside0.mk hb7)
        | (go_at_call 43; refine HW7.out.mono ?_; rintro e w8 ⟨A8, c8, rfl, hR8, hk8, hb8⟩; have t8 := cell_be0 t7 hb8
           have HB8 := Aside0.mk (below_then HB7.out HB7.out.size hb8)
           have HD8 := Aside0.mk (doom_ (HC.out.below HB8.out) HL.out A8 c8 (woundF s.tk L) 7 hR8 (fun k hk hF => by have h1 := hk8 k hk; have h2 := hF.2; have h3 := HB7.out.size; omega) (by have h1 := nodes_len (pickE (eldB s.tk) (·.2) L); have h2 := pickE_len (eldB s.tk) (·.2) L; have h3 := HLN.out; have h4 : (woundF s.tk L).length = (nodesE (pickE (eldB s.tk) (·.2) L)).length := rfl; omega)))
        | (go_at_call 42; refine HD8.out.mono ?_; rintro e w9 ⟨rfl, hI9, hG9, hB9⟩; have t9 : w9.cell? ⟨b, 1, none⟩ = some (.slice tA s.tk.length tc) := (World.cell?_of_block (a := ⟨b, 1, none⟩) hB9).trans t8
           have HI9 := Aside0.mk hI9; have HG9 := Aside0.mk hG9))
    go_end0
    refine ⟨rfl, ?_, ?_⟩
    · rw [HM.out, HS1.out]
      exact core_mono HI9.out (fun k hk => hk.1)
    · exact (show Grew F w w8 from Grew.of_below (show Below w.heap.size w w8 from ⟨HB8.out.os, HB8.out.tape, HB8.out.output, HB8.out.size, HB8.out.block⟩)).trans HG9.out (fun k hk => .inl hk.1)
  · rw [if_neg h1] at HM
    by_cases h2 : pol = 2
    · rw [if_pos h2] at HM
      subst h2
      clear hp h1
      go_enter Tryz.func12, Tryz.ntmps12
      go_wp2_with fail
      go_region_held3 (fun W => W.cell? ⟨b, 1, none⟩ = some (.slice tA s.tk.length tc))
        (first | exact t1 | exact t7 | exact t8 | exact t9)
        (first
          | (go_at_call 16; refine HE.out.mono ?_; rintro e w7 ⟨A7, c7, rfl, hR7, hk7, hb7⟩; have t7 := cell_be0 t1 hb7
             have HW7 := Aside0.mk (Deaths_ tA tc s.tk A7 c7 L w7 (Row.reads_vi (HTK.out.below hb7)) hR7 HLN.out HOK.out)
             have HB7 := Aside0.mk hb7)
          | (go_at_call 44; refine HW7.out.mono ?_; rintro e w8 ⟨A8, c8, rfl, hR8, hk8, hb8⟩; have t8 := cell_be0 t7 hb8
             have HB8 := Aside0.mk (below_then HB7.out HB7.out.size hb8)
             have HD8 := Aside0.mk (doom_ (HC.out.below HB8.out) HL.out A8 c8 (deathF s.tk L) 8 hR8 (fun k hk hF => by have h1 := hk8 k hk; have h2 := hF.2; have h3 := HB7.out.size; omega) (by have h1 := nodes_len (pickE (yngB s.tk) (·.1) L); have h2 := pickE_len (yngB s.tk) (·.1) L; have h3 := HLN.out; have h4 : (deathF s.tk L).length = (nodesE (pickE (yngB s.tk) (·.1) L)).length := rfl; omega)))
          | (go_at_call 42; refine HD8.out.mono ?_; rintro e w9 ⟨rfl, hI9, hG9, hB9⟩; have t9 : w9.cell? ⟨b, 1, none⟩ = some (.slice tA s.tk.length tc) := (World.cell?_of_block (a := ⟨b, 1, none⟩) hB9).trans t8
             have HI9 := Aside0.mk hI9; have HG9 := Aside0.mk hG9))
      go_end0
      refine ⟨rfl, ?_, ?_⟩
      · rw [HM.out, HS2.out]
        exact core_mono HI9.out (fun k hk => hk.1)
      · exact (show Grew F w w8 from Grew.of_below (show Below w.heap.size w w8 from ⟨HB8.out.os, HB8.out.tape, HB8.out.output, HB8.out.size, HB8.out.block⟩)).trans HG9.out (fun k hk => .inl hk.1)
    · rw [if_neg h2] at HM
      clear hp
      have b1 : (pol == 1) = false := by simpa using h1
      have b2 : (pol == 2) = false := by simpa using h2
      go_enter Tryz.func12, Tryz.ntmps12
      go_wp2_with fail
      go_end0
      exact ⟨rfl, by rw [HM.out]; exact H0.out, Grew.refl _ _⟩
def TickPost (w : World) (b : Nat) (P : Pl) (F : Nat → Prop) (s' : CoreS) (l : List Int) (e : Ending) (w' : World) : Prop :=
  ∃ A c, e = .returned (.slice A l.length c) ∧ Row w' 3 1 A l.length c (ints l) ∧ (∀ k, blk A k → w.heap.size ≤ k) ∧ IsCore w' b P F s' ∧ Grew F w w'
set_option maxHeartbeats 16000000 in
set_option maxRecDepth 100000 in
theorem Tick_ (h : IsCore w b P F s) (hl : Lens s) (hT : IsTab w P.tb FT ls most N f) {n : Nat} (hf : Fine ls N f n) (hok : OkE (edK ls f n)) :
    Calls Tryz.prog 13 #[.pointer (some ⟨b, 0, none⟩)] w (TickPost w b P F (tickS s (edK ls f n)) (tickL s (edK ls f n))) := by
  have hu := Tryz.underlying36
  have hu2 := Tryz.underlying73
  have hu3 := Tryz.underlying24
  have c0 := h.at0
  have c1 : w.cell? ⟨P.p, 11, none⟩ = some (.int .i64 s.c.f11) := (blk_cell h.parts 11).trans rfl
  have HM := Aside0.mk (show tickL s (edK ls f n) = if s.c.f11 = 0 then vicF s.tk (liveE s (edK ls f n)) else [] from rfl)
  have HMS := Aside0.mk (show tickS s (edK ls f n) = doomS s 9 (tickL s (edK ls f n)) from rfl)
  have hd : IsCore w.drew b P F s := h
  have HC := Aside0.mk (core_bound hd)
  have HL := Aside0.mk hl
  have HE := Aside0.mk (coreEdges_ hd hl (hT.move (w' := w.drew) (fun _ _ _ => rfl)) hf)
  have HOK := Aside0.mk (live_ok (s := s) hok)
  have HLN := Aside0.mk (Nat.le_trans (dead_lens s (edK ls f n)) hf.few)
  have H0 := Aside0.mk h
  obtain ⟨tA, tc, aA, ac, dA, dc, t1, -, -, r1, -, -⟩ := hd.blk_at
  have HTK := Aside0.mk r1
  generalize liveE s (edK ls f n) = L at HE HOK HLN HM
  generalize hp : s.c.f11 = pol at c1 HM
  clear h hd hl hT hf hok r1
  by_cases h1 : pol = 0
  · rw [if_pos h1] at HM
    subst h1
    clear hp
    go_enter Tryz.func13, Tryz.ntmps13
    go_wp2_with fail
    go_region_held3 (fun W => W.cell? ⟨b, 1, none⟩ = some (.slice tA s.tk.length tc))
      (first | exact t1 | exact t7 | exact t8 | exact t9)
      (first
        | (go_at_call 16; refine HE.out.mono ?_; rintro e w7 ⟨A7, c7, rfl, hR7, hk7, hb7⟩; have t7 := cell_be0 t1 hb7
           have HW7 := Aside0.mk (Victims_ tA tc s.tk A7 c7 L w7 (Row.reads_vi (HTK.out.below hb7)) hR7 HLN.out HOK.out)
           have HB7 := Aside0.mk hb7)
        | (go_at_call 45; refine HW7.out.mono ?_; rintro e w8 ⟨A8, c8, rfl, hR8, hk8, hb8⟩; have t8 := cell_be0 t7 hb8
           have HB8 := Aside0.mk (below_then HB7.out HB7.out.size hb8)
           have HR8 := Aside0.mk hR8
           have HK8 := Aside0.mk (fun k (hk : blk A8 k) => Nat.le_trans HB7.out.size (hk8 k hk))
           have HD8 := Aside0.mk (doom_ (HC.out.below HB8.out) HL.out A8 c8 (vicF s.tk L) 9 hR8 (fun k hk hF => by have h1 := HK8.out k hk; have h2 := hF.2; omega) (by have h1 := vicF_len s.tk L; have h2 := nodes_len L; have h3 := HLN.out; omega)))
        | (go_at_call 42; refine HD8.out.mono ?_; rintro e w9 ⟨rfl, hI9, hG9, hB9⟩; have t9 : w9.cell? ⟨b, 1, none⟩ = some (.slice tA s.tk.length tc) := (World.cell?_of_block (a := ⟨b, 1, none⟩) hB9).trans t8
           have HI9 := Aside0.mk hI9; have HG9 := Aside0.mk hG9))
    go_wp2_with fail
    go_ret
    refine ⟨A8, c8, by rw [HM.out]; rfl, ?_, fun k hk => HK8.out k hk, ?_, ?_⟩
    · rw [HM.out]
      exact HR8.out.grew HG9.out (fun k hk hF => by have h1 := HK8.out k hk; have h2 : k < w.heap.size := hF.2; have h3 : w.heap.size ≤ k := h1; omega)
    · rw [HMS.out, HM.out]
      exact core_mono HI9.out (fun k hk => hk.1)
    · exact (show Grew F w w8 from Grew.of_below (show Below w.heap.size w w8 from ⟨HB8.out.os, HB8.out.tape, HB8.out.output, HB8.out.size, HB8.out.block⟩)).trans HG9.out (fun k hk => .inl hk.1)
  · rw [if_neg h1] at HM
    clear hp
    have b1 : (pol == 0) = false := by simpa using h1
    go_enter Tryz.func13, Tryz.ntmps13
    go_wp2_with fail
    go_ret
    rw [HM.out] at HMS ⊢
    exact ⟨none, 0, rfl, Row.zero _ _ _, fun k h => (blk_none h).elim, by rw [HMS.out]; exact H0.out, Grew.refl _ _⟩
end
end Go.Proofs.YtaaekmcmpjljgaaGreat.Co
namespace Go.Proofs.YtaaekmcmpjljgaaGreat.Co
open Go.RowKit Go.Proofs.YtaaekmcmpjljgaaGreatW.PrintWords Go.Proofs.YtaaekmcmpjljgaaGreatW.PrintLast Go.Proofs.YtaaekmcmpjljgaaGreatW.PrintMore Go.Proofs.YtaaekmcmpjljgaaGreat.PMd Go.Proofs.YtaaekmcmpjljgaaGreat.Ln Go.Proofs.YtaaekmcmpjljgaaGreat.Gr
open Go.Maps
set_option linter.unusedVariables false
set_option linter.unusedSimpArgs false
structure KT where
  s : CoreS
  ls : List LS
  f : At
def Kl (w0 w : World) (b : Nat) (P : Pl) (most : Int) (nb : Nat) (k : KT) : Prop :=
  ∃ F FT N, IsCore w b P F k.s ∧ IsTab w P.tb FT k.ls most N k.f ∧ N ≤ nb ∧ (∀ j, F j → w0.heap.size ≤ j ∧ ¬ FT j) ∧ (∀ j, FT j → w0.heap.size ≤ j) ∧ Below w0.heap.size w0 w
def blocksC (hs qs : List E) (who : Int) : List Int := if ix (fun x => x.f0 == who) qs < 0 then [] else sortR (blocksAt hs qs who (ix (fun x => x.f0 == who) qs).toNat)
theorem blocksC_is (hs qs : List E) (who : Int) : blocksIn hs qs who = blocksC hs qs who := by unfold blocksIn blocksC; rw [sortR_compact]
def edC (ls : List LS) (f : At) (n : Nat) : List Ed := (List.range n).flatMap fun (i : Nat) => match f (i : Int) with
  | none => []
  | some m => (blocksC (ls.getD m zL).1 (ls.getD m zL).2 (i : Int)).map fun y => ((i : Int), y)
theorem edC_is (ls : List LS) (f : At) (n : Nat) : edK ls f n = edC ls f n := by
  unfold edK edC
  congr 1
  funext i
  unfold edT
  cases f (i : Int) with
  | none => rfl
  | some m => simp only [blocksC_is]
def KT.ed (k : KT) (n : Nat) : List Ed := edC k.ls k.f n
def FInv (k : KT) (n : Nat) : Prop := n ≤ 1000000 ∧ ∀ x m, k.f x = some m → m < k.ls.length ∧ 0 ≤ x ∧ x < n
def Good (k : KT) (n : Nat) : Prop := Lens k.s ∧ Small k.ls ∧ (k.ed n).length ≤ 400000 ∧ OkE (k.ed n)
instance (s : CoreS) : Decidable (Lens s) := inferInstanceAs (Decidable (_ ∧ _))
instance (ls : List LS) : Decidable (Small ls) := inferInstanceAs (Decidable (_ ∧ _))
instance (l : List Ed) : Decidable (OkE l) := inferInstanceAs (Decidable (∀ x ∈ l, ok64 x.1 ∧ ok64 x.2))
instance (k : KT) (n : Nat) : Decidable (Good k n) := inferInstanceAs (Decidable (_ ∧ _))
def KT.live (k : KT) (t tick : Int) : KT := { k with s := liveS k.s t tick }
def KT.ends (k : KT) (t : Int) : KT := { k with s := endsS k.s t }
def KT.ask (k : KT) (most who node m : Int) : KT := { k with ls := (askT k.ls most k.f who node m).2.2.1, f := (askT k.ls most k.f who node m).2.2.2 }
def KT.marks (k : KT) (n : Nat) : KT := { k with s := marksS k.s (k.ed n) }
def KT.tick (k : KT) (n : Nat) : KT := { k with s := tickS k.s (k.ed n) }
def KT.told (k : KT) (n : Nat) : List Int := tickL k.s (k.ed n)
section
variable {w0 w : World} {b : Nat} {P : Pl} {most : Int} {nb : Nat} {k : KT}
theorem Kl.at0 (h : Kl w0 w b P most nb k) : w.cell? ⟨b, 0, none⟩ = some (.pointer (some ⟨P.p, 0, none⟩)) := by
  obtain ⟨F, FT, N, h1, _⟩ := h
  exact h1.at0
theorem Kl.base (h : Kl w0 w b P most nb k) : Below w0.heap.size w0 w := by
  obtain ⟨F, FT, N, _, _, _, _, _, h6⟩ := h
  exact h6
theorem Kl.below {w' : World} (h : Kl w0 w b P most nb k) (hb : Below w.heap.size w w') : Kl w0 w' b P most nb k := by
  obtain ⟨F, FT, N, h1, h2, h3, h4, h5, h6⟩ := h
  exact ⟨F, FT, N, h1.below hb, h2.below hb, h3, h4, h5, below_then h6 h6.size hb⟩
theorem Kl.drew (h : Kl w0 w b P most nb k) : Kl w0 w.drew b P most nb k := h.below (below_drew (Below.refl _ _))
theorem Kl.left {w' : World} {F FT : Nat → Prop} {N : Nat} {s' : CoreS} (h2 : IsTab w P.tb FT k.ls most N k.f) (h3 : N ≤ nb) (h4 : ∀ j, F j → w0.heap.size ≤ j ∧ ¬ FT j) (h5 : ∀ j, FT j → w0.heap.size ≤ j) (h6 : Below w0.heap.size w0 w) (hI : IsCore w' b P F s') (hg : Grew F w w') :
    Kl w0 w' b P most nb { k with s := s' } :=
  ⟨F, FT, N, hI, h2.grew hg (fun j hj hF => (h4 j hF).2 hj), h3, h4, h5, hg.to_below h6 h6.size (fun j hj => (h4 j hj).1)⟩
theorem kl_doom (h : Kl w0 w b P most nb k) (hl : Lens k.s) (t : Int) : Calls Tryz.prog 14 #[.pointer (some ⟨b, 0, none⟩), .int .i64 t] w fun e w' => e = .returned (.int .i64 (doomOf k.s t)) ∧ w' = w := by
  obtain ⟨F, FT, N, h1, _⟩ := h
  exact coreDoom_ h1 hl t
theorem kl_ticket (h : Kl w0 w b P most nb k) (hl : Lens k.s) (t : Int) : Calls Tryz.prog 17 #[.pointer (some ⟨b, 0, none⟩), .int .i64 t] w fun e w' => e = .returned (.int .i64 (tickOf k.s t)) ∧ w' = w := by
  obtain ⟨F, FT, N, h1, _⟩ := h
  exact coreTicket_ h1 hl t
theorem kl_active (h : Kl w0 w b P most nb k) (hl : Lens k.s) (t : Int) : Calls Tryz.prog 18 #[.pointer (some ⟨b, 0, none⟩), .int .i64 t] w fun e w' => e = .returned (.bool (actOf k.s t)) ∧ w' = w := by
  obtain ⟨F, FT, N, h1, _⟩ := h
  exact coreActive_ h1 hl t
theorem kl_table (h : Kl w0 w b P most nb k) : Calls Tryz.prog 9 #[.pointer (some ⟨P.p, 0, none⟩)] w fun e w' => e = .returned (.pointer (some ⟨P.tb, 0, none⟩)) ∧ w' = w := by
  obtain ⟨F, FT, N, h1, _⟩ := h
  exact partsTable_ _ h1.parts
theorem kl_fine {n N : Nat} (hg : Good k n) (hf : FInv k n) (h3 : N ≤ 1000000) : Fine k.ls N k.f n :=
  ⟨hg.2.1, h3, fun x m h => (hf.2 x m h).1, fun x h => by
    obtain ⟨m, hm⟩ := Option.isSome_iff_exists.1 h
    exact (hf.2 x m hm).2, by rw [edC_is]; exact hg.2.2.1, hf.1⟩
theorem kl_marks (h : Kl w0 w b P most nb k) (hn : nb ≤ 1000000) {n : Nat} (hg : Good k n) (hf : FInv k n) :
    Calls Tryz.prog 12 #[.pointer (some ⟨b, 0, none⟩)] w fun e w' => e = .returned (.tuple #[]) ∧ Kl w0 w' b P most nb (k.marks n) := by
  obtain ⟨F, FT, N, h1, h2, h3, h4, h5, h6⟩ := h
  have := Marks_ h1 hg.1 h2 (kl_fine hg hf (by omega)) (by rw [edC_is]; exact hg.2.2.2)
  rw [edC_is] at this
  exact this.mono fun e w' ⟨e1, e2, e3⟩ => ⟨e1, Kl.left h2 h3 h4 h5 h6 e2 e3⟩
theorem kl_tick (h : Kl w0 w b P most nb k) (hn : nb ≤ 1000000) {n : Nat} (hg : Good k n) (hf : FInv k n) :
    Calls Tryz.prog 13 #[.pointer (some ⟨b, 0, none⟩)] w fun e w' => (∃ A c, e = .returned (.slice A (k.told n).length c) ∧ Row w' 3 1 A (k.told n).length c (ints (k.told n))) ∧ Kl w0 w' b P most nb (k.tick n) := by
  obtain ⟨F, FT, N, h1, h2, h3, h4, h5, h6⟩ := h
  have := Tick_ h1 hg.1 h2 (kl_fine hg hf (by omega)) (by rw [edC_is]; exact hg.2.2.2)
  rw [edC_is] at this
  exact this.mono fun e w' ⟨A, c, e1, e2, e3, e4, e5⟩ => ⟨⟨A, c, e1, e2⟩, Kl.left h2 h3 h4 h5 h6 e4 e5⟩
end
def fresh (c : Cf) (heap : List Int) (sz n nd : Nat) : KT := ⟨⟨c, heap ++ List.replicate (sz - heap.length) 0, 0, List.replicate n 0, List.replicate n false, List.replicate n 0, 0⟩, List.replicate nd zL, fun _ => none⟩
theorem kl_made {w w' : World} {c : Cf} {heap : List Int} {sz n nd : Nat} {most : Int} {e : Ending} (h : Made (fun W tb FT => IsTab W tb FT (List.replicate nd zL) most 0 (fun _ => none)) w c heap sz n e w') :
    ∃ b P, e = .returned (.tuple #[.pointer (some ⟨b, 0, none⟩), .int .i64 0]) ∧ Kl w w' b P most 0 (fresh c heap sz n nd) := by
  obtain ⟨b, P, F, FT, h1, h2, h3, h4, h5, h6⟩ := h
  exact ⟨b, P, h1, F, FT, 0, h2, h3, Nat.le_refl _, h4, h5, h6⟩
theorem newsT (nd : Nat) (most : Int) (h1 : 1 ≤ nd) (h2 : nd ≤ 10000) (h3 : 1 ≤ most) (h4 : most ≤ 4096) : NewsT (fun W tb FT => IsTab W tb FT (List.replicate nd zL) most 0 (fun _ => none)) (nd : Int) most := fun W => by
  refine (NewT_ nd most W h1 h2 h3 h4).mono ?_
  rintro e w' ⟨e1, e2, e3⟩
  exact ⟨_, fun k => W.heap.size ≤ k ∧ k < w'.heap.size, e1, e2.mono (fun k hk h => ⟨h, hk⟩), fun k hk => hk, e3⟩
theorem movesT (nd : Nat) (most : Int) : MovesT (fun W tb FT => IsTab W tb FT (List.replicate nd zL) most 0 (fun _ => none)) := fun W W' tb FT h hm => h.move hm
end Go.Proofs.YtaaekmcmpjljgaaGreat.Co
