/- PathAll: its plain law, its walk. -/
import Derived.Test.YtagdgkimjgomlaaPa5
namespace Go.Proofs.Ytagdgkimjgomlaa.Ln
open Go.RowKit Go.Proofs.YtagdgkimjgomlaaW.PrintWords Go.Proofs.YtagdgkimjgomlaaW.PrintLast Go.Proofs.YtagdgkimjgomlaaW.PrintMore Go.Proofs.Ytagdgkimjgomlaa.PMd
open Go.Maps
open Go.Sort (grow)
set_option linter.unusedVariables false
set_option linter.unusedSimpArgs false
theorem lenT_set (ls : List LS) (i : Nat) (x : LS) : lenT (ls.set i x) ≤ lenT ls + lenL x := by
  unfold lenT
  induction ls generalizing i with
  | nil => simp
  | cons y ls ih =>
    cases i with
    | zero => simp; omega
    | succ i => have := ih i; simp at this ⊢; omega
theorem lenT_rep (n : Nat) : lenT (List.replicate n zL) = 0 := by
  unfold lenT
  rw [List.map_replicate]
  have e : lenL zL = 0 := rfl
  rw [e]
  simp
theorem getD_repA (n i : Nat) : (List.replicate n zL).getD i zL = zL := by
  rw [List.getD_eq_getElem?_getD, List.getElem?_replicate]
  split <;> rfl
/-- One's own request that is granted at once. -/
theorem ask_grant {ls : List LS} {i : Nat} {m : Int} {hs qs hs' qs' : List E} (hi : i < ls.length) (hm : knownM m = true) (h0 : m ≠ 0) (hl : lenT ls < 100) (hg : ls.getD i zL = (hs, qs)) (ha : askIn hs qs 0 m = (1, hs', qs')) :
    askT ls 100 f0 0 (i : Int) m = (1, 0, ls.set i (hs', qs'), f0) := by
  unfold askT
  rw [if_neg (by omega), if_neg (by decide), if_neg (by rw [hm]; rintro (h | h | h); · omega
                                                        · cases h
                                                        · exact h0 h), if_neg (by rintro ⟨_, h⟩; omega), Int.toNat_natCast, hg, ha]
  rfl
structure St (n k : Nat) (ls : List LS) : Prop where
  len : ls.length = n
  inv : LInv ls
  size : ∀ i, i < ls.length → (ls.getD i zL).1.length + (ls.getD i zL).2.length ≤ k
  locks : lenT ls ≤ k
theorem St.ask {n k i : Nat} {ls ls' : List LS} {m : Int} (h : St n k ls) (e : askT ls 100 f0 0 (i : Int) m = (1, 0, ls', f0)) (hl : lenT ls' ≤ k + 1) : St n (k + 1) ls' := by
  have h1 := askT_len ls 100 f0 0 (i : Int) m
  have h2 := askT_inv h.inv 100 f0 0 (i : Int) m
  have h3 := askT_size h.size 100 f0 0 (i : Int) m
  rw [e] at h1 h2 h3
  exact ⟨h1.trans h.len, h2, h3, hl⟩
theorem st_zero (n : Nat) : St n 0 (List.replicate n zL) :=
  ⟨List.length_replicate, fun i _ => by rw [getD_repA]; exact inv_nil, fun i _ => by rw [getD_repA]; exact Nat.le_refl _, by rw [lenT_rep]; exact Nat.le_refl _⟩
theorem holds_at {ls : List LS} {i : Nat} {hs qs : List E} (hi : i < ls.length) (hg : ls.getD i zL = (hs, qs)) : holdsT ls 0 (i : Int) = toldIn hs 0 := by
  unfold holdsT
  rw [if_pos ⟨by omega, by omega⟩, Int.toNat_natCast, hg]
def inM (wt : Bool) : Int := intM (wantM wt)
theorem in_k (wt : Bool) : knownM (inM wt) = true ∧ inM wt ≠ 0 := by cases wt <;> decide +kernel
theorem ask_in (wt : Bool) : askIn [] [] 0 (inM wt) = (1, [⟨0, inM wt⟩], []) := by cases wt <;> kernel_rfl
theorem ask_s : askIn [] [] 0 3 = (1, [⟨0, 3⟩], []) := by kernel_rfl
theorem ask_x : askIn [⟨0, 3⟩] [] 0 5 = (1, [⟨0, 5⟩], []) := by kernel_rfl
theorem cov_0 (wt : Bool) : covM 0 (inM wt) = false := by cases wt <;> decide +kernel
theorem cov_in (wt : Bool) : covM (inM wt) (inM wt) = true := by cases wt <;> decide +kernel
theorem eno_3 (wt : Bool) : enoM 3 wt = !wt := by cases wt <;> decide +kernel
theorem eno_5 (wt : Bool) : enoM 5 wt = true := by cases wt <;> decide +kernel
theorem cov_3 : covM 3 (inM true) = false := by decide +kernel
theorem told_one (m : Int) : toldIn [⟨0, m⟩] 0 = m := by simp [toldIn, ix, rd_T67]
def A0 (n : Nat) : List LS := List.replicate n zL
def A1 (n y : Nat) : List LS := (A0 n).set y ([⟨0, 3⟩], [])
def A2 (n x y : Nat) (wt : Bool) : List LS := (A1 n y).set x ([⟨0, inM wt⟩], [])
def A3 (n x y : Nat) (wt : Bool) : List LS := (A2 n x y wt).set y ([⟨0, 5⟩], [])
theorem len0 {n x y : Nat} (hx : x < n) (hy : y < n) (hxy : x ≠ y) : (A0 n).length = n := List.length_replicate
theorem len1 {n x y : Nat} (hx : x < n) (hy : y < n) (hxy : x ≠ y) : (A1 n y).length = n := by unfold A1; rw [List.length_set]; exact List.length_replicate
theorem len2 {n x y : Nat} (hx : x < n) (hy : y < n) (hxy : x ≠ y) (wt : Bool) : (A2 n x y wt).length = n := by unfold A2; rw [List.length_set]; exact len1 hx hy hxy
theorem len3 {n x y : Nat} (hx : x < n) (hy : y < n) (hxy : x ≠ y) (wt : Bool) : (A3 n x y wt).length = n := by unfold A3; rw [List.length_set]; exact len2 hx hy hxy wt
theorem at1 {n x y : Nat} (hx : x < n) (hy : y < n) (hxy : x ≠ y) (j : Nat) : (A1 n y).getD j zL = if j = y then ([⟨0, 3⟩], []) else zL := by
  unfold A1
  rw [askT_at (by rw [len0 hx hy hxy]; exact hy)]
  split
  · rfl
  · exact getD_repA n j
theorem at2 {n x y : Nat} (hx : x < n) (hy : y < n) (hxy : x ≠ y) (wt : Bool) (j : Nat) : (A2 n x y wt).getD j zL = if j = x then ([⟨0, inM wt⟩], []) else (A1 n y).getD j zL := by
  unfold A2
  exact askT_at (by rw [len1 hx hy hxy]; exact hx)
theorem at3 {n x y : Nat} (hx : x < n) (hy : y < n) (hxy : x ≠ y) (wt : Bool) (j : Nat) : (A3 n x y wt).getD j zL = if j = y then ([⟨0, 5⟩], []) else (A2 n x y wt).getD j zL := by
  unfold A3
  exact askT_at (by rw [len2 hx hy hxy wt]; exact hy)
theorem ask1 {n x y : Nat} (hx : x < n) (hy : y < n) (hxy : x ≠ y) : askT (A0 n) 100 f0 0 (y : Int) 3 = (1, 0, A1 n y, f0) := ask_grant (by rw [len0 hx hy hxy]; exact hy) (by decide +kernel) (by decide) (by unfold A0; rw [lenT_rep]; decide) (getD_repA n y) ask_s
theorem locks1 {n x y : Nat} (hx : x < n) (hy : y < n) (hxy : x ≠ y) : lenT (A1 n y) ≤ 1 := by
  have := lenT_set (A0 n) y ([⟨0, 3⟩], [])
  have e : lenT (A0 n) = 0 := lenT_rep n
  have e2 : lenL (([⟨0, 3⟩], []) : LS) = 1 := rfl
  unfold A1; omega
theorem ask2 {n x y : Nat} (hx : x < n) (hy : y < n) (hxy : x ≠ y) (wt : Bool) : askT (A1 n y) 100 f0 0 (x : Int) (inM wt) = (1, 0, A2 n x y wt, f0) :=
  ask_grant (by rw [len1 hx hy hxy]; exact hx) (in_k wt).1 (in_k wt).2 (by have := locks1 hx hy hxy; omega) (by rw [at1 hx hy hxy, if_neg hxy]) (ask_in wt)
theorem locks2 {n x y : Nat} (hx : x < n) (hy : y < n) (hxy : x ≠ y) (wt : Bool) : lenT (A2 n x y wt) ≤ 2 := by
  have := lenT_set (A1 n y) x ([⟨0, inM wt⟩], [])
  have e := locks1 hx hy hxy
  have e2 : lenL (([⟨0, inM wt⟩], []) : LS) = 1 := rfl
  unfold A2; omega
theorem ask3 {n x y : Nat} (hx : x < n) (hy : y < n) (hxy : x ≠ y) (wt : Bool) : askT (A2 n x y wt) 100 f0 0 (y : Int) 5 = (1, 0, A3 n x y wt, f0) :=
  ask_grant (by rw [len2 hx hy hxy wt]; exact hy) (by decide +kernel) (by decide) (by have := locks2 hx hy hxy wt; omega) (by rw [at2 hx hy hxy, if_neg (Ne.symm hxy), at1 hx hy hxy, if_pos rfl]) ask_x
theorem st1 {n x y : Nat} (hx : x < n) (hy : y < n) (hxy : x ≠ y) : St n 1 (A1 n y) := (st_zero n).ask (ask1 hx hy hxy) (locks1 hx hy hxy)
theorem st2 {n x y : Nat} (hx : x < n) (hy : y < n) (hxy : x ≠ y) (wt : Bool) : St n 2 (A2 n x y wt) := (st1 hx hy hxy).ask (ask2 hx hy hxy wt) (locks2 hx hy hxy wt)
theorem st3 {n x y : Nat} (hx : x < n) (hy : y < n) (hxy : x ≠ y) (wt : Bool) : St n 3 (A3 n x y wt) := (st2 hx hy hxy wt).ask (ask3 hx hy hxy wt) (by
  have := lenT_set (A2 n x y wt) y ([⟨0, 5⟩], [])
  have e := locks2 hx hy hxy wt
  have e2 : lenL (([⟨0, 5⟩], []) : LS) = 1 := rfl
  unfold A3; omega)
theorem next1 {n x y : Nat} (hx : x < n) (hy : y < n) (hxy : x ≠ y) (wt : Bool) (z esc : Int) (hz : Int) (st : Nat) : nextT (x : Int) (y : Int) z (holdsT (A1 n y) 0 (x : Int)) (holdsT (A1 n y) 0 (y : Int)) hz esc st wt = (⟨x, inM wt⟩, true) := by
  rw [holds_at (hs := []) (qs := []) (by rw [len1 hx hy hxy]; exact hx) (by rw [at1 hx hy hxy, if_neg hxy])]
  unfold nextT
  rw [if_pos (show covM (toldIn [] 0) (intM (wantM wt)) = false from cov_0 wt)]
  rfl
theorem next2 {n x y : Nat} (hx : x < n) (hy : y < n) (hxy : x ≠ y) (wt : Bool) (z esc : Int) (hz : Int) (st : Nat) : ∃ l, nextT (x : Int) (y : Int) z (holdsT (A2 n x y wt) 0 (x : Int)) (holdsT (A2 n x y wt) 0 (y : Int)) hz esc st wt = (l, wt) := by
  rw [holds_at (hs := [⟨0, inM wt⟩]) (qs := []) (by rw [len2 hx hy hxy wt]; exact hx) (by rw [at2 hx hy hxy, if_pos rfl]), holds_at (hs := [⟨0, 3⟩]) (qs := []) (by rw [len2 hx hy hxy wt]; exact hy) (by rw [at2 hx hy hxy, if_neg (Ne.symm hxy), at1 hx hy hxy, if_pos rfl]), told_one, told_one]
  unfold nextT
  rw [if_neg (show ¬ covM (inM wt) (intM (wantM wt)) = false by rw [show intM (wantM wt) = inM wt from rfl, cov_in]; decide), eno_3]
  cases wt with
  | false => exact ⟨_, rfl⟩
  | true =>
    rw [if_neg (by decide)]
    split
    · exact ⟨_, rfl⟩
    · rw [if_pos (show covM 3 (intM (wantM true)) = false from cov_3)]
      exact ⟨_, rfl⟩
theorem next3 {n x y : Nat} (hx : x < n) (hy : y < n) (hxy : x ≠ y) (wt : Bool) (z esc : Int) (hz : Int) (st : Nat) : nextT (x : Int) (y : Int) z (holdsT (A3 n x y wt) 0 (x : Int)) (holdsT (A3 n x y wt) 0 (y : Int)) hz esc st wt = (⟨0, 0⟩, false) := by
  rw [holds_at (hs := [⟨0, inM wt⟩]) (qs := []) (by rw [len3 hx hy hxy wt]; exact hx) (by rw [at3 hx hy hxy, if_neg hxy, at2 hx hy hxy, if_pos rfl]), holds_at (hs := [⟨0, 5⟩]) (qs := []) (by rw [len3 hx hy hxy wt]; exact hy) (by rw [at3 hx hy hxy, if_pos rfl]), told_one, told_one]
  unfold nextT
  rw [if_neg (show ¬ covM (inM wt) (intM (wantM wt)) = false by rw [show intM (wantM wt) = inM wt from rfl, cov_in]; decide), if_pos (eno_5 wt)]
set_option maxHeartbeats 8000000 in
set_option maxRecDepth 100000 in
theorem all_bad (c : Cf) (a : Int) (wt : Bool) (w : World) (h : ¬ Okc c ∨ a < 0 ∨ ∃ r o s n, Dim c r o s n ∧ (n : Int) ≤ a) :
    Calls Try.prog 6 #[.agg #[.int .i64 c.f0, .int .i64 c.f1, .int .i64 c.f2, .int .i64 c.f3, .int .i64 c.f4, .int .i64 c.f5, .int .i64 c.f6, .int .i64 c.f7, .int .i64 c.f8, .int .i64 c.f9, .int .i64 c.f10, .int .i64 c.f11], .int .i64 a, .bool wt] w fun e w' => e = .returned (.bool true) ∧ Below w.heap.size w w' := by
  obtain ⟨ck, hck, hci⟩ := chk_f c
  have HCk := Aside0.mk (fun W => ltkref1_Check.calls 20 c.f0 c.f1 c.f2 c.f3 c.f4 c.f5 c.f6 c.f7 c.f8 c.f9 c.f10 c.f11 _ W hck)
  have hu41 := Try.underlying41
  have hu38 := Try.underlying38
  have HB1 := Aside0.mk (below_alloc (Below.refl w.heap.size w) (.cells #[.int .i64 c.f0, .int .i64 c.f1, .int .i64 c.f2, .int .i64 c.f3, .int .i64 c.f4, .int .i64 c.f5, .int .i64 c.f6, .int .i64 c.f7, .int .i64 c.f8, .int .i64 c.f9, .int .i64 c.f10, .int .i64 c.f11] 41))
  have hx := blk_new w (.cells #[.int .i64 c.f0, .int .i64 c.f1, .int .i64 c.f2, .int .i64 c.f3, .int .i64 c.f4, .int .i64 c.f5, .int .i64 c.f6, .int .i64 c.f7, .int .i64 c.f8, .int .i64 c.f9, .int .i64 c.f10, .int .i64 c.f11] 41)
  obtain ⟨w1, hw1⟩ : ∃ W, w.alloc (.cells #[.int .i64 c.f0, .int .i64 c.f1, .int .i64 c.f2, .int .i64 c.f3, .int .i64 c.f4, .int .i64 c.f5, .int .i64 c.f6, .int .i64 c.f7, .int .i64 c.f8, .int .i64 c.f9, .int .i64 c.f10, .int .i64 c.f11] 41) = W := ⟨_, rfl⟩
  have HW1 := Aside0.mk hw1
  rw [hw1] at HB1 hx
  have S1 := Aside0.mk (show w1.heap.size = w.heap.size + 1 by rw [← hw1]; simp)
  have X := Aside0.mk (fun W (hb : Below w1.heap.size w1 W) => (show W.cell? ⟨w.heap.size, 0, none⟩ = some (.int .i64 c.f0) ∧ W.cell? ⟨w.heap.size, 1, none⟩ = some (.int .i64 c.f1) ∧ W.cell? ⟨w.heap.size, 2, none⟩ = some (.int .i64 c.f2) ∧ W.cell? ⟨w.heap.size, 3, none⟩ = some (.int .i64 c.f3) ∧ W.cell? ⟨w.heap.size, 4, none⟩ = some (.int .i64 c.f4) ∧ W.cell? ⟨w.heap.size, 5, none⟩ = some (.int .i64 c.f5) ∧ W.cell? ⟨w.heap.size, 6, none⟩ = some (.int .i64 c.f6) ∧ W.cell? ⟨w.heap.size, 7, none⟩ = some (.int .i64 c.f7) ∧ W.cell? ⟨w.heap.size, 8, none⟩ = some (.int .i64 c.f8) ∧ W.cell? ⟨w.heap.size, 9, none⟩ = some (.int .i64 c.f9) ∧ W.cell? ⟨w.heap.size, 10, none⟩ = some (.int .i64 c.f10) ∧ W.cell? ⟨w.heap.size, 11, none⟩ = some (.int .i64 c.f11) from ⟨(hb.cell (p := ⟨w.heap.size, 0, none⟩) (by show w.heap.size < _; rw [S1.out]; omega)).trans ((blk_cell hx 0).trans rfl), (hb.cell (p := ⟨w.heap.size, 1, none⟩) (by show w.heap.size < _; rw [S1.out]; omega)).trans ((blk_cell hx 1).trans rfl), (hb.cell (p := ⟨w.heap.size, 2, none⟩) (by show w.heap.size < _; rw [S1.out]; omega)).trans ((blk_cell hx 2).trans rfl), (hb.cell (p := ⟨w.heap.size, 3, none⟩) (by show w.heap.size < _; rw [S1.out]; omega)).trans ((blk_cell hx 3).trans rfl), (hb.cell (p := ⟨w.heap.size, 4, none⟩) (by show w.heap.size < _; rw [S1.out]; omega)).trans ((blk_cell hx 4).trans rfl), (hb.cell (p := ⟨w.heap.size, 5, none⟩) (by show w.heap.size < _; rw [S1.out]; omega)).trans ((blk_cell hx 5).trans rfl), (hb.cell (p := ⟨w.heap.size, 6, none⟩) (by show w.heap.size < _; rw [S1.out]; omega)).trans ((blk_cell hx 6).trans rfl), (hb.cell (p := ⟨w.heap.size, 7, none⟩) (by show w.heap.size < _; rw [S1.out]; omega)).trans ((blk_cell hx 7).trans rfl), (hb.cell (p := ⟨w.heap.size, 8, none⟩) (by show w.heap.size < _; rw [S1.out]; omega)).trans ((blk_cell hx 8).trans rfl), (hb.cell (p := ⟨w.heap.size, 9, none⟩) (by show w.heap.size < _; rw [S1.out]; omega)).trans ((blk_cell hx 9).trans rfl), (hb.cell (p := ⟨w.heap.size, 10, none⟩) (by show w.heap.size < _; rw [S1.out]; omega)).trans ((blk_cell hx 10).trans rfl), (hb.cell (p := ⟨w.heap.size, 11, none⟩) (by show w.heap.size < _; rw [S1.out]; omega)).trans ((blk_cell hx 11).trans rfl)⟩))
  clear hx hw1
  by_cases hk : Okc c
  · obtain rfl := hci.2 hk
    by_cases h0 : a < 0
    · have g1 : decide (a < 0) = true := decide_eq_true h0
      clear h h0 hck hci hk
      go_enter Try.func6, Try.ntmps6
      go_wp2_with fail
      simp only [HW1.out]
      refine (firstP_ w1).mono ?_
      rintro e w2 ⟨rfl, hb⟩
      have HB2 := Aside0.mk hb
      clear hb
      obtain ⟨x0, x1, x2, x3, x4, x5, x6, x7, x8, x9, x10, x11⟩ := X.out _ HB2.out
      go_wp2_with fail
      refine (HCk.out w2).mono ?_
      rintro e w3 ⟨rfl, hb⟩
      have HB3 := Aside0.mk (below_then HB2.out HB2.out.size hb)
      clear hb x0 x1 x2 x3 x4 x5 x6 x7 x8 x9 x10 x11
      go_wp2_with fail
      refine (firstP_ w3).mono ?_
      rintro e w9 ⟨rfl, hb⟩
      have HB9 := Aside0.mk (below_then HB1.out (by rw [S1.out]; omega) (below_then HB3.out HB3.out.size hb))
      clear hb
      go_wp2
      go_ret
      exact ⟨rfl, HB9.out⟩
    · have g1 : decide (a < 0) = false := decide_eq_false h0
      obtain ⟨r, o, s, n, d, hn⟩ : ∃ r o s n, Dim c r o s n ∧ (n : Int) ≤ a := by
        rcases h with h | h | h
        · exact absurd hk h
        · exact absurd h h0
        · exact h
      have g2 : decide (a ≥ (n : Int)) = true := decide_eq_true hn
      have HWd := Aside0.mk (fun W => ltkref1_Words.calls 20 c.f0 c.f1 c.f2 c.f3 c.f4 c.f5 c.f6 c.f7 c.f8 c.f9 c.f10 c.f11 _ W (words_ref hk d))
      clear h h0 hck hci hk d hn
      go_enter Try.func6, Try.ntmps6
      go_wp2_with fail
      simp only [HW1.out]
      refine (firstP_ w1).mono ?_
      rintro e w2 ⟨rfl, hb⟩
      have HB2 := Aside0.mk hb
      clear hb
      obtain ⟨x0, x1, x2, x3, x4, x5, x6, x7, x8, x9, x10, x11⟩ := X.out _ HB2.out
      go_wp2_with fail
      refine (HCk.out w2).mono ?_
      rintro e w3 ⟨rfl, hb⟩
      have HB3 := Aside0.mk (below_then HB2.out HB2.out.size hb)
      clear hb x0 x1 x2 x3 x4 x5 x6 x7 x8 x9 x10 x11
      obtain ⟨x0, x1, x2, x3, x4, x5, x6, x7, x8, x9, x10, x11⟩ := X.out _ HB3.out
      go_wp2_with fail
      refine (HWd.out w3).mono ?_
      rintro e w4 ⟨rfl, hb⟩
      have HB4 := Aside0.mk (below_then HB3.out HB3.out.size hb)
      clear hb x0 x1 x2 x3 x4 x5 x6 x7 x8 x9 x10 x11
      go_wp2_with fail
      refine (firstP_ w4).mono ?_
      rintro e w9 ⟨rfl, hb⟩
      have HB9 := Aside0.mk (below_then HB1.out (by rw [S1.out]; omega) (below_then HB4.out HB4.out.size hb))
      clear hb
      go_wp2
      go_ret
      exact ⟨rfl, HB9.out⟩
  · have g3 : (ck != 0) = true := bne_iff_ne.2 (fun e => hk (hci.1 e))
    clear h hck hci hk
    go_enter Try.func6, Try.ntmps6
    go_wp2_with fail
    simp only [HW1.out]
    refine (firstP_ w1).mono ?_
    rintro e w2 ⟨rfl, hb⟩
    have HB2 := Aside0.mk hb
    clear hb
    obtain ⟨x0, x1, x2, x3, x4, x5, x6, x7, x8, x9, x10, x11⟩ := X.out _ HB2.out
    go_wp2_with fail
    refine (HCk.out w2).mono ?_
    rintro e w3 ⟨rfl, hb⟩
    have HB3 := Aside0.mk (below_then HB2.out HB2.out.size hb)
    clear hb x0 x1 x2 x3 x4 x5 x6 x7 x8 x9 x10 x11
    go_wp2_with fail
    refine (firstP_ w3).mono ?_
    rintro e w9 ⟨rfl, hb⟩
    have HB9 := Aside0.mk (below_then HB1.out (by rw [S1.out]; omega) (below_then HB3.out HB3.out.size hb))
    clear hb
    go_wp2
    go_ret
    exact ⟨rfl, HB9.out⟩
set_option maxHeartbeats 8000000 in
set_option maxRecDepth 100000 in
theorem all_in_true (c : Cf) (a : Int) (w : World) (hk : Okc c) {r o s n : Nat} (d : Dim c r o s n) (h0 : 0 ≤ a) (h1 : a < n) :
    Calls Try.prog 6 #[.agg #[.int .i64 c.f0, .int .i64 c.f1, .int .i64 c.f2, .int .i64 c.f3, .int .i64 c.f4, .int .i64 c.f5, .int .i64 c.f6, .int .i64 c.f7, .int .i64 c.f8, .int .i64 c.f9, .int .i64 c.f10, .int .i64 c.f11], .int .i64 a, .bool true] w fun e w' => e = .returned (.bool true) ∧ Below w.heap.size w w' := by
  obtain ⟨x, y, z, px, py1, py2, pz1, pz2, hp⟩ := path_ok hk d h0 h1
  have br := d.br
  have bo := d.bo
  have bs := d.bs
  have qx : x < r + o + s := by omega
  have qy : y < r + o + s := by omega
  have qxy : x ≠ y := by omega
  obtain ⟨l2, hN2⟩ := next2 qx qy qxy true (z : Int) c.f9 (holdsT (A2 (r + o + s) x y true) 0 (z : Int)) (stripesT (A2 (r + o + s) x y true) 0 (lvC c) (paC c) (y : Int))
  obtain ⟨ck, hck, hci⟩ := chk_f c
  obtain rfl := hci.2 hk
  have g1 : decide (a < 0) = false := decide_eq_false (by omega)
  have g2 : decide (a ≥ (n : Int)) = false := decide_eq_false (by omega)
  have HCk := Aside0.mk (fun W => ltkref1_Check.calls 20 c.f0 c.f1 c.f2 c.f3 c.f4 c.f5 c.f6 c.f7 c.f8 c.f9 c.f10 c.f11 _ W hck)
  have HWd := Aside0.mk (fun W => ltkref1_Words.calls 20 c.f0 c.f1 c.f2 c.f3 c.f4 c.f5 c.f6 c.f7 c.f8 c.f9 c.f10 c.f11 _ W (words_ref hk d))
  have HNd := Aside0.mk (fun W => shape_Nodes.calls c.f0 c.f1 c.f2 c.f3 c.f4 c.f5 c.f6 c.f7 c.f8 c.f9 c.f10 c.f11 _ W (nodes_ok hk d))
  have HPt := Aside0.mk (fun W => shape_Path.calls c.f0 c.f1 c.f2 c.f3 c.f4 c.f5 c.f6 c.f7 c.f8 c.f9 c.f10 c.f11 a _ _ _ _ W hp)
  have HNew := Aside0.mk (fun W => NewT_ (r + o + s) 100 W (by omega) (by omega) (by decide) (by decide))
  have HNx := Aside0.mk (fun (W : World) (b : Nat) (F : Nat → Prop) (N : Nat) (ls : List LS) (k : Nat) (hs : St (r + o + s) k ls) (R : L × Bool) (hT : IsTab W b F ls 100 N f0) (hR : nextT (x : Int) (y : Int) (z : Int) (holdsT ls 0 (x : Int)) (holdsT ls 0 (y : Int)) (holdsT ls 0 (z : Int)) c.f9 (stripesT ls 0 (lvC c) (paC c) (y : Int)) true = R) =>
    NextT_ hT hs.inv (by rw [hs.len]; omega) c 0 a true (lvC c) (paC c) (fun j _ => lvC_ok hk j) (fun j _ => paC_ok hk j) (x : Int) (y : Int) (z : Int) hp R hR)
  have hu41 := Try.underlying41
  have hu38 := Try.underlying38
  have HB1 := Aside0.mk (below_alloc (Below.refl w.heap.size w) (.cells #[.int .i64 c.f0, .int .i64 c.f1, .int .i64 c.f2, .int .i64 c.f3, .int .i64 c.f4, .int .i64 c.f5, .int .i64 c.f6, .int .i64 c.f7, .int .i64 c.f8, .int .i64 c.f9, .int .i64 c.f10, .int .i64 c.f11] 41))
  have hx := blk_new w (.cells #[.int .i64 c.f0, .int .i64 c.f1, .int .i64 c.f2, .int .i64 c.f3, .int .i64 c.f4, .int .i64 c.f5, .int .i64 c.f6, .int .i64 c.f7, .int .i64 c.f8, .int .i64 c.f9, .int .i64 c.f10, .int .i64 c.f11] 41)
  obtain ⟨w1, hw1⟩ : ∃ W, w.alloc (.cells #[.int .i64 c.f0, .int .i64 c.f1, .int .i64 c.f2, .int .i64 c.f3, .int .i64 c.f4, .int .i64 c.f5, .int .i64 c.f6, .int .i64 c.f7, .int .i64 c.f8, .int .i64 c.f9, .int .i64 c.f10, .int .i64 c.f11] 41) = W := ⟨_, rfl⟩
  have HW1 := Aside0.mk hw1
  rw [hw1] at HB1 hx
  have S1 := Aside0.mk (show w1.heap.size = w.heap.size + 1 by rw [← hw1]; simp)
  have X := Aside0.mk (fun W (hb : Below w1.heap.size w1 W) => (show W.cell? ⟨w.heap.size, 0, none⟩ = some (.int .i64 c.f0) ∧ W.cell? ⟨w.heap.size, 1, none⟩ = some (.int .i64 c.f1) ∧ W.cell? ⟨w.heap.size, 2, none⟩ = some (.int .i64 c.f2) ∧ W.cell? ⟨w.heap.size, 3, none⟩ = some (.int .i64 c.f3) ∧ W.cell? ⟨w.heap.size, 4, none⟩ = some (.int .i64 c.f4) ∧ W.cell? ⟨w.heap.size, 5, none⟩ = some (.int .i64 c.f5) ∧ W.cell? ⟨w.heap.size, 6, none⟩ = some (.int .i64 c.f6) ∧ W.cell? ⟨w.heap.size, 7, none⟩ = some (.int .i64 c.f7) ∧ W.cell? ⟨w.heap.size, 8, none⟩ = some (.int .i64 c.f8) ∧ W.cell? ⟨w.heap.size, 9, none⟩ = some (.int .i64 c.f9) ∧ W.cell? ⟨w.heap.size, 10, none⟩ = some (.int .i64 c.f10) ∧ W.cell? ⟨w.heap.size, 11, none⟩ = some (.int .i64 c.f11) from ⟨(hb.cell (p := ⟨w.heap.size, 0, none⟩) (by show w.heap.size < _; rw [S1.out]; omega)).trans ((blk_cell hx 0).trans rfl), (hb.cell (p := ⟨w.heap.size, 1, none⟩) (by show w.heap.size < _; rw [S1.out]; omega)).trans ((blk_cell hx 1).trans rfl), (hb.cell (p := ⟨w.heap.size, 2, none⟩) (by show w.heap.size < _; rw [S1.out]; omega)).trans ((blk_cell hx 2).trans rfl), (hb.cell (p := ⟨w.heap.size, 3, none⟩) (by show w.heap.size < _; rw [S1.out]; omega)).trans ((blk_cell hx 3).trans rfl), (hb.cell (p := ⟨w.heap.size, 4, none⟩) (by show w.heap.size < _; rw [S1.out]; omega)).trans ((blk_cell hx 4).trans rfl), (hb.cell (p := ⟨w.heap.size, 5, none⟩) (by show w.heap.size < _; rw [S1.out]; omega)).trans ((blk_cell hx 5).trans rfl), (hb.cell (p := ⟨w.heap.size, 6, none⟩) (by show w.heap.size < _; rw [S1.out]; omega)).trans ((blk_cell hx 6).trans rfl), (hb.cell (p := ⟨w.heap.size, 7, none⟩) (by show w.heap.size < _; rw [S1.out]; omega)).trans ((blk_cell hx 7).trans rfl), (hb.cell (p := ⟨w.heap.size, 8, none⟩) (by show w.heap.size < _; rw [S1.out]; omega)).trans ((blk_cell hx 8).trans rfl), (hb.cell (p := ⟨w.heap.size, 9, none⟩) (by show w.heap.size < _; rw [S1.out]; omega)).trans ((blk_cell hx 9).trans rfl), (hb.cell (p := ⟨w.heap.size, 10, none⟩) (by show w.heap.size < _; rw [S1.out]; omega)).trans ((blk_cell hx 10).trans rfl), (hb.cell (p := ⟨w.heap.size, 11, none⟩) (by show w.heap.size < _; rw [S1.out]; omega)).trans ((blk_cell hx 11).trans rfl)⟩))
  clear hx hw1
  have HQ := Aside0.mk (And.intro qx (And.intro qy (And.intro qxy (And.intro br (And.intro bo bs)))))
  have HN2 := Aside0.mk hN2
  clear hk d h0 h1 px py1 py2 pz1 pz2 hp br bo bs qx qy qxy hN2 hck hci
  go_enter Try.func6, Try.ntmps6
  go_wp2_with fail
  simp only [HW1.out]
  refine (firstP_ w1).mono ?_
  rintro e w2 ⟨rfl, hb⟩
  have HB2 := Aside0.mk hb
  clear hb
  obtain ⟨x0, x1, x2, x3, x4, x5, x6, x7, x8, x9, x10, x11⟩ := X.out _ HB2.out
  go_wp2_with fail
  refine (HCk.out w2).mono ?_
  rintro e w3 ⟨rfl, hb⟩
  have HB3 := Aside0.mk (below_then HB2.out HB2.out.size hb)
  clear hb x0 x1 x2 x3 x4 x5 x6 x7 x8 x9 x10 x11
  obtain ⟨x0, x1, x2, x3, x4, x5, x6, x7, x8, x9, x10, x11⟩ := X.out _ HB3.out
  go_wp2_with fail
  refine (HWd.out w3).mono ?_
  rintro e w4 ⟨rfl, hb⟩
  have HB4 := Aside0.mk (below_then HB3.out HB3.out.size hb)
  clear hb x0 x1 x2 x3 x4 x5 x6 x7 x8 x9 x10 x11
  obtain ⟨x0, x1, x2, x3, x4, x5, x6, x7, x8, x9, x10, x11⟩ := X.out _ HB4.out
  go_wp2_with fail
  refine (HNd.out w4).mono ?_
  rintro e w5 ⟨rfl, hb⟩
  have HB5 := Aside0.mk (below_then HB4.out HB4.out.size hb)
  clear hb HNd HWd HCk g1 g2 x0 x1 x2 x3 x4 x5 x6 x7 x8 x9 x10 x11
  go_wp2_with fail
  refine (HNew.out w5).mono ?_
  rintro e w6 ⟨rfl, hT, hb⟩
  have T6 := Aside0.mk (show IsTab w6 (w5.heap.size + 1) (fun k => w5.heap.size ≤ k) (A0 (r + o + s)) 100 0 f0 from hT)
  have C6 := Aside0.mk hb
  have D6 := Aside0.mk (below_then HB5.out HB5.out.size hb)
  clear hT hb HNew
  generalize w5.heap.size + 1 = B at T6 ⊢
  obtain ⟨x0, x1, x2, x3, x4, x5, x6, x7, x8, x9, x10, x11⟩ := X.out _ D6.out
  go_wp2_with fail
  refine (HPt.out w6).mono ?_
  rintro e w7 ⟨rfl, hb⟩
  have T7 := Aside0.mk (T6.out.below hb)
  have C7 := Aside0.mk (below_then C6.out C6.out.size hb)
  have D7 := Aside0.mk (below_then D6.out D6.out.size hb)
  clear hb HPt T6 C6 D6 x0 x1 x2 x3 x4 x5 x6 x7 x8 x9 x10 x11
  obtain ⟨qx, qy, qxy, br, bo, bs⟩ := HQ.out
  have HA := Aside0.mk (AskT_0 T7.out C7.out (small_of (n := 3) (show (A0 (r + o + s)).length ≤ 10000 by unfold A0; rw [List.length_replicate]; omega) (fun i hi => Nat.le_trans ((st_zero (r + o + s)).size i hi) (by omega)) (by decide)) (by omega) 0 (y : Int) 3 (by decide))
  rw [ask1 qx qy qxy] at HA
  have e1 := Aside0.mk (next1 qx qy qxy true (z : Int) c.f9 (holdsT (A1 (r + o + s) y) 0 (z : Int)) (stripesT (A1 (r + o + s) y) 0 (lvC c) (paC c) (y : Int)))
  have e3 := Aside0.mk (next3 qx qy qxy true (z : Int) c.f9 (holdsT (A3 (r + o + s) x y true) 0 (z : Int)) (stripesT (A3 (r + o + s) x y true) 0 (lvC c) (paC c) (y : Int)))
  have q1 := Aside0.mk (st1 qx qy qxy)
  have q2 := Aside0.mk (st2 qx qy qxy true)
  have q3 := Aside0.mk (st3 qx qy qxy true)
  have k2 := Aside0.mk (ask2 qx qy qxy true)
  have k3 := Aside0.mk (ask3 qx qy qxy true)
  have NN := Aside0.mk (show r + o + s ≤ 10000 by omega)
  clear qx qy qxy br bo bs
  go_wp2_with fail
  refine HA.out.mono ?_
  rintro e w8 ⟨rfl, hT, hb⟩
  have T8 := Aside0.mk hT
  have C8 := Aside0.mk hb
  have D8 := Aside0.mk (below_then HB5.out HB5.out.size hb)
  clear hT hb HA T7 C7 D7
  have HX1 := Aside0.mk (HNx.out w8 B _ _ _ 1 q1.out _ T8.out e1.out)
  obtain ⟨x0, x1, x2, x3, x4, x5, x6, x7, x8, x9, x10, x11⟩ := X.out _ D8.out
  go_wp2_with fail
  refine HX1.out.mono ?_
  rintro e w10 ⟨rfl, hb⟩
  have Y := blk_new w10 (.cells #[.int .i64 ((x : Int)), .int .i64 (inM true)] 38)
  have y0 : (w10.alloc (.cells #[.int .i64 ((x : Int)), .int .i64 (inM true)] 38)).cell? ⟨w10.heap.size, 0, none⟩ = some (.int .i64 ((x : Int))) := (blk_cell Y 0).trans rfl
  have y1 : (w10.alloc (.cells #[.int .i64 ((x : Int)), .int .i64 (inM true)] 38)).cell? ⟨w10.heap.size, 1, none⟩ = some (.int .i64 (inM true)) := (blk_cell Y 1).trans rfl
  have T10 := Aside0.mk ((T8.out.below hb).below (below_alloc (Below.refl _ _) (.cells #[.int .i64 ((x : Int)), .int .i64 (inM true)] 38)))
  have C10 := Aside0.mk (below_alloc (below_then C8.out C8.out.size hb) (.cells #[.int .i64 ((x : Int)), .int .i64 (inM true)] 38))
  have D10 := Aside0.mk (below_alloc (below_then D8.out D8.out.size hb) (.cells #[.int .i64 ((x : Int)), .int .i64 (inM true)] 38))
  clear hb HX1 x0 x1 x2 x3 x4 x5 x6 x7 x8 x9 x10 x11
  have z0 : ((x : Int) != (x : Int)) = false := bne_self_eq_false _
  have z1 : (inM true != 2) = false := by decide +kernel
  have HA := Aside0.mk (AskT_0 T10.out C10.out (small_of (n := 3) (by rw [q1.out.len]; exact NN.out) (fun i hi => Nat.le_trans (q1.out.size i hi) (by omega)) (by decide)) (by omega) 0 (x : Int) (inM true) (by decide))
  rw [k2.out] at HA
  go_wp2_with fail
  refine HA.out.mono ?_
  rintro e w11 ⟨rfl, hT, hb⟩
  have T11 := Aside0.mk hT
  have C11 := Aside0.mk hb
  have D11 := Aside0.mk (below_then HB5.out HB5.out.size hb)
  clear hT hb HA T10 C10 D10 T8 C8 D8 Y y0 y1 z0 z1
  have HX2 := Aside0.mk (HNx.out w11 B _ _ _ 2 q2.out _ T11.out HN2.out)
  obtain ⟨x0, x1, x2, x3, x4, x5, x6, x7, x8, x9, x10, x11⟩ := X.out _ D11.out
  go_wp2_with fail
  refine HX2.out.mono ?_
  rintro e w12 ⟨rfl, hb⟩
  have T12 := Aside0.mk ((T11.out.below hb).below (below_alloc (Below.refl _ _) (.cells #[.int .i64 (l2.f0), .int .i64 (l2.f1)] 38)))
  have C12 := Aside0.mk (below_alloc (below_then C11.out C11.out.size hb) (.cells #[.int .i64 (l2.f0), .int .i64 (l2.f1)] 38))
  have D12 := Aside0.mk (below_alloc (below_then D11.out D11.out.size hb) (.cells #[.int .i64 (l2.f0), .int .i64 (l2.f1)] 38))
  clear hb HX2 x0 x1 x2 x3 x4 x5 x6 x7 x8 x9 x10 x11
  have HA := Aside0.mk (AskT_0 T12.out C12.out (small_of (n := 3) (by rw [q2.out.len]; exact NN.out) (fun i hi => Nat.le_trans (q2.out.size i hi) (by omega)) (by decide)) (by omega) 0 (y : Int) 5 (by decide))
  rw [k3.out] at HA
  go_wp2_with fail
  refine HA.out.mono ?_
  rintro e w13 ⟨rfl, hT, hb⟩
  have T13 := Aside0.mk hT
  have C13 := Aside0.mk hb
  have D13 := Aside0.mk (below_then HB5.out HB5.out.size hb)
  clear hT hb HA T12 C12 D12 T11 C11 D11
  have HX3 := Aside0.mk (HNx.out w13 B _ _ _ 3 q3.out _ T13.out e3.out)
  obtain ⟨x0, x1, x2, x3, x4, x5, x6, x7, x8, x9, x10, x11⟩ := X.out _ D13.out
  go_wp2_with fail
  refine HX3.out.mono ?_
  rintro e w14 ⟨rfl, hb⟩
  have T14 := Aside0.mk ((T13.out.below hb).below (below_alloc (Below.refl _ _) (.cells #[.int .i64 (0), .int .i64 (0)] 38)))
  have C14 := Aside0.mk (below_alloc (below_then C13.out C13.out.size hb) (.cells #[.int .i64 (0), .int .i64 (0)] 38))
  have D14 := Aside0.mk (below_alloc (below_then D13.out D13.out.size hb) (.cells #[.int .i64 (0), .int .i64 (0)] 38))
  clear hb HX3 x0 x1 x2 x3 x4 x5 x6 x7 x8 x9 x10 x11
  go_wp2_with fail
  refine (firstP_ _).mono ?_
  rintro e w9 ⟨rfl, hb⟩
  have HB9 := Aside0.mk (below_then HB1.out (by rw [S1.out]; omega) (below_then D14.out D14.out.size hb))
  clear hb
  go_wp2
  go_ret
  exact ⟨rfl, HB9.out⟩
set_option maxHeartbeats 8000000 in
set_option maxRecDepth 100000 in
theorem all_in_false (c : Cf) (a : Int) (w : World) (hk : Okc c) {r o s n : Nat} (d : Dim c r o s n) (h0 : 0 ≤ a) (h1 : a < n) :
    Calls Try.prog 6 #[.agg #[.int .i64 c.f0, .int .i64 c.f1, .int .i64 c.f2, .int .i64 c.f3, .int .i64 c.f4, .int .i64 c.f5, .int .i64 c.f6, .int .i64 c.f7, .int .i64 c.f8, .int .i64 c.f9, .int .i64 c.f10, .int .i64 c.f11], .int .i64 a, .bool false] w fun e w' => e = .returned (.bool true) ∧ Below w.heap.size w w' := by
  obtain ⟨x, y, z, px, py1, py2, pz1, pz2, hp⟩ := path_ok hk d h0 h1
  have br := d.br
  have bo := d.bo
  have bs := d.bs
  have qx : x < r + o + s := by omega
  have qy : y < r + o + s := by omega
  have qxy : x ≠ y := by omega
  obtain ⟨l2, hN2⟩ := next2 qx qy qxy false (z : Int) c.f9 (holdsT (A2 (r + o + s) x y false) 0 (z : Int)) (stripesT (A2 (r + o + s) x y false) 0 (lvC c) (paC c) (y : Int))
  obtain ⟨ck, hck, hci⟩ := chk_f c
  obtain rfl := hci.2 hk
  have g1 : decide (a < 0) = false := decide_eq_false (by omega)
  have g2 : decide (a ≥ (n : Int)) = false := decide_eq_false (by omega)
  have HCk := Aside0.mk (fun W => ltkref1_Check.calls 20 c.f0 c.f1 c.f2 c.f3 c.f4 c.f5 c.f6 c.f7 c.f8 c.f9 c.f10 c.f11 _ W hck)
  have HWd := Aside0.mk (fun W => ltkref1_Words.calls 20 c.f0 c.f1 c.f2 c.f3 c.f4 c.f5 c.f6 c.f7 c.f8 c.f9 c.f10 c.f11 _ W (words_ref hk d))
  have HNd := Aside0.mk (fun W => shape_Nodes.calls c.f0 c.f1 c.f2 c.f3 c.f4 c.f5 c.f6 c.f7 c.f8 c.f9 c.f10 c.f11 _ W (nodes_ok hk d))
  have HPt := Aside0.mk (fun W => shape_Path.calls c.f0 c.f1 c.f2 c.f3 c.f4 c.f5 c.f6 c.f7 c.f8 c.f9 c.f10 c.f11 a _ _ _ _ W hp)
  have HNew := Aside0.mk (fun W => NewT_ (r + o + s) 100 W (by omega) (by omega) (by decide) (by decide))
  have HNx := Aside0.mk (fun (W : World) (b : Nat) (F : Nat → Prop) (N : Nat) (ls : List LS) (k : Nat) (hs : St (r + o + s) k ls) (R : L × Bool) (hT : IsTab W b F ls 100 N f0) (hR : nextT (x : Int) (y : Int) (z : Int) (holdsT ls 0 (x : Int)) (holdsT ls 0 (y : Int)) (holdsT ls 0 (z : Int)) c.f9 (stripesT ls 0 (lvC c) (paC c) (y : Int)) false = R) =>
    NextT_ hT hs.inv (by rw [hs.len]; omega) c 0 a false (lvC c) (paC c) (fun j _ => lvC_ok hk j) (fun j _ => paC_ok hk j) (x : Int) (y : Int) (z : Int) hp R hR)
  have hu41 := Try.underlying41
  have hu38 := Try.underlying38
  have HB1 := Aside0.mk (below_alloc (Below.refl w.heap.size w) (.cells #[.int .i64 c.f0, .int .i64 c.f1, .int .i64 c.f2, .int .i64 c.f3, .int .i64 c.f4, .int .i64 c.f5, .int .i64 c.f6, .int .i64 c.f7, .int .i64 c.f8, .int .i64 c.f9, .int .i64 c.f10, .int .i64 c.f11] 41))
  have hx := blk_new w (.cells #[.int .i64 c.f0, .int .i64 c.f1, .int .i64 c.f2, .int .i64 c.f3, .int .i64 c.f4, .int .i64 c.f5, .int .i64 c.f6, .int .i64 c.f7, .int .i64 c.f8, .int .i64 c.f9, .int .i64 c.f10, .int .i64 c.f11] 41)
  obtain ⟨w1, hw1⟩ : ∃ W, w.alloc (.cells #[.int .i64 c.f0, .int .i64 c.f1, .int .i64 c.f2, .int .i64 c.f3, .int .i64 c.f4, .int .i64 c.f5, .int .i64 c.f6, .int .i64 c.f7, .int .i64 c.f8, .int .i64 c.f9, .int .i64 c.f10, .int .i64 c.f11] 41) = W := ⟨_, rfl⟩
  have HW1 := Aside0.mk hw1
  rw [hw1] at HB1 hx
  have S1 := Aside0.mk (show w1.heap.size = w.heap.size + 1 by rw [← hw1]; simp)
  have X := Aside0.mk (fun W (hb : Below w1.heap.size w1 W) => (show W.cell? ⟨w.heap.size, 0, none⟩ = some (.int .i64 c.f0) ∧ W.cell? ⟨w.heap.size, 1, none⟩ = some (.int .i64 c.f1) ∧ W.cell? ⟨w.heap.size, 2, none⟩ = some (.int .i64 c.f2) ∧ W.cell? ⟨w.heap.size, 3, none⟩ = some (.int .i64 c.f3) ∧ W.cell? ⟨w.heap.size, 4, none⟩ = some (.int .i64 c.f4) ∧ W.cell? ⟨w.heap.size, 5, none⟩ = some (.int .i64 c.f5) ∧ W.cell? ⟨w.heap.size, 6, none⟩ = some (.int .i64 c.f6) ∧ W.cell? ⟨w.heap.size, 7, none⟩ = some (.int .i64 c.f7) ∧ W.cell? ⟨w.heap.size, 8, none⟩ = some (.int .i64 c.f8) ∧ W.cell? ⟨w.heap.size, 9, none⟩ = some (.int .i64 c.f9) ∧ W.cell? ⟨w.heap.size, 10, none⟩ = some (.int .i64 c.f10) ∧ W.cell? ⟨w.heap.size, 11, none⟩ = some (.int .i64 c.f11) from ⟨(hb.cell (p := ⟨w.heap.size, 0, none⟩) (by show w.heap.size < _; rw [S1.out]; omega)).trans ((blk_cell hx 0).trans rfl), (hb.cell (p := ⟨w.heap.size, 1, none⟩) (by show w.heap.size < _; rw [S1.out]; omega)).trans ((blk_cell hx 1).trans rfl), (hb.cell (p := ⟨w.heap.size, 2, none⟩) (by show w.heap.size < _; rw [S1.out]; omega)).trans ((blk_cell hx 2).trans rfl), (hb.cell (p := ⟨w.heap.size, 3, none⟩) (by show w.heap.size < _; rw [S1.out]; omega)).trans ((blk_cell hx 3).trans rfl), (hb.cell (p := ⟨w.heap.size, 4, none⟩) (by show w.heap.size < _; rw [S1.out]; omega)).trans ((blk_cell hx 4).trans rfl), (hb.cell (p := ⟨w.heap.size, 5, none⟩) (by show w.heap.size < _; rw [S1.out]; omega)).trans ((blk_cell hx 5).trans rfl), (hb.cell (p := ⟨w.heap.size, 6, none⟩) (by show w.heap.size < _; rw [S1.out]; omega)).trans ((blk_cell hx 6).trans rfl), (hb.cell (p := ⟨w.heap.size, 7, none⟩) (by show w.heap.size < _; rw [S1.out]; omega)).trans ((blk_cell hx 7).trans rfl), (hb.cell (p := ⟨w.heap.size, 8, none⟩) (by show w.heap.size < _; rw [S1.out]; omega)).trans ((blk_cell hx 8).trans rfl), (hb.cell (p := ⟨w.heap.size, 9, none⟩) (by show w.heap.size < _; rw [S1.out]; omega)).trans ((blk_cell hx 9).trans rfl), (hb.cell (p := ⟨w.heap.size, 10, none⟩) (by show w.heap.size < _; rw [S1.out]; omega)).trans ((blk_cell hx 10).trans rfl), (hb.cell (p := ⟨w.heap.size, 11, none⟩) (by show w.heap.size < _; rw [S1.out]; omega)).trans ((blk_cell hx 11).trans rfl)⟩))
  clear hx hw1
  have HQ := Aside0.mk (And.intro qx (And.intro qy (And.intro qxy (And.intro br (And.intro bo bs)))))
  have HN2 := Aside0.mk hN2
  clear hk d h0 h1 px py1 py2 pz1 pz2 hp br bo bs qx qy qxy hN2 hck hci
  go_enter Try.func6, Try.ntmps6
  go_wp2_with fail
  simp only [HW1.out]
  refine (firstP_ w1).mono ?_
  rintro e w2 ⟨rfl, hb⟩
  have HB2 := Aside0.mk hb
  clear hb
  obtain ⟨x0, x1, x2, x3, x4, x5, x6, x7, x8, x9, x10, x11⟩ := X.out _ HB2.out
  go_wp2_with fail
  refine (HCk.out w2).mono ?_
  rintro e w3 ⟨rfl, hb⟩
  have HB3 := Aside0.mk (below_then HB2.out HB2.out.size hb)
  clear hb x0 x1 x2 x3 x4 x5 x6 x7 x8 x9 x10 x11
  obtain ⟨x0, x1, x2, x3, x4, x5, x6, x7, x8, x9, x10, x11⟩ := X.out _ HB3.out
  go_wp2_with fail
  refine (HWd.out w3).mono ?_
  rintro e w4 ⟨rfl, hb⟩
  have HB4 := Aside0.mk (below_then HB3.out HB3.out.size hb)
  clear hb x0 x1 x2 x3 x4 x5 x6 x7 x8 x9 x10 x11
  obtain ⟨x0, x1, x2, x3, x4, x5, x6, x7, x8, x9, x10, x11⟩ := X.out _ HB4.out
  go_wp2_with fail
  refine (HNd.out w4).mono ?_
  rintro e w5 ⟨rfl, hb⟩
  have HB5 := Aside0.mk (below_then HB4.out HB4.out.size hb)
  clear hb HNd HWd HCk g1 g2 x0 x1 x2 x3 x4 x5 x6 x7 x8 x9 x10 x11
  go_wp2_with fail
  refine (HNew.out w5).mono ?_
  rintro e w6 ⟨rfl, hT, hb⟩
  have T6 := Aside0.mk (show IsTab w6 (w5.heap.size + 1) (fun k => w5.heap.size ≤ k) (A0 (r + o + s)) 100 0 f0 from hT)
  have C6 := Aside0.mk hb
  have D6 := Aside0.mk (below_then HB5.out HB5.out.size hb)
  clear hT hb HNew
  generalize w5.heap.size + 1 = B at T6 ⊢
  obtain ⟨x0, x1, x2, x3, x4, x5, x6, x7, x8, x9, x10, x11⟩ := X.out _ D6.out
  go_wp2_with fail
  refine (HPt.out w6).mono ?_
  rintro e w7 ⟨rfl, hb⟩
  have T7 := Aside0.mk (T6.out.below hb)
  have C7 := Aside0.mk (below_then C6.out C6.out.size hb)
  have D7 := Aside0.mk (below_then D6.out D6.out.size hb)
  clear hb HPt T6 C6 D6 x0 x1 x2 x3 x4 x5 x6 x7 x8 x9 x10 x11
  obtain ⟨qx, qy, qxy, br, bo, bs⟩ := HQ.out
  have HA := Aside0.mk (AskT_0 T7.out C7.out (small_of (n := 3) (show (A0 (r + o + s)).length ≤ 10000 by unfold A0; rw [List.length_replicate]; omega) (fun i hi => Nat.le_trans ((st_zero (r + o + s)).size i hi) (by omega)) (by decide)) (by omega) 0 (y : Int) 3 (by decide))
  rw [ask1 qx qy qxy] at HA
  have e1 := Aside0.mk (next1 qx qy qxy false (z : Int) c.f9 (holdsT (A1 (r + o + s) y) 0 (z : Int)) (stripesT (A1 (r + o + s) y) 0 (lvC c) (paC c) (y : Int)))
  have e3 := Aside0.mk (next3 qx qy qxy false (z : Int) c.f9 (holdsT (A3 (r + o + s) x y false) 0 (z : Int)) (stripesT (A3 (r + o + s) x y false) 0 (lvC c) (paC c) (y : Int)))
  have q1 := Aside0.mk (st1 qx qy qxy)
  have q2 := Aside0.mk (st2 qx qy qxy false)
  have q3 := Aside0.mk (st3 qx qy qxy false)
  have k2 := Aside0.mk (ask2 qx qy qxy false)
  have k3 := Aside0.mk (ask3 qx qy qxy false)
  have NN := Aside0.mk (show r + o + s ≤ 10000 by omega)
  clear qx qy qxy br bo bs
  go_wp2_with fail
  refine HA.out.mono ?_
  rintro e w8 ⟨rfl, hT, hb⟩
  have T8 := Aside0.mk hT
  have C8 := Aside0.mk hb
  have D8 := Aside0.mk (below_then HB5.out HB5.out.size hb)
  clear hT hb HA T7 C7 D7
  have HX1 := Aside0.mk (HNx.out w8 B _ _ _ 1 q1.out _ T8.out e1.out)
  obtain ⟨x0, x1, x2, x3, x4, x5, x6, x7, x8, x9, x10, x11⟩ := X.out _ D8.out
  go_wp2_with fail
  refine HX1.out.mono ?_
  rintro e w10 ⟨rfl, hb⟩
  have Y := blk_new w10 (.cells #[.int .i64 ((x : Int)), .int .i64 (inM false)] 38)
  have y0 : (w10.alloc (.cells #[.int .i64 ((x : Int)), .int .i64 (inM false)] 38)).cell? ⟨w10.heap.size, 0, none⟩ = some (.int .i64 ((x : Int))) := (blk_cell Y 0).trans rfl
  have y1 : (w10.alloc (.cells #[.int .i64 ((x : Int)), .int .i64 (inM false)] 38)).cell? ⟨w10.heap.size, 1, none⟩ = some (.int .i64 (inM false)) := (blk_cell Y 1).trans rfl
  have T10 := Aside0.mk ((T8.out.below hb).below (below_alloc (Below.refl _ _) (.cells #[.int .i64 ((x : Int)), .int .i64 (inM false)] 38)))
  have C10 := Aside0.mk (below_alloc (below_then C8.out C8.out.size hb) (.cells #[.int .i64 ((x : Int)), .int .i64 (inM false)] 38))
  have D10 := Aside0.mk (below_alloc (below_then D8.out D8.out.size hb) (.cells #[.int .i64 ((x : Int)), .int .i64 (inM false)] 38))
  clear hb HX1 x0 x1 x2 x3 x4 x5 x6 x7 x8 x9 x10 x11
  have z0 : ((x : Int) != (x : Int)) = false := bne_self_eq_false _
  have z1 : (inM false != 1) = false := by decide +kernel
  have HA := Aside0.mk (AskT_0 T10.out C10.out (small_of (n := 3) (by rw [q1.out.len]; exact NN.out) (fun i hi => Nat.le_trans (q1.out.size i hi) (by omega)) (by decide)) (by omega) 0 (x : Int) (inM false) (by decide))
  rw [k2.out] at HA
  go_wp2_with fail
  refine HA.out.mono ?_
  rintro e w11 ⟨rfl, hT, hb⟩
  have T11 := Aside0.mk hT
  have C11 := Aside0.mk hb
  have D11 := Aside0.mk (below_then HB5.out HB5.out.size hb)
  clear hT hb HA T10 C10 D10 T8 C8 D8 Y y0 y1 z0 z1
  have HX2 := Aside0.mk (HNx.out w11 B _ _ _ 2 q2.out _ T11.out HN2.out)
  obtain ⟨x0, x1, x2, x3, x4, x5, x6, x7, x8, x9, x10, x11⟩ := X.out _ D11.out
  go_wp2_with fail
  refine HX2.out.mono ?_
  rintro e w12 ⟨rfl, hb⟩
  have T12 := Aside0.mk ((T11.out.below hb).below (below_alloc (Below.refl _ _) (.cells #[.int .i64 (l2.f0), .int .i64 (l2.f1)] 38)))
  have C12 := Aside0.mk (below_alloc (below_then C11.out C11.out.size hb) (.cells #[.int .i64 (l2.f0), .int .i64 (l2.f1)] 38))
  have D12 := Aside0.mk (below_alloc (below_then D11.out D11.out.size hb) (.cells #[.int .i64 (l2.f0), .int .i64 (l2.f1)] 38))
  clear hb HX2 x0 x1 x2 x3 x4 x5 x6 x7 x8 x9 x10 x11
  have HA := Aside0.mk (AskT_0 T12.out C12.out (small_of (n := 3) (by rw [q2.out.len]; exact NN.out) (fun i hi => Nat.le_trans (q2.out.size i hi) (by omega)) (by decide)) (by omega) 0 (y : Int) 5 (by decide))
  rw [k3.out] at HA
  go_wp2_with fail
  refine HA.out.mono ?_
  rintro e w13 ⟨rfl, hT, hb⟩
  have T13 := Aside0.mk hT
  have C13 := Aside0.mk hb
  have D13 := Aside0.mk (below_then HB5.out HB5.out.size hb)
  clear hT hb HA T12 C12 D12 T11 C11 D11
  have HX3 := Aside0.mk (HNx.out w13 B _ _ _ 3 q3.out _ T13.out e3.out)
  obtain ⟨x0, x1, x2, x3, x4, x5, x6, x7, x8, x9, x10, x11⟩ := X.out _ D13.out
  go_wp2_with fail
  refine HX3.out.mono ?_
  rintro e w14 ⟨rfl, hb⟩
  have T14 := Aside0.mk ((T13.out.below hb).below (below_alloc (Below.refl _ _) (.cells #[.int .i64 (0), .int .i64 (0)] 38)))
  have C14 := Aside0.mk (below_alloc (below_then C13.out C13.out.size hb) (.cells #[.int .i64 (0), .int .i64 (0)] 38))
  have D14 := Aside0.mk (below_alloc (below_then D13.out D13.out.size hb) (.cells #[.int .i64 (0), .int .i64 (0)] 38))
  clear hb HX3 x0 x1 x2 x3 x4 x5 x6 x7 x8 x9 x10 x11
  go_wp2_with fail
  refine (firstP_ _).mono ?_
  rintro e w9 ⟨rfl, hb⟩
  have HB9 := Aside0.mk (below_then HB1.out (by rw [S1.out]; omega) (below_then D14.out D14.out.size hb))
  clear hb
  go_wp2
  go_ret
  exact ⟨rfl, HB9.out⟩
theorem all_walk (c : Cf) (a : Int) (wt : Bool) (w : World) :
    Calls Try.prog 6 #[.agg #[.int .i64 c.f0, .int .i64 c.f1, .int .i64 c.f2, .int .i64 c.f3, .int .i64 c.f4, .int .i64 c.f5, .int .i64 c.f6, .int .i64 c.f7, .int .i64 c.f8, .int .i64 c.f9, .int .i64 c.f10, .int .i64 c.f11], .int .i64 a, .bool wt] w fun e w' => e = .returned (.bool true) ∧ Below w.heap.size w w' := by
  by_cases hk : Okc c
  · obtain ⟨r, o, s, n, d⟩ := dim hk
    by_cases h : 0 ≤ a ∧ a < n
    · cases wt with
      | true => exact all_in_true c a w hk d h.1 h.2
      | false => exact all_in_false c a w hk d h.1 h.2
    · have hb : ¬ Okc c ∨ a < 0 ∨ ∃ r o s n, Dim c r o s n ∧ (n : Int) ≤ a := by
        by_cases h0 : a < 0
        · exact .inr (.inl h0)
        · exact .inr (.inr ⟨r, o, s, n, d, by omega⟩)
      exact all_bad c a wt w hb
  · exact all_bad c a wt w (.inl hk)
end Go.Proofs.Ytagdgkimjgomlaa.Ln
