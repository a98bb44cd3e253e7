/- PathTwo: its plain law, its walk. -/
import Derived.Test.YtagdgkimjgomlaaPa5
import Derived.Test.YtagdgkimjgomlaaTb8
import Derived.BigQuiet
namespace Go.Proofs.Ytagdgkimjgomlaa.Ln
open Go.RowKit Go.Proofs.YtagdgkimjgomlaaW.PrintWords Go.Proofs.YtagdgkimjgomlaaW.PrintLast Go.Proofs.YtagdgkimjgomlaaW.PrintMore Go.Proofs.Ytagdgkimjgomlaa.PMd
open Go.Maps
open Go.Sort (grow)
set_option linter.unusedVariables false
set_option linter.unusedSimpArgs false
theorem lenT_set7 (ls : List LS) (i : Nat) (x : LS) : lenT (ls.set i x) ≤ lenT ls + lenL x := by
  unfold lenT
  induction ls generalizing i with
  | nil => simp
  | cons y ls ih =>
    cases i with
    | zero => simp; omega
    | succ i => have := ih i; simp at this ⊢; omega
theorem path_ex {c : Cf} {r o s n : Nat} (h : Okc c) (d : Dim c r o s n) {a : Int} (h0 : 0 ≤ a) (h1 : a < n) : ∃ S O Q : Nat, Int.tdiv (S : Int) c.f2 = O ∧ Q < r ∧ O < o ∧ S < s ∧ shape_Path.f c.f0 c.f1 c.f2 c.f3 c.f4 c.f5 c.f6 c.f7 c.f8 c.f9 c.f10 c.f11 a = some ((Q : Int), ((r + O : Nat) : Int), ((r + o + S : Nat) : Int), 0) := by
  have b1 := h.b1
  have b2 := h.b2
  have b3 := h.b3
  have br := d.br
  have bo := d.bo
  have bs := d.bs
  have bn := d.bn
  have e1 : Int.tdiv a c.f3 = a / c.f3 := Int.tdiv_eq_ediv_of_nonneg h0
  have s0 : 0 ≤ a / c.f3 := Int.ediv_nonneg h0 (by omega)
  have s1 : a / c.f3 < s := by
    refine Int.ediv_lt_of_lt_mul (by omega) ?_
    rw [← d.hs, d.hn]; exact h1
  have e2 : Int.tdiv (a / c.f3) c.f2 = a / c.f3 / c.f2 := Int.tdiv_eq_ediv_of_nonneg s0
  have o0 : 0 ≤ a / c.f3 / c.f2 := Int.ediv_nonneg s0 (by omega)
  have o1 : a / c.f3 / c.f2 < o := by
    refine Int.ediv_lt_of_lt_mul (by omega) ?_
    rw [← d.ho, d.hs]; exact s1
  have e3 : Int.tdiv (a / c.f3 / c.f2) c.f1 = a / c.f3 / c.f2 / c.f1 := Int.tdiv_eq_ediv_of_nonneg o0
  have r0 : 0 ≤ a / c.f3 / c.f2 / c.f1 := Int.ediv_nonneg o0 (by omega)
  have r1 : a / c.f3 / c.f2 / c.f1 < r := by
    refine Int.ediv_lt_of_lt_mul (by omega) ?_
    rw [← d.hr, d.ho]; exact o1
  generalize hS : a / c.f3 = S at *
  generalize hO : S / c.f2 = O at *
  generalize hR : O / c.f1 = Q at *
  refine ⟨S.toNat, O.toNat, Q.toNat, by rw [Int.toNat_of_nonneg s0, Int.toNat_of_nonneg o0]; exact e2, by omega, by omega, by omega, ?_⟩
  unfold shape_Path.f
  rw [words_ok h d, counts_ok h d, if_neg (by omega)]
  simp only [Option.bind_some]
  rw [if_neg (by omega), if_neg (by omega), if_neg (by omega), if_neg (by omega), e1, wrap_id (x := S) (by omega), e2, wrap_id (x := O) (by omega), e3, wrap_id (x := Q) (by omega), wrap_id (x := (r : Int) + O) (by omega), wrap_id (x := (r : Int) + (o : Int)) (by omega), wrap_id (x := (r : Int) + (o : Int) + S) (by omega)]
  congr 2 <;> first | omega | (congr 1 <;> first | omega | (congr 1; omega))

def T2 (n : Nat) (g : Nat → LS) : List LS := (List.range n).map g
theorem T2_len (n : Nat) (g : Nat → LS) : (T2 n g).length = n := by simp [T2]
theorem T2_at {n j : Nat} (hj : j < n) (g : Nat → LS) : (T2 n g).getD j zL = g j := by
  unfold T2
  rw [List.getD_eq_getElem?_getD, List.getElem?_map, List.getElem?_range hj]; rfl
theorem T2_set {n i : Nat} (g : Nat → LS) (v : LS) : (T2 n g).set i v = T2 n (fun k => if k = i then v else g k) := by
  unfold T2
  refine List.ext_getElem (by simp) (fun j h1 h2 => ?_)
  rw [List.getElem_set, List.getElem_map, List.getElem_map, List.getElem_range]
  by_cases e : i = j
  · rw [if_pos e, if_pos e.symm]
  · rw [if_neg e, if_neg (fun h => e h.symm)]
theorem ask_two {ls : List LS} {i : Nat} {who m : Int} {hs qs hs' qs' : List E} {r : Int} (hi : i < ls.length) (hw : 0 ≤ who) (hm : knownM m = true) (h0 : m ≠ 0) (hl : lenT ls < 100) (hg : ls.getD i zL = (hs, qs)) (ha : askIn hs qs who m = (r, hs', qs')) :
    askT ls 100 f0 who (i : Int) m = (r, 0, ls.set i (hs', qs'), if r = 2 then f0.put who i else f0) := by
  unfold askT
  rw [if_neg (by omega), if_neg (show ¬ (f0 who).isSome = true from Bool.false_ne_true), if_neg (fun h => h.elim (fun h => by omega) (fun h => h.elim (fun h => by rw [hm] at h; cases h) h0)), if_neg (by rintro ⟨_, h⟩; omega), Int.toNat_natCast, hg, ha]
def laneW (p k : Nat) (a b : Bool) : LS :=
  match a, b with
  | false, false => zL
  | true, false => if p ≤ k then ([⟨0, 5⟩], []) else ([⟨0, 2⟩], [])
  | false, true => if p ≤ k then ([⟨1, 5⟩], []) else ([⟨1, 2⟩], [])
  | true, true => if p ≤ k then ([⟨0, 5⟩], [⟨1, 5⟩]) else ([⟨0, 2⟩, ⟨1, 2⟩], [])
theorem inv_lw (p k : Nat) (a b : Bool) : Inv (laneW p k a b).1 (laneW p k a b).2 := by
  cases a <;> cases b <;> unfold laneW <;> dsimp only
  · exact inv_nil
  · split
    · exact inv_ask inv_nil 1 5
    · exact inv_ask inv_nil 1 2
  · split
    · exact inv_ask inv_nil 0 5
    · exact inv_ask inv_nil 0 2
  · split
    · exact inv_ask (inv_ask inv_nil 0 5) 1 5
    · exact inv_ask (inv_ask inv_nil 0 2) 1 2
theorem lw_len (p k : Nat) (a b : Bool) : (laneW p k a b).1.length + (laneW p k a b).2.length ≤ 2 ∧ lenL (laneW p k a b) ≤ 2 := by
  cases a <;> cases b <;> unfold laneW <;> dsimp only
  · exact ⟨by decide, by decide⟩
  · split <;> exact ⟨by decide, by decide⟩
  · split <;> exact ⟨by decide, by decide⟩
  · split <;> exact ⟨by decide, by decide⟩
theorem lw_told0 (p k : Nat) (a b : Bool) : toldIn (laneW p k a b).1 0 = if a = true then (if p ≤ k then 5 else 2) else 0 := by
  cases a <;> cases b <;> unfold laneW <;> dsimp only
  · rfl
  · split <;> rfl
  · split <;> rfl
  · split <;> rfl
theorem lw_told1 (p k : Nat) (a b : Bool) (hk : k < p) : toldIn (laneW p k a b).1 1 = if b = true then 2 else 0 := by
  cases a <;> cases b <;> unfold laneW <;> dsimp only
  · rfl
  · rw [if_neg (by omega)]; rfl
  · rw [if_neg (by omega)]; rfl
  · rw [if_neg (by omega)]; rfl
theorem lw_told1' (p k : Nat) (a : Bool) : toldIn (laneW p k a false).1 1 = 0 := by
  cases a <;> unfold laneW <;> dsimp only
  · rfl
  · split <;> rfl
def aW (x y z i k : Nat) : Bool := decide ((1 ≤ i ∧ k = x) ∨ (2 ≤ i ∧ k = y) ∨ (3 ≤ i ∧ k = z))
def ndW (x y z : Nat) : Nat → Nat | 0 => x | 1 => y | _ => z
def moW : Nat → Int | 0 => 2 | 1 => 2 | _ => 5
/-- The nodes of two words. -/
structure Six where
  n : Nat
  p : Nat
  x : Nat
  y : Nat
  z : Nat
  x' : Nat
  y' : Nat
  z' : Nat
  xy : x < y
  yp : y < p
  pz : p ≤ z
  zn : z < n
  xy' : x' < y'
  yp' : y' < p
  pz' : p ≤ z'
  zn' : z' < n
  top : n ≤ 10000
def SW (v : Six) (i j : Nat) : List LS := T2 v.n (fun k => laneW v.p k (aW v.x v.y v.z i k) (aW v.x' v.y' v.z' j k))
def fW (v : Six) (j : Nat) : At := if 3 ≤ j ∧ v.z = v.z' then f0.put 1 v.z' else f0
theorem sw_len (v : Six) (i j : Nat) : (SW v i j).length = v.n := T2_len _ _
theorem sw_at (v : Six) (i j : Nat) {k : Nat} (hk : k < v.n) : (SW v i j).getD k zL = laneW v.p k (aW v.x v.y v.z i k) (aW v.x' v.y' v.z' j k) := T2_at hk _
theorem sw_inv (v : Six) (i j : Nat) : LInv (SW v i j) := fun k hk => by
  rw [sw_len] at hk
  rw [sw_at v i j hk]
  exact inv_lw _ _ _ _
theorem sw_small (v : Six) (i j : Nat) : Small (SW v i j) := small_of (n := 2) (by rw [sw_len]; exact v.top) (fun k hk => by
  rw [sw_len] at hk
  rw [sw_at v i j hk]
  exact (lw_len _ _ _ _).1) (by decide)
theorem aW_step {x y z : Nat} (i k : Nat) (hi : i < 3) : aW x y z (i + 1) k = if k = ndW x y z i then true else aW x y z i k := by
  have e : i = 0 ∨ i = 1 ∨ i = 2 := by omega
  unfold aW
  rcases e with rfl | rfl | rfl <;> simp only [ndW] <;> split <;> rename_i h
  all_goals first | (rw [decide_eq_true (by omega)]) | (apply decide_eq_decide.2; omega)
theorem aW_no {x y z : Nat} (hxy : x < y) (hyz : y < z) {i : Nat} (hi : i < 3) : aW x y z i (ndW x y z i) = false := by
  have e : i = 0 ∨ i = 1 ∨ i = 2 := by omega
  unfold aW
  rcases e with rfl | rfl | rfl <;> simp only [ndW] <;> exact decide_eq_false (by omega)
theorem nd_lt (v : Six) (i : Nat) (hi : i < 3) : ndW v.x v.y v.z i < v.n ∧ ndW v.x' v.y' v.z' i < v.n ∧ (v.p ≤ ndW v.x v.y v.z i ↔ i = 2) ∧ (v.p ≤ ndW v.x' v.y' v.z' i ↔ i = 2) := by
  have := v.xy
  have := v.yp
  have := v.pz
  have := v.zn
  have := v.xy'
  have := v.yp'
  have := v.pz'
  have := v.zn'
  have e : i = 0 ∨ i = 1 ∨ i = 2 := by omega
  rcases e with rfl | rfl | rfl
  · exact ⟨show v.x < v.n by omega, show v.x' < v.n by omega, ⟨fun h => absurd (show v.p ≤ v.x from h) (by omega), fun h => by omega⟩, ⟨fun h => absurd (show v.p ≤ v.x' from h) (by omega), fun h => by omega⟩⟩
  · exact ⟨show v.y < v.n by omega, show v.y' < v.n by omega, ⟨fun h => absurd (show v.p ≤ v.y from h) (by omega), fun h => by omega⟩, ⟨fun h => absurd (show v.p ≤ v.y' from h) (by omega), fun h => by omega⟩⟩
  · exact ⟨show v.z < v.n by omega, show v.z' < v.n by omega, ⟨fun _ => rfl, fun _ => v.pz⟩, ⟨fun _ => rfl, fun _ => v.pz'⟩⟩
theorem sw_step0 (v : Six) {i : Nat} (hi : i < 3) : (SW v i 0).set (ndW v.x v.y v.z i) (laneW v.p (ndW v.x v.y v.z i) true false) = SW v (i + 1) 0 := by
  unfold SW
  rw [T2_set]
  congr 1
  funext k
  rw [aW_step i k hi]
  by_cases e : k = ndW v.x v.y v.z i
  · rw [if_pos e, if_pos e, ← e, show aW v.x' v.y' v.z' 0 k = false by unfold aW; exact decide_eq_false (by omega)]
  · rw [if_neg e, if_neg e]
theorem sw_step1 (v : Six) {j : Nat} (hj : j < 3) : (SW v 3 j).set (ndW v.x' v.y' v.z' j) (laneW v.p (ndW v.x' v.y' v.z' j) (aW v.x v.y v.z 3 (ndW v.x' v.y' v.z' j)) true) = SW v 3 (j + 1) := by
  unfold SW
  rw [T2_set]
  congr 1
  funext k
  rw [aW_step (x := v.x') j k hj]
  by_cases e : k = ndW v.x' v.y' v.z' j
  · rw [if_pos e, if_pos e, ← e]
  · rw [if_neg e, if_neg e]
theorem sw_locks0 (v : Six) {i : Nat} (hi : i ≤ 3) : lenT (SW v i 0) ≤ 2 * i := by
  induction i with
  | zero =>
    have e : SW v 0 0 = List.replicate v.n zL := by
      unfold SW T2
      rw [show (fun k => laneW v.p k (aW v.x v.y v.z 0 k) (aW v.x' v.y' v.z' 0 k)) = fun _ => zL from funext fun k => by
        rw [show aW v.x v.y v.z 0 k = false by unfold aW; exact decide_eq_false (by omega), show aW v.x' v.y' v.z' 0 k = false by unfold aW; exact decide_eq_false (by omega)]; rfl]
      simp [List.map_const']
    rw [e]
    unfold lenT
    rw [List.map_replicate, show lenL zL = 0 from rfl]
    simp
  | succ i ih =>
    rw [← sw_step0 v (by omega)]
    have h1 := lenT_set7 (SW v i 0) (ndW v.x v.y v.z i) (laneW v.p (ndW v.x v.y v.z i) true false)
    have h2 := (lw_len v.p (ndW v.x v.y v.z i) true false).2
    have := ih (by omega)
    omega
theorem sw_locks1 (v : Six) {j : Nat} (hj : j ≤ 3) : lenT (SW v 3 j) ≤ 6 + 2 * j := by
  induction j with
  | zero => exact sw_locks0 v (Nat.le_refl 3)
  | succ j ih =>
    rw [← sw_step1 v (by omega)]
    have h1 := lenT_set7 (SW v 3 j) (ndW v.x' v.y' v.z' j) (laneW v.p (ndW v.x' v.y' v.z' j) (aW v.x v.y v.z 3 (ndW v.x' v.y' v.z' j)) true)
    have h2 := (lw_len v.p (ndW v.x' v.y' v.z' j) (aW v.x v.y v.z 3 (ndW v.x' v.y' v.z' j)) true).2
    have := ih (by omega)
    omega
theorem sw_zero (v : Six) : SW v 0 0 = List.replicate v.n zL := by
  unfold SW T2
  rw [show (fun k => laneW v.p k (aW v.x v.y v.z 0 k) (aW v.x' v.y' v.z' 0 k)) = fun _ => zL from funext fun k => by
    rw [show aW v.x v.y v.z 0 k = false by unfold aW; exact decide_eq_false (by omega), show aW v.x' v.y' v.z' 0 k = false by unfold aW; exact decide_eq_false (by omega)]; rfl]
  simp [List.map_const']
theorem mo_ok {i : Nat} (hi : i < 3) : knownM (moW i) = true ∧ moW i ≠ 0 := by
  have e : i = 0 ∨ i = 1 ∨ i = 2 := by omega
  rcases e with rfl | rfl | rfl <;> exact ⟨by decide, by decide⟩
theorem ask0 (v : Six) {i : Nat} (hi : i < 3) : askT (SW v i 0) 100 f0 0 (ndW v.x v.y v.z i : Nat) (moW i) = (1, 0, SW v (i + 1) 0, f0) := by
  obtain ⟨n1, n2, n3, n4⟩ := nd_lt v i hi
  have hyz : v.y < v.z := by have := v.yp; have := v.pz; omega
  have hk := sw_at v i 0 n1
  rw [aW_no v.xy hyz hi, show aW v.x' v.y' v.z' 0 (ndW v.x v.y v.z i) = false by unfold aW; exact decide_eq_false (by omega)] at hk
  have hl := sw_locks0 v (i := i) (by omega)
  have e : i = 0 ∨ i = 1 ∨ i = 2 := by omega
  have hs : askIn [] [] 0 (moW i) = (1, (laneW v.p (ndW v.x v.y v.z i) true false).1, (laneW v.p (ndW v.x v.y v.z i) true false).2) := by
    unfold laneW
    dsimp only
    rcases e with rfl | rfl | rfl
    · rw [if_neg (by omega)]; show _ = _; kernel_rfl
    · rw [if_neg (by omega)]; show _ = _; kernel_rfl
    · rw [if_pos (by omega)]; show _ = _; kernel_rfl
  rw [ask_two (hs := []) (qs := []) (by rw [sw_len]; exact n1) (by decide) (mo_ok hi).1 (mo_ok hi).2 (by omega) hk hs]
  rw [show ((laneW v.p (ndW v.x v.y v.z i) true false).1, (laneW v.p (ndW v.x v.y v.z i) true false).2) = laneW v.p (ndW v.x v.y v.z i) true false from rfl, sw_step0 v hi]
  rfl
/-- Does the second one wait? -/
def wtW (v : Six) (j : Nat) : Bool := decide (j = 2 ∧ v.z = v.z')
theorem aW_three {x y z k p : Nat} (hy : y < p) (hx : x < y) (hk : p ≤ k) : aW x y z 3 k = decide (k = z) := by
  unfold aW
  exact decide_eq_decide.2 (by omega)
theorem ask1 (v : Six) {j : Nat} (hj : j < 3) : askT (SW v 3 j) 100 (fW v j) 1 (ndW v.x' v.y' v.z' j : Nat) (moW j) = (if wtW v j then 2 else 1, 0, SW v 3 (j + 1), fW v (j + 1)) := by
  obtain ⟨n1, n2, n3, n4⟩ := nd_lt v j hj
  have hyz : v.y' < v.z' := by have := v.yp'; have := v.pz'; omega
  have hk := sw_at v 3 j n2
  rw [aW_no v.xy' hyz hj] at hk
  have hl := sw_locks1 v (j := j) (by omega)
  have e : j = 0 ∨ j = 1 ∨ j = 2 := by omega
  have hf : fW v j = f0 := if_neg (by omega)
  have ha3 : j = 2 → aW v.x v.y v.z 3 (ndW v.x' v.y' v.z' j) = decide (v.z' = v.z) := fun h => by
    rw [aW_three v.yp v.xy (n4.2 h)]; subst h; rfl
  have hs : askIn (laneW v.p (ndW v.x' v.y' v.z' j) (aW v.x v.y v.z 3 (ndW v.x' v.y' v.z' j)) false).1 (laneW v.p (ndW v.x' v.y' v.z' j) (aW v.x v.y v.z 3 (ndW v.x' v.y' v.z' j)) false).2 1 (moW j) = (if wtW v j then 2 else 1, (laneW v.p (ndW v.x' v.y' v.z' j) (aW v.x v.y v.z 3 (ndW v.x' v.y' v.z' j)) true).1, (laneW v.p (ndW v.x' v.y' v.z' j) (aW v.x v.y v.z 3 (ndW v.x' v.y' v.z' j)) true).2) := by
    by_cases h2 : j = 2
    · rw [ha3 h2]
      have hp := n4.2 h2
      by_cases hz : v.z' = v.z
      · rw [decide_eq_true hz, show wtW v j = true from decide_eq_true ⟨h2, hz.symm⟩]
        unfold laneW
        dsimp only
        rw [if_pos hp, if_pos hp, h2]
        show _ = _
        kernel_rfl
      · rw [decide_eq_false hz, show wtW v j = false from decide_eq_false (fun h => hz h.2.symm)]
        unfold laneW
        dsimp only
        rw [if_pos hp, h2]
        show _ = _
        kernel_rfl
    · have hp : ¬ v.p ≤ ndW v.x' v.y' v.z' j := fun h => h2 (n4.1 h)
      rw [show wtW v j = false from decide_eq_false (fun h => h2 h.1)]
      have hm : moW j = 2 := by rcases e with rfl | rfl | rfl; · rfl
                                · rfl
                                · exact absurd rfl h2
      rw [hm]
      cases aW v.x v.y v.z 3 (ndW v.x' v.y' v.z' j)
      · unfold laneW
        dsimp only
        rw [if_neg hp]
        show _ = _
        kernel_rfl
      · unfold laneW
        dsimp only
        rw [if_neg hp, if_neg hp]
        show _ = _
        kernel_rfl
  rw [hf, ask_two (by rw [sw_len]; exact n2) (by decide) (mo_ok hj).1 (mo_ok hj).2 (by omega) hk hs]
  rw [show ((laneW v.p (ndW v.x' v.y' v.z' j) (aW v.x v.y v.z 3 (ndW v.x' v.y' v.z' j)) true).1, (laneW v.p (ndW v.x' v.y' v.z' j) (aW v.x v.y v.z 3 (ndW v.x' v.y' v.z' j)) true).2) = laneW v.p (ndW v.x' v.y' v.z' j) (aW v.x v.y v.z 3 (ndW v.x' v.y' v.z' j)) true from rfl, sw_step1 v hj]
  congr 3
  unfold fW
  by_cases hw : wtW v j = true
  · obtain ⟨h2, hz⟩ : j = 2 ∧ v.z = v.z' := of_decide_eq_true hw
    rw [hw]
    show f0.put 1 (ndW v.x' v.y' v.z' j) = _
    rw [if_pos ⟨by omega, hz⟩]
    subst h2
    rfl
  · have hw' : wtW v j = false := by simpa using hw
    have h3 : ¬ (3 ≤ j + 1 ∧ v.z = v.z') := fun h => hw (decide_eq_true ⟨by omega, h.2⟩)
    rw [hw', if_neg h3]
    rfl
theorem holdsW {v : Six} {i j k : Nat} (who : Int) (hk : k < v.n) : holdsT (SW v i j) who (k : Int) = toldIn (laneW v.p k (aW v.x v.y v.z i k) (aW v.x' v.y' v.z' j k)).1 who := by
  unfold holdsT
  rw [if_pos ⟨by omega, by rw [sw_len]; omega⟩, Int.toNat_natCast, sw_at v i j hk]
theorem next0 (v : Six) (st : Nat) {i : Nat} (hi : i < 3) :
    nextT (v.x : Int) (v.y : Int) (v.z : Int) (holdsT (SW v i 0) 0 (v.x : Int)) (holdsT (SW v i 0) 0 (v.y : Int)) (holdsT (SW v i 0) 0 (v.z : Int)) 0 st true = (⟨(ndW v.x v.y v.z i : Nat), moW i⟩, true) := by
  have h1 := v.xy
  have h2 := v.yp
  have h3 := v.pz
  have h4 := v.zn
  rw [holdsW 0 (by omega), holdsW 0 (by omega), holdsW 0 h4, lw_told0, lw_told0, lw_told0]
  have e : i = 0 ∨ i = 1 ∨ i = 2 := by omega
  unfold aW
  rcases e with rfl | rfl | rfl
  · rw [decide_eq_false (by omega), decide_eq_false (by omega), decide_eq_false (by omega)]; show _ = _; kernel_rfl
  · rw [decide_eq_true (by omega), decide_eq_false (by omega), decide_eq_false (by omega), if_pos rfl, if_neg (by omega)]; show _ = _; kernel_rfl
  · rw [decide_eq_true (by omega), decide_eq_true (by omega), decide_eq_false (by omega), if_pos rfl, if_pos rfl, if_neg (by omega), if_neg (by omega)]; show _ = _; kernel_rfl
theorem next1 (v : Six) (st : Nat) {j : Nat} (hj : j < 3) :
    nextT (v.x' : Int) (v.y' : Int) (v.z' : Int) (holdsT (SW v 3 j) 1 (v.x' : Int)) (holdsT (SW v 3 j) 1 (v.y' : Int)) (holdsT (SW v 3 j) 1 (v.z' : Int)) 0 st true = (⟨(ndW v.x' v.y' v.z' j : Nat), moW j⟩, true) := by
  have h1 := v.xy'
  have h2 := v.yp'
  have h3 := v.pz'
  have h4 := v.zn'
  rw [holdsW 1 (by omega), holdsW 1 (by omega), holdsW 1 h4, lw_told1 _ _ _ _ (by omega), lw_told1 _ _ _ _ h2]
  rw [show aW v.x' v.y' v.z' j v.z' = false by unfold aW; exact decide_eq_false (by omega), lw_told1']
  have e : j = 0 ∨ j = 1 ∨ j = 2 := by omega
  unfold aW
  rcases e with rfl | rfl | rfl
  · rw [decide_eq_false (by omega), decide_eq_false (by omega)]; show _ = _; kernel_rfl
  · rw [decide_eq_true (by omega), decide_eq_false (by omega), if_pos rfl]; show _ = _; kernel_rfl
  · rw [decide_eq_true (by omega), decide_eq_true (by omega), if_pos rfl]; show _ = _; kernel_rfl
theorem blk_two : blocksIn [⟨0, 5⟩] [⟨1, 5⟩] 1 = [0] := by
  have e : blocksAt [⟨0, 5⟩] [⟨1, 5⟩] 1 0 = [0] := by kernel_rfl
  have i : ix (fun x => x.f0 == 1) ([⟨1, 5⟩] : List E) = 0 := by kernel_rfl
  unfold blocksIn
  rw [i, if_neg (by decide)]
  show Lib.compact (sortedI (blocksAt _ _ 1 0)) = _
  rw [e, sortedI_of (by simp)]
  kernel_rfl
theorem fW_lt (v : Six) (x : Int) (n : Nat) (h : fW v 3 x = some n) : n < (SW v 3 3).length := by
  rw [sw_len]
  unfold fW at h
  split at h
  · unfold At.put at h
    split at h
    · injection h with h; have := v.zn'; omega
    · cases h
  · cases h
theorem edges_two (v : Six) {l : List Int} (h1 : l.Nodup) (h2 : ∀ x, x ∈ l ↔ ok64 x ∧ (fW v 3 x).isSome = true) : decide ((edUp (SW v 3 3) (fW v 3) (sortedI l) l.length).length = 1) = decide (v.z = v.z') := by
  by_cases hz : v.z = v.z'
  · have hf : fW v 3 = f0.put 1 v.z' := if_pos ⟨Nat.le_refl _, hz⟩
    obtain rfl : l = [1] := by
      have hm : ∀ x, x ∈ l ↔ x = 1 := fun x => by
        rw [h2 x, hf]
        unfold At.put
        constructor
        · rintro ⟨_, h⟩
          by_cases e : x = 1
          · exact e
          · rw [if_neg e] at h; cases h
        · rintro rfl
          exact ⟨by decide, by rw [if_pos rfl]; rfl⟩
      have h3 : l.Perm [1] := (List.perm_ext_iff_of_nodup h1 (by simp)).2 (fun x => by rw [hm x]; simp)
      exact List.perm_singleton.1 h3
    rw [sortedI_one, decide_eq_true hz]
    have e1 : edT (SW v 3 3) (fW v 3) 1 = [(1, 0)] := by
      have h3 := v.pz'
      unfold edT
      rw [hf, show (f0.put 1 v.z') 1 = some v.z' from if_pos rfl]
      dsimp only
      rw [sw_at v 3 3 v.zn', aW_three v.yp v.xy h3, aW_three v.yp' v.xy' h3, decide_eq_true hz.symm, decide_eq_true rfl]
      unfold laneW
      dsimp only
      rw [if_pos h3]
      dsimp only
      rw [blk_two]
      rfl
    unfold edUp
    show decide ((([1] : List Int).flatMap (edT (SW v 3 3) (fW v 3))).length = 1) = true
    rw [List.flatMap_cons, e1]
    rfl
  · have hf : fW v 3 = f0 := if_neg (fun h => hz h.2)
    obtain rfl : l = [] := List.eq_nil_iff_forall_not_mem.2 (fun x hx => by
      have := ((h2 x).1 hx).2
      rw [hf] at this; cases this)
    rw [decide_eq_false hz]
    rfl

/-- Where two words lie. -/
theorem two_six {c : Cf} {r o s n : Nat} (h : Okc c) (d : Dim c r o s n) {a b : Int} (h0 : 0 ≤ a) (h1 : a < n) (h2 : 0 ≤ b) (h3 : b < n) :
    ∃ v : Six, r + o + s = v.n ∧ shape_Path.f c.f0 c.f1 c.f2 c.f3 c.f4 c.f5 c.f6 c.f7 c.f8 c.f9 c.f10 c.f11 a = some ((v.x : Int), (v.y : Int), (v.z : Int), 0) ∧ shape_Path.f c.f0 c.f1 c.f2 c.f3 c.f4 c.f5 c.f6 c.f7 c.f8 c.f9 c.f10 c.f11 b = some ((v.x' : Int), (v.y' : Int), (v.z' : Int), 0) := by
  obtain ⟨S, O, Q, _, hQ, hO, hS, hp⟩ := path_ex h d h0 h1
  obtain ⟨S', O', Q', _, hQ', hO', hS', hp'⟩ := path_ex h d h2 h3
  have := d.br
  have := d.bo
  have := d.bs
  exact ⟨⟨r + o + s, r + o, Q, r + O, r + o + S, Q', r + O', r + o + S', by omega, by omega, by omega, by omega, by omega, by omega, by omega, by omega, by omega⟩, rfl, hp, hp'⟩
set_option maxHeartbeats 8000000 in
set_option maxRecDepth 100000 in
theorem two_bad (c : Cf) (h9 : c.f9 = 0) (e9 : Int) (a b : Int) (w : World) (h : ¬ Okc c ∨ a < 0 ∨ b < 0 ∨ ∃ r o s n, Dim c r o s n ∧ ((n : Int) ≤ a ∨ (n : Int) ≤ b)) :
    Calls Try.prog 19 #[.agg #[.int .i64 c.f0, .int .i64 c.f1, .int .i64 c.f2, .int .i64 c.f3, .int .i64 c.f4, .int .i64 c.f5, .int .i64 c.f6, .int .i64 c.f7, .int .i64 c.f8, .int .i64 e9, .int .i64 c.f10, .int .i64 c.f11], .int .i64 a, .int .i64 b] w fun e w' => e = .returned (.bool true) ∧ Below w.heap.size w w' := by
  obtain ⟨ck, hck, hci⟩ := chk_f c
  have HCk := Aside0.mk (fun W => ltkref1_Check.calls 20 c.f0 c.f1 c.f2 c.f3 c.f4 c.f5 c.f6 c.f7 c.f8 c.f9 c.f10 c.f11 _ W hck)
  simp only [h9] at HCk
  have hu41 := Try.underlying41
  have hu38 := Try.underlying38
  have HB1 := Aside0.mk (below_alloc (Below.refl w.heap.size w) (.cells #[.int .i64 c.f0, .int .i64 c.f1, .int .i64 c.f2, .int .i64 c.f3, .int .i64 c.f4, .int .i64 c.f5, .int .i64 c.f6, .int .i64 c.f7, .int .i64 c.f8, .int .i64 e9, .int .i64 c.f10, .int .i64 c.f11] 41))
  have hx := blk_new w (.cells #[.int .i64 c.f0, .int .i64 c.f1, .int .i64 c.f2, .int .i64 c.f3, .int .i64 c.f4, .int .i64 c.f5, .int .i64 c.f6, .int .i64 c.f7, .int .i64 c.f8, .int .i64 e9, .int .i64 c.f10, .int .i64 c.f11] 41)
  obtain ⟨w1, hw1⟩ : ∃ W, w.alloc (.cells #[.int .i64 c.f0, .int .i64 c.f1, .int .i64 c.f2, .int .i64 c.f3, .int .i64 c.f4, .int .i64 c.f5, .int .i64 c.f6, .int .i64 c.f7, .int .i64 c.f8, .int .i64 e9, .int .i64 c.f10, .int .i64 c.f11] 41) = W := ⟨_, rfl⟩
  have HW1 := Aside0.mk hw1
  rw [hw1] at HB1 hx
  have S1 := Aside0.mk (show w1.heap.size = w.heap.size + 1 by rw [← hw1]; simp)
  have HX1 := Aside0.mk hx
  clear hx hw1
  by_cases hk : Okc c
  · obtain rfl := hci.2 hk
    by_cases h0 : a < 0
    · have g1 : decide (a < 0) = true := decide_eq_true h0
      clear h h0 hck hci hk h9
      go_enter Try.func19, Try.ntmps19
      go_wp2_with fail
      simp only [HW1.out]
      refine (firstP_ w1).mono ?_
      rintro e w2 ⟨rfl, hb⟩
      have hx2 := (hb.block w.heap.size (by rw [S1.out]; omega)).trans HX1.out
      have HX2 := Aside0.mk hx2
      have HB2 := Aside0.mk (below_then HB1.out (by rw [S1.out]; omega) hb)
      have S2 := Aside0.mk (show w.heap.size < w2.heap.size from (Array.getElem?_eq_some_iff.1 hx2).1)
      obtain ⟨w3, hw3⟩ : ∃ W, w2.setCell ⟨w.heap.size, 9, none⟩ (.int .i64 0) = W := ⟨_, rfl⟩
      have HW3 := Aside0.mk hw3
      have S3s := Aside0.mk (show w.heap.size < w3.heap.size by rw [← hw3]; simpa using S2.out)
      have HX3 := Aside0.mk (show w3.heap[w.heap.size]? = some (.cells #[.int .i64 c.f0, .int .i64 c.f1, .int .i64 c.f2, .int .i64 c.f3, .int .i64 c.f4, .int .i64 c.f5, .int .i64 c.f6, .int .i64 c.f7, .int .i64 c.f8, .int .i64 0, .int .i64 c.f10, .int .i64 c.f11] 41 (0, 0)) by rw [← hw3]; exact heap_setCell_same w2 w.heap.size 9 _ _ (.int .i64 0) HX2.out)
      have HB3 := Aside0.mk (show Below w.heap.size w w3 by rw [← hw3]; exact HB2.out.setCell (p := ⟨w.heap.size, 9, none⟩) (Nat.le_refl _) _)
      have X := Aside0.mk (fun W (hb : Below w3.heap.size w3 W) => (show W.cell? ⟨w.heap.size, 0, none⟩ = some (.int .i64 c.f0) ∧ W.cell? ⟨w.heap.size, 1, none⟩ = some (.int .i64 c.f1) ∧ W.cell? ⟨w.heap.size, 2, none⟩ = some (.int .i64 c.f2) ∧ W.cell? ⟨w.heap.size, 3, none⟩ = some (.int .i64 c.f3) ∧ W.cell? ⟨w.heap.size, 4, none⟩ = some (.int .i64 c.f4) ∧ W.cell? ⟨w.heap.size, 5, none⟩ = some (.int .i64 c.f5) ∧ W.cell? ⟨w.heap.size, 6, none⟩ = some (.int .i64 c.f6) ∧ W.cell? ⟨w.heap.size, 7, none⟩ = some (.int .i64 c.f7) ∧ W.cell? ⟨w.heap.size, 8, none⟩ = some (.int .i64 c.f8) ∧ W.cell? ⟨w.heap.size, 9, none⟩ = some (.int .i64 0) ∧ W.cell? ⟨w.heap.size, 10, none⟩ = some (.int .i64 c.f10) ∧ W.cell? ⟨w.heap.size, 11, none⟩ = some (.int .i64 c.f11) from ⟨(hb.cell (p := ⟨w.heap.size, 0, none⟩) S3s.out).trans ((blk_cell HX3.out 0).trans rfl), (hb.cell (p := ⟨w.heap.size, 1, none⟩) S3s.out).trans ((blk_cell HX3.out 1).trans rfl), (hb.cell (p := ⟨w.heap.size, 2, none⟩) S3s.out).trans ((blk_cell HX3.out 2).trans rfl), (hb.cell (p := ⟨w.heap.size, 3, none⟩) S3s.out).trans ((blk_cell HX3.out 3).trans rfl), (hb.cell (p := ⟨w.heap.size, 4, none⟩) S3s.out).trans ((blk_cell HX3.out 4).trans rfl), (hb.cell (p := ⟨w.heap.size, 5, none⟩) S3s.out).trans ((blk_cell HX3.out 5).trans rfl), (hb.cell (p := ⟨w.heap.size, 6, none⟩) S3s.out).trans ((blk_cell HX3.out 6).trans rfl), (hb.cell (p := ⟨w.heap.size, 7, none⟩) S3s.out).trans ((blk_cell HX3.out 7).trans rfl), (hb.cell (p := ⟨w.heap.size, 8, none⟩) S3s.out).trans ((blk_cell HX3.out 8).trans rfl), (hb.cell (p := ⟨w.heap.size, 9, none⟩) S3s.out).trans ((blk_cell HX3.out 9).trans rfl), (hb.cell (p := ⟨w.heap.size, 10, none⟩) S3s.out).trans ((blk_cell HX3.out 10).trans rfl), (hb.cell (p := ⟨w.heap.size, 11, none⟩) S3s.out).trans ((blk_cell HX3.out 11).trans rfl)⟩))
      have c9 : w2.cell? ⟨w.heap.size, 9, none⟩ = some (.int .i64 e9) := (blk_cell hx2 9).trans rfl
      have f9' := frozen_of_row w2 w.heap.size 9 _ _ hx2
      have k0 : w2.cell? ⟨w.heap.size, 0, none⟩ = some (.int .i64 c.f0) := (blk_cell hx2 0).trans rfl
      have k1 : w2.cell? ⟨w.heap.size, 1, none⟩ = some (.int .i64 c.f1) := (blk_cell hx2 1).trans rfl
      have k2 : w2.cell? ⟨w.heap.size, 2, none⟩ = some (.int .i64 c.f2) := (blk_cell hx2 2).trans rfl
      have k3 : w2.cell? ⟨w.heap.size, 3, none⟩ = some (.int .i64 c.f3) := (blk_cell hx2 3).trans rfl
      have k4 : w2.cell? ⟨w.heap.size, 4, none⟩ = some (.int .i64 c.f4) := (blk_cell hx2 4).trans rfl
      have k5 : w2.cell? ⟨w.heap.size, 5, none⟩ = some (.int .i64 c.f5) := (blk_cell hx2 5).trans rfl
      have k6 : w2.cell? ⟨w.heap.size, 6, none⟩ = some (.int .i64 c.f6) := (blk_cell hx2 6).trans rfl
      have k7 : w2.cell? ⟨w.heap.size, 7, none⟩ = some (.int .i64 c.f7) := (blk_cell hx2 7).trans rfl
      have k8 : w2.cell? ⟨w.heap.size, 8, none⟩ = some (.int .i64 c.f8) := (blk_cell hx2 8).trans rfl
      have k10 : w2.cell? ⟨w.heap.size, 10, none⟩ = some (.int .i64 c.f10) := (blk_cell hx2 10).trans rfl
      have k11 : w2.cell? ⟨w.heap.size, 11, none⟩ = some (.int .i64 c.f11) := (blk_cell hx2 11).trans rfl
      clear hb hx2 hw3
      go_wp2_with fail
      simp only [HW3.out]
      refine (HCk.out w3).mono ?_
      rintro e w4 ⟨rfl, hb⟩
      have HB4 := Aside0.mk hb
      clear hb c9 f9' k0 k1 k2 k3 k4 k5 k6 k7 k8 k10 k11
      go_wp2_with fail
      refine (firstP_ w4).mono ?_
      rintro e w9 ⟨rfl, hb⟩
      have HB9 := Aside0.mk (below_then HB3.out (Nat.le_of_lt S3s.out) (below_then HB4.out HB4.out.size hb))
      clear hb
      go_wp2
      go_ret
      exact ⟨rfl, HB9.out⟩
    · have g1 : decide (a < 0) = false := decide_eq_false h0
      by_cases h1 : b < 0
      · have g2 : decide (b < 0) = true := decide_eq_true h1
        clear h h0 h1 hck hci hk h9
        go_enter Try.func19, Try.ntmps19
        go_wp2_with fail
        simp only [HW1.out]
        refine (firstP_ w1).mono ?_
        rintro e w2 ⟨rfl, hb⟩
        have hx2 := (hb.block w.heap.size (by rw [S1.out]; omega)).trans HX1.out
        have HX2 := Aside0.mk hx2
        have HB2 := Aside0.mk (below_then HB1.out (by rw [S1.out]; omega) hb)
        have S2 := Aside0.mk (show w.heap.size < w2.heap.size from (Array.getElem?_eq_some_iff.1 hx2).1)
        obtain ⟨w3, hw3⟩ : ∃ W, w2.setCell ⟨w.heap.size, 9, none⟩ (.int .i64 0) = W := ⟨_, rfl⟩
        have HW3 := Aside0.mk hw3
        have S3s := Aside0.mk (show w.heap.size < w3.heap.size by rw [← hw3]; simpa using S2.out)
        have HX3 := Aside0.mk (show w3.heap[w.heap.size]? = some (.cells #[.int .i64 c.f0, .int .i64 c.f1, .int .i64 c.f2, .int .i64 c.f3, .int .i64 c.f4, .int .i64 c.f5, .int .i64 c.f6, .int .i64 c.f7, .int .i64 c.f8, .int .i64 0, .int .i64 c.f10, .int .i64 c.f11] 41 (0, 0)) by rw [← hw3]; exact heap_setCell_same w2 w.heap.size 9 _ _ (.int .i64 0) HX2.out)
        have HB3 := Aside0.mk (show Below w.heap.size w w3 by rw [← hw3]; exact HB2.out.setCell (p := ⟨w.heap.size, 9, none⟩) (Nat.le_refl _) _)
        have X := Aside0.mk (fun W (hb : Below w3.heap.size w3 W) => (show W.cell? ⟨w.heap.size, 0, none⟩ = some (.int .i64 c.f0) ∧ W.cell? ⟨w.heap.size, 1, none⟩ = some (.int .i64 c.f1) ∧ W.cell? ⟨w.heap.size, 2, none⟩ = some (.int .i64 c.f2) ∧ W.cell? ⟨w.heap.size, 3, none⟩ = some (.int .i64 c.f3) ∧ W.cell? ⟨w.heap.size, 4, none⟩ = some (.int .i64 c.f4) ∧ W.cell? ⟨w.heap.size, 5, none⟩ = some (.int .i64 c.f5) ∧ W.cell? ⟨w.heap.size, 6, none⟩ = some (.int .i64 c.f6) ∧ W.cell? ⟨w.heap.size, 7, none⟩ = some (.int .i64 c.f7) ∧ W.cell? ⟨w.heap.size, 8, none⟩ = some (.int .i64 c.f8) ∧ W.cell? ⟨w.heap.size, 9, none⟩ = some (.int .i64 0) ∧ W.cell? ⟨w.heap.size, 10, none⟩ = some (.int .i64 c.f10) ∧ W.cell? ⟨w.heap.size, 11, none⟩ = some (.int .i64 c.f11) from ⟨(hb.cell (p := ⟨w.heap.size, 0, none⟩) S3s.out).trans ((blk_cell HX3.out 0).trans rfl), (hb.cell (p := ⟨w.heap.size, 1, none⟩) S3s.out).trans ((blk_cell HX3.out 1).trans rfl), (hb.cell (p := ⟨w.heap.size, 2, none⟩) S3s.out).trans ((blk_cell HX3.out 2).trans rfl), (hb.cell (p := ⟨w.heap.size, 3, none⟩) S3s.out).trans ((blk_cell HX3.out 3).trans rfl), (hb.cell (p := ⟨w.heap.size, 4, none⟩) S3s.out).trans ((blk_cell HX3.out 4).trans rfl), (hb.cell (p := ⟨w.heap.size, 5, none⟩) S3s.out).trans ((blk_cell HX3.out 5).trans rfl), (hb.cell (p := ⟨w.heap.size, 6, none⟩) S3s.out).trans ((blk_cell HX3.out 6).trans rfl), (hb.cell (p := ⟨w.heap.size, 7, none⟩) S3s.out).trans ((blk_cell HX3.out 7).trans rfl), (hb.cell (p := ⟨w.heap.size, 8, none⟩) S3s.out).trans ((blk_cell HX3.out 8).trans rfl), (hb.cell (p := ⟨w.heap.size, 9, none⟩) S3s.out).trans ((blk_cell HX3.out 9).trans rfl), (hb.cell (p := ⟨w.heap.size, 10, none⟩) S3s.out).trans ((blk_cell HX3.out 10).trans rfl), (hb.cell (p := ⟨w.heap.size, 11, none⟩) S3s.out).trans ((blk_cell HX3.out 11).trans rfl)⟩))
        have c9 : w2.cell? ⟨w.heap.size, 9, none⟩ = some (.int .i64 e9) := (blk_cell hx2 9).trans rfl
        have f9' := frozen_of_row w2 w.heap.size 9 _ _ hx2
        have k0 : w2.cell? ⟨w.heap.size, 0, none⟩ = some (.int .i64 c.f0) := (blk_cell hx2 0).trans rfl
        have k1 : w2.cell? ⟨w.heap.size, 1, none⟩ = some (.int .i64 c.f1) := (blk_cell hx2 1).trans rfl
        have k2 : w2.cell? ⟨w.heap.size, 2, none⟩ = some (.int .i64 c.f2) := (blk_cell hx2 2).trans rfl
        have k3 : w2.cell? ⟨w.heap.size, 3, none⟩ = some (.int .i64 c.f3) := (blk_cell hx2 3).trans rfl
        have k4 : w2.cell? ⟨w.heap.size, 4, none⟩ = some (.int .i64 c.f4) := (blk_cell hx2 4).trans rfl
        have k5 : w2.cell? ⟨w.heap.size, 5, none⟩ = some (.int .i64 c.f5) := (blk_cell hx2 5).trans rfl
        have k6 : w2.cell? ⟨w.heap.size, 6, none⟩ = some (.int .i64 c.f6) := (blk_cell hx2 6).trans rfl
        have k7 : w2.cell? ⟨w.heap.size, 7, none⟩ = some (.int .i64 c.f7) := (blk_cell hx2 7).trans rfl
        have k8 : w2.cell? ⟨w.heap.size, 8, none⟩ = some (.int .i64 c.f8) := (blk_cell hx2 8).trans rfl
        have k10 : w2.cell? ⟨w.heap.size, 10, none⟩ = some (.int .i64 c.f10) := (blk_cell hx2 10).trans rfl
        have k11 : w2.cell? ⟨w.heap.size, 11, none⟩ = some (.int .i64 c.f11) := (blk_cell hx2 11).trans rfl
        clear hb hx2 hw3
        go_wp2_with fail
        simp only [HW3.out]
        refine (HCk.out w3).mono ?_
        rintro e w4 ⟨rfl, hb⟩
        have HB4 := Aside0.mk hb
        clear hb c9 f9' k0 k1 k2 k3 k4 k5 k6 k7 k8 k10 k11
        go_wp2_with fail
        refine (firstP_ w4).mono ?_
        rintro e w9 ⟨rfl, hb⟩
        have HB9 := Aside0.mk (below_then HB3.out (Nat.le_of_lt S3s.out) (below_then HB4.out HB4.out.size hb))
        clear hb
        go_wp2
        go_ret
        exact ⟨rfl, HB9.out⟩
      · have g2 : decide (b < 0) = false := decide_eq_false h1
        obtain ⟨r, o, s, n, d, hn⟩ : ∃ r o s n, Dim c r o s n ∧ ((n : Int) ≤ a ∨ (n : Int) ≤ b) := by
          rcases h with h | h | h | h
          · exact absurd hk h
          · exact absurd h h0
          · exact absurd h h1
          · exact h
        have HWd := Aside0.mk (fun W => ltkref1_Words.calls 20 c.f0 c.f1 c.f2 c.f3 c.f4 c.f5 c.f6 c.f7 c.f8 c.f9 c.f10 c.f11 _ W (words_ref hk d))
        simp only [h9] at HWd
        by_cases h2 : (n : Int) ≤ a
        · have g3 : decide (a ≥ (n : Int)) = true := decide_eq_true h2
          clear h h0 h1 h2 hck hci hk d hn h9
          go_enter Try.func19, Try.ntmps19
          go_wp2_with fail
          simp only [HW1.out]
          refine (firstP_ w1).mono ?_
          rintro e w2 ⟨rfl, hb⟩
          have hx2 := (hb.block w.heap.size (by rw [S1.out]; omega)).trans HX1.out
          have HX2 := Aside0.mk hx2
          have HB2 := Aside0.mk (below_then HB1.out (by rw [S1.out]; omega) hb)
          have S2 := Aside0.mk (show w.heap.size < w2.heap.size from (Array.getElem?_eq_some_iff.1 hx2).1)
          obtain ⟨w3, hw3⟩ : ∃ W, w2.setCell ⟨w.heap.size, 9, none⟩ (.int .i64 0) = W := ⟨_, rfl⟩
          have HW3 := Aside0.mk hw3
          have S3s := Aside0.mk (show w.heap.size < w3.heap.size by rw [← hw3]; simpa using S2.out)
          have HX3 := Aside0.mk (show w3.heap[w.heap.size]? = some (.cells #[.int .i64 c.f0, .int .i64 c.f1, .int .i64 c.f2, .int .i64 c.f3, .int .i64 c.f4, .int .i64 c.f5, .int .i64 c.f6, .int .i64 c.f7, .int .i64 c.f8, .int .i64 0, .int .i64 c.f10, .int .i64 c.f11] 41 (0, 0)) by rw [← hw3]; exact heap_setCell_same w2 w.heap.size 9 _ _ (.int .i64 0) HX2.out)
          have HB3 := Aside0.mk (show Below w.heap.size w w3 by rw [← hw3]; exact HB2.out.setCell (p := ⟨w.heap.size, 9, none⟩) (Nat.le_refl _) _)
          have X := Aside0.mk (fun W (hb : Below w3.heap.size w3 W) => (show W.cell? ⟨w.heap.size, 0, none⟩ = some (.int .i64 c.f0) ∧ W.cell? ⟨w.heap.size, 1, none⟩ = some (.int .i64 c.f1) ∧ W.cell? ⟨w.heap.size, 2, none⟩ = some (.int .i64 c.f2) ∧ W.cell? ⟨w.heap.size, 3, none⟩ = some (.int .i64 c.f3) ∧ W.cell? ⟨w.heap.size, 4, none⟩ = some (.int .i64 c.f4) ∧ W.cell? ⟨w.heap.size, 5, none⟩ = some (.int .i64 c.f5) ∧ W.cell? ⟨w.heap.size, 6, none⟩ = some (.int .i64 c.f6) ∧ W.cell? ⟨w.heap.size, 7, none⟩ = some (.int .i64 c.f7) ∧ W.cell? ⟨w.heap.size, 8, none⟩ = some (.int .i64 c.f8) ∧ W.cell? ⟨w.heap.size, 9, none⟩ = some (.int .i64 0) ∧ W.cell? ⟨w.heap.size, 10, none⟩ = some (.int .i64 c.f10) ∧ W.cell? ⟨w.heap.size, 11, none⟩ = some (.int .i64 c.f11) from ⟨(hb.cell (p := ⟨w.heap.size, 0, none⟩) S3s.out).trans ((blk_cell HX3.out 0).trans rfl), (hb.cell (p := ⟨w.heap.size, 1, none⟩) S3s.out).trans ((blk_cell HX3.out 1).trans rfl), (hb.cell (p := ⟨w.heap.size, 2, none⟩) S3s.out).trans ((blk_cell HX3.out 2).trans rfl), (hb.cell (p := ⟨w.heap.size, 3, none⟩) S3s.out).trans ((blk_cell HX3.out 3).trans rfl), (hb.cell (p := ⟨w.heap.size, 4, none⟩) S3s.out).trans ((blk_cell HX3.out 4).trans rfl), (hb.cell (p := ⟨w.heap.size, 5, none⟩) S3s.out).trans ((blk_cell HX3.out 5).trans rfl), (hb.cell (p := ⟨w.heap.size, 6, none⟩) S3s.out).trans ((blk_cell HX3.out 6).trans rfl), (hb.cell (p := ⟨w.heap.size, 7, none⟩) S3s.out).trans ((blk_cell HX3.out 7).trans rfl), (hb.cell (p := ⟨w.heap.size, 8, none⟩) S3s.out).trans ((blk_cell HX3.out 8).trans rfl), (hb.cell (p := ⟨w.heap.size, 9, none⟩) S3s.out).trans ((blk_cell HX3.out 9).trans rfl), (hb.cell (p := ⟨w.heap.size, 10, none⟩) S3s.out).trans ((blk_cell HX3.out 10).trans rfl), (hb.cell (p := ⟨w.heap.size, 11, none⟩) S3s.out).trans ((blk_cell HX3.out 11).trans rfl)⟩))
          have c9 : w2.cell? ⟨w.heap.size, 9, none⟩ = some (.int .i64 e9) := (blk_cell hx2 9).trans rfl
          have f9' := frozen_of_row w2 w.heap.size 9 _ _ hx2
          have k0 : w2.cell? ⟨w.heap.size, 0, none⟩ = some (.int .i64 c.f0) := (blk_cell hx2 0).trans rfl
          have k1 : w2.cell? ⟨w.heap.size, 1, none⟩ = some (.int .i64 c.f1) := (blk_cell hx2 1).trans rfl
          have k2 : w2.cell? ⟨w.heap.size, 2, none⟩ = some (.int .i64 c.f2) := (blk_cell hx2 2).trans rfl
          have k3 : w2.cell? ⟨w.heap.size, 3, none⟩ = some (.int .i64 c.f3) := (blk_cell hx2 3).trans rfl
          have k4 : w2.cell? ⟨w.heap.size, 4, none⟩ = some (.int .i64 c.f4) := (blk_cell hx2 4).trans rfl
          have k5 : w2.cell? ⟨w.heap.size, 5, none⟩ = some (.int .i64 c.f5) := (blk_cell hx2 5).trans rfl
          have k6 : w2.cell? ⟨w.heap.size, 6, none⟩ = some (.int .i64 c.f6) := (blk_cell hx2 6).trans rfl
          have k7 : w2.cell? ⟨w.heap.size, 7, none⟩ = some (.int .i64 c.f7) := (blk_cell hx2 7).trans rfl
          have k8 : w2.cell? ⟨w.heap.size, 8, none⟩ = some (.int .i64 c.f8) := (blk_cell hx2 8).trans rfl
          have k10 : w2.cell? ⟨w.heap.size, 10, none⟩ = some (.int .i64 c.f10) := (blk_cell hx2 10).trans rfl
          have k11 : w2.cell? ⟨w.heap.size, 11, none⟩ = some (.int .i64 c.f11) := (blk_cell hx2 11).trans rfl
          clear hb hx2 hw3
          go_wp2_with fail
          simp only [HW3.out]
          refine (HCk.out w3).mono ?_
          rintro e w4 ⟨rfl, hb⟩
          have HB4 := Aside0.mk hb
          clear hb c9 f9' k0 k1 k2 k3 k4 k5 k6 k7 k8 k10 k11
          obtain ⟨x0, x1, x2, x3, x4, x5, x6, x7, x8, x9, x10, x11⟩ := X.out _ HB4.out
          go_wp2_with fail
          refine (HWd.out w4).mono ?_
          rintro e w5 ⟨rfl, hb⟩
          have HB5 := Aside0.mk (below_then HB4.out HB4.out.size hb)
          clear hb x0 x1 x2 x3 x4 x5 x6 x7 x8 x9 x10 x11
          go_wp2_with fail
          refine (firstP_ w5).mono ?_
          rintro e w9 ⟨rfl, hb⟩
          have HB9 := Aside0.mk (below_then HB3.out (Nat.le_of_lt S3s.out) (below_then HB5.out HB5.out.size hb))
          clear hb
          go_wp2
          go_ret
          exact ⟨rfl, HB9.out⟩
        · have g3 : decide (a ≥ (n : Int)) = false := decide_eq_false h2
          have g4 : decide (b ≥ (n : Int)) = true := decide_eq_true (hn.resolve_left h2)
          clear h h0 h1 h2 hck hci hk d hn h9
          go_enter Try.func19, Try.ntmps19
          go_wp2_with fail
          simp only [HW1.out]
          refine (firstP_ w1).mono ?_
          rintro e w2 ⟨rfl, hb⟩
          have hx2 := (hb.block w.heap.size (by rw [S1.out]; omega)).trans HX1.out
          have HX2 := Aside0.mk hx2
          have HB2 := Aside0.mk (below_then HB1.out (by rw [S1.out]; omega) hb)
          have S2 := Aside0.mk (show w.heap.size < w2.heap.size from (Array.getElem?_eq_some_iff.1 hx2).1)
          obtain ⟨w3, hw3⟩ : ∃ W, w2.setCell ⟨w.heap.size, 9, none⟩ (.int .i64 0) = W := ⟨_, rfl⟩
          have HW3 := Aside0.mk hw3
          have S3s := Aside0.mk (show w.heap.size < w3.heap.size by rw [← hw3]; simpa using S2.out)
          have HX3 := Aside0.mk (show w3.heap[w.heap.size]? = some (.cells #[.int .i64 c.f0, .int .i64 c.f1, .int .i64 c.f2, .int .i64 c.f3, .int .i64 c.f4, .int .i64 c.f5, .int .i64 c.f6, .int .i64 c.f7, .int .i64 c.f8, .int .i64 0, .int .i64 c.f10, .int .i64 c.f11] 41 (0, 0)) by rw [← hw3]; exact heap_setCell_same w2 w.heap.size 9 _ _ (.int .i64 0) HX2.out)
          have HB3 := Aside0.mk (show Below w.heap.size w w3 by rw [← hw3]; exact HB2.out.setCell (p := ⟨w.heap.size, 9, none⟩) (Nat.le_refl _) _)
          have X := Aside0.mk (fun W (hb : Below w3.heap.size w3 W) => (show W.cell? ⟨w.heap.size, 0, none⟩ = some (.int .i64 c.f0) ∧ W.cell? ⟨w.heap.size, 1, none⟩ = some (.int .i64 c.f1) ∧ W.cell? ⟨w.heap.size, 2, none⟩ = some (.int .i64 c.f2) ∧ W.cell? ⟨w.heap.size, 3, none⟩ = some (.int .i64 c.f3) ∧ W.cell? ⟨w.heap.size, 4, none⟩ = some (.int .i64 c.f4) ∧ W.cell? ⟨w.heap.size, 5, none⟩ = some (.int .i64 c.f5) ∧ W.cell? ⟨w.heap.size, 6, none⟩ = some (.int .i64 c.f6) ∧ W.cell? ⟨w.heap.size, 7, none⟩ = some (.int .i64 c.f7) ∧ W.cell? ⟨w.heap.size, 8, none⟩ = some (.int .i64 c.f8) ∧ W.cell? ⟨w.heap.size, 9, none⟩ = some (.int .i64 0) ∧ W.cell? ⟨w.heap.size, 10, none⟩ = some (.int .i64 c.f10) ∧ W.cell? ⟨w.heap.size, 11, none⟩ = some (.int .i64 c.f11) from ⟨(hb.cell (p := ⟨w.heap.size, 0, none⟩) S3s.out).trans ((blk_cell HX3.out 0).trans rfl), (hb.cell (p := ⟨w.heap.size, 1, none⟩) S3s.out).trans ((blk_cell HX3.out 1).trans rfl), (hb.cell (p := ⟨w.heap.size, 2, none⟩) S3s.out).trans ((blk_cell HX3.out 2).trans rfl), (hb.cell (p := ⟨w.heap.size, 3, none⟩) S3s.out).trans ((blk_cell HX3.out 3).trans rfl), (hb.cell (p := ⟨w.heap.size, 4, none⟩) S3s.out).trans ((blk_cell HX3.out 4).trans rfl), (hb.cell (p := ⟨w.heap.size, 5, none⟩) S3s.out).trans ((blk_cell HX3.out 5).trans rfl), (hb.cell (p := ⟨w.heap.size, 6, none⟩) S3s.out).trans ((blk_cell HX3.out 6).trans rfl), (hb.cell (p := ⟨w.heap.size, 7, none⟩) S3s.out).trans ((blk_cell HX3.out 7).trans rfl), (hb.cell (p := ⟨w.heap.size, 8, none⟩) S3s.out).trans ((blk_cell HX3.out 8).trans rfl), (hb.cell (p := ⟨w.heap.size, 9, none⟩) S3s.out).trans ((blk_cell HX3.out 9).trans rfl), (hb.cell (p := ⟨w.heap.size, 10, none⟩) S3s.out).trans ((blk_cell HX3.out 10).trans rfl), (hb.cell (p := ⟨w.heap.size, 11, none⟩) S3s.out).trans ((blk_cell HX3.out 11).trans rfl)⟩))
          have c9 : w2.cell? ⟨w.heap.size, 9, none⟩ = some (.int .i64 e9) := (blk_cell hx2 9).trans rfl
          have f9' := frozen_of_row w2 w.heap.size 9 _ _ hx2
          have k0 : w2.cell? ⟨w.heap.size, 0, none⟩ = some (.int .i64 c.f0) := (blk_cell hx2 0).trans rfl
          have k1 : w2.cell? ⟨w.heap.size, 1, none⟩ = some (.int .i64 c.f1) := (blk_cell hx2 1).trans rfl
          have k2 : w2.cell? ⟨w.heap.size, 2, none⟩ = some (.int .i64 c.f2) := (blk_cell hx2 2).trans rfl
          have k3 : w2.cell? ⟨w.heap.size, 3, none⟩ = some (.int .i64 c.f3) := (blk_cell hx2 3).trans rfl
          have k4 : w2.cell? ⟨w.heap.size, 4, none⟩ = some (.int .i64 c.f4) := (blk_cell hx2 4).trans rfl
          have k5 : w2.cell? ⟨w.heap.size, 5, none⟩ = some (.int .i64 c.f5) := (blk_cell hx2 5).trans rfl
          have k6 : w2.cell? ⟨w.heap.size, 6, none⟩ = some (.int .i64 c.f6) := (blk_cell hx2 6).trans rfl
          have k7 : w2.cell? ⟨w.heap.size, 7, none⟩ = some (.int .i64 c.f7) := (blk_cell hx2 7).trans rfl
          have k8 : w2.cell? ⟨w.heap.size, 8, none⟩ = some (.int .i64 c.f8) := (blk_cell hx2 8).trans rfl
          have k10 : w2.cell? ⟨w.heap.size, 10, none⟩ = some (.int .i64 c.f10) := (blk_cell hx2 10).trans rfl
          have k11 : w2.cell? ⟨w.heap.size, 11, none⟩ = some (.int .i64 c.f11) := (blk_cell hx2 11).trans rfl
          clear hb hx2 hw3
          go_wp2_with fail
          simp only [HW3.out]
          refine (HCk.out w3).mono ?_
          rintro e w4 ⟨rfl, hb⟩
          have HB4 := Aside0.mk hb
          clear hb c9 f9' k0 k1 k2 k3 k4 k5 k6 k7 k8 k10 k11
          obtain ⟨x0, x1, x2, x3, x4, x5, x6, x7, x8, x9, x10, x11⟩ := X.out _ HB4.out
          go_wp2_with fail
          refine (HWd.out w4).mono ?_
          rintro e w5 ⟨rfl, hb⟩
          have HB5 := Aside0.mk (below_then HB4.out HB4.out.size hb)
          clear hb x0 x1 x2 x3 x4 x5 x6 x7 x8 x9 x10 x11
          obtain ⟨x0, x1, x2, x3, x4, x5, x6, x7, x8, x9, x10, x11⟩ := X.out _ HB5.out
          go_wp2_with fail
          refine (HWd.out w5).mono ?_
          rintro e w6 ⟨rfl, hb⟩
          have HB6 := Aside0.mk (below_then HB5.out HB5.out.size hb)
          clear hb x0 x1 x2 x3 x4 x5 x6 x7 x8 x9 x10 x11
          go_wp2_with fail
          refine (firstP_ w6).mono ?_
          rintro e w9 ⟨rfl, hb⟩
          have HB9 := Aside0.mk (below_then HB3.out (Nat.le_of_lt S3s.out) (below_then HB6.out HB6.out.size hb))
          clear hb
          go_wp2
          go_ret
          exact ⟨rfl, HB9.out⟩
  · have g3 : (ck != 0) = true := bne_iff_ne.2 (fun e => hk (hci.1 e))
    clear h hck hci hk h9
    go_enter Try.func19, Try.ntmps19
    go_wp2_with fail
    simp only [HW1.out]
    refine (firstP_ w1).mono ?_
    rintro e w2 ⟨rfl, hb⟩
    have hx2 := (hb.block w.heap.size (by rw [S1.out]; omega)).trans HX1.out
    have HX2 := Aside0.mk hx2
    have HB2 := Aside0.mk (below_then HB1.out (by rw [S1.out]; omega) hb)
    have S2 := Aside0.mk (show w.heap.size < w2.heap.size from (Array.getElem?_eq_some_iff.1 hx2).1)
    obtain ⟨w3, hw3⟩ : ∃ W, w2.setCell ⟨w.heap.size, 9, none⟩ (.int .i64 0) = W := ⟨_, rfl⟩
    have HW3 := Aside0.mk hw3
    have S3s := Aside0.mk (show w.heap.size < w3.heap.size by rw [← hw3]; simpa using S2.out)
    have HX3 := Aside0.mk (show w3.heap[w.heap.size]? = some (.cells #[.int .i64 c.f0, .int .i64 c.f1, .int .i64 c.f2, .int .i64 c.f3, .int .i64 c.f4, .int .i64 c.f5, .int .i64 c.f6, .int .i64 c.f7, .int .i64 c.f8, .int .i64 0, .int .i64 c.f10, .int .i64 c.f11] 41 (0, 0)) by rw [← hw3]; exact heap_setCell_same w2 w.heap.size 9 _ _ (.int .i64 0) HX2.out)
    have HB3 := Aside0.mk (show Below w.heap.size w w3 by rw [← hw3]; exact HB2.out.setCell (p := ⟨w.heap.size, 9, none⟩) (Nat.le_refl _) _)
    have X := Aside0.mk (fun W (hb : Below w3.heap.size w3 W) => (show W.cell? ⟨w.heap.size, 0, none⟩ = some (.int .i64 c.f0) ∧ W.cell? ⟨w.heap.size, 1, none⟩ = some (.int .i64 c.f1) ∧ W.cell? ⟨w.heap.size, 2, none⟩ = some (.int .i64 c.f2) ∧ W.cell? ⟨w.heap.size, 3, none⟩ = some (.int .i64 c.f3) ∧ W.cell? ⟨w.heap.size, 4, none⟩ = some (.int .i64 c.f4) ∧ W.cell? ⟨w.heap.size, 5, none⟩ = some (.int .i64 c.f5) ∧ W.cell? ⟨w.heap.size, 6, none⟩ = some (.int .i64 c.f6) ∧ W.cell? ⟨w.heap.size, 7, none⟩ = some (.int .i64 c.f7) ∧ W.cell? ⟨w.heap.size, 8, none⟩ = some (.int .i64 c.f8) ∧ W.cell? ⟨w.heap.size, 9, none⟩ = some (.int .i64 0) ∧ W.cell? ⟨w.heap.size, 10, none⟩ = some (.int .i64 c.f10) ∧ W.cell? ⟨w.heap.size, 11, none⟩ = some (.int .i64 c.f11) from ⟨(hb.cell (p := ⟨w.heap.size, 0, none⟩) S3s.out).trans ((blk_cell HX3.out 0).trans rfl), (hb.cell (p := ⟨w.heap.size, 1, none⟩) S3s.out).trans ((blk_cell HX3.out 1).trans rfl), (hb.cell (p := ⟨w.heap.size, 2, none⟩) S3s.out).trans ((blk_cell HX3.out 2).trans rfl), (hb.cell (p := ⟨w.heap.size, 3, none⟩) S3s.out).trans ((blk_cell HX3.out 3).trans rfl), (hb.cell (p := ⟨w.heap.size, 4, none⟩) S3s.out).trans ((blk_cell HX3.out 4).trans rfl), (hb.cell (p := ⟨w.heap.size, 5, none⟩) S3s.out).trans ((blk_cell HX3.out 5).trans rfl), (hb.cell (p := ⟨w.heap.size, 6, none⟩) S3s.out).trans ((blk_cell HX3.out 6).trans rfl), (hb.cell (p := ⟨w.heap.size, 7, none⟩) S3s.out).trans ((blk_cell HX3.out 7).trans rfl), (hb.cell (p := ⟨w.heap.size, 8, none⟩) S3s.out).trans ((blk_cell HX3.out 8).trans rfl), (hb.cell (p := ⟨w.heap.size, 9, none⟩) S3s.out).trans ((blk_cell HX3.out 9).trans rfl), (hb.cell (p := ⟨w.heap.size, 10, none⟩) S3s.out).trans ((blk_cell HX3.out 10).trans rfl), (hb.cell (p := ⟨w.heap.size, 11, none⟩) S3s.out).trans ((blk_cell HX3.out 11).trans rfl)⟩))
    have c9 : w2.cell? ⟨w.heap.size, 9, none⟩ = some (.int .i64 e9) := (blk_cell hx2 9).trans rfl
    have f9' := frozen_of_row w2 w.heap.size 9 _ _ hx2
    have k0 : w2.cell? ⟨w.heap.size, 0, none⟩ = some (.int .i64 c.f0) := (blk_cell hx2 0).trans rfl
    have k1 : w2.cell? ⟨w.heap.size, 1, none⟩ = some (.int .i64 c.f1) := (blk_cell hx2 1).trans rfl
    have k2 : w2.cell? ⟨w.heap.size, 2, none⟩ = some (.int .i64 c.f2) := (blk_cell hx2 2).trans rfl
    have k3 : w2.cell? ⟨w.heap.size, 3, none⟩ = some (.int .i64 c.f3) := (blk_cell hx2 3).trans rfl
    have k4 : w2.cell? ⟨w.heap.size, 4, none⟩ = some (.int .i64 c.f4) := (blk_cell hx2 4).trans rfl
    have k5 : w2.cell? ⟨w.heap.size, 5, none⟩ = some (.int .i64 c.f5) := (blk_cell hx2 5).trans rfl
    have k6 : w2.cell? ⟨w.heap.size, 6, none⟩ = some (.int .i64 c.f6) := (blk_cell hx2 6).trans rfl
    have k7 : w2.cell? ⟨w.heap.size, 7, none⟩ = some (.int .i64 c.f7) := (blk_cell hx2 7).trans rfl
    have k8 : w2.cell? ⟨w.heap.size, 8, none⟩ = some (.int .i64 c.f8) := (blk_cell hx2 8).trans rfl
    have k10 : w2.cell? ⟨w.heap.size, 10, none⟩ = some (.int .i64 c.f10) := (blk_cell hx2 10).trans rfl
    have k11 : w2.cell? ⟨w.heap.size, 11, none⟩ = some (.int .i64 c.f11) := (blk_cell hx2 11).trans rfl
    clear hb hx2 hw3
    go_wp2_with fail
    simp only [HW3.out]
    refine (HCk.out w3).mono ?_
    rintro e w4 ⟨rfl, hb⟩
    have HB4 := Aside0.mk hb
    clear hb c9 f9' k0 k1 k2 k3 k4 k5 k6 k7 k8 k10 k11
    go_wp2_with fail
    refine (firstP_ w4).mono ?_
    rintro e w9 ⟨rfl, hb⟩
    have HB9 := Aside0.mk (below_then HB3.out (Nat.le_of_lt S3s.out) (below_then HB4.out HB4.out.size hb))
    clear hb
    go_wp2
    go_ret
    exact ⟨rfl, HB9.out⟩
set_option maxHeartbeats 8000000 in
set_option maxRecDepth 100000 in
theorem two_in (c : Cf) (h9 : c.f9 = 0) (e9 : Int) (a b : Int) (w : World) (hk : Okc c) {r o s n : Nat} (d : Dim c r o s n) (h0 : 0 ≤ a) (h1 : a < n) (h2 : 0 ≤ b) (h3 : b < n) :
    Calls Try.prog 19 #[.agg #[.int .i64 c.f0, .int .i64 c.f1, .int .i64 c.f2, .int .i64 c.f3, .int .i64 c.f4, .int .i64 c.f5, .int .i64 c.f6, .int .i64 c.f7, .int .i64 c.f8, .int .i64 e9, .int .i64 c.f10, .int .i64 c.f11], .int .i64 a, .int .i64 b] w fun e w' => e = .returned (.bool true) ∧ Below w.heap.size w w' := by
  obtain ⟨v, hvn, hpa, hpb⟩ := two_six hk d h0 h1 h2 h3
  obtain ⟨ck, hck, hci⟩ := chk_f c
  obtain rfl := hci.2 hk
  have g1 : decide (a < 0) = false := decide_eq_false (by omega)
  have g2 : decide (b < 0) = false := decide_eq_false (by omega)
  have g3 : decide (a ≥ (n : Int)) = false := decide_eq_false (by omega)
  have g4 : decide (b ≥ (n : Int)) = false := decide_eq_false (by omega)
  have HCk := Aside0.mk (fun W => ltkref1_Check.calls 20 c.f0 c.f1 c.f2 c.f3 c.f4 c.f5 c.f6 c.f7 c.f8 c.f9 c.f10 c.f11 _ W hck)
  have HWd := Aside0.mk (fun W => ltkref1_Words.calls 20 c.f0 c.f1 c.f2 c.f3 c.f4 c.f5 c.f6 c.f7 c.f8 c.f9 c.f10 c.f11 _ W (words_ref hk d))
  have HNd := Aside0.mk (fun W => shape_Nodes.calls c.f0 c.f1 c.f2 c.f3 c.f4 c.f5 c.f6 c.f7 c.f8 c.f9 c.f10 c.f11 _ W (nodes_ok hk d))
  have HPa := Aside0.mk (fun W => shape_Path.calls c.f0 c.f1 c.f2 c.f3 c.f4 c.f5 c.f6 c.f7 c.f8 c.f9 c.f10 c.f11 a _ _ _ _ W hpa)
  have HPb := Aside0.mk (fun W => shape_Path.calls c.f0 c.f1 c.f2 c.f3 c.f4 c.f5 c.f6 c.f7 c.f8 c.f9 c.f10 c.f11 b _ _ _ _ W hpb)
  have HNew := Aside0.mk (fun W => NewT_ v.n 100 W (by have := v.zn; omega) v.top (by decide) (by decide))
  have HN0 := Aside0.mk (fun (W : World) (B : Nat) (F : Nat → Prop) (i : Nat) (hi : i < 3) (hT : IsTab W B F (SW v i 0) 100 i f0) =>
    NextT_ hT (sw_inv v i 0) (by rw [sw_len]; exact v.top) c 0 a true (lvC c) (paC c) (fun j _ => lvC_ok hk j) (fun j _ => paC_ok hk j) (v.x : Int) (v.y : Int) (v.z : Int) hpa (⟨((ndW v.x v.y v.z i : Nat) : Int), moW i⟩, true) (by rw [h9]; exact next0 v _ hi))
  have HN1 := Aside0.mk (fun (W : World) (B : Nat) (F : Nat → Prop) (i : Nat) (hi : i < 3) (hT : IsTab W B F (SW v 3 i) 100 (3 + i) (fW v i)) =>
    NextT_ hT (sw_inv v 3 i) (by rw [sw_len]; exact v.top) c 1 b true (lvC c) (paC c) (fun j _ => lvC_ok hk j) (fun j _ => paC_ok hk j) (v.x' : Int) (v.y' : Int) (v.z' : Int) hpb (⟨((ndW v.x' v.y' v.z' i : Nat) : Int), moW i⟩, true) (by rw [h9]; exact next1 v _ hi))
  rw [hvn] at HNd
  simp only [h9] at HCk HWd HNd HPa HPb HN0 HN1
  clear hk d h0 h1 h2 h3 hpa hpb hck hci h9 hvn
  have hu41 := Try.underlying41
  have hu38 := Try.underlying38
  have HB1 := Aside0.mk (below_alloc (Below.refl w.heap.size w) (.cells #[.int .i64 c.f0, .int .i64 c.f1, .int .i64 c.f2, .int .i64 c.f3, .int .i64 c.f4, .int .i64 c.f5, .int .i64 c.f6, .int .i64 c.f7, .int .i64 c.f8, .int .i64 e9, .int .i64 c.f10, .int .i64 c.f11] 41))
  have hx := blk_new w (.cells #[.int .i64 c.f0, .int .i64 c.f1, .int .i64 c.f2, .int .i64 c.f3, .int .i64 c.f4, .int .i64 c.f5, .int .i64 c.f6, .int .i64 c.f7, .int .i64 c.f8, .int .i64 e9, .int .i64 c.f10, .int .i64 c.f11] 41)
  obtain ⟨w1, hw1⟩ : ∃ W, w.alloc (.cells #[.int .i64 c.f0, .int .i64 c.f1, .int .i64 c.f2, .int .i64 c.f3, .int .i64 c.f4, .int .i64 c.f5, .int .i64 c.f6, .int .i64 c.f7, .int .i64 c.f8, .int .i64 e9, .int .i64 c.f10, .int .i64 c.f11] 41) = W := ⟨_, rfl⟩
  have HW1 := Aside0.mk hw1
  rw [hw1] at HB1 hx
  have S1 := Aside0.mk (show w1.heap.size = w.heap.size + 1 by rw [← hw1]; simp)
  have HX1 := Aside0.mk hx
  clear hx hw1
  go_enter Try.func19, Try.ntmps19
  go_wp2_with fail
  simp only [HW1.out]
  refine (firstP_ w1).mono ?_
  rintro e w2 ⟨rfl, hb⟩
  have hx2 := (hb.block w.heap.size (by rw [S1.out]; omega)).trans HX1.out
  have HX2 := Aside0.mk hx2
  have HB2 := Aside0.mk (below_then HB1.out (by rw [S1.out]; omega) hb)
  have S2 := Aside0.mk (show w.heap.size < w2.heap.size from (Array.getElem?_eq_some_iff.1 hx2).1)
  obtain ⟨w3, hw3⟩ : ∃ W, w2.setCell ⟨w.heap.size, 9, none⟩ (.int .i64 0) = W := ⟨_, rfl⟩
  have HW3 := Aside0.mk hw3
  have S3s := Aside0.mk (show w.heap.size < w3.heap.size by rw [← hw3]; simpa using S2.out)
  have HX3 := Aside0.mk (show w3.heap[w.heap.size]? = some (.cells #[.int .i64 c.f0, .int .i64 c.f1, .int .i64 c.f2, .int .i64 c.f3, .int .i64 c.f4, .int .i64 c.f5, .int .i64 c.f6, .int .i64 c.f7, .int .i64 c.f8, .int .i64 0, .int .i64 c.f10, .int .i64 c.f11] 41 (0, 0)) by rw [← hw3]; exact heap_setCell_same w2 w.heap.size 9 _ _ (.int .i64 0) HX2.out)
  have HB3 := Aside0.mk (show Below w.heap.size w w3 by rw [← hw3]; exact HB2.out.setCell (p := ⟨w.heap.size, 9, none⟩) (Nat.le_refl _) _)
  have X := Aside0.mk (fun W (hb : Below w3.heap.size w3 W) => (show W.cell? ⟨w.heap.size, 0, none⟩ = some (.int .i64 c.f0) ∧ W.cell? ⟨w.heap.size, 1, none⟩ = some (.int .i64 c.f1) ∧ W.cell? ⟨w.heap.size, 2, none⟩ = some (.int .i64 c.f2) ∧ W.cell? ⟨w.heap.size, 3, none⟩ = some (.int .i64 c.f3) ∧ W.cell? ⟨w.heap.size, 4, none⟩ = some (.int .i64 c.f4) ∧ W.cell? ⟨w.heap.size, 5, none⟩ = some (.int .i64 c.f5) ∧ W.cell? ⟨w.heap.size, 6, none⟩ = some (.int .i64 c.f6) ∧ W.cell? ⟨w.heap.size, 7, none⟩ = some (.int .i64 c.f7) ∧ W.cell? ⟨w.heap.size, 8, none⟩ = some (.int .i64 c.f8) ∧ W.cell? ⟨w.heap.size, 9, none⟩ = some (.int .i64 0) ∧ W.cell? ⟨w.heap.size, 10, none⟩ = some (.int .i64 c.f10) ∧ W.cell? ⟨w.heap.size, 11, none⟩ = some (.int .i64 c.f11) from ⟨(hb.cell (p := ⟨w.heap.size, 0, none⟩) S3s.out).trans ((blk_cell HX3.out 0).trans rfl), (hb.cell (p := ⟨w.heap.size, 1, none⟩) S3s.out).trans ((blk_cell HX3.out 1).trans rfl), (hb.cell (p := ⟨w.heap.size, 2, none⟩) S3s.out).trans ((blk_cell HX3.out 2).trans rfl), (hb.cell (p := ⟨w.heap.size, 3, none⟩) S3s.out).trans ((blk_cell HX3.out 3).trans rfl), (hb.cell (p := ⟨w.heap.size, 4, none⟩) S3s.out).trans ((blk_cell HX3.out 4).trans rfl), (hb.cell (p := ⟨w.heap.size, 5, none⟩) S3s.out).trans ((blk_cell HX3.out 5).trans rfl), (hb.cell (p := ⟨w.heap.size, 6, none⟩) S3s.out).trans ((blk_cell HX3.out 6).trans rfl), (hb.cell (p := ⟨w.heap.size, 7, none⟩) S3s.out).trans ((blk_cell HX3.out 7).trans rfl), (hb.cell (p := ⟨w.heap.size, 8, none⟩) S3s.out).trans ((blk_cell HX3.out 8).trans rfl), (hb.cell (p := ⟨w.heap.size, 9, none⟩) S3s.out).trans ((blk_cell HX3.out 9).trans rfl), (hb.cell (p := ⟨w.heap.size, 10, none⟩) S3s.out).trans ((blk_cell HX3.out 10).trans rfl), (hb.cell (p := ⟨w.heap.size, 11, none⟩) S3s.out).trans ((blk_cell HX3.out 11).trans rfl)⟩))
  have c9 : w2.cell? ⟨w.heap.size, 9, none⟩ = some (.int .i64 e9) := (blk_cell hx2 9).trans rfl
  have f9' := frozen_of_row w2 w.heap.size 9 _ _ hx2
  have k0 : w2.cell? ⟨w.heap.size, 0, none⟩ = some (.int .i64 c.f0) := (blk_cell hx2 0).trans rfl
  have k1 : w2.cell? ⟨w.heap.size, 1, none⟩ = some (.int .i64 c.f1) := (blk_cell hx2 1).trans rfl
  have k2 : w2.cell? ⟨w.heap.size, 2, none⟩ = some (.int .i64 c.f2) := (blk_cell hx2 2).trans rfl
  have k3 : w2.cell? ⟨w.heap.size, 3, none⟩ = some (.int .i64 c.f3) := (blk_cell hx2 3).trans rfl
  have k4 : w2.cell? ⟨w.heap.size, 4, none⟩ = some (.int .i64 c.f4) := (blk_cell hx2 4).trans rfl
  have k5 : w2.cell? ⟨w.heap.size, 5, none⟩ = some (.int .i64 c.f5) := (blk_cell hx2 5).trans rfl
  have k6 : w2.cell? ⟨w.heap.size, 6, none⟩ = some (.int .i64 c.f6) := (blk_cell hx2 6).trans rfl
  have k7 : w2.cell? ⟨w.heap.size, 7, none⟩ = some (.int .i64 c.f7) := (blk_cell hx2 7).trans rfl
  have k8 : w2.cell? ⟨w.heap.size, 8, none⟩ = some (.int .i64 c.f8) := (blk_cell hx2 8).trans rfl
  have k10 : w2.cell? ⟨w.heap.size, 10, none⟩ = some (.int .i64 c.f10) := (blk_cell hx2 10).trans rfl
  have k11 : w2.cell? ⟨w.heap.size, 11, none⟩ = some (.int .i64 c.f11) := (blk_cell hx2 11).trans rfl
  clear hb hx2 hw3
  go_wp2_with fail
  simp only [HW3.out]
  refine (HCk.out w3).mono ?_
  rintro e w4 ⟨rfl, hb⟩
  have HB4 := Aside0.mk hb
  clear hb c9 f9' k0 k1 k2 k3 k4 k5 k6 k7 k8 k10 k11
  obtain ⟨x0, x1, x2, x3, x4, x5, x6, x7, x8, x9, x10, x11⟩ := X.out _ HB4.out
  go_wp2_with fail
  refine (HWd.out w4).mono ?_
  rintro e w5 ⟨rfl, hb⟩
  have HB5 := Aside0.mk (below_then HB4.out HB4.out.size hb)
  clear hb x0 x1 x2 x3 x4 x5 x6 x7 x8 x9 x10 x11
  obtain ⟨x0, x1, x2, x3, x4, x5, x6, x7, x8, x9, x10, x11⟩ := X.out _ HB5.out
  go_wp2_with fail
  refine (HWd.out w5).mono ?_
  rintro e w6 ⟨rfl, hb⟩
  have HB6 := Aside0.mk (below_then HB5.out HB5.out.size hb)
  clear hb HWd HCk x0 x1 x2 x3 x4 x5 x6 x7 x8 x9 x10 x11
  obtain ⟨x0, x1, x2, x3, x4, x5, x6, x7, x8, x9, x10, x11⟩ := X.out _ HB6.out
  go_wp2_with fail
  refine (HNd.out w6).mono ?_
  rintro e w7 ⟨rfl, hb⟩
  have HB7 := Aside0.mk (below_then HB6.out HB6.out.size hb)
  clear hb HNd g1 g2 g3 g4 x0 x1 x2 x3 x4 x5 x6 x7 x8 x9 x10 x11
  go_wp2_with fail
  refine (HNew.out w7).mono ?_
  rintro e w8 ⟨rfl, hT, hb⟩
  have T8 := Aside0.mk (show IsTab w8 (w7.heap.size + 1) (fun k => w7.heap.size ≤ k) (SW v 0 0) 100 0 f0 by rw [sw_zero]; exact hT)
  have C8 := Aside0.mk hb
  clear hT hb HNew
  generalize w7.heap.size + 1 = B at T8 ⊢
  obtain ⟨x0, x1, x2, x3, x4, x5, x6, x7, x8, x9, x10, x11⟩ := X.out _ (below_then HB7.out HB7.out.size C8.out)
  go_wp2_with fail
  refine (HPa.out w8).mono ?_
  rintro e w9 ⟨rfl, hb⟩
  have T9 := Aside0.mk (T8.out.below hb)
  have C9 := Aside0.mk (below_then C8.out C8.out.size hb)
  clear hb HPa T8 C8 x0 x1 x2 x3 x4 x5 x6 x7 x8 x9 x10 x11
  obtain ⟨x0, x1, x2, x3, x4, x5, x6, x7, x8, x9, x10, x11⟩ := X.out _ (below_then HB7.out HB7.out.size C9.out)
  go_wp2_with fail
  refine (HPb.out w9).mono ?_
  rintro e w10 ⟨rfl, hb⟩
  have T10 := Aside0.mk (T9.out.below hb)
  have C10 := Aside0.mk (below_then C9.out C9.out.size hb)
  clear hb HPb T9 C9 x0 x1 x2 x3 x4 x5 x6 x7 x8 x9 x10 x11
  go_wp2_with fail
  go_loopg [17] 2 (fun gg q wr => ∃ k : Nat, k ≤ 2 ∧ 2 - k ≤ gg ∧ q = .int .i64 k ∧ Aside0 (IsTab wr B (fun k => w7.heap.size ≤ k) (SW v (if k = 0 then 0 else 3) (if k = 2 then 3 else 0)) 100 (3 * k) (if k = 2 then fW v 3 else f0)) ∧ Aside0 (Below w7.heap.size w7 wr))
  case atStart => exact ⟨0, by omega, by omega, rfl, T10, C10⟩
  case round =>
    clear T10 C10
    obtain ⟨k, hk, hgg, rfl, HT, HC⟩ := hrel
    have e3 : k = 0 ∨ k = 1 ∨ k = 2 := by omega
    rcases e3 with rfl | rfl | rfl
    · go_wp2_with fail
      go_loopg [19] 3 (fun gg q wr' => ∃ i : Nat, i ≤ 3 ∧ 3 - i ≤ gg ∧ q = .int .i64 i ∧ Aside0 (IsTab wr' B (fun k => w7.heap.size ≤ k) (SW v (i) 0) 100 (i) f0) ∧ Aside0 (Below w7.heap.size w7 wr'))
      case atStart => exact ⟨0, by omega, by omega, rfl, HT, HC⟩
      case round =>
        clear HT HC
        obtain ⟨i, hi, hgi, rfl, HT, HC⟩ := hrel
        by_cases hlt : i < 3
        · have t1 : (i : Int) < 3 := by omega
          have HN := Aside0.mk (HN0.out wr B _ i hlt HT.out)
          have HAk := Aside0.mk (ask0 v hlt)
          have HLT := Aside0.mk hlt
          generalize ((ndW v.x v.y v.z i : Nat) : Int) = nd at HN HAk
          generalize moW i = mo at HN HAk
          obtain ⟨x0, x1, x2, x3, x4, x5, x6, x7, x8, x9, x10, x11⟩ := X.out _ (below_then HB7.out HB7.out.size HC.out)
          go_wp2_with fail
          refine HN.out.mono ?_
          rintro e w11 ⟨rfl, hb⟩
          have Y := blk_new w11 (.cells #[.int .i64 nd, .int .i64 mo] 38)
          have y0 : (w11.alloc (.cells #[.int .i64 nd, .int .i64 mo] 38)).cell? ⟨w11.heap.size, 0, none⟩ = some (.int .i64 nd) := (blk_cell Y 0).trans rfl
          have y1 : (w11.alloc (.cells #[.int .i64 nd, .int .i64 mo] 38)).cell? ⟨w11.heap.size, 1, none⟩ = some (.int .i64 mo) := (blk_cell Y 1).trans rfl
          have T12 := Aside0.mk ((HT.out.below hb).below (below_alloc (Below.refl _ _) (.cells #[.int .i64 nd, .int .i64 mo] 38)))
          have C12 := Aside0.mk (below_alloc (below_then HC.out HC.out.size hb) (.cells #[.int .i64 nd, .int .i64 mo] 38))
          have HA := Aside0.mk (AskT_ T12.out (sw_small v i 0) (by omega) 0 nd mo (by decide))
          rw [HAk.out] at HA
          clear hb HN Y HT HC x0 x1 x2 x3 x4 x5 x6 x7 x8 x9 x10 x11
          go_wp2_with fail
          refine HA.out.mono ?_
          rintro e w14 ⟨rfl, hT, hG⟩
          have T14 := Aside0.mk (hT.mono (F' := fun k => w7.heap.size ≤ k) (fun k hk h => h.elim id (fun h => Nat.le_trans C12.out.size h)))
          have C14 := Aside0.mk (hG.to_below C12.out C12.out.size (fun k hk => hk))
          clear hT hG HA T12 C12 y0 y1
          go_wp2
          go_roundg (3 - (i + 1))
          case measure => have := HLT.out; omega
          case rel => exact ⟨i + 1, by have := HLT.out; omega, by have := HLT.out; omega, by first | rfl | simp | go_num, T14, C14⟩
        · obtain rfl : i = 3 := by omega
          clear hlt
          go_wp2
          go_roundg (2 - (0 + 1))
          case measure => omega
          case rel => exact ⟨0 + 1, by omega, by omega, by first | rfl | simp | go_num, HT, HC⟩
    · go_wp2_with fail
      go_loopg [19] 3 (fun gg q wr' => ∃ i : Nat, i ≤ 3 ∧ 3 - i ≤ gg ∧ q = .int .i64 i ∧ Aside0 (IsTab wr' B (fun k => w7.heap.size ≤ k) (SW v 3 (i)) 100 (3 + (i)) (fW v (i))) ∧ Aside0 (Below w7.heap.size w7 wr'))
      case atStart => exact ⟨0, by omega, by omega, rfl, ⟨show IsTab wr B (fun k => w7.heap.size ≤ k) (SW v 3 0) 100 3 (fW v 0) by rw [show fW v 0 = f0 from if_neg (by omega)]; exact HT.out⟩, HC⟩
      case round =>
        clear HT HC
        obtain ⟨i, hi, hgi, rfl, HT, HC⟩ := hrel
        by_cases hlt : i < 3
        · have t1 : (i : Int) < 3 := by omega
          have HN := Aside0.mk (HN1.out wr B _ i hlt HT.out)
          have HAk := Aside0.mk (ask1 v hlt)
          have HLT := Aside0.mk hlt
          generalize ((ndW v.x' v.y' v.z' i : Nat) : Int) = nd at HN HAk
          generalize moW i = mo at HN HAk
          obtain ⟨x0, x1, x2, x3, x4, x5, x6, x7, x8, x9, x10, x11⟩ := X.out _ (below_then HB7.out HB7.out.size HC.out)
          go_wp2_with fail
          refine HN.out.mono ?_
          rintro e w11 ⟨rfl, hb⟩
          have Y := blk_new w11 (.cells #[.int .i64 nd, .int .i64 mo] 38)
          have y0 : (w11.alloc (.cells #[.int .i64 nd, .int .i64 mo] 38)).cell? ⟨w11.heap.size, 0, none⟩ = some (.int .i64 nd) := (blk_cell Y 0).trans rfl
          have y1 : (w11.alloc (.cells #[.int .i64 nd, .int .i64 mo] 38)).cell? ⟨w11.heap.size, 1, none⟩ = some (.int .i64 mo) := (blk_cell Y 1).trans rfl
          have T12 := Aside0.mk ((HT.out.below hb).below (below_alloc (Below.refl _ _) (.cells #[.int .i64 nd, .int .i64 mo] 38)))
          have C12 := Aside0.mk (below_alloc (below_then HC.out HC.out.size hb) (.cells #[.int .i64 nd, .int .i64 mo] 38))
          have HA := Aside0.mk (AskT_ T12.out (sw_small v 3 i) (by omega) 1 nd mo (by decide))
          rw [HAk.out] at HA
          clear hb HN Y HT HC x0 x1 x2 x3 x4 x5 x6 x7 x8 x9 x10 x11
          go_wp2_with fail
          refine HA.out.mono ?_
          rintro e w14 ⟨rfl, hT, hG⟩
          have T14 := Aside0.mk (hT.mono (F' := fun k => w7.heap.size ≤ k) (fun k hk h => h.elim id (fun h => Nat.le_trans C12.out.size h)))
          have C14 := Aside0.mk (hG.to_below C12.out C12.out.size (fun k hk => hk))
          clear hT hG HA T12 C12 y0 y1
          by_cases e2 : i = 2
          · have q2 : ((i : Int) == 2) = true := beq_iff_eq.2 (by omega)
            by_cases ez : v.z = v.z'
            · have q3 : ((v.z : Int) == (v.z' : Int)) = true := beq_iff_eq.2 (by omega)
              have q4 : (if wtW v i = true then (2 : Int) else 1) = 2 := if_pos (decide_eq_true ⟨e2, ez⟩)
              clear e2 ez HAk
              simp only [q4]
              go_wp2
              go_roundg (3 - (i + 1))
              case measure => have := HLT.out; omega
              case rel => exact ⟨i + 1, by have := HLT.out; omega, by have := HLT.out; omega, by first | rfl | simp | go_num, T14, C14⟩
            · have q3 : ((v.z : Int) == (v.z' : Int)) = false := beq_eq_false_iff_ne.2 (by omega)
              have q4 : (if wtW v i = true then (2 : Int) else 1) = 1 := if_neg (by rw [show wtW v i = false from decide_eq_false (fun h => ez h.2)]; decide)
              clear e2 ez HAk
              simp only [q4]
              go_wp2
              go_roundg (3 - (i + 1))
              case measure => have := HLT.out; omega
              case rel => exact ⟨i + 1, by have := HLT.out; omega, by have := HLT.out; omega, by first | rfl | simp | go_num, T14, C14⟩
          · have q2 : ((i : Int) == 2) = false := beq_eq_false_iff_ne.2 (by omega)
            have q4 : (if wtW v i = true then (2 : Int) else 1) = 1 := if_neg (by rw [show wtW v i = false from decide_eq_false (fun h => e2 h.1)]; decide)
            clear e2 HAk
            simp only [q4]
            go_wp2
            go_roundg (3 - (i + 1))
            case measure => have := HLT.out; omega
            case rel => exact ⟨i + 1, by have := HLT.out; omega, by have := HLT.out; omega, by first | rfl | simp | go_num, T14, C14⟩
        · obtain rfl : i = 3 := by omega
          clear hlt
          go_wp2
          go_roundg (2 - (1 + 1))
          case measure => omega
          case rel => exact ⟨1 + 1, by omega, by omega, by first | rfl | simp | go_num, HT, HC⟩
    · have HT2 := Aside0.mk (show IsTab wr B (fun k => w7.heap.size ≤ k) (SW v 3 3) 100 6 (fW v 3) from HT.out)
      clear HT HN0 HN1
      go_wp2_with fail
      refine (firstP_ _).mono ?_
      rintro e w17 ⟨rfl, hb⟩
      have T17 := Aside0.mk (HT2.out.below hb)
      have D17 := Aside0.mk (below_then (below_then HB7.out HB7.out.size HC.out) (below_then HB7.out HB7.out.size HC.out).size hb)
      have HE := Aside0.mk (EdgesT_ T17.out (sw_small v 3 3) (by omega) (fW_lt v))
      clear hb HT2 HC
      go_wp2_with fail
      refine HE.out.mono ?_
      rintro e w18 ⟨l, hn, hm, A', c', rfl, hR, -, hb⟩
      have he := edges_two v hn hm
      have hc' := hR.2.1
      have D18 := Aside0.mk (below_then HB3.out (Nat.le_of_lt S3s.out) (below_then D17.out D17.out.size hb))
      clear hb hn hm hR HE T17 D17
      generalize (edUp (SW v 3 3) (fW v 3) (sortedI l) l.length).length = len at he hc' ⊢
      have h6 : (((len : Nat) : Int) == 1) = decide (v.z = v.z') := by rw [← he]; exact Bool.eq_iff_iff.2 (by rw [beq_iff_eq, decide_eq_true_iff]; omega)
      have h7 : ((v.z : Int) == (v.z' : Int)) = decide (v.z = v.z') := Bool.eq_iff_iff.2 (by rw [beq_iff_eq, decide_eq_true_iff]; omega)
      clear he
      generalize decide (v.z = v.z') = q at h6 h7
      go_wp2
      go_ret
      exact ⟨by cases q <;> rfl, D18.out⟩
theorem two_walk (c : Cf) (a b : Int) (w : World) :
    Calls Try.prog 19 #[.agg #[.int .i64 c.f0, .int .i64 c.f1, .int .i64 c.f2, .int .i64 c.f3, .int .i64 c.f4, .int .i64 c.f5, .int .i64 c.f6, .int .i64 c.f7, .int .i64 c.f8, .int .i64 c.f9, .int .i64 c.f10, .int .i64 c.f11], .int .i64 a, .int .i64 b] w fun e w' => e = .returned (.bool true) ∧ Below w.heap.size w w' := by
  obtain ⟨f0, f1, f2, f3, f4, f5, f6, f7, f8, f9, f10, f11⟩ := c
  by_cases hk : Okc ⟨f0, f1, f2, f3, f4, f5, f6, f7, f8, 0, f10, f11⟩
  · obtain ⟨r, o, s, n, d⟩ := dim hk
    by_cases h : (0 ≤ a ∧ a < n) ∧ 0 ≤ b ∧ b < n
    · exact two_in ⟨f0, f1, f2, f3, f4, f5, f6, f7, f8, 0, f10, f11⟩ rfl f9 a b w hk d h.1.1 h.1.2 h.2.1 h.2.2
    · refine two_bad ⟨f0, f1, f2, f3, f4, f5, f6, f7, f8, 0, f10, f11⟩ rfl f9 a b w ?_
      by_cases h0 : a < 0
      · exact .inr (.inl h0)
      · by_cases h1 : b < 0
        · exact .inr (.inr (.inl h1))
        · exact .inr (.inr (.inr ⟨r, o, s, n, d, by omega⟩))
  · exact two_bad ⟨f0, f1, f2, f3, f4, f5, f6, f7, f8, 0, f10, f11⟩ rfl f9 a b w (.inl hk)
end Go.Proofs.Ytagdgkimjgomlaa.Ln
