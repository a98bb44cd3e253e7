/- PathSafe: its plain law. -/
import Derived.Test.YtagdgkimjgomlaaPa5
import Derived.Test.YtagdgkimjgomlaaTb17
import Derived.BigQuiet
namespace Go.Proofs.Ytagdgkimjgomlaa.Ln
open Go.RowKit Go.Proofs.YtagdgkimjgomlaaW.PrintWords Go.Proofs.YtagdgkimjgomlaaW.PrintLast Go.Proofs.YtagdgkimjgomlaaW.PrintMore Go.Proofs.Ytagdgkimjgomlaa.PMd
open Go.Maps
open Go.Sort (grow)
set_option linter.unusedVariables false
set_option linter.unusedSimpArgs false
theorem path_ex {c : Cf} {r o s n : Nat} (h : Okc c) (d : Dim c r o s n) {a : Int} (h0 : 0 ≤ a) (h1 : a < n) : ∃ S O Q : Nat, Int.tdiv (S : Int) c.f2 = O ∧ Q < r ∧ O < o ∧ S < s ∧ shape_Path.f c.f0 c.f1 c.f2 c.f3 c.f4 c.f5 c.f6 c.f7 c.f8 c.f9 c.f10 c.f11 a = some ((Q : Int), ((r + O : Nat) : Int), ((r + o + S : Nat) : Int), 0) := by
  have b1 := h.b1
  have b2 := h.b2
  have b3 := h.b3
  have br := d.br
  have bo := d.bo
  have bs := d.bs
  have bn := d.bn
  have e1 : Int.tdiv a c.f3 = a / c.f3 := Int.tdiv_eq_ediv_of_nonneg h0
  have s0 : 0 ≤ a / c.f3 := Int.ediv_nonneg h0 (by omega)
  have s1 : a / c.f3 < s := by
    refine Int.ediv_lt_of_lt_mul (by omega) ?_
    rw [← d.hs, d.hn]; exact h1
  have e2 : Int.tdiv (a / c.f3) c.f2 = a / c.f3 / c.f2 := Int.tdiv_eq_ediv_of_nonneg s0
  have o0 : 0 ≤ a / c.f3 / c.f2 := Int.ediv_nonneg s0 (by omega)
  have o1 : a / c.f3 / c.f2 < o := by
    refine Int.ediv_lt_of_lt_mul (by omega) ?_
    rw [← d.ho, d.hs]; exact s1
  have e3 : Int.tdiv (a / c.f3 / c.f2) c.f1 = a / c.f3 / c.f2 / c.f1 := Int.tdiv_eq_ediv_of_nonneg o0
  have r0 : 0 ≤ a / c.f3 / c.f2 / c.f1 := Int.ediv_nonneg o0 (by omega)
  have r1 : a / c.f3 / c.f2 / c.f1 < r := by
    refine Int.ediv_lt_of_lt_mul (by omega) ?_
    rw [← d.hr, d.ho]; exact o1
  generalize hS : a / c.f3 = S at *
  generalize hO : S / c.f2 = O at *
  generalize hR : O / c.f1 = Q at *
  refine ⟨S.toNat, O.toNat, Q.toNat, by rw [Int.toNat_of_nonneg s0, Int.toNat_of_nonneg o0]; exact e2, by omega, by omega, by omega, ?_⟩
  unfold shape_Path.f
  rw [words_ok h d, counts_ok h d, if_neg (by omega)]
  simp only [Option.bind_some]
  rw [if_neg (by omega), if_neg (by omega), if_neg (by omega), if_neg (by omega), e1, wrap_id (x := S) (by omega), e2, wrap_id (x := O) (by omega), e3, wrap_id (x := Q) (by omega), wrap_id (x := (r : Int) + O) (by omega), wrap_id (x := (r : Int) + (o : Int)) (by omega), wrap_id (x := (r : Int) + (o : Int) + S) (by omega)]
  congr 2 <;> first | omega | (congr 1 <;> first | omega | (congr 1; omega))
theorem lev_ok {c : Cf} {r o s n : Nat} (h : Okc c) (d : Dim c r o s n) {j : Nat} (hj : j < r + o + s) : shape_Level.f 20 c.f0 c.f1 c.f2 c.f3 c.f4 c.f5 c.f6 c.f7 c.f8 c.f9 c.f10 c.f11 (j : Int) = some (if j < r then 0 else if j < r + o then 1 else 2) := by
  have br := d.br
  have bo := d.bo
  have bs := d.bs
  have W2 := counts_ok h d
  clear h d
  unfold shape_Level.f
  have w1 : wrap64 ((r : Int) + (o : Int)) = (r : Int) + (o : Int) := wrap_id (by omega)
  have w2 : wrap64 ((r : Int) + (o : Int) + (s : Int)) = (r : Int) + (o : Int) + (s : Int) := wrap_id (by omega)
  rw [W2, Option.bind_some]
  dsimp only
  rw [if_neg (by omega)]
  show (if decide ((j : Int) ≥ wrap64 (wrap64 ((r : Int) + (o : Int)) + (s : Int))) = true then some (-1) else if (j : Int) < (r : Int) then some 0 else if (j : Int) < wrap64 ((r : Int) + (o : Int)) then some 1 else some 2) = some (if j < r then (0 : Int) else if j < r + o then 1 else 2)
  rw [w1, w2, decide_eq_false (by omega), if_neg (by decide)]
  by_cases c1 : j < r
  · rw [if_pos (by omega), if_pos c1]
  · rw [if_neg (by omega), if_neg c1]
    by_cases c2 : j < r + o
    · rw [if_pos (by omega), if_pos c2]
    · rw [if_neg (by omega), if_neg c2]
theorem par_ok {c : Cf} {r o s n : Nat} (h : Okc c) (d : Dim c r o s n) {S O : Nat} (hS : S < s) (hO : O < o) (e : Int.tdiv (S : Int) c.f2 = O) : shape_Parent.f 20 c.f0 c.f1 c.f2 c.f3 c.f4 c.f5 c.f6 c.f7 c.f8 c.f9 c.f10 c.f11 ((r + o + S : Nat) : Int) = some ((r + O : Nat) : Int) := by
  have E := Aside0.mk e
  clear e
  have br := d.br
  have bo := d.bo
  have bs := d.bs
  have b1 := h.b1
  have b2 := h.b2
  have W2 := counts_ok h d
  have hl := lev_ok h d (j := r + o + S) (by omega)
  rw [if_neg (by omega), if_neg (by omega)] at hl
  clear h d
  have w1 : wrap64 (((r + o + S : Nat) : Int) - (r : Int)) = (o : Int) + (S : Int) := by rw [wrap_id (by omega)]; omega
  have w2 : wrap64 ((o : Int) + (S : Int) - (o : Int)) = (S : Int) := by rw [wrap_id (by omega)]; omega
  have w3 : wrap64 (O : Int) = (O : Int) := wrap_id (by omega)
  have w4 : wrap64 ((r : Int) + (O : Int)) = ((r + O : Nat) : Int) := by rw [wrap_id (by omega)]; omega
  unfold shape_Parent.f
  rw [W2, Option.bind_some, hl, Option.bind_some]
  dsimp only
  rw [if_neg (by decide), if_pos rfl, if_neg (by omega), w1, w2, E.out, w3, w4]

theorem par_obj {c : Cf} {r o s n : Nat} (h : Okc c) (d : Dim c r o s n) {O Q : Nat} (hO : O < o) (hQ : Q < r) (e : Int.tdiv (O : Int) c.f1 = Q) : shape_Parent.f 20 c.f0 c.f1 c.f2 c.f3 c.f4 c.f5 c.f6 c.f7 c.f8 c.f9 c.f10 c.f11 ((r + O : Nat) : Int) = some (Q : Int) := by
  have E := Aside0.mk e
  clear e
  have br := d.br
  have bo := d.bo
  have bs := d.bs
  have b1 := h.b1
  have W2 := counts_ok h d
  have hl := lev_ok h d (j := r + O) (by omega)
  rw [if_neg (by omega), if_pos (by omega)] at hl
  clear h d
  have w1 : wrap64 (((r + O : Nat) : Int) - (r : Int)) = (O : Int) := by rw [wrap_id (by omega)]; omega
  have w3 : wrap64 (Q : Int) = (Q : Int) := wrap_id (by omega)
  unfold shape_Parent.f
  rw [W2, Option.bind_some, hl, Option.bind_some]
  dsimp only
  rw [if_pos rfl, if_neg (by omega), w1, E.out, w3]
theorem path_ex2 {c : Cf} {r o s n : Nat} (h : Okc c) (d : Dim c r o s n) {a : Int} (h0 : 0 ≤ a) (h1 : a < n) : ∃ S O Q : Nat, Int.tdiv (S : Int) c.f2 = O ∧ Int.tdiv (O : Int) c.f1 = Q ∧ Q < r ∧ O < o ∧ S < s ∧ shape_Path.f c.f0 c.f1 c.f2 c.f3 c.f4 c.f5 c.f6 c.f7 c.f8 c.f9 c.f10 c.f11 a = some ((Q : Int), ((r + O : Nat) : Int), ((r + o + S : Nat) : Int), 0) := by
  obtain ⟨S, O, Q, e, hQ, hO, hS, hp⟩ := path_ex h d h0 h1
  have br := d.br
  have bo := d.bo
  have b1 := h.b1
  have hq0 : 0 ≤ (O : Int) / c.f1 := Int.ediv_nonneg (by omega) (by omega)
  have hq1 : (O : Int) / c.f1 < r := by
    refine Int.ediv_lt_of_lt_mul (by omega) ?_
    have := d.ho
    have := d.hr
    rw [← d.hr, d.ho]; omega
  refine ⟨S, O, Q, e, ?_, hQ, hO, hS, hp⟩
  -- the region that Path tells is the object's
  have h2 := hp
  unfold shape_Path.f at h2
  have e1 : Int.tdiv a c.f3 = a / c.f3 := Int.tdiv_eq_ediv_of_nonneg h0
  have s0 : 0 ≤ a / c.f3 := Int.ediv_nonneg h0 (by have := h.b3; omega)
  have s1 : a / c.f3 < s := by
    refine Int.ediv_lt_of_lt_mul (by have := h.b3; omega) ?_
    rw [← d.hs, d.hn]; exact h1
  have e2 : Int.tdiv (a / c.f3) c.f2 = a / c.f3 / c.f2 := Int.tdiv_eq_ediv_of_nonneg s0
  have o0 : 0 ≤ a / c.f3 / c.f2 := Int.ediv_nonneg s0 (by have := h.b2; omega)
  have o1 : a / c.f3 / c.f2 < o := by
    refine Int.ediv_lt_of_lt_mul (by have := h.b2; omega) ?_
    rw [← d.ho, d.hs]; exact s1
  have e3 : Int.tdiv (a / c.f3 / c.f2) c.f1 = a / c.f3 / c.f2 / c.f1 := Int.tdiv_eq_ediv_of_nonneg o0
  have r0 : 0 ≤ a / c.f3 / c.f2 / c.f1 := Int.ediv_nonneg o0 (by omega)
  have r1 : a / c.f3 / c.f2 / c.f1 < r := by
    refine Int.ediv_lt_of_lt_mul (by omega) ?_
    rw [← d.hr, d.ho]; exact o1
  have bs := d.bs
  have bn := d.bn
  have b2 := h.b2
  have b3 := h.b3
  rw [words_ok h d, counts_ok h d, if_neg (by omega)] at h2
  simp only [Option.bind_some] at h2
  rw [if_neg (by omega), if_neg (by omega), if_neg (by omega), if_neg (by omega), e1, wrap_id (x := a / c.f3) (by omega), e2, wrap_id (x := a / c.f3 / c.f2) (by omega), e3, wrap_id (x := a / c.f3 / c.f2 / c.f1) (by omega), wrap_id (x := (r : Int) + a / c.f3 / c.f2) (by omega)] at h2
  injection h2 with h2
  injection h2 with g1 g2
  injection g2 with g2 _
  have g3 : a / c.f3 / c.f2 = (O : Int) := by omega
  rw [Int.tdiv_eq_ediv_of_nonneg (by omega), ← g3]
  exact g1
/-- Where a word lies: its nodes, their levels, what they lie in. -/
structure Way (c : Cf) (n : Nat) (a : Int) where
  x : Nat
  y : Nat
  z : Nat
  xy : x < y
  yz : y < z
  zn : z < n
  path : shape_Path.f c.f0 c.f1 c.f2 c.f3 c.f4 c.f5 c.f6 c.f7 c.f8 c.f9 c.f10 c.f11 a = some ((x : Int), (y : Int), (z : Int), 0)
  lx : lvC c x = 0
  ly : lvC c y = 1
  lz : lvC c z = 2
  py : paC c y = x
  pz : paC c z = y
theorem way_of {c : Cf} {r o s n : Nat} (h : Okc c) (d : Dim c r o s n) {a : Int} (h0 : 0 ≤ a) (h1 : a < n) : Nonempty (Way c (r + o + s) a) := by
  obtain ⟨S, O, Q, e, e', hQ, hO, hS, hp⟩ := path_ex2 h d h0 h1
  have E := Aside0.mk e
  have E' := Aside0.mk e'
  have HP := Aside0.mk hp
  clear e e' hp
  refine ⟨⟨Q, r + O, r + o + S, by omega, by omega, by omega, HP.out, ?_, ?_, ?_, ?_, ?_⟩⟩
  · unfold lvC; rw [lev_ok h d (by omega), if_pos (by omega)]; rfl
  · unfold lvC; rw [lev_ok h d (by omega), if_neg (by omega), if_pos (by omega)]; rfl
  · unfold lvC; rw [lev_ok h d (by omega), if_neg (by omega), if_neg (by omega)]; rfl
  · unfold paC; rw [par_obj h d hO hQ E'.out]; rfl
  · unfold paC; rw [par_ok h d hS hO E.out]; rfl
/-! ### what the next lock is -/
/-- How many more requests it takes at most. -/
def remB (a e b d : Bool) : Nat := (if a then 0 else 1) + (if e then 0 else (if b then 0 else 1) + (if d then 0 else 1))
def rem (hx hy hz : Int) (w : Bool) : Nat := remB (covM hx (intM (wantM w))) (enoM hy w) (covM hy (intM (wantM w))) (covM hz (wantM w))
theorem rem_le (hx hy hz : Int) (w : Bool) : rem hx hy hz w ≤ 3 := by
  unfold rem
  generalize covM hx (intM (wantM w)) = a
  generalize enoM hy w = e
  generalize covM hy (intM (wantM w)) = b
  generalize covM hz (wantM w) = d
  revert a e b d
  decide
/-- Does one hold all that it needs? -/
def ableM (hx hy hz : Int) (w : Bool) : Bool := covM hx (intM (wantM w)) && (enoM hy w || (covM hy (intM (wantM w)) && covM hz (wantM w)))
theorem next_no {x y z hx hy hz esc : Int} {st : Nat} {w : Bool} : (nextT x y z hx hy hz esc st w).2 = !ableM hx hy hz w := by
  unfold nextT ableM
  cases h1 : covM hx (intM (wantM w))
  · rw [if_pos rfl]; rfl
  · rw [if_neg (by simp)]
    cases h2 : enoM hy w
    · rw [if_neg (by simp)]
      cases h3 : covM hz (wantM w)
      · split
        · simp
        · cases h4 : covM hy (intM (wantM w))
          · rw [if_pos rfl]; rfl
          · rw [if_neg (by simp), if_pos rfl]; rfl
      · rw [if_neg (by simp)]
        cases h4 : covM hy (intM (wantM w))
        · rw [if_pos rfl]; rfl
        · rw [if_neg (by simp), if_neg (by simp)]; rfl
    · rw [if_pos rfl]; rfl
theorem next_case {x y z hx hy hz esc : Int} {st : Nat} {w : Bool} (h : (nextT x y z hx hy hz esc st w).2 = true) :
    ((nextT x y z hx hy hz esc st w).1 = ⟨x, intM (wantM w)⟩ ∧ covM hx (intM (wantM w)) = false) ∨
    ((nextT x y z hx hy hz esc st w).1 = ⟨y, wantM w⟩ ∧ covM hx (intM (wantM w)) = true ∧ enoM hy w = false ∧ covM hz (wantM w) = false) ∨
    ((nextT x y z hx hy hz esc st w).1 = ⟨y, intM (wantM w)⟩ ∧ covM hx (intM (wantM w)) = true ∧ enoM hy w = false ∧ covM hy (intM (wantM w)) = false) ∨
    ((nextT x y z hx hy hz esc st w).1 = ⟨z, wantM w⟩ ∧ covM hx (intM (wantM w)) = true ∧ enoM hy w = false ∧ covM hy (intM (wantM w)) = true ∧ covM hz (wantM w) = false) := by
  unfold nextT at h ⊢
  by_cases h1 : covM hx (intM (wantM w)) = false
  · rw [if_pos h1]; exact .inl ⟨rfl, h1⟩
  · rw [if_neg h1] at h ⊢
    have h1' : covM hx (intM (wantM w)) = true := by simpa using h1
    by_cases h2 : enoM hy w = true
    · rw [if_pos h2] at h; cases h
    · rw [if_neg h2] at h ⊢
      have h2' : enoM hy w = false := by simpa using h2
      by_cases h3 : (esc > 0 ∧ covM hz (wantM w) = false) ∧ (st : Int) ≥ esc
      · rw [if_pos h3]; exact .inr (.inl ⟨rfl, h1', h2', h3.1.2⟩)
      · rw [if_neg h3] at h ⊢
        by_cases h4 : covM hy (intM (wantM w)) = false
        · rw [if_pos h4]; exact .inr (.inr (.inl ⟨rfl, h1', h2', h4⟩))
        · rw [if_neg h4] at h ⊢
          by_cases h5 : covM hz (wantM w) = false
          · rw [if_pos h5]; exact .inr (.inr (.inr ⟨rfl, h1', h2', by simpa using h4, h5⟩))
          · rw [if_neg h5] at h; cases h
theorem sup_f0 : ∀ (a : Fin 6) (w : Bool), covM (supM (a.val : Int) (intM (wantM w))) (intM (wantM w)) = true ∧ covM (supM (a.val : Int) (wantM w)) (wantM w) = true ∧ enoM (supM (a.val : Int) (wantM w)) w = true := by decide +kernel
theorem remB_x : ∀ e b d : Bool, remB true e b d + 1 ≤ remB false e b d := by decide
theorem remB_yw : ∀ a b b' : Bool, remB a true b' false + 1 ≤ remB a false b false := by decide
theorem remB_yi : ∀ a e d : Bool, remB a e true d + 1 ≤ remB a false false d := by decide
theorem remB_z : ∀ a b : Bool, remB a false b true + 1 ≤ remB a false b false := by decide
theorem rem_x {a hy hz : Int} {w : Bool} (ha : md a) (h : covM a (intM (wantM w)) = false) : rem (supM a (intM (wantM w))) hy hz w + 1 ≤ rem a hy hz w := by
  obtain ⟨f, rfl⟩ := fin6 ha
  unfold rem
  rw [h, (sup_f0 f w).1]
  exact remB_x _ _ _
theorem rem_yw {hx a hz : Int} {w : Bool} (ha : md a) (h2 : enoM a w = false) (h3 : covM hz (wantM w) = false) : rem hx (supM a (wantM w)) hz w + 1 ≤ rem hx a hz w := by
  obtain ⟨f, rfl⟩ := fin6 ha
  unfold rem
  rw [h2, h3, (sup_f0 f w).2.2]
  exact remB_yw _ _ _
theorem rem_yi {hx a hz : Int} {w : Bool} (ha : md a) (h2 : enoM a w = false) (h3 : covM a (intM (wantM w)) = false) : rem hx (supM a (intM (wantM w))) hz w + 1 ≤ rem hx a hz w := by
  obtain ⟨f, rfl⟩ := fin6 ha
  unfold rem
  rw [h2, h3, (sup_f0 f w).1]
  exact remB_yi _ _ _
theorem rem_z {hx hy a : Int} {w : Bool} (ha : md a) (h2 : enoM hy w = false) (h3 : covM a (wantM w) = false) : rem hx hy (supM a (wantM w)) w + 1 ≤ rem hx hy a w := by
  obtain ⟨f, rfl⟩ := fin6 ha
  unfold rem
  rw [h2, h3, (sup_f0 f w).2.1]
  exact remB_z _ _
/-- Two that both hold all that they need, one of them to write: not where what they hold fits. -/
theorem clash_f : ∀ (w1 w2 : Bool) (hy ky : Fin 6), (w1 || w2) = true → fitsM (hy.val : Int) (ky.val : Int) = true → ∀ (hz kz : Fin 6), fitsM (hz.val : Int) (kz.val : Int) = true →
    ((enoM (hy.val : Int) w1 || (covM (hy.val : Int) (intM (wantM w1)) && covM (hz.val : Int) (wantM w1))) && (enoM (ky.val : Int) w2 || (covM (ky.val : Int) (intM (wantM w2)) && covM (kz.val : Int) (wantM w2)))) = false := by decide +kernel
theorem clash {hx hy hz kx ky kz : Int} {w1 w2 : Bool} (h1 : md hy) (h2 : md hz) (h3 : md ky) (h4 : md kz) (hw : (w1 || w2) = true) (fy : fitsM hy ky = true) (fz : fitsM hz kz = true) (ha : ableM hx hy hz w1 = true) : ableM kx ky kz w2 = false := by
  obtain ⟨a, rfl⟩ := fin6 h1
  obtain ⟨b, rfl⟩ := fin6 h2
  obtain ⟨e, rfl⟩ := fin6 h3
  obtain ⟨g, rfl⟩ := fin6 h4
  have h := clash_f w1 w2 a e hw fy b g fz
  unfold ableM at ha ⊢
  rw [Bool.and_eq_true] at ha
  rw [ha.2, Bool.true_and] at h
  rw [h, Bool.and_false]
/-! ### tables of four -/
structure PInv (n m : Nat) (ls : List LS) (f : At) : Prop extends OInv n 4096 m ls f where
  four : ∀ j, j < ls.length → ∀ k ∈ folk (ls.getD j zL), 0 ≤ k ∧ k ≤ 3
theorem pinv_zero (n : Nat) : PInv n 0 (List.replicate n zL) f0 := ⟨oinv_zero n (by decide), fun j _ k hk => by rw [getD_rep9] at hk; cases hk⟩
theorem PInv.up {n m m' : Nat} {ls : List LS} {f : At} (h : PInv n m ls f) (hm : m ≤ m') : PInv n m' ls f := ⟨⟨h.len, h.t, fun j hj => Nat.le_trans (h.size j hj) hm, h.lk, h.wf⟩, h.four⟩
theorem ok64_four {x : Int} (h : 0 ≤ x ∧ x ≤ 3) : ok64 x := ok64_to (by unfold wrap64; omega)
theorem PInv.ask {n m : Nat} {ls : List LS} {f : At} (h : PInv n m ls f) {who : Int} (hw : 0 ≤ who ∧ who ≤ 3) (node mo : Int) : PInv n (m + 1) (askT ls 4096 f who node mo).2.2.1 (askT ls 4096 f who node mo).2.2.2 := by
  refine ⟨h.toOInv.ask (ok64_four hw) node mo, ?_⟩
  rcases askT_cases ls 4096 f who node mo with ⟨h1, _⟩ | ⟨k, rfl, hk, _, _, _, _, _, e⟩
  · rw [h1]; exact h.four
  · rw [e]
    intro j hj y hy
    dsimp only at hj hy
    rw [List.length_set] at hj
    rw [askT_at hk] at hy
    by_cases ej : j = k
    · rw [if_pos ej] at hy
      rcases ask_folk (h.t.inv k hk) who mo hy with hy | rfl
      · exact h.four k hk y hy
      · exact hw
    · rw [if_neg ej] at hy
      exact h.four j hj y hy
theorem PInv.drop {n m : Nat} {ls : List LS} {f : At} (h : PInv n m ls f) (who : Int) : PInv n m (dropL ls who 0) (dropF ls f who) := by
  refine ⟨h.toOInv.drop who, fun j hj k hk => ?_⟩
  rw [dropL_len] at hj
  rw [dropL0_at hj] at hk
  obtain ⟨q, _, _, h3, h4, h5, _⟩ := dropS_spec (h.t.inv j hj) who
  rw [folk_mem h4] at hk
  refine h.four j hj k ?_
  rw [folk_mem (h.t.inv j hj)]
  rcases hk with ⟨e, he, ek⟩ | ⟨e, he, ek⟩
  · rcases (h5 e).1 he with he | ⟨he, _⟩
    · exact .inr ⟨e, (fl_mem.1 (List.mem_of_mem_take he)).1, ek⟩
    · exact .inl ⟨e, (fl_mem.1 he).1, ek⟩
  · rw [h3] at he
    exact .inr ⟨e, (fl_mem.1 (List.mem_of_mem_drop he)).1, ek⟩
theorem PInv.room {n m : Nat} {ls : List LS} {f : At} (h : PInv n m ls f) (hn : n ≤ 584) : lenT ls < 4096 := by
  have key : ∀ i, i ≤ ls.length → lenT (ls.take i) ≤ 4 * i := by
    intro i
    induction i with
    | zero => intro _; simp [lenT]
    | succ i ih =>
      intro hi
      rw [len_step (by omega)]
      have h1 := ih (by omega)
      have h2 : lenL (ls.getD i zL) ≤ 4 := by
        rw [← folk_len]
        exact nodup_len (b := [0, 1, 2, 3]) (folk_nodup (h.t.inv i (by omega))) (fun x hx => by
          have := h.four i (by omega) x hx
          have e : x = 0 ∨ x = 1 ∨ x = 2 ∨ x = 3 := by omega
          rcases e with rfl | rfl | rfl | rfl <;> simp)
      omega
  have := key ls.length (Nat.le_refl _)
  rw [List.take_length, h.len] at this
  omega
/-- A request that may be: granted, then one holds what it held with it; or it waits. -/
theorem PInv.asked {n m : Nat} {ls : List LS} {f : At} (h : PInv n m ls f) (hn : n ≤ 584) {who : Int} (hw : 0 ≤ who ∧ who ≤ 3) (hf : f who = none) {nd : Nat} (hnd : nd < n) {mo : Int} (hm : md mo) (h0 : mo ≠ 0) :
    (askT ls 4096 f who nd mo).2.1 = 0 ∧ ((askT ls 4096 f who nd mo).1 = 1 ∧ (askT ls 4096 f who nd mo).2.2.2 = f ∧ holdsT (askT ls 4096 f who nd mo).2.2.1 who nd = supM (holdsT ls who nd) mo ∧ (∀ j : Nat, j ≠ nd → holdsT (askT ls 4096 f who nd mo).2.2.1 who j = holdsT ls who j) ∨
      (askT ls 4096 f who nd mo).1 = 2) := by
  have hroom := h.room hn
  have hk : knownM mo = true := decide_eq_true hm
  have hlen := h.len
  have hq : ∀ x ∈ (ls.getD nd zL).2, x.f0 ≠ who := fun x hx ex => by
    have := (h.t.map who nd).2 ⟨by omega, x, hx, ex⟩
    rw [this] at hf; cases hf
  have e := ask_at (ls := ls) (f := f) (i := nd) (most := 4096) (who := who) (m := mo) (hs := (ls.getD nd zL).1) (qs := (ls.getD nd zL).2) (by omega) hf hw.1 hk h0 rfl (.inr (by omega)) (show askIn (ls.getD nd zL).1 (ls.getD nd zL).2 who mo = ((askIn (ls.getD nd zL).1 (ls.getD nd zL).2 who mo).1, (askIn (ls.getD nd zL).1 (ls.getD nd zL).2 who mo).2.1, (askIn (ls.getD nd zL).1 (ls.getD nd zL).2 who mo).2.2) from rfl)
  rw [e]
  refine ⟨rfl, ?_⟩
  dsimp only
  unfold askIn
  have hb : askBad (ls.getD nd zL).2 who mo = false := by
    unfold askBad
    rw [hk]
    have h1 : (mo == 0) = false := beq_eq_false_iff_ne.2 h0
    have h2 : decide (ix (fun x => x.f0 == who) (ls.getD nd zL).2 ≥ 0) = false := decide_eq_false (fun h => by
      obtain ⟨x, hx, ex⟩ := ix_yes.1 h
      exact hq x hx ex)
    rw [h1, h2]; rfl
  rw [hb]
  rw [if_neg (by simp)]
  cases hg : askGo (ls.getD nd zL).1 (ls.getD nd zL).2 who mo with
  | false => rw [if_neg (by simp)]; exact .inr rfl
  | true =>
    rw [if_pos rfl]
    refine .inl ⟨rfl, by rw [if_neg (show ¬ ((1 : Int) = 2) by decide)], ?_, fun j hj => ?_⟩
    · unfold holdsT
      rw [if_pos ⟨by omega, by rw [List.length_set]; omega⟩, if_pos ⟨by omega, by omega⟩, Int.toNat_natCast, askT_at (by omega), if_pos rfl]
      exact told_grants (h.t.inv nd (by omega)).asc who _
    · unfold holdsT
      rw [List.length_set]
      split
      · rw [Int.toNat_natCast, askT_at (by omega), if_neg hj]
      · rfl
theorem told_fit {hs qs : List E} (h : Inv hs qs) {a b : Int} (hab : a ≠ b) : fitsM (toldIn hs a) (toldIn hs b) = true := by
  have ma := h.toInvS.told_md a
  have mb := h.toInvS.told_md b
  rcases told_cases hs a with ⟨h1, _⟩ | ⟨x, hx, ex, h1⟩
  · rw [h1, fits_symm ⟨by decide, by decide⟩ mb]; exact fits_zero mb
  · rcases told_cases hs b with ⟨h2, _⟩ | ⟨y, hy, ey, h2⟩
    · rw [h2]; exact fits_zero ma
    · rw [h1, h2]; exact h.fit x hx y hy (by rw [ex, ey]; exact hab)
theorem holds_fit {ls : List LS} (h : LInv ls) {a b : Int} (hab : a ≠ b) (node : Int) : fitsM (holdsT ls a node) (holdsT ls b node) = true := by
  unfold holdsT
  split
  · rename_i hn
    exact told_fit (h node.toNat (by omega)) hab
  · decide +kernel
theorem int_int : ∀ w : Bool, intM (intM (wantM w)) = intM (wantM w) ∧ wantM w ≠ 0 ∧ intM (wantM w) ≠ 0 := by decide +kernel
/-- What is asked for next: from above to below, with intents above; granted, it is one request less. -/
theorem next_step {c : Cf} {n m : Nat} {a : Int} (v : Way c n a) {ls : List LS} {f : At} (h : PInv n m ls f) {who esc : Int} {w : Bool} {st : Nat}
    (hn : (nextT (v.x : Int) (v.y : Int) (v.z : Int) (holdsT ls who v.x) (holdsT ls who v.y) (holdsT ls who v.z) esc st w).2 = true) :
    ∃ (nd : Nat) (mo : Int), (nextT (v.x : Int) (v.y : Int) (v.z : Int) (holdsT ls who v.x) (holdsT ls who v.y) (holdsT ls who v.z) esc st w).1 = ⟨(nd : Int), mo⟩ ∧ nd < n ∧ md mo ∧ mo ≠ 0 ∧
      (lvC c nd = 0 ∨ (0 < lvC c nd ∧ ∃ up : Nat, paC c nd = up ∧ covM (holdsT ls who up) (intM mo) = true)) ∧
      ∀ ls' : List LS, holdsT ls' who nd = supM (holdsT ls who nd) mo → (∀ j : Nat, j ≠ nd → holdsT ls' who j = holdsT ls who j) →
        rem (holdsT ls' who v.x) (holdsT ls' who v.y) (holdsT ls' who v.z) w + 1 ≤ rem (holdsT ls who v.x) (holdsT ls who v.y) (holdsT ls who v.z) w := by
  have i1 := v.xy
  have i2 := v.yz
  have i3 := v.zn
  have hm := fun j : Int => told_md_T h.t.inv who j
  obtain ⟨j1, j2, j3⟩ := int_int w
  obtain ⟨k1, k2⟩ := want_md w
  rcases next_case hn with ⟨e, h1⟩ | ⟨e, h1, h2, h3⟩ | ⟨e, h1, h2, h3⟩ | ⟨e, h1, h2, h3, h4⟩
  · refine ⟨v.x, _, e, by omega, k2, j3, .inl v.lx, fun ls' g1 g2 => ?_⟩
    rw [g1, g2 v.y (by omega), g2 v.z (by omega)]
    exact rem_x (hm _) h1
  · refine ⟨v.y, _, e, by omega, k1, j2, .inr ⟨by rw [v.ly]; decide, v.x, v.py, h1⟩, fun ls' g1 g2 => ?_⟩
    rw [g1, g2 v.x (by omega), g2 v.z (by omega)]
    exact rem_yw (hm _) h2 h3
  · refine ⟨v.y, _, e, by omega, k2, j3, .inr ⟨by rw [v.ly]; decide, v.x, v.py, by rw [j1]; exact h1⟩, fun ls' g1 g2 => ?_⟩
    rw [g1, g2 v.x (by omega), g2 v.z (by omega)]
    exact rem_yi (hm _) h2 h3
  · refine ⟨v.z, _, e, by omega, k1, j2, .inr ⟨by rw [v.lz]; decide, v.y, v.pz, h3⟩, fun ls' g1 g2 => ?_⟩
    rw [g1, g2 v.x (by omega), g2 v.y (by omega)]
    exact rem_z (hm _) h2 h4
/-- Who has got all is safe. -/
theorem safe_others {c : Cf} {n m : Nat} {a : Int} (v : Way c n a) {ls : List LS} {f : At} (h : PInv n m ls f) {who k : Int} (hk : k ≠ who) {w w2 : Bool} (hw : (w || w2) = true)
    (ha : ableM (holdsT ls who v.x) (holdsT ls who v.y) (holdsT ls who v.z) w = true) : ableM (holdsT ls k v.x) (holdsT ls k v.y) (holdsT ls k v.z) w2 = false :=
  clash (told_md_T h.t.inv who _) (told_md_T h.t.inv who _) (told_md_T h.t.inv k _) (told_md_T h.t.inv k _) hw (holds_fit h.t.inv (fun e => hk e.symm) _) (holds_fit h.t.inv (fun e => hk e.symm) _) ha
set_option maxHeartbeats 8000000 in
set_option maxRecDepth 100000 in
theorem able_ {w : World} {b : Nat} {F : Nat → Prop} {ls : List LS} {most : Int} {N n : Nat} {f : At} (h : IsTab w b F ls most N f) (hi : LInv ls) (hn : ls.length ≤ 10000) (c : Cf) (hk : Okc c) {a : Int} (v : Way c n a) (who : Int) (wt : Bool) :
    Calls Try.prog 41 #[.agg #[.int .i64 c.f0, .int .i64 c.f1, .int .i64 c.f2, .int .i64 c.f3, .int .i64 c.f4, .int .i64 c.f5, .int .i64 c.f6, .int .i64 c.f7, .int .i64 c.f8, .int .i64 c.f9, .int .i64 c.f10, .int .i64 c.f11], .pointer (some ⟨b, 0, none⟩), .int .i64 who, .int .i64 a, .bool wt] w fun e w' => e = .returned (.bool (ableM (holdsT ls who v.x) (holdsT ls who v.y) (holdsT ls who v.z) wt)) ∧ Below w.heap.size w w' := by
  have hu41 := Try.underlying41
  have hu38 := Try.underlying38
  have HBc := Aside0.mk (below_alloc (Below.refl w.heap.size w) (.cells #[.int .i64 c.f0, .int .i64 c.f1, .int .i64 c.f2, .int .i64 c.f3, .int .i64 c.f4, .int .i64 c.f5, .int .i64 c.f6, .int .i64 c.f7, .int .i64 c.f8, .int .i64 c.f9, .int .i64 c.f10, .int .i64 c.f11] 41))
  have hx := blk_new w (.cells #[.int .i64 c.f0, .int .i64 c.f1, .int .i64 c.f2, .int .i64 c.f3, .int .i64 c.f4, .int .i64 c.f5, .int .i64 c.f6, .int .i64 c.f7, .int .i64 c.f8, .int .i64 c.f9, .int .i64 c.f10, .int .i64 c.f11] 41)
  have k0 : (w.alloc (.cells #[.int .i64 c.f0, .int .i64 c.f1, .int .i64 c.f2, .int .i64 c.f3, .int .i64 c.f4, .int .i64 c.f5, .int .i64 c.f6, .int .i64 c.f7, .int .i64 c.f8, .int .i64 c.f9, .int .i64 c.f10, .int .i64 c.f11] 41)).cell? ⟨w.heap.size, 0, none⟩ = some (.int .i64 c.f0) := (blk_cell hx 0).trans rfl
  have k1 : (w.alloc (.cells #[.int .i64 c.f0, .int .i64 c.f1, .int .i64 c.f2, .int .i64 c.f3, .int .i64 c.f4, .int .i64 c.f5, .int .i64 c.f6, .int .i64 c.f7, .int .i64 c.f8, .int .i64 c.f9, .int .i64 c.f10, .int .i64 c.f11] 41)).cell? ⟨w.heap.size, 1, none⟩ = some (.int .i64 c.f1) := (blk_cell hx 1).trans rfl
  have k2 : (w.alloc (.cells #[.int .i64 c.f0, .int .i64 c.f1, .int .i64 c.f2, .int .i64 c.f3, .int .i64 c.f4, .int .i64 c.f5, .int .i64 c.f6, .int .i64 c.f7, .int .i64 c.f8, .int .i64 c.f9, .int .i64 c.f10, .int .i64 c.f11] 41)).cell? ⟨w.heap.size, 2, none⟩ = some (.int .i64 c.f2) := (blk_cell hx 2).trans rfl
  have k3 : (w.alloc (.cells #[.int .i64 c.f0, .int .i64 c.f1, .int .i64 c.f2, .int .i64 c.f3, .int .i64 c.f4, .int .i64 c.f5, .int .i64 c.f6, .int .i64 c.f7, .int .i64 c.f8, .int .i64 c.f9, .int .i64 c.f10, .int .i64 c.f11] 41)).cell? ⟨w.heap.size, 3, none⟩ = some (.int .i64 c.f3) := (blk_cell hx 3).trans rfl
  have k4 : (w.alloc (.cells #[.int .i64 c.f0, .int .i64 c.f1, .int .i64 c.f2, .int .i64 c.f3, .int .i64 c.f4, .int .i64 c.f5, .int .i64 c.f6, .int .i64 c.f7, .int .i64 c.f8, .int .i64 c.f9, .int .i64 c.f10, .int .i64 c.f11] 41)).cell? ⟨w.heap.size, 4, none⟩ = some (.int .i64 c.f4) := (blk_cell hx 4).trans rfl
  have k5 : (w.alloc (.cells #[.int .i64 c.f0, .int .i64 c.f1, .int .i64 c.f2, .int .i64 c.f3, .int .i64 c.f4, .int .i64 c.f5, .int .i64 c.f6, .int .i64 c.f7, .int .i64 c.f8, .int .i64 c.f9, .int .i64 c.f10, .int .i64 c.f11] 41)).cell? ⟨w.heap.size, 5, none⟩ = some (.int .i64 c.f5) := (blk_cell hx 5).trans rfl
  have k6 : (w.alloc (.cells #[.int .i64 c.f0, .int .i64 c.f1, .int .i64 c.f2, .int .i64 c.f3, .int .i64 c.f4, .int .i64 c.f5, .int .i64 c.f6, .int .i64 c.f7, .int .i64 c.f8, .int .i64 c.f9, .int .i64 c.f10, .int .i64 c.f11] 41)).cell? ⟨w.heap.size, 6, none⟩ = some (.int .i64 c.f6) := (blk_cell hx 6).trans rfl
  have k7 : (w.alloc (.cells #[.int .i64 c.f0, .int .i64 c.f1, .int .i64 c.f2, .int .i64 c.f3, .int .i64 c.f4, .int .i64 c.f5, .int .i64 c.f6, .int .i64 c.f7, .int .i64 c.f8, .int .i64 c.f9, .int .i64 c.f10, .int .i64 c.f11] 41)).cell? ⟨w.heap.size, 7, none⟩ = some (.int .i64 c.f7) := (blk_cell hx 7).trans rfl
  have k8 : (w.alloc (.cells #[.int .i64 c.f0, .int .i64 c.f1, .int .i64 c.f2, .int .i64 c.f3, .int .i64 c.f4, .int .i64 c.f5, .int .i64 c.f6, .int .i64 c.f7, .int .i64 c.f8, .int .i64 c.f9, .int .i64 c.f10, .int .i64 c.f11] 41)).cell? ⟨w.heap.size, 8, none⟩ = some (.int .i64 c.f8) := (blk_cell hx 8).trans rfl
  have k9 : (w.alloc (.cells #[.int .i64 c.f0, .int .i64 c.f1, .int .i64 c.f2, .int .i64 c.f3, .int .i64 c.f4, .int .i64 c.f5, .int .i64 c.f6, .int .i64 c.f7, .int .i64 c.f8, .int .i64 c.f9, .int .i64 c.f10, .int .i64 c.f11] 41)).cell? ⟨w.heap.size, 9, none⟩ = some (.int .i64 c.f9) := (blk_cell hx 9).trans rfl
  have k10 : (w.alloc (.cells #[.int .i64 c.f0, .int .i64 c.f1, .int .i64 c.f2, .int .i64 c.f3, .int .i64 c.f4, .int .i64 c.f5, .int .i64 c.f6, .int .i64 c.f7, .int .i64 c.f8, .int .i64 c.f9, .int .i64 c.f10, .int .i64 c.f11] 41)).cell? ⟨w.heap.size, 10, none⟩ = some (.int .i64 c.f10) := (blk_cell hx 10).trans rfl
  have k11 : (w.alloc (.cells #[.int .i64 c.f0, .int .i64 c.f1, .int .i64 c.f2, .int .i64 c.f3, .int .i64 c.f4, .int .i64 c.f5, .int .i64 c.f6, .int .i64 c.f7, .int .i64 c.f8, .int .i64 c.f9, .int .i64 c.f10, .int .i64 c.f11] 41)).cell? ⟨w.heap.size, 11, none⟩ = some (.int .i64 c.f11) := (blk_cell hx 11).trans rfl
  have HN := Aside0.mk (NextT_ (h.below (below_alloc (Below.refl _ _) (.cells #[.int .i64 c.f0, .int .i64 c.f1, .int .i64 c.f2, .int .i64 c.f3, .int .i64 c.f4, .int .i64 c.f5, .int .i64 c.f6, .int .i64 c.f7, .int .i64 c.f8, .int .i64 c.f9, .int .i64 c.f10, .int .i64 c.f11] 41))) hi hn c who a wt (lvC c) (paC c) (fun j _ => lvC_ok hk j) (fun j _ => paC_ok hk j) (v.x : Int) (v.y : Int) (v.z : Int) v.path _ rfl)
  have HE := Aside0.mk (next_no (x := (v.x : Int)) (y := (v.y : Int)) (z := (v.z : Int)) (hx := holdsT ls who v.x) (hy := holdsT ls who v.y) (hz := holdsT ls who v.z) (esc := c.f9) (st := stripesT ls who (lvC c) (paC c) (v.y : Int)) (w := wt))
  generalize nextT (v.x : Int) (v.y : Int) (v.z : Int) (holdsT ls who v.x) (holdsT ls who v.y) (holdsT ls who v.z) c.f9 (stripesT ls who (lvC c) (paC c) (v.y : Int)) wt = R at HN HE
  generalize ableM (holdsT ls who v.x) (holdsT ls who v.y) (holdsT ls who v.z) wt = ab at HE ⊢
  obtain ⟨⟨p, q⟩, ok⟩ := R
  clear h hi hn hx hk
  go_enter Try.func41, Try.ntmps41
  go_wp2_with fail
  refine HN.out.mono ?_
  rintro e w2 ⟨rfl, hb⟩
  have HB2 := Aside0.mk (below_alloc (below_then HBc.out (by simp) hb) (.cells #[.int .i64 p, .int .i64 q] 38))
  have HOk := Aside0.mk (show ok = !ab from HE.out)
  clear hb HN HE HBc k0 k1 k2 k3 k4 k5 k6 k7 k8 k9 k10 k11
  dsimp only
  go_wp2
  go_ret
  exact ⟨by rw [HOk.out, Bool.not_not]; rfl, HB2.out⟩
end Go.Proofs.Ytagdgkimjgomlaa.Ln
