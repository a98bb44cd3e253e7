/- PathThree: its plain law, its walk. -/
import Derived.Test.YtagdgkimjgomlaaPa5
import Derived.BigQuiet
namespace Go.Proofs.Ytagdgkimjgomlaa.Ln
open Go.RowKit Go.Proofs.YtagdgkimjgomlaaW.PrintWords Go.Proofs.YtagdgkimjgomlaaW.PrintLast Go.Proofs.YtagdgkimjgomlaaW.PrintMore Go.Proofs.Ytagdgkimjgomlaa.PMd
open Go.Maps
open Go.Sort (grow)
set_option linter.unusedVariables false
set_option linter.unusedSimpArgs false
theorem lenT_set7 (ls : List LS) (i : Nat) (x : LS) : lenT (ls.set i x) ≤ lenT ls + lenL x := by
  unfold lenT
  induction ls generalizing i with
  | nil => simp
  | cons y ls ih =>
    cases i with
    | zero => simp; omega
    | succ i => have := ih i; simp at this ⊢; omega
theorem getD_rep7 (n i : Nat) : (List.replicate n zL).getD i zL = zL := by
  rw [List.getD_eq_getElem?_getD, List.getElem?_replicate]
  split <;> rfl
theorem ask_grant7 {ls : List LS} {i : Nat} {m : Int} {hs qs hs' qs' : List E} (hi : i < ls.length) (hm : knownM m = true) (h0 : m ≠ 0) (hl : lenT ls < 100) (hg : ls.getD i zL = (hs, qs)) (ha : askIn hs qs 0 m = (1, hs', qs')) :
    askT ls 100 f0 0 (i : Int) m = (1, 0, ls.set i (hs', qs'), f0) := by
  unfold askT
  rw [if_neg (by omega), if_neg (by decide), if_neg (by rw [hm]; rintro (h | h | h); · omega
                                                        · cases h
                                                        · exact h0 h), if_neg (by rintro ⟨_, h⟩; omega), Int.toNat_natCast, hg, ha]
  rfl
def lnM (m : Int) : LS := if m = 0 then zL else ([⟨0, m⟩], [])
theorem inv_ln {m : Int} (h : md m) : Inv (lnM m).1 (lnM m).2 := by
  have e : m = 0 ∨ m = 1 ∨ m = 2 ∨ m = 3 ∨ m = 4 ∨ m = 5 := by omega
  rcases e with rfl | rfl | rfl | rfl | rfl | rfl
  · exact inv_nil
  · exact inv_ask inv_nil 0 1
  · exact inv_ask inv_nil 0 2
  · exact inv_ask inv_nil 0 3
  · exact inv_ask inv_nil 0 4
  · exact inv_ask inv_nil 0 5
theorem ln_len (m : Int) : (lnM m).1.length + (lnM m).2.length ≤ 1 ∧ lenL (lnM m) ≤ 1 := by
  unfold lnM
  split
  · exact ⟨by decide, by decide⟩
  · exact ⟨Nat.le_refl _, Nat.le_refl _⟩
theorem told_ln (m : Int) : toldIn (lnM m).1 0 = m := by
  unfold lnM
  split
  · rename_i h; rw [h]; rfl
  · simp [toldIn, ix, rd_T67]
theorem told_ln1 (m : Int) : toldIn (lnM m).1 1 = 0 := by
  unfold lnM
  split
  · rfl
  · simp [toldIn, ix]
def S3 (n x y z : Nat) (a b d : Int) : List LS := (((List.replicate n zL).set x (lnM a)).set y (lnM b)).set z (lnM d)
theorem s_len (n x y z : Nat) (a b d : Int) : (S3 n x y z a b d).length = n := by unfold S3; simp
theorem s_at {n x y z : Nat} (a b d : Int) (hxy : x < y) (hyz : y < z) (hz : z < n) (j : Nat) : (S3 n x y z a b d).getD j zL = if j = z then lnM d else if j = y then lnM b else if j = x then lnM a else zL := by
  unfold S3
  rw [askT_at (by simp; exact hz), askT_at (by simp; omega), askT_at (by simp; omega), getD_rep7]
theorem s_inv {n x y z : Nat} {a b d : Int} (hxy : x < y) (hyz : y < z) (hz : z < n) (ha : md a) (hb : md b) (hd : md d) : LInv (S3 n x y z a b d) := fun j _ => by
  rw [s_at a b d hxy hyz hz]
  repeat' split
  · exact inv_ln hd
  · exact inv_ln hb
  · exact inv_ln ha
  · exact inv_nil
theorem s_small {n x y z : Nat} (a b d : Int) (hxy : x < y) (hyz : y < z) (hz : z < n) (hn : n ≤ 10000) : Small (S3 n x y z a b d) :=
  small_of (n := 1) (by rw [s_len]; exact hn) (fun j _ => by
    rw [s_at a b d hxy hyz hz]
    repeat' split
    · exact (ln_len d).1
    · exact (ln_len b).1
    · exact (ln_len a).1
    · exact Nat.zero_le _) (by decide)
theorem s_locks (n x y z : Nat) (a b d : Int) : lenT (S3 n x y z a b d) ≤ 3 := by
  unfold S3
  have h0 : lenT (List.replicate n zL) = 0 := by
    unfold lenT
    rw [List.map_replicate, show lenL zL = 0 from rfl]
    simp
  have h1 := lenT_set7 (List.replicate n zL) x (lnM a)
  have h2 := lenT_set7 ((List.replicate n zL).set x (lnM a)) y (lnM b)
  have h3 := lenT_set7 (((List.replicate n zL).set x (lnM a)).set y (lnM b)) z (lnM d)
  have := (ln_len a).2
  have := (ln_len b).2
  have := (ln_len d).2
  omega
theorem s_holds {n x y z : Nat} {a b d : Int} (hxy : x < y) (hyz : y < z) (hz : z < n) : holdsT (S3 n x y z a b d) 0 (x : Int) = a ∧ holdsT (S3 n x y z a b d) 0 (y : Int) = b ∧ holdsT (S3 n x y z a b d) 0 (z : Int) = d := by
  have key : ∀ j : Nat, j < n → holdsT (S3 n x y z a b d) 0 (j : Int) = toldIn ((S3 n x y z a b d).getD j zL).1 0 := fun j hj => by
    unfold holdsT
    rw [if_pos ⟨by omega, by rw [s_len]; omega⟩, Int.toNat_natCast]
  refine ⟨?_, ?_, ?_⟩
  · rw [key x (by omega), s_at a b d hxy hyz hz, if_neg (by omega), if_neg (by omega), if_pos rfl, told_ln]
  · rw [key y (by omega), s_at a b d hxy hyz hz, if_neg (by omega), if_pos rfl, told_ln]
  · rw [key z (by omega), s_at a b d hxy hyz hz, if_pos rfl, told_ln]
def mA : Nat → Int | 0 => 0 | 1 => 1 | 2 => 1 | 3 => 1 | _ => 2
def mB : Nat → Int | 0 => 0 | 1 => 0 | 2 => 1 | 3 => 1 | 4 => 1 | _ => 2
def mD : Nat → Int | 0 => 0 | 1 => 0 | 2 => 0 | 3 => 3 | 4 => 3 | 5 => 3 | _ => 5
def ndI (x y z : Nat) : Nat → Nat | 0 => x | 1 => y | 2 => z | 3 => x | 4 => y | _ => z
def moI : Nat → Int | 0 => 1 | 1 => 1 | 2 => 3 | 3 => 2 | 4 => 2 | _ => 5
def SI (n x y z i : Nat) : List LS := S3 n x y z (mA i) (mB i) (mD i)
theorem m_md (i : Nat) : md (mA i) ∧ md (mB i) ∧ md (mD i) := by
  match i with
  | 0 | 1 | 2 | 3 | 4 | 5 => decide
  | k + 6 => exact ⟨by show md 2; decide, by show md 2; decide, by show md 5; decide⟩
theorem six {P : Nat → Prop} {i : Nat} (hi : i < 6) (h0 : P 0) (h1 : P 1) (h2 : P 2) (h3 : P 3) (h4 : P 4) (h5 : P 5) : P i := by
  match i, hi with
  | 0, _ => exact h0
  | 1, _ => exact h1
  | 2, _ => exact h2
  | 3, _ => exact h3
  | 4, _ => exact h4
  | 5, _ => exact h5
section
variable {n x y z : Nat}
theorem set_x {a b d a' : Int} (hxy : x < y) (hyz : y < z) : (S3 n x y z a b d).set x (lnM a') = S3 n x y z a' b d := by
  unfold S3
  rw [List.set_comm _ _ (show z ≠ x by omega), List.set_comm _ _ (show y ≠ x by omega), List.set_set]
theorem set_y {a b d b' : Int} (hyz : y < z) : (S3 n x y z a b d).set y (lnM b') = S3 n x y z a b' d := by
  unfold S3
  rw [List.set_comm _ _ (show z ≠ y by omega), List.set_set]
theorem set_z {a b d d' : Int} : (S3 n x y z a b d).set z (lnM d') = S3 n x y z a b d' := by
  unfold S3
  rw [List.set_set]
theorem ax {a b d a' m : Int} (hxy : x < y) (hyz : y < z) (hz : z < n) (hm : knownM m = true) (h0 : m ≠ 0) (he : askIn (lnM a).1 (lnM a).2 0 m = (1, (lnM a').1, (lnM a').2)) : askT (S3 n x y z a b d) 100 f0 0 (x : Int) m = (1, 0, S3 n x y z a' b d, f0) := by
  rw [ask_grant7 (by rw [s_len]; omega) hm h0 (by have := s_locks n x y z a b d; omega) (by rw [s_at a b d hxy hyz hz, if_neg (by omega), if_neg (by omega), if_pos rfl]) he]
  rw [show ((lnM a').1, (lnM a').2) = lnM a' from rfl, set_x hxy hyz]
theorem ay {a b d b' m : Int} (hxy : x < y) (hyz : y < z) (hz : z < n) (hm : knownM m = true) (h0 : m ≠ 0) (he : askIn (lnM b).1 (lnM b).2 0 m = (1, (lnM b').1, (lnM b').2)) : askT (S3 n x y z a b d) 100 f0 0 (y : Int) m = (1, 0, S3 n x y z a b' d, f0) := by
  rw [ask_grant7 (by rw [s_len]; omega) hm h0 (by have := s_locks n x y z a b d; omega) (by rw [s_at a b d hxy hyz hz, if_neg (by omega), if_pos rfl]) he]
  rw [show ((lnM b').1, (lnM b').2) = lnM b' from rfl, set_y hyz]
theorem az {a b d d' m : Int} (hxy : x < y) (hyz : y < z) (hz : z < n) (hm : knownM m = true) (h0 : m ≠ 0) (he : askIn (lnM d).1 (lnM d).2 0 m = (1, (lnM d').1, (lnM d').2)) : askT (S3 n x y z a b d) 100 f0 0 (z : Int) m = (1, 0, S3 n x y z a b d', f0) := by
  rw [ask_grant7 (by rw [s_len]; omega) hm h0 (by have := s_locks n x y z a b d; omega) (by rw [s_at a b d hxy hyz hz, if_pos rfl]) he]
  rw [show ((lnM d').1, (lnM d').2) = lnM d' from rfl, set_z]
theorem step_ask (hxy : x < y) (hyz : y < z) (hz : z < n) {i : Nat} (hi : i < 6) : askT (SI n x y z i) 100 f0 0 (ndI x y z i : Nat) (moI i) = (1, 0, SI n x y z (i + 1), f0) := by
  refine six (P := fun i => askT (SI n x y z i) 100 f0 0 (ndI x y z i : Nat) (moI i) = (1, 0, SI n x y z (i + 1), f0)) hi ?_ ?_ ?_ ?_ ?_ ?_
  · exact ax hxy hyz hz (by decide +kernel) (by decide) (by kernel_rfl)
  · exact ay hxy hyz hz (by decide +kernel) (by decide) (by kernel_rfl)
  · exact az hxy hyz hz (by decide +kernel) (by decide) (by kernel_rfl)
  · exact ax hxy hyz hz (by decide +kernel) (by decide) (by kernel_rfl)
  · exact ay hxy hyz hz (by decide +kernel) (by decide) (by kernel_rfl)
  · exact az hxy hyz hz (by decide +kernel) (by decide) (by kernel_rfl)
theorem step_next (hxy : x < y) (hyz : y < z) (hz : z < n) (st : Nat) {i : Nat} (hi : i < 6) :
    nextT (x : Int) (y : Int) (z : Int) (holdsT (SI n x y z i) 0 (x : Int)) (holdsT (SI n x y z i) 0 (y : Int)) (holdsT (SI n x y z i) 0 (z : Int)) 0 st (decide (3 ≤ i)) = (⟨(ndI x y z i : Nat), moI i⟩, true) := by
  unfold SI
  obtain ⟨e1, e2, e3⟩ := s_holds (a := mA i) (b := mB i) (d := mD i) hxy hyz hz
  rw [e1, e2, e3]
  exact six (P := fun i => nextT (x : Int) (y : Int) (z : Int) (mA i) (mB i) (mD i) 0 st (decide (3 ≤ i)) = (⟨(ndI x y z i : Nat), moI i⟩, true)) hi (by kernel_rfl) (by kernel_rfl) (by kernel_rfl) (by kernel_rfl) (by kernel_rfl) (by kernel_rfl)
theorem step_more (hxy : x < y) (hyz : y < z) (hz : z < n) (st : Nat) {i : Nat} (hi : i = 2 ∨ i = 5) :
    nextT (x : Int) (y : Int) (z : Int) (holdsT (SI n x y z (i + 1)) 0 (x : Int)) (holdsT (SI n x y z (i + 1)) 0 (y : Int)) (holdsT (SI n x y z (i + 1)) 0 (z : Int)) 0 st (decide (3 ≤ i)) = (⟨0, 0⟩, false) := by
  unfold SI
  obtain ⟨e1, e2, e3⟩ := s_holds (a := mA (i + 1)) (b := mB (i + 1)) (d := mD (i + 1)) hxy hyz hz
  rw [e1, e2, e3]
  rcases hi with rfl | rfl <;> kernel_rfl
theorem step_last (hxy : x < y) (hyz : y < z) (hz : z < n) (st : Nat) :
    nextT (x : Int) (y : Int) (z : Int) (holdsT (SI n x y z 6) 0 (x : Int)) (holdsT (SI n x y z 6) 0 (y : Int)) (holdsT (SI n x y z 6) 0 (z : Int)) 0 st false = (⟨0, 0⟩, false) := by
  unfold SI
  obtain ⟨e1, e2, e3⟩ := s_holds (a := mA 6) (b := mB 6) (d := mD 6) hxy hyz hz
  rw [e1, e2, e3]
  kernel_rfl
end
theorem count_step (ls : List LS) (who : Int) (p : L → Bool) (i : Nat) : (heldUp ls who (i + 1)).countP p = (heldUp ls who i).countP p + if toldIn (ls.getD i zL).1 who = 0 then 0 else if p ⟨i, toldIn (ls.getD i zL).1 who⟩ = true then 1 else 0 := by
  conv => lhs; unfold heldUp
  rw [List.countP_append]
  congr 1
  split
  · rfl
  · simp [List.countP_cons]
theorem count_one {ls : List LS} {who : Int} {p : L → Bool} {z : Nat} (h1 : toldIn (ls.getD z zL).1 who ≠ 0 ∧ p ⟨z, toldIn (ls.getD z zL).1 who⟩ = true) (h2 : ∀ j, j ≠ z → toldIn (ls.getD j zL).1 who = 0 ∨ p ⟨(j : Nat), toldIn (ls.getD j zL).1 who⟩ = false) :
    ∀ i, (heldUp ls who i).countP p = if z < i then 1 else 0 := by
  intro i
  induction i with
  | zero => simp [heldUp]
  | succ i ih =>
    rw [count_step, ih]
    by_cases e : i = z
    · subst e
      rw [if_neg h1.1, if_pos h1.2, if_neg (by omega), if_pos (by omega)]
    · have h3 : (if toldIn (ls.getD i zL).1 who = 0 then 0 else if p ⟨i, toldIn (ls.getD i zL).1 who⟩ = true then 1 else 0) = 0 := by
        split
        · rfl
        · rename_i h
          rcases h2 i e with h4 | h4
          · exact absurd h4 h
          · rw [h4]; rfl
      rw [h3]
      by_cases e2 : z < i
      · rw [if_pos e2, if_pos (by omega)]
      · rw [if_neg e2, if_neg (by omega)]
theorem count_none {ls : List LS} {who : Int} {p : L → Bool} (h : ∀ j, toldIn (ls.getD j zL).1 who = 0) : ∀ i, (heldUp ls who i).countP p = 0 := by
  intro i
  induction i with
  | zero => rfl
  | succ i ih => rw [count_step, ih, if_pos (h i)]
theorem str_one {n x y z : Nat} (hxy : x < y) (hyz : y < z) (hz : z < n) {lv pa : Int → Int} (h1 : lv x ≠ 2) (h2 : lv y ≠ 2) (h3 : lv z = 2) (h4 : pa z = y) : stripesT (SI n x y z 6) 0 lv pa (y : Int) = 1 := by
  unfold stripesT heldT SI
  rw [s_len, count_one (z := z), if_pos hz]
  · rw [s_at _ _ _ hxy hyz hz, if_pos rfl, told_ln]
    exact ⟨by decide, by unfold isStr; simp [h3, h4]⟩
  · intro j hj
    rw [s_at _ _ _ hxy hyz hz, if_neg hj]
    by_cases e1 : j = y
    · subst e1; right; unfold isStr; simp [h2]
    · rw [if_neg e1]
      by_cases e2 : j = x
      · subst e2; right; unfold isStr; simp [h1]
      · rw [if_neg e2]; exact .inl rfl
theorem str_none {n x y z : Nat} (hxy : x < y) (hyz : y < z) (hz : z < n) (lv pa : Int → Int) : stripesT (SI n x y z 6) 1 lv pa (y : Int) = 0 := by
  unfold stripesT heldT SI
  refine count_none (fun j => ?_) _
  rw [s_at _ _ _ hxy hyz hz]
  repeat' split
  · exact told_ln1 _
  · exact told_ln1 _
  · exact told_ln1 _
  · rfl
theorem si_zero (n x y z : Nat) : SI n x y z 0 = List.replicate n zL := by
  have e : lnM 0 = zL := rfl
  show (((List.replicate n zL).set x (lnM 0)).set y (lnM 0)).set z (lnM 0) = _
  rw [e, List.set_replicate_self, List.set_replicate_self, List.set_replicate_self]
def WL (x y z : Nat) : List L := [⟨x, 1⟩, ⟨y, 1⟩, ⟨z, 3⟩, ⟨x, 2⟩, ⟨y, 2⟩, ⟨z, 5⟩]
theorem wl_at (x y z : Nat) {i : Nat} (hi : i < 6) : (WL x y z).getD i z38 = ⟨(ndI x y z i : Nat), moI i⟩ :=
  six (P := fun i => (WL x y z).getD i z38 = ⟨(ndI x y z i : Nat), moI i⟩) hi rfl rfl rfl rfl rfl rfl
theorem path_ex {c : Cf} {r o s n : Nat} (h : Okc c) (d : Dim c r o s n) {a : Int} (h0 : 0 ≤ a) (h1 : a < n) : ∃ S O Q : Nat, Int.tdiv (S : Int) c.f2 = O ∧ Q < r ∧ O < o ∧ S < s ∧ shape_Path.f c.f0 c.f1 c.f2 c.f3 c.f4 c.f5 c.f6 c.f7 c.f8 c.f9 c.f10 c.f11 a = some ((Q : Int), ((r + O : Nat) : Int), ((r + o + S : Nat) : Int), 0) := by
  have b1 := h.b1
  have b2 := h.b2
  have b3 := h.b3
  have br := d.br
  have bo := d.bo
  have bs := d.bs
  have bn := d.bn
  have e1 : Int.tdiv a c.f3 = a / c.f3 := Int.tdiv_eq_ediv_of_nonneg h0
  have s0 : 0 ≤ a / c.f3 := Int.ediv_nonneg h0 (by omega)
  have s1 : a / c.f3 < s := by
    refine Int.ediv_lt_of_lt_mul (by omega) ?_
    rw [← d.hs, d.hn]; exact h1
  have e2 : Int.tdiv (a / c.f3) c.f2 = a / c.f3 / c.f2 := Int.tdiv_eq_ediv_of_nonneg s0
  have o0 : 0 ≤ a / c.f3 / c.f2 := Int.ediv_nonneg s0 (by omega)
  have o1 : a / c.f3 / c.f2 < o := by
    refine Int.ediv_lt_of_lt_mul (by omega) ?_
    rw [← d.ho, d.hs]; exact s1
  have e3 : Int.tdiv (a / c.f3 / c.f2) c.f1 = a / c.f3 / c.f2 / c.f1 := Int.tdiv_eq_ediv_of_nonneg o0
  have r0 : 0 ≤ a / c.f3 / c.f2 / c.f1 := Int.ediv_nonneg o0 (by omega)
  have r1 : a / c.f3 / c.f2 / c.f1 < r := by
    refine Int.ediv_lt_of_lt_mul (by omega) ?_
    rw [← d.hr, d.ho]; exact o1
  generalize hS : a / c.f3 = S at *
  generalize hO : S / c.f2 = O at *
  generalize hR : O / c.f1 = Q at *
  refine ⟨S.toNat, O.toNat, Q.toNat, by rw [Int.toNat_of_nonneg s0, Int.toNat_of_nonneg o0]; exact e2, by omega, by omega, by omega, ?_⟩
  unfold shape_Path.f
  rw [words_ok h d, counts_ok h d, if_neg (by omega)]
  simp only [Option.bind_some]
  rw [if_neg (by omega), if_neg (by omega), if_neg (by omega), if_neg (by omega), e1, wrap_id (x := S) (by omega), e2, wrap_id (x := O) (by omega), e3, wrap_id (x := Q) (by omega), wrap_id (x := (r : Int) + O) (by omega), wrap_id (x := (r : Int) + (o : Int)) (by omega), wrap_id (x := (r : Int) + (o : Int) + S) (by omega)]
  congr 2 <;> first | omega | (congr 1 <;> first | omega | (congr 1; omega))
theorem lev_ok {c : Cf} {r o s n : Nat} (h : Okc c) (d : Dim c r o s n) {j : Nat} (hj : j < r + o + s) : shape_Level.f 20 c.f0 c.f1 c.f2 c.f3 c.f4 c.f5 c.f6 c.f7 c.f8 c.f9 c.f10 c.f11 (j : Int) = some (if j < r then 0 else if j < r + o then 1 else 2) := by
  have br := d.br
  have bo := d.bo
  have bs := d.bs
  have W2 := counts_ok h d
  clear h d
  unfold shape_Level.f
  have w1 : wrap64 ((r : Int) + (o : Int)) = (r : Int) + (o : Int) := wrap_id (by omega)
  have w2 : wrap64 ((r : Int) + (o : Int) + (s : Int)) = (r : Int) + (o : Int) + (s : Int) := wrap_id (by omega)
  rw [W2, Option.bind_some]
  dsimp only
  rw [if_neg (by omega)]
  show (if decide ((j : Int) ≥ wrap64 (wrap64 ((r : Int) + (o : Int)) + (s : Int))) = true then some (-1) else if (j : Int) < (r : Int) then some 0 else if (j : Int) < wrap64 ((r : Int) + (o : Int)) then some 1 else some 2) = some (if j < r then (0 : Int) else if j < r + o then 1 else 2)
  rw [w1, w2, decide_eq_false (by omega), if_neg (by decide)]
  by_cases c1 : j < r
  · rw [if_pos (by omega), if_pos c1]
  · rw [if_neg (by omega), if_neg c1]
    by_cases c2 : j < r + o
    · rw [if_pos (by omega), if_pos c2]
    · rw [if_neg (by omega), if_neg c2]
theorem par_ok {c : Cf} {r o s n : Nat} (h : Okc c) (d : Dim c r o s n) {S O : Nat} (hS : S < s) (hO : O < o) (e : Int.tdiv (S : Int) c.f2 = O) : shape_Parent.f 20 c.f0 c.f1 c.f2 c.f3 c.f4 c.f5 c.f6 c.f7 c.f8 c.f9 c.f10 c.f11 ((r + o + S : Nat) : Int) = some ((r + O : Nat) : Int) := by
  have E := Aside0.mk e
  clear e
  have br := d.br
  have bo := d.bo
  have bs := d.bs
  have b1 := h.b1
  have b2 := h.b2
  have W2 := counts_ok h d
  have hl := lev_ok h d (j := r + o + S) (by omega)
  rw [if_neg (by omega), if_neg (by omega)] at hl
  clear h d
  have w1 : wrap64 (((r + o + S : Nat) : Int) - (r : Int)) = (o : Int) + (S : Int) := by rw [wrap_id (by omega)]; omega
  have w2 : wrap64 ((o : Int) + (S : Int) - (o : Int)) = (S : Int) := by rw [wrap_id (by omega)]; omega
  have w3 : wrap64 (O : Int) = (O : Int) := wrap_id (by omega)
  have w4 : wrap64 ((r : Int) + (O : Int)) = ((r + O : Nat) : Int) := by rw [wrap_id (by omega)]; omega
  unfold shape_Parent.f
  rw [W2, Option.bind_some, hl, Option.bind_some]
  dsimp only
  rw [if_neg (by decide), if_pos rfl, if_neg (by omega), w1, w2, E.out, w3, w4]
/-- Where a word lies, and the levels there. -/
theorem path_lv {c : Cf} {r o s n : Nat} (h : Okc c) (d : Dim c r o s n) {a : Int} (h0 : 0 ≤ a) (h1 : a < n) : ∃ x y z : Nat, x < y ∧ y < z ∧ z < r + o + s ∧ shape_Path.f c.f0 c.f1 c.f2 c.f3 c.f4 c.f5 c.f6 c.f7 c.f8 c.f9 c.f10 c.f11 a = some ((x : Int), (y : Int), (z : Int), 0) ∧ lvC c x ≠ 2 ∧ lvC c y ≠ 2 ∧ lvC c z = 2 ∧ paC c z = y := by
  obtain ⟨S, O, Q, e, hQ, hO, hS, hp⟩ := path_ex h d h0 h1
  have E := Aside0.mk e
  have HP := Aside0.mk hp
  clear e hp
  refine ⟨Q, r + O, r + o + S, by omega, by omega, by omega, HP.out, ?_, ?_, ?_, ?_⟩
  · unfold lvC; rw [lev_ok h d (by omega), if_pos (by omega)]; decide
  · unfold lvC; rw [lev_ok h d (by omega), if_neg (by omega), if_pos (by omega)]; decide
  · unfold lvC; rw [lev_ok h d (by omega), if_neg (by omega), if_neg (by omega)]; rfl
  · unfold paC; rw [par_ok h d hS hO E.out]; rfl
set_option maxHeartbeats 8000000 in
set_option maxRecDepth 100000 in
theorem three_bad (c : Cf) (h9 : c.f9 = 0) (e9 : Int) (a : Int) (w : World) (h : ¬ Okc c ∨ a < 0 ∨ ∃ r o s n, Dim c r o s n ∧ (n : Int) ≤ a) :
    Calls Try.prog 4 #[.agg #[.int .i64 c.f0, .int .i64 c.f1, .int .i64 c.f2, .int .i64 c.f3, .int .i64 c.f4, .int .i64 c.f5, .int .i64 c.f6, .int .i64 c.f7, .int .i64 c.f8, .int .i64 e9, .int .i64 c.f10, .int .i64 c.f11], .int .i64 a] w fun e w' => e = .returned (.bool true) ∧ Below w.heap.size w w' := by
  obtain ⟨ck, hck, hci⟩ := chk_f c
  have HCk := Aside0.mk (fun W => ltkref1_Check.calls 20 c.f0 c.f1 c.f2 c.f3 c.f4 c.f5 c.f6 c.f7 c.f8 c.f9 c.f10 c.f11 _ W hck)
  simp only [h9] at HCk
  have hu41 := Try.underlying41
  have hu38 := Try.underlying38
  have HB1 := Aside0.mk (below_alloc (Below.refl w.heap.size w) (.cells #[.int .i64 c.f0, .int .i64 c.f1, .int .i64 c.f2, .int .i64 c.f3, .int .i64 c.f4, .int .i64 c.f5, .int .i64 c.f6, .int .i64 c.f7, .int .i64 c.f8, .int .i64 e9, .int .i64 c.f10, .int .i64 c.f11] 41))
  have hx := blk_new w (.cells #[.int .i64 c.f0, .int .i64 c.f1, .int .i64 c.f2, .int .i64 c.f3, .int .i64 c.f4, .int .i64 c.f5, .int .i64 c.f6, .int .i64 c.f7, .int .i64 c.f8, .int .i64 e9, .int .i64 c.f10, .int .i64 c.f11] 41)
  obtain ⟨w1, hw1⟩ : ∃ W, w.alloc (.cells #[.int .i64 c.f0, .int .i64 c.f1, .int .i64 c.f2, .int .i64 c.f3, .int .i64 c.f4, .int .i64 c.f5, .int .i64 c.f6, .int .i64 c.f7, .int .i64 c.f8, .int .i64 e9, .int .i64 c.f10, .int .i64 c.f11] 41) = W := ⟨_, rfl⟩
  have HW1 := Aside0.mk hw1
  rw [hw1] at HB1 hx
  have S1 := Aside0.mk (show w1.heap.size = w.heap.size + 1 by rw [← hw1]; simp)
  have HX1 := Aside0.mk hx
  clear hx hw1
  by_cases hk : Okc c
  · obtain rfl := hci.2 hk
    by_cases h0 : a < 0
    · have g1 : decide (a < 0) = true := decide_eq_true h0
      clear h h0 hck hci hk h9
      go_enter Try.func4, Try.ntmps4
      go_wp2_with fail
      simp only [HW1.out]
      refine (firstP_ w1).mono ?_
      rintro e w2 ⟨rfl, hb⟩
      have hx2 := (hb.block w.heap.size (by rw [S1.out]; omega)).trans HX1.out
      have HX2 := Aside0.mk hx2
      have HB2 := Aside0.mk (below_then HB1.out (by rw [S1.out]; omega) hb)
      have S2 := Aside0.mk (show w.heap.size < w2.heap.size from (Array.getElem?_eq_some_iff.1 hx2).1)
      obtain ⟨w3, hw3⟩ : ∃ W, w2.setCell ⟨w.heap.size, 9, none⟩ (.int .i64 0) = W := ⟨_, rfl⟩
      have HW3 := Aside0.mk hw3
      have S3s := Aside0.mk (show w.heap.size < w3.heap.size by rw [← hw3]; simpa using S2.out)
      have HX3 := Aside0.mk (show w3.heap[w.heap.size]? = some (.cells #[.int .i64 c.f0, .int .i64 c.f1, .int .i64 c.f2, .int .i64 c.f3, .int .i64 c.f4, .int .i64 c.f5, .int .i64 c.f6, .int .i64 c.f7, .int .i64 c.f8, .int .i64 0, .int .i64 c.f10, .int .i64 c.f11] 41 (0, 0)) by rw [← hw3]; exact heap_setCell_same w2 w.heap.size 9 _ _ (.int .i64 0) HX2.out)
      have HB3 := Aside0.mk (show Below w.heap.size w w3 by rw [← hw3]; exact HB2.out.setCell (p := ⟨w.heap.size, 9, none⟩) (Nat.le_refl _) _)
      have X := Aside0.mk (fun W (hb : Below w3.heap.size w3 W) => (show W.cell? ⟨w.heap.size, 0, none⟩ = some (.int .i64 c.f0) ∧ W.cell? ⟨w.heap.size, 1, none⟩ = some (.int .i64 c.f1) ∧ W.cell? ⟨w.heap.size, 2, none⟩ = some (.int .i64 c.f2) ∧ W.cell? ⟨w.heap.size, 3, none⟩ = some (.int .i64 c.f3) ∧ W.cell? ⟨w.heap.size, 4, none⟩ = some (.int .i64 c.f4) ∧ W.cell? ⟨w.heap.size, 5, none⟩ = some (.int .i64 c.f5) ∧ W.cell? ⟨w.heap.size, 6, none⟩ = some (.int .i64 c.f6) ∧ W.cell? ⟨w.heap.size, 7, none⟩ = some (.int .i64 c.f7) ∧ W.cell? ⟨w.heap.size, 8, none⟩ = some (.int .i64 c.f8) ∧ W.cell? ⟨w.heap.size, 9, none⟩ = some (.int .i64 0) ∧ W.cell? ⟨w.heap.size, 10, none⟩ = some (.int .i64 c.f10) ∧ W.cell? ⟨w.heap.size, 11, none⟩ = some (.int .i64 c.f11) from ⟨(hb.cell (p := ⟨w.heap.size, 0, none⟩) S3s.out).trans ((blk_cell HX3.out 0).trans rfl), (hb.cell (p := ⟨w.heap.size, 1, none⟩) S3s.out).trans ((blk_cell HX3.out 1).trans rfl), (hb.cell (p := ⟨w.heap.size, 2, none⟩) S3s.out).trans ((blk_cell HX3.out 2).trans rfl), (hb.cell (p := ⟨w.heap.size, 3, none⟩) S3s.out).trans ((blk_cell HX3.out 3).trans rfl), (hb.cell (p := ⟨w.heap.size, 4, none⟩) S3s.out).trans ((blk_cell HX3.out 4).trans rfl), (hb.cell (p := ⟨w.heap.size, 5, none⟩) S3s.out).trans ((blk_cell HX3.out 5).trans rfl), (hb.cell (p := ⟨w.heap.size, 6, none⟩) S3s.out).trans ((blk_cell HX3.out 6).trans rfl), (hb.cell (p := ⟨w.heap.size, 7, none⟩) S3s.out).trans ((blk_cell HX3.out 7).trans rfl), (hb.cell (p := ⟨w.heap.size, 8, none⟩) S3s.out).trans ((blk_cell HX3.out 8).trans rfl), (hb.cell (p := ⟨w.heap.size, 9, none⟩) S3s.out).trans ((blk_cell HX3.out 9).trans rfl), (hb.cell (p := ⟨w.heap.size, 10, none⟩) S3s.out).trans ((blk_cell HX3.out 10).trans rfl), (hb.cell (p := ⟨w.heap.size, 11, none⟩) S3s.out).trans ((blk_cell HX3.out 11).trans rfl)⟩))
      have c9 : w2.cell? ⟨w.heap.size, 9, none⟩ = some (.int .i64 e9) := (blk_cell hx2 9).trans rfl
      have f9' := frozen_of_row w2 w.heap.size 9 _ _ hx2
      have k0 : w2.cell? ⟨w.heap.size, 0, none⟩ = some (.int .i64 c.f0) := (blk_cell hx2 0).trans rfl
      have k1 : w2.cell? ⟨w.heap.size, 1, none⟩ = some (.int .i64 c.f1) := (blk_cell hx2 1).trans rfl
      have k2 : w2.cell? ⟨w.heap.size, 2, none⟩ = some (.int .i64 c.f2) := (blk_cell hx2 2).trans rfl
      have k3 : w2.cell? ⟨w.heap.size, 3, none⟩ = some (.int .i64 c.f3) := (blk_cell hx2 3).trans rfl
      have k4 : w2.cell? ⟨w.heap.size, 4, none⟩ = some (.int .i64 c.f4) := (blk_cell hx2 4).trans rfl
      have k5 : w2.cell? ⟨w.heap.size, 5, none⟩ = some (.int .i64 c.f5) := (blk_cell hx2 5).trans rfl
      have k6 : w2.cell? ⟨w.heap.size, 6, none⟩ = some (.int .i64 c.f6) := (blk_cell hx2 6).trans rfl
      have k7 : w2.cell? ⟨w.heap.size, 7, none⟩ = some (.int .i64 c.f7) := (blk_cell hx2 7).trans rfl
      have k8 : w2.cell? ⟨w.heap.size, 8, none⟩ = some (.int .i64 c.f8) := (blk_cell hx2 8).trans rfl
      have k10 : w2.cell? ⟨w.heap.size, 10, none⟩ = some (.int .i64 c.f10) := (blk_cell hx2 10).trans rfl
      have k11 : w2.cell? ⟨w.heap.size, 11, none⟩ = some (.int .i64 c.f11) := (blk_cell hx2 11).trans rfl
      clear hb hx2 hw3
      go_wp2_with fail
      simp only [HW3.out]
      refine (HCk.out w3).mono ?_
      rintro e w4 ⟨rfl, hb⟩
      have HB4 := Aside0.mk hb
      clear hb c9 f9' k0 k1 k2 k3 k4 k5 k6 k7 k8 k10 k11
      go_wp2_with fail
      refine (firstP_ w4).mono ?_
      rintro e w9 ⟨rfl, hb⟩
      have HB9 := Aside0.mk (below_then HB3.out (Nat.le_of_lt S3s.out) (below_then HB4.out HB4.out.size hb))
      clear hb
      go_wp2
      go_ret
      exact ⟨rfl, HB9.out⟩
    · have g1 : decide (a < 0) = false := decide_eq_false h0
      obtain ⟨r, o, s, n, d, hn⟩ : ∃ r o s n, Dim c r o s n ∧ (n : Int) ≤ a := by
        rcases h with h | h | h
        · exact absurd hk h
        · exact absurd h h0
        · exact h
      have g2 : decide (a ≥ (n : Int)) = true := decide_eq_true hn
      have HWd := Aside0.mk (fun W => ltkref1_Words.calls 20 c.f0 c.f1 c.f2 c.f3 c.f4 c.f5 c.f6 c.f7 c.f8 c.f9 c.f10 c.f11 _ W (words_ref hk d))
      simp only [h9] at HWd
      clear h h0 hck hci hk d hn h9
      go_enter Try.func4, Try.ntmps4
      go_wp2_with fail
      simp only [HW1.out]
      refine (firstP_ w1).mono ?_
      rintro e w2 ⟨rfl, hb⟩
      have hx2 := (hb.block w.heap.size (by rw [S1.out]; omega)).trans HX1.out
      have HX2 := Aside0.mk hx2
      have HB2 := Aside0.mk (below_then HB1.out (by rw [S1.out]; omega) hb)
      have S2 := Aside0.mk (show w.heap.size < w2.heap.size from (Array.getElem?_eq_some_iff.1 hx2).1)
      obtain ⟨w3, hw3⟩ : ∃ W, w2.setCell ⟨w.heap.size, 9, none⟩ (.int .i64 0) = W := ⟨_, rfl⟩
      have HW3 := Aside0.mk hw3
      have S3s := Aside0.mk (show w.heap.size < w3.heap.size by rw [← hw3]; simpa using S2.out)
      have HX3 := Aside0.mk (show w3.heap[w.heap.size]? = some (.cells #[.int .i64 c.f0, .int .i64 c.f1, .int .i64 c.f2, .int .i64 c.f3, .int .i64 c.f4, .int .i64 c.f5, .int .i64 c.f6, .int .i64 c.f7, .int .i64 c.f8, .int .i64 0, .int .i64 c.f10, .int .i64 c.f11] 41 (0, 0)) by rw [← hw3]; exact heap_setCell_same w2 w.heap.size 9 _ _ (.int .i64 0) HX2.out)
      have HB3 := Aside0.mk (show Below w.heap.size w w3 by rw [← hw3]; exact HB2.out.setCell (p := ⟨w.heap.size, 9, none⟩) (Nat.le_refl _) _)
      have X := Aside0.mk (fun W (hb : Below w3.heap.size w3 W) => (show W.cell? ⟨w.heap.size, 0, none⟩ = some (.int .i64 c.f0) ∧ W.cell? ⟨w.heap.size, 1, none⟩ = some (.int .i64 c.f1) ∧ W.cell? ⟨w.heap.size, 2, none⟩ = some (.int .i64 c.f2) ∧ W.cell? ⟨w.heap.size, 3, none⟩ = some (.int .i64 c.f3) ∧ W.cell? ⟨w.heap.size, 4, none⟩ = some (.int .i64 c.f4) ∧ W.cell? ⟨w.heap.size, 5, none⟩ = some (.int .i64 c.f5) ∧ W.cell? ⟨w.heap.size, 6, none⟩ = some (.int .i64 c.f6) ∧ W.cell? ⟨w.heap.size, 7, none⟩ = some (.int .i64 c.f7) ∧ W.cell? ⟨w.heap.size, 8, none⟩ = some (.int .i64 c.f8) ∧ W.cell? ⟨w.heap.size, 9, none⟩ = some (.int .i64 0) ∧ W.cell? ⟨w.heap.size, 10, none⟩ = some (.int .i64 c.f10) ∧ W.cell? ⟨w.heap.size, 11, none⟩ = some (.int .i64 c.f11) from ⟨(hb.cell (p := ⟨w.heap.size, 0, none⟩) S3s.out).trans ((blk_cell HX3.out 0).trans rfl), (hb.cell (p := ⟨w.heap.size, 1, none⟩) S3s.out).trans ((blk_cell HX3.out 1).trans rfl), (hb.cell (p := ⟨w.heap.size, 2, none⟩) S3s.out).trans ((blk_cell HX3.out 2).trans rfl), (hb.cell (p := ⟨w.heap.size, 3, none⟩) S3s.out).trans ((blk_cell HX3.out 3).trans rfl), (hb.cell (p := ⟨w.heap.size, 4, none⟩) S3s.out).trans ((blk_cell HX3.out 4).trans rfl), (hb.cell (p := ⟨w.heap.size, 5, none⟩) S3s.out).trans ((blk_cell HX3.out 5).trans rfl), (hb.cell (p := ⟨w.heap.size, 6, none⟩) S3s.out).trans ((blk_cell HX3.out 6).trans rfl), (hb.cell (p := ⟨w.heap.size, 7, none⟩) S3s.out).trans ((blk_cell HX3.out 7).trans rfl), (hb.cell (p := ⟨w.heap.size, 8, none⟩) S3s.out).trans ((blk_cell HX3.out 8).trans rfl), (hb.cell (p := ⟨w.heap.size, 9, none⟩) S3s.out).trans ((blk_cell HX3.out 9).trans rfl), (hb.cell (p := ⟨w.heap.size, 10, none⟩) S3s.out).trans ((blk_cell HX3.out 10).trans rfl), (hb.cell (p := ⟨w.heap.size, 11, none⟩) S3s.out).trans ((blk_cell HX3.out 11).trans rfl)⟩))
      have c9 : w2.cell? ⟨w.heap.size, 9, none⟩ = some (.int .i64 e9) := (blk_cell hx2 9).trans rfl
      have f9' := frozen_of_row w2 w.heap.size 9 _ _ hx2
      have k0 : w2.cell? ⟨w.heap.size, 0, none⟩ = some (.int .i64 c.f0) := (blk_cell hx2 0).trans rfl
      have k1 : w2.cell? ⟨w.heap.size, 1, none⟩ = some (.int .i64 c.f1) := (blk_cell hx2 1).trans rfl
      have k2 : w2.cell? ⟨w.heap.size, 2, none⟩ = some (.int .i64 c.f2) := (blk_cell hx2 2).trans rfl
      have k3 : w2.cell? ⟨w.heap.size, 3, none⟩ = some (.int .i64 c.f3) := (blk_cell hx2 3).trans rfl
      have k4 : w2.cell? ⟨w.heap.size, 4, none⟩ = some (.int .i64 c.f4) := (blk_cell hx2 4).trans rfl
      have k5 : w2.cell? ⟨w.heap.size, 5, none⟩ = some (.int .i64 c.f5) := (blk_cell hx2 5).trans rfl
      have k6 : w2.cell? ⟨w.heap.size, 6, none⟩ = some (.int .i64 c.f6) := (blk_cell hx2 6).trans rfl
      have k7 : w2.cell? ⟨w.heap.size, 7, none⟩ = some (.int .i64 c.f7) := (blk_cell hx2 7).trans rfl
      have k8 : w2.cell? ⟨w.heap.size, 8, none⟩ = some (.int .i64 c.f8) := (blk_cell hx2 8).trans rfl
      have k10 : w2.cell? ⟨w.heap.size, 10, none⟩ = some (.int .i64 c.f10) := (blk_cell hx2 10).trans rfl
      have k11 : w2.cell? ⟨w.heap.size, 11, none⟩ = some (.int .i64 c.f11) := (blk_cell hx2 11).trans rfl
      clear hb hx2 hw3
      go_wp2_with fail
      simp only [HW3.out]
      refine (HCk.out w3).mono ?_
      rintro e w4 ⟨rfl, hb⟩
      have HB4 := Aside0.mk hb
      clear hb c9 f9' k0 k1 k2 k3 k4 k5 k6 k7 k8 k10 k11
      obtain ⟨x0, x1, x2, x3, x4, x5, x6, x7, x8, x9, x10, x11⟩ := X.out _ HB4.out
      go_wp2_with fail
      refine (HWd.out w4).mono ?_
      rintro e w5 ⟨rfl, hb⟩
      have HB5 := Aside0.mk (below_then HB4.out HB4.out.size hb)
      clear hb x0 x1 x2 x3 x4 x5 x6 x7 x8 x9 x10 x11
      go_wp2_with fail
      refine (firstP_ w5).mono ?_
      rintro e w9 ⟨rfl, hb⟩
      have HB9 := Aside0.mk (below_then HB3.out (Nat.le_of_lt S3s.out) (below_then HB5.out HB5.out.size hb))
      clear hb
      go_wp2
      go_ret
      exact ⟨rfl, HB9.out⟩
  · have g3 : (ck != 0) = true := bne_iff_ne.2 (fun e => hk (hci.1 e))
    clear h hck hci hk h9
    go_enter Try.func4, Try.ntmps4
    go_wp2_with fail
    simp only [HW1.out]
    refine (firstP_ w1).mono ?_
    rintro e w2 ⟨rfl, hb⟩
    have hx2 := (hb.block w.heap.size (by rw [S1.out]; omega)).trans HX1.out
    have HX2 := Aside0.mk hx2
    have HB2 := Aside0.mk (below_then HB1.out (by rw [S1.out]; omega) hb)
    have S2 := Aside0.mk (show w.heap.size < w2.heap.size from (Array.getElem?_eq_some_iff.1 hx2).1)
    obtain ⟨w3, hw3⟩ : ∃ W, w2.setCell ⟨w.heap.size, 9, none⟩ (.int .i64 0) = W := ⟨_, rfl⟩
    have HW3 := Aside0.mk hw3
    have S3s := Aside0.mk (show w.heap.size < w3.heap.size by rw [← hw3]; simpa using S2.out)
    have HX3 := Aside0.mk (show w3.heap[w.heap.size]? = some (.cells #[.int .i64 c.f0, .int .i64 c.f1, .int .i64 c.f2, .int .i64 c.f3, .int .i64 c.f4, .int .i64 c.f5, .int .i64 c.f6, .int .i64 c.f7, .int .i64 c.f8, .int .i64 0, .int .i64 c.f10, .int .i64 c.f11] 41 (0, 0)) by rw [← hw3]; exact heap_setCell_same w2 w.heap.size 9 _ _ (.int .i64 0) HX2.out)
    have HB3 := Aside0.mk (show Below w.heap.size w w3 by rw [← hw3]; exact HB2.out.setCell (p := ⟨w.heap.size, 9, none⟩) (Nat.le_refl _) _)
    have X := Aside0.mk (fun W (hb : Below w3.heap.size w3 W) => (show W.cell? ⟨w.heap.size, 0, none⟩ = some (.int .i64 c.f0) ∧ W.cell? ⟨w.heap.size, 1, none⟩ = some (.int .i64 c.f1) ∧ W.cell? ⟨w.heap.size, 2, none⟩ = some (.int .i64 c.f2) ∧ W.cell? ⟨w.heap.size, 3, none⟩ = some (.int .i64 c.f3) ∧ W.cell? ⟨w.heap.size, 4, none⟩ = some (.int .i64 c.f4) ∧ W.cell? ⟨w.heap.size, 5, none⟩ = some (.int .i64 c.f5) ∧ W.cell? ⟨w.heap.size, 6, none⟩ = some (.int .i64 c.f6) ∧ W.cell? ⟨w.heap.size, 7, none⟩ = some (.int .i64 c.f7) ∧ W.cell? ⟨w.heap.size, 8, none⟩ = some (.int .i64 c.f8) ∧ W.cell? ⟨w.heap.size, 9, none⟩ = some (.int .i64 0) ∧ W.cell? ⟨w.heap.size, 10, none⟩ = some (.int .i64 c.f10) ∧ W.cell? ⟨w.heap.size, 11, none⟩ = some (.int .i64 c.f11) from ⟨(hb.cell (p := ⟨w.heap.size, 0, none⟩) S3s.out).trans ((blk_cell HX3.out 0).trans rfl), (hb.cell (p := ⟨w.heap.size, 1, none⟩) S3s.out).trans ((blk_cell HX3.out 1).trans rfl), (hb.cell (p := ⟨w.heap.size, 2, none⟩) S3s.out).trans ((blk_cell HX3.out 2).trans rfl), (hb.cell (p := ⟨w.heap.size, 3, none⟩) S3s.out).trans ((blk_cell HX3.out 3).trans rfl), (hb.cell (p := ⟨w.heap.size, 4, none⟩) S3s.out).trans ((blk_cell HX3.out 4).trans rfl), (hb.cell (p := ⟨w.heap.size, 5, none⟩) S3s.out).trans ((blk_cell HX3.out 5).trans rfl), (hb.cell (p := ⟨w.heap.size, 6, none⟩) S3s.out).trans ((blk_cell HX3.out 6).trans rfl), (hb.cell (p := ⟨w.heap.size, 7, none⟩) S3s.out).trans ((blk_cell HX3.out 7).trans rfl), (hb.cell (p := ⟨w.heap.size, 8, none⟩) S3s.out).trans ((blk_cell HX3.out 8).trans rfl), (hb.cell (p := ⟨w.heap.size, 9, none⟩) S3s.out).trans ((blk_cell HX3.out 9).trans rfl), (hb.cell (p := ⟨w.heap.size, 10, none⟩) S3s.out).trans ((blk_cell HX3.out 10).trans rfl), (hb.cell (p := ⟨w.heap.size, 11, none⟩) S3s.out).trans ((blk_cell HX3.out 11).trans rfl)⟩))
    have c9 : w2.cell? ⟨w.heap.size, 9, none⟩ = some (.int .i64 e9) := (blk_cell hx2 9).trans rfl
    have f9' := frozen_of_row w2 w.heap.size 9 _ _ hx2
    have k0 : w2.cell? ⟨w.heap.size, 0, none⟩ = some (.int .i64 c.f0) := (blk_cell hx2 0).trans rfl
    have k1 : w2.cell? ⟨w.heap.size, 1, none⟩ = some (.int .i64 c.f1) := (blk_cell hx2 1).trans rfl
    have k2 : w2.cell? ⟨w.heap.size, 2, none⟩ = some (.int .i64 c.f2) := (blk_cell hx2 2).trans rfl
    have k3 : w2.cell? ⟨w.heap.size, 3, none⟩ = some (.int .i64 c.f3) := (blk_cell hx2 3).trans rfl
    have k4 : w2.cell? ⟨w.heap.size, 4, none⟩ = some (.int .i64 c.f4) := (blk_cell hx2 4).trans rfl
    have k5 : w2.cell? ⟨w.heap.size, 5, none⟩ = some (.int .i64 c.f5) := (blk_cell hx2 5).trans rfl
    have k6 : w2.cell? ⟨w.heap.size, 6, none⟩ = some (.int .i64 c.f6) := (blk_cell hx2 6).trans rfl
    have k7 : w2.cell? ⟨w.heap.size, 7, none⟩ = some (.int .i64 c.f7) := (blk_cell hx2 7).trans rfl
    have k8 : w2.cell? ⟨w.heap.size, 8, none⟩ = some (.int .i64 c.f8) := (blk_cell hx2 8).trans rfl
    have k10 : w2.cell? ⟨w.heap.size, 10, none⟩ = some (.int .i64 c.f10) := (blk_cell hx2 10).trans rfl
    have k11 : w2.cell? ⟨w.heap.size, 11, none⟩ = some (.int .i64 c.f11) := (blk_cell hx2 11).trans rfl
    clear hb hx2 hw3
    go_wp2_with fail
    simp only [HW3.out]
    refine (HCk.out w3).mono ?_
    rintro e w4 ⟨rfl, hb⟩
    have HB4 := Aside0.mk hb
    clear hb c9 f9' k0 k1 k2 k3 k4 k5 k6 k7 k8 k10 k11
    go_wp2_with fail
    refine (firstP_ w4).mono ?_
    rintro e w9 ⟨rfl, hb⟩
    have HB9 := Aside0.mk (below_then HB3.out (Nat.le_of_lt S3s.out) (below_then HB4.out HB4.out.size hb))
    clear hb
    go_wp2
    go_ret
    exact ⟨rfl, HB9.out⟩
set_option maxHeartbeats 8000000 in
set_option maxRecDepth 100000 in
theorem three_in (c : Cf) (h9 : c.f9 = 0) (e9 : Int) (a : Int) (w : World) (hk : Okc c) {r o s n : Nat} (d : Dim c r o s n) (h0 : 0 ≤ a) (h1 : a < n) :
    Calls Try.prog 4 #[.agg #[.int .i64 c.f0, .int .i64 c.f1, .int .i64 c.f2, .int .i64 c.f3, .int .i64 c.f4, .int .i64 c.f5, .int .i64 c.f6, .int .i64 c.f7, .int .i64 c.f8, .int .i64 e9, .int .i64 c.f10, .int .i64 c.f11], .int .i64 a] w fun e w' => e = .returned (.bool true) ∧ Below w.heap.size w w' := by
  obtain ⟨x, y, z, qxy, qyz, qz, hp, l1, l2, l3, l4⟩ := path_lv hk d h0 h1
  obtain ⟨ck, hck, hci⟩ := chk_f c
  obtain rfl := hci.2 hk
  have mixed : Try.prog.follows Departure.mixedOrders = true := by kernel_rfl
  have br := d.br
  have bo := d.bo
  have bs := d.bs
  have g1 : decide (a < 0) = false := decide_eq_false (by omega)
  have g2 : decide (a ≥ (n : Int)) = false := decide_eq_false (by omega)
  have HCk := Aside0.mk (fun W => ltkref1_Check.calls 20 c.f0 c.f1 c.f2 c.f3 c.f4 c.f5 c.f6 c.f7 c.f8 c.f9 c.f10 c.f11 _ W hck)
  have HWd := Aside0.mk (fun W => ltkref1_Words.calls 20 c.f0 c.f1 c.f2 c.f3 c.f4 c.f5 c.f6 c.f7 c.f8 c.f9 c.f10 c.f11 _ W (words_ref hk d))
  have HNd := Aside0.mk (fun W => shape_Nodes.calls c.f0 c.f1 c.f2 c.f3 c.f4 c.f5 c.f6 c.f7 c.f8 c.f9 c.f10 c.f11 _ W (nodes_ok hk d))
  have HPt := Aside0.mk (fun W => shape_Path.calls c.f0 c.f1 c.f2 c.f3 c.f4 c.f5 c.f6 c.f7 c.f8 c.f9 c.f10 c.f11 a _ _ _ _ W hp)
  have HNew := Aside0.mk (fun W => NewT_ (r + o + s) 100 W (by omega) (by omega) (by decide) (by decide))
  have HNx := Aside0.mk (fun (W : World) (b : Nat) (F : Nat → Prop) (wt : Bool) (i : Nat) (hi : LInv (SI (r + o + s) x y z i)) (R : L × Bool) (hT : IsTab W b F (SI (r + o + s) x y z i) 100 i f0) (hR : nextT (x : Int) (y : Int) (z : Int) (holdsT (SI (r + o + s) x y z i) 0 (x : Int)) (holdsT (SI (r + o + s) x y z i) 0 (y : Int)) (holdsT (SI (r + o + s) x y z i) 0 (z : Int)) c.f9 (stripesT (SI (r + o + s) x y z i) 0 (lvC c) (paC c) (y : Int)) wt = R) =>
    NextT_ hT hi (by unfold SI; rw [s_len]; omega) c 0 a wt (lvC c) (paC c) (fun j _ => lvC_ok hk j) (fun j _ => paC_ok hk j) (x : Int) (y : Int) (z : Int) hp R hR)
  have HQ := Aside0.mk (And.intro qxy (And.intro qyz (And.intro qz (show r + o + s ≤ 10000 by omega))))
  have HSt := Aside0.mk (fun (W : World) (b : Nat) (F : Nat → Prop) (who : Int) (hT : IsTab W b F (SI (r + o + s) x y z 6) 100 6 f0) => Stripes_ hT (by unfold SI; rw [s_len]; omega) c who (y : Int) (lvC c) (paC c) (fun j _ => lvC_ok hk j) (fun j _ => paC_ok hk j))
  have HS1 := Aside0.mk (And.intro (str_one qxy qyz qz l1 l2 l3 l4) (str_none qxy qyz qz (lvC c) (paC c)))
  simp only [h9] at HCk HWd HNd HPt HNx HSt
  clear hk d h0 h1 qxy qyz qz hp l1 l2 l3 l4 hck hci br bo bs h9
  have hu41 := Try.underlying41
  have hu38 := Try.underlying38
  have HB1 := Aside0.mk (below_alloc (Below.refl w.heap.size w) (.cells #[.int .i64 c.f0, .int .i64 c.f1, .int .i64 c.f2, .int .i64 c.f3, .int .i64 c.f4, .int .i64 c.f5, .int .i64 c.f6, .int .i64 c.f7, .int .i64 c.f8, .int .i64 e9, .int .i64 c.f10, .int .i64 c.f11] 41))
  have hx := blk_new w (.cells #[.int .i64 c.f0, .int .i64 c.f1, .int .i64 c.f2, .int .i64 c.f3, .int .i64 c.f4, .int .i64 c.f5, .int .i64 c.f6, .int .i64 c.f7, .int .i64 c.f8, .int .i64 e9, .int .i64 c.f10, .int .i64 c.f11] 41)
  obtain ⟨w1, hw1⟩ : ∃ W, w.alloc (.cells #[.int .i64 c.f0, .int .i64 c.f1, .int .i64 c.f2, .int .i64 c.f3, .int .i64 c.f4, .int .i64 c.f5, .int .i64 c.f6, .int .i64 c.f7, .int .i64 c.f8, .int .i64 e9, .int .i64 c.f10, .int .i64 c.f11] 41) = W := ⟨_, rfl⟩
  have HW1 := Aside0.mk hw1
  rw [hw1] at HB1 hx
  have S1 := Aside0.mk (show w1.heap.size = w.heap.size + 1 by rw [← hw1]; simp)
  have HX1 := Aside0.mk hx
  clear hx hw1
  go_enter Try.func4, Try.ntmps4
  go_wp2_with fail
  simp only [HW1.out]
  refine (firstP_ w1).mono ?_
  rintro e w2 ⟨rfl, hb⟩
  have hx2 := (hb.block w.heap.size (by rw [S1.out]; omega)).trans HX1.out
  have HX2 := Aside0.mk hx2
  have HB2 := Aside0.mk (below_then HB1.out (by rw [S1.out]; omega) hb)
  have S2 := Aside0.mk (show w.heap.size < w2.heap.size from (Array.getElem?_eq_some_iff.1 hx2).1)
  obtain ⟨w3, hw3⟩ : ∃ W, w2.setCell ⟨w.heap.size, 9, none⟩ (.int .i64 0) = W := ⟨_, rfl⟩
  have HW3 := Aside0.mk hw3
  have S3s := Aside0.mk (show w.heap.size < w3.heap.size by rw [← hw3]; simpa using S2.out)
  have HX3 := Aside0.mk (show w3.heap[w.heap.size]? = some (.cells #[.int .i64 c.f0, .int .i64 c.f1, .int .i64 c.f2, .int .i64 c.f3, .int .i64 c.f4, .int .i64 c.f5, .int .i64 c.f6, .int .i64 c.f7, .int .i64 c.f8, .int .i64 0, .int .i64 c.f10, .int .i64 c.f11] 41 (0, 0)) by rw [← hw3]; exact heap_setCell_same w2 w.heap.size 9 _ _ (.int .i64 0) HX2.out)
  have HB3 := Aside0.mk (show Below w.heap.size w w3 by rw [← hw3]; exact HB2.out.setCell (p := ⟨w.heap.size, 9, none⟩) (Nat.le_refl _) _)
  have X := Aside0.mk (fun W (hb : Below w3.heap.size w3 W) => (show W.cell? ⟨w.heap.size, 0, none⟩ = some (.int .i64 c.f0) ∧ W.cell? ⟨w.heap.size, 1, none⟩ = some (.int .i64 c.f1) ∧ W.cell? ⟨w.heap.size, 2, none⟩ = some (.int .i64 c.f2) ∧ W.cell? ⟨w.heap.size, 3, none⟩ = some (.int .i64 c.f3) ∧ W.cell? ⟨w.heap.size, 4, none⟩ = some (.int .i64 c.f4) ∧ W.cell? ⟨w.heap.size, 5, none⟩ = some (.int .i64 c.f5) ∧ W.cell? ⟨w.heap.size, 6, none⟩ = some (.int .i64 c.f6) ∧ W.cell? ⟨w.heap.size, 7, none⟩ = some (.int .i64 c.f7) ∧ W.cell? ⟨w.heap.size, 8, none⟩ = some (.int .i64 c.f8) ∧ W.cell? ⟨w.heap.size, 9, none⟩ = some (.int .i64 0) ∧ W.cell? ⟨w.heap.size, 10, none⟩ = some (.int .i64 c.f10) ∧ W.cell? ⟨w.heap.size, 11, none⟩ = some (.int .i64 c.f11) from ⟨(hb.cell (p := ⟨w.heap.size, 0, none⟩) S3s.out).trans ((blk_cell HX3.out 0).trans rfl), (hb.cell (p := ⟨w.heap.size, 1, none⟩) S3s.out).trans ((blk_cell HX3.out 1).trans rfl), (hb.cell (p := ⟨w.heap.size, 2, none⟩) S3s.out).trans ((blk_cell HX3.out 2).trans rfl), (hb.cell (p := ⟨w.heap.size, 3, none⟩) S3s.out).trans ((blk_cell HX3.out 3).trans rfl), (hb.cell (p := ⟨w.heap.size, 4, none⟩) S3s.out).trans ((blk_cell HX3.out 4).trans rfl), (hb.cell (p := ⟨w.heap.size, 5, none⟩) S3s.out).trans ((blk_cell HX3.out 5).trans rfl), (hb.cell (p := ⟨w.heap.size, 6, none⟩) S3s.out).trans ((blk_cell HX3.out 6).trans rfl), (hb.cell (p := ⟨w.heap.size, 7, none⟩) S3s.out).trans ((blk_cell HX3.out 7).trans rfl), (hb.cell (p := ⟨w.heap.size, 8, none⟩) S3s.out).trans ((blk_cell HX3.out 8).trans rfl), (hb.cell (p := ⟨w.heap.size, 9, none⟩) S3s.out).trans ((blk_cell HX3.out 9).trans rfl), (hb.cell (p := ⟨w.heap.size, 10, none⟩) S3s.out).trans ((blk_cell HX3.out 10).trans rfl), (hb.cell (p := ⟨w.heap.size, 11, none⟩) S3s.out).trans ((blk_cell HX3.out 11).trans rfl)⟩))
  have c9 : w2.cell? ⟨w.heap.size, 9, none⟩ = some (.int .i64 e9) := (blk_cell hx2 9).trans rfl
  have f9' := frozen_of_row w2 w.heap.size 9 _ _ hx2
  have k0 : w2.cell? ⟨w.heap.size, 0, none⟩ = some (.int .i64 c.f0) := (blk_cell hx2 0).trans rfl
  have k1 : w2.cell? ⟨w.heap.size, 1, none⟩ = some (.int .i64 c.f1) := (blk_cell hx2 1).trans rfl
  have k2 : w2.cell? ⟨w.heap.size, 2, none⟩ = some (.int .i64 c.f2) := (blk_cell hx2 2).trans rfl
  have k3 : w2.cell? ⟨w.heap.size, 3, none⟩ = some (.int .i64 c.f3) := (blk_cell hx2 3).trans rfl
  have k4 : w2.cell? ⟨w.heap.size, 4, none⟩ = some (.int .i64 c.f4) := (blk_cell hx2 4).trans rfl
  have k5 : w2.cell? ⟨w.heap.size, 5, none⟩ = some (.int .i64 c.f5) := (blk_cell hx2 5).trans rfl
  have k6 : w2.cell? ⟨w.heap.size, 6, none⟩ = some (.int .i64 c.f6) := (blk_cell hx2 6).trans rfl
  have k7 : w2.cell? ⟨w.heap.size, 7, none⟩ = some (.int .i64 c.f7) := (blk_cell hx2 7).trans rfl
  have k8 : w2.cell? ⟨w.heap.size, 8, none⟩ = some (.int .i64 c.f8) := (blk_cell hx2 8).trans rfl
  have k10 : w2.cell? ⟨w.heap.size, 10, none⟩ = some (.int .i64 c.f10) := (blk_cell hx2 10).trans rfl
  have k11 : w2.cell? ⟨w.heap.size, 11, none⟩ = some (.int .i64 c.f11) := (blk_cell hx2 11).trans rfl
  clear hb hx2 hw3
  go_wp2_with fail
  simp only [HW3.out]
  refine (HCk.out w3).mono ?_
  rintro e w4 ⟨rfl, hb⟩
  have HB4 := Aside0.mk hb
  clear hb c9 f9' k0 k1 k2 k3 k4 k5 k6 k7 k8 k10 k11
  obtain ⟨x0, x1, x2, x3, x4, x5, x6, x7, x8, x9, x10, x11⟩ := X.out _ HB4.out
  go_wp2_with fail
  refine (HWd.out w4).mono ?_
  rintro e w5 ⟨rfl, hb⟩
  have HB5 := Aside0.mk (below_then HB4.out HB4.out.size hb)
  clear hb x0 x1 x2 x3 x4 x5 x6 x7 x8 x9 x10 x11
  obtain ⟨x0, x1, x2, x3, x4, x5, x6, x7, x8, x9, x10, x11⟩ := X.out _ HB5.out
  go_wp2_with fail
  refine (HNd.out w5).mono ?_
  rintro e w6 ⟨rfl, hb⟩
  have HB6 := Aside0.mk (below_then HB5.out HB5.out.size hb)
  clear hb HNd HWd HCk g1 g2 x0 x1 x2 x3 x4 x5 x6 x7 x8 x9 x10 x11
  go_wp2_with fail
  refine (HNew.out w6).mono ?_
  rintro e w7 ⟨rfl, hT, hb⟩
  have T7 := Aside0.mk (show IsTab w7 (w6.heap.size + 1) (fun k => w6.heap.size ≤ k) (SI (r + o + s) x y z 0) 100 0 f0 by rw [si_zero]; exact hT)
  have C7 := Aside0.mk hb
  clear hT hb HNew
  generalize w6.heap.size + 1 = B at T7 ⊢
  obtain ⟨x0, x1, x2, x3, x4, x5, x6, x7, x8, x9, x10, x11⟩ := X.out _ (below_then HB6.out HB6.out.size C7.out)
  go_wp2_with fail
  refine (HPt.out w7).mono ?_
  rintro e w8 ⟨rfl, hb⟩
  have T8 := Aside0.mk ((T7.out.below hb).mono (F' := fun k => w6.heap.size ≤ k ∧ k ≠ w8.heap.size) (fun k hk h => ⟨h, by omega⟩))
  have C8 := Aside0.mk (below_then C7.out C7.out.size hb)
  have hwl := blk_new w8 (.cells #[.int .i64 (x : Int), .int .i64 1, .int .i64 (y : Int), .int .i64 1, .int .i64 (z : Int), .int .i64 3, .int .i64 (x : Int), .int .i64 2, .int .i64 (y : Int), .int .i64 2, .int .i64 (z : Int), .int .i64 5] 38)
  have HWL := Aside0.mk (show Row (w8.alloc (.cells #[.int .i64 (x : Int), .int .i64 1, .int .i64 (y : Int), .int .i64 1, .int .i64 (z : Int), .int .i64 3, .int .i64 (x : Int), .int .i64 2, .int .i64 (y : Int), .int .i64 2, .int .i64 (z : Int), .int .i64 5] 38)) 38 2 (some ⟨w8.heap.size, 0, none⟩) 6 6 (flatL (WL x y z)) from ⟨rfl, Nat.le_refl _, by unfold maxLen; omega, .inr ⟨_, 0, _, rfl, hwl, Nat.le_refl 12, rfl⟩⟩)
  have T9 := Aside0.mk (T8.out.below (below_alloc (Below.refl _ _) (.cells #[.int .i64 (x : Int), .int .i64 1, .int .i64 (y : Int), .int .i64 1, .int .i64 (z : Int), .int .i64 3, .int .i64 (x : Int), .int .i64 2, .int .i64 (y : Int), .int .i64 2, .int .i64 (z : Int), .int .i64 5] 38)))
  have C9 := Aside0.mk (below_alloc C8.out (.cells #[.int .i64 (x : Int), .int .i64 1, .int .i64 (y : Int), .int .i64 1, .int .i64 (z : Int), .int .i64 3, .int .i64 (x : Int), .int .i64 2, .int .i64 (y : Int), .int .i64 2, .int .i64 (z : Int), .int .i64 5] 38))
  have S9 := Aside0.mk (show w8.heap.size < (w8.alloc (.cells #[.int .i64 (x : Int), .int .i64 1, .int .i64 (y : Int), .int .i64 1, .int .i64 (z : Int), .int .i64 3, .int .i64 (x : Int), .int .i64 2, .int .i64 (y : Int), .int .i64 2, .int .i64 (z : Int), .int .i64 5] 38)).heap.size by simp)
  clear hb HPt T7 C7 T8 C8 hwl x0 x1 x2 x3 x4 x5 x6 x7 x8 x9 x10 x11
  go_wp2_with fail
  go_loopg [12] 6 (fun gg v wr => ∃ i : Nat, i ≤ 6 ∧ 6 - i ≤ gg ∧ v = .int .i64 i ∧ Aside0 (IsTab wr B (fun k => w6.heap.size ≤ k ∧ k ≠ w8.heap.size) (SI (r + o + s) x y z i) 100 i f0) ∧ Aside0 (Below w6.heap.size w6 wr) ∧ Aside0 (Row wr 38 2 (some ⟨w8.heap.size, 0, none⟩) 6 6 (flatL (WL x y z)) ∧ w8.heap.size < wr.heap.size))
  case atStart => exact ⟨0, by omega, by omega, rfl, T9, C9, ⟨HWL.out, S9.out⟩⟩
  case round =>
    clear T9 C9 HWL S9
    obtain ⟨i, hi, hgg, rfl, HT, HC, HRw⟩ := hrel
    by_cases hlt : i < 6
    · have t1 : (i : Int) < 6 := by omega
      have t0 : 0 ≤ (i : Int) := by omega
      obtain ⟨wt, hwt⟩ : ∃ b, decide (3 ≤ i) = b := ⟨_, rfl⟩
      have g : decide ((i : Int) ≥ 3) = wt := by rw [← hwt]; exact decide_eq_decide.2 (by omega)
      obtain ⟨ad, had, p0, p1⟩ := at_T38 HRw.out.1.readsL (i : Int) (by omega) (by show (i : Int) < 6; omega)
      injection had with had
      subst had
      rw [Int.toNat_natCast, rdL_get, wl_at x y z hlt, Addr.add_lit, Nat.zero_add] at p0
      rw [Int.toNat_natCast, rdL_get, wl_at x y z hlt, Addr.add_lit, Nat.zero_add] at p1
      have HN := Aside0.mk (HNx.out wr B _ wt i (s_inv HQ.out.1 HQ.out.2.1 HQ.out.2.2.1 (m_md i).1 (m_md i).2.1 (m_md i).2.2) (⟨((ndI x y z i : Nat) : Int), moI i⟩, true) HT.out (by rw [← hwt]; exact step_next HQ.out.1 HQ.out.2.1 HQ.out.2.2.1 _ hlt))
      have HAk := Aside0.mk (step_ask HQ.out.1 HQ.out.2.1 HQ.out.2.2.1 hlt)
      have HSm := Aside0.mk (s_small (mA i) (mB i) (mD i) HQ.out.1 HQ.out.2.1 HQ.out.2.2.1 HQ.out.2.2.2)
      have HLT := Aside0.mk (And.intro hlt hwt)
      generalize ((ndI x y z i : Nat) : Int) = nd at p0 p1 HN HAk
      generalize moI i = mo at p0 p1 HN HAk
      dsimp only at p0 p1
      obtain ⟨x0, x1, x2, x3, x4, x5, x6, x7, x8, x9, x10, x11⟩ := X.out _ (below_then HB6.out HB6.out.size HC.out)
      clear hwt
      go_wp2_with fail
      refine HN.out.mono ?_
      rintro e w11 ⟨rfl, hb⟩
      have Y := blk_new w11 (.cells #[.int .i64 nd, .int .i64 mo] 38)
      have y0 : (w11.alloc (.cells #[.int .i64 nd, .int .i64 mo] 38)).cell? ⟨w11.heap.size, 0, none⟩ = some (.int .i64 nd) := (blk_cell Y 0).trans rfl
      have y1 : (w11.alloc (.cells #[.int .i64 nd, .int .i64 mo] 38)).cell? ⟨w11.heap.size, 1, none⟩ = some (.int .i64 mo) := (blk_cell Y 1).trans rfl
      have v0 := cell_al (cell_be p0 hb) (.cells #[.int .i64 nd, .int .i64 mo] 38)
      have v1 := cell_al (cell_be p1 hb) (.cells #[.int .i64 nd, .int .i64 mo] 38)
      have T12 := Aside0.mk ((HT.out.below hb).below (below_alloc (Below.refl _ _) (.cells #[.int .i64 nd, .int .i64 mo] 38)))
      have C12 := Aside0.mk (below_alloc (below_then HC.out HC.out.size hb) (.cells #[.int .i64 nd, .int .i64 mo] 38))
      have R12 := Aside0.mk ((HRw.out.1.below hb).alloc (.cells #[.int .i64 nd, .int .i64 mo] 38))
      have S12 := Aside0.mk (show w8.heap.size < (w11.alloc (.cells #[.int .i64 nd, .int .i64 mo] 38)).heap.size by have := HRw.out.2; have := hb.size; simp; omega)
      clear hb HN Y p0 p1 HT HC HRw x0 x1 x2 x3 x4 x5 x6 x7 x8 x9 x10 x11
      go_wp2_with fail
      have y0' := fun d os => cell_gr y0 d os
      have y1' := fun d os => cell_gr y1 d os
      have v0' := fun d os => cell_gr v0 d os
      have v1' := fun d os => cell_gr v1 d os
      refine wp_region_gr mixed (by kernel_rfl) ?_
      repeat (first | go_big_quiet_step (fail) | simp only [Bool.not_true, Bool.not_false])
      refine wpQuiet_nil ?_
      intro _ hw'
      obtain ⟨⟨d, os⟩, rfl⟩ := hw'
      have hgr := below_gr (w11.alloc (.cells #[.int .i64 nd, .int .i64 mo] 38)) d os
      have T13 := Aside0.mk (T12.out.below hgr)
      have C13 := Aside0.mk (below_then C12.out C12.out.size hgr)
      have R13 := Aside0.mk (R12.out.below hgr)
      have S13 := Aside0.mk (show w8.heap.size < (grow (wat (w11.alloc (.cells #[.int .i64 nd, .int .i64 mo] 38)) d) os).heap.size from Nat.lt_of_lt_of_le S12.out hgr.size)
      have u0 := cell_gr y0 d os
      have u1 := cell_gr y1 d os
      clear y0 y1 v0 v1 y0' y1' v0' v1' hgr T12 C12 R12 S12
      generalize grow (wat (w11.alloc (.cells #[.int .i64 nd, .int .i64 mo] 38)) d) os = w13 at T13 C13 R13 S13 u0 u1 ⊢
      have HA := Aside0.mk (AskT_ T13.out HSm.out (by have := HLT.out.1; omega) 0 nd mo (by decide))
      rw [HAk.out] at HA
      go_wp2_with fail
      refine HA.out.mono ?_
      rintro e w14 ⟨rfl, hT, hG⟩
      have T14 := Aside0.mk (hT.mono (F' := fun k => w6.heap.size ≤ k ∧ k ≠ w8.heap.size) (fun k hk h => h.elim id (fun h => ⟨Nat.le_trans C13.out.size h, by have := S13.out; omega⟩)))
      have C14 := Aside0.mk (hG.to_below C13.out C13.out.size (fun k hk => hk.1))
      have R14 := Aside0.mk (R13.out.grew hG (fun k hk h2 => by obtain ⟨ad, ha, hb⟩ := hk; cases ha; exact h2.2 hb.symm))
      have S14 := Aside0.mk (Nat.lt_of_lt_of_le S13.out hG.size)
      clear hT hG HA T13 C13 R13 S13 u0 u1
      by_cases hb : i = 2 ∨ i = 5
      · have r1 : Int.tmod (i : Int) 3 = 2 := by rcases hb with h | h <;> rw [h] <;> rfl
        have HN := Aside0.mk (HNx.out w14 B _ wt (i + 1) (s_inv HQ.out.1 HQ.out.2.1 HQ.out.2.2.1 (m_md (i + 1)).1 (m_md (i + 1)).2.1 (m_md (i + 1)).2.2) (⟨0, 0⟩, false) T14.out (by rw [← HLT.out.2]; exact step_more HQ.out.1 HQ.out.2.1 HQ.out.2.2.1 _ hb))
        clear hb
        obtain ⟨x0, x1, x2, x3, x4, x5, x6, x7, x8, x9, x10, x11⟩ := X.out _ (below_then HB6.out HB6.out.size C14.out)
        go_wp2_with fail
        refine HN.out.mono ?_
        rintro e w15 ⟨rfl, hb⟩
        have T16 := Aside0.mk ((T14.out.below hb).below (below_alloc (Below.refl _ _) (.cells #[.int .i64 0, .int .i64 0] 38)))
        have C16 := Aside0.mk (below_alloc (below_then C14.out C14.out.size hb) (.cells #[.int .i64 0, .int .i64 0] 38))
        have R16 := Aside0.mk ((R14.out.below hb).alloc (.cells #[.int .i64 0, .int .i64 0] 38))
        have S16 := Aside0.mk (show w8.heap.size < (w15.alloc (.cells #[.int .i64 0, .int .i64 0] 38)).heap.size by have := S14.out; have := hb.size; simp; omega)
        clear hb HN T14 C14 R14 S14 x0 x1 x2 x3 x4 x5 x6 x7 x8 x9 x10 x11
        go_wp2
        go_roundg (6 - (i + 1))
        case measure => omega
        case rel => exact ⟨i + 1, by have := HLT.out.1; omega, by omega, by first | rfl | simp | go_num, T16, C16, ⟨R16.out, S16.out⟩⟩
      · obtain ⟨v, r1, r2⟩ : ∃ v, Int.tmod (i : Int) 3 = v ∧ (v == 2) = false := ⟨_, rfl, by
          have h5 : i = 0 ∨ i = 1 ∨ i = 3 ∨ i = 4 := by have := HLT.out.1; omega
          rcases h5 with h | h | h | h <;> rw [h] <;> rfl⟩
        clear hb
        go_wp2
        go_roundg (6 - (i + 1))
        case measure => omega
        case rel => exact ⟨i + 1, by have := HLT.out.1; omega, by omega, by first | rfl | simp | go_num, T14, C14, ⟨R14.out, S14.out⟩⟩
    · have ei : i = 6 := by omega
      subst ei
      have HN := Aside0.mk (HNx.out wr B _ false 6 (s_inv HQ.out.1 HQ.out.2.1 HQ.out.2.2.1 (m_md 6).1 (m_md 6).2.1 (m_md 6).2.2) (⟨0, 0⟩, false) HT.out (step_last HQ.out.1 HQ.out.2.1 HQ.out.2.2.1 _))
      have D9 := Aside0.mk (below_then HB6.out HB6.out.size HC.out)
      obtain ⟨x0, x1, x2, x3, x4, x5, x6, x7, x8, x9, x10, x11⟩ := X.out _ D9.out
      go_wp2_with fail
      refine HN.out.mono ?_
      rintro e w15 ⟨rfl, hb⟩
      have T16 := Aside0.mk ((HT.out.below hb).below (below_alloc (Below.refl _ _) (.cells #[.int .i64 0, .int .i64 0] 38)))
      have D16 := Aside0.mk (below_alloc (below_then D9.out D9.out.size hb) (.cells #[.int .i64 0, .int .i64 0] 38))
      clear hb HN HT HC HRw x0 x1 x2 x3 x4 x5 x6 x7 x8 x9 x10 x11
      go_wp2_with fail
      refine (firstP_ _).mono ?_
      rintro e w17 ⟨rfl, hb⟩
      have T17 := Aside0.mk (T16.out.below hb)
      have D17 := Aside0.mk (below_then D16.out D16.out.size hb)
      have HSa := Aside0.mk (HSt.out w17 B _ 0 T17.out)
      rw [HS1.out.1] at HSa
      clear hb
      obtain ⟨x0, x1, x2, x3, x4, x5, x6, x7, x8, x9, x10, x11⟩ := X.out _ D17.out
      go_wp2_with fail
      refine HSa.out.mono ?_
      rintro e w18 ⟨rfl, hb⟩
      have T18 := Aside0.mk (T17.out.below hb)
      have D18 := Aside0.mk (below_then D17.out D17.out.size hb)
      have HSb := Aside0.mk (HSt.out w18 B _ 1 T18.out)
      rw [HS1.out.2] at HSb
      clear hb HSa x0 x1 x2 x3 x4 x5 x6 x7 x8 x9 x10 x11
      obtain ⟨x0, x1, x2, x3, x4, x5, x6, x7, x8, x9, x10, x11⟩ := X.out _ D18.out
      go_wp2_with fail
      refine HSb.out.mono ?_
      rintro e w19 ⟨rfl, hb⟩
      have D19 := Aside0.mk (below_then HB3.out (Nat.le_of_lt S3s.out) (below_then D18.out D18.out.size hb))
      clear hb HSb x0 x1 x2 x3 x4 x5 x6 x7 x8 x9 x10 x11
      go_wp2
      go_ret
      exact ⟨rfl, D19.out⟩
theorem three_walk (c : Cf) (a : Int) (w : World) :
    Calls Try.prog 4 #[.agg #[.int .i64 c.f0, .int .i64 c.f1, .int .i64 c.f2, .int .i64 c.f3, .int .i64 c.f4, .int .i64 c.f5, .int .i64 c.f6, .int .i64 c.f7, .int .i64 c.f8, .int .i64 c.f9, .int .i64 c.f10, .int .i64 c.f11], .int .i64 a] w fun e w' => e = .returned (.bool true) ∧ Below w.heap.size w w' := by
  obtain ⟨f0, f1, f2, f3, f4, f5, f6, f7, f8, f9, f10, f11⟩ := c
  by_cases hk : Okc ⟨f0, f1, f2, f3, f4, f5, f6, f7, f8, 0, f10, f11⟩
  · obtain ⟨r, o, s, n, d⟩ := dim hk
    by_cases h : 0 ≤ a ∧ a < n
    · exact three_in ⟨f0, f1, f2, f3, f4, f5, f6, f7, f8, 0, f10, f11⟩ rfl f9 a w hk d h.1 h.2
    · refine three_bad ⟨f0, f1, f2, f3, f4, f5, f6, f7, f8, 0, f10, f11⟩ rfl f9 a w ?_
      by_cases h0 : a < 0
      · exact .inr (.inl h0)
      · exact .inr (.inr ⟨r, o, s, n, d, by omega⟩)
  · exact three_bad ⟨f0, f1, f2, f3, f4, f5, f6, f7, f8, 0, f10, f11⟩ rfl f9 a w (.inl hk)
end Go.Proofs.Ytagdgkimjgomlaa.Ln
