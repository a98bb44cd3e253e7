/- Edges in plain words; TableCircle: its plain law. -/
import Derived.Test.YtagdgkimjgomlaaTb13
namespace Go.Proofs.Ytagdgkimjgomlaa.Ln
open Go.RowKit Go.Proofs.YtagdgkimjgomlaaW.PrintWords Go.Proofs.YtagdgkimjgomlaaW.PrintLast Go.Proofs.YtagdgkimjgomlaaW.PrintMore Go.Proofs.Ytagdgkimjgomlaa.PMd
open Go.Maps
open Go.Sort (grow)
set_option linter.unusedVariables false
set_option linter.unusedSimpArgs false
theorem ok64_to {x : Int} (h : wrap64 x = x) : ok64 x := by
  have h1 := wrap64_wf x
  rw [h] at h1
  exact h1
theorem asc_ext {a b : List Int} (ha : a.Pairwise (· < ·)) (hb : b.Pairwise (· < ·)) (h : ∀ x, x ∈ a ↔ x ∈ b) : a = b := by
  induction a generalizing b with
  | nil => exact (List.eq_nil_iff_forall_not_mem.2 (fun x hx => by have := (h x).2 hx; cases this)).symm
  | cons x a ih =>
    cases b with
    | nil => exact absurd ((h x).1 (List.mem_cons_self ..)) (by simp)
    | cons y b =>
      obtain ⟨ha1, ha2⟩ := List.pairwise_cons.1 ha
      obtain ⟨hb1, hb2⟩ := List.pairwise_cons.1 hb
      have exy : x = y := by
        have h1 := (h x).1 (List.mem_cons_self ..)
        have h2 := (h y).2 (List.mem_cons_self ..)
        rcases List.mem_cons.1 h1 with h1 | h1
        · exact h1
        · rcases List.mem_cons.1 h2 with h2 | h2
          · exact h2.symm
          · have := ha1 y h2; have := hb1 x h1; omega
      subst exy
      rw [ih ha2 hb2 (fun z => ?_)]
      have hz := h z
      rw [List.mem_cons, List.mem_cons] at hz
      constructor
      · intro hm
        rcases hz.1 (.inr hm) with e | e
        · subst e; exact absurd (ha1 z hm) (by omega)
        · exact e
      · intro hm
        rcases hz.2 (.inr hm) with e | e
        · subst e; exact absurd (hb1 z hm) (by omega)
        · exact e
theorem sortedI_asc {l : List Int} (h : l.Nodup) : (sortedI l).Pairwise (· < ·) := by
  have h1 : (sortedI l).Pairwise (fun a b => decide (a ≤ b) = true) := List.pairwise_mergeSort (fun a b c h1 h2 => by simp at *; omega) (fun a b => by simp; omega) l
  have h2 : (sortedI l).Nodup := (List.mergeSort_perm l _).nodup_iff.2 h
  exact List.Pairwise.imp₂ (fun a b h1 h2 => by have h3 := of_decide_eq_true h1; omega) h1 h2
theorem sortedI_mem {l : List Int} {x : Int} : x ∈ sortedI l ↔ x ∈ l := by unfold sortedI; exact List.mem_mergeSort
theorem sortedI_len (l : List Int) : (sortedI l).length = l.length := List.length_mergeSort _
theorem edUp_all (ls : List LS) (f : At) (l : List Int) : edUp ls f (sortedI l) l.length = (sortedI l).flatMap (edT ls f) := by
  unfold edUp
  rw [List.take_of_length_le (by rw [sortedI_len]; exact Nat.le_refl _)]
/-- One edge each. -/
theorem flatM_one {l : List Int} {g : Int → List (Int × Int)} (h : ∀ x ∈ l, (g x).length = 1) : (l.flatMap g).length = l.length := by
  induction l with
  | nil => rfl
  | cons x l ih =>
    rw [List.flatMap_cons, List.length_append, h x (List.mem_cons_self ..), ih (fun y hy => h y (List.mem_cons_of_mem _ hy)), List.length_cons]
    omega
theorem flat_eq {l : List Int} {g : Int → List (Int × Int)} {e : Int → Int × Int} (h : ∀ x ∈ l, g x = [e x]) : l.flatMap g = l.map e := by
  induction l with
  | nil => rfl
  | cons x l ih =>
    rw [List.flatMap_cons, h x (List.mem_cons_self ..), ih (fun y hy => h y (List.mem_cons_of_mem _ hy)), List.map_cons]
    rfl
theorem flatP_get {l : List (Int × Int)} {j : Nat} {p : Int × Int} (h : l[j]? = some p) : (flatP l)[j * 2]? = some (.int .i64 p.1) ∧ (flatP l)[j * 2 + 1]? = some (.int .i64 p.2) := by
  induction l generalizing j with
  | nil => simp at h
  | cons x l ih =>
    have e : flatP (x :: l) = .int .i64 x.1 :: .int .i64 x.2 :: flatP l := rfl
    cases j with
    | zero => obtain rfl : x = p := by simpa using h
              rw [e]; exact ⟨rfl, rfl⟩
    | succ j =>
      obtain ⟨h1, h2⟩ := ih (j := j) (by simpa using h)
      rw [e, show (j + 1) * 2 = j * 2 + 1 + 1 by omega]
      exact ⟨by simpa using h1, by simpa using h2⟩
/-- An edge in memory. -/
theorem Row.edge {w : World} {A : Option Addr} {n c : Nat} {l : List (Int × Int)} (h : Row w 87 2 A n c (flatP l)) {i : Nat} (hn : l.length = n) (hi : i < n) : ∃ g off, A = some ⟨g, off, none⟩ ∧ w.cell? ⟨g, off + i * 2, none⟩ = some (.int .i64 (l.getD i (0, 0)).1) ∧
    w.cell? ⟨g, off + i * 2 + 1, none⟩ = some (.int .i64 (l.getD i (0, 0)).2) := by
  obtain ⟨g, off, cur, rfl, _, _, hc⟩ := h.at_ (by omega)
  have e : l[i]? = some (l.getD i (0, 0)) := by rw [List.getD_eq_getElem?_getD, List.getElem?_eq_getElem (by omega)]; rfl
  obtain ⟨h1, h2⟩ := flatP_get e
  exact ⟨g, off, rfl, (hc _ _ h1).1, by rw [Nat.add_assoc]; exact (hc _ _ h2).1⟩
theorem lenT_le_mul {n c : Nat} {g : Nat → LS} (h : ∀ k, k < n → lenL (g k) ≤ c) : lenT (TM n g) ≤ c * n := by
  have key : ∀ i, i ≤ n → lenT ((TM n g).take i) ≤ c * i := by
    intro i
    induction i with
    | zero => intro _; simp [lenT]
    | succ i ih =>
      intro hi
      rw [len_step (by rw [TM_len]; omega), TM_at (by omega)]
      have := ih (by omega)
      have := h i (by omega)
      rw [Nat.mul_add]; omega
  have := key n (Nat.le_refl _)
  rwa [List.take_of_length_le (by rw [TM_len]; exact Nat.le_refl _)] at this
theorem told_one (a w m : Int) : toldIn [⟨a, m⟩] w = if a = w then m else 0 := by
  unfold toldIn ix
  rw [List.findIdx?_singleton]
  by_cases e : a = w
  · subst e
    simp [rd_T67]
  · simp [e]
theorem fl_one (a w m : Int) : fl [⟨a, m⟩] w = if a = w then [] else [⟨a, m⟩] := by
  unfold fl
  by_cases e : a = w
  · simp [e]
  · simp [e]
theorem fits55 : fitsM 5 5 = false := by decide +kernel
/-- X of another one holds: one waits. -/
theorem ask_block {a w : Int} (h : a ≠ w) : askIn [⟨a, 5⟩] [] w 5 = (2, [⟨a, 5⟩], [⟨w, 5⟩]) := by
  have ht : toldIn [⟨a, 5⟩] w = 0 := by rw [told_one, if_neg h]
  have hs : supM 0 5 = 5 := by decide +kernel
  have hb : askBad [] w 5 = false := rfl
  have hg : askGo [⟨a, 5⟩] [] w 5 = false := by
    unfold askGo
    rw [ht, hs]
    have hf : fitsAll [⟨a, 5⟩] w 5 = false := by unfold fitsAll; simp [h, fits55]
    rw [hf]
    simp
  unfold askIn
  rw [hb, hg, ht, hs]
  unfold aheadOf
  rw [ht]
  rfl
theorem has_one (a b w : Int) : hasIn [⟨a, 5⟩] [⟨b, 5⟩] w = decide (a = w ∨ b = w) := by
  unfold hasIn
  rw [told_one, told_one]
  by_cases h1 : a = w <;> by_cases h2 : b = w <;> simp [h1, h2]
theorem has_alone (a w : Int) : hasIn [⟨a, 5⟩] [] w = decide (a = w) := by
  unfold hasIn
  rw [told_one]
  by_cases h1 : a = w
  · simp [h1]
  · simp [h1]; rfl
theorem blk_x {a b : Int} (h : a ≠ b) : blocksIn [⟨a, 5⟩] [⟨b, 5⟩] b = [a] := by
  have i : ix (fun x => x.f0 == b) ([⟨b, 5⟩] : List E) = 0 := by unfold ix; rw [List.findIdx?_singleton]; simp
  have e : blocksAt [⟨a, 5⟩] [⟨b, 5⟩] b 0 = [a] := by
    unfold blocksAt inWay
    simp [h, fits55]
  unfold blocksIn
  rw [i, if_neg (by decide)]
  show Lib.compact (sortedI (blocksAt _ _ b 0)) = _
  rw [e, sortedI_one]
  rfl
/-! ### the circle -/
def pr (n k : Nat) : Nat := (k + n - 1) % n
def su (n k : Nat) : Nat := (k + 1) % n
theorem su_lt {n k : Nat} (h : 2 ≤ n) : su n k < n := Nat.mod_lt _ (by omega)
theorem pr_lt {n k : Nat} (h : 2 ≤ n) : pr n k < n := Nat.mod_lt _ (by omega)
theorem su_val {n k : Nat} (hk : k < n) : su n k = if k + 1 = n then 0 else k + 1 := by
  unfold su
  split
  · rename_i h; rw [h]; exact Nat.mod_self n
  · exact Nat.mod_eq_of_lt (by omega)
theorem pr_val {n k : Nat} (hk : k < n) : pr n k = if k = 0 then n - 1 else k - 1 := by
  unfold pr
  split
  · rename_i h; subst h; rw [Nat.zero_add]; exact Nat.mod_eq_of_lt (by omega)
  · rw [show k + n - 1 = k - 1 + n by omega, Nat.add_mod_right]; exact Nat.mod_eq_of_lt (by omega)
theorem pr_su {n k : Nat} (h : 2 ≤ n) (hk : k < n) : pr n (su n k) = k := by
  rw [pr_val (su_lt h), su_val hk]
  by_cases e : k + 1 = n
  · rw [if_pos e, if_pos rfl]; omega
  · rw [if_neg e, if_neg (by omega)]; omega
theorem su_pr {n k : Nat} (h : 2 ≤ n) (hk : k < n) : su n (pr n k) = k := by
  rw [su_val (pr_lt h), pr_val hk]
  by_cases e : k = 0
  · rw [if_pos e, if_pos (by omega)]; omega
  · rw [if_neg e, if_neg (by omega)]; omega
theorem su_ne {n k : Nat} (h : 2 ≤ n) (hk : k < n) : su n k ≠ k := by
  rw [su_val hk]; split <;> omega
theorem pr_ne {n k : Nat} (h : 2 ≤ n) (hk : k < n) : pr n k ≠ k := by
  rw [pr_val hk]; split <;> omega
def A15 (n i : Nat) : List LS := TM n (fun k => if k < i then ([⟨k, 5⟩], []) else zL)
def B15l (n i k : Nat) : LS := ([⟨k, 5⟩], if pr n k < i then [⟨(pr n k : Nat), 5⟩] else [])
def B15 (n i : Nat) : List LS := TM n (B15l n i)
def f15 (n i : Nat) : At := fun x => if 0 ≤ x ∧ x < i then some (su n x.toNat) else none
theorem a15_len1 {n i : Nat} (k : Nat) : (if k < i then (([⟨(k : Nat), 5⟩], []) : LS) else zL).1.length + (if k < i then (([⟨(k : Nat), 5⟩], []) : LS) else zL).2.length ≤ 1 ∧ lenL (if k < i then (([⟨(k : Nat), 5⟩], []) : LS) else zL) ≤ 1 := by
  split
  · exact ⟨Nat.le_refl 1, Nat.le_refl 1⟩
  · exact ⟨Nat.zero_le _, Nat.zero_le _⟩
theorem lane_len (s : LS) : lenL s ≤ s.1.length + s.2.length := by
  have := new_le s.1 s.2
  unfold lenL; omega
theorem b15_len1 {n i : Nat} (k : Nat) : (B15l n i k).1.length + (B15l n i k).2.length ≤ 2 := by
  unfold B15l
  dsimp only
  split <;> simp
theorem a15_ask {n i : Nat} (hn : n ≤ 30) (hi : i < n) : askT (A15 n i) 100 f0 (i : Int) (i : Int) 5 = (1, 0, A15 n (i + 1), f0) := by
  have hl : lenT (A15 n i) ≤ 1 * n := lenT_le_mul (fun k _ => (a15_len1 (n := n) k).2)
  rw [ask_at (by unfold A15; rw [TM_len]; exact hi) rfl (by omega) (by decide) (by decide) (show (A15 n i).getD i zL = ([], []) by unfold A15; rw [TM_at hi, if_neg (by omega)]) (.inr (by omega)) (show askIn [] [] (i : Int) 5 = (1, [⟨(i : Int), 5⟩], []) by kernel_rfl)]
  rw [if_neg (by decide)]
  congr 3
  unfold A15
  rw [TM_set hi]
  refine TM_congr (fun k hk => ?_)
  by_cases e : k = i
  · rw [if_pos e, if_pos (by omega), e]
  · rw [if_neg e]
    by_cases h2 : k < i
    · rw [if_pos h2, if_pos (by omega)]
    · rw [if_neg h2, if_neg (by omega)]
theorem a15_b15 (n : Nat) : A15 n n = B15 n 0 := TM_congr (fun k hk => by
  rw [if_pos hk]
  unfold B15l
  rw [if_neg (by omega)])
theorem f15_zero (n : Nat) : f15 n 0 = f0 := funext fun x => if_neg (by omega)
theorem b15_ask {n i : Nat} (h2 : 2 ≤ n) (hn : n ≤ 30) (hi : i < n) : askT (B15 n i) 100 (f15 n i) (i : Int) ((su n i : Nat) : Int) 5 = (2, 0, B15 n (i + 1), f15 n (i + 1)) := by
  have hs := su_lt (k := i) h2
  have hne := su_ne h2 hi
  have hp := pr_su h2 hi
  have hl : lenT (B15 n i) ≤ 2 * n := lenT_le_mul (fun k _ => Nat.le_trans (lane_len _) (b15_len1 k))
  rw [ask_at (by unfold B15; rw [TM_len]; exact hs) (show f15 n i (i : Int) = none from if_neg (by omega)) (by omega) (by decide) (by decide) (show (B15 n i).getD (su n i) zL = ([⟨(su n i : Nat), 5⟩], []) by
    unfold B15 B15l
    rw [TM_at hs, hp, if_neg (by omega)]) (.inr (by omega)) (ask_block (show ((su n i : Nat) : Int) ≠ (i : Int) by omega))]
  rw [if_pos rfl]
  refine congr (congrArg Prod.mk rfl) (congr (congrArg Prod.mk rfl) (congr (congrArg Prod.mk ?_) ?_))
  · unfold B15
    rw [TM_set hs]
    refine TM_congr (fun k hk => ?_)
    unfold B15l
    by_cases e : k = su n i
    · rw [if_pos e, e, hp, if_pos (by omega)]
    · rw [if_neg e]
      have hk2 : pr n k ≠ i := fun h => e (by rw [← h, su_pr h2 hk])
      by_cases h3 : pr n k < i
      · rw [if_pos h3, if_pos (by omega)]
      · rw [if_neg h3, if_neg (by omega)]
  · funext x
    unfold At.put f15
    by_cases e : x = (i : Int)
    · subst e
      rw [if_pos rfl, if_pos (by omega), Int.toNat_natCast]
    · rw [if_neg e]
      by_cases h3 : 0 ≤ x ∧ x < (i : Int)
      · rw [if_pos h3, if_pos (by omega)]
      · rw [if_neg h3, if_neg (by omega)]
theorem b15_again {n i : Nat} (hi : i < n) (j : Nat) : askT (B15 n j) 100 (f15 n (i + 1)) (i : Int) (i : Int) 5 = (0, 5, B15 n j, f15 n (i + 1)) := by
  unfold askT
  have hl : (B15 n j).length = n := TM_len _ _
  rw [if_neg (by rw [hl]; omega), if_pos (by rw [show f15 n (i + 1) (i : Int) = some (su n i) from by unfold f15; rw [if_pos (by omega), Int.toNat_natCast]]; rfl)]
/-- The edges: each one waits for the one ahead. -/
def R15 (n : Nat) : List Int := (List.range n).map (fun (i : Nat) => (i : Int))
theorem r15_mem {n : Nat} {x : Int} : x ∈ R15 n ↔ 0 ≤ x ∧ x < n := by
  unfold R15
  rw [List.mem_map]
  constructor
  · rintro ⟨i, hi, rfl⟩
    rw [List.mem_range] at hi; omega
  · intro h
    exact ⟨x.toNat, List.mem_range.2 (by omega), by omega⟩
theorem r15_asc (n : Nat) : (R15 n).Pairwise (· < ·) := by
  unfold R15
  rw [List.pairwise_map]
  exact List.pairwise_lt_range.imp (fun h => by omega)
theorem f15_some {n : Nat} (hn : n ≤ 30) {x : Int} : (ok64 x ∧ (f15 n n x).isSome = true) ↔ 0 ≤ x ∧ x < n := by
  unfold f15
  constructor
  · rintro ⟨_, h⟩
    by_cases e : 0 ≤ x ∧ x < (n : Int)
    · exact e
    · rw [if_neg e] at h; cases h
  · intro h
    exact ⟨ok64_to (by unfold wrap64; omega), by rw [if_pos h]; rfl⟩
def E15 (n : Nat) : List (Int × Int) := (R15 n).map (fun x => (x, ((su n x.toNat : Nat) : Int)))
theorem e15_at {n i : Nat} (hi : i < n) : (E15 n).getD i (0, 0) = ((i : Int), ((su n i : Nat) : Int)) := by
  unfold E15 R15
  rw [List.getD_eq_getElem?_getD, List.getElem?_map, List.getElem?_map, List.getElem?_range hi]
  rfl
theorem e15_len (n : Nat) : (E15 n).length = n := by simp [E15, R15]
theorem edT15 {n : Nat} (h2 : 2 ≤ n) {x : Int} (hx : 0 ≤ x ∧ x < n) : edT (B15 n n) (f15 n n) x = [(x, ((su n x.toNat : Nat) : Int))] := by
  have hk : x.toNat < n := by omega
  unfold edT
  rw [show f15 n n x = some (su n x.toNat) from if_pos hx]
  dsimp only
  unfold B15
  rw [TM_at (su_lt h2)]
  unfold B15l
  dsimp only
  rw [pr_su h2 hk, if_pos hk]
  have hne := su_ne h2 hk
  have e : ((x.toNat : Nat) : Int) = x := by omega
  rw [e, blk_x (by omega)]
  rfl
theorem edges15 {n : Nat} (h2 : 2 ≤ n) (hn : n ≤ 30) {l : List Int} (h1 : l.Nodup) (hl : ∀ x, x ∈ l ↔ ok64 x ∧ (f15 n n x).isSome = true) : edUp (B15 n n) (f15 n n) (sortedI l) l.length = E15 n := by
  have e : sortedI l = R15 n := asc_ext (sortedI_asc h1) (r15_asc n) (fun x => by rw [sortedI_mem, hl x, f15_some hn, r15_mem])
  rw [edUp_all, e]
  exact flat_eq (fun x hx => edT15 h2 (r15_mem.1 hx))
/-- Behind a Drop. -/
def C15l (n g k : Nat) : LS := if k = g then ([⟨(pr n g : Nat), 5⟩], []) else if k = su n g then ([⟨k, 5⟩], []) else ([⟨k, 5⟩], [⟨(pr n k : Nat), 5⟩])
theorem c15_drop {n g k : Nat} (h2 : 2 ≤ n) (hg : g < n) (hk : k < n) : dropS (g : Int) (B15l n n k) = (if k = g then [((pr n g : Nat) : Int)] else [], C15l n g k) := by
  have hp := pr_lt (k := k) h2
  have hpn := pr_ne h2 hk
  unfold B15l C15l
  rw [if_pos hp]
  unfold dropS
  dsimp only
  rw [has_one]
  by_cases e1 : k = g
  · subst e1
    rw [decide_eq_true (.inl rfl), if_pos rfl, if_pos rfl, if_pos rfl]
    unfold leaveIn
    rw [fl_one, fl_one, if_pos rfl, if_neg (by omega)]
    unfold serveQ
    rw [show fitsAll [] ((pr n k : Nat) : Int) 5 = true from rfl, if_pos rfl]
    unfold serveQ
    rfl
  · rw [if_neg e1, if_neg e1]
    by_cases e2 : k = su n g
    · have hpk : pr n k = g := by rw [e2, pr_su h2 hg]
      rw [if_pos e2, decide_eq_true (.inr (by rw [hpk])), if_pos rfl]
      unfold leaveIn
      rw [fl_one, fl_one, if_neg (by omega), if_pos (by rw [hpk])]
      rfl
    · rw [if_neg e2, decide_eq_false (by
        rintro (h | h)
        · omega
        · exact e2 (by rw [← su_pr h2 hk]; congr 1; omega)), if_neg (by simp)]
theorem c15_out {n g : Nat} (h2 : 2 ≤ n) (hg : g < n) : dropO (B15 n n) (g : Int) 0 = [((pr n g : Nat) : Int)] := by
  have hlen : (B15 n n).length = n := TM_len _ _
  have key : ∀ d i, i + d = n → dropO (B15 n n) (g : Int) i = if i ≤ g then [((pr n g : Nat) : Int)] else [] := by
    intro d
    induction d with
    | zero =>
      intro i hi
      have := dropO_top (B15 n n) (g : Int)
      rw [hlen] at this
      rw [show i = n by omega, this, if_neg (by omega)]
    | succ d ih =>
      intro i hi
      rw [dropO_step (by rw [hlen]; omega), ih (i + 1) (by omega)]
      have e : (B15 n n).getD i zL = B15l n n i := by unfold B15; rw [TM_at (by omega)]
      rw [e, c15_drop h2 hg (by omega)]
      dsimp only
      by_cases e1 : i = g
      · rw [if_neg (by omega), if_pos e1, if_pos (by omega)]; rfl
      · rw [if_neg e1, List.append_nil]
        by_cases e2 : i ≤ g
        · rw [if_pos (by omega), if_pos e2]
        · rw [if_neg (by omega), if_neg e2]
  rw [key n 0 (by omega), if_pos (by omega)]
theorem c15_tab {n g : Nat} (h2 : 2 ≤ n) (hg : g < n) : dropL (B15 n n) (g : Int) 0 = TM n (C15l n g) := by
  unfold B15
  rw [TM_drop]
  exact TM_congr (fun k hk => by rw [c15_drop h2 hg hk])
def g15 (n g : Nat) : At := dropF (B15 n n) (f15 n n) (g : Int)
theorem g15_at {n g : Nat} (h2 : 2 ≤ n) (hg : g < n) (x : Int) : g15 n g x = if x = (g : Int) ∨ x = ((pr n g : Nat) : Int) then none else f15 n n x := by
  unfold g15
  rw [dropF_at, c15_out h2 hg]
  simp
theorem c15_len1 {n g : Nat} (k : Nat) : (C15l n g k).1.length + (C15l n g k).2.length ≤ 2 := by
  unfold C15l
  split
  · exact Nat.le_succ 1
  · split
    · exact Nat.le_succ 1
    · exact Nat.le_refl 2
theorem edT15c {n g : Nat} (h2 : 2 ≤ n) (hg : g < n) {x : Int} (hx : (0 ≤ x ∧ x < n) ∧ x ≠ (g : Int) ∧ x ≠ ((pr n g : Nat) : Int)) : (edT (TM n (C15l n g)) (g15 n g) x).length = 1 := by
  obtain ⟨hx, h3, h4⟩ := hx
  have hk : x.toNat < n := by omega
  unfold edT
  rw [g15_at h2 hg, if_neg (by rintro (h | h); exact h3 h; exact h4 h), show f15 n n x = some (su n x.toNat) from if_pos hx]
  dsimp only
  rw [TM_at (su_lt h2)]
  unfold C15l
  rw [if_neg (fun h => h4 (by rw [← h, pr_su h2 hk]; omega)), if_neg (fun h => by
    have h5 := congrArg (pr n) h
    rw [pr_su h2 hk, pr_su h2 hg] at h5
    omega)]
  dsimp only
  rw [pr_su h2 hk]
  have hne := su_ne h2 hk
  have e : ((x.toNat : Nat) : Int) = x := by omega
  rw [e, blk_x (by omega)]
  rfl
theorem edges15c {n g : Nat} (h2 : 2 ≤ n) (hn : n ≤ 30) (hg : g < n) {l : List Int} (h1 : l.Nodup) (hl : ∀ x, x ∈ l ↔ ok64 x ∧ (g15 n g x).isSome = true) : (edUp (TM n (C15l n g)) (g15 n g) (sortedI l) l.length).length + 2 = n := by
  have hm : ∀ x, x ∈ l ↔ (0 ≤ x ∧ x < n) ∧ x ≠ (g : Int) ∧ x ≠ ((pr n g : Nat) : Int) := fun x => by
    rw [hl x, g15_at h2 hg]
    by_cases e : x = (g : Int) ∨ x = ((pr n g : Nat) : Int)
    · rw [if_pos e]
      constructor
      · rintro ⟨_, h⟩; cases h
      · rintro ⟨_, h3, h4⟩; exact absurd e (by rintro (h | h); exact h3 h; exact h4 h)
    · rw [if_neg e, f15_some hn]
      exact ⟨fun h => ⟨h, fun h3 => e (.inl h3), fun h4 => e (.inr h4)⟩, fun h => h.1⟩
  rw [edUp_all, flatM_one (fun x hx => edT15c h2 hg ((hm x).1 (sortedI_mem.1 hx))), sortedI_len]
  have hp := pr_lt (k := g) h2
  have hpn := pr_ne h2 hg
  have hnd : ((g : Int) :: ((pr n g : Nat) : Int) :: l).Nodup := by
    refine List.nodup_cons.2 ⟨fun h => ?_, List.nodup_cons.2 ⟨fun h => ((hm _).1 h).2.2 rfl, h1⟩⟩
    rcases List.mem_cons.1 h with h | h
    · omega
    · exact ((hm _).1 h).2.1 rfl
  have hnr : (R15 n).Nodup := (r15_asc n).imp (fun h => by omega)
  have l1 := nodup_len (b := R15 n) hnd (fun x hx => by
    rw [r15_mem]
    rcases List.mem_cons.1 hx with rfl | hx
    · omega
    · rcases List.mem_cons.1 hx with rfl | hx
      · omega
      · exact ((hm x).1 hx).1)
  have l2 := nodup_len (b := (g : Int) :: ((pr n g : Nat) : Int) :: l) hnr (fun x hx => by
    rw [r15_mem] at hx
    rw [List.mem_cons, List.mem_cons, hm x]
    by_cases e1 : x = (g : Int)
    · exact .inl e1
    · by_cases e2 : x = ((pr n g : Nat) : Int)
      · exact .inr (.inl e2)
      · exact .inr (.inr ⟨hx, e1, e2⟩))
  have l3 : (R15 n).length = n := by simp [R15]
  rw [List.length_cons, List.length_cons] at l1 l2
  omega
theorem c15_holds {n g : Nat} (h2 : 2 ≤ n) (hg : g < n) : holdsT (TM n (C15l n g)) ((pr n g : Nat) : Int) (g : Int) = 5 := by
  unfold holdsT
  rw [if_pos ⟨by omega, by rw [TM_len]; omega⟩, Int.toNat_natCast, TM_at hg]
  unfold C15l
  rw [if_pos rfl]
  dsimp only
  rw [told_one, if_pos rfl]
theorem g15_lt {n g : Nat} (h2 : 2 ≤ n) (hg : g < n) : ∀ x k, g15 n g x = some k → k < (TM n (C15l n g)).length := fun x k h => by
  rw [TM_len]
  rw [g15_at h2 hg] at h
  split at h
  · cases h
  · unfold f15 at h
    split at h
    · injection h with h; rw [← h]; exact su_lt h2
    · cases h
theorem f15_lt {n : Nat} (h2 : 2 ≤ n) : ∀ x k, f15 n n x = some k → k < (B15 n n).length := fun x k h => by
  rw [show (B15 n n).length = n from TM_len _ _]
  unfold f15 at h
  split at h
  · injection h with h; rw [← h]; exact su_lt h2
  · cases h
end Go.Proofs.Ytagdgkimjgomlaa.Ln
