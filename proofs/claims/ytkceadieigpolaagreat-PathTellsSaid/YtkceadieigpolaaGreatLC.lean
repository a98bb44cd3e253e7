import Derived.Test.YtkceadieigpolaaGreatLB
import Derived.Test.YtkceadieigpolaaGreatLnSortI
import Derived.Shelf.Slices.In.SortNone
import Derived.Test.YtkceadieigpolaaGreatLA
namespace Go.Proofs.YtkceadieigpolaaGreat.Ln
open Go.RowKit Go.Proofs.YtkceadieigpolaaGreatW.PrintWords Go.Proofs.YtkceadieigpolaaGreatW.PrintLast Go.Proofs.YtkceadieigpolaaGreatW.PrintMore Go.Proofs.YtkceadieigpolaaGreat.PMd
open Go.Sort (putRow putCells mapBlock onCells grow Holds)
set_option linter.unusedVariables false
set_option linter.unusedSimpArgs false
def sortedI (l : List Int) : List Int := l.mergeSort fun x y => decide (x ≤ y)
end Go.Proofs.YtkceadieigpolaaGreat.Ln
namespace Go.Proofs.YtkceadieigpolaaGreat.Ln
open Go.RowKit Go.Proofs.YtkceadieigpolaaGreatW.PrintWords Go.Proofs.YtkceadieigpolaaGreatW.PrintLast Go.Proofs.YtkceadieigpolaaGreatW.PrintMore Go.Proofs.YtkceadieigpolaaGreat.PMd
open Go.Sort (grow)
set_option linter.unusedVariables false
set_option linter.unusedSimpArgs false
def inWay (who t : Int) (y : E) : Bool := !(y.f0 == who) && !fitsM y.f1 t
def blocksAt (hs qs : List E) (who : Int) (i : Nat) : List Int := (qs.take i).map (·.f0) ++ (hs.filter (inWay who (qs.getD i z94).f1)).map (·.f0)
def blocksIn (hs qs : List E) (who : Int) : List Int :=
  if ix (fun x => x.f0 == who) qs < 0 then [] else Lib.compact (sortedI (blocksAt hs qs who (ix (fun x => x.f0 == who) qs).toNat))
end Go.Proofs.YtkceadieigpolaaGreat.Ln
namespace Go.Proofs.YtkceadieigpolaaGreat.Ln
open Go.RowKit Go.Proofs.YtkceadieigpolaaGreatW.PrintWords Go.Proofs.YtkceadieigpolaaGreatW.PrintLast Go.Proofs.YtkceadieigpolaaGreatW.PrintMore Go.Proofs.YtkceadieigpolaaGreat.PMd
set_option linter.unusedVariables false
set_option linter.unusedSimpArgs false
def Live (w0 w : World) (b : Nat) (hs qs : List E) : Prop := IsLane w b (fun k => w0.heap.size ≤ k) hs qs ∧ Asc hs ∧ Below w0.heap.size w0 w
section
variable {w0 w w' : World} {b : Nat} {hs qs : List E}
theorem Live.below (h : Live w0 w b hs qs) (hb : Below w.heap.size w w') : Live w0 w' b hs qs := ⟨h.1.below hb, h.2.1, below_then h.2.2 h.2.2.size hb⟩
theorem Live.alloc (h : Live w0 w b hs qs) (o : Obj) : Live w0 (w.alloc o) b hs qs := h.below (below_alloc (Below.refl _ _) o)
end
theorem asc_ask {hs qs : List E} {who m : Int} (h : Asc hs) : Asc (askIn hs qs who m).2.1 := by
  unfold askIn
  split
  · exact h
  · split
    · exact asc_grants h
    · exact h
theorem asc_serve (hs qs : List E) (h : Asc hs) : Asc (serveQ hs qs).2.1 := by
  induction qs generalizing hs with
  | nil => exact h
  | cons x qs ih =>
    unfold serveQ
    split
    · exact ih _ (asc_grants h)
    · exact h
theorem asc_leave {hs qs : List E} {who : Int} (h : Asc hs) : Asc (leaveIn hs qs who).2.1 := asc_serve _ _ (List.Pairwise.filter _ h)
theorem Row.readsI {w : World} {A : Option Addr} {c : Nat} {l : List Int} (h : Row w 3 1 A l.length c (ints l)) : Kd.C (Kd.int .i64) w A l.length l := by
  refine ⟨rfl, by have h1 := h.2.1; have h2 := h.2.2.1; unfold maxLen at h2; omega, fun hn => ?_⟩
  obtain ⟨g, off, cur, rfl, _, _, hc⟩ := h.at_ hn
  refine ⟨_, rfl, fun j p hj => ⟨[.int .i64 p], rfl, rfl, fun i u hu => ?_⟩⟩
  rw [Addr.add_lit]
  match i, hu with
  | 0, hu => obtain rfl : Value.int .i64 p = u := by simpa using hu
             rw [Nat.add_zero]
             show w.cell? ⟨g, off + j * 1, none⟩ = _
             rw [Nat.mul_one]
             exact (hc j _ (by simp [ints, hj])).1
  | i + 1, hu => simp at hu
end Go.Proofs.YtkceadieigpolaaGreat.Ln
namespace Go.Proofs.YtkceadieigpolaaGreat.Ln
open Go.RowKit Go.Proofs.YtkceadieigpolaaGreatW.PrintWords Go.Proofs.YtkceadieigpolaaGreatW.PrintLast Go.Proofs.YtkceadieigpolaaGreatW.PrintMore Go.Proofs.YtkceadieigpolaaGreat.PMd
set_option linter.unusedVariables false
set_option linter.unusedSimpArgs false
theorem f1 : askIn [] [] 1 3 = (1, [⟨1, 3⟩], []) := by kernel_rfl
theorem f2 : askIn [⟨1, 3⟩] [] 2 3 = (1, [⟨1, 3⟩, ⟨2, 3⟩], []) := by kernel_rfl
theorem f3 : askIn [⟨1, 3⟩, ⟨2, 3⟩] [] 1 5 = (2, [⟨1, 3⟩, ⟨2, 3⟩], [⟨1, 5⟩]) := by kernel_rfl
theorem f4 : askIn [⟨1, 3⟩, ⟨2, 3⟩] [⟨1, 5⟩] 2 5 = (2, [⟨1, 3⟩, ⟨2, 3⟩], [⟨1, 5⟩, ⟨2, 5⟩]) := by kernel_rfl
theorem sortedI_of {l : List Int} (h : l.Pairwise (· ≤ ·)) : sortedI l = l := by
  unfold sortedI
  exact List.mergeSort_of_pairwise (h.imp (fun h => by simpa using h))
theorem f5 : blocksIn [⟨1, 3⟩, ⟨2, 3⟩] [⟨1, 5⟩, ⟨2, 5⟩] 1 = [2] := by
  have e : blocksAt [⟨1, 3⟩, ⟨2, 3⟩] [⟨1, 5⟩, ⟨2, 5⟩] 1 0 = [2] := by kernel_rfl
  have i : ix (fun x => x.f0 == 1) ([⟨1, 5⟩, ⟨2, 5⟩] : List E) = 0 := by kernel_rfl
  unfold blocksIn
  rw [i, if_neg (by decide)]
  show Lib.compact (sortedI (blocksAt _ _ 1 0)) = _
  rw [e, sortedI_of (by simp)]
  kernel_rfl
theorem f6 : blocksIn [⟨1, 3⟩, ⟨2, 3⟩] [⟨1, 5⟩, ⟨2, 5⟩] 2 = [1] := by
  have e : blocksAt [⟨1, 3⟩, ⟨2, 3⟩] [⟨1, 5⟩, ⟨2, 5⟩] 2 1 = [1, 1] := by kernel_rfl
  have i : ix (fun x => x.f0 == 2) ([⟨1, 5⟩, ⟨2, 5⟩] : List E) = 1 := by kernel_rfl
  unfold blocksIn
  rw [i, if_neg (by decide)]
  show Lib.compact (sortedI (blocksAt _ _ 2 1)) = _
  rw [e, sortedI_of (by simp)]
  kernel_rfl
end Go.Proofs.YtkceadieigpolaaGreat.Ln
namespace Go.Proofs.YtkceadieigpolaaGreat.Ln
open Go.RowKit Go.Proofs.YtkceadieigpolaaGreatW.PrintWords Go.Proofs.YtkceadieigpolaaGreatW.PrintLast Go.Proofs.YtkceadieigpolaaGreatW.PrintMore Go.Proofs.YtkceadieigpolaaGreat.PMd
set_option linter.unusedVariables false
set_option linter.unusedSimpArgs false
theorem told_cases (l : List E) (who : Int) : (toldIn l who = 0 ∧ ∀ x ∈ l, x.f0 ≠ who) ∨ ∃ x ∈ l, x.f0 = who ∧ toldIn l who = x.f1 := by
  unfold toldIn
  by_cases h : ix (fun x => x.f0 == who) l ≥ 0
  · obtain ⟨i, hi⟩ : ∃ i : Nat, ix (fun x => x.f0 == who) l = (i : Int) := ⟨_, (Int.toNat_of_nonneg h).symm⟩
    obtain ⟨h1, h2, _⟩ := ix_hit' hi
    refine .inr ⟨l.getD i z94, ?_, by simpa using h2, ?_⟩
    · rw [List.getD_eq_getElem?_getD, List.getElem?_eq_getElem h1]; exact List.getElem_mem h1
    · rw [if_pos h, hi]; simp [rd_T94]
  · refine .inl ⟨if_neg h, fun x hx hw => ?_⟩
    have := ix_none (by omega : ix (fun x => x.f0 == who) l < 0) x hx
    simp [hw] at this
def Dis (l : List E) : Prop := l.Pairwise fun a b => a.f0 ≠ b.f0
theorem Asc.dis {l : List E} (h : Asc l) : Dis l := List.Pairwise.imp (fun h => by omega) h
theorem dis_eq {l : List E} (h : Dis l) {x y : E} (hx : x ∈ l) (hy : y ∈ l) (e : x.f0 = y.f0) : x = y := by
  induction l with
  | nil => cases hx
  | cons z l ih =>
    obtain ⟨h1, h2⟩ := List.pairwise_cons.1 h
    rcases List.mem_cons.1 hx with rfl | hx'
    · rcases List.mem_cons.1 hy with rfl | hy'
      · rfl
      · exact absurd e (h1 y hy')
    · rcases List.mem_cons.1 hy with rfl | hy'
      · exact absurd e.symm (h1 x hx')
      · exact ih h2 hx' hy'
theorem told_mem {l : List E} (h : Dis l) {x : E} (hx : x ∈ l) : toldIn l x.f0 = x.f1 := by
  rcases told_cases l x.f0 with ⟨_, h2⟩ | ⟨y, hy, e, h2⟩
  · exact absurd rfl (h2 x hx)
  · rw [h2, dis_eq h hy hx e]
theorem told_no {l : List E} {who : Int} (h : ∀ x ∈ l, x.f0 ≠ who) : toldIn l who = 0 := by
  rcases told_cases l who with ⟨h1, _⟩ | ⟨y, hy, e, _⟩
  · exact h1
  · exact absurd e (h y hy)
theorem told_same {l l' : List E} {who : Int} (hd : Dis l) (hd' : Dis l') (h : ∀ y : E, y.f0 = who → (y ∈ l ↔ y ∈ l')) : toldIn l who = toldIn l' who := by
  rcases told_cases l who with ⟨h1, h2⟩ | ⟨y, hy, e, h2⟩
  · rw [h1, told_no (fun x hx hw => h2 x ((h x hw).2 hx) hw)]
  · have := told_mem hd' ((h y e).1 hy)
    rw [e] at this
    rw [h2, this]
theorem ix_yes {l : List E} {who : Int} : ix (fun x => x.f0 == who) l ≥ 0 ↔ ∃ x ∈ l, x.f0 = who := by
  have := ix_any (fun x : E => x.f0 == who) l
  constructor
  · intro h
    rw [decide_eq_true h] at this
    obtain ⟨x, hx, hp⟩ := List.any_eq_true.1 this.symm
    exact ⟨x, hx, by simpa using hp⟩
  · rintro ⟨x, hx, hp⟩
    have h2 : l.any (fun x : E => x.f0 == who) = true := List.any_eq_true.2 ⟨x, hx, by simpa using hp⟩
    rw [h2] at this
    exact of_decide_eq_true this
theorem fl_mem {l : List E} {who : Int} {y : E} : y ∈ fl l who ↔ y ∈ l ∧ y.f0 ≠ who := by
  unfold fl
  rw [List.mem_filter]
  simp
theorem insAt_perm (l : List E) (i : Nat) (x : E) : (insAt l i x).Perm (x :: l) := by
  unfold insAt
  have h := @List.perm_middle _ x (l.take i) (l.drop i)
  rwa [List.take_append_drop] at h
theorem insAt_mem {l : List E} {i : Nat} {x y : E} : y ∈ insAt l i x ↔ y = x ∨ y ∈ l := by
  rw [(insAt_perm l i x).mem_iff, List.mem_cons]
theorem grants_mem {hs : List E} {who m : Int} (ha : Asc hs) {y : E} : y ∈ grantsIn hs who m ↔ y = ⟨who, m⟩ ∨ (y ∈ hs ∧ y.f0 ≠ who) := by
  unfold grantsIn
  by_cases h : ix (fun x => x.f0 == who) hs ≥ 0
  · rw [if_pos h]
    obtain ⟨i, hi⟩ : ∃ i : Nat, ix (fun x => x.f0 == who) hs = (i : Int) := ⟨_, (Int.toNat_of_nonneg h).symm⟩
    obtain ⟨h1, h2, _⟩ := ix_hit' hi
    rw [hi, Int.toNat_natCast]
    have hw : (hs.getD i z94).f0 = who := by simpa using h2
    have hm : hs.getD i z94 ∈ hs := by rw [List.getD_eq_getElem?_getD, List.getElem?_eq_getElem h1]; exact List.getElem_mem h1
    rw [hw]
    constructor
    · intro hy
      obtain ⟨k, hk⟩ := List.mem_iff_getElem?.1 hy
      rw [List.getElem?_set] at hk
      by_cases hik : i = k
      · subst hik
        rw [if_pos rfl, if_pos h1] at hk
        exact .inl (Option.some.inj hk).symm
      · rw [if_neg hik] at hk
        have hy' : y ∈ hs := List.mem_of_getElem? hk
        refine .inr ⟨hy', fun hyw => hik ?_⟩
        have e := dis_eq ha.dis hm hy' (hw.trans hyw.symm)
        have hk1 : k < hs.length := (List.getElem?_eq_some_iff.1 hk).1
        have e1 : hs[i] = hs[k] := by
          have e2 : hs[k] = y := (List.getElem?_eq_some_iff.1 hk).2
          rw [e2, ← e, List.getD_eq_getElem?_getD, List.getElem?_eq_getElem h1]; rfl
        rcases Nat.lt_trichotomy i k with hlt | heq | hgt
        · have := List.pairwise_iff_getElem.1 ha i k h1 hk1 hlt
          rw [e1] at this; omega
        · exact heq
        · have := List.pairwise_iff_getElem.1 ha k i hk1 h1 hgt
          rw [e1] at this; omega
    · rintro (rfl | ⟨hy, hyw⟩)
      · exact List.mem_iff_getElem?.2 ⟨i, by rw [List.getElem?_set, if_pos rfl, if_pos h1]⟩
      · obtain ⟨k, hk⟩ := List.mem_iff_getElem?.1 hy
        refine List.mem_iff_getElem?.2 ⟨k, ?_⟩
        rw [List.getElem?_set, if_neg ?_]
        · exact hk
        · rintro rfl
          apply hyw
          rw [← hw, List.getD_eq_getElem?_getD, hk]; rfl
  · rw [if_neg h, (insE_perm hs ⟨who, m⟩).mem_iff, List.mem_append, List.mem_singleton]
    have hn := fun x hx hw => h (ix_yes.2 ⟨x, hx, hw⟩)
    constructor
    · rintro (hy | hy)
      · exact .inr ⟨hy, hn y hy⟩
      · exact .inl hy
    · rintro (hy | ⟨hy, _⟩)
      · exact .inr hy
      · exact .inl hy
theorem fitsAll_iff {hs : List E} {who t : Int} : fitsAll hs who t = true ↔ ∀ x ∈ hs, x.f0 ≠ who → fitsM x.f1 t = true := by
  unfold fitsAll
  rw [Bool.not_eq_true', List.any_eq_false]
  constructor
  · intro h x hx hw
    have := h x hx
    cases hf : fitsM x.f1 t <;> simp [hw, hf] at this ⊢
  · intro h x hx
    by_cases hw : x.f0 = who
    · simp [hw]
    · simp [h x hx hw]
theorem fitsAll_no {hs : List E} {who t : Int} (h : fitsAll hs who t = false) : ∃ x ∈ hs, x.f0 ≠ who ∧ fitsM x.f1 t = false := by
  apply Classical.byContradiction
  intro hn
  have : fitsAll hs who t = true := fitsAll_iff.2 (fun x hx hw => by
    cases hf : fitsM x.f1 t with
    | true => rfl
    | false => exact absurd ⟨x, hx, hw, hf⟩ hn)
  rw [h] at this
  cases this
abbrev md (a : Int) : Prop := 0 ≤ a ∧ a ≤ 5
theorem fin6 {a : Int} (h : md a) : ∃ n : Fin 6, a = (n.val : Int) := ⟨⟨a.toNat, by omega⟩, by simp; omega⟩
theorem fits_symm_f : ∀ a b : Fin 6, fitsM (a.val : Int) (b.val : Int) = fitsM (b.val : Int) (a.val : Int) := by decide +kernel
theorem sup_md_f : ∀ a b : Fin 6, md (supM (a.val : Int) (b.val : Int)) ∧ (b.val ≠ 0 → supM (a.val : Int) (b.val : Int) ≠ 0) := by decide +kernel
theorem sup_abs_f : ∀ a b : Fin 6, supM (supM (a.val : Int) (b.val : Int)) (a.val : Int) = supM (a.val : Int) (b.val : Int) ∧ supM (supM (a.val : Int) (b.val : Int)) (b.val : Int) = supM (a.val : Int) (b.val : Int) := by decide +kernel
theorem fits_mono_f : ∀ a b c : Fin 6, fitsM (supM (a.val : Int) (b.val : Int)) (c.val : Int) = true → fitsM (a.val : Int) (c.val : Int) = true := by decide +kernel
theorem fits_symm {a b : Int} (ha : md a) (hb : md b) : fitsM a b = fitsM b a := by
  obtain ⟨x, rfl⟩ := fin6 ha; obtain ⟨y, rfl⟩ := fin6 hb; exact fits_symm_f x y
theorem sup_md {a b : Int} (ha : md a) (hb : md b) : md (supM a b) := by obtain ⟨x, rfl⟩ := fin6 ha; obtain ⟨y, rfl⟩ := fin6 hb; exact (sup_md_f x y).1
theorem sup_pos {a b : Int} (ha : md a) (hb : md b) (h : b ≠ 0) : supM a b ≠ 0 := by
  obtain ⟨x, rfl⟩ := fin6 ha; obtain ⟨y, rfl⟩ := fin6 hb; exact (sup_md_f x y).2 (by omega)
theorem sup_abs {a b : Int} (ha : md a) (hb : md b) : supM (supM a b) a = supM a b := by obtain ⟨x, rfl⟩ := fin6 ha; obtain ⟨y, rfl⟩ := fin6 hb; exact (sup_abs_f x y).1
theorem fits_mono {a b c : Int} (ha : md a) (hb : md b) (hc : md c) (h : fitsM (supM a b) c = true) : fitsM a c = true := by
  obtain ⟨x, rfl⟩ := fin6 ha; obtain ⟨y, rfl⟩ := fin6 hb; obtain ⟨z, rfl⟩ := fin6 hc; exact fits_mono_f x y z h
structure InvS (hs qs : List E) : Prop where
  asc : Asc hs
  dq : Dis qs
  mh : ∀ x ∈ hs, md x.f1 ∧ x.f1 ≠ 0
  mq : ∀ x ∈ qs, md x.f1 ∧ x.f1 ≠ 0
  fit : ∀ x ∈ hs, ∀ y ∈ hs, x.f0 ≠ y.f0 → fitsM x.f1 y.f1 = true
  conv : qs.Pairwise fun a b => toldIn hs b.f0 ≠ 0 → toldIn hs a.f0 ≠ 0
  cov : ∀ x ∈ qs, supM x.f1 (toldIn hs x.f0) = x.f1
structure Inv (hs qs : List E) : Prop extends InvS hs qs where
  head : ∀ x l, qs = x :: l → fitsAll hs x.f0 x.f1 = false
theorem inv_nil : Inv [] [] := ⟨⟨List.Pairwise.nil, List.Pairwise.nil, nofun, nofun, nofun, List.Pairwise.nil, nofun⟩, nofun⟩
theorem InvS.told_md {hs qs : List E} (h : InvS hs qs) (who : Int) : md (toldIn hs who) := by
  rcases told_cases hs who with ⟨h1, _⟩ | ⟨x, hx, _, h1⟩
  · rw [h1]; exact ⟨by decide, by decide⟩
  · rw [h1]; exact (h.mh x hx).1
theorem told_grants_ne {hs : List E} (ha : Asc hs) {who m k : Int} (hk : k ≠ who) : toldIn (grantsIn hs who m) k = toldIn hs k :=
  told_same (asc_grants ha).dis ha.dis (fun y hy => by
    rw [grants_mem ha]
    constructor
    · rintro (rfl | h)
      · exact absurd hy.symm hk
      · exact h.1
    · intro h
      exact .inr ⟨h, fun e => hk (hy.symm.trans e)⟩)
theorem pair_imp {l : List E} {R S : E → E → Prop} (h : l.Pairwise R) (hi : ∀ a ∈ l, ∀ b ∈ l, R a b → S a b) : l.Pairwise S :=
  List.Pairwise.imp_of_mem (fun ha hb => hi _ ha _ hb) h
theorem InvS.grant {hs qs : List E} (h : InvS hs qs) {who m : Int} (hm : md m) (h0 : m ≠ 0) (hf : fitsAll hs who m = true) (hq : ∀ x ∈ qs, x.f0 ≠ who) : InvS (grantsIn hs who m) qs := by
  refine ⟨asc_grants h.asc, h.dq, ?_, h.mq, ?_, ?_, ?_⟩
  · intro x hx
    rcases (grants_mem h.asc).1 hx with rfl | ⟨hx, _⟩
    · exact ⟨hm, h0⟩
    · exact h.mh x hx
  · intro x hx y hy hne
    rcases (grants_mem h.asc).1 hx with rfl | ⟨hx, hxw⟩
    · rcases (grants_mem h.asc).1 hy with rfl | ⟨hy, hyw⟩
      · exact absurd rfl hne
      · have := fitsAll_iff.1 hf y hy hyw
        rw [fits_symm hm (h.mh y hy).1]
        exact this
    · rcases (grants_mem h.asc).1 hy with rfl | ⟨hy, hyw⟩
      · exact fitsAll_iff.1 hf x hx hxw
      · exact h.fit x hx y hy hne
  · refine pair_imp h.conv (fun a ha b hb hab => ?_)
    rw [told_grants_ne h.asc (hq a ha), told_grants_ne h.asc (hq b hb)]
    exact hab
  · intro x hx
    rw [told_grants_ne h.asc (hq x hx)]
    exact h.cov x hx
theorem InvS.fl {hs qs : List E} (h : InvS hs qs) (who : Int) : InvS (fl hs who) (fl qs who) := by
  have ha : Asc (Ln.fl hs who) := List.Pairwise.filter _ h.asc
  have ht : ∀ k, k ≠ who → toldIn (Ln.fl hs who) k = toldIn hs k := fun k hk =>
    told_same ha.dis h.asc.dis (fun y hy => by rw [fl_mem]; exact ⟨fun h => h.1, fun h => ⟨h, fun e => hk (hy.symm.trans e)⟩⟩)
  refine ⟨ha, List.Pairwise.filter _ h.dq, fun x hx => h.mh x (fl_mem.1 hx).1, fun x hx => h.mq x (fl_mem.1 hx).1, fun x hx y hy => h.fit x (fl_mem.1 hx).1 y (fl_mem.1 hy).1, ?_, ?_⟩
  · refine pair_imp (List.Pairwise.filter _ h.conv) (fun a ha b hb hab => ?_)
    rw [ht a.f0 (fl_mem.1 ha).2, ht b.f0 (fl_mem.1 hb).2]
    exact hab
  · intro x hx
    rw [ht x.f0 (fl_mem.1 hx).2]
    exact h.cov x (fl_mem.1 hx).1
theorem InvS.tail {hs qs : List E} {x : E} (h : InvS hs (x :: qs)) : InvS hs qs :=
  ⟨h.asc, (List.pairwise_cons.1 h.dq).2, h.mh, fun y hy => h.mq y (List.mem_cons_of_mem _ hy), h.fit, (List.pairwise_cons.1 h.conv).2, fun y hy => h.cov y (List.mem_cons_of_mem _ hy)⟩
theorem serve_spec (hs qs : List E) (h : InvS hs qs) : ∃ n, n ≤ qs.length ∧ (serveQ hs qs).1 = (qs.take n).map (·.f0) ∧ (serveQ hs qs).2.2 = qs.drop n ∧ Inv (serveQ hs qs).2.1 (serveQ hs qs).2.2 ∧
    (∀ y, y ∈ (serveQ hs qs).2.1 ↔ y ∈ qs.take n ∨ (y ∈ hs ∧ ∀ x ∈ qs.take n, x.f0 ≠ y.f0)) ∧ (serveQ hs qs).2.1.length ≤ hs.length + n := by
  induction qs generalizing hs with
  | nil => exact ⟨0, Nat.le_refl _, rfl, rfl, ⟨h, nofun⟩, fun y => by simp [serveQ], by simp [serveQ]⟩
  | cons x qs ih =>
    unfold serveQ
    cases hf : fitsAll hs x.f0 x.f1 with
    | false =>
      refine ⟨0, Nat.zero_le _, rfl, rfl, ⟨h, ?_⟩, fun y => by simp, by simp⟩
      intro y l e
      obtain ⟨rfl, rfl⟩ := List.cons.inj e
      exact hf
    | true =>
      have hx := h.mq x (List.mem_cons_self ..)
      have hne := (List.pairwise_cons.1 h.dq).1
      have hg : InvS (grantsIn hs x.f0 x.f1) qs := h.tail.grant hx.1 hx.2 hf (fun y hy => (hne y hy).symm)
      obtain ⟨n, hn, h1, h2, h3, h4, h5⟩ := ih _ hg
      refine ⟨n + 1, by simpa using hn, ?_, ?_, h3, ?_, ?_⟩
      · show x.f0 :: _ = _
        rw [List.take_succ_cons, List.map_cons, h1]
      · rw [List.drop_succ_cons]; exact h2
      · intro y
        rw [if_pos rfl]
        show y ∈ (serveQ (grantsIn hs x.f0 x.f1) qs).2.1 ↔ _
        rw [h4, grants_mem h.asc, List.take_succ_cons]
        constructor
        · rintro (hy | ⟨rfl | ⟨hy, hyw⟩, hall⟩)
          · exact .inl (List.mem_cons_of_mem _ hy)
          · exact .inl (List.mem_cons_self ..)
          · refine .inr ⟨hy, fun z hz => ?_⟩
            rcases List.mem_cons.1 hz with rfl | hz
            · exact fun e => hyw e.symm
            · exact hall z hz
        · rintro (hy | ⟨hy, hall⟩)
          · rcases List.mem_cons.1 hy with rfl | hy
            · exact .inr ⟨.inl rfl, fun z hz => (hne z (List.mem_of_mem_take hz)).symm⟩
            · exact .inl hy
          · exact .inr ⟨.inr ⟨hy, fun e => hall x (List.mem_cons_self ..) e.symm⟩, fun z hz => hall z (List.mem_cons_of_mem _ hz)⟩
      · rw [if_pos rfl]
        show (serveQ (grantsIn hs x.f0 x.f1) qs).2.1.length ≤ _
        have := grants_len hs x.f0 x.f1
        omega
theorem convs_le (hs qs : List E) : convs hs qs ≤ qs.length := by
  unfold convs
  exact List.Sublist.length_le (List.takeWhile_sublist _)
theorem ahead_le (hs qs : List E) (who : Int) : aheadOf hs qs who ≤ qs.length := by
  unfold aheadOf
  split
  · exact Nat.le_refl _
  · exact convs_le hs qs
theorem convs_take (hs qs : List E) : ∀ x ∈ qs.take (convs hs qs), toldIn hs x.f0 ≠ 0 := by
  unfold convs
  induction qs with
  | nil => simp
  | cons y qs ih =>
    rw [List.takeWhile_cons]
    by_cases hy : toldIn hs y.f0 = 0
    · simp [hy]
    · rw [if_pos (by simpa using hy), List.length_cons, List.take_succ_cons]
      intro x hx
      rcases List.mem_cons.1 hx with rfl | hx
      · exact hy
      · exact ih x hx
theorem grants_same {hs : List E} (ha : Asc hs) {who : Int} (h : toldIn hs who ≠ 0) : grantsIn hs who (toldIn hs who) = hs := by
  refine (asc_unique ?_ (asc_grants ha) ha)
  have nd : ∀ {l : List E}, Dis l → l.Nodup := fun h => List.Pairwise.imp (fun h e => h (by rw [e])) h
  refine (List.perm_ext_iff_of_nodup (nd (asc_grants ha).dis) (nd ha.dis)).2 (fun y => ?_)
  rw [grants_mem ha]
  rcases told_cases hs who with ⟨h1, _⟩ | ⟨x, hx, e, h1⟩
  · exact absurd h1 h
  · rw [h1]
    constructor
    · rintro (rfl | hy)
      · rw [← e]; exact hx
      · exact hy.1
    · intro hy
      by_cases hw : y.f0 = who
      · rw [dis_eq ha.dis hy hx (hw.trans e.symm), ← e]; exact .inl rfl
      · exact .inr ⟨hy, hw⟩
theorem inv_ask {hs qs : List E} (h : Inv hs qs) (who m : Int) : Inv (askIn hs qs who m).2.1 (askIn hs qs who m).2.2 := by
  unfold askIn
  cases hb : askBad qs who m with
  | true => exact h
  | false =>
    have hb' : md m ∧ m ≠ 0 ∧ ∀ x ∈ qs, x.f0 ≠ who := by
      unfold askBad knownM at hb
      simp only [Bool.or_eq_false_iff, Bool.not_eq_false', decide_eq_true_eq, beq_eq_false_iff_ne, decide_eq_false_iff_not] at hb
      exact ⟨hb.1.1, hb.1.2, fun x hx hw => hb.2 (ix_yes.2 ⟨x, hx, hw⟩)⟩
    obtain ⟨hm, h0, hq⟩ := hb'
    have ht := h.toInvS.told_md who
    have hT := sup_md ht hm
    have hT0 := sup_pos ht hm h0
    rw [if_neg (by simp)]
    cases hg : askGo hs qs who m with
    | true =>
      rw [if_pos rfl]
      unfold askGo at hg
      rw [Bool.or_eq_true] at hg
      by_cases he : supM (toldIn hs who) m = toldIn hs who
      · show Inv (grantsIn hs who _) qs
        rw [he, grants_same h.asc (by rw [← he]; exact hT0)]
        exact h
      · have hg2 : aheadOf hs qs who = 0 ∧ fitsAll hs who (supM (toldIn hs who) m) = true := by
          rcases hg with hg | hg
          · exact absurd (by simpa using hg) he
          · simpa using hg
        refine ⟨h.toInvS.grant hT hT0 hg2.2 hq, ?_⟩
        intro x l e
        replace e : qs = x :: l := e
        obtain ⟨z, hz, hzx, hzf⟩ := fitsAll_no (h.head x l e)
        have hxq : x ∈ qs := by rw [e]; exact List.mem_cons_self ..
        cases hn : fitsAll (grantsIn hs who (supM (toldIn hs who) m)) x.f0 x.f1 with
        | false => rfl
        | true =>
          have hall := fitsAll_iff.1 hn
          by_cases hzw : z.f0 = who
          · have e1 : toldIn hs who = z.f1 := by rw [← hzw]; exact told_mem h.asc.dis hz
            have := hall ⟨who, supM (toldIn hs who) m⟩ ((grants_mem h.asc).2 (.inl rfl)) (fun e => hq x hxq e.symm)
            have h3 := fits_mono ht hm (h.mq x hxq).1 this
            rw [e1, hzf] at h3
            cases h3
          · have := hall z ((grants_mem h.asc).2 (.inr ⟨hz, hzw⟩)) hzx
            rw [hzf] at this
            cases this
    | false =>
      rw [if_neg (by simp)]
      unfold askGo at hg
      rw [Bool.or_eq_false_iff] at hg
      have hle := ahead_le hs qs who
      show Inv hs (insAt qs (aheadOf hs qs who) ⟨who, supM (toldIn hs who) m⟩)
      refine ⟨⟨h.asc, ?_, h.mh, ?_, h.fit, ?_, ?_⟩, ?_⟩
      · refine ((insAt_perm qs _ _).pairwise_iff (fun {a b} h => h.symm)).2 (List.pairwise_cons.2 ⟨fun y hy => (hq y hy).symm, h.dq⟩)
      · intro x hx
        rcases insAt_mem.1 hx with rfl | hx
        · exact ⟨hT, hT0⟩
        · exact h.mq x hx
      · unfold insAt
        have hp := h.conv
        rw [← List.take_append_drop (aheadOf hs qs who) qs] at hp
        obtain ⟨p1, p2, p3⟩ := List.pairwise_append.1 hp
        refine List.pairwise_append.2 ⟨p1, List.pairwise_cons.2 ⟨?_, p2⟩, ?_⟩
        · intro b hb _
          show toldIn hs who ≠ 0
          intro e0
          unfold aheadOf at hb
          rw [if_pos e0, List.drop_length] at hb
          cases hb
        · intro a ha b hb
          rcases List.mem_cons.1 hb with rfl | hb
          · intro hn
            have hn' : toldIn hs who ≠ 0 := hn
            unfold aheadOf at ha
            rw [if_neg hn'] at ha
            exact convs_take hs qs a ha
          · exact p3 a ha b hb
      · intro x hx
        rcases insAt_mem.1 hx with rfl | hx
        · exact sup_abs ht hm
        · exact h.cov x hx
      · intro x l e
        unfold insAt at e
        cases ha : aheadOf hs qs who with
        | zero =>
          rw [ha] at e
          obtain ⟨rfl, _⟩ := List.cons.inj (show (⟨who, supM (toldIn hs who) m⟩ : E) :: qs = x :: l from by simpa using e)
          rw [ha] at hg
          simpa using hg.2
        | succ n =>
          cases qs with
          | nil => rw [ha] at hle; simp at hle
          | cons y q2 =>
            rw [ha, List.take_succ_cons, List.cons_append] at e
            obtain ⟨rfl, _⟩ := List.cons.inj e
            exact h.head y q2 rfl
theorem ask_len (hs qs : List E) (who m : Int) : (askIn hs qs who m).2.1.length + (askIn hs qs who m).2.2.length ≤ hs.length + qs.length + 1 := by
  unfold askIn
  split
  · show hs.length + qs.length ≤ _; omega
  · split
    · show (grantsIn hs who _).length + qs.length ≤ _
      have := grants_len hs who (supM (toldIn hs who) m)
      omega
    · show hs.length + (insAt qs _ _).length ≤ _
      have := (insAt_perm qs (aheadOf hs qs who) ⟨who, supM (toldIn hs who) m⟩).length_eq
      rw [this, List.length_cons]; omega
theorem leave_spec {hs qs : List E} (h : Inv hs qs) (who : Int) : ∃ n, n ≤ (fl qs who).length ∧ (leaveIn hs qs who).1 = ((fl qs who).take n).map (·.f0) ∧ (leaveIn hs qs who).2.2 = (fl qs who).drop n ∧ Inv (leaveIn hs qs who).2.1 (leaveIn hs qs who).2.2 ∧
    (∀ y, y ∈ (leaveIn hs qs who).2.1 ↔ y ∈ (fl qs who).take n ∨ (y ∈ fl hs who ∧ ∀ x ∈ (fl qs who).take n, x.f0 ≠ y.f0)) ∧ (leaveIn hs qs who).2.1.length ≤ (fl hs who).length + n :=
  serve_spec _ _ (h.toInvS.fl who)
end Go.Proofs.YtkceadieigpolaaGreat.Ln
namespace Go.Proofs.YtkceadieigpolaaGreat.Ln
open Go.RowKit Go.Proofs.YtkceadieigpolaaGreatW.PrintWords Go.Proofs.YtkceadieigpolaaGreatW.PrintLast Go.Proofs.YtkceadieigpolaaGreatW.PrintMore Go.Proofs.YtkceadieigpolaaGreat.PMd
set_option linter.unusedVariables false
set_option linter.unusedSimpArgs false
def LiveX (X : Nat → Prop) (w0 w : World) (b : Nat) (hs qs : List E) : Prop :=
  IsLane w b (fun k => w0.heap.size ≤ k ∧ ¬ X k) hs qs ∧ Asc hs ∧ Below w0.heap.size w0 w ∧ ∀ k, X k → k < w.heap.size
section
variable {X : Nat → Prop} {w0 w w' : World} {b : Nat} {hs qs : List E}
theorem Live.keep (h : Live w0 w b hs qs) (hb : Below w.heap.size w w') (hX : ∀ k, X k → w.heap.size ≤ k ∧ k < w'.heap.size) : LiveX X w0 w' b hs qs := by
  obtain ⟨F0, hI, hF⟩ := h.1.exact_
  refine ⟨(hI.below hb).mono (fun k _ hk => ⟨(hF k hk).1, fun hx => ?_⟩), h.2.1, below_then h.2.2 h.2.2.size hb, fun k hk => (hX k hk).2⟩
  have h1 := (hX k hx).1
  have h2 := (hF k hk).2
  omega
theorem LiveX.live (h : LiveX X w0 w b hs qs) : Live w0 w b hs qs := ⟨h.1.mono (fun k _ hk => hk.1), h.2.1, h.2.2.1⟩
theorem LiveX.below (h : LiveX X w0 w b hs qs) (hb : Below w.heap.size w w') : LiveX X w0 w' b hs qs := ⟨h.1.below hb, h.2.1, below_then h.2.2.1 h.2.2.1.size hb, fun k hk => Nat.lt_of_lt_of_le (h.2.2.2 k hk) hb.size⟩
end
theorem leave_len {hs qs : List E} (h : Inv hs qs) (who : Int) : (leaveIn hs qs who).2.1.length + (leaveIn hs qs who).2.2.length ≤ (fl hs who).length + (fl qs who).length := by
  obtain ⟨n, hn, _, h2, _, _, h5⟩ := leave_spec h who
  rw [h2, List.length_drop]
  omega
theorem fl_len (l : List E) (who : Int) : (fl l who).length ≤ l.length := List.length_filter_le _ _
end Go.Proofs.YtkceadieigpolaaGreat.Ln
namespace Go.Proofs.YtkceadieigpolaaGreat.Ln
open Go.RowKit Go.Proofs.YtkceadieigpolaaGreatW.PrintWords Go.Proofs.YtkceadieigpolaaGreatW.PrintLast Go.Proofs.YtkceadieigpolaaGreatW.PrintMore Go.Proofs.YtkceadieigpolaaGreat.PMd
set_option linter.unusedVariables false
set_option linter.unusedSimpArgs false
structure Op3 where
  f0 : Int
  f1 : Int
  f2 : Int
end Go.Proofs.YtkceadieigpolaaGreat.Ln
namespace Go.Proofs.YtkceadieigpolaaGreat.Ln
open Go.RowKit Go.Proofs.YtkceadieigpolaaGreatW.PrintWords Go.Proofs.YtkceadieigpolaaGreatW.PrintLast Go.Proofs.YtkceadieigpolaaGreatW.PrintMore Go.Proofs.YtkceadieigpolaaGreat.PMd
open Go.Sort (grow)
set_option linter.unusedVariables false
set_option linter.unusedSimpArgs false
theorem leave_gone {hs qs : List E} (hi : Inv hs qs) (who : Int) : toldIn (leaveIn hs qs who).2.1 who = 0 ∧ toldIn (leaveIn hs qs who).2.2 who = 0 := by
  obtain ⟨n, hn, _, g2, g3, g4, _⟩ := leave_spec hi who
  refine ⟨told_no (fun x hx => ?_), told_no (fun x hx => ?_)⟩
  · rcases (g4 x).1 hx with h | ⟨h, _⟩
    · exact (fl_mem.1 (List.mem_of_mem_take h)).2
    · exact (fl_mem.1 h).2
  · rw [g2] at hx
    exact (fl_mem.1 (List.mem_of_mem_drop hx)).2
end Go.Proofs.YtkceadieigpolaaGreat.Ln
