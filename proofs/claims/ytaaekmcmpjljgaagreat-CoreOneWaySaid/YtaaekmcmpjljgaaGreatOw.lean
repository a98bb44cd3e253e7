import Derived.Test.YtaaekmcmpjljgaaGreatGB
namespace Go.Proofs.YtaaekmcmpjljgaaGreat.Gr
open Go.RowKit Go.Proofs.YtaaekmcmpjljgaaGreatW.PrintWords Go.Proofs.YtaaekmcmpjljgaaGreatW.PrintLast Go.Proofs.YtaaekmcmpjljgaaGreatW.PrintMore Go.Proofs.YtaaekmcmpjljgaaGreat.PMd Go.Proofs.YtaaekmcmpjljgaaGreat.Ln
set_option linter.unusedVariables false
set_option linter.unusedSimpArgs false
inductive Pth (l : List Ed) (nots : List Int) (t : Int) : Int → Prop
  | one {n : Int} : (n, t) ∈ l → Pth l nots t n
  | step {n y : Int} : (n, y) ∈ l → y ∉ nots → Pth l nots t y → Pth l nots t n
theorem dfsIn_none {t : Int} {nots : List Int} : ∀ (ys met st : List Int), dfsIn t nots ys met st = none → t ∈ ys
  | [], met, st, h => by cases h
  | y :: ys, met, st, h => by
    unfold dfsIn at h
    by_cases e : y = t
    · simp [e]
    · rw [if_neg e] at h
      by_cases h2 : y ∉ met ∧ y ∉ nots
      · rw [if_pos h2] at h; exact List.mem_cons_of_mem _ (dfsIn_none _ _ _ h)
      · rw [if_neg h2] at h; exact List.mem_cons_of_mem _ (dfsIn_none _ _ _ h)
theorem dfsIn_some {t : Int} {nots : List Int} : ∀ (ys met st met' st' : List Int), dfsIn t nots ys met st = some (met', st') →
    t ∉ ys ∧ (∀ x ∈ met, x ∈ met') ∧ (∀ x ∈ st, x ∈ st') ∧ (∀ y ∈ ys, y ∈ nots ∨ y ∈ met') ∧ (∀ x ∈ met', x ∈ met ∨ x ∈ st') ∧ (∀ x ∈ st', x ∈ st ∨ (x ∈ ys ∧ x ∉ nots))
  | [], met, st, met', st', h => by
    simp only [dfsIn, Option.some.injEq, Prod.mk.injEq] at h
    obtain ⟨rfl, rfl⟩ := h
    exact ⟨by simp, fun x h => h, fun x h => h, by simp, fun x h => .inl h, fun x h => .inl h⟩
  | y :: ys, met, st, met', st', h => by
    unfold dfsIn at h
    by_cases e : y = t
    · rw [if_pos e] at h; cases h
    · rw [if_neg e] at h
      by_cases h2 : y ∉ met ∧ y ∉ nots
      · rw [if_pos h2] at h
        obtain ⟨a1, a2, a3, a4, a5, a6⟩ := dfsIn_some _ _ _ _ _ h
        refine ⟨by simp [Ne.symm e, a1], fun x hx => a2 x (by simp [hx]), fun x hx => a3 x (by simp [hx]), fun z hz => ?_, fun x hx => ?_, fun x hx => ?_⟩
        · rcases List.mem_cons.1 hz with rfl | hz
          · exact .inr (a2 _ (by simp))
          · exact a4 z hz
        · rcases a5 x hx with h5 | h5
          · rcases List.mem_cons.1 h5 with rfl | h5
            · exact .inr (a3 _ (by simp))
            · exact .inl h5
          · exact .inr h5
        · rcases a6 x hx with h6 | h6
          · rcases List.mem_append.1 h6 with h6 | h6
            · exact .inl h6
            · simp at h6; subst h6; exact .inr ⟨by simp, h2.2⟩
          · exact .inr ⟨by simp [h6.1], h6.2⟩
      · rw [if_neg h2] at h
        obtain ⟨a1, a2, a3, a4, a5, a6⟩ := dfsIn_some _ _ _ _ _ h
        refine ⟨by simp [Ne.symm e, a1], a2, a3, fun z hz => ?_, a5, fun x hx => ?_⟩
        · rcases List.mem_cons.1 hz with rfl | hz
          · by_cases hn : z ∈ nots
            · exact .inl hn
            · exact .inr (a2 _ (Classical.byContradiction fun hm => h2 ⟨hm, hn⟩))
          · exact a4 z hz
        · rcases a6 x hx with h6 | h6
          · exact .inl h6
          · exact .inr ⟨by simp [h6.1], h6.2⟩
theorem last_mem {st : List Int} {n : Int} (h : st.getLast? = some n) : n ∈ st ∧ ∀ x ∈ st, x = n ∨ x ∈ st.dropLast := by
  have hne : st ≠ [] := by intro e; rw [e] at h; cases h
  have e := List.dropLast_concat_getLast hne
  rw [List.getLast?_eq_some_getLast hne] at h
  injection h with h
  rw [h] at e
  refine ⟨?_, fun x hx => ?_⟩
  · rw [← e]; simp
  · rw [← e] at hx
    rcases List.mem_append.1 hx with h1 | h1
    · exact .inr h1
    · simp at h1; exact .inl h1
theorem dfs_sound {l : List Ed} {t : Int} {nots : List Int} (fr : Int) : ∀ (k : Nat) (met st : List Int), dfs l t nots k met st = some true → (∀ n ∈ st, Pth l nots t n → Pth l nots t fr) → Pth l nots t fr
  | 0, _, _, h, _ => by cases h
  | k + 1, met, st, h, hi => by
    unfold dfs at h
    cases hs : st.getLast? with
    | none => rw [hs] at h; simp at h
    | some n =>
      rw [hs] at h
      obtain ⟨hm, hd⟩ := last_mem hs
      cases hq : dfsIn t nots (nextE n l) met st.dropLast with
      | none => exact hi n hm (.one (mem_next.1 (dfsIn_none _ _ _ hq)))
      | some z =>
        obtain ⟨met', st'⟩ := z
        simp only [hq] at h
        obtain ⟨a1, a2, a3, a4, a5, a6⟩ := dfsIn_some _ _ _ _ _ hq
        refine dfs_sound fr k met' st' h (fun x hx => ?_)
        rcases a6 x hx with h6 | h6
        · exact hi x (List.dropLast_subset _ h6)
        · exact fun hp => hi n hm (.step (mem_next.1 h6.1) h6.2 hp)
theorem dfs_complete {l : List Ed} {t : Int} {nots : List Int} (fr : Int) : ∀ (k : Nat) (met st : List Int), dfs l t nots k met st = some false →
    (∀ n, (n = fr ∨ n ∈ met) → n ∈ st ∨ ∀ y, (n, y) ∈ l → y ≠ t ∧ (y ∈ nots ∨ y ∈ met)) → ¬ Pth l nots t fr
  | 0, _, _, h, _ => by cases h
  | k + 1, met, st, h, hi => by
    unfold dfs at h
    cases hs : st.getLast? with
    | none =>
      have he : st = [] := by simpa using hs
      subst he
      have hcl : ∀ n, (n = fr ∨ n ∈ met) → ∀ y, (n, y) ∈ l → y ≠ t ∧ (y ∈ nots ∨ y ∈ met) := fun n hn => (hi n hn).resolve_left (by simp)
      have key : ∀ n, Pth l nots t n → (n = fr ∨ n ∈ met) → False := by
        intro n hp
        induction hp with
        | one he => exact fun hn => (hcl _ hn _ he).1 rfl
        | step he hno _ ih => exact fun hn => ih (.inr ((hcl _ hn _ he).2.resolve_left hno))
      exact fun hp => key fr hp (.inl rfl)
    | some n =>
      rw [hs] at h
      obtain ⟨hm, hd⟩ := last_mem hs
      cases hq : dfsIn t nots (nextE n l) met st.dropLast with
      | none => simp [hq] at h
      | some z =>
        obtain ⟨met', st'⟩ := z
        simp only [hq] at h
        obtain ⟨a1, a2, a3, a4, a5, a6⟩ := dfsIn_some _ _ _ _ _ hq
        refine dfs_complete fr k met' st' h (fun x hx => ?_)
        have old : (x = fr ∨ x ∈ met) → x ∈ st' ∨ ∀ y, (x, y) ∈ l → y ≠ t ∧ (y ∈ nots ∨ y ∈ met') := fun hx => by
          rcases hi x hx with h1 | h1
          · rcases hd x h1 with rfl | h2
            · refine .inr (fun y hy => ?_)
              have hy' := mem_next.2 hy
              exact ⟨fun e => a1 (e ▸ hy'), a4 y hy'⟩
            · exact .inl (a3 x h2)
          · exact .inr (fun y hy => ⟨(h1 y hy).1, (h1 y hy).2.imp id (a2 y)⟩)
        rcases hx with hx | hx
        · exact old (.inl hx)
        · rcases a5 x hx with h5 | h5
          · exact old (.inr h5)
          · exact .inl h5
theorem reach_iff {l : List Ed} {fr t : Int} {nots : List Int} : reachB l fr t nots = true ↔ Pth l nots t fr := by
  have h := reach_dfs l fr t nots
  constructor
  · intro e
    rw [e] at h
    exact dfs_sound fr _ _ _ h (fun n hn hp => by simp at hn; exact hn ▸ hp)
  · intro hp
    cases e : reachB l fr t nots with
    | true => rfl
    | false =>
      rw [e] at h
      exact absurd hp (dfs_complete fr _ _ _ h (fun n hn => .inl (by simpa using hn)))
def Acy (l : List Ed) : Prop := ∀ n, ¬ Pth l [] n n
theorem pth_head {l : List Ed} {nots : List Int} {t n : Int} (h : Pth l nots t n) : n ∈ nodesE l := by
  cases h with
  | one h => exact mem_nodes.2 ⟨_, h, .inl rfl⟩
  | step h _ _ => exact mem_nodes.2 ⟨_, h, .inl rfl⟩
theorem circGo_has (l : List Ed) (f : Int) : ∀ (k : Nat) (at_ : Int) (out r : List Int), circGo l f k at_ out = some r → ∀ x ∈ out, x ∈ r
  | 0, _, _, r, h => by cases h
  | k + 1, at_, out, r, h => by
    unfold circGo at h
    by_cases hf : f ∈ nextE at_ l
    · rw [if_pos hf] at h
      injection h with h
      rw [← h]; exact fun x hx => hx
    · rw [if_neg hf] at h
      cases hy : (nextE at_ l).find? (fun y => !decide (y ∈ out) && reachB l y f out) with
      | none =>
        rw [hy] at h
        injection h with h
        rw [← h]; exact fun x hx => hx
      | some y =>
        rw [hy] at h
        exact fun x hx => circGo_has l f k y (out ++ [y]) r h x (by simp [hx])
theorem circ_acy {l : List Ed} (h : circF l = []) : Acy l := by
  intro n hp
  cases hf : (nodesE l).find? (fun n => reachB l n n []) with
  | none =>
    rw [List.find?_eq_none] at hf
    exact hf n (pth_head hp) (reach_iff.2 hp)
  | some f =>
    have := circGo_has l f _ _ _ _ (circ_some hf) f (by simp)
    rw [h] at this
    cases this
theorem pth_last {l : List Ed} {f n : Int} (h : Pth l [] f n) : Pth l [f] f n := by
  induction h with
  | one h => exact .one h
  | @step n y h _ _ ih =>
    by_cases e : y = f
    · subst e; exact .one h
    · exact .step h (by simpa using e) ih
theorem circ_two {l : List Ed} (hl : ∀ x ∈ l, x.1 ≠ x.2) (h : circF l ≠ []) : ∃ x ∈ circF l, ∃ y ∈ circF l, x ≠ y := by
  cases hf : (nodesE l).find? (fun n => reachB l n n []) with
  | none => exact absurd (circ_none hf) h
  | some f =>
    have hg := circ_some hf
    have hr : Pth l [f] f f := pth_last (reach_iff.1 (List.find?_some (p := fun n => reachB l n n []) hf))
    have hself : (f, f) ∉ l := fun h => hl _ h rfl
    unfold circGo at hg
    rw [if_neg (fun h => hself (mem_next.1 h))] at hg
    cases hy : (nextE f l).find? (fun y => !decide (y ∈ [f]) && reachB l y f [f]) with
    | none =>
      rw [List.find?_eq_none] at hy
      cases hr with
      | one h => exact absurd h hself
      | @step _ y h1 h2 h3 =>
        have h4 := hy y (mem_next.2 h1)
        rw [reach_iff.2 h3] at h4
        simp at h2
        simp [h2] at h4
    | some y =>
      rw [hy] at hg
      have hp := List.find?_some hy
      have hne : y ≠ f := fun e => by simp [e] at hp
      exact ⟨f, circGo_has l f _ _ _ _ hg f (by simp), y, circGo_has l f _ _ _ _ hg y (by simp), fun e => hne e.symm⟩
theorem without_nil (l : List Ed) : withoutE [] l = l := by
  unfold withoutE
  rw [List.filter_eq_self]
  intro x _
  simp [namesE]
theorem maxGo_ne (f : Int → Int → Int) (e : Int) : ∀ (l : List Int) (m : Int), (∀ x, x = m ∨ x ∈ l → x ≠ e → 0 < f x e ∧ ¬ 0 < f e x) → (∃ x, (x = m ∨ x ∈ l) ∧ x ≠ e) → maxGo f m l ≠ e
  | [], m, _, ⟨x, hx, hne⟩ => by
    rcases hx with rfl | hx
    · exact hne
    · cases hx
  | y :: l, m, h, hx => by
    unfold maxGo
    by_cases hq : 0 < f y m
    · rw [if_pos hq]
      refine maxGo_ne f e l y (fun x hx' => h x (by rcases hx' with rfl | hx'; exact .inr (by simp); exact .inr (by simp [hx']))) ?_
      by_cases hy : y = e
      · by_cases hm : m = e
        · obtain ⟨x, hx', hne⟩ := hx
          refine ⟨x, ?_, hne⟩
          rcases hx' with rfl | hx'
          · exact absurd hm hne
          · rcases List.mem_cons.1 hx' with rfl | hx'
            · exact absurd hy hne
            · exact .inr hx'
        · exact absurd (hy ▸ hq) (h m (.inl rfl) hm).2
      · exact ⟨y, .inl rfl, hy⟩
    · rw [if_neg hq]
      refine maxGo_ne f e l m (fun x hx' => h x (by rcases hx' with rfl | hx'; exact .inl rfl; exact .inr (by simp [hx']))) ?_
      by_cases hm : m = e
      · obtain ⟨x, hx', hne⟩ := hx
        refine ⟨x, ?_, hne⟩
        rcases hx' with rfl | hx'
        · exact .inl rfl
        · rcases List.mem_cons.1 hx' with rfl | hx'
          · exact absurd (hm ▸ (h x (.inr (by simp)) hne).1) hq
          · exact .inr hx'
      · exact ⟨m, .inl rfl, hm⟩
theorem vicGo_facts (d : List Int) (l : List Ed) (hl : ∀ x ∈ l, x.1 ≠ x.2) (e : Int) (he : ∀ x ∈ nodesE l, x ≠ e → 0 < ageF d x e ∧ ¬ 0 < ageF d e x) : ∀ (k : Nat) (gone c r : List Int), vicGo d l k gone c = some r → c = circF (withoutE gone l) → e ∉ gone →
    circF (withoutE r l) = [] ∧ e ∉ r
  | 0, gone, [], r, h, hc, hg => by injection h with h; subst h; exact ⟨hc.symm, hg⟩
  | 0, gone, _ :: _, r, h, hc, hg => by cases h
  | k + 1, gone, [], r, h, hc, hg => by injection h with h; subst h; exact ⟨hc.symm, hg⟩
  | k + 1, gone, x :: c, r, h, hc, hg => by
    unfold vicGo at h
    refine vicGo_facts d l hl e he k _ _ r h rfl ?_
    have hsub : ∀ y ∈ x :: c, y ∈ nodesE l := fun y hy => by rw [hc] at hy; exact (without_nodes (circ_sub y hy)).1
    have h2 := circ_two (l := withoutE gone l) (fun z hz => hl z (List.mem_filter.1 hz).1) (by rw [← hc]; simp)
    rw [← hc] at h2
    have hne : maxI (ageF d) (x :: c) ≠ e := by
      unfold maxI
      refine maxGo_ne _ e c x (fun y hy => he y (hsub y (by simpa using hy))) ?_
      obtain ⟨a, ha, b, hb, hab⟩ := h2
      by_cases ea : a = e
      · exact ⟨b, by simpa using hb, fun eb => hab (ea.trans eb.symm)⟩
      · exact ⟨a, by simpa using ha, ea⟩
    simp [hg, Ne.symm hne]
theorem vic_facts (d : List Int) (l : List Ed) (hl : ∀ x ∈ l, x.1 ≠ x.2) (e : Int) (he : ∀ x ∈ nodesE l, x ≠ e → 0 < ageF d x e ∧ ¬ 0 < ageF d e x) : circF (withoutE (vicF d l) l) = [] ∧ e ∉ vicF d l :=
  vicGo_facts d l hl e he _ _ _ _ (vic_is d l) (by rw [without_nil]) (by simp)
theorem vicGo_end (d : List Int) (l : List Ed) : ∀ (k : Nat) (gone c r : List Int), vicGo d l k gone c = some r → c = circF (withoutE gone l) → circF (withoutE r l) = []
  | 0, gone, [], r, h, hc => by injection h with h; subst h; exact hc.symm
  | 0, gone, _ :: _, r, h, hc => by cases h
  | k + 1, gone, [], r, h, hc => by injection h with h; subst h; exact hc.symm
  | k + 1, gone, x :: c, r, h, hc => by
    unfold vicGo at h
    exact vicGo_end d l k _ _ r h rfl
theorem vic_end (d : List Int) (l : List Ed) : circF (withoutE (vicF d l) l) = [] := vicGo_end d l _ _ _ _ (vic_is d l) (by rw [without_nil])
def Sinks (l : List Ed) : Prop := ∀ S : List Int, S ≠ [] → ∃ t ∈ S, ∀ y, (t, y) ∈ l → y ∉ S
theorem sinks_up {l : List Ed} (g : Int → Int) (h : ∀ x ∈ l, g x.1 > g x.2) : Sinks l := by
  intro S hS
  have : ∃ t ∈ S, ∀ y ∈ S, g t ≤ g y := by
    induction S with
    | nil => exact absurd rfl hS
    | cons x S ih =>
      cases S with
      | nil => exact ⟨x, by simp, fun y hy => by simp at hy; subst hy; exact Int.le_refl _⟩
      | cons z S =>
        obtain ⟨t, ht, hm⟩ := ih (by simp)
        by_cases hx : g x ≤ g t
        · refine ⟨x, by simp, fun y hy => ?_⟩
          rcases List.mem_cons.1 hy with rfl | hy
          · exact Int.le_refl _
          · have := hm y hy; omega
        · refine ⟨t, by simp [ht], fun y hy => ?_⟩
          rcases List.mem_cons.1 hy with rfl | hy
          · omega
          · exact hm y hy
  obtain ⟨t, ht, hm⟩ := this
  exact ⟨t, ht, fun y hy hyS => by have h1 := h _ hy; have h2 := hm y hyS; simp only at h1; omega⟩
theorem sinks_down {l : List Ed} (g : Int → Int) (h : ∀ x ∈ l, g x.1 < g x.2) : Sinks l :=
  sinks_up (fun x => - g x) (fun x hx => by have := h x hx; omega)
open Classical in
theorem sinks_acy {l : List Ed} (ha : Acy l) : Sinks l := by
  intro S hS
  obtain ⟨c, hc⟩ : ∃ c : Int → Nat, ∀ t, c t = (S.filter fun y => decide (Pth l [] y t)).length := ⟨_, fun _ => rfl⟩
  have : ∃ t ∈ S, ∀ y ∈ S, c t ≤ c y := by
    clear ha hc
    induction S with
    | nil => exact absurd rfl hS
    | cons x S ih =>
      cases S with
      | nil => exact ⟨x, by simp, fun y hy => by simp at hy; subst hy; exact Nat.le_refl _⟩
      | cons z S =>
        obtain ⟨t, ht, hm⟩ := ih (by simp)
        by_cases hx : c x ≤ c t
        · refine ⟨x, by simp, fun y hy => ?_⟩
          rcases List.mem_cons.1 hy with rfl | hy
          · exact Nat.le_refl _
          · have := hm y hy; omega
        · refine ⟨t, by simp [ht], fun y hy => ?_⟩
          rcases List.mem_cons.1 hy with rfl | hy
          · omega
          · exact hm y hy
  obtain ⟨t, ht, hm⟩ := this
  refine ⟨t, ht, fun y hy hyS => ?_⟩
  have h1 := hm y hyS
  have h2 : c y < c t := by
    have hmono : ∀ z, Pth l [] z y → Pth l [] z t := fun z hz => .step hy (by simp) hz
    have hty : Pth l [] y t := .one hy
    have hny : ¬ Pth l [] y y := ha y
    rw [hc, hc]
    clear hm h1 ht hS hc
    have aux : ∀ S' : List Int, (S'.filter fun z => decide (Pth l [] z y)).length ≤ (S'.filter fun z => decide (Pth l [] z t)).length ∧ (y ∈ S' → (S'.filter fun z => decide (Pth l [] z y)).length < (S'.filter fun z => decide (Pth l [] z t)).length) := by
      intro S'
      induction S' with
      | nil => simp
      | cons x S' ih =>
        rw [List.filter_cons, List.filter_cons]
        by_cases h3 : Pth l [] x y
        · rw [if_pos (by simpa using h3), if_pos (by simpa using hmono x h3)]
          refine ⟨by simpa using ih.1, fun hy' => ?_⟩
          rcases List.mem_cons.1 hy' with rfl | hy'
          · exact absurd h3 hny
          · simpa using ih.2 hy'
        · rw [if_neg (by simpa using h3)]
          by_cases h4 : Pth l [] x t
          · rw [if_pos (by simpa using h4)]
            exact ⟨by have := ih.1; simp; omega, fun _ => by have := ih.1; simp; omega⟩
          · rw [if_neg (by simpa using h4)]
            refine ⟨ih.1, fun hy' => ?_⟩
            rcases List.mem_cons.1 hy' with rfl | hy'
            · exact absurd hty h4
            · exact ih.2 hy'
    exact (aux S).2 hyS
  omega
def freeG (l : List Ed) (g : List Bool) (t : Int) : Bool := l.all fun e => e.1 != t || (decide (0 ≤ e.2) && decide (e.2 < 64) && g.getD e.2.toNat false)
def stepG (l : List Ed) (g : List Bool) (t : Nat) : List Bool := g.set t (g.getD t false || freeG l g t)
def passG (l : List Ed) (g : List Bool) : Nat → List Bool
  | 0 => g
  | k + 1 => stepG l (passG l g k) k
def roundG (l : List Ed) (n : Nat) : Nat → List Bool
  | 0 => List.replicate 64 false
  | r + 1 => passG l (roundG l n r) n
theorem step_len (l : List Ed) (g : List Bool) (t : Nat) : (stepG l g t).length = g.length := by unfold stepG; simp
theorem pass_len (l : List Ed) (g : List Bool) : ∀ k, (passG l g k).length = g.length
  | 0 => rfl
  | k + 1 => by unfold passG; rw [step_len, pass_len l g k]
theorem round_len (l : List Ed) (n : Nat) : ∀ r, (roundG l n r).length = 64
  | 0 => by simp [roundG]
  | r + 1 => by unfold roundG; rw [pass_len, round_len l n r]
theorem getD_setB (g : List Bool) (t : Nat) (v : Bool) (j : Nat) (h : t < g.length) : (g.set t v).getD j false = if t = j then v else g.getD j false := by
  rw [List.getD_eq_getElem?_getD, List.getD_eq_getElem?_getD, List.getElem?_set]
  by_cases e : t = j
  · subst e; rw [if_pos rfl, if_pos h, if_pos rfl]; rfl
  · rw [if_neg e, if_neg e]
theorem step_mono {l : List Ed} {g : List Bool} {t j : Nat} (ht : t < g.length) (h : g.getD j false = true) : (stepG l g t).getD j false = true := by
  unfold stepG
  rw [getD_setB _ _ _ _ ht]
  by_cases e : t = j
  · subst e; rw [if_pos rfl, h]; rfl
  · rw [if_neg e]; exact h
theorem pass_mono {l : List Ed} {g : List Bool} {j : Nat} (h : g.getD j false = true) : ∀ k, k ≤ g.length → (passG l g k).getD j false = true
  | 0, _ => h
  | k + 1, hk => by unfold passG; exact step_mono (by rw [pass_len]; omega) (pass_mono h k (by omega))
theorem pass_mono2 {l : List Ed} {g : List Bool} {j : Nat} (k : Nat) (h : (passG l g k).getD j false = true) : ∀ m, k ≤ m → m ≤ g.length → (passG l g m).getD j false = true
  | 0, hk, _ => by have : k = 0 := by omega
                   subst this; exact h
  | m + 1, hk, hm => by
    by_cases e : k = m + 1
    · subst e; exact h
    · unfold passG
      exact step_mono (by rw [pass_len]; omega) (pass_mono2 k h m (by omega) (by omega))
def leftG (g : List Bool) (n : Nat) : List Nat := (List.range n).filter fun t => !g.getD t false
theorem left_lt {g g' : List Bool} (n : Nat) (hm : ∀ j, g.getD j false = true → g'.getD j false = true) {t : Nat} (h1 : t < n) (h2 : g.getD t false = false) (h3 : g'.getD t false = true) : (leftG g' n).length < (leftG g n).length := by
  unfold leftG
  have aux : ∀ S : List Nat, (S.filter fun t => !g'.getD t false).length ≤ (S.filter fun t => !g.getD t false).length ∧ (t ∈ S → (S.filter fun t => !g'.getD t false).length < (S.filter fun t => !g.getD t false).length) := by
    intro S
    induction S with
    | nil => simp
    | cons x S ih =>
      rw [List.filter_cons, List.filter_cons]
      by_cases a : g'.getD x false = true
      · rw [if_neg (by simp only [a]; decide)]
        by_cases b : g.getD x false = true
        · rw [if_neg (by simp only [b]; decide)]
          refine ⟨ih.1, fun hx => ?_⟩
          rcases List.mem_cons.1 hx with rfl | hx
          · rw [h2] at b; cases b
          · exact ih.2 hx
        · rw [if_pos (by simp only [Bool.eq_false_iff.2 b]; decide)]
          exact ⟨by have := ih.1; simp only [List.length_cons]; omega, fun _ => by have := ih.1; simp only [List.length_cons]; omega⟩
      · have b : ¬ g.getD x false = true := fun b => a (hm x b)
        rw [if_pos (by simp only [Bool.eq_false_iff.2 a]; decide), if_pos (by simp only [Bool.eq_false_iff.2 b]; decide)]
        refine ⟨by simpa using ih.1, fun hx => ?_⟩
        rcases List.mem_cons.1 hx with rfl | hx
        · exact absurd h3 a
        · simpa using ih.2 hx
  exact (aux (List.range n)).2 (List.mem_range.2 h1)
theorem pass_less {l : List Ed} {g : List Bool} {n : Nat} (hs : Sinks l) (hn : n ≤ g.length) (h64 : n ≤ 64) (hl : ∀ e ∈ l, 0 ≤ e.2 ∧ e.2 < n) (h : leftG g n ≠ []) : (leftG (passG l g n) n).length < (leftG g n).length := by
  obtain ⟨t, ht, hy⟩ := hs ((leftG g n).map Int.ofNat) (by simpa using h)
  obtain ⟨k, hk, rfl⟩ := List.mem_map.1 ht
  unfold leftG at hk
  rw [List.mem_filter, List.mem_range] at hk
  have hg0 : g.getD k false = false := by simpa using hk.2
  refine left_lt n (fun j hj => pass_mono hj n hn) hk.1 hg0 (pass_mono2 (k + 1) ?_ n (by omega) hn)
  show (stepG l (passG l g k) k).getD k false = true
  unfold stepG
  rw [getD_setB _ _ _ _ (by rw [pass_len]; omega), if_pos rfl]
  have hf : freeG l (passG l g k) (k : Int) = true := by
    unfold freeG
    rw [List.all_eq_true]
    intro e he
    by_cases e1 : e.1 = (k : Int)
    · have h2 := hl e he
      have h3 := hy e.2 (by rw [show (Int.ofNat k, e.2) = e from by rw [show Int.ofNat k = e.1 from e1.symm]]; exact he)
      have h4 : g.getD e.2.toNat false = true := by
        apply Classical.byContradiction
        intro h5
        refine h3 (List.mem_map.2 ⟨e.2.toNat, ?_, by have := h2.1; show ((e.2.toNat : Nat) : Int) = e.2; omega⟩)
        unfold leftG
        rw [List.mem_filter, List.mem_range]
        exact ⟨by omega, by simpa using h5⟩
      have h5 := pass_mono (l := l) h4 k (by omega)
      have h6 : decide (0 ≤ e.2) = true := decide_eq_true h2.1
      have h7 : decide (e.2 < 64) = true := decide_eq_true (by omega)
      rw [h5, h6, h7]
      simp
    · simp [e1]
  rw [hf]
  simp
theorem round_left {l : List Ed} {n : Nat} (hs : Sinks l) (h64 : n ≤ 64) (hl : ∀ e ∈ l, 0 ≤ e.2 ∧ e.2 < n) : ∀ r, (leftG (roundG l n r) n).length ≤ n - r
  | 0 => by unfold leftG; exact Nat.le_trans (List.length_filter_le _ _) (by simp)
  | r + 1 => by
    have ih := round_left hs h64 hl r
    unfold roundG
    by_cases e : leftG (roundG l n r) n = []
    · have : leftG (passG l (roundG l n r) n) n = [] := by
        unfold leftG at e ⊢
        rw [List.filter_eq_nil_iff] at e ⊢
        intro t ht h2
        have h3 := e t ht
        have h4 : (roundG l n r).getD t false = true := by simpa using h3
        have h5 := pass_mono (l := l) h4 n (by rw [round_len]; exact h64)
        rw [h5] at h2
        cases h2
      rw [this]; simp
    · have := pass_less hs (by rw [round_len]; exact h64) h64 hl e
      omega
theorem round_all {l : List Ed} {n : Nat} (hs : Sinks l) (h64 : n ≤ 64) (hl : ∀ e ∈ l, 0 ≤ e.2 ∧ e.2 < n) {t : Nat} (ht : t < n) : (roundG l n (n + 1)).getD t false = true := by
  have h := round_left hs h64 hl (n + 1)
  have h0 : leftG (roundG l n (n + 1)) n = [] := List.eq_nil_of_length_eq_zero (by omega)
  unfold leftG at h0
  rw [List.filter_eq_nil_iff] at h0
  have := h0 t (List.mem_range.2 ht)
  simpa using this
end Go.Proofs.YtaaekmcmpjljgaaGreat.Gr
