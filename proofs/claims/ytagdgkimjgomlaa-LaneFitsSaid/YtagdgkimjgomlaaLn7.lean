/- A lane's grants: one more that holds, by who, rising. -/
import Derived.Test.YtagdgkimjgomlaaLn6
namespace Go.Proofs.Ytagdgkimjgomlaa.Ln
open Go.RowKit Go.Proofs.YtagdgkimjgomlaaW.PrintWords Go.Proofs.YtagdgkimjgomlaaW.PrintLast Go.Proofs.YtagdgkimjgomlaaW.PrintMore Go.Proofs.Ytagdgkimjgomlaa.PMd
set_option linter.unusedVariables false
set_option linter.unusedSimpArgs false
/-- By who, rising. -/
def Asc (l : List E) : Prop := l.Pairwise (fun a b => a.f0 < b.f0)
def insE (l : List E) (x : E) : List E := (l.takeWhile fun y => decide (y.f0 < x.f0)) ++ x :: l.dropWhile fun y => decide (y.f0 < x.f0)
theorem insE_perm (l : List E) (x : E) : (insE l x).Perm (l ++ [x]) := by
  unfold insE
  have h : (l ++ [x]).Perm ((l.takeWhile fun y => decide (y.f0 < x.f0)) ++ ((l.dropWhile fun y => decide (y.f0 < x.f0)) ++ [x])) := by
    rw [← List.append_assoc, List.takeWhile_append_dropWhile]
  refine List.Perm.trans ?_ h.symm
  exact List.Perm.append_left _ (List.perm_append_singleton x _).symm
theorem ix_none {p : E → Bool} {l : List E} (h : ix p l < 0) : ∀ x ∈ l, p x = false := by
  unfold ix at h
  cases hf : l.findIdx? p with
  | none => exact List.findIdx?_eq_none_iff.1 hf
  | some i => rw [hf] at h; simp at h; omega
theorem asc_insE {l : List E} {x : E} (ha : Asc l) (hn : ∀ y ∈ l, y.f0 ≠ x.f0) : Asc (insE l x) := by
  unfold insE
  induction l with
  | nil => simp [Asc]
  | cons y l ih =>
    have hy := hn y (by simp)
    have hp := List.pairwise_cons.1 ha
    by_cases h : y.f0 < x.f0
    · rw [List.takeWhile_cons, if_pos (by simpa using h), List.dropWhile_cons, if_pos (by simpa using h), List.cons_append]
      refine List.pairwise_cons.2 ⟨fun z hz => ?_, ih hp.2 (fun z hz => hn z (by simp [hz]))⟩
      have hm : z ∈ l ++ [x] := (insE_perm l x).mem_iff.1 hz
      rcases List.mem_append.1 hm with h2 | h2
      · exact hp.1 z h2
      · obtain rfl : z = x := by simpa using h2
        exact h
    · rw [List.takeWhile_cons, if_neg (by simpa using h), List.dropWhile_cons, if_neg (by simpa using h), List.nil_append]
      refine List.pairwise_cons.2 ⟨fun z hz => ?_, ha⟩
      rcases List.mem_cons.1 hz with rfl | h2
      · omega
      · have := hp.1 z h2
        omega
theorem asc_unique {l l' : List E} (h : l.Perm l') (ha : Asc l) (hb : Asc l') : l = l' :=
  List.Perm.eq_of_pairwise (le := fun a b : E => a.f0 < b.f0) (fun a b _ _ h1 h2 => by omega) ha hb h
/-- What a sort makes of a rising list and one more. -/
theorem sorted_insE {l l' : List E} {x : E} (ha : Asc l) (hn : ∀ y ∈ l, y.f0 ≠ x.f0) (hp : l'.Perm (l ++ [x])) (hs : l'.Pairwise (fun a b => ¬ b.f0 < a.f0)) : l' = insE l x := by
  have hI := asc_insE ha hn
  refine asc_unique (hp.trans (insE_perm l x).symm) ?_ hI
  have hd : (insE l x).Pairwise (fun a b => a.f0 ≠ b.f0) := List.Pairwise.imp (fun h => by omega) hI
  have hd' : l'.Pairwise (fun a b => a.f0 ≠ b.f0) := ((hp.trans (insE_perm l x).symm).pairwise_iff (fun h => Ne.symm h)).2 hd
  exact (List.Pairwise.and hs hd').imp (fun ⟨h1, h2⟩ => by omega)
def grantsIn (hs : List E) (who m : Int) : List E :=
  if ix (fun x => x.f0 == who) hs ≥ 0 then hs.set (ix (fun x => x.f0 == who) hs).toNat ⟨(hs.getD (ix (fun x => x.f0 == who) hs).toNat z67).f0, m⟩ else insE hs ⟨who, m⟩
theorem flat_set (l : List E) (j : Nat) (m : Int) : (flat l).set (j * 2 + 1) (.int .i64 m) = flat (l.set j ⟨(l.getD j z67).f0, m⟩) := by
  induction l generalizing j with
  | nil => simp [flat]
  | cons y l ih =>
    have e : ∀ (y : E) (l : List E), flat (y :: l) = .int .i64 y.f0 :: .int .i64 y.f1 :: flat l := fun _ _ => rfl
    cases j with
    | zero => rw [e, List.set_cons_zero, e]; rfl
    | succ j =>
      rw [e, show (j + 1) * 2 + 1 = (j * 2 + 1) + 1 + 1 by omega, List.set_cons_succ, List.set_cons_succ, ih, List.set_cons_succ, e]
      simp
theorem get_getD {l : List E} {j : Nat} (h : j < l.length) : l[j]? = some (l.getD j z67) := by
  rw [List.getD_eq_getElem?_getD, List.getElem?_eq_getElem h]; rfl
/-- A lane whose holders rise. -/
def Lane (w : World) (b : Nat) (F : Nat → Prop) (hs qs : List E) : Prop := IsLane w b F hs qs ∧ Asc hs
set_option maxHeartbeats 8000000 in
set_option maxRecDepth 100000 in
theorem grants_old (w : World) (b : Nat) (F : Nat → Prop) (hs qs : List E) (who m : Int) (hI : IsLane w b F hs qs) (hx : ix (fun x => x.f0 == who) hs ≥ 0) :
    Calls Try.prog 76 #[.pointer (some ⟨b, 0, none⟩), .int .i64 who, .int .i64 m] w fun e w' => e = .returned (.tuple #[]) ∧ IsLane w' b F (grantsIn hs who m) qs ∧ Grew F w w' := by
  have hu := Try.underlying105
  have hu67 := Try.underlying67
  obtain ⟨hA, hc, qA, qc, h1, h2, h3, h4, h5, h6, h7⟩ := hI
  have hlt := ix_lt (fun x => x.f0 == who) hs
  have HD := Aside0.mk (show grantsIn hs who m = hs.set (ix (fun x => x.f0 == who) hs).toNat ⟨(hs.getD (ix (fun x => x.f0 == who) hs).toNat z67).f0, m⟩ from if_pos hx)
  have HO := of_ hA hc hs who w h3.reads h3.2.1
  obtain ⟨j, hj⟩ : ∃ j : Nat, ix (fun x => x.f0 == who) hs = (j : Int) := ⟨_, (Int.toNat_of_nonneg hx).symm⟩
  rw [hj] at HO HD hlt
  simp only [Int.toNat_natCast] at HD
  have hjl : j < hs.length := by omega
  obtain ⟨g, off, cur, rfl, hg, hsz, hcell⟩ := h3.at_ (by omega)
  have HO := Aside0.mk HO
  have c0 : w.cell? ⟨b, 0, none⟩ = some (.slice (some ⟨g, off, none⟩) hs.length hc) := (blk_cell h1 0).trans rfl
  have gb : ∀ n : Nat, decide ((n : Int) ≥ 0) = true := fun n => decide_eq_true (by omega)
  have p1 : decide ((j : Int) ≥ 0) = true := gb j
  have p2 : 0 ≤ (j : Int) := by omega
  have p3 : (j : Int) < hs.length := by omega
  have HI := Aside0.mk (show IsLane w b F hs qs from ⟨_, hc, qA, qc, h1, h2, h3, h4, h5, h6, h7⟩)
  have H1 := Aside0.mk h1
  have HC := Aside0.mk hcell
  have HJ := Aside0.mk hjl
  clear h1 h2 h3 h4 h5 h6 h7 hx hj hlt hcell hg hsz gb
  go_enter Try.func76, Try.ntmps76
  go_wp2_with fail
  refine HO.out.mono ?_
  rintro e w3 ⟨rfl, hb⟩
  have c3 := cell_be c0 hb
  have HB := Aside0.mk hb
  have f1 : w3.cell? ⟨g, off + j * 2 + 1, none⟩ = some (.int .i64 (hs.getD j z67).f1) := cell_be (by rw [Nat.add_assoc]; exact (HC.out _ _ (flat_get (get_getD HJ.out)).2).1) hb
  have f2 : w3.frozen? ⟨g, off + j * 2 + 1, none⟩ = false := by
    have hk := HC.out _ _ (flat_get (get_getD HJ.out)).2
    rw [← Nat.add_assoc] at hk
    rw [hb.frozen (p := ⟨g, off + j * 2 + 1, none⟩) (World.block_lt_of_cell? w _ hk.1)]
    exact hk.2
  clear c0 hb
  go_wp2_with fail
  (try simp only [Exit.inBlock, Exit.then])
  refine bodyPost_ret (results_none rfl _ _ _) rfl ?_
  obtain ⟨hA', hc', qA', qc', h1, h2, h3, h4, h5, h6, h7⟩ := HI.out.below HB.out
  have e1 := ((HB.out.block b (Array.getElem?_eq_some_iff.1 H1.out).1).trans H1.out).symm.trans h1
  injection e1 with e1
  injection e1 with e1
  injection e1 with e1
  injection e1 with e1 e2
  injection e1 with e1 _ e3
  subst e1
  subst e3
  clear e2
  have hbg : b ≠ g := fun e => by
    subst e
    obtain ⟨cur', hc3⟩ := h3.typed ⟨_, rfl, rfl⟩
    rw [hc3] at h1
    injection h1 with h1
    injection h1 with _ h1
    exact absurd h1 (by decide)
  have hp := h3.put (j * 2 + 1) (by rw [flat_len]; have := HJ.out; omega) (.int .i64 m)
  rw [flat_set, ← HD.out, ← Nat.add_assoc] at hp
  have hl : (grantsIn hs who m).length = hs.length := by rw [HD.out, List.length_set]
  refine ⟨rfl, ⟨some ⟨g, off, none⟩, hc, qA', qc', ?_, h2, ?_, h4, ?_, h6, h7⟩, ?_⟩
  · rw [Below.heap_setCell _ _ _ _ hbg, hl]; exact h1
  · rw [hl]; exact hp
  · exact h5.set (fun hk => h7 g ⟨_, rfl, rfl⟩ hk) _
  · exact (Grew.of_below HB.out).setCell (.inl (h4 g ⟨_, rfl, rfl⟩)) _
set_option maxHeartbeats 8000000 in
set_option maxRecDepth 100000 in
theorem grants_new (w : World) (b : Nat) (F : Nat → Prop) (hs qs : List E) (who m : Int) (hI : IsLane w b F hs qs) (ha : Asc hs) (hl : hs.length ≤ 1000000) (hx : ix (fun x => x.f0 == who) hs < 0) :
    Calls Try.prog 76 #[.pointer (some ⟨b, 0, none⟩), .int .i64 who, .int .i64 m] w fun e w' => e = .returned (.tuple #[]) ∧ IsLane w' b (fun k => F k ∨ w.heap.size ≤ k) (grantsIn hs who m) qs ∧ Grew F w w' := by
  have hu := Try.underlying105
  have hu67 := Try.underlying67
  obtain ⟨hA, hc, qA, qc, h1, h2, h3, h4, h5, h6, h7⟩ := hI
  have HD := Aside0.mk (show grantsIn hs who m = insE hs ⟨who, m⟩ from if_neg (by omega))
  have HN := Aside0.mk (show ∀ y ∈ hs, y.f0 ≠ (⟨who, m⟩ : E).f0 from fun y hy h => by have := ix_none hx y hy; simp only [beq_eq_false_iff_ne] at this; exact this h)
  have HO := Aside0.mk (of_ hA hc hs who w h3.reads h3.2.1)
  have p1 : decide (ix (fun x => x.f0 == who) hs ≥ 0) = false := decide_eq_false (by omega)
  generalize ix (fun x => x.f0 == who) hs = i at HO p1
  have c0 : w.cell? ⟨b, 0, none⟩ = some (.slice hA hs.length hc) := (blk_cell h1 0).trans rfl
  have HI := Aside0.mk (show IsLane w b F hs qs from ⟨hA, hc, qA, qc, h1, h2, h3, h4, h5, h6, h7⟩)
  have H1 := Aside0.mk h1
  have H2 := Aside0.mk h2
  have H3 := Aside0.mk h3
  have H4 := Aside0.mk h4
  have H5 := Aside0.mk h5
  have H6 := Aside0.mk h6
  have H7 := Aside0.mk h7
  have HL := Aside0.mk hl
  have HA := Aside0.mk ha
  clear h1 h2 h3 h4 h5 h6 h7 hx hl ha
  go_enter Try.func76, Try.ntmps76
  go_wp2_with fail
  refine HO.out.mono ?_
  rintro e w3 ⟨rfl, hb⟩
  have c3 := cell_al (cell_be c0 hb) (.cells #[.int .i64 who, .int .i64 m] 67)
  have c3' := cell_be c0 hb
  have HB := Aside0.mk hb
  clear c0 hb
  go_wp2_with (at_builtin; refine wpList_append_info rfl _ _ 64 rfl 67 _ 2 16 Try.underlying64 info67 rfl hA hs.length hc (flat hs) (by simp [Act.eval, Act.put]) ((H3.out.below HB.out).alloc _) ⟨w3.heap.size, 0, none⟩ 1 1 (encE ⟨who, m⟩) (by simp [Act.eval, Act.put]) rfl (encE_at (x := ⟨who, m⟩) (blk_new w3 _)) (encE_one _) (by have := HL.out; unfold maxLen; omega) (by have := HL.out; omega) ?_)
  intro A' cap' w4 hR4 hG4 hB4
  rw [show flat hs ++ encE ⟨who, m⟩ = flat (hs ++ [⟨who, m⟩]) from (flat_append hs [⟨who, m⟩]).symm] at hR4
  obtain ⟨g, off, cur, rfl, hg, _, _⟩ := hR4.at_ (by omega)
  have hbA : ¬ blk hA b := H3.out.ne H1.out (by decide)
  have b3 := blk_alloc ((HB.out.block b (Array.getElem?_eq_some_iff.1 H1.out).1).trans H1.out) (.cells #[.int .i64 who, .int .i64 m] 67)
  have b4 := (hG4.block b (Array.getElem?_eq_some_iff.1 b3).1 hbA).trans b3
  have c4 : w4.cell? ⟨b, 0, none⟩ = some (.slice hA hs.length hc) := (blk_cell b4 0).trans rfl
  have f4 : w4.frozen? ⟨b, 0, none⟩ = false := blk_frozen b4 0
  have HR4 := Aside0.mk hR4
  have HG4 := Aside0.mk hG4
  have HB4 := Aside0.mk hB4
  have B4 := Aside0.mk b4
  clear hR4 hG4 hB4 b3 b4 hbA hg
  go_wp2_with fail
  have hw3 : w.heap.size ≤ w3.heap.size := HB.out.size
  have hgb : ∀ k, k = g → blk hA k ∨ w3.heap.size + 1 ≤ k := fun k hk => by
    rcases HB4.out g ⟨_, rfl, rfl⟩ with h | h
    · exact .inl (hk ▸ h)
    · right; have : w3.heap.size + 1 ≤ g := (by simpa using h); omega
  have hlen : (hs ++ [(⟨who, m⟩ : E)]).length = hs.length + 1 := by simp
  have hnb : ¬ blk (some ⟨g, off, none⟩ : Option Addr) b := HR4.out.ne B4.out (by decide)
  have hS := SortFunc_ g off cap' (hs ++ [⟨who, m⟩]) _ (by rw [hlen]; exact HR4.out.set (p := ⟨b, 0, none⟩) hnb (.slice (some ⟨g, off, none⟩) (hs.length + 1) cap')) (by rw [hlen]; omega) (by rw [hlen]; have := HL.out; omega)
  rw [hlen] at hS
  have HS := Aside0.mk hS
  have HGB := Aside0.mk hgb
  have HNB := Aside0.mk hnb
  clear hS hgb hlen hnb c4 f4
  refine HS.out.mono ?_
  rintro e w6 ⟨rfl, l', hp, hso, hR6, hG6⟩
  have hl' := sorted_insE HA.out HN.out hp hso
  subst hl'
  have HR6 := Aside0.mk hR6
  have HG6 := Aside0.mk hG6
  clear hp hso hR6 hG6
  go_wp2
  go_end0
  have hll : (grantsIn hs who m).length = hs.length + 1 := by rw [HD.out, (insE_perm hs ⟨who, m⟩).length_eq]; simp
  have hbg : b ≠ g := fun e => HNB.out ⟨_, rfl, e.symm⟩
  have b5 := blk_put B4.out 0 (.slice (some ⟨g, off, none⟩) (hs.length + 1) cap') rfl
  have b6 := (HG6.out.block b (Array.getElem?_eq_some_iff.1 b5).1 hbg).trans b5
  have g4 : Grew F w w4 := ((Grew.of_below HB.out).alloc _).trans HG4.out (fun k hk => .inl (H4.out k hk))
  have g5 : Grew F w (w4.setCell ⟨b, 0, none⟩ (.slice (some ⟨g, off, none⟩) (hs.length + 1) cap')) := g4.setCell (.inl H2.out) _
  have hq1 : ∀ k, blk qA k → k ≠ g := fun k hk e => by
    rcases HGB.out k e with h | h
    · exact H7.out k h hk
    · have := H5.out.lt hk; omega
  have q6 : Row w6 67 2 qA qs.length qc (flat qs) :=
    (((((H5.out.below HB.out).alloc _).grew HG4.out (fun k hk h => H7.out k h hk)).set (p := ⟨b, 0, none⟩) (fun hk => (H5.out.ne H1.out (by decide)) hk) _)).grew HG6.out hq1
  refine ⟨rfl, ⟨some ⟨g, off, none⟩, cap', qA, qc, ?_, .inl H2.out, ?_, ?_, q6, fun k hk => .inl (H6.out k hk), ?_⟩, ?_⟩
  · rw [hll]; exact b6
  · have hR := HR6.out
    rw [(insE_perm hs ⟨who, m⟩).length_eq, List.length_append, List.length_singleton] at hR
    rw [hll, HD.out]; exact hR
  · rintro k ⟨a, h, e⟩
    cases h
    rcases HGB.out k e.symm with h | h
    · exact .inl (H4.out k h)
    · exact .inr (by omega)
  · rintro k ⟨a, h, e⟩ hk
    cases h
    exact hq1 k hk e.symm
  · refine g5.trans HG6.out (fun k hk => ?_)
    rcases HGB.out k hk with h | h
    · exact .inl (H4.out k h)
    · exact .inr (by omega)
theorem asc_grants {hs : List E} {who m : Int} (ha : Asc hs) : Asc (grantsIn hs who m) := by
  unfold grantsIn
  by_cases h : ix (fun x => x.f0 == who) hs ≥ 0
  · rw [if_pos h]
    generalize (ix (fun x => x.f0 == who) hs).toNat = j
    have e : (hs.set j ⟨(hs.getD j z67).f0, m⟩).map (·.f0) = hs.map (·.f0) := by
      rw [List.map_set]
      rcases Nat.lt_or_ge j hs.length with hj | hj
      · apply List.ext_getElem?
        intro i
        rw [List.getElem?_set]
        by_cases hi : j = i
        · subst hi
          rw [if_pos rfl, if_pos (by simpa using hj), List.getElem?_map, get_getD hj]; rfl
        · rw [if_neg hi]
      · rw [List.set_eq_of_length_le (by simpa using hj)]
    have h1 : (hs.map (·.f0)).Pairwise (· < ·) := List.pairwise_map.2 ha
    rw [← e] at h1
    exact List.pairwise_map.1 h1
  · rw [if_neg h]
    exact asc_insE ha (fun y hy h2 => by
      have := ix_none (by omega : ix (fun x => x.f0 == who) hs < 0) y hy
      simp only [beq_eq_false_iff_ne] at this
      exact this h2)
theorem grants_ (w : World) (b : Nat) (F : Nat → Prop) (hs qs : List E) (who m : Int) (hI : IsLane w b F hs qs) (ha : Asc hs) (hl : hs.length ≤ 1000000) :
    Calls Try.prog 76 #[.pointer (some ⟨b, 0, none⟩), .int .i64 who, .int .i64 m] w fun e w' => e = .returned (.tuple #[]) ∧ IsLane w' b (fun k => F k ∨ w.heap.size ≤ k) (grantsIn hs who m) qs ∧ Grew F w w' := by
  by_cases h : ix (fun x => x.f0 == who) hs ≥ 0
  · exact (grants_old w b F hs qs who m hI h).mono fun _ _ ⟨h1, h2, h3⟩ => ⟨h1, h2.mono (fun k _ hk => .inl hk), h3⟩
  · exact grants_new w b F hs qs who m hI ha hl (by omega)
end Go.Proofs.Ytagdgkimjgomlaa.Ln
