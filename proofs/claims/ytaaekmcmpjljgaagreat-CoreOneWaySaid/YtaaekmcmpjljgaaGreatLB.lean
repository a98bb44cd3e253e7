import Derived.Test.YtaaekmcmpjljgaaGreatLA
import Derived.Test.YtaaekmcmpjljgaaGreatLnSort
namespace Go.Proofs.YtaaekmcmpjljgaaGreat.Ln
open Go.RowKit Go.Proofs.YtaaekmcmpjljgaaGreatW.PrintWords Go.Proofs.YtaaekmcmpjljgaaGreatW.PrintLast Go.Proofs.YtaaekmcmpjljgaaGreatW.PrintMore Go.Proofs.YtaaekmcmpjljgaaGreat.PMd
open Go.Shelf Go.Lib
open Go.Sort (SWO PermIn SortedIn putCells mapBlock onCells grow flatK get_flatK size_flatK HoldsK putRowK)
set_option linter.unusedVariables false
set_option linter.unusedSimpArgs false
theorem heap_put (w : World) (g off q : Nat) (F : Array Value) (os : Array Obj) (k : Nat) (hk : k < w.heap.size) :
    (grow (Go.Sort.putRow id (Go.Sort.ahead w q) g off F) os).heap[k]? = if g = k then (w.heap[k]?).map (onCells (putCells id off F)) else w.heap[k]? := by
  show ((w.heap.modify g (onCells (putCells id off F))) ++ os)[k]? = _
  rw [Array.getElem?_append_left (by simpa using hk), Array.getElem?_modify]
theorem Row.putRow {w : World} {e sz n cap g off : Nat} {xs : List Value} (h : Row w e sz (some ⟨g, off, none⟩) n cap xs) (q : Nat) (F : Array Value) (hF : F.size = n * sz) (os : Array Obj) :
    Row (grow (Go.Sort.putRow id (Go.Sort.ahead w q) g off F) os) e sz (some ⟨g, off, none⟩) n cap F.toList := by
  have hm := Nat.mul_le_mul_right sz h.2.1
  refine ⟨by simpa using hF, h.2.1, h.2.2.1, .inr ?_⟩
  rcases h.2.2.2 with ⟨h2, _⟩ | ⟨g', off', cur, h2, hg, h3, h4⟩
  · cases h2
  · cases h2
    refine ⟨g, off, putCells id off F cur, rfl, ?_, by simpa [putCells] using h3, ?_⟩
    · rw [heap_put w g off q F os g (Array.getElem?_eq_some_iff.1 hg).1, if_pos rfl, hg]
      rfl
    · apply List.ext_getElem?
      intro j
      rw [List.getElem?_take]
      by_cases hj : j < n * sz
      · rw [if_pos hj, List.getElem?_drop, Array.getElem?_toList, Array.getElem?_toList, putCells, Array.getElem?_mapIdx]
        rw [Array.getElem?_eq_getElem (show off + j < cur.size by omega), Array.getElem?_eq_getElem (show j < F.size by omega), Option.map_some, if_pos (by omega), Nat.add_sub_cancel_left, getElem!_pos F j (by omega)]
        rfl
      · rw [if_neg hj, Array.getElem?_toList, Array.getElem?_eq_none (by omega)]
theorem Grew.putRow (w : World) (g off q : Nat) (F : Array Value) (os : Array Obj) : Grew (fun k => k = g) w (grow (Go.Sort.putRow id (Go.Sort.ahead w q) g off F) os) :=
  ⟨rfl, rfl, rfl, by simp [grow, Go.Sort.putRow, mapBlock, Go.Sort.ahead], fun k hk hn => by rw [heap_put w g off q F os k hk, if_neg (fun e => hn e.symm)]⟩
instance : Inhabited E := ⟨z113⟩
def cmpE (a b : E) : Int := if a.f0 < b.f0 then -1 else 1
theorem lt_cmpE (x y : E) : ltOf cmpE x y = decide (x.f0 < y.f0) := by
  unfold ltOf cmpE
  by_cases h1 : x.f0 < y.f0 <;> simp [h1]
theorem swo_cmpE : SWO (ltOf cmpE) where
  irrefl x := by rw [lt_cmpE]; simp
  trans x y z h1 h2 := by rw [lt_cmpE] at *; simp at *; omega
  ntrans x y z h1 h2 := by rw [lt_cmpE] at *; simp at *; omega
set_option maxHeartbeats 8000000 in
set_option maxRecDepth 100000 in
theorem grants1 (x y : E) (W : World) : Calls Tryz.prog 92 #[.agg #[.int .i64 x.f0, .int .i64 x.f1], .agg #[.int .i64 y.f0, .int .i64 y.f1]] W fun e w' => e = .returned (.int .i64 (cmpE x y)) ∧ ∃ q os', w' = grow (W.drewN q) os' := by
  have hu67 := Tryz.underlying113
  by_cases h : x.f0 < y.f0
  · have HE := Aside0.mk (show cmpE x y = -1 from if_pos h)
    have h1 : decide (x.f0 < y.f0) = true := decide_eq_true h
    clear h
    go_enter Tryz.func92, Tryz.ntmps92
    go_wp2
    go_ret
    exact ⟨congrArg (fun q : Int => Ending.returned (.int .i64 q)) HE.out.symm, 0, _, by rw [Go.Sort.alloc_eq_grow, Go.Sort.alloc_eq_grow, Go.Sort.grow_grow]; rfl⟩
  · have HE := Aside0.mk (show cmpE x y = 1 from if_neg h)
    have h1 : decide (x.f0 < y.f0) = false := decide_eq_false h
    clear h
    go_enter Tryz.func92, Tryz.ntmps92
    go_wp2
    go_ret
    exact ⟨congrArg (fun q : Int => Ending.returned (.int .i64 q)) HE.out.symm, 0, _, by rw [Go.Sort.alloc_eq_grow, Go.Sort.alloc_eq_grow, Go.Sort.grow_grow]; rfl⟩
theorem enters_grants1 : ∀ args w, (callFunc 92 args).run Tryz.prog w = .ok (.enter 92 args) w := ent_of Tryz.func92 (by kernel_rfl) rfl
theorem flatK_flat (d : Array E) : (flatK encE 2 d).toList = flat d.toList := by
  apply List.ext_getElem?
  intro t
  by_cases ht : t < d.size * 2
  · have e1 := get_flatK encE 2 d t ht
    rw [Array.getElem?_toList, Array.getElem?_eq_getElem (by rw [size_flatK]; exact ht), ← getElem!_pos (flatK encE 2 d) t (by rw [size_flatK]; exact ht), e1]
    have hl : t / 2 < d.size := by omega
    obtain ⟨f0, f1⟩ := flat_get (l := d.toList) (j := t / 2) (p := d[t / 2]!) (by rw [Array.getElem?_toList, Array.getElem?_eq_getElem hl, getElem!_pos d _ hl])
    rcases Nat.mod_two_eq_zero_or_one t with hm | hm
    · rw [hm, show t = t / 2 * 2 by omega, Nat.mul_div_cancel _ (by omega : 0 < 2), f0]; rfl
    · rw [hm, show t = t / 2 * 2 + 1 by omega, show (t / 2 * 2 + 1) / 2 = t / 2 by omega, f1]; rfl
  · rw [Array.getElem?_toList, Array.getElem?_eq_none (by rw [size_flatK]; omega), List.getElem?_eq_none (by rw [flat_len, Array.length_toList]; omega)]
theorem SortFunc_ (g off cap : Nat) (l : List E) (w : World) (hR : Row w 113 2 (some ⟨g, off, none⟩) l.length cap (flat l)) (hl : 0 < l.length) (hl2 : l.length ≤ 1000001) :
    Calls Tryz.prog 91 #[.slice (some ⟨g, off, none⟩) l.length cap, .func (.func 92) #[] #[]] w fun e w' =>
      e = .returned (.tuple #[]) ∧ ∃ l', l'.Perm l ∧ l'.Pairwise (fun a b => ¬ b.f0 < a.f0) ∧ Row w' 113 2 (some ⟨g, off, none⟩) l'.length cap (flat l') ∧ Grew (fun k => k = g) w w' := by
  obtain ⟨g', off', cur, h0, hg, hsz, hcell⟩ := hR.at_ hl
  cases h0
  have hlt : g < w.heap.size := (Array.getElem?_eq_some_iff.1 hg).1
  have hH : HoldsK encE 2 w g off l.toArray := fun j hj => by
    rw [size_flatK] at hj
    have e1 : (flat l)[j]? = some ((flatK encE 2 l.toArray)[j]!) := by
      rw [← show (flatK encE 2 l.toArray).toList = flat l from flatK_flat l.toArray, Array.getElem?_toList, Array.getElem?_eq_getElem (by rw [size_flatK]; exact hj), getElem!_pos _ j (by rw [size_flatK]; exact hj)]
    exact hcell j _ e1
  have hsz2 : l.toArray.size < 4611686018427387904 := by simp; omega
  have hc := AnyQ.slices_SortFunc sortE 2 Tryz.isAgg113 Tryz.sizeOf113 encE (fun _ => rfl) encE_one cmpE swo_cmpE 92 #[] g off cap l.toArray w enters_grants1 (fun _ _ _ _ x y => grants1 x y _) hH hlt hsz2
  refine Calls.mono hc ?_
  rintro e w' ⟨he, d', n, os, hp, hs, rfl⟩
  have hsd : d'.size = l.length := by have := hp.1; simpa using this
  have ext : ∀ d : Array E, (d.extract 0 d.size).toList = d.toList := fun d => by simp
  refine ⟨he, d'.toList, ?_, ?_, ?_, ?_⟩
  · have h2 := hp.2.2
    rw [show l.toArray.size = d'.size by simp [hsd], ext] at h2
    rw [show d'.size = l.toArray.size by simp [hsd], ext] at h2
    exact h2
  · rw [List.pairwise_iff_getElem]
    intro i j hi hj hij
    have h2 := hs i j (Nat.zero_le _) hij (by simp at hj ⊢; omega)
    rw [lt_cmpE] at h2
    have h3 := of_decide_eq_false h2
    simp at hi hj
    rw [getElem!_pos d' i hi, getElem!_pos d' j hj] at h3
    simpa using h3
  · rw [Array.length_toList, hsd, ← flatK_flat]
    exact hR.putRow n (flatK encE 2 d') (by rw [size_flatK, hsd]) os
  · exact Grew.putRow w g off n (flatK encE 2 d') os
end Go.Proofs.YtaaekmcmpjljgaaGreat.Ln
namespace Go.Proofs.YtaaekmcmpjljgaaGreat.Ln
open Go.RowKit Go.Proofs.YtaaekmcmpjljgaaGreatW.PrintWords Go.Proofs.YtaaekmcmpjljgaaGreatW.PrintLast Go.Proofs.YtaaekmcmpjljgaaGreatW.PrintMore Go.Proofs.YtaaekmcmpjljgaaGreat.PMd
set_option linter.unusedVariables false
set_option linter.unusedSimpArgs false
def Asc (l : List E) : Prop := l.Pairwise (fun a b => a.f0 < b.f0)
def insE (l : List E) (x : E) : List E := (l.takeWhile fun y => decide (y.f0 < x.f0)) ++ x :: l.dropWhile fun y => decide (y.f0 < x.f0)
theorem insE_perm (l : List E) (x : E) : (insE l x).Perm (l ++ [x]) := by
  unfold insE
  have h : (l ++ [x]).Perm ((l.takeWhile fun y => decide (y.f0 < x.f0)) ++ ((l.dropWhile fun y => decide (y.f0 < x.f0)) ++ [x])) := by
    rw [← List.append_assoc, List.takeWhile_append_dropWhile]
  refine List.Perm.trans ?_ h.symm
  exact List.Perm.append_left _ (List.perm_append_singleton x _).symm
theorem ix_none {p : E → Bool} {l : List E} (h : ix p l < 0) : ∀ x ∈ l, p x = false := by
  unfold ix at h
  cases hf : l.findIdx? p with
  | none => exact List.findIdx?_eq_none_iff.1 hf
  | some i => rw [hf] at h; simp at h; omega
theorem asc_insE {l : List E} {x : E} (ha : Asc l) (hn : ∀ y ∈ l, y.f0 ≠ x.f0) : Asc (insE l x) := by
  unfold insE
  induction l with
  | nil => simp [Asc]
  | cons y l ih =>
    have hy := hn y (by simp)
    have hp := List.pairwise_cons.1 ha
    by_cases h : y.f0 < x.f0
    · rw [List.takeWhile_cons, if_pos (by simpa using h), List.dropWhile_cons, if_pos (by simpa using h), List.cons_append]
      refine List.pairwise_cons.2 ⟨fun z hz => ?_, ih hp.2 (fun z hz => hn z (by simp [hz]))⟩
      have hm : z ∈ l ++ [x] := (insE_perm l x).mem_iff.1 hz
      rcases List.mem_append.1 hm with h2 | h2
      · exact hp.1 z h2
      · obtain rfl : z = x := by simpa using h2
        exact h
    · rw [List.takeWhile_cons, if_neg (by simpa using h), List.dropWhile_cons, if_neg (by simpa using h), List.nil_append]
      refine List.pairwise_cons.2 ⟨fun z hz => ?_, ha⟩
      rcases List.mem_cons.1 hz with rfl | h2
      · omega
      · have := hp.1 z h2
        omega
theorem asc_unique {l l' : List E} (h : l.Perm l') (ha : Asc l) (hb : Asc l') : l = l' :=
  List.Perm.eq_of_pairwise (le := fun a b : E => a.f0 < b.f0) (fun a b _ _ h1 h2 => by omega) ha hb h
theorem sorted_insE {l l' : List E} {x : E} (ha : Asc l) (hn : ∀ y ∈ l, y.f0 ≠ x.f0) (hp : l'.Perm (l ++ [x])) (hs : l'.Pairwise (fun a b => ¬ b.f0 < a.f0)) : l' = insE l x := by
  have hI := asc_insE ha hn
  refine asc_unique (hp.trans (insE_perm l x).symm) ?_ hI
  have hd : (insE l x).Pairwise (fun a b => a.f0 ≠ b.f0) := List.Pairwise.imp (fun h => by omega) hI
  have hd' : l'.Pairwise (fun a b => a.f0 ≠ b.f0) := ((hp.trans (insE_perm l x).symm).pairwise_iff (fun h => Ne.symm h)).2 hd
  exact (List.Pairwise.and hs hd').imp (fun ⟨h1, h2⟩ => by omega)
def grantsIn (hs : List E) (who m : Int) : List E :=
  if ix (fun x => x.f0 == who) hs ≥ 0 then hs.set (ix (fun x => x.f0 == who) hs).toNat ⟨(hs.getD (ix (fun x => x.f0 == who) hs).toNat z113).f0, m⟩ else insE hs ⟨who, m⟩
theorem flat_set (l : List E) (j : Nat) (m : Int) : (flat l).set (j * 2 + 1) (.int .i64 m) = flat (l.set j ⟨(l.getD j z113).f0, m⟩) := by
  induction l generalizing j with
  | nil => simp [flat]
  | cons y l ih =>
    have e : ∀ (y : E) (l : List E), flat (y :: l) = .int .i64 y.f0 :: .int .i64 y.f1 :: flat l := fun _ _ => rfl
    cases j with
    | zero => rw [e, List.set_cons_zero, e]; rfl
    | succ j =>
      rw [e, show (j + 1) * 2 + 1 = (j * 2 + 1) + 1 + 1 by omega, List.set_cons_succ, List.set_cons_succ, ih, List.set_cons_succ, e]
      simp
theorem get_getD {l : List E} {j : Nat} (h : j < l.length) : l[j]? = some (l.getD j z113) := by
  rw [List.getD_eq_getElem?_getD, List.getElem?_eq_getElem h]; rfl
def Lane (w : World) (b : Nat) (F : Nat → Prop) (hs qs : List E) : Prop := IsLane w b F hs qs ∧ Asc hs
set_option maxHeartbeats 8000000 in
set_option maxRecDepth 100000 in
theorem grants_old (w : World) (b : Nat) (F : Nat → Prop) (hs qs : List E) (who m : Int) (hI : IsLane w b F hs qs) (hx : ix (fun x => x.f0 == who) hs ≥ 0) :
    Calls Tryz.prog 65 #[.pointer (some ⟨b, 0, none⟩), .int .i64 who, .int .i64 m] w fun e w' => e = .returned (.tuple #[]) ∧ IsLane w' b F (grantsIn hs who m) qs ∧ Grew F w w' := by
  have hu := Tryz.underlying116
  have hu67 := Tryz.underlying113
  obtain ⟨hA, hc, qA, qc, h1, h2, h3, h4, h5, h6, h7⟩ := hI
  have hlt := ix_lt (fun x => x.f0 == who) hs
  have HD := Aside0.mk (show grantsIn hs who m = hs.set (ix (fun x => x.f0 == who) hs).toNat ⟨(hs.getD (ix (fun x => x.f0 == who) hs).toNat z113).f0, m⟩ from if_pos hx)
  have HO := of_ hA hc hs who w h3.reads h3.2.1
  obtain ⟨j, hj⟩ : ∃ j : Nat, ix (fun x => x.f0 == who) hs = (j : Int) := ⟨_, (Int.toNat_of_nonneg hx).symm⟩
  rw [hj] at HO HD hlt
  simp only [Int.toNat_natCast] at HD
  have hjl : j < hs.length := by omega
  obtain ⟨g, off, cur, rfl, hg, hsz, hcell⟩ := h3.at_ (by omega)
  have HO := Aside0.mk HO
  have c0 : w.cell? ⟨b, 0, none⟩ = some (.slice (some ⟨g, off, none⟩) hs.length hc) := (blk_cell h1 0).trans rfl
  have gb : ∀ n : Nat, decide ((n : Int) ≥ 0) = true := fun n => decide_eq_true (by omega)
  have p1 : decide ((j : Int) ≥ 0) = true := gb j
  have p2 : 0 ≤ (j : Int) := by omega
  have p3 : (j : Int) < hs.length := by omega
  have HI := Aside0.mk (show IsLane w b F hs qs from ⟨_, hc, qA, qc, h1, h2, h3, h4, h5, h6, h7⟩)
  have H1 := Aside0.mk h1
  have HC := Aside0.mk hcell
  have HJ := Aside0.mk hjl
  clear h1 h2 h3 h4 h5 h6 h7 hx hj hlt hcell hg hsz gb
  go_enter Tryz.func65, Tryz.ntmps65
  go_wp2_with fail
  refine HO.out.mono ?_
  rintro e w3 ⟨rfl, hb⟩
  have c3 := cell_be c0 hb
  have HB := Aside0.mk hb
  have f1 : w3.cell? ⟨g, off + j * 2 + 1, none⟩ = some (.int .i64 (hs.getD j z113).f1) := cell_be (by rw [Nat.add_assoc]; exact (HC.out _ _ (flat_get (get_getD HJ.out)).2).1) hb
  have f2 : w3.frozen? ⟨g, off + j * 2 + 1, none⟩ = false := by
    have hk := HC.out _ _ (flat_get (get_getD HJ.out)).2
    rw [← Nat.add_assoc] at hk
    rw [hb.frozen (p := ⟨g, off + j * 2 + 1, none⟩) (World.block_lt_of_cell? w _ hk.1)]
    exact hk.2
  clear c0 hb
  go_wp2_with fail
  (try simp only [Exit.inBlock, Exit.then])
  refine bodyPost_ret (results_none rfl _ _ _) rfl ?_
  obtain ⟨hA', hc', qA', qc', h1, h2, h3, h4, h5, h6, h7⟩ := HI.out.below HB.out
  have e1 := ((HB.out.block b (Array.getElem?_eq_some_iff.1 H1.out).1).trans H1.out).symm.trans h1
  injection e1 with e1
  injection e1 with e1
  injection e1 with e1
  injection e1 with e1 e2
  injection e1 with e1 _ e3
  subst e1
  subst e3
  clear e2
  have hbg : b ≠ g := fun e => by
    subst e
    obtain ⟨cur', hc3⟩ := h3.typed ⟨_, rfl, rfl⟩
    rw [hc3] at h1
    injection h1 with h1
    injection h1 with _ h1
    exact absurd h1 (by decide)
  have hp := h3.put (j * 2 + 1) (by rw [flat_len]; have := HJ.out; omega) (.int .i64 m)
  rw [flat_set, ← HD.out, ← Nat.add_assoc] at hp
  have hl : (grantsIn hs who m).length = hs.length := by rw [HD.out, List.length_set]
  refine ⟨rfl, ⟨some ⟨g, off, none⟩, hc, qA', qc', ?_, h2, ?_, h4, ?_, h6, h7⟩, ?_⟩
  · rw [Below.heap_setCell _ _ _ _ hbg, hl]; exact h1
  · rw [hl]; exact hp
  · exact h5.set (fun hk => h7 g ⟨_, rfl, rfl⟩ hk) _
  · exact (Grew.of_below HB.out).setCell (.inl (h4 g ⟨_, rfl, rfl⟩)) _
set_option maxHeartbeats 8000000 in
set_option maxRecDepth 100000 in
theorem grants_new (w : World) (b : Nat) (F : Nat → Prop) (hs qs : List E) (who m : Int) (hI : IsLane w b F hs qs) (ha : Asc hs) (hl : hs.length ≤ 1000000) (hx : ix (fun x => x.f0 == who) hs < 0) :
    Calls Tryz.prog 65 #[.pointer (some ⟨b, 0, none⟩), .int .i64 who, .int .i64 m] w fun e w' => e = .returned (.tuple #[]) ∧ IsLane w' b (fun k => F k ∨ w.heap.size ≤ k) (grantsIn hs who m) qs ∧ Grew F w w' := by
  have hu := Tryz.underlying116
  have hu67 := Tryz.underlying113
  obtain ⟨hA, hc, qA, qc, h1, h2, h3, h4, h5, h6, h7⟩ := hI
  have HD := Aside0.mk (show grantsIn hs who m = insE hs ⟨who, m⟩ from if_neg (by omega))
  have HN := Aside0.mk (show ∀ y ∈ hs, y.f0 ≠ (⟨who, m⟩ : E).f0 from fun y hy h => by have := ix_none hx y hy; simp only [beq_eq_false_iff_ne] at this; exact this h)
  have HO := Aside0.mk (of_ hA hc hs who w h3.reads h3.2.1)
  have p1 : decide (ix (fun x => x.f0 == who) hs ≥ 0) = false := decide_eq_false (by omega)
  generalize ix (fun x => x.f0 == who) hs = i at HO p1
  have c0 : w.cell? ⟨b, 0, none⟩ = some (.slice hA hs.length hc) := (blk_cell h1 0).trans rfl
  have HI := Aside0.mk (show IsLane w b F hs qs from ⟨hA, hc, qA, qc, h1, h2, h3, h4, h5, h6, h7⟩)
  have H1 := Aside0.mk h1
  have H2 := Aside0.mk h2
  have H3 := Aside0.mk h3
  have H4 := Aside0.mk h4
  have H5 := Aside0.mk h5
  have H6 := Aside0.mk h6
  have H7 := Aside0.mk h7
  have HL := Aside0.mk hl
  have HA := Aside0.mk ha
  clear h1 h2 h3 h4 h5 h6 h7 hx hl ha
  go_enter Tryz.func65, Tryz.ntmps65
  go_wp2_with fail
  refine HO.out.mono ?_
  rintro e w3 ⟨rfl, hb⟩
  have c3 := cell_al (cell_be c0 hb) (.cells #[.int .i64 who, .int .i64 m] 113)
  have c3' := cell_be c0 hb
  have HB := Aside0.mk hb
  clear c0 hb
  go_wp2_with (at_builtin; refine wpList_append_info rfl _ _ 110 rfl 113 _ 2 16 Tryz.underlying110 info113 rfl hA hs.length hc (flat hs) (by simp [Act.eval, Act.put]) ((H3.out.below HB.out).alloc _) ⟨w3.heap.size, 0, none⟩ 1 1 (encE ⟨who, m⟩) (by simp [Act.eval, Act.put]) rfl (encE_at (x := ⟨who, m⟩) (blk_new w3 _)) (encE_one _) (by have := HL.out; unfold maxLen; omega) (by have := HL.out; omega) ?_)
  intro A' cap' w4 hR4 hG4 hB4
  rw [show flat hs ++ encE ⟨who, m⟩ = flat (hs ++ [⟨who, m⟩]) from (flat_append hs [⟨who, m⟩]).symm] at hR4
  obtain ⟨g, off, cur, rfl, hg, _, _⟩ := hR4.at_ (by omega)
  have hbA : ¬ blk hA b := H3.out.ne H1.out (by decide)
  have b3 := blk_alloc ((HB.out.block b (Array.getElem?_eq_some_iff.1 H1.out).1).trans H1.out) (.cells #[.int .i64 who, .int .i64 m] 113)
  have b4 := (hG4.block b (Array.getElem?_eq_some_iff.1 b3).1 hbA).trans b3
  have c4 : w4.cell? ⟨b, 0, none⟩ = some (.slice hA hs.length hc) := (blk_cell b4 0).trans rfl
  have f4 : w4.frozen? ⟨b, 0, none⟩ = false := blk_frozen b4 0
  have HR4 := Aside0.mk hR4
  have HG4 := Aside0.mk hG4
  have HB4 := Aside0.mk hB4
  have B4 := Aside0.mk b4
  clear hR4 hG4 hB4 b3 b4 hbA hg
  go_wp2_with fail
  have hw3 : w.heap.size ≤ w3.heap.size := HB.out.size
  have hgb : ∀ k, k = g → blk hA k ∨ w3.heap.size + 1 ≤ k := fun k hk => by
    rcases HB4.out g ⟨_, rfl, rfl⟩ with h | h
    · exact .inl (hk ▸ h)
    · right; have : w3.heap.size + 1 ≤ g := (by simpa using h); omega
  have hlen : (hs ++ [(⟨who, m⟩ : E)]).length = hs.length + 1 := by simp
  have hnb : ¬ blk (some ⟨g, off, none⟩ : Option Addr) b := HR4.out.ne B4.out (by decide)
  have hS := SortFunc_ g off cap' (hs ++ [⟨who, m⟩]) _ (by rw [hlen]; exact HR4.out.set (p := ⟨b, 0, none⟩) hnb (.slice (some ⟨g, off, none⟩) (hs.length + 1) cap')) (by rw [hlen]; omega) (by rw [hlen]; have := HL.out; omega)
  rw [hlen] at hS
  have HS := Aside0.mk hS
  have HGB := Aside0.mk hgb
  have HNB := Aside0.mk hnb
  clear hS hgb hlen hnb c4 f4
  refine HS.out.mono ?_
  rintro e w6 ⟨rfl, l', hp, hso, hR6, hG6⟩
  have hl' := sorted_insE HA.out HN.out hp hso
  subst hl'
  have HR6 := Aside0.mk hR6
  have HG6 := Aside0.mk hG6
  clear hp hso hR6 hG6
  go_wp2
  go_end0
  have hll : (grantsIn hs who m).length = hs.length + 1 := by rw [HD.out, (insE_perm hs ⟨who, m⟩).length_eq]; simp
  have hbg : b ≠ g := fun e => HNB.out ⟨_, rfl, e.symm⟩
  have b5 := blk_put B4.out 0 (.slice (some ⟨g, off, none⟩) (hs.length + 1) cap') rfl
  have b6 := (HG6.out.block b (Array.getElem?_eq_some_iff.1 b5).1 hbg).trans b5
  have g4 : Grew F w w4 := ((Grew.of_below HB.out).alloc _).trans HG4.out (fun k hk => .inl (H4.out k hk))
  have g5 : Grew F w (w4.setCell ⟨b, 0, none⟩ (.slice (some ⟨g, off, none⟩) (hs.length + 1) cap')) := g4.setCell (.inl H2.out) _
  have hq1 : ∀ k, blk qA k → k ≠ g := fun k hk e => by
    rcases HGB.out k e with h | h
    · exact H7.out k h hk
    · have := H5.out.lt hk; omega
  have q6 : Row w6 113 2 qA qs.length qc (flat qs) :=
    (((((H5.out.below HB.out).alloc _).grew HG4.out (fun k hk h => H7.out k h hk)).set (p := ⟨b, 0, none⟩) (fun hk => (H5.out.ne H1.out (by decide)) hk) _)).grew HG6.out hq1
  refine ⟨rfl, ⟨some ⟨g, off, none⟩, cap', qA, qc, ?_, .inl H2.out, ?_, ?_, q6, fun k hk => .inl (H6.out k hk), ?_⟩, ?_⟩
  · rw [hll]; exact b6
  · have hR := HR6.out
    rw [(insE_perm hs ⟨who, m⟩).length_eq, List.length_append, List.length_singleton] at hR
    rw [hll, HD.out]; exact hR
  · rintro k ⟨a, h, e⟩
    cases h
    rcases HGB.out k e.symm with h | h
    · exact .inl (H4.out k h)
    · exact .inr (by omega)
  · rintro k ⟨a, h, e⟩ hk
    cases h
    exact hq1 k hk e.symm
  · refine g5.trans HG6.out (fun k hk => ?_)
    rcases HGB.out k hk with h | h
    · exact .inl (H4.out k h)
    · exact .inr (by omega)
theorem asc_grants {hs : List E} {who m : Int} (ha : Asc hs) : Asc (grantsIn hs who m) := by
  unfold grantsIn
  by_cases h : ix (fun x => x.f0 == who) hs ≥ 0
  · rw [if_pos h]
    generalize (ix (fun x => x.f0 == who) hs).toNat = j
    have e : (hs.set j ⟨(hs.getD j z113).f0, m⟩).map (·.f0) = hs.map (·.f0) := by
      rw [List.map_set]
      rcases Nat.lt_or_ge j hs.length with hj | hj
      · apply List.ext_getElem?
        intro i
        rw [List.getElem?_set]
        by_cases hi : j = i
        · subst hi
          rw [if_pos rfl, if_pos (by simpa using hj), List.getElem?_map, get_getD hj]; rfl
        · rw [if_neg hi]
      · rw [List.set_eq_of_length_le (by simpa using hj)]
    have h1 : (hs.map (·.f0)).Pairwise (· < ·) := List.pairwise_map.2 ha
    rw [← e] at h1
    exact List.pairwise_map.1 h1
  · rw [if_neg h]
    exact asc_insE ha (fun y hy h2 => by
      have := ix_none (by omega : ix (fun x => x.f0 == who) hs < 0) y hy
      simp only [beq_eq_false_iff_ne] at this
      exact this h2)
theorem grants_ (w : World) (b : Nat) (F : Nat → Prop) (hs qs : List E) (who m : Int) (hI : IsLane w b F hs qs) (ha : Asc hs) (hl : hs.length ≤ 1000000) :
    Calls Tryz.prog 65 #[.pointer (some ⟨b, 0, none⟩), .int .i64 who, .int .i64 m] w fun e w' => e = .returned (.tuple #[]) ∧ IsLane w' b (fun k => F k ∨ w.heap.size ≤ k) (grantsIn hs who m) qs ∧ Grew F w w' := by
  by_cases h : ix (fun x => x.f0 == who) hs ≥ 0
  · exact (grants_old w b F hs qs who m hI h).mono fun _ _ ⟨h1, h2, h3⟩ => ⟨h1, h2.mono (fun k _ hk => .inl hk), h3⟩
  · exact grants_new w b F hs qs who m hI ha hl (by omega)
end Go.Proofs.YtaaekmcmpjljgaaGreat.Ln
namespace Go.Proofs.YtaaekmcmpjljgaaGreat.Ln
open Go.RowKit Go.Proofs.YtaaekmcmpjljgaaGreatW.PrintWords Go.Proofs.YtaaekmcmpjljgaaGreatW.PrintLast Go.Proofs.YtaaekmcmpjljgaaGreatW.PrintMore Go.Proofs.YtaaekmcmpjljgaaGreat.PMd
set_option linter.unusedVariables false
set_option linter.unusedSimpArgs false
def supM (a b : Int) : Int := Sup.sup [a, b]
theorem Sup_ (a b : Int) (A : Option Addr) (c : Nat) (w : World) (hr : Kd.C (Kd.int .i64) w A 2 [a, b]) (hc : 2 ≤ c) : Calls Tryz.prog 62 #[.slice A 2 c] w fun e w' => e = .returned (.int .i64 (supM a b)) ∧ Drawn0 w w' :=
  mode_Sup.calls 20 A c [a, b] _ w hr hc (Sup.sup_f [a, b] (by simp) (by simp))
def askBad (qs : List E) (who m : Int) : Bool := !knownM m || m == 0 || decide (ix (fun x => x.f0 == who) qs ≥ 0)
def aheadOf (hs qs : List E) (who : Int) : Nat := if toldIn hs who = 0 then qs.length else convs hs qs
def askGo (hs qs : List E) (who m : Int) : Bool := supM (toldIn hs who) m == toldIn hs who || aheadOf hs qs who == 0 && fitsAll hs who (supM (toldIn hs who) m)
def askIn (hs qs : List E) (who m : Int) : Int × List E × List E :=
  if askBad qs who m then (0, hs, qs)
  else if askGo hs qs who m then (1, grantsIn hs who (supM (toldIn hs who) m), qs)
  else (2, hs, insAt qs (aheadOf hs qs who) ⟨who, supM (toldIn hs who) m⟩)
def AskPost (b : Nat) (F : Nat → Prop) (hs qs : List E) (who m : Int) (w : World) (e : Ending) (w' : World) : Prop :=
  e = .returned (.int .i64 (askIn hs qs who m).1) ∧ IsLane w' b (fun k => F k ∨ w.heap.size ≤ k) (askIn hs qs who m).2.1 (askIn hs qs who m).2.2 ∧ Grew F w w'
set_option maxHeartbeats 8000000 in
set_option maxRecDepth 100000 in
theorem Ask_bad (w : World) (b : Nat) (F : Nat → Prop) (hs qs : List E) (who m : Int) (hI : IsLane w b F hs qs) (hbad : askBad qs who m = true) :
    Calls Tryz.prog 41 #[.pointer (some ⟨b, 0, none⟩), .int .i64 who, .int .i64 m] w (AskPost b F hs qs who m w) := by
  have hu := Tryz.underlying116
  have HP := Aside0.mk (show askIn hs qs who m = (0, hs, qs) from if_pos hbad)
  have HI := Aside0.mk hI
  obtain ⟨hA, hc, qA, qc, c0, c1, l0, l1, r0, r1⟩ := hI.open_
  have HK := Aside0.mk (fun w => Known_ m w)
  have HO := Aside0.mk (fun w' (hb : Below w.heap.size w w') => of_ qA qc qs who w' (Kd.C_below r1 hb) l1)
  clear hI r0 r1 l0 l1 c0
  have fin : ∀ w', Below w.heap.size w w' → AskPost b F hs qs who m w (.returned (.int .i64 0)) w' := fun w' hb => by
    unfold AskPost
    rw [HP.out]
    exact ⟨rfl, (HI.out.below hb).mono (fun k _ h => .inl h), Grew.of_below hb⟩
  have FIN := Aside0.mk fin
  clear fin HP
  unfold askBad at hbad
  cases hk : knownM m with
  | false =>
    rw [hk] at HK
    clear hbad hk
    go_enter Tryz.func41, Tryz.ntmps41
    go_wp2_with fail
    refine (HK.out _).mono ?_
    rintro e w3 ⟨rfl, hd⟩
    obtain ⟨n, rfl⟩ := hd.out
    go_wp2_with fail
    go_ret
    exact FIN.out _ (pw_below_drewN (Below.refl _ _) _)
  | true =>
    rw [hk] at hbad HK
    by_cases hm : m = 0
    · have m1 : (m == 0) = true := beq_iff_eq.2 hm
      clear hbad hk hm
      go_enter Tryz.func41, Tryz.ntmps41
      go_wp2_with fail
      refine (HK.out _).mono ?_
      rintro e w3 ⟨rfl, hd⟩
      obtain ⟨n, rfl⟩ := hd.out
      go_wp2_with fail
      go_ret
      exact FIN.out _ (pw_below_drewN (Below.refl _ _) _)
    · have m1 : (m == 0) = false := beq_eq_false_iff_ne.2 hm
      rw [m1] at hbad
      have hx : decide (ix (fun x => x.f0 == who) qs ≥ 0) = true := by simpa using hbad
      generalize ix (fun x => x.f0 == who) qs = i at hx HO
      clear hbad hk hm
      go_enter Tryz.func41, Tryz.ntmps41
      go_wp2_with fail
      refine (HK.out _).mono ?_
      rintro e w3 ⟨rfl, hd⟩
      obtain ⟨n, rfl⟩ := hd.out
      go_wp2_with fail
      refine (HO.out _ (pw_below_drewN (Below.refl _ _) _)).mono ?_
      rintro e w4 ⟨rfl, hb⟩
      have HB := Aside0.mk (below_then (pw_below_drewN (Below.refl w.heap.size w) n) (Nat.le_refl _) hb)
      clear hb
      go_wp2_with fail
      go_ret
      exact FIN.out _ HB.out
theorem slice_two {w : World} (x y : Int) : Kd.C (Kd.int .i64) (w.alloc (.cells #[.int .i64 x, .int .i64 y] 3)) (some ⟨w.heap.size, 0, none⟩) 2 [x, y] := by
  refine ⟨rfl, by omega, fun _ => ⟨_, rfl, fun j p hj => ?_⟩⟩
  match j, hj with
  | 0, hj => obtain rfl : x = p := by simpa using hj
             exact ⟨[.int .i64 x], rfl, rfl, fun i u hu => by
               match i, hu with
               | 0, hu => obtain rfl : Value.int .i64 x = u := by simpa using hu
                          exact (blk_cell (blk_new w _) 0).trans rfl
               | i + 1, hu => simp at hu⟩
  | 1, hj => obtain rfl : y = p := by simpa using hj
             exact ⟨[.int .i64 y], rfl, rfl, fun i u hu => by
               match i, hu with
               | 0, hu => obtain rfl : Value.int .i64 y = u := by simpa using hu
                          exact (blk_cell (blk_new w _) 1).trans rfl
               | i + 1, hu => simp at hu⟩
  | j + 2, hj => simp at hj
set_option maxHeartbeats 8000000 in
set_option maxRecDepth 100000 in
theorem Ask_0_same (w : World) (b : Nat) (F : Nat → Prop) (hs qs : List E) (who m : Int) (hI : IsLane w b F hs qs) (ha : Asc hs) (hl : hs.length ≤ 1000000) (hl2 : qs.length ≤ 1000000) (hbad : askBad qs who m = false)
    (e1 : toldIn hs who = 0) (e2 : supM (toldIn hs who) m = toldIn hs who) :
    Calls Tryz.prog 41 #[.pointer (some ⟨b, 0, none⟩), .int .i64 who, .int .i64 m] w (AskPost b F hs qs who m w) := by
  have hu := Tryz.underlying116
  have hu67 := Tryz.underlying113
  have hgo : askGo hs qs who m = true := by
    unfold askGo
    rw [beq_iff_eq.2 e2]; rfl
  have HP := Aside0.mk (show askIn hs qs who m = (1, grantsIn hs who (supM (toldIn hs who) m), qs) from by unfold askIn; rw [hbad, hgo]; rfl)
  have eA : aheadOf hs qs who = qs.length := by unfold aheadOf; rw [if_pos e1]
  clear eA hgo
  have HI := Aside0.mk hI
  obtain ⟨hA, hc, qA, qc, c0, c1, l0, l1, r0, r1⟩ := hI.open_
  unfold askBad at hbad
  have hk : knownM m = true := by cases h : knownM m <;> simp [h] at hbad ⊢
  have m1 : (m == 0) = false := by cases h : (m == 0) <;> simp [h, hk] at hbad ⊢
  have hx : decide (ix (fun x => x.f0 == who) qs ≥ 0) = false := by simpa [hk, m1] using hbad
  have HK := Aside0.mk (fun w => Known_ m w)
  rw [hk] at HK
  have HO := Aside0.mk (fun w' (hb : Below w.heap.size w w') => of_ qA qc qs who w' (Kd.C_below r1 hb) l1)
  generalize ix (fun x => x.f0 == who) qs = i at hx HO
  have HH := Aside0.mk (fun w' (h : IsLane w' b F hs qs) => Holds_ w' b F hs qs who h)
  have HF := Aside0.mk (fun w' (h : IsLane w' b F hs qs) => fits_ w' b F hs qs who (supM (toldIn hs who) m) h)
  have HC := Aside0.mk (fun w' (h : IsLane w' b F hs qs) => conversions_ w' b F hs qs h)
  have HG := Aside0.mk (fun w' (h : IsLane w' b F hs qs) => grants_ w' b F hs qs who (supM (toldIn hs who) m) h ha hl)
  have HS := Aside0.mk (fun w' A c hr hc => Sup_ (toldIn hs who) m A c w' hr hc)
  have HL2 := Aside0.mk hl2
  generalize supM (toldIn hs who) m = T at e2 HF HG HS HP
  generalize toldIn hs who = H at e1 e2 HH HS
  have t1 : (H != 0) = false := bne_eq_false_iff_eq.2 e1
  have t2 : (T == H) = true := beq_iff_eq.2 e2
  clear hI r0 r1 l0 l1 c0 hbad hk ha hl hl2 e1 e2
  go_enter Tryz.func41, Tryz.ntmps41
  go_wp2_with fail
  refine (HK.out _).mono ?_
  rintro e w3 ⟨rfl, hd⟩
  obtain ⟨n, rfl⟩ := hd.out
  go_wp2_with fail
  refine (HO.out _ (pw_below_drewN (Below.refl _ _) _)).mono ?_
  rintro e w4 ⟨rfl, hb⟩
  have HB := Aside0.mk (below_then (pw_below_drewN (Below.refl w.heap.size w) n) (Nat.le_refl _) hb)
  clear hb
  go_wp2_with fail
  refine (HH.out _ (HI.out.below HB.out)).mono ?_
  rintro e w5 ⟨rfl, hb⟩
  have HB5 := Aside0.mk (below_then HB.out HB.out.size hb)
  clear hb HB
  go_wp2_with fail
  refine (HS.out _ _ _ (slice_two _ _) (Nat.le_refl _)).mono ?_
  rintro e w6 ⟨rfl, hd⟩
  obtain ⟨n2, rfl⟩ := hd.out
  have HB6 := Aside0.mk (pw_below_drewN (below_alloc HB5.out (.cells #[.int .i64 H, .int .i64 m] 3)) n2)
  have c6 := cell_be c1 HB6.out
  clear HB5
  generalize (w5.alloc (.cells #[.int .i64 H, .int .i64 m] 3)).drewN n2 = w6 at HB6 c6 ⊢
  go_wp2_with fail
  refine (HG.out _ (HI.out.below HB6.out)).mono ?_
  rintro e w9 ⟨rfl, hI9, hG9⟩
  have HI9 := Aside0.mk hI9
  have HG9 := Aside0.mk hG9
  clear hI9 hG9
  go_wp2
  go_ret
  unfold AskPost
  rw [HP.out]
  refine ⟨rfl, HI9.out.mono (fun k hk h => h.elim .inl (fun h2 => .inr (Nat.le_trans HB6.out.size h2))), (Grew.of_below HB6.out).trans HG9.out (fun _ h => .inl h)⟩
set_option maxHeartbeats 8000000 in
set_option maxRecDepth 100000 in
theorem Ask_0_fits (w : World) (b : Nat) (F : Nat → Prop) (hs qs : List E) (who m : Int) (hI : IsLane w b F hs qs) (ha : Asc hs) (hl : hs.length ≤ 1000000) (hl2 : qs.length ≤ 1000000) (hbad : askBad qs who m = false)
    (e1 : toldIn hs who = 0) (e2 : supM (toldIn hs who) m ≠ toldIn hs who) (e3 : aheadOf hs qs who = 0) (e4 : fitsAll hs who (supM (toldIn hs who) m) = true) :
    Calls Tryz.prog 41 #[.pointer (some ⟨b, 0, none⟩), .int .i64 who, .int .i64 m] w (AskPost b F hs qs who m w) := by
  have hu := Tryz.underlying116
  have hu67 := Tryz.underlying113
  have hgo : askGo hs qs who m = true := by
    unfold askGo
    rw [beq_eq_false_iff_ne.2 e2, e3, e4]; rfl
  have HP := Aside0.mk (show askIn hs qs who m = (1, grantsIn hs who (supM (toldIn hs who) m), qs) from by unfold askIn; rw [hbad, hgo]; rfl)
  have eA : aheadOf hs qs who = qs.length := by unfold aheadOf; rw [if_pos e1]
  rw [eA] at e3
  clear eA hgo
  have HI := Aside0.mk hI
  obtain ⟨hA, hc, qA, qc, c0, c1, l0, l1, r0, r1⟩ := hI.open_
  unfold askBad at hbad
  have hk : knownM m = true := by cases h : knownM m <;> simp [h] at hbad ⊢
  have m1 : (m == 0) = false := by cases h : (m == 0) <;> simp [h, hk] at hbad ⊢
  have hx : decide (ix (fun x => x.f0 == who) qs ≥ 0) = false := by simpa [hk, m1] using hbad
  have HK := Aside0.mk (fun w => Known_ m w)
  rw [hk] at HK
  have HO := Aside0.mk (fun w' (hb : Below w.heap.size w w') => of_ qA qc qs who w' (Kd.C_below r1 hb) l1)
  generalize ix (fun x => x.f0 == who) qs = i at hx HO
  have HH := Aside0.mk (fun w' (h : IsLane w' b F hs qs) => Holds_ w' b F hs qs who h)
  have HF := Aside0.mk (fun w' (h : IsLane w' b F hs qs) => fits_ w' b F hs qs who (supM (toldIn hs who) m) h)
  have HC := Aside0.mk (fun w' (h : IsLane w' b F hs qs) => conversions_ w' b F hs qs h)
  have HG := Aside0.mk (fun w' (h : IsLane w' b F hs qs) => grants_ w' b F hs qs who (supM (toldIn hs who) m) h ha hl)
  have HS := Aside0.mk (fun w' A c hr hc => Sup_ (toldIn hs who) m A c w' hr hc)
  have HL2 := Aside0.mk hl2
  rw [e4] at HF
  generalize supM (toldIn hs who) m = T at e2 HF HG HS HP
  generalize toldIn hs who = H at e1 e2 HH HS
  have t1 : (H != 0) = false := bne_eq_false_iff_eq.2 e1
  have t2 : (T == H) = false := beq_eq_false_iff_ne.2 e2
  have t3 : (((qs.length : Nat) : Int) == 0) = true := beq_iff_eq.2 (by omega)
  clear hI r0 r1 l0 l1 c0 hbad hk ha hl hl2 e1 e2 e3
  go_enter Tryz.func41, Tryz.ntmps41
  go_wp2_with fail
  refine (HK.out _).mono ?_
  rintro e w3 ⟨rfl, hd⟩
  obtain ⟨n, rfl⟩ := hd.out
  go_wp2_with fail
  refine (HO.out _ (pw_below_drewN (Below.refl _ _) _)).mono ?_
  rintro e w4 ⟨rfl, hb⟩
  have HB := Aside0.mk (below_then (pw_below_drewN (Below.refl w.heap.size w) n) (Nat.le_refl _) hb)
  clear hb
  go_wp2_with fail
  refine (HH.out _ (HI.out.below HB.out)).mono ?_
  rintro e w5 ⟨rfl, hb⟩
  have HB5 := Aside0.mk (below_then HB.out HB.out.size hb)
  clear hb HB
  go_wp2_with fail
  refine (HS.out _ _ _ (slice_two _ _) (Nat.le_refl _)).mono ?_
  rintro e w6 ⟨rfl, hd⟩
  obtain ⟨n2, rfl⟩ := hd.out
  have HB6 := Aside0.mk (pw_below_drewN (below_alloc HB5.out (.cells #[.int .i64 H, .int .i64 m] 3)) n2)
  have c6 := cell_be c1 HB6.out
  clear HB5
  generalize (w5.alloc (.cells #[.int .i64 H, .int .i64 m] 3)).drewN n2 = w6 at HB6 c6 ⊢
  go_wp2_with fail
  refine (HF.out _ (HI.out.below HB6.out)).mono ?_
  rintro e w8 ⟨rfl, hb⟩
  have HB8 := Aside0.mk (below_then HB6.out HB6.out.size hb)
  have c8 := cell_be c1 HB8.out
  clear hb HB6 c6
  go_wp2_with fail
  refine (HG.out _ (HI.out.below HB8.out)).mono ?_
  rintro e w9 ⟨rfl, hI9, hG9⟩
  have HI9 := Aside0.mk hI9
  have HG9 := Aside0.mk hG9
  clear hI9 hG9
  go_wp2
  go_ret
  unfold AskPost
  rw [HP.out]
  refine ⟨rfl, HI9.out.mono (fun k hk h => h.elim .inl (fun h2 => .inr (Nat.le_trans HB8.out.size h2))), (Grew.of_below HB8.out).trans HG9.out (fun _ h => .inl h)⟩
set_option maxHeartbeats 8000000 in
set_option maxRecDepth 100000 in
theorem Ask_0_nofit (w : World) (b : Nat) (F : Nat → Prop) (hs qs : List E) (who m : Int) (hI : IsLane w b F hs qs) (ha : Asc hs) (hl : hs.length ≤ 1000000) (hl2 : qs.length ≤ 1000000) (hbad : askBad qs who m = false)
    (e1 : toldIn hs who = 0) (e2 : supM (toldIn hs who) m ≠ toldIn hs who) (e3 : aheadOf hs qs who = 0) (e4 : fitsAll hs who (supM (toldIn hs who) m) = false) :
    Calls Tryz.prog 41 #[.pointer (some ⟨b, 0, none⟩), .int .i64 who, .int .i64 m] w (AskPost b F hs qs who m w) := by
  have hu := Tryz.underlying116
  have hu67 := Tryz.underlying113
  have hgo : askGo hs qs who m = false := by
    unfold askGo
    rw [beq_eq_false_iff_ne.2 e2, e3, e4]; rfl
  have HP := Aside0.mk (show askIn hs qs who m = (2, hs, insAt qs (aheadOf hs qs who) ⟨who, supM (toldIn hs who) m⟩) from by unfold askIn; rw [hbad, hgo]; rfl)
  have eA : aheadOf hs qs who = qs.length := by unfold aheadOf; rw [if_pos e1]
  rw [eA] at e3
  rw [eA] at HP
  clear eA hgo
  have HI := Aside0.mk hI
  obtain ⟨hA, hc, qA, qc, c0, c1, l0, l1, r0, r1⟩ := hI.open_
  unfold askBad at hbad
  have hk : knownM m = true := by cases h : knownM m <;> simp [h] at hbad ⊢
  have m1 : (m == 0) = false := by cases h : (m == 0) <;> simp [h, hk] at hbad ⊢
  have hx : decide (ix (fun x => x.f0 == who) qs ≥ 0) = false := by simpa [hk, m1] using hbad
  have HK := Aside0.mk (fun w => Known_ m w)
  rw [hk] at HK
  have HO := Aside0.mk (fun w' (hb : Below w.heap.size w w') => of_ qA qc qs who w' (Kd.C_below r1 hb) l1)
  generalize ix (fun x => x.f0 == who) qs = i at hx HO
  have HH := Aside0.mk (fun w' (h : IsLane w' b F hs qs) => Holds_ w' b F hs qs who h)
  have HF := Aside0.mk (fun w' (h : IsLane w' b F hs qs) => fits_ w' b F hs qs who (supM (toldIn hs who) m) h)
  have HC := Aside0.mk (fun w' (h : IsLane w' b F hs qs) => conversions_ w' b F hs qs h)
  have HG := Aside0.mk (fun w' (h : IsLane w' b F hs qs) => grants_ w' b F hs qs who (supM (toldIn hs who) m) h ha hl)
  have HS := Aside0.mk (fun w' A c hr hc => Sup_ (toldIn hs who) m A c w' hr hc)
  have HL2 := Aside0.mk hl2
  rw [e4] at HF
  generalize supM (toldIn hs who) m = T at e2 HF HG HS HP
  generalize toldIn hs who = H at e1 e2 HH HS
  have t1 : (H != 0) = false := bne_eq_false_iff_eq.2 e1
  have t2 : (T == H) = false := beq_eq_false_iff_ne.2 e2
  have t3 : (((qs.length : Nat) : Int) == 0) = true := beq_iff_eq.2 (by omega)
  clear hI r0 r1 l0 l1 c0 hbad hk ha hl hl2 e1 e2 e3
  go_enter Tryz.func41, Tryz.ntmps41
  go_wp2_with fail
  refine (HK.out _).mono ?_
  rintro e w3 ⟨rfl, hd⟩
  obtain ⟨n, rfl⟩ := hd.out
  go_wp2_with fail
  refine (HO.out _ (pw_below_drewN (Below.refl _ _) _)).mono ?_
  rintro e w4 ⟨rfl, hb⟩
  have HB := Aside0.mk (below_then (pw_below_drewN (Below.refl w.heap.size w) n) (Nat.le_refl _) hb)
  clear hb
  go_wp2_with fail
  refine (HH.out _ (HI.out.below HB.out)).mono ?_
  rintro e w5 ⟨rfl, hb⟩
  have HB5 := Aside0.mk (below_then HB.out HB.out.size hb)
  clear hb HB
  go_wp2_with fail
  refine (HS.out _ _ _ (slice_two _ _) (Nat.le_refl _)).mono ?_
  rintro e w6 ⟨rfl, hd⟩
  obtain ⟨n2, rfl⟩ := hd.out
  have HB6 := Aside0.mk (pw_below_drewN (below_alloc HB5.out (.cells #[.int .i64 H, .int .i64 m] 3)) n2)
  have c6 := cell_be c1 HB6.out
  clear HB5
  generalize (w5.alloc (.cells #[.int .i64 H, .int .i64 m] 3)).drewN n2 = w6 at HB6 c6 ⊢
  go_wp2_with fail
  refine (HF.out _ (HI.out.below HB6.out)).mono ?_
  rintro e w8 ⟨rfl, hb⟩
  have HB8 := Aside0.mk (below_then HB6.out HB6.out.size hb)
  have c8 := cell_be c1 HB8.out
  clear hb HB6 c6
  go_wp2_with fail
  obtain ⟨hA', hc', qA', qc', h1, h2, h3, h4, h5, h6, h7⟩ := HI.out.below HB8.out
  obtain ⟨rfl, rfl⟩ : qA' = qA ∧ qc' = qc := by
    have e1 := ((blk_cell h1 1).trans rfl).symm.trans c8
    injection e1 with e1
    injection e1 with e1 _ e3
    exact ⟨e1, e3⟩
  have hbq : ¬ blk qA' b := h5.ne h1 (by decide)
  have HINS := Aside0.mk (Insert_ qA' qc' qs qs.length ⟨who, T⟩ w8.heap.size (w8.alloc (.cells #[.int .i64 who, .int .i64 T] 113)) (Nat.le_refl _) (h5.alloc _) (blk_new w8 _) (fun hk => Nat.lt_irrefl _ (h5.lt hk)) HL2.out)
  have b9 := blk_alloc h1 (.cells #[.int .i64 who, .int .i64 T] 113)
  have H1 := Aside0.mk b9
  have H2 := Aside0.mk h2
  have H3 := Aside0.mk (h3.alloc (.cells #[.int .i64 who, .int .i64 T] 113))
  have H4 := Aside0.mk h4
  have H6 := Aside0.mk h6
  have H7 := Aside0.mk h7
  have HQ := Aside0.mk hbq
  have HB9 := Aside0.mk (below_alloc HB8.out (.cells #[.int .i64 who, .int .i64 T] 113))
  have HZ := Aside0.mk (show w.heap.size ≤ w8.heap.size from HB8.out.size)
  clear h1 h2 h3 h4 h5 h6 h7 hbq b9 c1
  refine HINS.out.mono ?_
  rintro e w10 ⟨A', c', rfl, hR, hG, hk⟩
  have b10 := (hG.block b (Array.getElem?_eq_some_iff.1 H1.out).1 HQ.out).trans H1.out
  have c10 : w10.cell? ⟨b, 1, none⟩ = some (.slice qA' qs.length qc') := (blk_cell b10 1).trans rfl
  have f10 : w10.frozen? ⟨b, 1, none⟩ = false := blk_frozen b10 1
  have HR := Aside0.mk hR
  have HG2 := Aside0.mk hG
  have HK2 := Aside0.mk hk
  have B10 := Aside0.mk b10
  clear hR hG hk b10
  go_wp2
  go_ret
  have hli : (insAt qs qs.length ⟨who, T⟩).length = qs.length + 1 := by unfold insAt; rw [List.length_append, List.length_cons, List.length_take, List.length_drop]; omega
  have hAb : ¬ blk A' b := fun h => HQ.out.elim (by
    obtain ⟨cur, hc⟩ := HR.out.typed h
    rw [B10.out] at hc
    injection hc with hc
    injection hc with _ hc
    exact absurd hc (by decide))
  have hsz : (w8.alloc (.cells #[.int .i64 who, .int .i64 T] 113)).heap.size = w8.heap.size + 1 := by simp
  have hnew : ∀ k, blk A' k → F k ∨ w.heap.size ≤ k := fun k h => (HK2.out k h).elim (fun h => .inl (H6.out k h)) (fun h => .inr (by have := HZ.out; omega))
  have hapart : ∀ k, blk hA' k → blk A' k → False := fun k h h' => (HK2.out k h').elim (fun h2 => H7.out k h h2) (fun h2 => by have := H3.out.lt h; omega)
  unfold AskPost
  rw [HP.out]
  refine ⟨rfl, ⟨hA', hc', A', c', ?_, .inl H2.out, ?_, fun k h => .inl (H4.out k h), ?_, hnew, hapart⟩, ?_⟩
  · show _ = some (Obj.cells #[.slice hA' hs.length hc', .slice A' (insAt qs qs.length ⟨who, T⟩).length c'] 116 (0, 0))
    rw [hli]; exact blk_put B10.out 1 _ rfl
  · exact (H3.out.grew HG2.out (fun k h h2 => H7.out k h h2)).set (p := ⟨b, 1, none⟩) (fun hk => (H3.out.ne H1.out (by decide)) hk) _
  · show Row _ 113 2 A' (insAt qs qs.length ⟨who, T⟩).length c' (flat (insAt qs qs.length ⟨who, T⟩))
    rw [hli]; exact HR.out.set (p := ⟨b, 1, none⟩) hAb _
  · exact ((Grew.of_below HB9.out).trans HG2.out (fun k h => .inl (H6.out k h))).setCell (.inl H2.out) _
set_option maxHeartbeats 8000000 in
set_option maxRecDepth 100000 in
theorem Ask_0_queue (w : World) (b : Nat) (F : Nat → Prop) (hs qs : List E) (who m : Int) (hI : IsLane w b F hs qs) (ha : Asc hs) (hl : hs.length ≤ 1000000) (hl2 : qs.length ≤ 1000000) (hbad : askBad qs who m = false)
    (e1 : toldIn hs who = 0) (e2 : supM (toldIn hs who) m ≠ toldIn hs who) (e3 : aheadOf hs qs who ≠ 0) :
    Calls Tryz.prog 41 #[.pointer (some ⟨b, 0, none⟩), .int .i64 who, .int .i64 m] w (AskPost b F hs qs who m w) := by
  have hu := Tryz.underlying116
  have hu67 := Tryz.underlying113
  have hgo : askGo hs qs who m = false := by
    unfold askGo
    rw [beq_eq_false_iff_ne.2 e2, beq_eq_false_iff_ne.2 e3]; rfl
  have HP := Aside0.mk (show askIn hs qs who m = (2, hs, insAt qs (aheadOf hs qs who) ⟨who, supM (toldIn hs who) m⟩) from by unfold askIn; rw [hbad, hgo]; rfl)
  have eA : aheadOf hs qs who = qs.length := by unfold aheadOf; rw [if_pos e1]
  rw [eA] at e3
  rw [eA] at HP
  clear eA hgo
  have HI := Aside0.mk hI
  obtain ⟨hA, hc, qA, qc, c0, c1, l0, l1, r0, r1⟩ := hI.open_
  unfold askBad at hbad
  have hk : knownM m = true := by cases h : knownM m <;> simp [h] at hbad ⊢
  have m1 : (m == 0) = false := by cases h : (m == 0) <;> simp [h, hk] at hbad ⊢
  have hx : decide (ix (fun x => x.f0 == who) qs ≥ 0) = false := by simpa [hk, m1] using hbad
  have HK := Aside0.mk (fun w => Known_ m w)
  rw [hk] at HK
  have HO := Aside0.mk (fun w' (hb : Below w.heap.size w w') => of_ qA qc qs who w' (Kd.C_below r1 hb) l1)
  generalize ix (fun x => x.f0 == who) qs = i at hx HO
  have HH := Aside0.mk (fun w' (h : IsLane w' b F hs qs) => Holds_ w' b F hs qs who h)
  have HF := Aside0.mk (fun w' (h : IsLane w' b F hs qs) => fits_ w' b F hs qs who (supM (toldIn hs who) m) h)
  have HC := Aside0.mk (fun w' (h : IsLane w' b F hs qs) => conversions_ w' b F hs qs h)
  have HG := Aside0.mk (fun w' (h : IsLane w' b F hs qs) => grants_ w' b F hs qs who (supM (toldIn hs who) m) h ha hl)
  have HS := Aside0.mk (fun w' A c hr hc => Sup_ (toldIn hs who) m A c w' hr hc)
  have HL2 := Aside0.mk hl2
  generalize supM (toldIn hs who) m = T at e2 HF HG HS HP
  generalize toldIn hs who = H at e1 e2 HH HS
  have t1 : (H != 0) = false := bne_eq_false_iff_eq.2 e1
  have t2 : (T == H) = false := beq_eq_false_iff_ne.2 e2
  have t3 : (((qs.length : Nat) : Int) == 0) = false := beq_eq_false_iff_ne.2 (by omega)
  clear hI r0 r1 l0 l1 c0 hbad hk ha hl hl2 e1 e2 e3
  go_enter Tryz.func41, Tryz.ntmps41
  go_wp2_with fail
  refine (HK.out _).mono ?_
  rintro e w3 ⟨rfl, hd⟩
  obtain ⟨n, rfl⟩ := hd.out
  go_wp2_with fail
  refine (HO.out _ (pw_below_drewN (Below.refl _ _) _)).mono ?_
  rintro e w4 ⟨rfl, hb⟩
  have HB := Aside0.mk (below_then (pw_below_drewN (Below.refl w.heap.size w) n) (Nat.le_refl _) hb)
  clear hb
  go_wp2_with fail
  refine (HH.out _ (HI.out.below HB.out)).mono ?_
  rintro e w5 ⟨rfl, hb⟩
  have HB5 := Aside0.mk (below_then HB.out HB.out.size hb)
  clear hb HB
  go_wp2_with fail
  refine (HS.out _ _ _ (slice_two _ _) (Nat.le_refl _)).mono ?_
  rintro e w6 ⟨rfl, hd⟩
  obtain ⟨n2, rfl⟩ := hd.out
  have HB6 := Aside0.mk (pw_below_drewN (below_alloc HB5.out (.cells #[.int .i64 H, .int .i64 m] 3)) n2)
  have c6 := cell_be c1 HB6.out
  clear HB5
  generalize (w5.alloc (.cells #[.int .i64 H, .int .i64 m] 3)).drewN n2 = w6 at HB6 c6 ⊢
  go_wp2_with fail
  obtain ⟨hA', hc', qA', qc', h1, h2, h3, h4, h5, h6, h7⟩ := HI.out.below HB6.out
  obtain ⟨rfl, rfl⟩ : qA' = qA ∧ qc' = qc := by
    have e1 := ((blk_cell h1 1).trans rfl).symm.trans c6
    injection e1 with e1
    injection e1 with e1 _ e3
    exact ⟨e1, e3⟩
  have hbq : ¬ blk qA' b := h5.ne h1 (by decide)
  have HINS := Aside0.mk (Insert_ qA' qc' qs qs.length ⟨who, T⟩ w6.heap.size (w6.alloc (.cells #[.int .i64 who, .int .i64 T] 113)) (Nat.le_refl _) (h5.alloc _) (blk_new w6 _) (fun hk => Nat.lt_irrefl _ (h5.lt hk)) HL2.out)
  have b9 := blk_alloc h1 (.cells #[.int .i64 who, .int .i64 T] 113)
  have H1 := Aside0.mk b9
  have H2 := Aside0.mk h2
  have H3 := Aside0.mk (h3.alloc (.cells #[.int .i64 who, .int .i64 T] 113))
  have H4 := Aside0.mk h4
  have H6 := Aside0.mk h6
  have H7 := Aside0.mk h7
  have HQ := Aside0.mk hbq
  have HB9 := Aside0.mk (below_alloc HB6.out (.cells #[.int .i64 who, .int .i64 T] 113))
  have HZ := Aside0.mk (show w.heap.size ≤ w6.heap.size from HB6.out.size)
  clear h1 h2 h3 h4 h5 h6 h7 hbq b9 c1
  refine HINS.out.mono ?_
  rintro e w10 ⟨A', c', rfl, hR, hG, hk⟩
  have b10 := (hG.block b (Array.getElem?_eq_some_iff.1 H1.out).1 HQ.out).trans H1.out
  have c10 : w10.cell? ⟨b, 1, none⟩ = some (.slice qA' qs.length qc') := (blk_cell b10 1).trans rfl
  have f10 : w10.frozen? ⟨b, 1, none⟩ = false := blk_frozen b10 1
  have HR := Aside0.mk hR
  have HG2 := Aside0.mk hG
  have HK2 := Aside0.mk hk
  have B10 := Aside0.mk b10
  clear hR hG hk b10
  go_wp2
  go_ret
  have hli : (insAt qs qs.length ⟨who, T⟩).length = qs.length + 1 := by unfold insAt; rw [List.length_append, List.length_cons, List.length_take, List.length_drop]; omega
  have hAb : ¬ blk A' b := fun h => HQ.out.elim (by
    obtain ⟨cur, hc⟩ := HR.out.typed h
    rw [B10.out] at hc
    injection hc with hc
    injection hc with _ hc
    exact absurd hc (by decide))
  have hsz : (w6.alloc (.cells #[.int .i64 who, .int .i64 T] 113)).heap.size = w6.heap.size + 1 := by simp
  have hnew : ∀ k, blk A' k → F k ∨ w.heap.size ≤ k := fun k h => (HK2.out k h).elim (fun h => .inl (H6.out k h)) (fun h => .inr (by have := HZ.out; omega))
  have hapart : ∀ k, blk hA' k → blk A' k → False := fun k h h' => (HK2.out k h').elim (fun h2 => H7.out k h h2) (fun h2 => by have := H3.out.lt h; omega)
  unfold AskPost
  rw [HP.out]
  refine ⟨rfl, ⟨hA', hc', A', c', ?_, .inl H2.out, ?_, fun k h => .inl (H4.out k h), ?_, hnew, hapart⟩, ?_⟩
  · show _ = some (Obj.cells #[.slice hA' hs.length hc', .slice A' (insAt qs qs.length ⟨who, T⟩).length c'] 116 (0, 0))
    rw [hli]; exact blk_put B10.out 1 _ rfl
  · exact (H3.out.grew HG2.out (fun k h h2 => H7.out k h h2)).set (p := ⟨b, 1, none⟩) (fun hk => (H3.out.ne H1.out (by decide)) hk) _
  · show Row _ 113 2 A' (insAt qs qs.length ⟨who, T⟩).length c' (flat (insAt qs qs.length ⟨who, T⟩))
    rw [hli]; exact HR.out.set (p := ⟨b, 1, none⟩) hAb _
  · exact ((Grew.of_below HB9.out).trans HG2.out (fun k h => .inl (H6.out k h))).setCell (.inl H2.out) _
set_option maxHeartbeats 8000000 in
set_option maxRecDepth 100000 in
theorem Ask_1_same (w : World) (b : Nat) (F : Nat → Prop) (hs qs : List E) (who m : Int) (hI : IsLane w b F hs qs) (ha : Asc hs) (hl : hs.length ≤ 1000000) (hl2 : qs.length ≤ 1000000) (hbad : askBad qs who m = false)
    (e1 : toldIn hs who ≠ 0) (e2 : supM (toldIn hs who) m = toldIn hs who) :
    Calls Tryz.prog 41 #[.pointer (some ⟨b, 0, none⟩), .int .i64 who, .int .i64 m] w (AskPost b F hs qs who m w) := by
  have hu := Tryz.underlying116
  have hu67 := Tryz.underlying113
  have hgo : askGo hs qs who m = true := by
    unfold askGo
    rw [beq_iff_eq.2 e2]; rfl
  have HP := Aside0.mk (show askIn hs qs who m = (1, grantsIn hs who (supM (toldIn hs who) m), qs) from by unfold askIn; rw [hbad, hgo]; rfl)
  have eA : aheadOf hs qs who = convs hs qs := by unfold aheadOf; rw [if_neg e1]
  clear eA hgo
  have HI := Aside0.mk hI
  obtain ⟨hA, hc, qA, qc, c0, c1, l0, l1, r0, r1⟩ := hI.open_
  unfold askBad at hbad
  have hk : knownM m = true := by cases h : knownM m <;> simp [h] at hbad ⊢
  have m1 : (m == 0) = false := by cases h : (m == 0) <;> simp [h, hk] at hbad ⊢
  have hx : decide (ix (fun x => x.f0 == who) qs ≥ 0) = false := by simpa [hk, m1] using hbad
  have HK := Aside0.mk (fun w => Known_ m w)
  rw [hk] at HK
  have HO := Aside0.mk (fun w' (hb : Below w.heap.size w w') => of_ qA qc qs who w' (Kd.C_below r1 hb) l1)
  generalize ix (fun x => x.f0 == who) qs = i at hx HO
  have HH := Aside0.mk (fun w' (h : IsLane w' b F hs qs) => Holds_ w' b F hs qs who h)
  have HF := Aside0.mk (fun w' (h : IsLane w' b F hs qs) => fits_ w' b F hs qs who (supM (toldIn hs who) m) h)
  have HC := Aside0.mk (fun w' (h : IsLane w' b F hs qs) => conversions_ w' b F hs qs h)
  have HG := Aside0.mk (fun w' (h : IsLane w' b F hs qs) => grants_ w' b F hs qs who (supM (toldIn hs who) m) h ha hl)
  have HS := Aside0.mk (fun w' A c hr hc => Sup_ (toldIn hs who) m A c w' hr hc)
  have HL2 := Aside0.mk hl2
  generalize supM (toldIn hs who) m = T at e2 HF HG HS HP
  generalize toldIn hs who = H at e1 e2 HH HS
  have HN := Aside0.mk (show convs hs qs ≤ qs.length from by unfold convs; exact (List.takeWhile_prefix _).length_le)
  generalize convs hs qs = AH at  HC  HN
  have t1 : (H != 0) = true := bne_iff_ne.2 e1
  have t2 : (T == H) = true := beq_iff_eq.2 e2
  clear hI r0 r1 l0 l1 c0 hbad hk ha hl hl2 e1 e2
  go_enter Tryz.func41, Tryz.ntmps41
  go_wp2_with fail
  refine (HK.out _).mono ?_
  rintro e w3 ⟨rfl, hd⟩
  obtain ⟨n, rfl⟩ := hd.out
  go_wp2_with fail
  refine (HO.out _ (pw_below_drewN (Below.refl _ _) _)).mono ?_
  rintro e w4 ⟨rfl, hb⟩
  have HB := Aside0.mk (below_then (pw_below_drewN (Below.refl w.heap.size w) n) (Nat.le_refl _) hb)
  clear hb
  go_wp2_with fail
  refine (HH.out _ (HI.out.below HB.out)).mono ?_
  rintro e w5 ⟨rfl, hb⟩
  have HB5 := Aside0.mk (below_then HB.out HB.out.size hb)
  clear hb HB
  go_wp2_with fail
  refine (HS.out _ _ _ (slice_two _ _) (Nat.le_refl _)).mono ?_
  rintro e w6 ⟨rfl, hd⟩
  obtain ⟨n2, rfl⟩ := hd.out
  have HB6 := Aside0.mk (pw_below_drewN (below_alloc HB5.out (.cells #[.int .i64 H, .int .i64 m] 3)) n2)
  have c6 := cell_be c1 HB6.out
  clear HB5
  generalize (w5.alloc (.cells #[.int .i64 H, .int .i64 m] 3)).drewN n2 = w6 at HB6 c6 ⊢
  go_wp2_with fail
  refine (HC.out _ (HI.out.below HB6.out)).mono ?_
  rintro e w7 ⟨rfl, hb⟩
  have HB7 := Aside0.mk (below_then HB6.out HB6.out.size hb)
  have c7 := cell_be c1 HB7.out
  clear hb HB6 c6
  go_wp2_with fail
  refine (HG.out _ (HI.out.below HB7.out)).mono ?_
  rintro e w9 ⟨rfl, hI9, hG9⟩
  have HI9 := Aside0.mk hI9
  have HG9 := Aside0.mk hG9
  clear hI9 hG9
  go_wp2
  go_ret
  unfold AskPost
  rw [HP.out]
  refine ⟨rfl, HI9.out.mono (fun k hk h => h.elim .inl (fun h2 => .inr (Nat.le_trans HB7.out.size h2))), (Grew.of_below HB7.out).trans HG9.out (fun _ h => .inl h)⟩
set_option maxHeartbeats 8000000 in
set_option maxRecDepth 100000 in
theorem Ask_1_fits (w : World) (b : Nat) (F : Nat → Prop) (hs qs : List E) (who m : Int) (hI : IsLane w b F hs qs) (ha : Asc hs) (hl : hs.length ≤ 1000000) (hl2 : qs.length ≤ 1000000) (hbad : askBad qs who m = false)
    (e1 : toldIn hs who ≠ 0) (e2 : supM (toldIn hs who) m ≠ toldIn hs who) (e3 : aheadOf hs qs who = 0) (e4 : fitsAll hs who (supM (toldIn hs who) m) = true) :
    Calls Tryz.prog 41 #[.pointer (some ⟨b, 0, none⟩), .int .i64 who, .int .i64 m] w (AskPost b F hs qs who m w) := by
  have hu := Tryz.underlying116
  have hu67 := Tryz.underlying113
  have hgo : askGo hs qs who m = true := by
    unfold askGo
    rw [beq_eq_false_iff_ne.2 e2, e3, e4]; rfl
  have HP := Aside0.mk (show askIn hs qs who m = (1, grantsIn hs who (supM (toldIn hs who) m), qs) from by unfold askIn; rw [hbad, hgo]; rfl)
  have eA : aheadOf hs qs who = convs hs qs := by unfold aheadOf; rw [if_neg e1]
  rw [eA] at e3
  clear eA hgo
  have HI := Aside0.mk hI
  obtain ⟨hA, hc, qA, qc, c0, c1, l0, l1, r0, r1⟩ := hI.open_
  unfold askBad at hbad
  have hk : knownM m = true := by cases h : knownM m <;> simp [h] at hbad ⊢
  have m1 : (m == 0) = false := by cases h : (m == 0) <;> simp [h, hk] at hbad ⊢
  have hx : decide (ix (fun x => x.f0 == who) qs ≥ 0) = false := by simpa [hk, m1] using hbad
  have HK := Aside0.mk (fun w => Known_ m w)
  rw [hk] at HK
  have HO := Aside0.mk (fun w' (hb : Below w.heap.size w w') => of_ qA qc qs who w' (Kd.C_below r1 hb) l1)
  generalize ix (fun x => x.f0 == who) qs = i at hx HO
  have HH := Aside0.mk (fun w' (h : IsLane w' b F hs qs) => Holds_ w' b F hs qs who h)
  have HF := Aside0.mk (fun w' (h : IsLane w' b F hs qs) => fits_ w' b F hs qs who (supM (toldIn hs who) m) h)
  have HC := Aside0.mk (fun w' (h : IsLane w' b F hs qs) => conversions_ w' b F hs qs h)
  have HG := Aside0.mk (fun w' (h : IsLane w' b F hs qs) => grants_ w' b F hs qs who (supM (toldIn hs who) m) h ha hl)
  have HS := Aside0.mk (fun w' A c hr hc => Sup_ (toldIn hs who) m A c w' hr hc)
  have HL2 := Aside0.mk hl2
  rw [e4] at HF
  generalize supM (toldIn hs who) m = T at e2 HF HG HS HP
  generalize toldIn hs who = H at e1 e2 HH HS
  have HN := Aside0.mk (show convs hs qs ≤ qs.length from by unfold convs; exact (List.takeWhile_prefix _).length_le)
  generalize convs hs qs = AH at e3 HC  HN
  have t1 : (H != 0) = true := bne_iff_ne.2 e1
  have t2 : (T == H) = false := beq_eq_false_iff_ne.2 e2
  have t3 : (((AH : Nat) : Int) == 0) = true := beq_iff_eq.2 (by omega)
  clear hI r0 r1 l0 l1 c0 hbad hk ha hl hl2 e1 e2 e3
  go_enter Tryz.func41, Tryz.ntmps41
  go_wp2_with fail
  refine (HK.out _).mono ?_
  rintro e w3 ⟨rfl, hd⟩
  obtain ⟨n, rfl⟩ := hd.out
  go_wp2_with fail
  refine (HO.out _ (pw_below_drewN (Below.refl _ _) _)).mono ?_
  rintro e w4 ⟨rfl, hb⟩
  have HB := Aside0.mk (below_then (pw_below_drewN (Below.refl w.heap.size w) n) (Nat.le_refl _) hb)
  clear hb
  go_wp2_with fail
  refine (HH.out _ (HI.out.below HB.out)).mono ?_
  rintro e w5 ⟨rfl, hb⟩
  have HB5 := Aside0.mk (below_then HB.out HB.out.size hb)
  clear hb HB
  go_wp2_with fail
  refine (HS.out _ _ _ (slice_two _ _) (Nat.le_refl _)).mono ?_
  rintro e w6 ⟨rfl, hd⟩
  obtain ⟨n2, rfl⟩ := hd.out
  have HB6 := Aside0.mk (pw_below_drewN (below_alloc HB5.out (.cells #[.int .i64 H, .int .i64 m] 3)) n2)
  have c6 := cell_be c1 HB6.out
  clear HB5
  generalize (w5.alloc (.cells #[.int .i64 H, .int .i64 m] 3)).drewN n2 = w6 at HB6 c6 ⊢
  go_wp2_with fail
  refine (HC.out _ (HI.out.below HB6.out)).mono ?_
  rintro e w7 ⟨rfl, hb⟩
  have HB7 := Aside0.mk (below_then HB6.out HB6.out.size hb)
  have c7 := cell_be c1 HB7.out
  clear hb HB6 c6
  go_wp2_with fail
  refine (HF.out _ (HI.out.below HB7.out)).mono ?_
  rintro e w8 ⟨rfl, hb⟩
  have HB8 := Aside0.mk (below_then HB7.out HB7.out.size hb)
  have c8 := cell_be c1 HB8.out
  clear hb HB7 c7
  go_wp2_with fail
  refine (HG.out _ (HI.out.below HB8.out)).mono ?_
  rintro e w9 ⟨rfl, hI9, hG9⟩
  have HI9 := Aside0.mk hI9
  have HG9 := Aside0.mk hG9
  clear hI9 hG9
  go_wp2
  go_ret
  unfold AskPost
  rw [HP.out]
  refine ⟨rfl, HI9.out.mono (fun k hk h => h.elim .inl (fun h2 => .inr (Nat.le_trans HB8.out.size h2))), (Grew.of_below HB8.out).trans HG9.out (fun _ h => .inl h)⟩
set_option maxHeartbeats 8000000 in
set_option maxRecDepth 100000 in
theorem Ask_1_nofit (w : World) (b : Nat) (F : Nat → Prop) (hs qs : List E) (who m : Int) (hI : IsLane w b F hs qs) (ha : Asc hs) (hl : hs.length ≤ 1000000) (hl2 : qs.length ≤ 1000000) (hbad : askBad qs who m = false)
    (e1 : toldIn hs who ≠ 0) (e2 : supM (toldIn hs who) m ≠ toldIn hs who) (e3 : aheadOf hs qs who = 0) (e4 : fitsAll hs who (supM (toldIn hs who) m) = false) :
    Calls Tryz.prog 41 #[.pointer (some ⟨b, 0, none⟩), .int .i64 who, .int .i64 m] w (AskPost b F hs qs who m w) := by
  have hu := Tryz.underlying116
  have hu67 := Tryz.underlying113
  have hgo : askGo hs qs who m = false := by
    unfold askGo
    rw [beq_eq_false_iff_ne.2 e2, e3, e4]; rfl
  have HP := Aside0.mk (show askIn hs qs who m = (2, hs, insAt qs (aheadOf hs qs who) ⟨who, supM (toldIn hs who) m⟩) from by unfold askIn; rw [hbad, hgo]; rfl)
  have eA : aheadOf hs qs who = convs hs qs := by unfold aheadOf; rw [if_neg e1]
  rw [eA] at e3
  rw [eA] at HP
  clear eA hgo
  have HI := Aside0.mk hI
  obtain ⟨hA, hc, qA, qc, c0, c1, l0, l1, r0, r1⟩ := hI.open_
  unfold askBad at hbad
  have hk : knownM m = true := by cases h : knownM m <;> simp [h] at hbad ⊢
  have m1 : (m == 0) = false := by cases h : (m == 0) <;> simp [h, hk] at hbad ⊢
  have hx : decide (ix (fun x => x.f0 == who) qs ≥ 0) = false := by simpa [hk, m1] using hbad
  have HK := Aside0.mk (fun w => Known_ m w)
  rw [hk] at HK
  have HO := Aside0.mk (fun w' (hb : Below w.heap.size w w') => of_ qA qc qs who w' (Kd.C_below r1 hb) l1)
  generalize ix (fun x => x.f0 == who) qs = i at hx HO
  have HH := Aside0.mk (fun w' (h : IsLane w' b F hs qs) => Holds_ w' b F hs qs who h)
  have HF := Aside0.mk (fun w' (h : IsLane w' b F hs qs) => fits_ w' b F hs qs who (supM (toldIn hs who) m) h)
  have HC := Aside0.mk (fun w' (h : IsLane w' b F hs qs) => conversions_ w' b F hs qs h)
  have HG := Aside0.mk (fun w' (h : IsLane w' b F hs qs) => grants_ w' b F hs qs who (supM (toldIn hs who) m) h ha hl)
  have HS := Aside0.mk (fun w' A c hr hc => Sup_ (toldIn hs who) m A c w' hr hc)
  have HL2 := Aside0.mk hl2
  rw [e4] at HF
  generalize supM (toldIn hs who) m = T at e2 HF HG HS HP
  generalize toldIn hs who = H at e1 e2 HH HS
  have HN := Aside0.mk (show convs hs qs ≤ qs.length from by unfold convs; exact (List.takeWhile_prefix _).length_le)
  generalize convs hs qs = AH at e3 HC HP HN
  have t1 : (H != 0) = true := bne_iff_ne.2 e1
  have t2 : (T == H) = false := beq_eq_false_iff_ne.2 e2
  have t3 : (((AH : Nat) : Int) == 0) = true := beq_iff_eq.2 (by omega)
  clear hI r0 r1 l0 l1 c0 hbad hk ha hl hl2 e1 e2 e3
  go_enter Tryz.func41, Tryz.ntmps41
  go_wp2_with fail
  refine (HK.out _).mono ?_
  rintro e w3 ⟨rfl, hd⟩
  obtain ⟨n, rfl⟩ := hd.out
  go_wp2_with fail
  refine (HO.out _ (pw_below_drewN (Below.refl _ _) _)).mono ?_
  rintro e w4 ⟨rfl, hb⟩
  have HB := Aside0.mk (below_then (pw_below_drewN (Below.refl w.heap.size w) n) (Nat.le_refl _) hb)
  clear hb
  go_wp2_with fail
  refine (HH.out _ (HI.out.below HB.out)).mono ?_
  rintro e w5 ⟨rfl, hb⟩
  have HB5 := Aside0.mk (below_then HB.out HB.out.size hb)
  clear hb HB
  go_wp2_with fail
  refine (HS.out _ _ _ (slice_two _ _) (Nat.le_refl _)).mono ?_
  rintro e w6 ⟨rfl, hd⟩
  obtain ⟨n2, rfl⟩ := hd.out
  have HB6 := Aside0.mk (pw_below_drewN (below_alloc HB5.out (.cells #[.int .i64 H, .int .i64 m] 3)) n2)
  have c6 := cell_be c1 HB6.out
  clear HB5
  generalize (w5.alloc (.cells #[.int .i64 H, .int .i64 m] 3)).drewN n2 = w6 at HB6 c6 ⊢
  go_wp2_with fail
  refine (HC.out _ (HI.out.below HB6.out)).mono ?_
  rintro e w7 ⟨rfl, hb⟩
  have HB7 := Aside0.mk (below_then HB6.out HB6.out.size hb)
  have c7 := cell_be c1 HB7.out
  clear hb HB6 c6
  go_wp2_with fail
  refine (HF.out _ (HI.out.below HB7.out)).mono ?_
  rintro e w8 ⟨rfl, hb⟩
  have HB8 := Aside0.mk (below_then HB7.out HB7.out.size hb)
  have c8 := cell_be c1 HB8.out
  clear hb HB7 c7
  go_wp2_with fail
  obtain ⟨hA', hc', qA', qc', h1, h2, h3, h4, h5, h6, h7⟩ := HI.out.below HB8.out
  obtain ⟨rfl, rfl⟩ : qA' = qA ∧ qc' = qc := by
    have e1 := ((blk_cell h1 1).trans rfl).symm.trans c8
    injection e1 with e1
    injection e1 with e1 _ e3
    exact ⟨e1, e3⟩
  have hbq : ¬ blk qA' b := h5.ne h1 (by decide)
  have HINS := Aside0.mk (Insert_ qA' qc' qs AH ⟨who, T⟩ w8.heap.size (w8.alloc (.cells #[.int .i64 who, .int .i64 T] 113)) HN.out (h5.alloc _) (blk_new w8 _) (fun hk => Nat.lt_irrefl _ (h5.lt hk)) HL2.out)
  have b9 := blk_alloc h1 (.cells #[.int .i64 who, .int .i64 T] 113)
  have H1 := Aside0.mk b9
  have H2 := Aside0.mk h2
  have H3 := Aside0.mk (h3.alloc (.cells #[.int .i64 who, .int .i64 T] 113))
  have H4 := Aside0.mk h4
  have H6 := Aside0.mk h6
  have H7 := Aside0.mk h7
  have HQ := Aside0.mk hbq
  have HB9 := Aside0.mk (below_alloc HB8.out (.cells #[.int .i64 who, .int .i64 T] 113))
  have HZ := Aside0.mk (show w.heap.size ≤ w8.heap.size from HB8.out.size)
  clear h1 h2 h3 h4 h5 h6 h7 hbq b9 c1
  refine HINS.out.mono ?_
  rintro e w10 ⟨A', c', rfl, hR, hG, hk⟩
  have b10 := (hG.block b (Array.getElem?_eq_some_iff.1 H1.out).1 HQ.out).trans H1.out
  have c10 : w10.cell? ⟨b, 1, none⟩ = some (.slice qA' qs.length qc') := (blk_cell b10 1).trans rfl
  have f10 : w10.frozen? ⟨b, 1, none⟩ = false := blk_frozen b10 1
  have HR := Aside0.mk hR
  have HG2 := Aside0.mk hG
  have HK2 := Aside0.mk hk
  have B10 := Aside0.mk b10
  clear hR hG hk b10
  go_wp2
  go_ret
  have hli : (insAt qs AH ⟨who, T⟩).length = qs.length + 1 := by unfold insAt; rw [List.length_append, List.length_cons, List.length_take, List.length_drop]; have := HN.out; omega
  have hAb : ¬ blk A' b := fun h => HQ.out.elim (by
    obtain ⟨cur, hc⟩ := HR.out.typed h
    rw [B10.out] at hc
    injection hc with hc
    injection hc with _ hc
    exact absurd hc (by decide))
  have hsz : (w8.alloc (.cells #[.int .i64 who, .int .i64 T] 113)).heap.size = w8.heap.size + 1 := by simp
  have hnew : ∀ k, blk A' k → F k ∨ w.heap.size ≤ k := fun k h => (HK2.out k h).elim (fun h => .inl (H6.out k h)) (fun h => .inr (by have := HZ.out; omega))
  have hapart : ∀ k, blk hA' k → blk A' k → False := fun k h h' => (HK2.out k h').elim (fun h2 => H7.out k h h2) (fun h2 => by have := H3.out.lt h; omega)
  unfold AskPost
  rw [HP.out]
  refine ⟨rfl, ⟨hA', hc', A', c', ?_, .inl H2.out, ?_, fun k h => .inl (H4.out k h), ?_, hnew, hapart⟩, ?_⟩
  · show _ = some (Obj.cells #[.slice hA' hs.length hc', .slice A' (insAt qs AH ⟨who, T⟩).length c'] 116 (0, 0))
    rw [hli]; exact blk_put B10.out 1 _ rfl
  · exact (H3.out.grew HG2.out (fun k h h2 => H7.out k h h2)).set (p := ⟨b, 1, none⟩) (fun hk => (H3.out.ne H1.out (by decide)) hk) _
  · show Row _ 113 2 A' (insAt qs AH ⟨who, T⟩).length c' (flat (insAt qs AH ⟨who, T⟩))
    rw [hli]; exact HR.out.set (p := ⟨b, 1, none⟩) hAb _
  · exact ((Grew.of_below HB9.out).trans HG2.out (fun k h => .inl (H6.out k h))).setCell (.inl H2.out) _
set_option maxHeartbeats 8000000 in
set_option maxRecDepth 100000 in
theorem Ask_1_queue (w : World) (b : Nat) (F : Nat → Prop) (hs qs : List E) (who m : Int) (hI : IsLane w b F hs qs) (ha : Asc hs) (hl : hs.length ≤ 1000000) (hl2 : qs.length ≤ 1000000) (hbad : askBad qs who m = false)
    (e1 : toldIn hs who ≠ 0) (e2 : supM (toldIn hs who) m ≠ toldIn hs who) (e3 : aheadOf hs qs who ≠ 0) :
    Calls Tryz.prog 41 #[.pointer (some ⟨b, 0, none⟩), .int .i64 who, .int .i64 m] w (AskPost b F hs qs who m w) := by
  have hu := Tryz.underlying116
  have hu67 := Tryz.underlying113
  have hgo : askGo hs qs who m = false := by
    unfold askGo
    rw [beq_eq_false_iff_ne.2 e2, beq_eq_false_iff_ne.2 e3]; rfl
  have HP := Aside0.mk (show askIn hs qs who m = (2, hs, insAt qs (aheadOf hs qs who) ⟨who, supM (toldIn hs who) m⟩) from by unfold askIn; rw [hbad, hgo]; rfl)
  have eA : aheadOf hs qs who = convs hs qs := by unfold aheadOf; rw [if_neg e1]
  rw [eA] at e3
  rw [eA] at HP
  clear eA hgo
  have HI := Aside0.mk hI
  obtain ⟨hA, hc, qA, qc, c0, c1, l0, l1, r0, r1⟩ := hI.open_
  unfold askBad at hbad
  have hk : knownM m = true := by cases h : knownM m <;> simp [h] at hbad ⊢
  have m1 : (m == 0) = false := by cases h : (m == 0) <;> simp [h, hk] at hbad ⊢
  have hx : decide (ix (fun x => x.f0 == who) qs ≥ 0) = false := by simpa [hk, m1] using hbad
  have HK := Aside0.mk (fun w => Known_ m w)
  rw [hk] at HK
  have HO := Aside0.mk (fun w' (hb : Below w.heap.size w w') => of_ qA qc qs who w' (Kd.C_below r1 hb) l1)
  generalize ix (fun x => x.f0 == who) qs = i at hx HO
  have HH := Aside0.mk (fun w' (h : IsLane w' b F hs qs) => Holds_ w' b F hs qs who h)
  have HF := Aside0.mk (fun w' (h : IsLane w' b F hs qs) => fits_ w' b F hs qs who (supM (toldIn hs who) m) h)
  have HC := Aside0.mk (fun w' (h : IsLane w' b F hs qs) => conversions_ w' b F hs qs h)
  have HG := Aside0.mk (fun w' (h : IsLane w' b F hs qs) => grants_ w' b F hs qs who (supM (toldIn hs who) m) h ha hl)
  have HS := Aside0.mk (fun w' A c hr hc => Sup_ (toldIn hs who) m A c w' hr hc)
  have HL2 := Aside0.mk hl2
  generalize supM (toldIn hs who) m = T at e2 HF HG HS HP
  generalize toldIn hs who = H at e1 e2 HH HS
  have HN := Aside0.mk (show convs hs qs ≤ qs.length from by unfold convs; exact (List.takeWhile_prefix _).length_le)
  generalize convs hs qs = AH at e3 HC HP HN
  have t1 : (H != 0) = true := bne_iff_ne.2 e1
  have t2 : (T == H) = false := beq_eq_false_iff_ne.2 e2
  have t3 : (((AH : Nat) : Int) == 0) = false := beq_eq_false_iff_ne.2 (by omega)
  clear hI r0 r1 l0 l1 c0 hbad hk ha hl hl2 e1 e2 e3
  go_enter Tryz.func41, Tryz.ntmps41
  go_wp2_with fail
  refine (HK.out _).mono ?_
  rintro e w3 ⟨rfl, hd⟩
  obtain ⟨n, rfl⟩ := hd.out
  go_wp2_with fail
  refine (HO.out _ (pw_below_drewN (Below.refl _ _) _)).mono ?_
  rintro e w4 ⟨rfl, hb⟩
  have HB := Aside0.mk (below_then (pw_below_drewN (Below.refl w.heap.size w) n) (Nat.le_refl _) hb)
  clear hb
  go_wp2_with fail
  refine (HH.out _ (HI.out.below HB.out)).mono ?_
  rintro e w5 ⟨rfl, hb⟩
  have HB5 := Aside0.mk (below_then HB.out HB.out.size hb)
  clear hb HB
  go_wp2_with fail
  refine (HS.out _ _ _ (slice_two _ _) (Nat.le_refl _)).mono ?_
  rintro e w6 ⟨rfl, hd⟩
  obtain ⟨n2, rfl⟩ := hd.out
  have HB6 := Aside0.mk (pw_below_drewN (below_alloc HB5.out (.cells #[.int .i64 H, .int .i64 m] 3)) n2)
  have c6 := cell_be c1 HB6.out
  clear HB5
  generalize (w5.alloc (.cells #[.int .i64 H, .int .i64 m] 3)).drewN n2 = w6 at HB6 c6 ⊢
  go_wp2_with fail
  refine (HC.out _ (HI.out.below HB6.out)).mono ?_
  rintro e w7 ⟨rfl, hb⟩
  have HB7 := Aside0.mk (below_then HB6.out HB6.out.size hb)
  have c7 := cell_be c1 HB7.out
  clear hb HB6 c6
  go_wp2_with fail
  obtain ⟨hA', hc', qA', qc', h1, h2, h3, h4, h5, h6, h7⟩ := HI.out.below HB7.out
  obtain ⟨rfl, rfl⟩ : qA' = qA ∧ qc' = qc := by
    have e1 := ((blk_cell h1 1).trans rfl).symm.trans c7
    injection e1 with e1
    injection e1 with e1 _ e3
    exact ⟨e1, e3⟩
  have hbq : ¬ blk qA' b := h5.ne h1 (by decide)
  have HINS := Aside0.mk (Insert_ qA' qc' qs AH ⟨who, T⟩ w7.heap.size (w7.alloc (.cells #[.int .i64 who, .int .i64 T] 113)) HN.out (h5.alloc _) (blk_new w7 _) (fun hk => Nat.lt_irrefl _ (h5.lt hk)) HL2.out)
  have b9 := blk_alloc h1 (.cells #[.int .i64 who, .int .i64 T] 113)
  have H1 := Aside0.mk b9
  have H2 := Aside0.mk h2
  have H3 := Aside0.mk (h3.alloc (.cells #[.int .i64 who, .int .i64 T] 113))
  have H4 := Aside0.mk h4
  have H6 := Aside0.mk h6
  have H7 := Aside0.mk h7
  have HQ := Aside0.mk hbq
  have HB9 := Aside0.mk (below_alloc HB7.out (.cells #[.int .i64 who, .int .i64 T] 113))
  have HZ := Aside0.mk (show w.heap.size ≤ w7.heap.size from HB7.out.size)
  clear h1 h2 h3 h4 h5 h6 h7 hbq b9 c1
  refine HINS.out.mono ?_
  rintro e w10 ⟨A', c', rfl, hR, hG, hk⟩
  have b10 := (hG.block b (Array.getElem?_eq_some_iff.1 H1.out).1 HQ.out).trans H1.out
  have c10 : w10.cell? ⟨b, 1, none⟩ = some (.slice qA' qs.length qc') := (blk_cell b10 1).trans rfl
  have f10 : w10.frozen? ⟨b, 1, none⟩ = false := blk_frozen b10 1
  have HR := Aside0.mk hR
  have HG2 := Aside0.mk hG
  have HK2 := Aside0.mk hk
  have B10 := Aside0.mk b10
  clear hR hG hk b10
  go_wp2
  go_ret
  have hli : (insAt qs AH ⟨who, T⟩).length = qs.length + 1 := by unfold insAt; rw [List.length_append, List.length_cons, List.length_take, List.length_drop]; have := HN.out; omega
  have hAb : ¬ blk A' b := fun h => HQ.out.elim (by
    obtain ⟨cur, hc⟩ := HR.out.typed h
    rw [B10.out] at hc
    injection hc with hc
    injection hc with _ hc
    exact absurd hc (by decide))
  have hsz : (w7.alloc (.cells #[.int .i64 who, .int .i64 T] 113)).heap.size = w7.heap.size + 1 := by simp
  have hnew : ∀ k, blk A' k → F k ∨ w.heap.size ≤ k := fun k h => (HK2.out k h).elim (fun h => .inl (H6.out k h)) (fun h => .inr (by have := HZ.out; omega))
  have hapart : ∀ k, blk hA' k → blk A' k → False := fun k h h' => (HK2.out k h').elim (fun h2 => H7.out k h h2) (fun h2 => by have := H3.out.lt h; omega)
  unfold AskPost
  rw [HP.out]
  refine ⟨rfl, ⟨hA', hc', A', c', ?_, .inl H2.out, ?_, fun k h => .inl (H4.out k h), ?_, hnew, hapart⟩, ?_⟩
  · show _ = some (Obj.cells #[.slice hA' hs.length hc', .slice A' (insAt qs AH ⟨who, T⟩).length c'] 116 (0, 0))
    rw [hli]; exact blk_put B10.out 1 _ rfl
  · exact (H3.out.grew HG2.out (fun k h h2 => H7.out k h h2)).set (p := ⟨b, 1, none⟩) (fun hk => (H3.out.ne H1.out (by decide)) hk) _
  · show Row _ 113 2 A' (insAt qs AH ⟨who, T⟩).length c' (flat (insAt qs AH ⟨who, T⟩))
    rw [hli]; exact HR.out.set (p := ⟨b, 1, none⟩) hAb _
  · exact ((Grew.of_below HB9.out).trans HG2.out (fun k h => .inl (H6.out k h))).setCell (.inl H2.out) _
theorem Ask_ (w : World) (b : Nat) (F : Nat → Prop) (hs qs : List E) (who m : Int) (hI : IsLane w b F hs qs) (ha : Asc hs) (hl : hs.length ≤ 1000000) (hl2 : qs.length ≤ 1000000) :
    Calls Tryz.prog 41 #[.pointer (some ⟨b, 0, none⟩), .int .i64 who, .int .i64 m] w (AskPost b F hs qs who m w) := by
  cases hb : askBad qs who m with
  | true => exact Ask_bad w b F hs qs who m hI hb
  | false =>
    by_cases e1 : toldIn hs who = 0
    · by_cases e2 : supM (toldIn hs who) m = toldIn hs who
      · exact Ask_0_same w b F hs qs who m hI ha hl hl2 hb e1 e2
      · by_cases e3 : aheadOf hs qs who = 0
        · cases e4 : fitsAll hs who (supM (toldIn hs who) m) with
          | true => exact Ask_0_fits w b F hs qs who m hI ha hl hl2 hb e1 e2 e3 e4
          | false => exact Ask_0_nofit w b F hs qs who m hI ha hl hl2 hb e1 e2 e3 e4
        · exact Ask_0_queue w b F hs qs who m hI ha hl hl2 hb e1 e2 e3
    · by_cases e2 : supM (toldIn hs who) m = toldIn hs who
      · exact Ask_1_same w b F hs qs who m hI ha hl hl2 hb e1 e2
      · by_cases e3 : aheadOf hs qs who = 0
        · cases e4 : fitsAll hs who (supM (toldIn hs who) m) with
          | true => exact Ask_1_fits w b F hs qs who m hI ha hl hl2 hb e1 e2 e3 e4
          | false => exact Ask_1_nofit w b F hs qs who m hI ha hl hl2 hb e1 e2 e3 e4
        · exact Ask_1_queue w b F hs qs who m hI ha hl hl2 hb e1 e2 e3
end Go.Proofs.YtaaekmcmpjljgaaGreat.Ln
namespace Go.Proofs.YtaaekmcmpjljgaaGreat.Ln
open Go.RowKit Go.Proofs.YtaaekmcmpjljgaaGreatW.PrintWords Go.Proofs.YtaaekmcmpjljgaaGreatW.PrintLast Go.Proofs.YtaaekmcmpjljgaaGreatW.PrintMore Go.Proofs.YtaaekmcmpjljgaaGreat.PMd
set_option linter.unusedVariables false
set_option linter.unusedSimpArgs false
def PredG (g : Nat) (lb : Array Value) (p : E → Bool) (A : Option Addr) (w : World) : Prop :=
  ∀ (W : World) (x : E), Grew (blk A) w W → Calls Tryz.prog g (#[.agg #[.int .i64 x.f0, .int .i64 x.f1]] ++ lb) W fun e w' => e = .returned (.bool (p x)) ∧ Below W.heap.size W w'
theorem PredG.pred {g : Nat} {lb : Array Value} {p : E → Bool} {A : Option Addr} {w : World} (h : PredG g lb p A w) : Pred g lb p w := fun W x hb => h W x (Grew.of_below hb)
structure Del (p : E → Bool) (l L : List E) (k j : Nat) : Prop where
  len : L.length = l.length
  le : k < j
  front : L.take k = (l.take j).filter (fun x => !p x)
  back : L.drop j = l.drop j
theorem Del.start {p : E → Bool} {l : List E} {i : Nat} (hi : i < l.length) (hp : p (l.getD i z113) = true) (ha : ∀ q, q < i → p (l.getD q z113) = false) : Del p l l i (i + 1) := by
  refine ⟨rfl, by omega, ?_, rfl⟩
  have e1 : l.take (i + 1) = l.take i ++ [l.getD i z113] := by rw [List.take_add_one, get_getD hi]; rfl
  rw [e1, List.filter_append, List.filter_eq_self.2, List.filter_cons_of_neg (by show ¬ (!p _) = true; rw [hp]; decide)]
  · simp
  · intro x hx
    obtain ⟨q, hq, rfl⟩ := List.mem_iff_getElem.1 hx
    rw [List.length_take] at hq
    have := ha q (by omega)
    rw [List.getElem_take]
    simpa [List.getD_eq_getElem?_getD, List.getElem?_eq_getElem (show q < l.length by omega)] using this
theorem Del.at_ {p : E → Bool} {l L : List E} {k j : Nat} (h : Del p l L k j) (hj : j < l.length) : L.getD j z113 = l.getD j z113 := by
  have h1 := congrArg (fun q => q[0]?) h.back
  simp only [List.getElem?_drop, Nat.add_zero] at h1
  rw [List.getD_eq_getElem?_getD, List.getD_eq_getElem?_getD, h1]
theorem Del.keep {p : E → Bool} {l L : List E} {k j : Nat} (h : Del p l L k j) (hj : j < l.length) (hp : p (l.getD j z113) = false) : Del p l (L.set k (l.getD j z113)) (k + 1) (j + 1) := by
  have hl := h.len
  have hk := h.le
  refine ⟨by rw [List.length_set]; exact h.len, by omega, ?_, ?_⟩
  · have e1 : l.take (j + 1) = l.take j ++ [l.getD j z113] := by rw [List.take_add_one, get_getD hj]; rfl
    rw [e1, List.filter_append, ← h.front, List.filter_cons_of_pos (by show (!p _) = true; rw [hp]; rfl), List.filter_nil]
    have e2 : (L.set k (l.getD j z113)).take (k + 1) = (L.set k (l.getD j z113)).take k ++ [l.getD j z113] := by
      rw [List.take_add_one, List.getElem?_set_self (by omega)]; rfl
    rw [e2, List.take_set_of_le (by omega)]
  · rw [List.drop_set_of_lt (by omega)]
    have h1 := congrArg (List.drop 1) h.back
    simpa [List.drop_drop] using h1
theorem Del.skip {p : E → Bool} {l L : List E} {k j : Nat} (h : Del p l L k j) (hj : j < l.length) (hp : p (l.getD j z113) = true) : Del p l L k (j + 1) := by
  refine ⟨h.len, by have := h.le; omega, ?_, ?_⟩
  · have e1 : l.take (j + 1) = l.take j ++ [l.getD j z113] := by rw [List.take_add_one, get_getD hj]; rfl
    rw [e1, List.filter_append, ← h.front, List.filter_cons_of_neg (by show ¬ (!p _) = true; rw [hp]; decide), List.filter_nil, List.append_nil]
  · have h1 := congrArg (List.drop 1) h.back
    simpa [List.drop_drop] using h1
theorem ix_hit' {p : E → Bool} {l : List E} {i : Nat} (h : ix p l = (i : Int)) : i < l.length ∧ p (l.getD i z113) = true ∧ ∀ q, q < i → p (l.getD q z113) = false := by
  unfold ix at h
  cases hf : l.findIdx? p with
  | none => rw [hf] at h; simp at h
  | some k =>
    rw [hf] at h
    obtain rfl : k = i := by have h2 : (k : Int) = i := h; omega
    rw [List.findIdx?_eq_some_iff_getElem] at hf
    obtain ⟨hi, hp, ha⟩ := hf
    refine ⟨hi, by simpa [List.getD_eq_getElem?_getD, List.getElem?_eq_getElem hi] using hp, fun q hq => ?_⟩
    have := ha q hq
    simpa [List.getD_eq_getElem?_getD, List.getElem?_eq_getElem (show q < l.length by omega)] using this
theorem flat_set2 (l : List E) (j : Nat) (x : E) : ((flat l).set (j * 2) (.int .i64 x.f0)).set (j * 2 + 1) (.int .i64 x.f1) = flat (l.set j x) := by
  induction l generalizing j with
  | nil => simp [flat]
  | cons y l ih =>
    have e : ∀ (y : E) (l : List E), flat (y :: l) = .int .i64 y.f0 :: .int .i64 y.f1 :: flat l := fun _ _ => rfl
    cases j with
    | zero => rw [e, List.set_cons_zero]; rfl
    | succ j =>
      rw [e, show (j + 1) * 2 = j * 2 + 1 + 1 by omega, List.set_cons_succ, List.set_cons_succ, List.set_cons_succ, List.set_cons_succ, ih, List.set_cons_succ, e]
theorem zeros_one : ∀ n, ∀ v ∈ (Builtin.zeroCells (Value.agg #[.int .i64 0, .int .i64 0]).cells n).toList, v.oneCell' = true := by
  intro n v hv
  simp only [Builtin.zeroCells, Array.toList_map, List.mem_map] at hv
  obtain ⟨i, _, rfl⟩ := hv
  have e : (Value.agg #[.int .i64 0, .int .i64 0]).cells = #[.int .i64 0, .int .i64 0] := rfl
  rw [e]
  rcases Nat.mod_two_eq_zero_or_one i with h | h
  · show (#[Value.int .i64 0, .int .i64 0][i % 2]!).oneCell' = true
    rw [h]; rfl
  · show (#[Value.int .i64 0, .int .i64 0][i % 2]!).oneCell' = true
    rw [h]; rfl
def DelPost (A : Option Addr) (c : Nat) (p : E → Bool) (l : List E) (w : World) (e : Ending) (w' : World) : Prop :=
  e = .returned (.slice A (l.filter fun x => !p x).length c) ∧ Row w' 113 2 A (l.filter fun x => !p x).length c (flat (l.filter fun x => !p x)) ∧ Grew (blk A) w w'
set_option maxHeartbeats 8000000 in
set_option maxRecDepth 100000 in
theorem DeleteFunc_ (g : Nat) (lb : Array Value) (p : E → Bool) (eg : ∀ args w, (callFunc g args).run Tryz.prog w = .ok (.enter g args) w) (A : Option Addr) (c : Nat) (l : List E) (w : World)
    (hR : Row w 113 2 A l.length c (flat l)) (hp : PredG g lb p A w) (hl : l.length ≤ 1000000) :
    Calls Tryz.prog 82 #[.slice A l.length c, .func (.func g) #[] lb] w (DelPost A c p l w) := by
  have hu67 := Tryz.underlying113
  have HI := Aside0.mk (indexFunc g lb p eg A c l w hR.reads hR.2.1 hp.pred)
  have HR := Aside0.mk hR
  have HP := Aside0.mk hp
  have HL := Aside0.mk hl
  by_cases hx : ix p l < 0
  · have hx1 : ix p l = -1 := by
      unfold ix at hx ⊢
      cases h : l.findIdx? p with
      | none => rfl
      | some i => rw [h] at hx; simp at hx; omega
    have HF := Aside0.mk (show (l.filter fun x => !p x) = l from List.filter_eq_self.2 (fun x hx2 => by rw [ix_none hx x hx2]; rfl))
    rw [hx1] at HI
    clear hR hp hl hx hx1
    go_enter Tryz.func82, Tryz.ntmps82
    go_wp2_with fail
    refine HI.out.mono ?_
    rintro e w3 ⟨rfl, hb⟩
    have HB := Aside0.mk hb
    clear hb
    go_wp2_with fail
    go_ret
    unfold DelPost
    rw [HF.out]
    exact ⟨rfl, HR.out.below HB.out, Grew.of_below HB.out⟩
  · obtain ⟨i, hi⟩ : ∃ i : Nat, ix p l = (i : Int) := ⟨_, (Int.toNat_of_nonneg (by omega)).symm⟩
    obtain ⟨hil, hpi, hai⟩ := ix_hit' hi
    rw [hi] at HI
    obtain ⟨ga, off, cur, rfl, hg, hsz, hcell⟩ := hR.at_ (by omega)
    have D0 := Aside0.mk (Del.start hil hpi hai)
    have HIL := Aside0.mk hil
    have n1 : ((i : Int) == -1) = false := beq_eq_false_iff_ne.2 (by omega)
    have WI := Aside0.mk (show wrap64 ((i : Int) + 1) = ((i + 1 : Nat) : Int) from by unfold wrap64; omega)
    clear hR hp hl hx hi hil hpi hai hg hsz hcell
    go_enter Tryz.func82, Tryz.ntmps82
    go_wp2_with fail
    refine HI.out.mono ?_
    rintro e w3 ⟨rfl, hb⟩
    have HB := Aside0.mk hb
    clear hb
    go_wp2_with fail
    go_loopg [5, 6] l.length (fun gg v5 v6 wr => ∃ (k j : Nat) (L : List E), j ≤ l.length ∧ l.length - j ≤ gg ∧ v5 = .int .i64 k ∧ v6 = .int .i64 j ∧ Aside0 (Del p l L k j) ∧ Aside0 (Row wr 113 2 (some ⟨ga, off, none⟩) l.length c (flat L)) ∧ Aside0 (Grew (blk (some ⟨ga, off, none⟩)) w wr))
    case atStart => exact ⟨i, i + 1, l, HIL.out, by omega, rfl, congrArg (Value.int .i64) WI.out, D0, ⟨HR.out.below HB.out⟩, ⟨Grew.of_below HB.out⟩⟩
    case round =>
      obtain ⟨k, j, L, hj, hgg, rfl, rfl, HD, HRr, HGr⟩ := hrel
      clear n1 WI HI D0 HR HB HIL
      have hl63 : l.length ≤ 1000000 := HL.out
      by_cases hlt : j < l.length
      · have p1 : 0 ≤ (j : Int) := by omega
        have p2 : (j : Int) < l.length := by omega
        have hLl : j < L.length := by rw [HD.out.len]; exact hlt
        obtain ⟨g', off', cur', hA, hg', hsz', hcell'⟩ := HRr.out.at_ (by omega)
        cases hA
        obtain ⟨f0, f1⟩ := flat_get (get_getD hLl)
        have q0 := (hcell' _ _ f0).1
        have q1 := (hcell' _ _ f1).1
        rw [← Nat.add_assoc] at q1
        rw [HD.out.at_ hlt] at q0 q1
        have HX := Aside0.mk (HP.out)
        generalize hy : l.getD j z113 = y at q0 q1
        have HY := Aside0.mk hy
        clear hy f0 f1 hLl
        cases hq : p y with
        | true =>
          have HQ := Aside0.mk hq
          clear hq
          have hcall := HP.out _ y (HGr.out.alloc (.cells #[.int .i64 y.f0, .int .i64 y.f1] 113))
          rw [HQ.out] at hcall
          have HX := Aside0.mk hcall
          have HD2 := Aside0.mk (HD.out.skip hlt (by rw [HY.out]; exact HQ.out))
          have HRA := Aside0.mk (HRr.out.alloc (.cells #[.int .i64 y.f0, .int .i64 y.f1] 113))
          have HGA := Aside0.mk (HGr.out.alloc (.cells #[.int .i64 y.f0, .int .i64 y.f1] 113))
          clear hcall
          go_wp2_with fail
          refine HX.out.mono ?_
          rintro e w4 ⟨rfl, hb⟩
          have HR4 := Aside0.mk (HRA.out.below hb)
          have HG4 := Aside0.mk (HGA.out.below hb)
          clear hb
          go_wp2
          go_roundg (l.length - (j + 1))
          case measure => omega
          case rel => exact ⟨k, j + 1, L, by omega, by omega, rfl, by go_num, HD2, HR4, HG4⟩
        | false =>
          have HQ := Aside0.mk hq
          clear hq
          have hcall := HP.out _ y (HGr.out.alloc (.cells #[.int .i64 y.f0, .int .i64 y.f1] 113))
          rw [HQ.out] at hcall
          have HX := Aside0.mk hcall
          have HD2 := Aside0.mk (HD.out.keep hlt (by rw [HY.out]; exact HQ.out))
          rw [HY.out] at HD2
          have hkj := HD.out.le
          have hLl : k < L.length := by rw [HD.out.len]; omega
          obtain ⟨f0, f1⟩ := flat_get (get_getD hLl)
          have s0 := hcell' _ _ f0
          have s1 := hcell' _ _ f1
          rw [← Nat.add_assoc] at s1
          have S0 := Aside0.mk s0
          have S1 := Aside0.mk s1
          have k1 : 0 ≤ (k : Int) := by omega
          have k2 : (k : Int) < l.length := by omega
          have HKJ := Aside0.mk hkj
          have bb := blk_new wr (.cells #[.int .i64 y.f0, .int .i64 y.f1] 113)
          have BB := Aside0.mk bb
          have HRA := Aside0.mk (HRr.out.alloc (.cells #[.int .i64 y.f0, .int .i64 y.f1] 113))
          have HGA := Aside0.mk (HGr.out.alloc (.cells #[.int .i64 y.f0, .int .i64 y.f1] 113))
          have HZ := Aside0.mk (show k * 2 + 1 < (flat L).length from by have h9 := hLl; rw [flat_len]; omega)
          clear hcall f0 f1 s0 s1 bb hcell' hLl hkj
          go_wp2_with fail
          refine HX.out.mono ?_
          rintro e w4 ⟨rfl, hb⟩
          have HR4 := Aside0.mk (HRA.out.below hb)
          have HG4 := Aside0.mk (HGA.out.below hb)
          have b0 : w4.cell? ⟨wr.heap.size, 0, none⟩ = some (.int .i64 y.f0) := cell_be ((blk_cell BB.out 0).trans rfl) hb
          have b1 : w4.cell? ⟨wr.heap.size, 1, none⟩ = some (.int .i64 y.f1) := cell_be ((blk_cell BB.out 1).trans rfl) hb
          obtain ⟨g', off', cur2, hA, hg2, hsz2, hcell2⟩ := HR4.out.at_ (by omega)
          cases hA
          obtain ⟨f0, f1⟩ := flat_get (l := L) (j := k) (get_getD (by have := HZ.out; rw [flat_len] at this; omega))
          have c0 := hcell2 _ _ f0
          have c1 := hcell2 _ _ f1
          rw [← Nat.add_assoc] at c1
          obtain ⟨c0, d0⟩ := c0
          obtain ⟨c1, d1⟩ := c1
          have d1' : (w4.setCell ⟨ga, off + k * 2, none⟩ (.int .i64 y.f0)).frozen? ⟨ga, off + k * 2 + 1, none⟩ = false := by
            have hg3 := heap_setCell_same w4 ga (off + k * 2) cur2 113 (.int .i64 y.f0) hg2
            exact frozen_of_row _ ga _ _ _ hg3
          clear hb f0 f1 hcell2 hsz2 hg2
          go_wp2_with fail
          have h1 := HR4.out.put (k * 2) (by have := HZ.out; omega) (.int .i64 y.f0)
          have h2 := h1.put (k * 2 + 1) (by rw [List.length_set]; exact HZ.out) (.int .i64 y.f1)
          rw [flat_set2, ← Nat.add_assoc] at h2
          have HR5 := Aside0.mk h2
          have HG5 := Aside0.mk ((HG4.out.setCell (p := ⟨ga, off + k * 2, none⟩) (.inl ⟨_, rfl, rfl⟩) (.int .i64 y.f0)).setCell (p := ⟨ga, off + k * 2 + 1, none⟩) (.inl ⟨_, rfl, rfl⟩) (.int .i64 y.f1))
          clear h1 h2 c0 c1 d0 d1 d1'
          go_roundg (l.length - (j + 1))
          case measure => omega
          case rel => exact ⟨k + 1, j + 1, L.set k y, by omega, by omega, by have := HKJ.out; go_num, by go_num, HD2, HR5, HG5⟩
      · have ej : j = l.length := by omega
        subst ej
        have hk := HD.out.le
        have k1 : 0 ≤ (k : Int) := by omega
        have k2 : (k : Int) ≤ l.length := by omega
        have hcl := HRr.out.2.1
        have k3 : ¬ c = k := by omega
        have k4 : (k : Int) ≤ c := by omega
        have HM := Aside0.mk (show 0 < l.length - k from by omega)
        have HM2 := Aside0.mk (show k * 2 + (l.length - k) * 2 ≤ l.length * 2 from by omega)
        have HK2 := Aside0.mk hk
        have hLE := HD.out.len
        have HFR := Aside0.mk (show L.take k = l.filter (fun x => !p x) from by have h := HD.out.front; rwa [List.take_length] at h)
        have HLE := Aside0.mk hLE
        clear hk hcl hLE
        go_wp2_with (with_reducible refine gate_clear ?_; refine wpList_clear_row rfl _ 110 rfl 113 _ 2 16 Tryz.underlying110 info113 rfl zeros_one ga off l.length c (flat L) HRr.out (k * 2) (l.length - k) (c - k) HM.out HM2.out (by simp [Act.eval, Act.put]) ?_)
        intro w5 hR5 hG5
        have HR5 := Aside0.mk hR5
        have HG5 := Aside0.mk (HGr.out.trans hG5 (fun q hq => .inl ⟨_, rfl, hq.symm⟩))
        clear hR5 hG5
        go_wp2
        go_ret
        have hkl : (l.filter fun x => !p x).length = k := by rw [← HFR.out, List.length_take, HLE.out]; have := HK2.out; omega
        have hU := HR5.out.upto k (by have := HK2.out; omega)
        have e1 : (Go.splice (flat L) (k * 2) (Builtin.zeroCells (Value.agg #[.int .i64 0, .int .i64 0]).cells (l.length - k)).toList).take (k * 2) = flat (l.filter fun x => !p x) := by
          unfold Go.splice
          rw [List.take_append_of_le_length (by rw [List.length_take, flat_len, HLE.out]; have := HK2.out; omega), List.take_take, Nat.min_self, ← flat_take, HFR.out]
        unfold DelPost
        rw [hkl, ← e1]
        exact ⟨rfl, hU, HG5.out⟩
end Go.Proofs.YtaaekmcmpjljgaaGreat.Ln
namespace Go.Proofs.YtaaekmcmpjljgaaGreat.Ln
open Go.RowKit Go.Proofs.YtaaekmcmpjljgaaGreatW.PrintWords Go.Proofs.YtaaekmcmpjljgaaGreatW.PrintLast Go.Proofs.YtaaekmcmpjljgaaGreatW.PrintMore Go.Proofs.YtaaekmcmpjljgaaGreat.PMd
open Go.Sort (grow)
set_option linter.unusedVariables false
set_option linter.unusedSimpArgs false
def serveQ : List E → List E → List Int × List E × List E
  | hs, [] => ([], hs, [])
  | hs, x :: qs => if fitsAll hs x.f0 x.f1 then (x.f0 :: (serveQ (grantsIn hs x.f0 x.f1) qs).1, (serveQ (grantsIn hs x.f0 x.f1) qs).2) else ([], hs, x :: qs)
def fl (l : List E) (who : Int) : List E := l.filter fun x => !(x.f0 == who)
def leaveIn (hs qs : List E) (who : Int) : List Int × List E × List E := serveQ (fl hs who) (fl qs who)
def ints (l : List Int) : List Value := l.map (Value.int .i64)
set_option maxHeartbeats 8000000 in
set_option maxRecDepth 100000 in
theorem leave1 (x : E) (who : Int) (g : Nat) (w : World) (hc : w.cell? ⟨g, 0, none⟩ = some (.int .i64 who)) :
    Calls Tryz.prog 81 #[.agg #[.int .i64 x.f0, .int .i64 x.f1], .pointer (some ⟨g, 0, none⟩)] w fun e w' => e = .returned (.bool (x.f0 == who)) ∧ Below w.heap.size w w' := by
  have hu67 := Tryz.underlying113
  have hc2 : (w.alloc (.cells #[.int .i64 x.f0, .int .i64 x.f1] 113)).cell? ⟨g, 0, none⟩ = some (.int .i64 who) := cell_al hc _
  go_enter Tryz.func81, Tryz.ntmps81
  go_wp2
  go_ret
  exact ⟨rfl, below_alloc (Below.refl _ _) _⟩
theorem enters_leave1 : ∀ args w, (callFunc 81 args).run Tryz.prog w = .ok (.enter 81 args) w := ent_of Tryz.func81 (by kernel_rfl) rfl
theorem leave1.predG (who : Int) (g : Nat) (A : Option Addr) (w : World) (hc : w.cell? ⟨g, 0, none⟩ = some (.int .i64 who)) (hn : ¬ blk A g) : PredG 81 #[.pointer (some ⟨g, 0, none⟩)] (fun x => x.f0 == who) A w :=
  fun W x hG => leave1 x who g W (hG.cell hc hn)
theorem del_who (A : Option Addr) (c : Nat) (l : List E) (who : Int) (g : Nat) (w : World) (hR : Row w 113 2 A l.length c (flat l)) (hc : w.cell? ⟨g, 0, none⟩ = some (.int .i64 who)) (hn : ¬ blk A g) (hl : l.length ≤ 1000000) :
    Calls Tryz.prog 82 #[.slice A l.length c, .func (.func 81) #[] #[.pointer (some ⟨g, 0, none⟩)]] w fun e w' =>
      e = .returned (.slice A (fl l who).length c) ∧ Row w' 113 2 A (fl l who).length c (flat (fl l who)) ∧ Grew (blk A) w w' :=
  DeleteFunc_ _ _ (fun x => x.f0 == who) enters_leave1 A c l w hR (leave1.predG who g A w hc hn) hl
theorem IsLane.exact_ {w : World} {b : Nat} {F : Nat → Prop} {hs qs : List E} (h : IsLane w b F hs qs) : ∃ F0 : Nat → Prop, IsLane w b F0 hs qs ∧ (∀ k, F0 k → F k ∧ k < w.heap.size) := by
  obtain ⟨hA, hc, qA, qc, h1, h2, h3, h4, h5, h6, h7⟩ := h
  refine ⟨fun k => k = b ∨ blk hA k ∨ blk qA k, ⟨hA, hc, qA, qc, h1, .inl rfl, h3, fun k hk => .inr (.inl hk), h5, fun k hk => .inr (.inr hk), h7⟩, fun k hk => ?_⟩
  rcases hk with rfl | hk | hk
  · exact ⟨h2, (Array.getElem?_eq_some_iff.1 h1).1⟩
  · exact ⟨h4 k hk, h3.lt hk⟩
  · exact ⟨h6 k hk, h5.lt hk⟩
theorem one_at {w : World} {g : Nat} {v : Value} {t : TypeId} (h : w.heap[g]? = some (.cells #[v] t (0, 0))) : ∀ j u, [v][j]? = some u → w.cell? ((⟨g, 0, none⟩ : Addr).add j) = some u := by
  intro j u hu
  rw [Addr.add_lit, Nat.zero_add]
  exact (blk_cell h j).trans (by simpa using hu)
theorem one_one (n : Int) : ∀ u ∈ [Value.int .i64 n], u.oneCell' = true := by
  intro u hu
  obtain rfl : u = Value.int .i64 n := by simpa using hu
  rfl
theorem grants_len (hs : List E) (who m : Int) : (grantsIn hs who m).length ≤ hs.length + 1 := by
  unfold grantsIn
  split
  · rw [List.length_set]; omega
  · rw [(insE_perm hs ⟨who, m⟩).length_eq]; simp
def LoopIn (b : Nat) (F : Nat → Prop) (w : World) (R : List Int × List E × List E) (N : Nat) (v : Value) (gg : Nat) (wr : World) : Prop :=
  ∃ (hs qs : List E) (out : List Int) (A' : Option Addr) (c' : Nat) (F0 : Nat → Prop), v = .slice A' out.length c' ∧ qs.length ≤ gg ∧ IsLane wr b F0 hs qs ∧ Row wr 3 1 A' out.length c' (ints out) ∧ (∀ k, blk A' k → w.heap.size ≤ k) ∧
    (∀ k, F0 k → (F k ∨ w.heap.size ≤ k) ∧ ¬ blk A' k ∧ k < wr.heap.size) ∧ Grew F w wr ∧ Asc hs ∧ (out ++ (serveQ hs qs).1, (serveQ hs qs).2) = R ∧ out.length + hs.length + 2 * qs.length ≤ N
set_option maxHeartbeats 8000000 in
set_option maxRecDepth 100000 in
theorem Leave_ (w : World) (b : Nat) (F : Nat → Prop) (hs qs : List E) (who : Int) (hI : IsLane w b F hs qs) (ha : Asc hs) (hl : hs.length + 2 * qs.length ≤ 900000) (hF : ∀ k, F k → k < w.heap.size) :
    Calls Tryz.prog 52 #[.pointer (some ⟨b, 0, none⟩), .int .i64 who] w fun e w' => ∃ A' c', e = .returned (.slice A' (leaveIn hs qs who).1.length c') ∧ Row w' 3 1 A' (leaveIn hs qs who).1.length c' (ints (leaveIn hs qs who).1) ∧
      (∀ k, blk A' k → w.heap.size ≤ k) ∧ IsLane w' b (fun k => (F k ∨ w.heap.size ≤ k) ∧ ¬ blk A' k) (leaveIn hs qs who).2.1 (leaveIn hs qs who).2.2 ∧ Grew F w w' := by
  have hu := Tryz.underlying116
  have hu67 := Tryz.underlying113
  obtain ⟨hA, hc, qA, qc, h1, h2, h3, h4, h5, h6, h7⟩ := hI
  have hcell0 : (w.alloc (.cells #[.int .i64 who] 3)).cell? ⟨w.heap.size, 0, none⟩ = some (.int .i64 who) := (blk_cell (blk_new w _) 0).trans rfl
  have ga : ¬ blk hA w.heap.size := fun h => Nat.lt_irrefl _ (h3.lt h)
  have gq : ¬ blk qA w.heap.size := fun h => Nat.lt_irrefl _ (h5.lt h)
  have HD1 := Aside0.mk (del_who hA hc hs who w.heap.size (w.alloc (.cells #[.int .i64 who] 3)) (h3.alloc _) hcell0 ga (by omega))
  have b0 := blk_alloc h1 (.cells #[.int .i64 who] 3)
  have c0 : (w.alloc (.cells #[.int .i64 who] 3)).cell? ⟨b, 0, none⟩ = some (.slice hA hs.length hc) := (blk_cell b0 0).trans rfl
  have B0 := Aside0.mk b0
  have H2 := Aside0.mk h2
  have H3 := Aside0.mk h3
  have H4 := Aside0.mk h4
  have H5 := Aside0.mk (h5.alloc (.cells #[.int .i64 who] 3))
  have H6 := Aside0.mk h6
  have H7 := Aside0.mk h7
  have HL := Aside0.mk hl
  have HA := Aside0.mk ha
  have GA := Aside0.mk ga
  have GQ := Aside0.mk gq
  have C0 := Aside0.mk hcell0
  have HF := Aside0.mk hF
  clear h1 h2 h3 h4 h5 h6 h7 hl ha ga gq hcell0 b0 hF
  go_enter Tryz.func52, Tryz.ntmps52
  go_wp2_with fail
  refine HD1.out.mono ?_
  rintro e w3 ⟨rfl, hR3, hG3⟩
  have hbA : ¬ blk hA b := (H3.out.alloc (.cells #[.int .i64 who] 3)).ne B0.out (by decide)
  have b3 := (hG3.block b (Array.getElem?_eq_some_iff.1 B0.out).1 hbA).trans B0.out
  have c3 : w3.cell? ⟨b, 0, none⟩ = some (.slice hA hs.length hc) := (blk_cell b3 0).trans rfl
  have d3 : w3.cell? ⟨b, 1, none⟩ = some (.slice qA qs.length qc) := (blk_cell b3 1).trans rfl
  have f3 : w3.frozen? ⟨b, 0, none⟩ = false := blk_frozen b3 0
  have B3 := Aside0.mk b3
  have HR3 := Aside0.mk hR3
  have HG3 := Aside0.mk hG3
  clear c0 hbA b3 hR3 hG3
  go_wp2_with fail
  have hbw : b ≠ w.heap.size := fun e => by have := (Array.getElem?_eq_some_iff.1 B0.out).1; have hc0 := B0.out; rw [e, blk_new] at hc0; injection hc0 with hc0; injection hc0 with _ hc0; exact absurd hc0 (by decide)
  have hqb : ¬ blk qA b := H5.out.ne B0.out (by decide)
  have q4 := (H5.out.grew HG3.out (fun k h h2 => H7.out k h2 h)).set (p := ⟨b, 0, none⟩) hqb (.slice hA (fl hs who).length hc)
  have e4 : (w3.setCell ⟨b, 0, none⟩ (.slice hA (fl hs who).length hc)).cell? ⟨w.heap.size, 0, none⟩ = some (.int .i64 who) := by
    rw [World.cell?_of_block (w := w3) (Below.heap_setCell w3 ⟨b, 0, none⟩ _ w.heap.size (fun e => hbw e.symm))]
    exact HG3.out.cell C0.out GA.out
  have HD2 := Aside0.mk (del_who qA qc qs who w.heap.size _ q4 e4 GQ.out (by have := HL.out; omega))
  have HQB := Aside0.mk hqb
  have B4 := Aside0.mk (blk_put B3.out 0 (.slice hA (fl hs who).length hc) rfl)
  have HR4 := Aside0.mk (HR3.out.set (p := ⟨b, 0, none⟩) ((H3.out.alloc (.cells #[.int .i64 who] 3)).ne B0.out (by decide)) (.slice hA (fl hs who).length hc))
  have HG4 := Aside0.mk (((Grew.of_below (below_alloc (Below.refl w.heap.size w) (.cells #[.int .i64 who] 3))).trans HG3.out (fun k h => .inl (H4.out k h))).setCell (p := ⟨b, 0, none⟩) (.inl H2.out) (.slice hA (fl hs who).length hc))
  generalize w3.setCell ⟨b, 0, none⟩ (.slice hA (fl hs who).length hc) = w4 at HD2 B4 HR4 HG4 ⊢
  clear c3 d3 f3 hqb q4 e4 hbw B3 HR3 HG3
  refine HD2.out.mono ?_
  rintro e w5 ⟨rfl, hR5, hG5⟩
  have b5 := (hG5.block b (Array.getElem?_eq_some_iff.1 B4.out).1 HQB.out).trans B4.out
  have c5 : w5.cell? ⟨b, 1, none⟩ = some (.slice qA qs.length qc) := (blk_cell b5 1).trans rfl
  have f5 : w5.frozen? ⟨b, 1, none⟩ = false := blk_frozen b5 1
  have B6 := Aside0.mk (blk_put b5 1 (.slice qA (fl qs who).length qc) rfl)
  have HI6 := Aside0.mk (show IsLane (w5.setCell ⟨b, 1, none⟩ (.slice qA (fl qs who).length qc)) b (fun k => k = b ∨ blk hA k ∨ blk qA k) (fl hs who) (fl qs who) from
    ⟨hA, hc, qA, qc, B6.out, .inl rfl, (HR4.out.grew hG5 (fun k h h2 => H7.out k h h2)).set (p := ⟨b, 1, none⟩) (HR4.out.ne B4.out (by decide)) _, fun k hk => .inr (.inl hk), hR5.set (p := ⟨b, 1, none⟩) HQB.out _, fun k hk => .inr (.inr hk), H7.out⟩)
  have HG6 := Aside0.mk ((HG4.out.trans hG5 (fun k h => .inl (H6.out k h))).setCell (p := ⟨b, 1, none⟩) (.inl H2.out) (.slice qA (fl qs who).length qc))
  have HZ := Aside0.mk (show ∀ k, (k = b ∨ blk hA k ∨ blk qA k) → (F k ∨ w.heap.size ≤ k) ∧ ¬ blk none k ∧ k < (w5.setCell ⟨b, 1, none⟩ (.slice qA (fl qs who).length qc)).heap.size from fun k hk => by
    have hf : F k := by rcases hk with rfl | h | h; exact H2.out; exact H4.out k h; exact H6.out k h
    exact ⟨.inl hf, fun h => blk_none h, Nat.lt_of_lt_of_le (HF.out k hf) HG6.out.size⟩)
  have HA6 := Aside0.mk (show Asc (fl hs who) from List.Pairwise.filter _ HA.out)
  have HL6 := Aside0.mk (show ([] : List Int).length + (fl hs who).length + 2 * (fl qs who).length ≤ 900000 from by
    have h1 : (fl hs who).length ≤ hs.length := List.length_filter_le _ _
    have h2 : (fl qs who).length ≤ qs.length := List.length_filter_le _ _
    have := HL.out
    simp only [List.length_nil]
    omega)
  clear hR5 hG5 b5
  go_wp2_with fail
  generalize w5.setCell ⟨b, 1, none⟩ (.slice qA (fl qs who).length qc) = w6 at B6 HI6 HG6 HZ ⊢
  clear c5 f5
  go_loopg [6] (fl qs who).length (fun gg v wr => LoopIn b F w (leaveIn hs qs who) 900000 v gg wr)
  case atStart => exact ⟨fl hs who, fl qs who, [], none, 0, _, rfl, Nat.le_refl _, HI6.out, Row.zero _ _ _, fun k h => (blk_none h).elim, HZ.out, HG6.out, HA6.out, rfl, HL6.out⟩
  case round =>
    clear B6 HI6 HG6 HZ HA6 HL6 HD2 HQB B4 HR4 HG4 B0 H3 H4 H5 H6 H7 HA GA GQ C0 HD1
    obtain ⟨hs1, qs1, out, A', c', F0, rfl, hgg, hI1, hRo, hko, hF0, hG1, ha1, hRes, hN⟩ := hrel
    cases qs1 with
    | nil =>
      have HI1 := Aside0.mk hI1
      obtain ⟨hA1, hc1, qA1, qc1, x0, x1, y0, y1, z0, z1⟩ := hI1.open_
      have mixed : Tryz.prog.follows Departure.mixedOrders = true := by kernel_rfl
      have cg := fun d os => cell_gr x1 d os
      have HRo := Aside0.mk hRo
      have HKo := Aside0.mk hko
      have HF0 := Aside0.mk hF0
      have HG1 := Aside0.mk hG1
      have HRes := Aside0.mk hRes
      clear hI1 hRo hko hF0 hG1 hRes x0 y0 y1 z0 z1 ha1
      go_wp2_with fail
      refine wp_region_gr mixed (by kernel_rfl) ?_
      repeat (go_big_quiet_step (fail))
      refine wpQuiet_nil ?_
      intro _ hw'
      obtain ⟨⟨d, os⟩, rfl⟩ := hw'
      go_wp2_with fail
      go_ret
      have hb := below_gr wr d os
      have hr : leaveIn hs qs who = (out, hs1, []) := by rw [← HRes.out]; simp [serveQ]
      rw [hr]
      exact ⟨A', c', rfl, HRo.out.below hb, HKo.out, (HI1.out.below hb).mono (fun k hk h => ⟨(HF0.out k h).1, (HF0.out k h).2.1⟩), HG1.out.below hb⟩
    | cons x qs1 =>
      have HI1 := Aside0.mk hI1
      obtain ⟨hA1, hc1, qA1, qc1, h1, h2, h3, h4, h5, h6, h7⟩ := hI1
      have mixed : Tryz.prog.follows Departure.mixedOrders = true := by kernel_rfl
      obtain ⟨gq, oq, cur, rfl, _, _, hcq⟩ := h5.at_ (by simp)
      have x1 : wr.cell? ⟨b, 1, none⟩ = some (.slice (some ⟨gq, oq, none⟩) (x :: qs1).length qc1) := (blk_cell h1 1).trans rfl
      have q0 : wr.cell? ⟨gq, oq, none⟩ = some (.int .i64 x.f0) := (hcq 0 _ rfl).1
      have q1 : wr.cell? ⟨gq, oq + 1, none⟩ = some (.int .i64 x.f1) := (hcq 1 _ rfl).1
      have H1 := Aside0.mk h1
      have H2' := Aside0.mk h2
      have H3 := Aside0.mk h3
      have H4 := Aside0.mk h4
      have H5 := Aside0.mk h5
      have H6 := Aside0.mk h6
      have H7 := Aside0.mk h7
      have cg := fun d os => cell_gr x1 d os
      have cq0 := fun d os => cell_gr q0 d os
      have cq1 := fun d os => cell_gr q1 d os
      have HFT := Aside0.mk (fun d os => fits_ (grow (wat wr d) os) b F0 hs1 (x :: qs1) x.f0 x.f1 (HI1.out.below (below_gr wr d os)))
      have p1 : decide (0 < (x :: qs1).length) = true := decide_eq_true (by simp)
      have p2 : (0 : Int) < ((x :: qs1).length : Int) := by rw [List.length_cons]; omega
      have HRo := Aside0.mk hRo
      have HKo := Aside0.mk hko
      have HF0 := Aside0.mk hF0
      have HG1 := Aside0.mk hG1
      have HRes := Aside0.mk hRes
      have HN := Aside0.mk hN
      have HGG := Aside0.mk hgg
      have HA1 := Aside0.mk ha1
      clear h1 h2 h3 h4 h5 h6 h7 hcq hRo hko hF0 hG1 hRes ha1 hN hgg
      generalize hqn : (x :: qs1).length = qn at p1 p2 cg x1
      have HQN := Aside0.mk hqn
      clear hqn
      cases hfit : fitsAll hs1 x.f0 x.f1 with
      | false =>
        rw [hfit] at HFT
        have HFIT := Aside0.mk hfit
        clear hfit
        go_wp2_with fail
        refine wp_region_gr mixed (by kernel_rfl) ?_
        repeat (go_big_quiet_step (exact Calls.gr_of (HFT.out _ _)))
        refine wpQuiet_nil ?_
        intro _ hw'
        obtain ⟨⟨d, os⟩, rfl⟩ := hw'
        go_wp2_with fail
        go_ret
        have hb := below_gr wr d os
        have hr : leaveIn hs qs who = (out, hs1, x :: qs1) := by rw [← HRes.out]; simp [serveQ, HFIT.out]
        rw [hr]
        exact ⟨A', c', rfl, HRo.out.below hb, HKo.out, (HI1.out.below hb).mono (fun k hk h => ⟨(HF0.out k h).1, (HF0.out k h).2.1⟩), HG1.out.below hb⟩
      | true =>
        rw [hfit] at HFT
        have HFIT := Aside0.mk hfit
        clear hfit
        go_wp2_with fail
        refine wp_region_gr mixed (by kernel_rfl) ?_
        repeat (go_big_quiet_step (exact Calls.gr_of (HFT.out _ _)))
        refine wpQuiet_nil ?_
        intro _ hw'
        obtain ⟨⟨d, os⟩, rfl⟩ := hw'
        have HB2 := Aside0.mk (below_gr wr d os)
        generalize grow (wat wr d) os = w2 at HB2 ⊢
        clear cg cq0 cq1 HFT d os
        have y0 := cell_be q0 HB2.out
        have y1 := cell_be q1 HB2.out
        have z1 := cell_be x1 HB2.out
        have b2 := (HB2.out.block b (Array.getElem?_eq_some_iff.1 H1.out).1).trans H1.out
        have x1a := cell_al z1 (.cells #[.int .i64 x.f0, .int .i64 x.f1] 113)
        have b2a := blk_alloc b2 (.cells #[.int .i64 x.f0, .int .i64 x.f1] 113)
        have f1a : (w2.alloc (.cells #[.int .i64 x.f0, .int .i64 x.f1] 113)).frozen? ⟨b, 1, none⟩ = false := blk_frozen b2a 1
        have bx := blk_new w2 (.cells #[.int .i64 x.f0, .int .i64 x.f1] 113)
        have hne : w2.heap.size ≠ b := fun e => by have := (Array.getElem?_eq_some_iff.1 b2).1; omega
        have B2A := Aside0.mk b2a
        have BX := Aside0.mk bx
        have HNE := Aside0.mk hne
        have h1l : (1 : Int) ≤ (qn : Int) := by omega
        have HQ1 := HQN.out
        clear q0 q1 x1 b2 b2a bx hne
        by_cases hq1 : qc1 = 1
        · subst hq1
          have b3 := Aside0.mk (blk_put B2A.out 1 (.slice (some ⟨gq, oq, none⟩) (qn - 1) 0) rfl)
          have bx3 := (Below.heap_setCell (w2.alloc (.cells #[.int .i64 x.f0, .int .i64 x.f1] 113)) ⟨b, 1, none⟩ (.slice (some ⟨gq, oq, none⟩) (qn - 1) 0) w2.heap.size HNE.out).trans BX.out
          have g0 : ((w2.alloc (.cells #[.int .i64 x.f0, .int .i64 x.f1] 113)).setCell ⟨b, 1, none⟩ (.slice (some ⟨gq, oq, none⟩) (qn - 1) 0)).cell? ⟨w2.heap.size, 0, none⟩ = some (.int .i64 x.f0) := (blk_cell bx3 0).trans rfl
          have g1 : ((w2.alloc (.cells #[.int .i64 x.f0, .int .i64 x.f1] 113)).setCell ⟨b, 1, none⟩ (.slice (some ⟨gq, oq, none⟩) (qn - 1) 0)).cell? ⟨w2.heap.size, 1, none⟩ = some (.int .i64 x.f1) := (blk_cell bx3 1).trans rfl
          have BX3 := Aside0.mk bx3
          have hR5 := H5.out.from_ 1 (by simp)
          rw [HQN.out] at hR5
          have hq5 : (flat (x :: qs1)).drop (1 * 2) = flat qs1 := rfl
          have hn5 : qn - 1 = qs1.length := by rw [← HQN.out]; rfl
          have hR5' : Row wr 113 2 (some ⟨gq, oq, none⟩) qs1.length 0 (flat qs1) := by
            rw [← hn5, ← hq5]
            simpa using hR5
          have hI3 : IsLane ((w2.alloc (.cells #[.int .i64 x.f0, .int .i64 x.f1] 113)).setCell ⟨b, 1, none⟩ (.slice (some ⟨gq, oq, none⟩) (qn - 1) 0)) b F0 hs1 qs1 := by
            refine ⟨hA1, hc1, some ⟨gq, oq, none⟩, 0, ?_, H2'.out, ((H3.out.below HB2.out).alloc _).set (p := ⟨b, 1, none⟩) (H3.out.ne H1.out (by decide)) _, H4.out, ((hR5'.below HB2.out).alloc _).set (p := ⟨b, 1, none⟩) (hR5'.ne H1.out (by decide)) _, ?_, ?_⟩
            · rw [← hn5]; exact b3.out
            · rintro k ⟨a, h, e⟩; cases h; exact H6.out k ⟨_, rfl, e⟩
            · rintro k h ⟨a, h2, e⟩; cases h2; exact H7.out k h ⟨_, rfl, e⟩
          have hG3 : Grew F0 wr ((w2.alloc (.cells #[.int .i64 x.f0, .int .i64 x.f1] 113)).setCell ⟨b, 1, none⟩ (.slice (some ⟨gq, oq, none⟩) (qn - 1) 0)) := ((Grew.of_below HB2.out).alloc _).setCell (.inl H2'.out) _
          have hRo3 : Row ((w2.alloc (.cells #[.int .i64 x.f0, .int .i64 x.f1] 113)).setCell ⟨b, 1, none⟩ (.slice (some ⟨gq, oq, none⟩) (qn - 1) 0)) 3 1 A' out.length c' (ints out) := HRo.out.grew hG3 (fun k hk h => (HF0.out k h).2.1 hk)
          have hbs : w2.heap.size < ((w2.alloc (.cells #[.int .i64 x.f0, .int .i64 x.f1] 113)).setCell ⟨b, 1, none⟩ (.slice (some ⟨gq, oq, none⟩) (qn - 1) 0)).heap.size := by simp
          have HRO3 := Aside0.mk hRo3
          have HBS := Aside0.mk hbs
          have HG3 := Aside0.mk hG3
          have HGR := Aside0.mk (grants_ _ b F0 hs1 qs1 x.f0 x.f1 hI3 HA1.out (by have := HN.out; omega))
          clear hR5 hq5 hn5 hR5' hI3 hG3 bx3 hRo3 hbs
          go_wp2_with fail
          refine HGR.out.mono ?_
          rintro e w4 ⟨rfl, hI4, hG4⟩
          have hZ4 : ¬ F0 w2.heap.size := fun h => by have := (HF0.out _ h).2.2; have := HB2.out.size; omega
          have bx4 := (hG4.block w2.heap.size HBS.out hZ4).trans BX3.out
          have k0 : w4.cell? ⟨w2.heap.size, 0, none⟩ = some (.int .i64 x.f0) := (blk_cell bx4 0).trans rfl
          have hRo4 := HRO3.out.grew hG4 (fun k hk h => (HF0.out k h).2.1 hk)
          have HRO4 := Aside0.mk (hRo4.alloc (.cells #[.int .i64 x.f0] 3))
          have HI4 := Aside0.mk hI4
          have HG4 := Aside0.mk hG4
          clear g0 g1 x1a f1a y0 y1 z1 hZ4 bx4 hI4 hG4 hRo4
          generalize hw3 : (w2.alloc (.cells #[.int .i64 x.f0, .int .i64 x.f1] 113)).setCell ⟨b, 1, none⟩ (.slice (some ⟨gq, oq, none⟩) (qn - 1) 0) = w3 at HG3 HI4 HG4 HRO3 HBS b3 BX3
          clear hw3 b3 BX3 HGR
          go_wp2_with (at_builtin; refine wpList_append_info rfl _ _ 29 rfl 3 _ 1 8 Tryz.underlying29 info3 rfl A' out.length c' (ints out) (by simp [Act.eval, Act.put]) HRO4.out ⟨w4.heap.size, 0, none⟩ 1 1 [.int .i64 x.f0] (by simp [Act.eval, Act.put]) rfl (one_at (blk_new w4 _)) (one_one _) (by have := HN.out; unfold maxLen; omega) (by have := HN.out; omega) ?_)
          intro A2 c2 w6 hR6 hG6 hk6
          have HR6 := Aside0.mk hR6
          have HG6 := Aside0.mk hG6
          have HK6 := Aside0.mk hk6
          clear hR6 hG6 hk6 k0
          go_wp2
          go_roundg qs1.length
          case measure => have h := HGG.out; rw [List.length_cons] at h; omega
          case rel =>
            obtain ⟨F1, hI6, hF1⟩ := HI4.out.exact_
            have e1 : ints out ++ [.int .i64 x.f0] = ints (out ++ [x.f0]) := by simp [ints]
            have e2 : (out ++ [x.f0]).length = out.length + 1 := by simp
            have hsz4 : (w4.alloc (.cells #[.int .i64 x.f0] 3)).heap.size = w4.heap.size + 1 := by simp
            have s13 : wr.heap.size ≤ w3.heap.size := HG3.out.size
            have s34 : w3.heap.size ≤ w4.heap.size := HG4.out.size
            have s46 : w4.heap.size + 1 ≤ w6.heap.size := by have := HG6.out.size; rw [hsz4] at this; exact this
            have s01 : w.heap.size ≤ wr.heap.size := HG1.out.size
            have hF1n : ∀ k, F1 k → ¬ blk A' k := fun k h hb => by
              rcases (hF1 k h).1 with h2 | h2
              · exact (HF0.out k h2).2.1 hb
              · have := HRO3.out.lt hb; omega
            refine ⟨grantsIn hs1 x.f0 x.f1, qs1, out ++ [x.f0], A2, c2, F1, by rw [e2], Nat.le_refl _, (hI6.below (below_alloc (Below.refl _ _) _)).grew HG6.out hF1n, by rw [e2, ← e1]; exact HR6.out, ?_, ?_, ?_, asc_grants HA1.out, ?_, ?_⟩
            · intro k hk
              rcases HK6.out k hk with h | h
              · exact HKo.out k h
              · (try rw [hsz4] at h); omega
            · intro k hk
              have h9 := hF1 k hk
              refine ⟨?_, fun hb => ?_, by omega⟩
              · rcases h9.1 with h2 | h2
                · exact (HF0.out k h2).1
                · exact .inr (by omega)
              · rcases HK6.out k hb with h | h
                · exact hF1n k hk h
                · (try rw [hsz4] at h); omega
            · have g1 : Grew F w w3 := HG1.out.trans HG3.out (fun k h => (HF0.out k h).1)
              have g2 : Grew F w w4 := g1.trans HG4.out (fun k h => (HF0.out k h).1)
              exact (g2.alloc _).trans HG6.out (fun k h => .inr (HKo.out k h))
            · rw [← HRes.out]
              simp [serveQ, HFIT.out]
            · have hg := grants_len hs1 x.f0 x.f1
              have := HN.out
              simp only [List.length_append, List.length_cons, List.length_nil] at this ⊢
              omega
        · have b3 := Aside0.mk (blk_put B2A.out 1 (.slice (some ⟨gq, oq + 2, none⟩) (qn - 1) (qc1 - 1)) rfl)
          have bx3 := (Below.heap_setCell (w2.alloc (.cells #[.int .i64 x.f0, .int .i64 x.f1] 113)) ⟨b, 1, none⟩ (.slice (some ⟨gq, oq + 2, none⟩) (qn - 1) (qc1 - 1)) w2.heap.size HNE.out).trans BX.out
          have g0 : ((w2.alloc (.cells #[.int .i64 x.f0, .int .i64 x.f1] 113)).setCell ⟨b, 1, none⟩ (.slice (some ⟨gq, oq + 2, none⟩) (qn - 1) (qc1 - 1))).cell? ⟨w2.heap.size, 0, none⟩ = some (.int .i64 x.f0) := (blk_cell bx3 0).trans rfl
          have g1 : ((w2.alloc (.cells #[.int .i64 x.f0, .int .i64 x.f1] 113)).setCell ⟨b, 1, none⟩ (.slice (some ⟨gq, oq + 2, none⟩) (qn - 1) (qc1 - 1))).cell? ⟨w2.heap.size, 1, none⟩ = some (.int .i64 x.f1) := (blk_cell bx3 1).trans rfl
          have BX3 := Aside0.mk bx3
          have hR5 := H5.out.from_ 1 (by simp)
          rw [HQN.out] at hR5
          have hq5 : (flat (x :: qs1)).drop (1 * 2) = flat qs1 := rfl
          have hn5 : qn - 1 = qs1.length := by rw [← HQN.out]; rfl
          have hR5' : Row wr 113 2 (some ⟨gq, oq + 2, none⟩) qs1.length (qc1 - 1) (flat qs1) := by
            rw [← hn5, ← hq5]
            simpa [hq1, Addr.add] using hR5
          have hI3 : IsLane ((w2.alloc (.cells #[.int .i64 x.f0, .int .i64 x.f1] 113)).setCell ⟨b, 1, none⟩ (.slice (some ⟨gq, oq + 2, none⟩) (qn - 1) (qc1 - 1))) b F0 hs1 qs1 := by
            refine ⟨hA1, hc1, some ⟨gq, oq + 2, none⟩, (qc1 - 1), ?_, H2'.out, ((H3.out.below HB2.out).alloc _).set (p := ⟨b, 1, none⟩) (H3.out.ne H1.out (by decide)) _, H4.out, ((hR5'.below HB2.out).alloc _).set (p := ⟨b, 1, none⟩) (hR5'.ne H1.out (by decide)) _, ?_, ?_⟩
            · rw [← hn5]; exact b3.out
            · rintro k ⟨a, h, e⟩; cases h; exact H6.out k ⟨_, rfl, e⟩
            · rintro k h ⟨a, h2, e⟩; cases h2; exact H7.out k h ⟨_, rfl, e⟩
          have hG3 : Grew F0 wr ((w2.alloc (.cells #[.int .i64 x.f0, .int .i64 x.f1] 113)).setCell ⟨b, 1, none⟩ (.slice (some ⟨gq, oq + 2, none⟩) (qn - 1) (qc1 - 1))) := ((Grew.of_below HB2.out).alloc _).setCell (.inl H2'.out) _
          have hRo3 : Row ((w2.alloc (.cells #[.int .i64 x.f0, .int .i64 x.f1] 113)).setCell ⟨b, 1, none⟩ (.slice (some ⟨gq, oq + 2, none⟩) (qn - 1) (qc1 - 1))) 3 1 A' out.length c' (ints out) := HRo.out.grew hG3 (fun k hk h => (HF0.out k h).2.1 hk)
          have hbs : w2.heap.size < ((w2.alloc (.cells #[.int .i64 x.f0, .int .i64 x.f1] 113)).setCell ⟨b, 1, none⟩ (.slice (some ⟨gq, oq + 2, none⟩) (qn - 1) (qc1 - 1))).heap.size := by simp
          have HRO3 := Aside0.mk hRo3
          have HBS := Aside0.mk hbs
          have HG3 := Aside0.mk hG3
          have HGR := Aside0.mk (grants_ _ b F0 hs1 qs1 x.f0 x.f1 hI3 HA1.out (by have := HN.out; omega))
          clear hR5 hq5 hn5 hR5' hI3 hG3 bx3 hRo3 hbs
          go_wp2_with fail
          refine HGR.out.mono ?_
          rintro e w4 ⟨rfl, hI4, hG4⟩
          have hZ4 : ¬ F0 w2.heap.size := fun h => by have := (HF0.out _ h).2.2; have := HB2.out.size; omega
          have bx4 := (hG4.block w2.heap.size HBS.out hZ4).trans BX3.out
          have k0 : w4.cell? ⟨w2.heap.size, 0, none⟩ = some (.int .i64 x.f0) := (blk_cell bx4 0).trans rfl
          have hRo4 := HRO3.out.grew hG4 (fun k hk h => (HF0.out k h).2.1 hk)
          have HRO4 := Aside0.mk (hRo4.alloc (.cells #[.int .i64 x.f0] 3))
          have HI4 := Aside0.mk hI4
          have HG4 := Aside0.mk hG4
          clear g0 g1 x1a f1a y0 y1 z1 hZ4 bx4 hI4 hG4 hRo4
          generalize hw3 : (w2.alloc (.cells #[.int .i64 x.f0, .int .i64 x.f1] 113)).setCell ⟨b, 1, none⟩ (.slice (some ⟨gq, oq + 2, none⟩) (qn - 1) (qc1 - 1)) = w3 at HG3 HI4 HG4 HRO3 HBS b3 BX3
          clear hw3 b3 BX3 HGR
          go_wp2_with (at_builtin; refine wpList_append_info rfl _ _ 29 rfl 3 _ 1 8 Tryz.underlying29 info3 rfl A' out.length c' (ints out) (by simp [Act.eval, Act.put]) HRO4.out ⟨w4.heap.size, 0, none⟩ 1 1 [.int .i64 x.f0] (by simp [Act.eval, Act.put]) rfl (one_at (blk_new w4 _)) (one_one _) (by have := HN.out; unfold maxLen; omega) (by have := HN.out; omega) ?_)
          intro A2 c2 w6 hR6 hG6 hk6
          have HR6 := Aside0.mk hR6
          have HG6 := Aside0.mk hG6
          have HK6 := Aside0.mk hk6
          clear hR6 hG6 hk6 k0
          go_wp2
          go_roundg qs1.length
          case measure => have h := HGG.out; rw [List.length_cons] at h; omega
          case rel =>
            obtain ⟨F1, hI6, hF1⟩ := HI4.out.exact_
            have e1 : ints out ++ [.int .i64 x.f0] = ints (out ++ [x.f0]) := by simp [ints]
            have e2 : (out ++ [x.f0]).length = out.length + 1 := by simp
            have hsz4 : (w4.alloc (.cells #[.int .i64 x.f0] 3)).heap.size = w4.heap.size + 1 := by simp
            have s13 : wr.heap.size ≤ w3.heap.size := HG3.out.size
            have s34 : w3.heap.size ≤ w4.heap.size := HG4.out.size
            have s46 : w4.heap.size + 1 ≤ w6.heap.size := by have := HG6.out.size; rw [hsz4] at this; exact this
            have s01 : w.heap.size ≤ wr.heap.size := HG1.out.size
            have hF1n : ∀ k, F1 k → ¬ blk A' k := fun k h hb => by
              rcases (hF1 k h).1 with h2 | h2
              · exact (HF0.out k h2).2.1 hb
              · have := HRO3.out.lt hb; omega
            refine ⟨grantsIn hs1 x.f0 x.f1, qs1, out ++ [x.f0], A2, c2, F1, by rw [e2], Nat.le_refl _, (hI6.below (below_alloc (Below.refl _ _) _)).grew HG6.out hF1n, by rw [e2, ← e1]; exact HR6.out, ?_, ?_, ?_, asc_grants HA1.out, ?_, ?_⟩
            · intro k hk
              rcases HK6.out k hk with h | h
              · exact HKo.out k h
              · (try rw [hsz4] at h); omega
            · intro k hk
              have h9 := hF1 k hk
              refine ⟨?_, fun hb => ?_, by omega⟩
              · rcases h9.1 with h2 | h2
                · exact (HF0.out k h2).1
                · exact .inr (by omega)
              · rcases HK6.out k hb with h | h
                · exact hF1n k hk h
                · (try rw [hsz4] at h); omega
            · have g1 : Grew F w w3 := HG1.out.trans HG3.out (fun k h => (HF0.out k h).1)
              have g2 : Grew F w w4 := g1.trans HG4.out (fun k h => (HF0.out k h).1)
              exact (g2.alloc _).trans HG6.out (fun k h => .inr (HKo.out k h))
            · rw [← HRes.out]
              simp [serveQ, HFIT.out]
            · have hg := grants_len hs1 x.f0 x.f1
              have := HN.out
              simp only [List.length_append, List.length_cons, List.length_nil] at this ⊢
              omega
end Go.Proofs.YtaaekmcmpjljgaaGreat.Ln
