/- The holders' order: slices.SortFunc over entries, by who. -/
import Derived.Test.YtagdgkimjgomlaaLn5
import Derived.Test.YtagdgkimjgomlaaLnSort
namespace Go.Proofs.Ytagdgkimjgomlaa.Ln
open Go.RowKit Go.Proofs.YtagdgkimjgomlaaW.PrintWords Go.Proofs.YtagdgkimjgomlaaW.PrintLast Go.Proofs.YtagdgkimjgomlaaW.PrintMore Go.Proofs.Ytagdgkimjgomlaa.PMd
open Go.Shelf Go.Lib
open Go.Sort (SWO PermIn SortedIn putCells mapBlock onCells grow flatK get_flatK size_flatK HoldsK putRowK)
set_option linter.unusedVariables false
set_option linter.unusedSimpArgs false
theorem heap_put (w : World) (g off q : Nat) (F : Array Value) (os : Array Obj) (k : Nat) (hk : k < w.heap.size) :
    (grow (Go.Sort.putRow id (Go.Sort.ahead w q) g off F) os).heap[k]? = if g = k then (w.heap[k]?).map (onCells (putCells id off F)) else w.heap[k]? := by
  show ((w.heap.modify g (onCells (putCells id off F))) ++ os)[k]? = _
  rw [Array.getElem?_append_left (by simpa using hk), Array.getElem?_modify]
theorem Row.putRow {w : World} {e sz n cap g off : Nat} {xs : List Value} (h : Row w e sz (some ⟨g, off, none⟩) n cap xs) (q : Nat) (F : Array Value) (hF : F.size = n * sz) (os : Array Obj) :
    Row (grow (Go.Sort.putRow id (Go.Sort.ahead w q) g off F) os) e sz (some ⟨g, off, none⟩) n cap F.toList := by
  have hm := Nat.mul_le_mul_right sz h.2.1
  refine ⟨by simpa using hF, h.2.1, h.2.2.1, .inr ?_⟩
  rcases h.2.2.2 with ⟨h2, _⟩ | ⟨g', off', cur, h2, hg, h3, h4⟩
  · cases h2
  · cases h2
    refine ⟨g, off, putCells id off F cur, rfl, ?_, by simpa [putCells] using h3, ?_⟩
    · rw [heap_put w g off q F os g (Array.getElem?_eq_some_iff.1 hg).1, if_pos rfl, hg]
      rfl
    · apply List.ext_getElem?
      intro j
      rw [List.getElem?_take]
      by_cases hj : j < n * sz
      · rw [if_pos hj, List.getElem?_drop, Array.getElem?_toList, Array.getElem?_toList, putCells, Array.getElem?_mapIdx]
        rw [Array.getElem?_eq_getElem (show off + j < cur.size by omega), Array.getElem?_eq_getElem (show j < F.size by omega), Option.map_some, if_pos (by omega), Nat.add_sub_cancel_left, getElem!_pos F j (by omega)]
        rfl
      · rw [if_neg hj, Array.getElem?_toList, Array.getElem?_eq_none (by omega)]
theorem Grew.putRow (w : World) (g off q : Nat) (F : Array Value) (os : Array Obj) : Grew (fun k => k = g) w (grow (Go.Sort.putRow id (Go.Sort.ahead w q) g off F) os) :=
  ⟨rfl, rfl, rfl, by simp [grow, Go.Sort.putRow, mapBlock, Go.Sort.ahead], fun k hk hn => by rw [heap_put w g off q F os k hk, if_neg (fun e => hn e.symm)]⟩
instance : Inhabited E := ⟨z67⟩
def cmpE (a b : E) : Int := if a.f0 < b.f0 then -1 else 1
theorem lt_cmpE (x y : E) : ltOf cmpE x y = decide (x.f0 < y.f0) := by
  unfold ltOf cmpE
  by_cases h1 : x.f0 < y.f0 <;> simp [h1]
theorem swo_cmpE : SWO (ltOf cmpE) where
  irrefl x := by rw [lt_cmpE]; simp
  trans x y z h1 h2 := by rw [lt_cmpE] at *; simp at *; omega
  ntrans x y z h1 h2 := by rw [lt_cmpE] at *; simp at *; omega
set_option maxHeartbeats 8000000 in
set_option maxRecDepth 100000 in
theorem grants1 (x y : E) (W : World) : Calls Try.prog 102 #[.agg #[.int .i64 x.f0, .int .i64 x.f1], .agg #[.int .i64 y.f0, .int .i64 y.f1]] W fun e w' => e = .returned (.int .i64 (cmpE x y)) ∧ ∃ q os', w' = grow (W.drewN q) os' := by
  have hu67 := Try.underlying67
  by_cases h : x.f0 < y.f0
  · have HE := Aside0.mk (show cmpE x y = -1 from if_pos h)
    have h1 : decide (x.f0 < y.f0) = true := decide_eq_true h
    clear h
    go_enter Try.func102, Try.ntmps102
    go_wp2
    go_ret
    exact ⟨congrArg (fun q : Int => Ending.returned (.int .i64 q)) HE.out.symm, 0, _, by rw [Go.Sort.alloc_eq_grow, Go.Sort.alloc_eq_grow, Go.Sort.grow_grow]; rfl⟩
  · have HE := Aside0.mk (show cmpE x y = 1 from if_neg h)
    have h1 : decide (x.f0 < y.f0) = false := decide_eq_false h
    clear h
    go_enter Try.func102, Try.ntmps102
    go_wp2
    go_ret
    exact ⟨congrArg (fun q : Int => Ending.returned (.int .i64 q)) HE.out.symm, 0, _, by rw [Go.Sort.alloc_eq_grow, Go.Sort.alloc_eq_grow, Go.Sort.grow_grow]; rfl⟩
theorem enters_grants1 : ∀ args w, (callFunc 102 args).run Try.prog w = .ok (.enter 102 args) w := ent_of Try.func102 (by kernel_rfl) rfl
theorem flatK_flat (d : Array E) : (flatK encE 2 d).toList = flat d.toList := by
  apply List.ext_getElem?
  intro t
  by_cases ht : t < d.size * 2
  · have e1 := get_flatK encE 2 d t ht
    rw [Array.getElem?_toList, Array.getElem?_eq_getElem (by rw [size_flatK]; exact ht), ← getElem!_pos (flatK encE 2 d) t (by rw [size_flatK]; exact ht), e1]
    have hl : t / 2 < d.size := by omega
    obtain ⟨f0, f1⟩ := flat_get (l := d.toList) (j := t / 2) (p := d[t / 2]!) (by rw [Array.getElem?_toList, Array.getElem?_eq_getElem hl, getElem!_pos d _ hl])
    rcases Nat.mod_two_eq_zero_or_one t with hm | hm
    · rw [hm, show t = t / 2 * 2 by omega, Nat.mul_div_cancel _ (by omega : 0 < 2), f0]; rfl
    · rw [hm, show t = t / 2 * 2 + 1 by omega, show (t / 2 * 2 + 1) / 2 = t / 2 by omega, f1]; rfl
  · rw [Array.getElem?_toList, Array.getElem?_eq_none (by rw [size_flatK]; omega), List.getElem?_eq_none (by rw [flat_len, Array.length_toList]; omega)]
/-- The rising list that some entries make. -/
theorem SortFunc_ (g off cap : Nat) (l : List E) (w : World) (hR : Row w 67 2 (some ⟨g, off, none⟩) l.length cap (flat l)) (hl : 0 < l.length) (hl2 : l.length ≤ 1000001) :
    Calls Try.prog 101 #[.slice (some ⟨g, off, none⟩) l.length cap, .func (.func 102) #[] #[]] w fun e w' =>
      e = .returned (.tuple #[]) ∧ ∃ l', l'.Perm l ∧ l'.Pairwise (fun a b => ¬ b.f0 < a.f0) ∧ Row w' 67 2 (some ⟨g, off, none⟩) l'.length cap (flat l') ∧ Grew (fun k => k = g) w w' := by
  obtain ⟨g', off', cur, h0, hg, hsz, hcell⟩ := hR.at_ hl
  cases h0
  have hlt : g < w.heap.size := (Array.getElem?_eq_some_iff.1 hg).1
  have hH : HoldsK encE 2 w g off l.toArray := fun j hj => by
    rw [size_flatK] at hj
    have e1 : (flat l)[j]? = some ((flatK encE 2 l.toArray)[j]!) := by
      rw [← show (flatK encE 2 l.toArray).toList = flat l from flatK_flat l.toArray, Array.getElem?_toList, Array.getElem?_eq_getElem (by rw [size_flatK]; exact hj), getElem!_pos _ j (by rw [size_flatK]; exact hj)]
    exact hcell j _ e1
  have hsz2 : l.toArray.size < 4611686018427387904 := by simp; omega
  have hc := AnyQ.slices_SortFunc sortE 2 Try.isAgg67 Try.sizeOf67 encE (fun _ => rfl) encE_one cmpE swo_cmpE 102 #[] g off cap l.toArray w enters_grants1 (fun _ _ _ _ x y => grants1 x y _) hH hlt hsz2
  refine Calls.mono hc ?_
  rintro e w' ⟨he, d', n, os, hp, hs, rfl⟩
  have hsd : d'.size = l.length := by have := hp.1; simpa using this
  have ext : ∀ d : Array E, (d.extract 0 d.size).toList = d.toList := fun d => by simp
  refine ⟨he, d'.toList, ?_, ?_, ?_, ?_⟩
  · have h2 := hp.2.2
    rw [show l.toArray.size = d'.size by simp [hsd], ext] at h2
    rw [show d'.size = l.toArray.size by simp [hsd], ext] at h2
    exact h2
  · rw [List.pairwise_iff_getElem]
    intro i j hi hj hij
    have h2 := hs i j (Nat.zero_le _) hij (by simp at hj ⊢; omega)
    rw [lt_cmpE] at h2
    have h3 := of_decide_eq_false h2
    simp at hi hj
    rw [getElem!_pos d' i hi, getElem!_pos d' j hj] at h3
    simpa using h3
  · rw [Array.length_toList, hsd, ← flatK_flat]
    exact hR.putRow n (flatK encE 2 d') (by rw [size_flatK, hsd]) os
  · exact Grew.putRow w g off n (flatK encE 2 d') os
end Go.Proofs.Ytagdgkimjgomlaa.Ln
