/- Whole numbers in a row of their own: sorted, each once. -/
import Derived.Test.YtagdgkimjgomlaaLn10
import Derived.Test.YtagdgkimjgomlaaLnSortI
import Derived.Shelf.Slices.In.SortNone
namespace Go.Proofs.Ytagdgkimjgomlaa.Ln
open Go.RowKit Go.Proofs.YtagdgkimjgomlaaW.PrintWords Go.Proofs.YtagdgkimjgomlaaW.PrintLast Go.Proofs.YtagdgkimjgomlaaW.PrintMore Go.Proofs.Ytagdgkimjgomlaa.PMd
open Go.Sort (putRow putCells mapBlock onCells grow Holds)
set_option linter.unusedVariables false
set_option linter.unusedSimpArgs false
theorem putRow_ints (w : World) (g off : Nat) (d : Array Int) : putRow (Value.int .i64) w g off d = putRow id w g off (ints d.toList).toArray := by
  unfold putRow
  congr 1
  funext c
  unfold putCells
  congr 1
  funext k x
  simp only [List.size_toArray, ints, List.length_map, Array.length_toList]
  by_cases h : off ≤ k ∧ k < off + d.size
  · rw [if_pos h, if_pos h, getElem!_pos d (k - off) (by omega), getElem!_pos _ (k - off) (by simp; omega)]
    simp
  · rw [if_neg h, if_neg h]
theorem holds_ints {w : World} {g off n cap : Nat} {l : List Int} (h : Row w 3 1 (some ⟨g, off, none⟩) n cap (ints l)) (hn : l.length = n) : Holds (Value.int .i64) w g off l.toArray := by
  intro j hj
  have hj' : j < l.length := by simpa using hj
  obtain ⟨g', off', cur, e, _, _, hc⟩ := h.at_ (by omega)
  cases e
  have := hc j (.int .i64 (l.toArray[j]!)) (by
    rw [getElem!_pos _ j hj]
    simp [ints, List.getElem?_map, List.getElem?_eq_getElem hj'])
  exact this
theorem ints_len (l : List Int) : (ints l).length = l.length := by simp [ints]
def sortedI (l : List Int) : List Int := l.mergeSort fun x y => decide (x ≤ y)
theorem Sort_ (A : Option Addr) (cap : Nat) (l : List Int) (w : World) (hR : Row w 3 1 A l.length cap (ints l)) (hl : l.length ≤ 1000000) :
    Calls Try.prog 83 #[.slice A l.length cap] w fun e w' => e = .returned (.tuple #[]) ∧ Row w' 3 1 A l.length cap (ints (sortedI l)) ∧ Grew (blk A) w w' := by
  by_cases h0 : l.length = 0
  · obtain rfl : l = [] := List.eq_nil_of_length_eq_zero h0
    exact (Any.slices_Sort_int_none sortI A cap w).mono fun e w' ⟨h1, h2⟩ => ⟨h1, by rw [h2, show sortedI [] = [] from by simp [sortedI]]; exact hR, by rw [h2]; exact Grew.refl _ _⟩
  · obtain ⟨g, off, cur, rfl, hg, _, _⟩ := hR.at_ (by omega)
    refine (Any.slices_Sort_int sortI g off cap l w (holds_ints hR rfl) (Array.getElem?_eq_some_iff.1 hg).1 (by omega)).mono ?_
    rintro e w' ⟨he, n, os, rfl⟩
    refine ⟨he, ?_, ?_⟩
    · rw [putRow_ints]
      exact hR.putRow n _ (by simp [ints_len]) os
    · rw [putRow_ints]
      exact (Grew.putRow w g off n _ os).mono (fun i _ h => ⟨_, rfl, h.symm⟩)
theorem compact_le (l : List Int) : (Lib.compact l).length ≤ l.length := by
  unfold Lib.compact Lib.compactUpTo
  rw [List.length_map]
  exact Nat.le_trans (List.length_filter_le _ _) (by simp)
theorem Compact_ (A : Option Addr) (cap : Nat) (l : List Int) (w : World) (hR : Row w 3 1 A l.length cap (ints l)) (hl : l.length ≤ 1000000) :
    Calls Try.prog 84 #[.slice A l.length cap] w fun e w' => e = .returned (.slice A (Lib.compact l).length cap) ∧ Row w' 3 1 A (Lib.compact l).length cap (ints (Lib.compact l)) ∧ Grew (blk A) w w' := by
  by_cases h0 : l.length = 0
  · obtain rfl : l = [] := List.eq_nil_of_length_eq_zero h0
    exact (Any.slices_Compact_int_empty compI A cap w).mono fun e w' ⟨h1, h2⟩ => ⟨h1, by rw [h2]; exact hR, by rw [h2]; exact Grew.refl _ _⟩
  · obtain ⟨g, off, cur, rfl, hg, _, _⟩ := hR.at_ (by omega)
    refine (Any.slices_Compact_int compI g off cap l w (holds_ints hR rfl) (by omega) hR.2.1).mono ?_
    rintro e w' ⟨he, n, rfl⟩
    have hlen := compact_le l
    have hsz : (ints (Lib.compact l ++ List.replicate (l.length - (Lib.compact l).length) 0)).length = l.length := by rw [ints_len]; simp; omega
    have hr := hR.putRow n (ints (Lib.compact l ++ List.replicate (l.length - (Lib.compact l).length) 0)).toArray (by simpa using hsz) #[]
    rw [Go.Sort.grow_empty] at hr
    have hg2 := Grew.putRow w g off n (ints (Lib.compact l ++ List.replicate (l.length - (Lib.compact l).length) 0)).toArray #[]
    rw [Go.Sort.grow_empty] at hg2
    refine ⟨he, ?_, ?_⟩
    · rw [putRow_ints]
      have h3 := hr.upto (Lib.compact l).length hlen
      have e3 : (ints (Lib.compact l ++ List.replicate (l.length - (Lib.compact l).length) 0)).take ((Lib.compact l).length * 1) = ints (Lib.compact l) := by
        simp [ints, List.take_left' (List.length_map ..)]
      rw [← e3]
      exact h3
    · rw [putRow_ints]
      exact hg2.mono (fun i _ h => ⟨_, rfl, h.symm⟩)
end Go.Proofs.Ytagdgkimjgomlaa.Ln
