/- The chapter's examples: what 'first' answers. -/
import Derived.Test.YtagdgkimjgomlaaLn13
namespace Go.Proofs.Ytagdgkimjgomlaa.Ln
open Go.RowKit Go.Proofs.YtagdgkimjgomlaaW.PrintWords Go.Proofs.YtagdgkimjgomlaaW.PrintLast Go.Proofs.YtagdgkimjgomlaaW.PrintMore Go.Proofs.Ytagdgkimjgomlaa.PMd
set_option linter.unusedVariables false
set_option linter.unusedSimpArgs false
theorem f1 : askIn [] [] 1 3 = (1, [⟨1, 3⟩], []) := by kernel_rfl
theorem f2 : askIn [⟨1, 3⟩] [] 2 3 = (1, [⟨1, 3⟩, ⟨2, 3⟩], []) := by kernel_rfl
theorem f3 : askIn [⟨1, 3⟩, ⟨2, 3⟩] [] 1 5 = (2, [⟨1, 3⟩, ⟨2, 3⟩], [⟨1, 5⟩]) := by kernel_rfl
theorem f4 : askIn [⟨1, 3⟩, ⟨2, 3⟩] [⟨1, 5⟩] 2 5 = (2, [⟨1, 3⟩, ⟨2, 3⟩], [⟨1, 5⟩, ⟨2, 5⟩]) := by kernel_rfl
theorem sortedI_of {l : List Int} (h : l.Pairwise (· ≤ ·)) : sortedI l = l := by
  unfold sortedI
  exact List.mergeSort_of_pairwise (h.imp (fun h => by simpa using h))
theorem f5 : blocksIn [⟨1, 3⟩, ⟨2, 3⟩] [⟨1, 5⟩, ⟨2, 5⟩] 1 = [2] := by
  have e : blocksAt [⟨1, 3⟩, ⟨2, 3⟩] [⟨1, 5⟩, ⟨2, 5⟩] 1 0 = [2] := by kernel_rfl
  have i : ix (fun x => x.f0 == 1) ([⟨1, 5⟩, ⟨2, 5⟩] : List E) = 0 := by kernel_rfl
  unfold blocksIn
  rw [i, if_neg (by decide)]
  show Lib.compact (sortedI (blocksAt _ _ 1 0)) = _
  rw [e, sortedI_of (by simp)]
  kernel_rfl
theorem f6 : blocksIn [⟨1, 3⟩, ⟨2, 3⟩] [⟨1, 5⟩, ⟨2, 5⟩] 2 = [1] := by
  have e : blocksAt [⟨1, 3⟩, ⟨2, 3⟩] [⟨1, 5⟩, ⟨2, 5⟩] 2 1 = [1, 1] := by kernel_rfl
  have i : ix (fun x => x.f0 == 2) ([⟨1, 5⟩, ⟨2, 5⟩] : List E) = 1 := by kernel_rfl
  unfold blocksIn
  rw [i, if_neg (by decide)]
  show Lib.compact (sortedI (blocksAt _ _ 2 1)) = _
  rw [e, sortedI_of (by simp)]
  kernel_rfl
theorem run_ptr_nil {P : Program} (w : World) (t : TypeId) : True := trivial
set_option maxHeartbeats 8000000 in
set_option maxRecDepth 100000 in
theorem first_ (w0 w : World) (hb0 : Below w0.heap.size w0 w) : Calls Try.prog 42 #[] w fun e w' => e = .returned (.bool true) ∧ Below w.heap.size w w' := by
  go_enter Try.func42, Try.ntmps42
  go_wp2_with fail
  refine (New_L w w (Below.refl _ _)).mono ?_
  rintro e w1 ⟨rfl, hL1, hb1⟩
  have HL1 := Aside0.mk hL1
  clear hL1 hb1 hb0
  go_wp2_with fail
  refine (Empty_L HL1.out).mono ?_
  rintro e w2 ⟨rfl, hL2, _⟩
  have HL2 := Aside0.mk hL2
  clear hL2
  go_wp2_with fail
  have hA := Ask_L 1 3 HL2.out (by simp) (by simp)
  rw [f1] at hA
  refine hA.mono ?_
  clear hA
  rintro e w3 ⟨rfl, hL3⟩
  have HL3 := Aside0.mk hL3
  clear hL3 HL2
  go_wp2_with fail
  have hA := Ask_L 2 3 HL3.out (by simp) (by simp)
  rw [f2] at hA
  refine hA.mono ?_
  clear hA
  rintro e w4 ⟨rfl, hL4⟩
  have HL4 := Aside0.mk hL4
  clear hL4 HL3
  go_wp2_with fail
  have hA := Ask_L 1 5 HL4.out (by simp) (by simp)
  rw [f3] at hA
  refine hA.mono ?_
  clear hA
  rintro e w5 ⟨rfl, hL5⟩
  have HL5 := Aside0.mk hL5
  clear hL5 HL4
  go_wp2_with fail
  have hA := Ask_L 2 5 HL5.out (by simp) (by simp)
  rw [f4] at hA
  refine hA.mono ?_
  clear hA
  rintro e w6 ⟨rfl, hL6⟩
  have HL6 := Aside0.mk hL6
  clear hL6 HL5
  go_wp2_with fail
  have hA := Blocks_L 1 HL6.out (by simp) (by simp)
  rw [f5] at hA
  refine hA.mono ?_
  clear hA
  rintro e w7 ⟨A7, c7, rfl, hK, hc, hL, _⟩
  have HL7 := Aside0.mk (hL.alloc (.cells #[.int .i64 2] 3))
  have HI := Aside0.mk (Ints_same A7 c7 [2] (some ⟨w7.heap.size, 0, none⟩) 1 (w7.alloc (.cells #[.int .i64 2] 3)) (Kd.C_alloc hK _) hc (slice_one 2) (Nat.le_refl _) (by simp))
  clear hK hc hL HL6
  go_wp2_with fail
  refine HI.out.mono ?_
  rintro e w8 ⟨rfl, hd⟩
  obtain ⟨n8, rfl⟩ := hd.out
  have HL8 := Aside0.mk (HL7.out.below (pw_below_drewN (Below.refl _ _) n8))
  clear HL7 HI hd
  go_wp2_with fail
  have hA := Blocks_L 2 HL8.out (by simp) (by simp)
  rw [f6] at hA
  refine hA.mono ?_
  clear hA
  rintro e w9 ⟨A9, c9, rfl, hK, hc, hL, _⟩
  have HL9 := Aside0.mk (hL.alloc (.cells #[.int .i64 1] 3))
  have HI := Aside0.mk (Ints_same A9 c9 [1] (some ⟨w9.heap.size, 0, none⟩) 1 (w9.alloc (.cells #[.int .i64 1] 3)) (Kd.C_alloc hK _) hc (slice_one 1) (Nat.le_refl _) (by simp))
  clear hK hc hL HL8
  go_wp2_with fail
  refine HI.out.mono ?_
  rintro e w10 ⟨rfl, hd⟩
  obtain ⟨n10, rfl⟩ := hd.out
  have HL10 := Aside0.mk (HL9.out.below (pw_below_drewN (Below.refl _ _) n10))
  clear HL9 HI hd
  go_wp2_with fail
  go_ret
  exact ⟨rfl, HL10.out.2.2⟩
end Go.Proofs.Ytagdgkimjgomlaa.Ln
