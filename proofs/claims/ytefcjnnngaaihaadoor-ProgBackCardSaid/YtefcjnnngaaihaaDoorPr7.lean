import Derived.Test.YtefcjnnngaaihaaDoorPr6
/- What the chapter's examples fix. -/
namespace Go.Proofs.YtefcjnnngaaihaaDoor.Pg
open Go.RowKit Go.Proofs.Pg Go.Proofs.YtefcjnnngaaihaaDoor.Ln Go.Proofs.YtefcjnnngaaihaaDoorW.PrintWords Go.Proofs.YtefcjnnngaaihaaDoorW.PrintWords.Kd Go.Proofs.YtefcjnnngaaihaaDoor.PPg
set_option linter.unusedVariables false
set_option linter.unusedSimpArgs false

def goodL : List UInt8 := [106, 117, 109, 112, 32, 48, 32, 48]
def badL : List UInt8 := [106, 117, 109, 112, 32, 48, 32, 32, 48]
theorem itoa0 : Lib.itoa 0 = [48] := by
  unfold Lib.itoa; rw [if_neg (by omega)]; exact Lib.decDigits_one (i := 0) (by omega)
theorem good_line : lineB { k := 5 } = goodL := by
  simp [lineB, Pg.nums, word, itoa0, Lib.join, List.intercalate, List.intersperse, goodL]
theorem good_read : readB goodL = ({ k := 5 }, true) := by
  have h := read_line { k := 5 } (by decide) (by unfold I64; decide) (by unfold I64; decide) (by unfold I64; decide) (by simp)
  rw [good_line] at h
  exact h
theorem bad_read : (readB badL).2 = false := by decide +kernel
theorem good_parse : parseB [goodL] = some [{ k := 5 }] := by simp [parseB, good_read]
theorem bad_parse : parseB [badL] = none := by simp [parseB, bad_read]
theorem str_one {w : World} {g : Nat} {b : ByteArray} (h : w.heap[g]? = some (.cells #[.string b] 9 (0, 0))) : Kd.string.C w (some ⟨g, 0, none⟩) [b].length [b] := by
  refine ⟨rfl, by simp, fun _ => ⟨_, rfl, fun j p hj => ⟨[.string p], rfl, rfl, fun i u hu => ?_⟩⟩⟩
  rw [Addr.add_lit, Nat.zero_add, blk_cell h]
  have hj0 : j = 0 := by
    have := (List.getElem?_eq_some_iff.1 hj).1; simp at this; exact this
  subst hj0
  have hi0 : i = 0 := by
    have := (List.getElem?_eq_some_iff.1 hu).1; simp at this; exact this
  subst hi0
  have e1 : b = p := by
    have h5 : ([b] : List ByteArray)[0]? = some p := hj
    injection h5
  have e2 : Value.string p = u := by
    have h5 : ([Value.string p] : List Value)[0]? = some u := hu
    injection h5
  subst e1; subst e2; rfl
def smallC : Value := .agg #[.int .i64 2, .int .i64 2, .int .i64 2, .int .i64 2, .int .i64 1, .int .i64 0, .int .i64 4, .int .i64 9, .int .i64 9, .int .i64 0, .int .i64 9, .int .i64 0]
set_option maxRecDepth 100000 in
theorem small_ (w : World) : Calls Tryd.prog 10 #[] w fun e w' => e = .returned smallC ∧ Below w.heap.size w w' := by
  have hu := Tryd.underlying30
  go_enter Tryd.func10, Tryd.ntmps10
  go_wp2
  (try simp only [Exit.inBlock, Exit.then])
  refine bodyPost_ret (results_cell_row rfl _ _ w.heap.size 30 #[.int .i64 2, .int .i64 2, .int .i64 2, .int .i64 2, .int .i64 1, .int .i64 0, .int .i64 4, .int .i64 9, .int .i64 9, .int .i64 0, .int .i64 9, .int .i64 0] (0, 0) _ rfl (heap_alloc_new _ _) hu rfl (by kernel_rfl)) rfl ?_
  exact ⟨rfl, below_alloc (Below.refl _ _) _⟩
theorem check_good : prog_Check.f 10 2 2 2 2 1 0 4 9 9 0 9 0 [toS { k := 5 }] = some 2 := by kernel_rfl
set_option maxHeartbeats 4000000 in
set_option maxRecDepth 100000 in
theorem first_ (w : World) (hE : Env w) : Calls Tryd.prog 8 #[] w fun e w' => e = .returned (.bool true) ∧ Below w.heap.size w w' := by
  have HE := Aside0.mk hE
  clear hE
  have b1 := below_alloc (Below.refl w.heap.size w) (.cells #[.string ⟨goodL.toArray⟩] 9)
  have HP1 := Aside0.mk (Parse_ (some ⟨w.heap.size, 0, none⟩) 1 [⟨goodL.toArray⟩] (w.alloc (.cells #[.string ⟨goodL.toArray⟩] 9)) (HE.out.below b1) (str_one (heap_alloc_new _ _)) (by simp) (by simp) (by intro s hs; simp at hs; subst hs; decide))
  have HB1 := Aside0.mk b1
  clear b1
  go_enter Tryd.func8, Tryd.ntmps8
  go_wp2_with fail
  refine HP1.out.mono ?_
  rintro e w1 ⟨hp, hb⟩
  rw [show ([(⟨goodL.toArray⟩ : ByteArray)].map (·.data.toList)) = [goodL] from rfl, good_parse] at hp
  obtain ⟨A, c, rfl, hc, hC⟩ := hp
  have HC := Aside0.mk hC
  have HCL := Aside0.mk hc
  have b2 := below_then HB1.out HB1.out.size hb
  have b3 := below_alloc b2 (.cells #[.string ⟨badL.toArray⟩] 9)
  have HB2 := Aside0.mk b2
  have HB3 := Aside0.mk b3
  have HP2 := Aside0.mk (Parse_ (some ⟨w1.heap.size, 0, none⟩) 1 [⟨badL.toArray⟩] (w1.alloc (.cells #[.string ⟨badL.toArray⟩] 9)) (HE.out.below b3) (str_one (heap_alloc_new _ _)) (by simp) (by simp) (by intro s hs; simp at hs; subst hs; decide))
  clear hb hc hC b2 b3
  go_wp2_with fail
  refine HP2.out.mono ?_
  rintro e w2 ⟨hp, hb⟩
  rw [show ([(⟨badL.toArray⟩ : ByteArray)].map (·.data.toList)) = [badL] from rfl, bad_parse] at hp
  obtain rfl : e = _ := hp
  have HB4 := Aside0.mk (below_then HB3.out HB3.out.size hb)
  have HC4 := Aside0.mk (C_below HC.out (((below_alloc (Below.refl w1.heap.size w1) (.cells #[.string ⟨badL.toArray⟩] 9)).trans (Below.low hb (by simp)))))
  clear hb
  go_wp2_with fail
  refine (small_ _).mono ?_
  rintro e w3 ⟨rfl, hb⟩
  unfold smallC
  have HB5 := Aside0.mk (below_then HB4.out HB4.out.size hb)
  have HK := Aside0.mk (prog_Check.calls 10 2 2 2 2 1 0 4 9 9 0 9 0 A c [toS { k := 5 }] 2 w3 (C_below HC4.out hb) HCL.out check_good)
  clear hb
  go_wp2_with fail
  refine HK.out.mono ?_
  rintro e w4 ⟨rfl, hb⟩
  have HB6 := Aside0.mk (below_then HB5.out HB5.out.size hb)
  clear hb
  go_wp2
  go_ret
  exact ⟨rfl, HB6.out⟩
end Go.Proofs.YtefcjnnngaaihaaDoor.Pg
