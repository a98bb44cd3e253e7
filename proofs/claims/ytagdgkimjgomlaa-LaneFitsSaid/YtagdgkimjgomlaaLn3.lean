/- A lane in memory: who fits, how many conversions wait. -/
import Derived.Test.YtagdgkimjgomlaaLn2
namespace Go.Proofs.Ytagdgkimjgomlaa.Ln
open Go.RowKit Go.Proofs.YtagdgkimjgomlaaW.PrintWords Go.Proofs.YtagdgkimjgomlaaW.PrintLast Go.Proofs.YtagdgkimjgomlaaW.PrintMore Go.Proofs.Ytagdgkimjgomlaa.PMd
set_option linter.unusedVariables false
set_option linter.unusedSimpArgs false
theorem fits1.pred (who t : Int) (g g2 : Nat) (w : World) (hc : w.cell? ⟨g, 0, none⟩ = some (.int .i64 who)) (hc2 : w.cell? ⟨g2, 0, none⟩ = some (.int .i64 t)) :
    Pred 100 #[.pointer (some ⟨g, 0, none⟩), .pointer (some ⟨g2, 0, none⟩)] (fun x => !(x.f0 == who) && !fitsM x.f1 t) w :=
  fun W x hb => fits1 x who t g g2 W (cell_be hc hb) (cell_be hc2 hb)
set_option maxHeartbeats 8000000 in
set_option maxRecDepth 100000 in
theorem fits_ (w : World) (b : Nat) (F : Nat → Prop) (hs qs : List E) (who t : Int) (hI : IsLane w b F hs qs) :
    Calls Try.prog 75 #[.pointer (some ⟨b, 0, none⟩), .int .i64 who, .int .i64 t] w fun e w' => e = .returned (.bool (fitsAll hs who t)) ∧ Below w.heap.size w w' := by
  have hu := Try.underlying105
  obtain ⟨hA, hc, qA, qc, c0, c1, l0, l1, r0, r1⟩ := hI.open_
  have HL := Aside0.mk l0
  have HR := Aside0.mk r0
  have c2 := cell_al (cell_al c0 (.cells #[.int .i64 who] 3)) (.cells #[.int .i64 t] 3)
  have b1 := blk_alloc (blk_new w (.cells #[.int .i64 who] 3)) (.cells #[.int .i64 t] 3)
  have b2 := blk_new (w.alloc (.cells #[.int .i64 who] 3)) (.cells #[.int .i64 t] 3)
  rw [show (w.alloc (.cells #[.int .i64 who] 3)).heap.size = w.heap.size + 1 from by simp] at b2
  have B1 := Aside0.mk b1
  have B2 := Aside0.mk b2
  have HB := Aside0.mk (below_alloc (below_alloc (Below.refl w.heap.size w) (.cells #[.int .i64 who] 3)) (.cells #[.int .i64 t] 3))
  clear hI r0 r1 l0 l1 c1 c0 b1 b2
  go_enter Try.func75, Try.ntmps75
  go_wp2_with fail
  refine (containsFunc _ _ _ enters_fits1 hA hc hs _ (Kd.C_below HR.out HB.out) HL.out (fits1.pred who t w.heap.size (w.heap.size + 1) _ ((blk_cell B1.out 0).trans rfl) ((blk_cell B2.out 0).trans rfl))).mono ?_
  rintro e w3 ⟨rfl, hb⟩
  have HB3 := Aside0.mk (below_then HB.out HB.out.size hb)
  clear hb
  go_wp2
  go_ret
  exact ⟨rfl, HB3.out⟩
/-- How many of those that wait hold something. -/
def convs (hs qs : List E) : Nat := (qs.takeWhile fun x => toldIn hs x.f0 != 0).length
theorem convs_step {hs qs : List E} {n : Nat} (hn : n < qs.length) (ha : ∀ i, i < n → (toldIn hs (qs.getD i z67).f0 != 0) = true) (h : (toldIn hs (qs.getD n z67).f0 != 0) = false) : convs hs qs = n := by
  unfold convs
  induction qs generalizing n with
  | nil => simp at hn
  | cons x qs ih =>
    cases n with
    | zero => rw [List.takeWhile_cons, if_neg (by simpa using h)]; rfl
    | succ n =>
      have h0 := ha 0 (by omega)
      rw [List.takeWhile_cons, if_pos (by simpa using h0), List.length_cons, ih (n := n) (by simpa using hn) (fun i hi => by simpa using ha (i + 1) (by omega)) (by simpa using h)]
theorem convs_all {hs qs : List E} (ha : ∀ i, i < qs.length → (toldIn hs (qs.getD i z67).f0 != 0) = true) : convs hs qs = qs.length := by
  unfold convs
  induction qs with
  | nil => rfl
  | cons x qs ih =>
    have h0 := ha 0 (by simp)
    rw [List.takeWhile_cons, if_pos (by simpa using h0), List.length_cons, List.length_cons, ih (fun i hi => by simpa using ha (i + 1) (by simpa using hi))]
set_option maxHeartbeats 8000000 in
set_option maxRecDepth 100000 in
theorem conversions_ (w : World) (b : Nat) (F : Nat → Prop) (hs qs : List E) (hI : IsLane w b F hs qs) :
    Calls Try.prog 74 #[.pointer (some ⟨b, 0, none⟩)] w fun e w' => e = .returned (.int .i64 (convs hs qs : Nat)) ∧ Below w.heap.size w w' := by
  have hu := Try.underlying105
  have hu67 := Try.underlying67
  have HI := Aside0.mk hI
  have hq63 : qs.length ≤ 9223372036854775807 := by obtain ⟨_, _, _, _, _, _, _, _, _, r1⟩ := hI.open_; exact r1.2.1
  clear hI
  go_enter Try.func74, Try.ntmps74
  go_wp2_with fail
  go_loopg [3] qs.length (fun gg v wr => ∃ n : Nat, n ≤ qs.length ∧ qs.length - n ≤ gg ∧ v = .int .i64 n ∧ Aside0 (∀ i : Nat, i < n → (toldIn hs (qs.getD i z67).f0 != 0) = true) ∧ Aside0 (Below w.heap.size w wr))
  case atStart => exact ⟨0, by omega, by omega, rfl, ⟨fun i hi => by omega⟩, ⟨Below.refl _ _⟩⟩
  case round =>
    obtain ⟨n, hn, hgg, rfl, HA, HB⟩ := hrel
    have HI2 := Aside0.mk (HI.out.below HB.out)
    obtain ⟨hA, hc, qA, qc, c0, c1, l0, l1, r0, r1⟩ := HI2.out.open_
    by_cases hlt : n < qs.length
    · obtain ⟨ad, rfl, q0, q1⟩ := at_T67 r1 (n : Int) (by omega) (by omega)
      have p1 : 0 ≤ (n : Int) := by omega
      have p2 : (n : Int) < qs.length := by omega
      have p3 : decide (n < qs.length) = true := decide_eq_true hlt
      have hrd : rd_T67 qs n = qs.getD n z67 := by simp [rd_T67]
      simp only [Int.toNat_natCast, hrd] at q0 q1
      clear hrd r0 r1 l0 l1
      have HH := Aside0.mk (Holds_ wr b F hs qs (qs.getD n z67).f0 HI2.out)
      generalize hy : qs.getD n z67 = y at q0 q1 HH
      have HY := Aside0.mk hy
      clear hy
      by_cases hq : toldIn hs y.f0 = 0
      · have hq1 : (toldIn hs y.f0 != 0) = false := bne_eq_false_iff_eq.2 hq
        have HF := Aside0.mk (convs_step hlt HA.out (by rw [HY.out]; exact hq1))
        clear hq
        go_wp2_with fail
        refine HH.out.mono ?_
        rintro e w3 ⟨rfl, hb⟩
        have HB3 := Aside0.mk (below_then HB.out HB.out.size hb)
        clear hb
        go_wp2
        go_ret
        exact ⟨congrArg (fun q : Nat => Ending.returned (.int .i64 (q : Int))) HF.out.symm, HB3.out⟩
      · have hq1 : (toldIn hs y.f0 != 0) = true := bne_iff_ne.2 hq
        have HA1 := Aside0.mk (show ∀ i : Nat, i < n + 1 → (toldIn hs (qs.getD i z67).f0 != 0) = true from fun i hi => by
          by_cases e : i = n
          · rw [e, HY.out]; exact hq1
          · exact HA.out i (by omega))
        clear hq HA
        go_wp2_with fail
        refine HH.out.mono ?_
        rintro e w3 ⟨rfl, hb⟩
        have HB3 := Aside0.mk (below_then HB.out HB.out.size hb)
        clear hb
        go_wp2
        go_roundg (qs.length - (n + 1))
        case measure => omega
        case rel => exact ⟨n + 1, by omega, by omega, by go_num, HA1, HB3⟩
    · have HF := Aside0.mk (convs_all (hs := hs) (qs := qs) (fun i hi => HA.out i (by omega)))
      have p3 : decide (n < qs.length) = false := decide_eq_false hlt
      obtain rfl : n = qs.length := by omega
      clear r0 r1 l0 l1 HA
      go_wp2
      go_ret
      exact ⟨congrArg (fun q : Nat => Ending.returned (.int .i64 (q : Int))) HF.out.symm, HB.out⟩
end Go.Proofs.Ytagdgkimjgomlaa.Ln
