/- Copies of a lane's lists. -/
import Derived.Test.YtagdgkimjgomlaaLn3
import Derived.Lib.SliceRun
namespace Go.Proofs.Ytagdgkimjgomlaa.Ln
open Go.RowKit Go.Proofs.YtagdgkimjgomlaaW.PrintWords Go.Proofs.YtagdgkimjgomlaaW.PrintLast Go.Proofs.YtagdgkimjgomlaaW.PrintMore Go.Proofs.Ytagdgkimjgomlaa.PMd
set_option linter.unusedVariables false
set_option linter.unusedSimpArgs false
theorem flat_append (a b : List E) : flat (a ++ b) = flat a ++ flat b := by simp [flat]
theorem flat_one (l : List E) : ∀ u ∈ flat l, u.oneCell' = true := by
  intro u hu
  simp only [flat, List.mem_flatMap, encE, List.mem_cons, List.not_mem_nil, or_false] at hu
  obtain ⟨x, _, rfl | rfl⟩ := hu <;> rfl
theorem Row.cells {w : World} {e sz : Nat} {A : Option Addr} {n c : Nat} {xs : List Value} (h : Row w e sz A n c xs) {ad : Addr} (ha : A = some ad) : ∀ j u, xs[j]? = some u → w.cell? (ad.add j) = some u := by
  intro j u hu
  subst ha
  by_cases hn : 0 < n
  · obtain ⟨g, off, cur, h1, _, _, h2⟩ := h.at_ hn
    cases h1
    rw [Addr.add_lit]
    exact (h2 j u hu).1
  · have h0 : xs.length = 0 := by rw [h.1, show n = 0 from by omega, Nat.zero_mul]
    rw [List.eq_nil_of_length_eq_zero h0] at hu
    simp at hu
set_option maxHeartbeats 8000000 in
set_option maxRecDepth 100000 in
theorem Clone_ (A : Option Addr) (c : Nat) (l : List E) (w : World) (hR : Row w 67 2 A l.length c (flat l)) (hl : l.length ≤ 1000000) :
    Calls Try.prog 79 #[.slice A l.length c] w fun e w' => ∃ A' c', e = .returned (.slice A' l.length c') ∧ Row w' 67 2 A' l.length c' (flat l) ∧ (∀ k, blk A' k → w.heap.size ≤ k) ∧ Below w.heap.size w w' := by
  have hu := Try.underlying67
  have HR := Aside0.mk hR
  have HL := Aside0.mk hl
  have q64 : ∀ (w : World) (a : Option Addr) (n c n' c' : Nat), (binOp .eql 64 (.slice a n c) (.slice none n' c')).run Try.prog w = .ok (.bool a.isNone) w := fun w a n c n' c' => Lib.run_eql_slice_nil w _ _ a n c n' c' Try.underlying64
  cases A with
  | none =>
    obtain ⟨rfl, rfl⟩ : l = [] ∧ c = 0 := by
      rcases hR.2.2.2 with ⟨_, h⟩ | ⟨g, off, cur, h, _⟩
      · have := hR.2.1; exact ⟨List.eq_nil_of_length_eq_zero (by omega), h⟩
      · cases h
    clear hR hl
    go_enter Try.func79, Try.ntmps79
    go_wp2
    go_ret
    exact ⟨none, 0, rfl, Row.zero _ _ _, fun k hk => (blk_none hk).elim, Below.refl _ _⟩
  | some ad =>
    clear hR
    go_enter Try.func79, Try.ntmps79
    go_wp2_with (at_builtin; refine wpList_append_info rfl _ _ 64 rfl 67 _ 2 16 Try.underlying64 info67 rfl _ 0 0 [] rfl ?r0 ad l.length c (flat l) rfl ?r1 ?r2 ?r3 ?r4 ?r5 ?_)
    case r0 => exact ⟨by simp, Nat.le_refl _, Nat.zero_le _, .inr ⟨_, 0, _, rfl, blk_new w _, by simp, by simp⟩⟩
    case r1 => exact flat_len l
    case r2 => exact fun j u hu => cell_al (HR.out.cells rfl j u hu) _
    case r3 => exact flat_one l
    case r4 => have := HL.out; unfold maxLen; omega
    case r5 => have := HL.out; omega
    intro A' c' w1 hR1 hG1 hB1
    have HG := Aside0.mk (hG1.to_below (below_alloc (Below.refl w.heap.size w) (.cells #[] 67)) (by simp) (fun k ⟨a, h, e⟩ => by cases h; exact Nat.le_of_eq e))
    have HR1 := Aside0.mk hR1
    have HB1 := Aside0.mk hB1
    clear hR1 hG1 hB1
    go_wp2
    go_ret
    exact ⟨A', c', by simp, by simpa using HR1.out, fun k hk => (HB1.out k hk).elim (fun ⟨a, h, e⟩ => by cases h; exact Nat.le_of_eq e) (fun h => by have h2 : w.heap.size + 1 ≤ k := (by simpa using h); omega), HG.out⟩
set_option maxHeartbeats 8000000 in
set_option maxRecDepth 100000 in
theorem Holders_ (w : World) (b : Nat) (F : Nat → Prop) (hs qs : List E) (hI : IsLane w b F hs qs) (hl : hs.length ≤ 1000000) :
    Calls Try.prog 51 #[.pointer (some ⟨b, 0, none⟩)] w fun e w' => ∃ A' c', e = .returned (.slice A' hs.length c') ∧ Row w' 67 2 A' hs.length c' (flat hs) ∧ (∀ k, blk A' k → w.heap.size ≤ k) ∧ Below w.heap.size w w' := by
  have hu := Try.underlying105
  obtain ⟨hA, hc, qA, qc, h1, h2, h3, h4, h5, h6, h7⟩ := hI
  have c0 : w.cell? ⟨b, 0, none⟩ = some (.slice hA hs.length hc) := (blk_cell h1 0).trans rfl
  have c1 : w.cell? ⟨b, 1, none⟩ = some (.slice qA qs.length qc) := (blk_cell h1 1).trans rfl
  have HC := Aside0.mk (Clone_ hA hc hs w h3 hl)
  clear h1 h2 h3 h4 h5 h6 h7 hl
  go_enter Try.func51, Try.ntmps51
  go_wp2_with fail
  refine HC.out.mono ?_
  rintro e w3 ⟨A', c', rfl, hR, hk, hb⟩
  have HR := Aside0.mk hR
  have HK := Aside0.mk hk
  have HB := Aside0.mk hb
  clear hR hk hb
  go_wp2
  go_ret
  exact ⟨A', c', rfl, HR.out, HK.out, HB.out⟩
set_option maxHeartbeats 8000000 in
set_option maxRecDepth 100000 in
theorem Queue_ (w : World) (b : Nat) (F : Nat → Prop) (hs qs : List E) (hI : IsLane w b F hs qs) (hl : qs.length ≤ 1000000) :
    Calls Try.prog 47 #[.pointer (some ⟨b, 0, none⟩)] w fun e w' => ∃ A' c', e = .returned (.slice A' qs.length c') ∧ Row w' 67 2 A' qs.length c' (flat qs) ∧ (∀ k, blk A' k → w.heap.size ≤ k) ∧ Below w.heap.size w w' := by
  have hu := Try.underlying105
  obtain ⟨hA, hc, qA, qc, h1, h2, h3, h4, h5, h6, h7⟩ := hI
  have c0 : w.cell? ⟨b, 0, none⟩ = some (.slice hA hs.length hc) := (blk_cell h1 0).trans rfl
  have c1 : w.cell? ⟨b, 1, none⟩ = some (.slice qA qs.length qc) := (blk_cell h1 1).trans rfl
  have HC := Aside0.mk (Clone_ qA qc qs w h5 hl)
  clear h1 h2 h3 h4 h5 h6 h7 hl
  go_enter Try.func47, Try.ntmps47
  go_wp2_with fail
  refine HC.out.mono ?_
  rintro e w3 ⟨A', c', rfl, hR, hk, hb⟩
  have HR := Aside0.mk hR
  have HK := Aside0.mk hk
  have HB := Aside0.mk hb
  clear hR hk hb
  go_wp2
  go_ret
  exact ⟨A', c', rfl, HR.out, HK.out, HB.out⟩
end Go.Proofs.Ytagdgkimjgomlaa.Ln
