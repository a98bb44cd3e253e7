import Derived.Test.YtefcjnnngaaihaaDoorPr5
import Derived.Test.YtefcjnnngaaihaaDoorPPgx
/- Parse: lines read, one by one. -/
namespace Go.Proofs.YtefcjnnngaaihaaDoor.Pg
open Go.RowKit Go.Proofs.Pg Go.Proofs.YtefcjnnngaaihaaDoor.Ln Go.Proofs.YtefcjnnngaaihaaDoorW.PrintWords Go.Proofs.YtefcjnnngaaihaaDoorW.PrintWords.Kd Go.Proofs.YtefcjnnngaaihaaDoor.PPg
set_option linter.unusedVariables false
set_option linter.unusedSimpArgs false

def toS (x : In) : S26 := ⟨x.k, x.a, x.b, x.c, x.l⟩
/-- What Parse hands back. -/
def Parsed (w w' : World) (e : Ending) : Option (List In) → Prop
  | none => e = .returned (.tuple #[.slice none 0 0, .int .i64 2])
  | some xs => ∃ A c, e = .returned (.tuple #[.slice A xs.length c, .int .i64 0]) ∧ xs.length ≤ c ∧ Kd.C k26 w' A xs.length (xs.map toS)
theorem infoP : (Tryd.prog.info? 26).map (fun i => (i.zero, i.size, i.bytes)) = some (some (.agg #[.int .i64 0, .int .i64 0, .int .i64 0, .int .i64 0, .slice none 0 0]), 5, 56) := by kernel_rfl
theorem five_at {w : World} {g : Nat} {l : List Value} {t : TypeId} (hv : w.heap[g]? = some (.cells l.toArray t (0, 0))) : ∀ j x, l[j]? = some x → w.cell? ((⟨g, 0, none⟩ : Addr).add j) = some x := by
  intro j x hj
  rw [Addr.add_lit, Nat.zero_add, blk_cell hv j]; simpa using hj
def cellsI (x : In) (A : Option Addr) (c : Nat) : List Value := [.int .i64 x.k, .int .i64 x.a, .int .i64 x.b, .int .i64 x.c, .slice A x.l.length c]
/-- The instructions' row that a call makes. -/
def OutP (w wr : World) (xs : List In) (v : Value) : Prop :=
  ∃ A c, v = .slice A xs.length c ∧ ∃ vs : List Value, Row wr 26 5 A xs.length c vs ∧ (∀ k, Ln.blk A k → w.heap.size ≤ k) ∧ Below w.heap.size w wr ∧
    ∀ j x, xs[j]? = some x → ∃ A5 c5, (vs.drop (j * 5)).take 5 = cellsI x A5 c5 ∧ Row wr 3 1 A5 x.l.length c5 (vi x.l)
theorem OutP.zero (w : World) : OutP w w [] (.slice none 0 0) :=
  ⟨none, 0, rfl, [], Row.zero _ _ _, fun k hk => (by obtain ⟨a, h, _⟩ := hk; cases h), Below.refl _ _, fun j x h => by simp at h⟩
theorem OutP.after {w wr w' : World} {xs : List In} {v : Value} (h : OutP w wr xs v) (hb : Below wr.heap.size wr w') : OutP w w' xs v := by
  obtain ⟨A, c, rfl, vs, h1, h2, h3, h4⟩ := h
  refine ⟨A, c, rfl, vs, h1.below hb, h2, h3.trans (Below.low hb h3.size), fun j x hx => ?_⟩
  obtain ⟨A5, c5, e, r⟩ := h4 j x hx
  exact ⟨A5, c5, e, r.below hb⟩
theorem rows_apart {w : World} {A A5 : Option Addr} {n n5 c c5 : Nat} {vs v5 : List Value} (h : Row w 26 5 A n c vs) (h5 : Row w 3 1 A5 n5 c5 v5) : ∀ k, Ln.blk A5 k → ¬ Ln.blk A k := fun k hk hk2 => by
  obtain ⟨cur, hc⟩ := h.typed hk2
  exact h5.ne hc (by decide) hk
theorem OutP.push {w W w6 : World} {xs : List In} {A A2 A5 : Option Addr} {c c2 c5 : Nat} {vs : List Value} {x : In} (h1 : Row W 26 5 A xs.length c vs) (h2 : ∀ k, Ln.blk A k → w.heap.size ≤ k) (h3 : Below w.heap.size w W)
    (h4 : ∀ j x, xs[j]? = some x → ∃ A5 c5, (vs.drop (j * 5)).take 5 = cellsI x A5 c5 ∧ Row W 3 1 A5 x.l.length c5 (vi x.l)) (h5 : Row W 3 1 A5 x.l.length c5 (vi x.l))
    (hR : Row w6 26 5 A2 (xs.length + 1) c2 (vs ++ cellsI x A5 c5)) (hG : Grew (Ln.blk A) W w6) (hk : ∀ k, Ln.blk A2 k → Ln.blk A k ∨ W.heap.size ≤ k) : OutP w w6 (xs ++ [x]) (.slice A2 (xs.length + 1) c2) := by
  have hl := h1.1
  refine ⟨A2, c2, by simp, _, by simpa using hR, fun k hk2 => (hk k hk2).elim (h2 k) (fun h => Nat.le_trans h3.size h), hG.to_below h3 h3.size h2, fun j y hy => ?_⟩
  by_cases hj : j < xs.length
  · rw [List.getElem?_append_left hj] at hy
    obtain ⟨B5, d5, e, r⟩ := h4 j y hy
    refine ⟨B5, d5, ?_, r.grew hG (rows_apart h1 r)⟩
    rw [← e, List.drop_append_of_le_length (by omega), List.take_append_of_le_length (by rw [List.length_drop]; omega)]
  · have hj2 : j = xs.length := by
      have := (List.getElem?_eq_some_iff.1 hy).1
      simp at this; omega
    subst hj2
    simp at hy; subst hy
    refine ⟨A5, c5, ?_, h5.grew hG (rows_apart h1 h5)⟩
    rw [List.drop_append_of_le_length (by omega), List.drop_eq_nil_of_le (by omega), List.nil_append]; rfl
theorem OutP.C {w wr : World} {xs : List In} {v : Value} (h : OutP w wr xs v) : ∃ A c, v = .slice A xs.length c ∧ xs.length ≤ c ∧ Kd.C k26 wr A xs.length (xs.map toS) := by
  obtain ⟨A, c, rfl, vs, h1, h2, h3, h4⟩ := h
  refine ⟨A, c, rfl, h1.2.1, by simp, by have h5 := h1.2.1; have h6 := h1.2.2.1; unfold maxLen at h6; omega, fun hn => ?_⟩
  obtain ⟨g, off, cur, rfl, _, _, hc⟩ := h1.at_ hn
  refine ⟨_, rfl, fun j p hj => ?_⟩
  rw [List.getElem?_map] at hj
  obtain ⟨x, hx, rfl⟩ := Option.map_eq_some_iff.1 hj
  obtain ⟨A5, c5, e, r⟩ := h4 j x hx
  refine ⟨cellsI x A5 c5, rfl, k26_mk wr (toS x) r.2.1 (Row.reads_vi r), fun i u hu => ?_⟩
  rw [Addr.add_lit]
  refine (hc (j * 5 + i) u ?_).1
  rw [← e, List.getElem?_take] at hu
  split at hu
  · rw [List.getElem?_drop] at hu; exact hu
  · cases hu

set_option maxHeartbeats 8000000 in
set_option maxRecDepth 100000 in
theorem Parse_ (A : Option Addr) (c : Nat) (ss : List ByteArray) (w : World) (hE : Env w) (hC : Kd.string.C w A ss.length ss) (hcap : ss.length ≤ c) (hlen : ss.length ≤ 100000) (hs : ∀ s ∈ ss, s.size ≤ 100000) :
    Calls Tryd.prog 16 #[.slice A ss.length c] w fun e w' => Parsed w w' e (parseB (ss.map (·.data.toList))) ∧ Below w.heap.size w w' := by
  have hu := Tryd.underlying26
  have HE := Aside0.mk hE
  have HC := Aside0.mk hC
  have HLEN := Aside0.mk hlen
  have HS := Aside0.mk hs
  clear hE hC hcap hlen hs
  go_enter Tryd.func16, Tryd.ntmps16
  go_wp2_with fail
  go_loopg [4, 11] ss.length (fun gg v4 v11 wr => ∃ (i : Nat) (xs : List In), i ≤ ss.length ∧ ss.length - i ≤ gg ∧ v11 = .int .i64 i ∧ Aside0 (OutP w wr xs v4) ∧ Aside0 (Below w.heap.size w wr) ∧
    Aside0 (parseB (ss.map (·.data.toList)) = (parseB ((ss.drop i).map (·.data.toList))).map (xs ++ ·)) ∧ Aside0 (xs.length = i))
  case atStart => exact ⟨0, [], by omega, by omega, rfl, ⟨OutP.zero w⟩, ⟨Below.refl _ _⟩, ⟨by simp⟩, ⟨rfl⟩⟩
  case round =>
    obtain ⟨i, xs, hi, hgg, rfl, HR, HB, HP, HXL⟩ := hrel
    by_cases hlt : i < ss.length
    · have t1 : (i : Int) < (ss.length : Int) := by omega
      have t0 : (0 : Int) ≤ (i : Int) := by omega
      obtain ⟨ad, hA, c9⟩ := at_string (C_below HC.out HB.out) (i : Int) t0 (by omega)
      rw [Int.toNat_natCast] at c9
      cases hA
      have hrd : rdOf ByteArray.empty ss (i : Int) = ss[i] := by simp [rdOf, List.getElem?_eq_getElem hlt]
      rw [hrd] at c9
      have HRD := Aside0.mk (read_ ss[i] wr (HE.out.below HB.out) (HS.out _ (List.getElem_mem hlt)))
      have HDR := Aside0.mk (show (ss.drop i).map (·.data.toList) = ss[i].data.toList :: (ss.drop (i + 1)).map (·.data.toList) by rw [List.drop_eq_getElem_cons hlt]; rfl)
      generalize ss[i] = T at c9 HRD HDR
      generalize hr : readB T.data.toList = r at HRD
      obtain ⟨x, ok⟩ := r
      have HR1 := Aside0.mk hr
      have HLT := Aside0.mk (And.intro hlt hgg)
      have W3 := Aside0.mk (show wrap64 ((i : Int) + 1) = ((i + 1 : Nat) : Int) by have := HLEN.out; unfold wrap64; omega)
      obtain ⟨A4, c4, rfl, vs, q1, q2, q3, q4⟩ := HR.out
      have HQ := Aside0.mk (And.intro q1 (And.intro q2 (And.intro q3 q4)))
      clear q1 q2 q3 q4
      clear hr hlt hgg hi hrd
      go_wp2_with fail
      refine HRD.out.mono ?_
      rintro e w3 ⟨A5, c5, rfl, hR5, hk5, hb5⟩
      unfold agg
      cases ok with
      | false =>
        have HN := Aside0.mk (show parseB (ss.map (·.data.toList)) = none by rw [HP.out, HDR.out]; simp [parseB, HR1.out])
        have HB6 := Aside0.mk (below_then HB.out HB.out.size hb5)
        clear c9 hR5 hk5 hb5
        go_wp2
        go_ret2
        rw [HN.out]
        exact ⟨rfl, below_alloc HB6.out _⟩
      | true =>
        have HNX := Aside0.mk (show parseB (ss.map (·.data.toList)) = (parseB ((ss.drop (i + 1)).map (·.data.toList))).map ((xs ++ [x]) ++ ·) by
          rw [HP.out, HDR.out]; simp only [parseB, HR1.out, if_true]
          cases parseB ((ss.drop (i + 1)).map (·.data.toList)) <;> simp)
        have hb6 := below_alloc (below_alloc hb5 (.cells (cellsI x A5 c5).toArray 26)) (.cells (cellsI x A5 c5).toArray 26)
        have HB6 := Aside0.mk hb6
        have HR4 := Aside0.mk (HQ.out.1.below hb6)
        have HI6 := Aside0.mk ((hR5.alloc (.cells (cellsI x A5 c5).toArray 26)).alloc (.cells (cellsI x A5 c5).toArray 26))
        have BS := Aside0.mk (heap_alloc_new (w3.alloc (.cells (cellsI x A5 c5).toArray 26)) (.cells (cellsI x A5 c5).toArray 26))
        clear c9 hR5 hk5 hb5 hb6
        go_wp2_with (at_builtin; refine wpList_append_info rfl _ _ 23 rfl 26 _ 5 56 Tryd.underlying23 infoP rfl A4 xs.length c4 vs (by simp [Act.eval, Act.put]) HR4.out ⟨(w3.alloc (.cells (cellsI x A5 c5).toArray 26)).heap.size, 0, none⟩ 1 1 (cellsI x A5 c5) (by simp [Act.eval, Act.put]) rfl (five_at BS.out) (by simp [cellsI, Value.oneCell']) (by have := HXL.out; have := HLT.out; have := HLEN.out; unfold maxLen; omega) (by have := HXL.out; have := HLT.out; have := HLEN.out; omega) ?_; refine Hid.out ?_)
        refine Lib.hid ?_
        intro A2 c2 w6 hR6 hG6 hk6
        have HO6 := Aside0.mk (OutP.push (w := w) (x := x) HR4.out HQ.out.2.1 (HQ.out.2.2.1.trans (Below.low HB6.out HQ.out.2.2.1.size)) (fun j y hy => by
          obtain ⟨B5, d5, e, r⟩ := HQ.out.2.2.2 j y hy
          exact ⟨B5, d5, e, r.below HB6.out⟩) HI6.out hR6 hG6 (by simpa using hk6))
        clear hR6 hG6 hk6
        go_wp2
        go_roundg (ss.length - (i + 1))
        case measure => have := HLT.out; omega
        case rel => exact ⟨i + 1, xs ++ [x], by have := HLT.out; omega, by have := HLT.out; omega, by rw [W3.out], ⟨by simpa using HO6.out⟩, ⟨by obtain ⟨_, _, _, _, _, _, h, _⟩ := HO6.out; exact h⟩, ⟨by simpa using HNX.out⟩, ⟨by simp [HXL.out]⟩⟩
    · obtain rfl : i = ss.length := by omega
      have t1 : ¬ ((ss.length : Int)) < (ss.length : Int) := by omega
      obtain ⟨A4, c4, rfl, hcc, hCC⟩ := HR.out.C
      have HCC := Aside0.mk (And.intro hcc hCC)
      clear hcc hCC
      have HF := Aside0.mk (show parseB (ss.map (·.data.toList)) = some xs by rw [HP.out]; simp [parseB])
      clear hgg hi hlt
      go_wp2
      go_ret2
      rw [HF.out]
      exact ⟨⟨A4, c4, rfl, HCC.out.1, HCC.out.2⟩, HB.out⟩
end Go.Proofs.YtefcjnnngaaihaaDoor.Pg
