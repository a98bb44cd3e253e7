import Derived.Test.YtefcjnnngaaihaaDoorPr7
import Derived.Test.YtefcjnnngaaihaaDoorPaP
/- Print, Same, Few, Texts: what they hand back. -/
namespace Go.Proofs.YtefcjnnngaaihaaDoor.Pg
open Go.RowKit Go.Proofs.Pg Go.Proofs.YtefcjnnngaaihaaDoor.Ln Go.Proofs.YtefcjnnngaaihaaDoorW.PrintWords Go.Proofs.YtefcjnnngaaihaaDoorW.PrintWords.Kd Go.Proofs.YtefcjnnngaaihaaDoor.PPg
set_option linter.unusedVariables false
set_option linter.unusedSimpArgs false

def lnB (x : In) : ByteArray := ⟨(lineB x).toArray⟩
theorem OutS.zero (w : World) : OutS w [] (.slice none 0 0) w :=
  ⟨none, 0, rfl, Row.zero _ _ _, fun k hk => (by obtain ⟨a, h, _⟩ := hk; cases h), Below.refl _ _⟩
theorem OutS.after {w wr w' : World} {xs : List ByteArray} {v : Value} (h : OutS w xs v wr) (hb : Below wr.heap.size wr w') : OutS w xs v w' := by
  obtain ⟨A, c, rfl, h1, h2, h3⟩ := h
  exact ⟨A, c, rfl, h1.below hb, h2, h3.trans (Below.low hb h3.size)⟩
theorem rd_toS (xs : List In) (i : Nat) (h : i < xs.length) : rd_T26 (xs.map toS) (i : Int) = toS xs[i] := by simp [rd_T26, List.getElem?_eq_getElem h]
theorem OutS.push {w W w6 : World} {xs : List ByteArray} {b : ByteArray} {A A2 : Option Addr} {c c2 : Nat} (hR0 : Row W 9 1 A xs.length c (xs.map Value.string)) (hk0 : ∀ k, Ln.blk A k → w.heap.size ≤ k) (hb : Below w.heap.size w W)
    (hR : Row w6 9 1 A2 (xs.length + 1) c2 (xs.map Value.string ++ [.string b])) (hG : Grew (Ln.blk A) W w6) (hk : ∀ k, Ln.blk A2 k → Ln.blk A k ∨ W.heap.size ≤ k) : OutS w (xs ++ [b]) (.slice A2 (xs.length + 1) c2) w6 :=
  ⟨A2, c2, by simp, by simpa using hR, fun k hk2 => (hk k hk2).elim (hk0 k) (fun h => Nat.le_trans hb.size h), hG.to_below hb hb.size hk0⟩

set_option maxHeartbeats 8000000 in
set_option maxRecDepth 100000 in
theorem Print_ (A : Option Addr) (c : Nat) (xs : List In) (w : World) (hE : Env w) (hC : Kd.C k26 w A xs.length (xs.map toS)) (hlen : xs.length ≤ 1000) (hx : ∀ x ∈ xs, OkI x ∧ x.l.length ≤ 1000) :
    Calls Tryd.prog 15 #[.slice A xs.length c] w fun e w' => ∃ v, e = .returned v ∧ OutS w (xs.map lnB) v w' := by
  have hu := Tryd.underlying26
  have HE := Aside0.mk hE
  have HC := Aside0.mk hC
  have HLEN := Aside0.mk hlen
  have HX := Aside0.mk hx
  clear hE hC hlen hx
  go_enter Tryd.func15, Tryd.ntmps15
  go_wp2_with fail
  go_loopg [3, 8] xs.length (fun gg v3 v8 wr => ∃ (i : Nat) (z : Int), z = i ∧ i ≤ xs.length ∧ xs.length - i ≤ gg ∧ v8 = .int .i64 z ∧ Aside0 (OutS w ((xs.take i).map lnB) v3 wr))
  case atStart => exact ⟨0, 0, rfl, by omega, by omega, rfl, ⟨OutS.zero w⟩⟩
  case round =>
    obtain ⟨i, z, hz, hi, hgg, rfl, HO⟩ := hrel
    by_cases hlt : i < xs.length
    · have t1 : z < (xs.length : Int) := by omega
      have t0 : 0 ≤ z := by omega
      obtain ⟨A3, c3, rfl, hR, hk, hb⟩ := HO.out
      have hBz := hb
      obtain ⟨ad, A4, c4, hA, x0, x1, x2, x3, x4, hl4, hC4⟩ := at_T26 (C_below HC.out hb) z t0 t1
      cases hA
      have hrd : rd_T26 (xs.map toS) z = toS xs[i] := by rw [hz]; exact rd_toS xs i hlt
      rw [hrd] at x0 x1 x2 x3 x4 hl4 hC4
      have hxx := HX.out _ (List.getElem_mem hlt)
      have hnx : (xs.take (i + 1)).map lnB = (xs.take i).map lnB ++ [lnB xs[i]] := by rw [List.take_succ_eq_append_getElem hlt, List.map_append]; rfl
      have hnl : ((xs.take i).map lnB).length = i := by rw [List.length_map, List.length_take]; omega
      generalize xs[i] = x at x0 x1 x2 x3 x4 hl4 hC4 hxx hnx
      simp only [toS] at x0 x1 x2 x3 x4 hl4 hC4
      generalize (xs.take i).map lnB = ls at hR hnx hnl
      have HNX := Aside0.mk (And.intro hnx hnl)
      have HR := Aside0.mk (And.intro hR (And.intro hk hb))
      have hba := below_alloc (Below.refl wr.heap.size wr) (.cells #[.int .i64 x.k, .int .i64 x.a, .int .i64 x.b, .int .i64 x.c, .slice A4 x.l.length c4] 26)
      have HLN := Aside0.mk (line_ x A4 c4 (wr.alloc (.cells #[.int .i64 x.k, .int .i64 x.a, .int .i64 x.b, .int .i64 x.c, .slice A4 x.l.length c4] 26)) ((HE.out.below hb).below hba) hxx.1.1 hxx.1.2.1 hxx.1.2.2.1 hxx.1.2.2.2 (C_below hC4 hba) (by have := hxx.2; omega) hl4)
      have HBA := Aside0.mk hba
      have HJ := Aside0.mk (And.intro hz (And.intro hlt hgg))
      have W3 := Aside0.mk (show wrap64 (z + 1) = ((i + 1 : Nat) : Int) by have := HLEN.out; unfold wrap64; omega)
      clear hrd hxx hnx hnl hR hk hb hba hBz hC4 hl4 hz hlt hgg hi
      go_wp2_with fail
      refine HLN.out.mono ?_
      rintro e w1 ⟨rfl, hb1⟩
      have HB1 := Aside0.mk (below_alloc (below_then HBA.out HBA.out.size hb1) (.cells #[.string ⟨(lineB x).toArray⟩] 9))
      have HR1 := Aside0.mk (HR.out.1.below HB1.out)
      have BS := Aside0.mk (heap_alloc_new w1 (.cells #[.string ⟨(lineB x).toArray⟩] 9))
      clear hb1 x0 x1 x2 x3 x4
      go_wp2_with (at_builtin; refine wpList_append_info rfl _ _ 38 rfl 9 _ 1 16 Tryd.underlying38 infoS rfl A3 _ c3 _ (by simp [Act.eval, Act.put]) HR1.out ⟨w1.heap.size, 0, none⟩ 1 1 [.string ⟨(lineB x).toArray⟩] (by simp [Act.eval, Act.put]) rfl (one_at BS.out) (by simp [Value.oneCell']) (by rw [HNX.out.2]; have := HLEN.out; have := HJ.out; unfold maxLen; omega) (by rw [HNX.out.2]; have := HLEN.out; have := HJ.out; omega) ?_; refine Hid.out ?_)
      refine Lib.hid ?_
      intro A2 c2 w6 hR6 hG6 hk6
      have HO6 := Aside0.mk (OutS.push (b := lnB x) HR1.out HR.out.2.1 (HR.out.2.2.trans (Below.low HB1.out HR.out.2.2.size)) hR6 hG6 (by simpa using hk6))
      clear hR6 hG6 hk6
      go_wp2
      go_roundg (xs.length - (i + 1))
      case measure => have := HJ.out; omega
      case rel => exact ⟨i + 1, _, W3.out, by have := HJ.out; omega, by have := HJ.out; omega, rfl, ⟨by rw [HNX.out.1]; exact HO6.out⟩⟩
    · obtain rfl : i = xs.length := by omega
      have t1 : ¬ z < (xs.length : Int) := by omega
      have hF := HO.out
      rw [List.take_length] at hF
      have HF := Aside0.mk hF
      clear hF
      clear hgg hi hlt hz
      go_wp2
      go_ret
      exact ⟨_, rfl, HF.out⟩
end Go.Proofs.YtefcjnnngaaihaaDoor.Pg
