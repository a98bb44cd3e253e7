import Derived.Test.YtkfhnicojokafaaGreatSb2
import Derived.Test.YtkfhnicojokafaaGreatSp
import Derived.Deep.RegionLaw
/- A machine is made, of hands without programs. -/
namespace Go.Proofs.YtkfhnicojokafaaGreat.Co
open Go.RowKit Go.Proofs.YtkfhnicojokafaaGreatW.PrintWords Go.Proofs.YtkfhnicojokafaaGreatW.PrintWords.Kd Go.Proofs.YtkfhnicojokafaaGreatW.PrintLast Go.Proofs.YtkfhnicojokafaaGreatW.PrintMore Go.Proofs.YtkfhnicojokafaaGreat.PMd Go.Proofs.YtkfhnicojokafaaGreat.Ln
set_option linter.unusedVariables false
set_option linter.unusedSimpArgs false
theorem infoH : (Tryz.prog.info? 40).map (fun i => (i.zero, i.size, i.bytes)) = some (some (.pointer none), 1, 8) := by kernel_rfl
set_option maxHeartbeats 8000000 in
theorem containsT0_ (f : Value) (w : World) : Calls Tryz.prog 17 #[.slice none 0 0, f] w fun e w' => e = .returned (.bool false) ∧ w' = w := by
  go_enter Tryz.func17, Tryz.ntmps17
  go_wp2_with fail
  go_enter Tryz.func33, Tryz.ntmps33
  go_wp2_with fail
  go_loop [8] (fun v => v = .int .i64 0) (fun _ => 0)
  case atStart => rfl
  case round =>
    obtain rfl := hrel
    go_wp2
    go_ret
    exact ⟨rfl, rfl⟩
/-- A hand more. -/
theorem mach_push {w0 W w5 w6 : World} {lim m b : Nat} {P : Pl} {F : Nat → Prop} {s : CoreS} {phs : List Int} {hA A2 : Option Addr} {hc c2 gL : Nat} {gs : List Nat}
    (h1 : W.heap[m]? = some (.cells #[.pointer (some ⟨b, 0, none⟩), .slice hA gs.length hc] 48 (0, 0))) (h2 : gs.length = phs.length) (h3 : Row W 40 1 hA gs.length hc (gs.map ptr))
    (h4 : ∀ (j : Nat) (g : Nat) (ph : Int), gs[j]? = some g → phs[j]? = some ph → IsHand W g b j ph) (h5 : IsCore W b P F s) (h6 : ∀ k, F k → w0.heap.size ≤ k ∧ k < lim) (h7 : w0.heap.size ≤ lim) (h8 : lim ≤ m) (h9 : ∀ k, blk hA k → lim ≤ k) (h10 : ∀ g ∈ gs, lim ≤ g) (h11 : Below w0.heap.size w0 W)
    (hb : Below W.heap.size W w5) (hI : IsHand w5 gL b phs.length 0) (hgL : W.heap.size ≤ gL)
    (hR : Row w6 40 1 A2 (gs.length + 1) c2 (gs.map ptr ++ [.pointer (some ⟨gL, 0, none⟩)])) (hG : Grew (blk hA) (w5.alloc (.cells #[.pointer (some ⟨gL, 0, none⟩)] 40)) w6) (hk : ∀ k, blk A2 k → blk hA k ∨ (w5.alloc (.cells #[.pointer (some ⟨gL, 0, none⟩)] 40)).heap.size ≤ k) :
    w6.cell? ⟨m, 1, none⟩ = some (.slice hA gs.length hc) ∧ w6.frozen? ⟨m, 1, none⟩ = false ∧ Mach w0 (w6.setCell ⟨m, 1, none⟩ (.slice A2 (gs.length + 1) c2)) lim m b P F s (phs ++ [0]) := by
  have hml := (Array.getElem?_eq_some_iff.1 h1).1
  have hmb : ¬ blk hA m := h3.ne h1 (by decide)
  have ba := below_alloc hb (.cells #[.pointer (some ⟨gL, 0, none⟩)] 40)
  have hsz : (w5.alloc (.cells #[.pointer (some ⟨gL, 0, none⟩)] 40)).heap.size = w5.heap.size + 1 := by simp
  have hs5 := hb.size
  have hm6 : w6.heap[m]? = some (.cells #[.pointer (some ⟨b, 0, none⟩), .slice hA gs.length hc] 48 (0, 0)) := by
    rw [hG.block m (by omega) hmb, ba.block m hml]; exact h1
  refine ⟨(blk_cell hm6 1).trans rfl, blk_frozen hm6 1, A2, c2, gs ++ [gL], ?_, by simp [h2], ?_, ?_, ?_, h6, h7, h8, ?_, ?_, ?_⟩
  · have h := heap_setCell_same w6 m 1 _ _ (.slice A2 (gs.length + 1) c2) hm6
    rw [List.length_append]
    exact h
  · rw [List.length_append, List.map_append]
    refine hR.set (p := ⟨m, 1, none⟩) (fun h => ?_) _
    rcases hk m h with h | h
    · exact hmb h
    · omega
  · intro j g ph hg hp
    by_cases hj : j < gs.length
    · rw [List.getElem?_append_left hj] at hg
      rw [List.getElem?_append_left (by omega)] at hp
      obtain ⟨lv, mp, hh⟩ := h4 j g ph hg hp
      have hgl := (Array.getElem?_eq_some_iff.1 hh).1
      refine ⟨lv, mp, (Below.heap_setCell w6 ⟨m, 1, none⟩ _ g (typed_ne hh h1 (by decide))).trans ?_⟩
      rw [hG.block g (by omega) (h3.ne hh (by decide)), ba.block g hgl]; exact hh
    · have hj2 : j = gs.length := by
        have := (List.getElem?_eq_some_iff.1 hg).1
        simp at this; omega
      subst hj2
      rw [List.getElem?_append_right (Nat.le_refl _), Nat.sub_self] at hg
      rw [h2, List.getElem?_append_right (Nat.le_refl _), Nat.sub_self] at hp
      obtain rfl : gL = g := by simpa using hg
      obtain rfl : 0 = ph := by simpa using hp
      have hlt := hI.lt
      refine (hI.move (w' := w6) ?_).move (Below.heap_setCell w6 ⟨m, 1, none⟩ _ gL (by show gL ≠ m; omega)) |> fun h => by rw [h2]; exact h
      rw [hG.block gL (by omega) (fun h => by have := h3.lt h; omega), Below.heap_alloc _ _ _ hlt]
  · have hc6 := (h5.below ba).grew hG (fun k hk2 h => by have := (h6 k hk2).2; have := h9 k h; omega)
    exact hc6.grew (S := fun k => k = m) ((Grew.refl (fun k => k = m) w6).setCell (p := ⟨m, 1, none⟩) (.inl rfl) _) (fun k hk2 e => by have := (h6 k hk2).2; omega)
  · intro k h
    have := h11.size
    rcases hk k h with h | h
    · exact h9 k h
    · have hl2 : lim ≤ W.heap.size := by omega
      omega
  · intro g hg
    rcases List.mem_append.1 hg with hg | hg
    · exact h10 g hg
    · obtain rfl := List.mem_singleton.1 hg
      omega
  · exact (hG.to_below (below_then h11 h11.size ba) (by have := h11.size; omega) (fun k h => by have := h9 k h; omega)).setCell (p := ⟨m, 1, none⟩) (by show w0.heap.size ≤ m; omega) _
/-- A machine that is made. -/
def MadeM (w w' : World) (c : Cf) (ws : List Int) (n : Nat) (e : Ending) : Prop := ∃ m b P F lim, e = .returned (.tuple #[.pointer (some ⟨m, 0, none⟩), .int .i64 0]) ∧ Mach w w' lim m b P F ⟨c, ws, 0, List.replicate n 0, List.replicate n false, List.replicate n 0, 0⟩ (List.replicate n 0)
set_option maxHeartbeats 16000000 in
set_option maxRecDepth 100000 in
theorem stmNew_ (c : Cf) (n : Nat) (hn : c.f4 = n) (A : Option Addr) (cA : Nat) (heap : List Int) (w : World) (sz nd : Nat) (hr : Kd.C (Kd.int .i64) w A heap.length heap) (hc : heap.length ≤ cA) (hB : InB c.f0 c.f1 c.f2 c.f3 c.f4 c.f5 c.f6 c.f7 c.f8 c.f9 c.f10 c.f11)
    (hwd : shape_Words.f c.f0 c.f1 c.f2 c.f3 c.f4 c.f5 c.f6 c.f7 c.f8 c.f9 c.f10 c.f11 = some (heap.length : Int)) (hcl : shape_Cells.f c.f0 c.f1 c.f2 c.f3 c.f4 c.f5 c.f6 c.f7 c.f8 c.f9 c.f10 c.f11 = some (sz : Int)) (hnd : shape_Nodes.f c.f0 c.f1 c.f2 c.f3 c.f4 c.f5 c.f6 c.f7 c.f8 c.f9 c.f10 c.f11 = some (nd : Int)) (h0 : 0 < heap.length) (h1 : heap.length ≤ sz) (h2 : sz ≤ 65536) (n1 : 1 ≤ nd) (n2 : nd ≤ 10000) :
    Calls Tryz.prog 8 #[.agg #[.int .i64 c.f0, .int .i64 c.f1, .int .i64 c.f2, .int .i64 c.f3, .int .i64 c.f4, .int .i64 c.f5, .int .i64 c.f6, .int .i64 c.f7, .int .i64 c.f8, .int .i64 c.f9, .int .i64 c.f10, .int .i64 c.f11], .slice A heap.length cA, .slice none 0 0] w fun e w' => MadeM w w' c (heap ++ List.replicate (sz - heap.length) 0) n e := by
  have hu := Tryz.underlying23
  have hu2 := Tryz.underlying48
  have hu3 := Tryz.underlying45
  have hCK := chk_yes hB
  obtain ⟨-, -, -, -, b4, -, -, b7, b8, -, b10, -⟩ := hB
  have ba := below_alloc (Below.refl w.heap.size w) (.cells #[.int .i64 c.f0, .int .i64 c.f1, .int .i64 c.f2, .int .i64 c.f3, .int .i64 c.f4, .int .i64 c.f5, .int .i64 c.f6, .int .i64 c.f7, .int .i64 c.f8, .int .i64 c.f9, .int .i64 c.f10, .int .i64 c.f11] 23)
  have HN := Aside0.mk (coreNew_ tabMoves c A cA heap (w.alloc (.cells #[.int .i64 c.f0, .int .i64 c.f1, .int .i64 c.f2, .int .i64 c.f3, .int .i64 c.f4, .int .i64 c.f5, .int .i64 c.f6, .int .i64 c.f7, .int .i64 c.f8, .int .i64 c.f9, .int .i64 c.f10, .int .i64 c.f11] 23)) sz nd (Kd.C_below hr ba) hc hCK hwd hcl hnd h0 h1 h2 (tabNews nd c.f7 n1 n2 b7.1 b7.2) b10.1 b10.2 (by omega) (by omega))
  have hn2 : c.f4.toNat = n := by omega
  have HB4 := Aside0.mk (show n ≤ 64 by omega)
  have HNN := Aside0.mk (And.intro hn hn2)
  clear hn hn2
  have HB8 := Aside0.mk b8
  have HBA := Aside0.mk ba
  have BK := Aside0.mk (blk_new w (.cells #[.int .i64 c.f0, .int .i64 c.f1, .int .i64 c.f2, .int .i64 c.f3, .int .i64 c.f4, .int .i64 c.f5, .int .i64 c.f6, .int .i64 c.f7, .int .i64 c.f8, .int .i64 c.f9, .int .i64 c.f10, .int .i64 c.f11] 23))
  clear hr hc hwd hcl hnd h0 h1 h2 n1 n2 b4 b7 b8 b10 hCK ba
  go_enter Tryz.func8, Tryz.ntmps8
  go_wp2_with fail
  refine HN.out.mono ?_
  rintro e w1 ⟨b, P, F, FT, rfl, hC, hT, hF, hFT, hb⟩
  rw [HNN.out.2] at hC
  have HB1 := Aside0.mk (below_then HBA.out HBA.out.size hb)
  have hk1 := (hb.block w.heap.size (by simp)).trans BK.out
  have x4a : w1.cell? ⟨w.heap.size, 4, none⟩ = some (.int .i64 c.f4) := (blk_cell hk1 4).trans rfl
  rw [HNN.out.1] at x4a
  have HM := Aside0.mk (show Mach w (w1.alloc (.cells #[.pointer (some ⟨b, 0, none⟩), .slice none 0 0] 48)) w1.heap.size w1.heap.size b P (fun k => F k ∧ k < w1.heap.size) ⟨c, heap ++ List.replicate (sz - heap.length) 0, 0, List.replicate n 0, List.replicate n false, List.replicate n 0, 0⟩ [] from
    ⟨none, 0, [], blk_new w1 _, rfl, Row.zero _ _ _, fun j g ph hg _ => by simp at hg, hC.bound.below (below_alloc (Below.refl _ _) _), fun k hk => ⟨by have := (hF k hk.1).1; have h3 : w.heap.size + 1 ≤ k := (by simpa using this); omega, hk.2⟩, HB1.out.size, Nat.le_refl _, (fun k ⟨a, h, _⟩ => by cases h), fun g hg => by simp at hg, below_alloc HB1.out _⟩)
  have x4 := cell_al0 x4a (.cells #[.pointer (some ⟨b, 0, none⟩), .slice none 0 0] 48)
  have HF := Aside0.mk HB8.out
  clear hC hT hF hFT hb hk1 HN
  have t0 : decide ((n : Int) < 0) = false := decide_eq_false (by omega)
  go_wp2_with fail
  refine (containsT0_ _ w1).mono ?_
  rintro e w2 ⟨rfl, rfl⟩
  clear x4a t0
  go_wp2_with fail
  go_loopg [41] n (fun gg v41 wr => ∃ i : Nat, i ≤ n ∧ n - i ≤ gg ∧ v41 = .int .i64 i ∧ Aside0 (Mach w wr w2.heap.size w2.heap.size b P (fun k => F k ∧ k < w2.heap.size) ⟨c, heap ++ List.replicate (sz - heap.length) 0, 0, List.replicate n 0, List.replicate n false, List.replicate n 0, 0⟩ (List.replicate i 0)))
  case atStart => exact ⟨0, by omega, by omega, rfl, HM⟩
  case round =>
    obtain ⟨i, hi, hgg, rfl, HT⟩ := hrel
    clear x4
    by_cases hlt : i < n
    · obtain ⟨hA, hc, gs, h1, h2, h3, h4, h5, h6, h7, h8, h9, h10, h11⟩ := HT.out
      have t1 : (i : Int) < n := by omega
      have t2 : ¬ ((i : Int) < 0) := by omega
      have c1 : wr.cell? ⟨w2.heap.size, 1, none⟩ = some (.slice hA gs.length hc) := (blk_cell h1 1).trans rfl
      have f1 : wr.frozen? ⟨w2.heap.size, 1, none⟩ = false := blk_frozen h1 1
      have HU := Aside0.mk (fun w5 w6 gL A2 c2 => mach_push (w5 := w5) (w6 := w6) (gL := gL) (A2 := A2) (c2 := c2) h1 h2 h3 h4 h5 h6 h7 h8 h9 h10 h11)
      rw [List.length_replicate] at HU h2
      have HCO := Aside0.mk (h5.below (below_drew (Below.refl wr.heap.size wr)))
      have HRW := Aside0.mk h3
      have HGL := Aside0.mk h2
      have HML := Aside0.mk (Array.getElem?_eq_some_iff.1 h1).1
      have HJ := Aside0.mk (And.intro hlt hgg)
      have W3 := Aside0.mk (show wrap64 ((i : Int) + 1) = ((i + 1 : Nat) : Int) by have := HB4.out; unfold wrap64; omega)
      clear h1 h2 h3 h4 h5 h6 h7 h8 h9 h10 h11 hlt hgg hi HT
      go_wp2_with fail
      go_loop [54] (fun v => v = .int .i64 0) (fun _ => 0)
      case atStart => rfl
      case round =>
        obtain rfl := hrel
        go_wp2_with fail
        go_region_law (first
          | (refine step_append_row rfl (.tmp 67) (.tmp 72) 46 rfl 40 (.pointer none) 1 8 Tryz.underlying46 infoH rfl hA gs.length hc (gs.map ptr) (by simp [Act.eval, Act.put]) HR5.out ⟨w5.heap.size, 0, none⟩ 1 1 [.pointer (some ⟨gL, 0, none⟩)] (by simp [Act.eval, Act.put]) rfl (one_at0 BS5.out) (by simp [Value.oneCell']) (by have := HB4.out; have := HJ.out; have := HGL.out; unfold maxLen; omega) (by have := HB4.out; have := HJ.out; have := HGL.out; omega) ?_
             intro A2 c2 w6 hR6 hG6 hk6
             obtain ⟨c7, f7, hMM⟩ := HU.out w5 w6 gL A2 c2 HB5.out HI5.out HG5.out hR6 hG6 hk6
             have HMM := Aside0.mk hMM
             clear hR6 hG6 hk6 hMM)
          | (go_simp
             go_at_call 20
             refine (handNew_ wr.drew b P _ _ i HCO.out HB8.out.1 HB8.out.2).mono ?_
             rintro e w5 ⟨gL, rfl, hI5, hg5, hb5⟩
             have HB5 := Aside0.mk (show Below wr.heap.size wr w5 from ⟨hb5.os, hb5.tape, hb5.output, hb5.size, hb5.block⟩)
             have HR5 := Aside0.mk (((show Row wr.drew 40 1 hA gs.length hc (gs.map ptr) from HRW.out).below hb5).alloc (.cells #[.pointer (some ⟨gL, 0, none⟩)] 40))
             have BS5 := Aside0.mk (blk_new w5 (.cells #[.pointer (some ⟨gL, 0, none⟩)] 40))
             have HI5 := Aside0.mk hI5
             have HG5 := Aside0.mk (show wr.heap.size ≤ gL from hg5)
             have c5 := cell_be0 (w := wr.drew) c1 hb5
             have c6 := cell_al0 c5 (.cells #[.pointer (some ⟨gL, 0, none⟩)] 40)
             clear hI5 hg5 hb5))
        all_goals (go_wp2; go_roundg (n - (i + 1)))
        all_goals first
          | (have := HJ.out; omega)
          | exact ⟨i + 1, by have := HJ.out; omega, by have := HJ.out; omega, by rw [W3.out], ⟨by rw [List.replicate_succ']; exact HMM.out⟩⟩
    · obtain rfl : i = n := by omega
      have t1 : ¬ (i : Int) < i := by omega
      clear hi hgg hlt
      go_wp2
      go_ret2
      exact ⟨w2.heap.size, b, P, _, w2.heap.size, rfl, HT.out⟩
end Go.Proofs.YtkfhnicojokafaaGreat.Co
