/- PathSafe: its walk. -/
import Derived.Test.YtagdgkimjgomlaaPa9
namespace Go.Proofs.Ytagdgkimjgomlaa.Ln
open Go.RowKit Go.Proofs.YtagdgkimjgomlaaW.PrintWords Go.Proofs.YtagdgkimjgomlaaW.PrintLast Go.Proofs.YtagdgkimjgomlaaW.PrintMore Go.Proofs.Ytagdgkimjgomlaa.PMd
open Go.Maps
open Go.Sort (grow)
set_option linter.unusedVariables false
set_option linter.unusedSimpArgs false
theorem wrap_of_wf {x : Int} (h : ok64 x) : wrap64 x = x := by
  have h2 : (Lit.int .i64 x).wf = true := h
  simp only [Lit.wf, IntKind.min, IntKind.max, IntKind.signed, IntKind.bits, Bool.and_eq_true, decide_eq_true_eq, if_true] at h2
  unfold wrap64
  omega
theorem wrap_small {x y : Int} (h0 : 0 ≤ x) (h1 : x ≤ y) (h : ok64 y) : wrap64 x = x := by
  have h2 := wrap_of_wf h
  unfold wrap64 at h2 ⊢
  omega
theorem intent_md {m : Int} (h : md m) : md (intM m) := by
  obtain ⟨f, rfl⟩ := fin6 h
  exact (by decide +kernel : ∀ f : Fin 6, md (intM (f.val : Int))) f
set_option maxHeartbeats 8000000 in
set_option maxRecDepth 100000 in
theorem safe_bad (c : Cf) (A : Option Addr) (cc : Nat) (l : List Int) (w : World) (h : ¬ Okc c ∨ 100 < l.length) :
    Calls Try.prog 7 #[.agg #[.int .i64 c.f0, .int .i64 c.f1, .int .i64 c.f2, .int .i64 c.f3, .int .i64 c.f4, .int .i64 c.f5, .int .i64 c.f6, .int .i64 c.f7, .int .i64 c.f8, .int .i64 c.f9, .int .i64 c.f10, .int .i64 c.f11], .slice A l.length cc] w fun e w' => e = .returned (.bool true) ∧ Below w.heap.size w w' := by
  obtain ⟨ck, hck, hci⟩ := chk_f c
  have HCk := Aside0.mk (fun W => ltkref1_Check.calls 20 c.f0 c.f1 c.f2 c.f3 c.f4 c.f5 c.f6 c.f7 c.f8 c.f9 c.f10 c.f11 _ W hck)
  have mixed : Try.prog.follows Departure.mixedOrders = true := by kernel_rfl
  have hu41 := Try.underlying41
  have hu38 := Try.underlying38
  have HB1 := Aside0.mk (below_alloc (Below.refl w.heap.size w) (.cells #[.int .i64 c.f0, .int .i64 c.f1, .int .i64 c.f2, .int .i64 c.f3, .int .i64 c.f4, .int .i64 c.f5, .int .i64 c.f6, .int .i64 c.f7, .int .i64 c.f8, .int .i64 c.f9, .int .i64 c.f10, .int .i64 c.f11] 41))
  have hx := blk_new w (.cells #[.int .i64 c.f0, .int .i64 c.f1, .int .i64 c.f2, .int .i64 c.f3, .int .i64 c.f4, .int .i64 c.f5, .int .i64 c.f6, .int .i64 c.f7, .int .i64 c.f8, .int .i64 c.f9, .int .i64 c.f10, .int .i64 c.f11] 41)
  obtain ⟨w1, hw1⟩ : ∃ W, w.alloc (.cells #[.int .i64 c.f0, .int .i64 c.f1, .int .i64 c.f2, .int .i64 c.f3, .int .i64 c.f4, .int .i64 c.f5, .int .i64 c.f6, .int .i64 c.f7, .int .i64 c.f8, .int .i64 c.f9, .int .i64 c.f10, .int .i64 c.f11] 41) = W := ⟨_, rfl⟩
  have HW1 := Aside0.mk hw1
  rw [hw1] at HB1 hx
  have S1 := Aside0.mk (show w.heap.size < w1.heap.size by rw [← hw1]; simp)
  have HX1 := Aside0.mk hx
  have X := Aside0.mk (fun W (hb : Below w1.heap.size w1 W) => (show W.cell? ⟨w.heap.size, 0, none⟩ = some (.int .i64 c.f0) ∧ W.cell? ⟨w.heap.size, 1, none⟩ = some (.int .i64 c.f1) ∧ W.cell? ⟨w.heap.size, 2, none⟩ = some (.int .i64 c.f2) ∧ W.cell? ⟨w.heap.size, 3, none⟩ = some (.int .i64 c.f3) ∧ W.cell? ⟨w.heap.size, 4, none⟩ = some (.int .i64 c.f4) ∧ W.cell? ⟨w.heap.size, 5, none⟩ = some (.int .i64 c.f5) ∧ W.cell? ⟨w.heap.size, 6, none⟩ = some (.int .i64 c.f6) ∧ W.cell? ⟨w.heap.size, 7, none⟩ = some (.int .i64 c.f7) ∧ W.cell? ⟨w.heap.size, 8, none⟩ = some (.int .i64 c.f8) ∧ W.cell? ⟨w.heap.size, 9, none⟩ = some (.int .i64 c.f9) ∧ W.cell? ⟨w.heap.size, 10, none⟩ = some (.int .i64 c.f10) ∧ W.cell? ⟨w.heap.size, 11, none⟩ = some (.int .i64 c.f11) from ⟨(hb.cell (p := ⟨w.heap.size, 0, none⟩) S1.out).trans ((blk_cell HX1.out 0).trans rfl), (hb.cell (p := ⟨w.heap.size, 1, none⟩) S1.out).trans ((blk_cell HX1.out 1).trans rfl), (hb.cell (p := ⟨w.heap.size, 2, none⟩) S1.out).trans ((blk_cell HX1.out 2).trans rfl), (hb.cell (p := ⟨w.heap.size, 3, none⟩) S1.out).trans ((blk_cell HX1.out 3).trans rfl), (hb.cell (p := ⟨w.heap.size, 4, none⟩) S1.out).trans ((blk_cell HX1.out 4).trans rfl), (hb.cell (p := ⟨w.heap.size, 5, none⟩) S1.out).trans ((blk_cell HX1.out 5).trans rfl), (hb.cell (p := ⟨w.heap.size, 6, none⟩) S1.out).trans ((blk_cell HX1.out 6).trans rfl), (hb.cell (p := ⟨w.heap.size, 7, none⟩) S1.out).trans ((blk_cell HX1.out 7).trans rfl), (hb.cell (p := ⟨w.heap.size, 8, none⟩) S1.out).trans ((blk_cell HX1.out 8).trans rfl), (hb.cell (p := ⟨w.heap.size, 9, none⟩) S1.out).trans ((blk_cell HX1.out 9).trans rfl), (hb.cell (p := ⟨w.heap.size, 10, none⟩) S1.out).trans ((blk_cell HX1.out 10).trans rfl), (hb.cell (p := ⟨w.heap.size, 11, none⟩) S1.out).trans ((blk_cell HX1.out 11).trans rfl)⟩))
  clear hx hw1
  by_cases hk : Okc c
  · obtain rfl := hci.2 hk
    have g1 : decide ((l.length : Int) > 100) = true := decide_eq_true (by have := h.resolve_left (fun h => h hk); omega)
    have g2 : decide (l.length > 100) = true := decide_eq_true (h.resolve_left (fun h => h hk))
    have g3 : decide (100 < l.length) = true := g2
    clear h hck hci hk
    go_enter Try.func7, Try.ntmps7
    go_wp2_with fail
    simp only [HW1.out]
    refine (firstP_ w1).mono ?_
    rintro e w2 ⟨rfl, hb⟩
    have HB2 := Aside0.mk hb
    clear hb
    obtain ⟨x0, x1, x2, x3, x4, x5, x6, x7, x8, x9, x10, x11⟩ := X.out _ HB2.out
    go_wp2_with fail
    refine (HCk.out w2).mono ?_
    rintro e w3 ⟨rfl, hb⟩
    have HB3 := Aside0.mk (below_then HB2.out HB2.out.size hb)
    clear hb x0 x1 x2 x3 x4 x5 x6 x7 x8 x9 x10 x11
    go_wp2_with fail
    refine (firstP_ _).mono ?_
    rintro e w9 ⟨rfl, hb⟩
    have HB9 := Aside0.mk (below_then HB1.out (Nat.le_of_lt S1.out) (below_then HB3.out (HB3.out).size hb))
    clear hb
    go_wp2
    go_ret
    exact ⟨rfl, HB9.out⟩
  · have g3 : (ck != 0) = true := bne_iff_ne.2 (fun e => hk (hci.1 e))
    clear h hck hci hk
    go_enter Try.func7, Try.ntmps7
    go_wp2_with fail
    simp only [HW1.out]
    refine (firstP_ w1).mono ?_
    rintro e w2 ⟨rfl, hb⟩
    have HB2 := Aside0.mk hb
    clear hb
    obtain ⟨x0, x1, x2, x3, x4, x5, x6, x7, x8, x9, x10, x11⟩ := X.out _ HB2.out
    go_wp2_with fail
    refine (HCk.out w2).mono ?_
    rintro e w3 ⟨rfl, hb⟩
    have HB3 := Aside0.mk (below_then HB2.out HB2.out.size hb)
    clear hb x0 x1 x2 x3 x4 x5 x6 x7 x8 x9 x10 x11
    go_wp2_with fail
    refine (firstP_ _).mono ?_
    rintro e w9 ⟨rfl, hb⟩
    have HB9 := Aside0.mk (below_then HB1.out (Nat.le_of_lt S1.out) (below_then HB3.out (HB3.out).size hb))
    clear hb
    go_wp2
    go_ret
    exact ⟨rfl, HB9.out⟩
set_option maxHeartbeats 8000000 in
set_option maxRecDepth 100000 in
theorem safe_in (c : Cf) (A : Option Addr) (cc : Nat) (l : List Int) (w : World) (hk : Okc c) (hr : Kd.C (Kd.int .i64) w A l.length l) (hc : l.length ≤ cc) (hl : ∀ x ∈ l, ok64 x) (h1 : l.length ≤ 100) :
    Calls Try.prog 7 #[.agg #[.int .i64 c.f0, .int .i64 c.f1, .int .i64 c.f2, .int .i64 c.f3, .int .i64 c.f4, .int .i64 c.f5, .int .i64 c.f6, .int .i64 c.f7, .int .i64 c.f8, .int .i64 c.f9, .int .i64 c.f10, .int .i64 c.f11], .slice A l.length cc] w fun e w' => e = .returned (.bool true) ∧ Below w.heap.size w w' := by
  obtain ⟨r, o, s, M, d⟩ := dim hk
  obtain ⟨ck, hck, hci⟩ := chk_f c
  obtain rfl := hci.2 hk
  have g1 : decide ((l.length : Int) > 100) = false := decide_eq_false (by omega)
  have g2 : decide (l.length > 100) = false := decide_eq_false (by omega)
  have HR := Aside0.mk hr
  have HW64 := Aside0.mk hl
  have HOk := Aside0.mk hk
  have HCk := Aside0.mk (fun W => ltkref1_Check.calls 20 c.f0 c.f1 c.f2 c.f3 c.f4 c.f5 c.f6 c.f7 c.f8 c.f9 c.f10 c.f11 _ W hck)
  have HWd := Aside0.mk (fun W => shape_Words.calls c.f0 c.f1 c.f2 c.f3 c.f4 c.f5 c.f6 c.f7 c.f8 c.f9 c.f10 c.f11 _ W (words_ok hk d))
  have HNd := Aside0.mk (fun W => shape_Nodes.calls c.f0 c.f1 c.f2 c.f3 c.f4 c.f5 c.f6 c.f7 c.f8 c.f9 c.f10 c.f11 _ W (nodes_ok hk d))
  have HWay := Aside0.mk (fun (a : Int) (h0 : 0 ≤ a) (h1 : a < M) => way_of hk d h0 h1)
  have HM := Aside0.mk (show 1 ≤ M by have := d.bn; omega)
  have br := d.br
  have bo := d.bo
  have bs := d.bs
  obtain ⟨N, hN⟩ : ∃ N, r + o + s = N := ⟨_, rfl⟩
  rw [hN] at HNd HWay
  have HN := Aside0.mk (show 1 ≤ N ∧ N ≤ 584 ∧ l.length ≤ 100 ∧ l.length ≤ cc by omega)
  have HNew := Aside0.mk (fun W => NewT_ N 4096 W (by have := HN.out; omega) (by have := HN.out; omega) (by decide) (by decide))
  clear hk d hck hci hr hc hl h1 br bo bs hN
  have mixed : Try.prog.follows Departure.mixedOrders = true := by kernel_rfl
  have hu41 := Try.underlying41
  have hu38 := Try.underlying38
  have HB1 := Aside0.mk (below_alloc (Below.refl w.heap.size w) (.cells #[.int .i64 c.f0, .int .i64 c.f1, .int .i64 c.f2, .int .i64 c.f3, .int .i64 c.f4, .int .i64 c.f5, .int .i64 c.f6, .int .i64 c.f7, .int .i64 c.f8, .int .i64 c.f9, .int .i64 c.f10, .int .i64 c.f11] 41))
  have hx := blk_new w (.cells #[.int .i64 c.f0, .int .i64 c.f1, .int .i64 c.f2, .int .i64 c.f3, .int .i64 c.f4, .int .i64 c.f5, .int .i64 c.f6, .int .i64 c.f7, .int .i64 c.f8, .int .i64 c.f9, .int .i64 c.f10, .int .i64 c.f11] 41)
  obtain ⟨w1, hw1⟩ : ∃ W, w.alloc (.cells #[.int .i64 c.f0, .int .i64 c.f1, .int .i64 c.f2, .int .i64 c.f3, .int .i64 c.f4, .int .i64 c.f5, .int .i64 c.f6, .int .i64 c.f7, .int .i64 c.f8, .int .i64 c.f9, .int .i64 c.f10, .int .i64 c.f11] 41) = W := ⟨_, rfl⟩
  have HW1 := Aside0.mk hw1
  rw [hw1] at HB1 hx
  have S1 := Aside0.mk (show w.heap.size < w1.heap.size by rw [← hw1]; simp)
  have HX1 := Aside0.mk hx
  have X := Aside0.mk (fun W (hb : Below w1.heap.size w1 W) => (show W.cell? ⟨w.heap.size, 0, none⟩ = some (.int .i64 c.f0) ∧ W.cell? ⟨w.heap.size, 1, none⟩ = some (.int .i64 c.f1) ∧ W.cell? ⟨w.heap.size, 2, none⟩ = some (.int .i64 c.f2) ∧ W.cell? ⟨w.heap.size, 3, none⟩ = some (.int .i64 c.f3) ∧ W.cell? ⟨w.heap.size, 4, none⟩ = some (.int .i64 c.f4) ∧ W.cell? ⟨w.heap.size, 5, none⟩ = some (.int .i64 c.f5) ∧ W.cell? ⟨w.heap.size, 6, none⟩ = some (.int .i64 c.f6) ∧ W.cell? ⟨w.heap.size, 7, none⟩ = some (.int .i64 c.f7) ∧ W.cell? ⟨w.heap.size, 8, none⟩ = some (.int .i64 c.f8) ∧ W.cell? ⟨w.heap.size, 9, none⟩ = some (.int .i64 c.f9) ∧ W.cell? ⟨w.heap.size, 10, none⟩ = some (.int .i64 c.f10) ∧ W.cell? ⟨w.heap.size, 11, none⟩ = some (.int .i64 c.f11) from ⟨(hb.cell (p := ⟨w.heap.size, 0, none⟩) S1.out).trans ((blk_cell HX1.out 0).trans rfl), (hb.cell (p := ⟨w.heap.size, 1, none⟩) S1.out).trans ((blk_cell HX1.out 1).trans rfl), (hb.cell (p := ⟨w.heap.size, 2, none⟩) S1.out).trans ((blk_cell HX1.out 2).trans rfl), (hb.cell (p := ⟨w.heap.size, 3, none⟩) S1.out).trans ((blk_cell HX1.out 3).trans rfl), (hb.cell (p := ⟨w.heap.size, 4, none⟩) S1.out).trans ((blk_cell HX1.out 4).trans rfl), (hb.cell (p := ⟨w.heap.size, 5, none⟩) S1.out).trans ((blk_cell HX1.out 5).trans rfl), (hb.cell (p := ⟨w.heap.size, 6, none⟩) S1.out).trans ((blk_cell HX1.out 6).trans rfl), (hb.cell (p := ⟨w.heap.size, 7, none⟩) S1.out).trans ((blk_cell HX1.out 7).trans rfl), (hb.cell (p := ⟨w.heap.size, 8, none⟩) S1.out).trans ((blk_cell HX1.out 8).trans rfl), (hb.cell (p := ⟨w.heap.size, 9, none⟩) S1.out).trans ((blk_cell HX1.out 9).trans rfl), (hb.cell (p := ⟨w.heap.size, 10, none⟩) S1.out).trans ((blk_cell HX1.out 10).trans rfl), (hb.cell (p := ⟨w.heap.size, 11, none⟩) S1.out).trans ((blk_cell HX1.out 11).trans rfl)⟩))
  clear hx hw1
  go_enter Try.func7, Try.ntmps7
  go_wp2_with fail
  simp only [HW1.out]
  refine (firstP_ w1).mono ?_
  rintro e w2 ⟨rfl, hb⟩
  have HB2 := Aside0.mk hb
  clear hb
  obtain ⟨x0, x1, x2, x3, x4, x5, x6, x7, x8, x9, x10, x11⟩ := X.out _ HB2.out
  go_wp2_with fail
  refine (HCk.out w2).mono ?_
  rintro e w3 ⟨rfl, hb⟩
  have HB3 := Aside0.mk (below_then HB2.out HB2.out.size hb)
  clear hb x0 x1 x2 x3 x4 x5 x6 x7 x8 x9 x10 x11
  obtain ⟨x0, x1, x2, x3, x4, x5, x6, x7, x8, x9, x10, x11⟩ := X.out _ HB3.out
  go_wp2_with fail
  refine (HNd.out w3).mono ?_
  rintro e w4 ⟨rfl, hb⟩
  have HB4 := Aside0.mk (below_then HB3.out HB3.out.size hb)
  clear hb HNd HCk g1 g2 x0 x1 x2 x3 x4 x5 x6 x7 x8 x9 x10 x11
  go_wp2_with fail
  refine (HNew.out w4).mono ?_
  rintro e w5 ⟨rfl, hT, hb⟩
  have T5 := Aside0.mk hT
  have C5 := Aside0.mk hb
  clear hT hb HNew
  generalize w4.heap.size + 1 = B at T5 ⊢
  obtain ⟨x0, x1, x2, x3, x4, x5, x6, x7, x8, x9, x10, x11⟩ := X.out _ (below_then HB4.out HB4.out.size C5.out)
  go_wp2_with fail
  refine (HWd.out w5).mono ?_
  rintro e w6 ⟨rfl, hb⟩
  have T6 := Aside0.mk (T5.out.below hb)
  have C6 := Aside0.mk (below_then C5.out C5.out.size hb)
  clear hb HWd T5 C5 x0 x1 x2 x3 x4 x5 x6 x7 x8 x9 x10 x11
  go_wp2_with fail
  go_loopg [8] l.length (fun gg q wr => ∃ (i m : Nat) (ls : List LS) (f : At), i ≤ l.length ∧ l.length - i ≤ gg ∧ q = .int .i64 i ∧ Aside0 (IsTab wr B (fun k => w4.heap.size ≤ k) ls 4096 m f) ∧ Aside0 (Below w4.heap.size w4 wr) ∧ Aside0 (PInv N m ls f ∧ m ≤ 6 * i))
  case atStart => exact ⟨0, 0, _, _, by omega, by omega, rfl, T6, C6, ⟨pinv_zero N, Nat.le_refl _⟩⟩
  case round =>
    clear T6 C6
    obtain ⟨i, m, ls, f, hi, hgg, rfl, HT, HC, HP⟩ := hrel
    by_cases hlt : i < l.length
    · have t1 : (i : Int) < l.length := by omega
      have t0 : 0 ≤ (i : Int) := by omega
      have HBw := Aside0.mk (below_then HB1.out (Nat.le_of_lt S1.out) (below_then HB4.out HB4.out.size HC.out))
      obtain ⟨ad, rfl, q0⟩ := Kd.at_int (Kd.C_below HR.out HBw.out) (i : Int) (by omega) (by omega)
      rw [Int.toNat_natCast, show rd l (i : Int) = l.getD i 0 from by simp [rd]] at q0
      have W3 := Aside0.mk (show wrap64 ((i : Int) + 1) = ((i + 1 : Nat) : Int) by have := HN.out; unfold wrap64; omega)
      have HLT := Aside0.mk (And.intro hlt hgg)
      have hx64 := HW64.out (l.getD i 0) (by rw [List.getD_eq_getElem?_getD, List.getElem?_eq_getElem hlt]; exact List.getElem_mem hlt)
      generalize l.getD i 0 = ac at q0 hx64
      clear hlt hgg hi
      by_cases hneg : ac < 0
      · have g0 : decide (ac < 0) = true := decide_eq_true hneg
        clear hneg
        go_wp2_with fail
        refine (firstP_ _).mono ?_
        rintro e w9 ⟨rfl, hb⟩
        have HB9 := Aside0.mk (below_then HB1.out (Nat.le_of_lt S1.out) (below_then (below_then HB4.out HB4.out.size HC.out) ((below_then HB4.out HB4.out.size HC.out)).size hb))
        clear hb
        go_wp2
        go_ret
        exact ⟨rfl, HB9.out⟩
      · have g0 : decide (ac < 0) = false := decide_eq_false hneg
        obtain ⟨wt, hwt⟩ : ∃ b, (Int.tmod (wrap64 (Int.tdiv ac 4)) 2 == 1) = b := ⟨_, rfl⟩
        obtain ⟨z17, hz17⟩ : ∃ b, (Int.tmod ac 17 == 0) = b := ⟨_, rfl⟩
        obtain ⟨who, hwho, hw1, hw2⟩ : ∃ k : Nat, Int.tmod ac 4 = (k : Int) ∧ k < 4 ∧ True := by
          have h1 := Int.tmod_nonneg 4 (show 0 ≤ ac by omega)
          have h2 := Int.tmod_lt_of_pos ac (show (0 : Int) < 4 by decide)
          exact ⟨(Int.tmod ac 4).toNat, by omega, by omega, trivial⟩
        obtain ⟨a, ha, ha0, ha1⟩ : ∃ a, Int.tmod (wrap64 (Int.tdiv ac 8)) (M : Int) = a ∧ 0 ≤ a ∧ a < M := by
          have h3 : 0 ≤ Int.tdiv ac 8 := Int.tdiv_nonneg (by omega) (by decide)
          have h4 : Int.tdiv ac 8 ≤ ac := by rw [Int.tdiv_eq_ediv_of_nonneg (by omega)]; omega
          have h5 : wrap64 (Int.tdiv ac 8) = Int.tdiv ac 8 := wrap_small h3 h4 hx64
          refine ⟨_, rfl, ?_, ?_⟩
          · rw [h5]; exact Int.tmod_nonneg _ h3
          · exact Int.tmod_lt_of_pos _ (by have := HM.out; omega)
        obtain ⟨v⟩ := HWay.out a ha0 ha1
        have HE := Aside0.mk (And.intro hwho (And.intro hwt (And.intro ha hz17)))
        have HWho := Aside0.mk (show 0 ≤ (who : Int) ∧ (who : Int) ≤ 3 by omega)
        have HWt := Aside0.mk (WaitsT_ HT.out (who : Int) (ok64_four HWho.out) (fun k h => HP.out.1.t.lt _ k h))
        have hm0 : (M : Int) ≠ 0 := by have := HM.out; omega
        have hm1 : ((M : Int) == 0) = false := beq_eq_false_iff_ne.2 hm0
        have hm2 : (M == 0) = false := beq_eq_false_iff_ne.2 (by have := HM.out; omega)
        clear hneg ha0 ha1 hw1 hw2 hx64 hwho hwt ha hz17
        cases hf : f (who : Int) with
        | some nn =>
          have hwv : waitsT ls f (who : Int) = ((nn : Int), toldIn (ls.getD nn zL).2 (who : Int), true) := by unfold waitsT; rw [hf]
          rw [hwv] at HWt
          generalize toldIn (ls.getD nn zL).2 (who : Int) = tq at HWt
          clear hf hwv
          obtain ⟨e1, e2, e3, e4⟩ := HE.out
          go_wp2_with fail
          refine HWt.out.mono ?_
          rintro e w7 ⟨rfl, hb⟩
          have HT7 := Aside0.mk ((HT.out.below hb).below (below_alloc (Below.refl _ _) (.cells #[.int .i64 (nn : Int), .int .i64 tq] 38)))
          have HC7 := Aside0.mk (below_alloc (below_then HC.out HC.out.size hb) (.cells #[.int .i64 (nn : Int), .int .i64 tq] 38))
          clear hb HWt q0 HT HC
          have HD := Aside0.mk (DropT_0 HT7.out HC7.out (by rw [HP.out.1.len]; have := HN.out; omega) (by rw [HP.out.1.len]; have := HN.out; omega) (HP.out.1.mS (by have := HP.out.2; have := HLT.out; have := HN.out; omega)) (who : Int) (ok64_four HWho.out) (HP.out.1.outs (who : Int)))
          go_wp2_with fail
          refine HD.out.mono ?_
          rintro e w8 ⟨A8, c8, rfl, -, -, hT, hb⟩
          have HT8 := Aside0.mk (hT.mono (F' := fun k => w4.heap.size ≤ k) (fun k _ hk => hk.1))
          have HC8 := Aside0.mk hb
          clear hT hb HD HT7 HC7 e1 e2 e3 e4
          go_wp2
          go_roundg (l.length - (i + 1))
          case measure => have := HLT.out; omega
          case rel => exact ⟨i + 1, m, _, _, by have := HLT.out; omega, by have := HLT.out; omega, by rw [W3.out], HT8, HC8, ⟨HP.out.1.drop (who : Int), by have := HP.out.2; omega⟩⟩
        | none =>
          have hwv : waitsT ls f (who : Int) = (0, 0, false) := by unfold waitsT; rw [hf]
          rw [hwv] at HWt
          have HF := Aside0.mk hf
          clear hf hwv
          obtain ⟨e1, e2, e3, e4⟩ := HE.out
          cases z17 with
          | true =>
            go_wp2_with fail
            refine HWt.out.mono ?_
            rintro e w7 ⟨rfl, hb⟩
            have HT7 := Aside0.mk ((HT.out.below hb).below (below_alloc (Below.refl _ _) (.cells #[.int .i64 0, .int .i64 0] 38)))
            have HC7 := Aside0.mk (below_alloc (below_then HC.out HC.out.size hb) (.cells #[.int .i64 0, .int .i64 0] 38))
            clear hb HWt q0 HT HC
            have HD := Aside0.mk (DropT_0 HT7.out HC7.out (by rw [HP.out.1.len]; have := HN.out; omega) (by rw [HP.out.1.len]; have := HN.out; omega) (HP.out.1.mS (by have := HP.out.2; have := HLT.out; have := HN.out; omega)) (who : Int) (ok64_four HWho.out) (HP.out.1.outs (who : Int)))
            go_wp2_with fail
            refine HD.out.mono ?_
            rintro e w8 ⟨A8, c8, rfl, -, -, hT, hb⟩
            have HT8 := Aside0.mk (hT.mono (F' := fun k => w4.heap.size ≤ k) (fun k _ hk => hk.1))
            have HC8 := Aside0.mk hb
            clear hT hb HD HT7 HC7 e1 e2 e3 e4
            go_wp2
            go_roundg (l.length - (i + 1))
            case measure => have := HLT.out; omega
            case rel => exact ⟨i + 1, m, _, _, by have := HLT.out; omega, by have := HLT.out; omega, by rw [W3.out], HT8, HC8, ⟨HP.out.1.drop (who : Int), by have := HP.out.2; omega⟩⟩
          | false =>
            go_wp2_with fail
            refine HWt.out.mono ?_
            rintro e w7 ⟨rfl, hb⟩
            have HT7 := Aside0.mk ((HT.out.below hb).below (below_alloc (Below.refl _ _) (.cells #[.int .i64 0, .int .i64 0] 38)))
            have HC7 := Aside0.mk (below_alloc (below_then HC.out HC.out.size hb) (.cells #[.int .i64 0, .int .i64 0] 38))
            clear hb HWt q0 HT HC
            go_wp2_with fail
            clear e1 e2 e3 e4
            go_loopg [15, 16] 6 (fun gg v15 v16 wr2 => ∃ (k m2 : Nat) (got : Bool) (ls2 : List LS) (f2 : At), k ≤ 4 ∧ 6 - k ≤ gg ∧ v15 = .bool got ∧ v16 = .int .i64 k ∧ Aside0 (IsTab wr2 B (fun k => w4.heap.size ≤ k) ls2 4096 m2 f2) ∧ Aside0 (Below w4.heap.size w4 wr2) ∧
              Aside0 (PInv N m2 ls2 f2 ∧ m2 ≤ 6 * i + k ∧ (got = true → f2 (who : Int) = none ∧ k + rem (holdsT ls2 (who : Int) v.x) (holdsT ls2 (who : Int) v.y) (holdsT ls2 (who : Int) v.z) wt ≤ 3)))
            case atStart => exact ⟨0, m, true, ls, f, by omega, by omega, rfl, rfl, HT7, HC7, ⟨HP.out.1, by have := HP.out.2; omega, fun _ => ⟨HF.out, by rw [Nat.zero_add]; exact rem_le _ _ _ _⟩⟩⟩
            case round =>
              clear HT7 HC7 HP HF
              obtain ⟨k, m2, got, ls2, f2, hk4, hgk, rfl, rfl, HT, HC, HP⟩ := hrel
              have t5 : (k : Int) < 6 := by omega
              cases got with
              | false =>
                go_wp2_with fail
                go_roundg (l.length - (i + 1))
                case measure => have := HLT.out; omega
                case rel => exact ⟨i + 1, m2, ls2, f2, by have := HLT.out; omega, by have := HLT.out; omega, by rw [W3.out], HT, HC, ⟨HP.out.1, by have := HP.out.2.1; omega⟩⟩
              | true =>
                obtain ⟨hfn, hrm⟩ := HP.out.2.2 rfl
                have HRm := Aside0.mk (And.intro hfn (And.intro hrm (And.intro hk4 hgk)))
                have HNx := Aside0.mk (NextT_ HT.out HP.out.1.t.inv (by rw [HP.out.1.len]; have := HN.out; omega) c (who : Int) a wt (lvC c) (paC c) (fun j _ => lvC_ok HOk.out j) (fun j _ => paC_ok HOk.out j) (v.x : Int) (v.y : Int) (v.z : Int) v.path _ rfl)
                have hno := next_no (x := (v.x : Int)) (y := (v.y : Int)) (z := (v.z : Int)) (hx := holdsT ls2 (who : Int) v.x) (hy := holdsT ls2 (who : Int) v.y) (hz := holdsT ls2 (who : Int) v.z) (esc := c.f9) (st := stripesT ls2 (who : Int) (lvC c) (paC c) (v.y : Int)) (w := wt)
                have hst := fun h => next_step v HP.out.1 (who := (who : Int)) (esc := c.f9) (w := wt) (st := stripesT ls2 (who : Int) (lvC c) (paC c) (v.y : Int)) h
                generalize nextT (v.x : Int) (v.y : Int) (v.z : Int) (holdsT ls2 (who : Int) v.x) (holdsT ls2 (who : Int) v.y) (holdsT ls2 (who : Int) v.z) c.f9 (stripesT ls2 (who : Int) (lvC c) (paC c) (v.y : Int)) wt = Rr at HNx hno hst
                obtain ⟨⟨p1, p2⟩, ok⟩ := Rr
                have t6 : ((k : Int) == 5) = false := beq_eq_false_iff_ne.2 (by omega)
                have t7 : (k == 5) = false := beq_eq_false_iff_ne.2 (by omega)
                have WK := Aside0.mk (show wrap64 ((k : Int) + 1) = ((k + 1 : Nat) : Int) by unfold wrap64; omega)
                clear hfn hrm hk4 hgk
                cases ok with
                | false =>
                  have HAb := Aside0.mk (show ableM (holdsT ls2 (who : Int) v.x) (holdsT ls2 (who : Int) v.y) (holdsT ls2 (who : Int) v.z) wt = true by
                    have h1 : false = !ableM (holdsT ls2 (who : Int) v.x) (holdsT ls2 (who : Int) v.y) (holdsT ls2 (who : Int) v.z) wt := hno
                    cases hb : ableM (holdsT ls2 (who : Int) v.x) (holdsT ls2 (who : Int) v.y) (holdsT ls2 (who : Int) v.z) wt with
                    | true => rfl
                    | false => rw [hb] at h1; cases h1)
                  have HOth := Aside0.mk (fun (q : Nat) (w2 : Bool) (hq : (q : Int) ≠ (who : Int)) (hw : (wt || w2) = true) => safe_others v HP.out.1 hq hw HAb.out)
                  have HAbl := Aside0.mk (fun (W : World) (q : Int) (w2 : Bool) (hT : IsTab W B (fun k => w4.heap.size ≤ k) ls2 4096 m2 f2) => able_ hT HP.out.1.t.inv (by rw [HP.out.1.len]; have := HN.out; omega) c HOk.out v q w2)
                  have HC4 := Aside0.mk (below_then HB4.out HB4.out.size HC.out)
                  clear hno hst
                  obtain ⟨x0, x1, x2, x3, x4, x5, x6, x7, x8, x9, x10, x11⟩ := X.out _ HC4.out
                  go_wp2_with fail
                  refine HNx.out.mono ?_
                  rintro e w11 ⟨rfl, hb⟩
                  have HT11 := Aside0.mk ((HT.out.below hb).below (below_alloc (Below.refl _ _) (.cells #[.int .i64 p1, .int .i64 p2] 38)))
                  have HC11 := Aside0.mk (below_alloc (below_then HC.out HC.out.size hb) (.cells #[.int .i64 p1, .int .i64 p2] 38))
                  clear hb HNx HT HC HC4 t5 t6 t7 x0 x1 x2 x3 x4 x5 x6 x7 x8 x9 x10 x11
                  dsimp only
                  go_wp2_with fail
                  go_loopg [24] 4 (fun gg v24 wr3 => ∃ q : Nat, q ≤ 4 ∧ 4 - q ≤ gg ∧ v24 = .int .i64 q ∧ Aside0 (IsTab wr3 B (fun k => w4.heap.size ≤ k) ls2 4096 m2 f2) ∧ Aside0 (Below w4.heap.size w4 wr3))
                  case atStart => exact ⟨0, by omega, by omega, rfl, HT11, HC11⟩
                  case round =>
                    clear HT11 HC11
                    obtain ⟨q, hq4, hgq, rfl, HT, HC⟩ := hrel
                    have HC4 := Aside0.mk (below_then HB4.out HB4.out.size HC.out)
                    obtain ⟨x0, x1, x2, x3, x4, x5, x6, x7, x8, x9, x10, x11⟩ := X.out _ HC4.out
                    by_cases hlq : q < 4
                    · have t5 : (q : Int) < 4 := by omega
                      have WQ := Aside0.mk (show wrap64 ((q : Int) + 1) = ((q + 1 : Nat) : Int) by unfold wrap64; omega)
                      have HQ4 := Aside0.mk (And.intro hlq hgq)
                      clear hlq hgq hq4
                      by_cases hqw : (q : Int) = (who : Int)
                      · have d1 : ((q : Int) != (who : Int)) = false := bne_eq_false_iff_eq.2 hqw
                        have d2 : (q != who) = false := bne_eq_false_iff_eq.2 (by omega)
                        clear hqw
                        clear x0 x1 x2 x3 x4 x5 x6 x7 x8 x9 x10 x11
                        go_wp2_with fail
                        go_roundg (4 - (q + 1))
                        case measure => have := HQ4.out; omega
                        case rel => exact ⟨q + 1, by have := HQ4.out; omega, by have := HQ4.out; omega, by first | (rw [WQ.out]; done) | (simp; done), HT, HC⟩
                      · have d1 : ((q : Int) != (who : Int)) = true := bne_iff_ne.2 hqw
                        have d2 : (q != who) = true := bne_iff_ne.2 (by omega)
                        have HA1 := Aside0.mk (HAbl.out _ (q : Int) true HT.out)
                        rw [HOth.out q true hqw (by simp)] at HA1
                        have HQw := Aside0.mk hqw
                        clear hqw
                        cases wt with
                        | false =>
                          go_wp2_with fail
                          refine HA1.out.mono ?_
                          rintro e w12 ⟨rfl, hb⟩
                          have HT12 := Aside0.mk (HT.out.below hb)
                          have HC12 := Aside0.mk (below_then HC.out HC.out.size hb)
                          clear hb HA1 HT HC HC4 x0 x1 x2 x3 x4 x5 x6 x7 x8 x9 x10 x11
                          go_wp2_with fail
                          go_roundg (4 - (q + 1))
                          case measure => have := HQ4.out; omega
                          case rel => exact ⟨q + 1, by have := HQ4.out; omega, by have := HQ4.out; omega, by first | (rw [WQ.out]; done) | (simp; done), HT12, HC12⟩
                        | true =>
                          go_wp2_with fail
                          refine HA1.out.mono ?_
                          rintro e w12 ⟨rfl, hb⟩
                          have HT12 := Aside0.mk (HT.out.below hb)
                          have HC12 := Aside0.mk (below_then HC.out HC.out.size hb)
                          have HA2 := Aside0.mk (HAbl.out _ (q : Int) false HT12.out)
                          rw [HOth.out q false HQw.out rfl] at HA2
                          clear hb HA1 HT HC HC4 x0 x1 x2 x3 x4 x5 x6 x7 x8 x9 x10 x11
                          obtain ⟨x0, x1, x2, x3, x4, x5, x6, x7, x8, x9, x10, x11⟩ := X.out _ (below_then HB4.out HB4.out.size HC12.out)
                          go_wp2_with fail
                          refine HA2.out.mono ?_
                          rintro e w13 ⟨rfl, hb⟩
                          have HT13 := Aside0.mk (HT12.out.below hb)
                          have HC13 := Aside0.mk (below_then HC12.out HC12.out.size hb)
                          clear hb HA2 HT12 HC12 x0 x1 x2 x3 x4 x5 x6 x7 x8 x9 x10 x11
                          go_wp2_with fail
                          go_roundg (4 - (q + 1))
                          case measure => have := HQ4.out; omega
                          case rel => exact ⟨q + 1, by have := HQ4.out; omega, by have := HQ4.out; omega, by first | (rw [WQ.out]; done) | (simp; done), HT13, HC13⟩
                    · obtain rfl : q = 4 := by omega
                      have HA1 := Aside0.mk (HAbl.out _ (who : Int) wt HT.out)
                      rw [HAb.out] at HA1
                      clear hlq hgq hq4
                      go_wp2_with fail
                      refine HA1.out.mono ?_
                      rintro e w12 ⟨rfl, hb⟩
                      have HT12 := Aside0.mk (HT.out.below hb)
                      have HC12 := Aside0.mk (below_then HC.out HC.out.size hb)
                      clear hb HA1 HT HC HC4 x0 x1 x2 x3 x4 x5 x6 x7 x8 x9 x10 x11
                      go_wp2_with fail
                      go_roundg (l.length - (i + 1))
                      case measure => have := HLT.out; omega
                      case rel => exact ⟨i + 1, m2, ls2, f2, by have := HLT.out; omega, by have := HLT.out; omega, by rw [W3.out], HT12, HC12, ⟨HP.out.1, by have := HP.out.2.1; have := HRm.out.2.2.1; omega⟩⟩
                | true =>
                  obtain ⟨nd, mo, hp, hnd, hmd, hm0', hlv, hdec⟩ := hst rfl
                  have hp1 : p1 = (nd : Int) := congrArg S38.f0 hp
                  have hp2 : p2 = mo := congrArg S38.f1 hp
                  subst hp1
                  subst hp2
                  have HDec := Aside0.mk hdec
                  have HMd := Aside0.mk (And.intro hnd (And.intro hmd hm0'))
                  have HLvc := Aside0.mk (fun W => shape_Level.calls 20 c.f0 c.f1 c.f2 c.f3 c.f4 c.f5 c.f6 c.f7 c.f8 c.f9 c.f10 c.f11 (nd : Int) _ W (lvC_ok HOk.out (nd : Int)))
                  have HPac := Aside0.mk (fun W => shape_Parent.calls 20 c.f0 c.f1 c.f2 c.f3 c.f4 c.f5 c.f6 c.f7 c.f8 c.f9 c.f10 c.f11 (nd : Int) _ W (paC_ok HOk.out (nd : Int)))
                  have HC4 := Aside0.mk (below_then HB4.out HB4.out.size HC.out)
                  clear hno hst hp hdec hnd hmd hm0'
                  obtain ⟨x0, x1, x2, x3, x4, x5, x6, x7, x8, x9, x10, x11⟩ := X.out _ HC4.out
                  go_wp2_with fail
                  refine HNx.out.mono ?_
                  rintro e w11 ⟨rfl, hb⟩
                  have Y := blk_new w11 (.cells #[.int .i64 (nd : Int), .int .i64 p2] 38)
                  have HY := Aside0.mk Y
                  have HT11 := Aside0.mk ((HT.out.below hb).below (below_alloc (Below.refl _ _) (.cells #[.int .i64 (nd : Int), .int .i64 p2] 38)))
                  have HC11 := Aside0.mk (below_alloc (below_then HC.out HC.out.size hb) (.cells #[.int .i64 (nd : Int), .int .i64 p2] 38))
                  have y0 : (w11.alloc (.cells #[.int .i64 (nd : Int), .int .i64 p2] 38)).cell? ⟨w11.heap.size, 0, none⟩ = some (.int .i64 (nd : Int)) := (blk_cell Y 0).trans rfl
                  clear hb HNx HT HC HC4 Y x0 x1 x2 x3 x4 x5 x6 x7 x8 x9 x10 x11
                  dsimp only
                  obtain ⟨x0, x1, x2, x3, x4, x5, x6, x7, x8, x9, x10, x11⟩ := X.out _ (below_then HB4.out HB4.out.size HC11.out)
                  go_wp2_with fail
                  refine (HLvc.out _).mono ?_
                  rintro e w12 ⟨rfl, hb⟩
                  have HY12 := Aside0.mk ((hb.block w11.heap.size (by simp)).trans HY.out)
                  have HT12 := Aside0.mk (HT11.out.below hb)
                  have HC12 := Aside0.mk (below_then HC11.out HC11.out.size hb)
                  clear hb HLvc HT11 HC11 HY y0 x0 x1 x2 x3 x4 x5 x6 x7 x8 x9 x10 x11
                  have y0 : w12.cell? ⟨w11.heap.size, 0, none⟩ = some (.int .i64 (nd : Int)) := (blk_cell HY12.out 0).trans rfl
                  obtain ⟨x0, x1, x2, x3, x4, x5, x6, x7, x8, x9, x10, x11⟩ := X.out _ (below_then HB4.out HB4.out.size HC12.out)
                  go_wp2_with fail
                  refine (HPac.out _).mono ?_
                  rintro e w13 ⟨rfl, hb⟩
                  have HY13 := Aside0.mk ((hb.block w11.heap.size (Array.getElem?_eq_some_iff.1 HY12.out).1).trans HY12.out)
                  have HT13 := Aside0.mk (HT12.out.below hb)
                  have HC13 := Aside0.mk (below_then HC12.out HC12.out.size hb)
                  clear hb HPac HT12 HC12 HY12 y0 x0 x1 x2 x3 x4 x5 x6 x7 x8 x9 x10 x11
                  have y1 : w13.cell? ⟨w11.heap.size, 1, none⟩ = some (.int .i64 p2) := (blk_cell HY13.out 1).trans rfl
                  have y1' := fun d os => cell_gr y1 d os
                  rcases hlv with hlv | ⟨hlv, up, hup, hcv⟩
                  · have d1 : decide (lvC c (nd : Int) > 0) = false := decide_eq_false (by omega)
                    clear hlv
                    generalize lvC c (nd : Int) = lv at d1 ⊢
                    generalize paC c (nd : Int) = pv
                    go_wp2_with fail
                    refine wp_region_gr mixed (by kernel_rfl) ?_
                    repeat (first | go_big_quiet_step (fail) | simp only [Bool.not_true, Bool.not_false])
                    refine wpQuiet_nil ?_
                    intro _ hw'
                    obtain ⟨⟨d, os⟩, rfl⟩ := hw'
                    have hgr := below_gr w13 d os
                    have HT14 := Aside0.mk (HT13.out.below hgr)
                    have HC14 := Aside0.mk (below_then HC13.out HC13.out.size hgr)
                    have HY14 := Aside0.mk ((hgr.block w11.heap.size (Array.getElem?_eq_some_iff.1 HY13.out).1).trans HY13.out)
                    clear y1 y1' hgr HT13 HC13 HY13
                    generalize grow (wat w13 d) os = w14 at HT14 HC14 HY14 ⊢
                    have y0 : w14.cell? ⟨w11.heap.size, 0, none⟩ = some (.int .i64 (nd : Int)) := (blk_cell HY14.out 0).trans rfl
                    have y1 : w14.cell? ⟨w11.heap.size, 1, none⟩ = some (.int .i64 p2) := (blk_cell HY14.out 1).trans rfl
                    have HA := Aside0.mk (AskT_0 HT14.out HC14.out (HP.out.1.small (by have := HP.out.2.1; have := HLT.out; have := HN.out; have := HRm.out.2.2.1; omega) (by have := HN.out; omega)) (by have := HP.out.2.1; have := HLT.out; have := HN.out; have := HRm.out.2.2.1; omega) (who : Int) (nd : Int) p2 (ok64_four HWho.out))
                    have HP2 := Aside0.mk (HP.out.1.ask HWho.out (nd : Int) p2)
                    obtain ⟨her, hres⟩ := HP.out.1.asked (by have := HN.out; omega) HWho.out HRm.out.1 HMd.out.1 HMd.out.2.1 HMd.out.2.2
                    generalize askT ls2 4096 f2 (who : Int) (nd : Int) p2 = Rk at HA HP2 her hres
                    obtain ⟨r, er, ls3, f3⟩ := Rk
                    dsimp only at her hres
                    subst her
                    rcases hres with ⟨hr, hf3, hh1, hh2⟩ | hr
                    · subst hr
                      have HD2 := Aside0.mk (And.intro hf3 (HDec.out ls3 hh1 hh2))
                      clear hf3 hh1 hh2
                      go_wp2_with fail
                      refine HA.out.mono ?_
                      rintro e w15 ⟨rfl, hT, hb⟩
                      have HT15 := Aside0.mk hT
                      have HC15 := Aside0.mk hb
                      clear hT hb HA y0 y1 HT14 HC14 HY14
                      dsimp only
                      go_wp2_with fail
                      go_roundg (6 - (k + 1))
                      case measure => have := HRm.out.2.2; omega
                      case rel => exact ⟨k + 1, m2 + 1, true, ls3, f3, by have := HRm.out.2.1; have := HD2.out.2; omega, by have := HRm.out.2.2; omega, rfl, by first | (rw [WK.out]; done) | (simp; done), HT15, HC15, ⟨HP2.out, by have := HP.out.2.1; omega, fun _ => ⟨by rw [HD2.out.1]; exact HRm.out.1, by have := HRm.out.2.1; have := HD2.out.2; omega⟩⟩⟩
                    · subst hr
                      go_wp2_with fail
                      refine HA.out.mono ?_
                      rintro e w15 ⟨rfl, hT, hb⟩
                      have HT15 := Aside0.mk hT
                      have HC15 := Aside0.mk hb
                      clear hT hb HA y0 y1 HT14 HC14 HY14
                      dsimp only
                      go_wp2_with fail
                      go_roundg (6 - (k + 1))
                      case measure => have := HRm.out.2.2; omega
                      case rel => exact ⟨k + 1, m2 + 1, false, ls3, f3, by have := HRm.out.2.1; omega, by have := HRm.out.2.2; omega, rfl, by first | (rw [WK.out]; done) | (simp; done), HT15, HC15, ⟨HP2.out, by have := HP.out.2.1; omega, fun h => by cases h⟩⟩
                  · have d1 : decide (lvC c (nd : Int) > 0) = true := decide_eq_true hlv
                    have K1 := Aside0.mk (fun (W : World) (hw : Below w13.heap.size w13 W) => HoldsT_ (HT13.out.below hw) (who : Int) (up : Int))
                    have K2 := Aside0.mk (fun (W : World) => Intent_M p2 W HMd.out.2.1)
                    have K3 := Aside0.mk (fun (W : World) => Covers_M (holdsT ls2 (who : Int) (up : Int)) (intM p2) W (told_md_T HP.out.1.t.inv _ _) (intent_md HMd.out.2.1))
                    rw [hcv] at K3
                    rw [hup]
                    clear hlv hup hcv
                    generalize holdsT ls2 (who : Int) (up : Int) = hh at K1 K3
                    generalize lvC c (nd : Int) = lv at d1 ⊢
                    generalize ((up : Nat) : Int) = pv at K1 ⊢
                    generalize intM p2 = im at K2 K3
                    go_wp2_with fail
                    refine wp_region_gr mixed (by kernel_rfl) ?_
                    repeat (first | go_big_quiet_step (first | exact Calls.gr_of (K1.out _ (below_gr _ _ _)) | exact Calls.gr_of (K2.out _) | exact Calls.gr_of (K3.out _)) | simp only [Bool.not_true, Bool.not_false])
                    refine wpQuiet_nil ?_
                    intro _ hw'
                    obtain ⟨⟨d, os⟩, rfl⟩ := hw'
                    have hgr := below_gr w13 d os
                    have HT14 := Aside0.mk (HT13.out.below hgr)
                    have HC14 := Aside0.mk (below_then HC13.out HC13.out.size hgr)
                    have HY14 := Aside0.mk ((hgr.block w11.heap.size (Array.getElem?_eq_some_iff.1 HY13.out).1).trans HY13.out)
                    clear y1 y1' hgr HT13 HC13 HY13
                    generalize grow (wat w13 d) os = w14 at HT14 HC14 HY14 ⊢
                    have y0 : w14.cell? ⟨w11.heap.size, 0, none⟩ = some (.int .i64 (nd : Int)) := (blk_cell HY14.out 0).trans rfl
                    have y1 : w14.cell? ⟨w11.heap.size, 1, none⟩ = some (.int .i64 p2) := (blk_cell HY14.out 1).trans rfl
                    have HA := Aside0.mk (AskT_0 HT14.out HC14.out (HP.out.1.small (by have := HP.out.2.1; have := HLT.out; have := HN.out; have := HRm.out.2.2.1; omega) (by have := HN.out; omega)) (by have := HP.out.2.1; have := HLT.out; have := HN.out; have := HRm.out.2.2.1; omega) (who : Int) (nd : Int) p2 (ok64_four HWho.out))
                    have HP2 := Aside0.mk (HP.out.1.ask HWho.out (nd : Int) p2)
                    obtain ⟨her, hres⟩ := HP.out.1.asked (by have := HN.out; omega) HWho.out HRm.out.1 HMd.out.1 HMd.out.2.1 HMd.out.2.2
                    generalize askT ls2 4096 f2 (who : Int) (nd : Int) p2 = Rk at HA HP2 her hres
                    obtain ⟨r, er, ls3, f3⟩ := Rk
                    dsimp only at her hres
                    subst her
                    rcases hres with ⟨hr, hf3, hh1, hh2⟩ | hr
                    · subst hr
                      have HD2 := Aside0.mk (And.intro hf3 (HDec.out ls3 hh1 hh2))
                      clear hf3 hh1 hh2
                      go_wp2_with fail
                      refine HA.out.mono ?_
                      rintro e w15 ⟨rfl, hT, hb⟩
                      have HT15 := Aside0.mk hT
                      have HC15 := Aside0.mk hb
                      clear hT hb HA y0 y1 HT14 HC14 HY14
                      dsimp only
                      go_wp2_with fail
                      go_roundg (6 - (k + 1))
                      case measure => have := HRm.out.2.2; omega
                      case rel => exact ⟨k + 1, m2 + 1, true, ls3, f3, by have := HRm.out.2.1; have := HD2.out.2; omega, by have := HRm.out.2.2; omega, rfl, by first | (rw [WK.out]; done) | (simp; done), HT15, HC15, ⟨HP2.out, by have := HP.out.2.1; omega, fun _ => ⟨by rw [HD2.out.1]; exact HRm.out.1, by have := HRm.out.2.1; have := HD2.out.2; omega⟩⟩⟩
                    · subst hr
                      go_wp2_with fail
                      refine HA.out.mono ?_
                      rintro e w15 ⟨rfl, hT, hb⟩
                      have HT15 := Aside0.mk hT
                      have HC15 := Aside0.mk hb
                      clear hT hb HA y0 y1 HT14 HC14 HY14
                      dsimp only
                      go_wp2_with fail
                      go_roundg (6 - (k + 1))
                      case measure => have := HRm.out.2.2; omega
                      case rel => exact ⟨k + 1, m2 + 1, false, ls3, f3, by have := HRm.out.2.1; omega, by have := HRm.out.2.2; omega, rfl, by first | (rw [WK.out]; done) | (simp; done), HT15, HC15, ⟨HP2.out, by have := HP.out.2.1; omega, fun h => by cases h⟩⟩
    · obtain rfl : i = l.length := by omega
      have t1 : ¬ (l.length : Int) < l.length := by omega
      clear hlt HT HP
      go_wp2_with fail
      refine (firstP_ _).mono ?_
      rintro e w9 ⟨rfl, hb⟩
      have HB9 := Aside0.mk (below_then HB1.out (Nat.le_of_lt S1.out) (below_then (below_then HB4.out HB4.out.size HC.out) ((below_then HB4.out HB4.out.size HC.out)).size hb))
      clear hb
      go_wp2
      go_ret
      exact ⟨rfl, HB9.out⟩
theorem safe_walk (c : Cf) (A : Option Addr) (cc : Nat) (l : List Int) (w : World) (hr : Kd.C (Kd.int .i64) w A l.length l) (hc : l.length ≤ cc) (hw : l.length ≤ maxLen) (hl : ∀ x ∈ l, ok64 x) :
    Calls Try.prog 7 #[.agg #[.int .i64 c.f0, .int .i64 c.f1, .int .i64 c.f2, .int .i64 c.f3, .int .i64 c.f4, .int .i64 c.f5, .int .i64 c.f6, .int .i64 c.f7, .int .i64 c.f8, .int .i64 c.f9, .int .i64 c.f10, .int .i64 c.f11], .slice A l.length cc] w fun e w' => e = .returned (.bool true) ∧ Below w.heap.size w w' := by
  by_cases hk : Okc c
  · by_cases h1 : l.length ≤ 100
    · exact safe_in c A cc l w hk hr hc hl h1
    · exact safe_bad c A cc l w (.inr (by omega))
  · exact safe_bad c A cc l w (.inl hk)
end Go.Proofs.Ytagdgkimjgomlaa.Ln
