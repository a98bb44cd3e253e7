import Derived.Test.YtkfhnicojokafaaGreatSb5
import Derived.Test.YtkfhnicojokafaaGreatSb6
import Derived.Lib.Hide
/- StmBad: the walk. -/
namespace Go.Proofs.YtkfhnicojokafaaGreat.Co
open Go.RowKit Go.Proofs.YtkfhnicojokafaaGreatW.PrintWords Go.Proofs.YtkfhnicojokafaaGreatW.PrintWords.Kd Go.Proofs.YtkfhnicojokafaaGreatW.PrintLast Go.Proofs.YtkfhnicojokafaaGreatW.PrintMore Go.Proofs.YtkfhnicojokafaaGreat.PMd Go.Proofs.YtkfhnicojokafaaGreat.Ln
set_option linter.unusedVariables false
set_option linter.unusedSimpArgs false
theorem infoT2 : (Tryz.prog.info? 32).map (fun i => (i.zero, i.size, i.bytes)) = some (some (.slice none 0 0), 1, 24) := by kernel_rfl
theorem infoT1 : (Tryz.prog.info? 31).map (fun i => (i.zero, i.size, i.bytes)) = some (some (.slice none 0 0), 1, 24) := by kernel_rfl
theorem infoIn : (Tryz.prog.info? 3).map (fun i => (i.zero, i.size, i.bytes)) = some (some (.int .i64 0), 1, 8) := by kernel_rfl
theorem bits_cases (h : Int) : bits .and .i64 h 3 = 0 ∨ bits .and .i64 h 3 = 1 ∨ bits .and .i64 h 3 = 2 ∨ bits .and .i64 h 3 = 3 := by
  unfold bits
  simp only
  generalize BitVec.ofInt IntKind.i64.bits h = a
  have h2 : (a &&& BitVec.ofInt IntKind.i64.bits 3).toNat ≤ 3 := by
    rw [BitVec.toNat_and]
    exact Nat.le_trans Nat.and_le_right (by decide)
  generalize (a &&& BitVec.ofInt IntKind.i64.bits 3).toNat = r at h2
  have : r = 0 ∨ r = 1 ∨ r = 2 ∨ r = 3 := by omega
  rcases this with e | e | e | e <;> subst e
  · exact .inl (by decide)
  · exact .inr (.inl (by decide))
  · exact .inr (.inr (.inl (by decide)))
  · exact .inr (.inr (.inr (by decide)))
theorem alloc3 (W : World) (a b c : Obj) : (((W.alloc a).alloc b).alloc c).heap[W.heap.size]? = some a ∧ (((W.alloc a).alloc b).alloc c).heap[W.heap.size + 1]? = some b ∧ (((W.alloc a).alloc b).alloc c).heap[W.heap.size + 1 + 1]? = some c ∧ Below W.heap.size W (((W.alloc a).alloc b).alloc c) := by
  have e1 : (W.alloc a).heap.size = W.heap.size + 1 := by simp
  have e2 : ((W.alloc a).alloc b).heap.size = W.heap.size + 1 + 1 := by simp
  refine ⟨?_, ?_, ?_, below_alloc (below_alloc (below_alloc (Below.refl _ _) _) _) _⟩
  · rw [Below.heap_alloc _ _ _ (by omega), Below.heap_alloc _ _ _ (by omega)]
    exact heap_alloc_new W a
  · rw [Below.heap_alloc _ _ _ (by omega), ← e1]
    exact heap_alloc_new _ b
  · rw [← e2]
    exact heap_alloc_new _ c
theorem C_jump {W : World} {z : Nat} (h : W.heap[z]? = some (.cells #[.int .i64 5, .int .i64 0, .int .i64 0, .int .i64 0, .slice none 0 0] 30 (0, 0))) : Kd.C k30 W (some ⟨z, 0, none⟩) 1 [⟨5, 0, 0, 0, []⟩] := by
  refine ⟨rfl, by omega, fun _ => ⟨_, rfl, fun j p hj => ?_⟩⟩
  have hj0 : j = 0 := by
    have := (List.getElem?_eq_some_iff.1 hj).1; simp at this; exact this
  subst hj0
  obtain rfl : (⟨5, 0, 0, 0, []⟩ : S30) = p := by simpa using hj
  refine ⟨[.int .i64 5, .int .i64 0, .int .i64 0, .int .i64 0, .slice none 0 0], rfl, k30_mk W _ (Nat.le_refl _) ⟨rfl, (by show 0 ≤ 9223372036854775807; omega), fun h => absurd h (Nat.lt_irrefl 0)⟩, fun i u hu => ?_⟩
  rw [Addr.add_lit]
  show W.cell? ⟨z, 0 + (0 * 5 + i), none⟩ = some u
  rw [Nat.zero_mul, Nat.zero_add, Nat.zero_add, blk_cell h i]
  simpa using hu
theorem check_jump {c : Cf} (hB : InB c.f0 c.f1 c.f2 c.f3 c.f4 c.f5 c.f6 c.f7 c.f8 c.f9 c.f10 c.f11) : prog_Check.f 9 c.f0 c.f1 c.f2 c.f3 c.f4 c.f5 c.f6 c.f7 c.f8 c.f9 c.f10 c.f11 [⟨5, 0, 0, 0, []⟩] = some 2 := by
  unfold prog_Check.f
  rw [chk_yes hB]
  simp [prog_Check.j0, prog_Check.l0, prog_may.f, prog_may.g, rd_T30]
/-- A row that a call makes. -/
def RowE (e : Nat) (W0 W : World) (n : Nat) (xs : List Value) (v : Value) : Prop := ∃ A c, v = .slice A n c ∧ Row W e 1 A n c xs ∧ (∀ k, blk A k → W0.heap.size ≤ k) ∧ Below W0.heap.size W0 W
theorem RowE.push {e : Nat} {W0 W w6 : World} {n : Nat} {xs : List Value} {u : Value} {A A2 : Option Addr} {c2 : Nat} (hk0 : ∀ k, blk A k → W0.heap.size ≤ k) (hb : Below W0.heap.size W0 W)
    (hR : Row w6 e 1 A2 (n + 1) c2 (xs ++ [u])) (hG : Grew (blk A) W w6) (hk : ∀ k, blk A2 k → blk A k ∨ W.heap.size ≤ k) : RowE e W0 w6 (n + 1) (xs ++ [u]) (.slice A2 (n + 1) c2) :=
  ⟨A2, c2, rfl, hR, fun k hk2 => (hk k hk2).elim (hk0 k) (fun h => Nat.le_trans hb.size h), hG.to_below hb hb.size hk0⟩
theorem copy_f0 (l : List Int) (hl : l.length ≤ 70000) : ltkref_Copy.f l = some l := by
  unfold ltkref_Copy.f
  simp only [Option.bind_some]
  rw [if_pos (by simp; omega)]
  simp
set_option maxHeartbeats 16000000 in
set_option maxRecDepth 100000 in
theorem bad_walk (c : Cf) (A : Option Addr) (cA : Nat) (heap : List Int) (how : Int) (w : World) (hA : (Kd.int .i64).C w A heap.length heap) (hcA : heap.length ≤ cA) (_hm : heap.length ≤ maxLen) :
    Calls Tryz.prog 3 #[.agg #[.int .i64 c.f0, .int .i64 c.f1, .int .i64 c.f2, .int .i64 c.f3, .int .i64 c.f4, .int .i64 c.f5, .int .i64 c.f6, .int .i64 c.f7, .int .i64 c.f8, .int .i64 c.f9, .int .i64 c.f10, .int .i64 c.f11], .slice A heap.length cA, .int .i64 how] w fun e w' => e = .returned (.bool true) ∧ Below w.heap.size w w' := by
  have hu := Tryz.underlying23
  have HA := Aside0.mk (And.intro hA hcA)
  have HBA := Aside0.mk (below_alloc (Below.refl w.heap.size w) (.cells #[.int .i64 c.f0, .int .i64 c.f1, .int .i64 c.f2, .int .i64 c.f3, .int .i64 c.f4, .int .i64 c.f5, .int .i64 c.f6, .int .i64 c.f7, .int .i64 c.f8, .int .i64 c.f9, .int .i64 c.f10, .int .i64 c.f11] 23))
  have BK := Aside0.mk (blk_new w (.cells #[.int .i64 c.f0, .int .i64 c.f1, .int .i64 c.f2, .int .i64 c.f3, .int .i64 c.f4, .int .i64 c.f5, .int .i64 c.f6, .int .i64 c.f7, .int .i64 c.f8, .int .i64 c.f9, .int .i64 c.f10, .int .i64 c.f11] 23))
  clear hA hcA
  go_enter Tryz.func3, Tryz.ntmps3
  go_wp2_with fail
  refine (stmFirst_ _).mono ?_
  rintro e w1 ⟨rfl, hb⟩
  have HB1 := Aside0.mk (below_then HBA.out HBA.out.size hb)
  have hk1 := (hb.block w.heap.size (by simp)).trans BK.out
  have HGL := Aside0.mk (Array.getElem?_eq_some_iff.1 hk1).1
  generalize hg : w.heap.size = g at hk1 HGL
  have HGW := Aside0.mk hg
  have HX := Aside0.mk (fun W (hb : Below w1.heap.size w1 W) => (show W.cell? ⟨g, 0, none⟩ = some (.int .i64 c.f0) ∧ W.cell? ⟨g, 1, none⟩ = some (.int .i64 c.f1) ∧ W.cell? ⟨g, 2, none⟩ = some (.int .i64 c.f2) ∧ W.cell? ⟨g, 3, none⟩ = some (.int .i64 c.f3) ∧ W.cell? ⟨g, 4, none⟩ = some (.int .i64 c.f4) ∧ W.cell? ⟨g, 5, none⟩ = some (.int .i64 c.f5) ∧ W.cell? ⟨g, 6, none⟩ = some (.int .i64 c.f6) ∧ W.cell? ⟨g, 7, none⟩ = some (.int .i64 c.f7) ∧ W.cell? ⟨g, 8, none⟩ = some (.int .i64 c.f8) ∧ W.cell? ⟨g, 9, none⟩ = some (.int .i64 c.f9) ∧ W.cell? ⟨g, 10, none⟩ = some (.int .i64 c.f10) ∧ W.cell? ⟨g, 11, none⟩ = some (.int .i64 c.f11) from by
    have h := (hb.block g HGL.out).trans hk1
    exact ⟨(blk_cell h 0).trans rfl, (blk_cell h 1).trans rfl, (blk_cell h 2).trans rfl, (blk_cell h 3).trans rfl, (blk_cell h 4).trans rfl, (blk_cell h 5).trans rfl, (blk_cell h 6).trans rfl, (blk_cell h 7).trans rfl, (blk_cell h 8).trans rfl, (blk_cell h 9).trans rfl, (blk_cell h 10).trans rfl, (blk_cell h 11).trans rfl⟩))
  clear hb hk1 hg
  (try rw [HGW.out])
  obtain ⟨x0, x1, x2, x3, x4, x5, x6, x7, x8, x9, x10, x11⟩ := HX.out _ (Below.refl _ _)
  by_cases hB : InB c.f0 c.f1 c.f2 c.f3 c.f4 c.f5 c.f6 c.f7 c.f8 c.f9 c.f10 c.f11
  case neg =>
    have HK := Aside0.mk (ltkref1_Check.calls 10 c.f0 c.f1 c.f2 c.f3 c.f4 c.f5 c.f6 c.f7 c.f8 c.f9 c.f10 c.f11 1 w1 ((ref_all c.f0 c.f1 c.f2 c.f3 c.f4 c.f5 c.f6 c.f7 c.f8 c.f9 c.f10 c.f11 (Nat.le_refl 10)).2 hB))
    clear hB
    go_wp2_with fail
    refine HK.out.mono ?_
    rintro e w2 ⟨rfl, hb⟩
    have HB2 := Aside0.mk (below_then HB1.out HB1.out.size hb)
    clear hb HK x0 x1 x2 x3 x4 x5 x6 x7 x8 x9 x10 x11
    go_wp2_with fail
    refine (stmFirst_ _).mono ?_
    rintro e w9 ⟨rfl, hb⟩
    have HB9 := Aside0.mk (below_then HB2.out HB2.out.size hb)
    clear hb
    go_wp2
    go_ret
    exact ⟨rfl, HB9.out⟩
  case pos =>
    have HK := Aside0.mk (ltkref1_Check.calls 10 c.f0 c.f1 c.f2 c.f3 c.f4 c.f5 c.f6 c.f7 c.f8 c.f9 c.f10 c.f11 0 w1 ((ref_all c.f0 c.f1 c.f2 c.f3 c.f4 c.f5 c.f6 c.f7 c.f8 c.f9 c.f10 c.f11 (Nat.le_refl 10)).1 hB))
    obtain ⟨n, hn, hwd, hrw⟩ := words_any c.f0 c.f1 c.f2 c.f3 c.f4 c.f5 c.f6 c.f7 c.f8 c.f9 c.f10 c.f11
    have HW := Aside0.mk (fun W => ltkref1_Words.calls 10 c.f0 c.f1 c.f2 c.f3 c.f4 c.f5 c.f6 c.f7 c.f8 c.f9 c.f10 c.f11 (n : Int) W hrw)
    have HBB := Aside0.mk (And.intro hB (And.intro hn hwd))
    clear hB hn hwd hrw
    go_wp2_with fail
    refine HK.out.mono ?_
    rintro e w2 ⟨rfl, hb⟩
    have H12 := Aside0.mk hb
    have HB2 := Aside0.mk (below_then HB1.out HB1.out.size hb)
    clear hb HK x0 x1 x2 x3 x4 x5 x6 x7 x8 x9 x10 x11
    obtain ⟨x0, x1, x2, x3, x4, x5, x6, x7, x8, x9, x10, x11⟩ := HX.out _ H12.out
    go_wp2_with fail
    refine (HW.out _).mono ?_
    rintro e w3 ⟨rfl, hb⟩
    have H13 := Aside0.mk (below_then H12.out H12.out.size hb)
    have HB3 := Aside0.mk (below_then HB2.out HB2.out.size hb)
    clear hb HW x0 x1 x2 x3 x4 x5 x6 x7 x8 x9 x10 x11
    by_cases hl : heap.length = n
    case neg =>
      have e1 : ((heap.length : Int) != (n : Int)) = true := by simp; omega
      have e2 : (heap.length != n) = true := by simp; omega
      clear hl
      go_wp2_with fail
      refine (stmFirst_ _).mono ?_
      rintro e w9 ⟨rfl, hb⟩
      have HB9 := Aside0.mk (below_then HB3.out HB3.out.size hb)
      clear hb
      go_wp2
      go_ret
      exact ⟨rfl, HB9.out⟩
    case pos =>
      have e1 : ((heap.length : Int) != (n : Int)) = false := by simp; omega
      have e2 : (heap.length != n) = false := by simp; omega
      have HL := Aside0.mk hl
      have hmk := print_make_int (P := Tryz.prog) 33 32 (.slice none 0 0) 24 Tryz.underlying33 infoT2 rfl (by omega) 0 (by omega) (by omega)
      clear hl
      obtain ⟨aI, aJ, aT, b34⟩ := alloc3 w3 (.cells #[.int .i64 3, .int .i64 0, .int .i64 0, .int .i64 0, .slice none 0 0] 30) (.cells #[.slice (some ⟨w3.heap.size, 0, none⟩) 1 1] 31) (.cells (madeCells #[.slice none 0 0] 0) 32)
      have HI4 := Aside0.mk aI
      have HJ4 := Aside0.mk aJ
      have HB34 := Aside0.mk b34
      have HRT := Aside0.mk (show RowE 32 w3 (((w3.alloc (.cells #[.int .i64 3, .int .i64 0, .int .i64 0, .int .i64 0, .slice none 0 0] 30)).alloc (.cells #[.slice (some ⟨w3.heap.size, 0, none⟩) 1 1] 31)).alloc (.cells (madeCells #[.slice none 0 0] 0) 32)) 0 [] (.slice (some ⟨w3.heap.size + 1 + 1, 0, none⟩) 0 0) from
        ⟨_, 0, rfl, ⟨rfl, Nat.le_refl _, Nat.zero_le _, .inr ⟨w3.heap.size + 1 + 1, 0, _, rfl, aT, by omega, by simp⟩⟩, fun k ⟨a, h, h2⟩ => by cases h; have h3 : w3.heap.size + 1 + 1 = k := h2; omega, b34⟩)
      obtain ⟨m0, sz, nd, hcg⟩ := conf_good HBB.out.1
      have HCG := Aside0.mk (show 1 ≤ m0 ∧ m0 ≤ sz ∧ sz ≤ 65536 ∧ 1 ≤ nd ∧ nd ≤ 10000 ∧ shape_Words.f c.f0 c.f1 c.f2 c.f3 c.f4 c.f5 c.f6 c.f7 c.f8 c.f9 c.f10 c.f11 = some (m0 : Int) ∧ shape_Cells.f c.f0 c.f1 c.f2 c.f3 c.f4 c.f5 c.f6 c.f7 c.f8 c.f9 c.f10 c.f11 = some (sz : Int) ∧ shape_Nodes.f c.f0 c.f1 c.f2 c.f3 c.f4 c.f5 c.f6 c.f7 c.f8 c.f9 c.f10 c.f11 = some (nd : Int) from hcg)
      have HMN := Aside0.mk (show m0 = n by have h1 := hcg.2.2.2.2.2.1; have h2 := HBB.out.2.2; rw [h1] at h2; injection h2 with h2; omega)
      clear aI aJ aT b34 hcg
      rcases bits_cases how with hk | hk | hk | hk
      · go_wp2_with fail
        refine (ltkref_Copy.calls A cA heap heap _ (Kd.C_below HA.out.1 (below_then HB3.out HB3.out.size HB34.out)) HA.out.2 (copy_f0 heap (by have := HL.out; have := HBB.out.2.1; omega))).mono ?_
        rintro e w5 ⟨v0, rfl, hR, hb⟩
        have HR5 := Aside0.mk (Kd.R_below hR (below_alloc (Below.refl w5.heap.size w5) (.cells #[.int .i64 0] 3)))
        have H35 := Aside0.mk (below_then HB34.out HB34.out.size hb)
        have HB5 := Aside0.mk (below_alloc hb (.cells #[.int .i64 0] 3))
        clear hR hb
        go_wp2_with (at_builtin; refine R_append_rows (Kd.int .i64) (w0 := (((w3.alloc (.cells #[.int .i64 3, .int .i64 0, .int .i64 0, .int .i64 0, .slice none 0 0] 30)).alloc (.cells #[.slice (some ⟨w3.heap.size, 0, none⟩) 1 1] 31)).alloc (.cells (madeCells #[.slice none 0 0] 0) 32))) (Rr := (Kd.int .i64).K (w5.alloc (.cells #[.int .i64 0] 3))) ((((w3.alloc (.cells #[.int .i64 3, .int .i64 0, .int .i64 0, .int .i64 0, .slice none 0 0] 30)).alloc (.cells #[.slice (some ⟨w3.heap.size, 0, none⟩) 1 1] 31)).alloc (.cells (madeCells #[.slice none 0 0] 0) 32))).heap.size rfl _ _ 24 3 (.int .i64 0) 8 rfl Tryz.underlying24 infoIn rfl (by decide) (by decide) v0 heap [0] (some ⟨w5.heap.size, 0, none⟩) 1 1 (fun _ => True) (fun _ => False) (by simp [Act.eval, Act.put]) (by simp [Act.eval, Act.put]) HR5.out (ints_lit w5 [0] (by simp)) (fun _ _ hk => hk) (fun _ hk => hk.elim) (fun _ _ => trivial) HB5.out HB5.out.size (by have := HL.out; have := HBB.out.2.1; omega) ?_; refine Hid.out ?_)
        refine Lib.hid ?_
        intro v1 w7 hR7 hb7 _ _
        obtain ⟨A', c', rfl⟩ := R_slice hR7
        have H3N := Aside0.mk (show Below w3.heap.size w3 w7 by refine below_then HB34.out HB34.out.size ?_; simpa using hb7)
        have H1N := Aside0.mk (below_then H13.out H13.out.size H3N.out)
        have HBN := Aside0.mk (below_then HB3.out HB3.out.size H3N.out)
        obtain ⟨hl, hhl⟩ : ∃ k, (heap ++ [0]).length = k := ⟨_, rfl⟩
        rw [hhl]
        have HHL := Aside0.mk (show hl = heap.length + 1 by rw [← hhl]; simp)
        clear hR7 hb7 hhl
        obtain ⟨x0, x1, x2, x3, x4, x5, x6, x7, x8, x9, x10, x11⟩ := HX.out _ H1N.out
        go_wp2_with fail
        refine (stmHeap_ c A' c' hl w7 (n : Int) HBB.out.1 HBB.out.2.2 (by have := HHL.out; have := HL.out; omega) (some ⟨w3.heap.size + 1 + 1, 0, none⟩) 0 0).mono ?_
        rintro e w8 ⟨rfl, hb⟩
        have HB8 := Aside0.mk (below_then HBN.out HBN.out.size hb)
        clear hb x0 x1 x2 x3 x4 x5 x6 x7 x8 x9 x10 x11
        go_wp2_with fail
        refine (stmFirst_ _).mono ?_
        rintro e w9 ⟨rfl, hb⟩
        have HB9 := Aside0.mk (below_then HB8.out HB8.out.size hb)
        clear hb
        go_wp2
        go_ret
        exact ⟨rfl, HB9.out⟩
      · obtain ⟨f, hf, hf1⟩ : ∃ f : Nat, c.f4 = f ∧ f ≤ 64 := ⟨c.f4.toNat, by have := HBB.out.1.2.2.2.2.1; omega, by have := HBB.out.1.2.2.2.2.1; omega⟩
        have HFF := Aside0.mk (And.intro hf hf1)
        clear hf hf1
        go_wp2_with fail
        go_loopg [8, 10] (f + 1) (fun gg v8 v10 wr => ∃ i : Nat, i ≤ f + 1 ∧ f + 1 - i ≤ gg ∧ v10 = .int .i64 i ∧ Aside0 (∃ xs, RowE 32 w3 wr i xs v8))
        case atStart => exact ⟨0, by omega, by omega, rfl, ⟨[], HRT.out⟩⟩
        case round =>
          obtain ⟨i, hi, hgg, rfl, HO⟩ := hrel
          obtain ⟨xs, At, ct, rfl, hRt, hkt, hbt⟩ := HO.out
          have H1R := Aside0.mk (below_then H13.out H13.out.size hbt)
          have x4 : wr.cell? ⟨g, 4, none⟩ = some (.int .i64 c.f4) := (HX.out _ H1R.out).2.2.2.2.1
          rw [HFF.out.1] at x4
          by_cases hlt : i < f + 1
          · have t1 : (i : Int) ≤ (f : Int) := by omega
            have HRA := Aside0.mk (hRt.alloc (.cells #[.slice (some ⟨w3.heap.size + 1, 0, none⟩) 1 1] 32))
            have BS := Aside0.mk (blk_new wr (.cells #[.slice (some ⟨w3.heap.size + 1, 0, none⟩) 1 1] 32))
            have HKT := Aside0.mk (And.intro hkt (below_alloc hbt (.cells #[.slice (some ⟨w3.heap.size + 1, 0, none⟩) 1 1] 32)))
            have HJ := Aside0.mk (And.intro hlt hgg)
            have W3 := Aside0.mk (show wrap64 ((i : Int) + 1) = ((i + 1 : Nat) : Int) by have := HFF.out; unfold wrap64; omega)
            clear hRt hkt hbt hlt hgg hi HO
            go_wp2_with (at_builtin; refine wpList_append_info rfl _ _ 33 rfl 32 _ 1 24 Tryz.underlying33 infoT2 rfl At i ct xs (by simp [Act.eval, Act.put]) HRA.out ⟨wr.heap.size, 0, none⟩ 1 1 [.slice (some ⟨w3.heap.size + 1, 0, none⟩) 1 1] (by simp [Act.eval, Act.put]) rfl (one_at0 BS.out) (by simp [Value.oneCell']) (by have := HJ.out; have := HFF.out; unfold maxLen; omega) (by have := HJ.out; have := HFF.out; omega) ?_; refine Hid.out ?_)
            refine Lib.hid ?_
            intro A2 c2 w6 hR6 hG6 hk6
            have HO6 := Aside0.mk (RowE.push (W := wr.alloc (.cells #[.slice (some ⟨w3.heap.size + 1, 0, none⟩) 1 1] 32)) HKT.out.1 HKT.out.2 hR6 hG6 (by simpa using hk6))
            clear hR6 hG6 hk6
            go_wp2
            go_roundg (f + 1 - (i + 1))
            case measure => have := HJ.out; omega
            case rel => exact ⟨i + 1, by have := HJ.out; omega, by have := HJ.out; omega, by first | rfl | rw [W3.out], ⟨_, HO6.out⟩⟩
          · obtain rfl : i = f + 1 := by omega
            have t1 : ¬ (((f + 1 : Nat) : Int) ≤ (f : Int)) := by omega
            have t1b : decide (((f + 1 : Nat) : Int) ≤ (f : Int)) = false := decide_eq_false t1
            have t1c : decide ((f : Int) + 1 ≤ (f : Int)) = false := decide_eq_false (by omega)
            have t1e : decide (((f + 1 : Nat) : Int) ≤ c.f4) = false := by rw [HFF.out.1]; exact t1b
            have t1f : decide ((f : Int) + 1 ≤ c.f4) = false := by rw [HFF.out.1]; exact t1c
            have t1g : ¬ ((f : Int) + 1 ≤ c.f4) := of_decide_eq_false t1f
            have t1d : decide (f + 1 ≤ f) = false := decide_eq_false (by omega)
            have H1N := H1R
            have HBN := Aside0.mk (below_then HB3.out HB3.out.size hbt)
            clear hRt hkt hbt hlt hgg hi x4
            obtain ⟨x0, x1, x2, x3, x4, x5, x6, x7, x8, x9, x10, x11⟩ := HX.out _ H1N.out
            go_wp2_with fail
            refine (stmMany_ c A cA heap wr sz nd (Kd.C_below HA.out.1 HBN.out) HA.out.2 HBB.out.1 (by have h := HBB.out.2.2; rwa [← HL.out] at h) HCG.out.2.2.2.2.2.2.1 HCG.out.2.2.2.2.2.2.2 (by have := HCG.out.1; have := HL.out; have := HMN.out; omega) (by have := HCG.out.2.1; have := HL.out; have := HMN.out; omega) HCG.out.2.2.1 HCG.out.2.2.2.1 HCG.out.2.2.2.2.1 At (f + 1) ct (by rw [HFF.out.1]; omega)).mono ?_
            rintro e w8 ⟨rfl, hb⟩
            have HB8 := Aside0.mk (below_then HBN.out HBN.out.size hb)
            clear hb x0 x1 x2 x3 x4 x5 x6 x7 x8 x9 x10 x11
            go_wp2_with fail
            refine (stmFirst_ _).mono ?_
            rintro e w9 ⟨rfl, hb⟩
            have HB9 := Aside0.mk (below_then HB8.out HB8.out.size hb)
            clear hb
            go_wp2
            go_ret
            exact ⟨rfl, HB9.out⟩
      · go_wp2_with fail
        go_loopg [11, 12] 21 (fun gg v11 v12 wr => ∃ i : Nat, i ≤ 21 ∧ 21 - i ≤ gg ∧ v12 = .int .i64 i ∧ Aside0 (∃ xs, RowE 31 (((w3.alloc (.cells #[.int .i64 3, .int .i64 0, .int .i64 0, .int .i64 0, .slice none 0 0] 30)).alloc (.cells #[.slice (some ⟨w3.heap.size, 0, none⟩) 1 1] 31)).alloc (.cells (madeCells #[.slice none 0 0] 0) 32)) wr i xs v11))
        case atStart => exact ⟨0, by omega, by omega, rfl, ⟨[], none, 0, rfl, Row.zero _ _ _, fun k ⟨a, h, _⟩ => (by cases h), Below.refl _ _⟩⟩
        case round =>
          obtain ⟨i, hi, hgg, rfl, HO⟩ := hrel
          obtain ⟨xs, At, ct, rfl, hRt, hkt, hbt⟩ := HO.out
          have hj := (hbt.block _ (Array.getElem?_eq_some_iff.1 HJ4.out).1).trans HJ4.out
          have j0 : wr.cell? ⟨w3.heap.size + 1, 0, none⟩ = some (.slice (some ⟨w3.heap.size, 0, none⟩) 1 1) := (blk_cell hj 0).trans rfl
          have H3R := Aside0.mk (below_then HB34.out HB34.out.size hbt)
          by_cases hlt : i < 21
          · have t1 : (i : Int) ≤ 20 := by omega
            have HRA := Aside0.mk (hRt.alloc (.cells #[.slice (some ⟨w3.heap.size, 0, none⟩) 1 1] 31))
            have BS := Aside0.mk (blk_new wr (.cells #[.slice (some ⟨w3.heap.size, 0, none⟩) 1 1] 31))
            have HKT := Aside0.mk (And.intro hkt (below_alloc hbt (.cells #[.slice (some ⟨w3.heap.size, 0, none⟩) 1 1] 31)))
            have HJ := Aside0.mk (And.intro hlt hgg)
            have W3 := Aside0.mk (show wrap64 ((i : Int) + 1) = ((i + 1 : Nat) : Int) by unfold wrap64; omega)
            clear hRt hkt hbt hlt hgg hi HO hj
            go_wp2_with (at_builtin; refine wpList_append_info rfl _ _ 32 rfl 31 _ 1 24 Tryz.underlying32 infoT1 rfl At i ct xs (by simp [Act.eval, Act.put]) HRA.out ⟨wr.heap.size, 0, none⟩ 1 1 [.slice (some ⟨w3.heap.size, 0, none⟩) 1 1] (by simp [Act.eval, Act.put]) rfl (one_at0 BS.out) (by simp [Value.oneCell']) (by have := HJ.out; unfold maxLen; omega) (by have := HJ.out; omega) ?_; refine Hid.out ?_)
            refine Lib.hid ?_
            intro A2 c2 w6 hR6 hG6 hk6
            have HO6 := Aside0.mk (RowE.push (W := wr.alloc (.cells #[.slice (some ⟨w3.heap.size, 0, none⟩) 1 1] 31)) HKT.out.1 HKT.out.2 hR6 hG6 (by simpa using hk6))
            clear hR6 hG6 hk6
            go_wp2
            go_roundg (21 - (i + 1))
            case measure => have := HJ.out; omega
            case rel => exact ⟨i + 1, by have := HJ.out; omega, by have := HJ.out; omega, by first | rfl | rw [W3.out], ⟨_, HO6.out⟩⟩
          · obtain rfl : i = 21 := by omega
            obtain ⟨Ae, ce, hee, hRe, hke, hbe⟩ := HRT.out
            cases hee
            have HRA := Aside0.mk ((hRe.below hbt).alloc (.cells #[.slice At 21 ct] 32))
            have BS := Aside0.mk (blk_new wr (.cells #[.slice At 21 ct] 32))
            have HKT := Aside0.mk (And.intro hke (below_alloc H3R.out (.cells #[.slice At 21 ct] 32)))
            clear hRt hkt hbt hlt hgg hi HO hj j0 hRe hke hbe
            go_wp2_with (at_builtin; refine wpList_append_info rfl _ _ 33 rfl 32 _ 1 24 Tryz.underlying33 infoT2 rfl (some ⟨w3.heap.size + 1 + 1, 0, none⟩) 0 0 [] (by simp [Act.eval, Act.put]) HRA.out ⟨wr.heap.size, 0, none⟩ 1 1 [.slice At 21 ct] (by simp [Act.eval, Act.put]) rfl (one_at0 BS.out) (by simp [Value.oneCell']) (by have := HL.out; unfold maxLen; omega) (by have := HL.out; omega) ?_; refine Hid.out ?_)
            refine Lib.hid ?_
            intro A2 c2 w6 hR6 hG6 hk6
            have H3N := Aside0.mk (hG6.to_below HKT.out.2 HKT.out.2.size HKT.out.1)
            have H1N := Aside0.mk (below_then H13.out H13.out.size H3N.out)
            have HBN := Aside0.mk (below_then HB3.out HB3.out.size H3N.out)
            obtain ⟨g2, off, cur, rfl, _, _, hcl⟩ := hR6.at_ (by omega)
            have hx6 := (hcl 0 _ (by simp; rfl)).1
            rw [Nat.add_zero] at hx6
            have HX6 := Aside0.mk hx6
            clear hR6 hG6 hk6 hcl hx6
            obtain ⟨x0, x1, x2, x3, x4, x5, x6, x7, x8, x9, x10, x11⟩ := HX.out _ H1N.out
            go_wp2_with fail
            refine (stmProgs_ c A cA heap w6 sz nd (Kd.C_below HA.out.1 HBN.out) HA.out.2 HBB.out.1 (by have h := HBB.out.2.2; rwa [← HL.out] at h) HCG.out.2.2.2.2.2.2.1 HCG.out.2.2.2.2.2.2.2 (by have := HCG.out.1; have := HL.out; have := HMN.out; omega) (by have := HCG.out.2.1; have := HL.out; have := HMN.out; omega) HCG.out.2.2.1 HCG.out.2.2.2.1 HCG.out.2.2.2.2.1 g2 off 21 ct c2 At HX6.out (by omega)).mono ?_
            rintro e w8 ⟨rfl, hb⟩
            have HB8 := Aside0.mk (below_then HBN.out HBN.out.size hb)
            clear hb x0 x1 x2 x3 x4 x5 x6 x7 x8 x9 x10 x11
            go_wp2_with fail
            refine (stmFirst_ _).mono ?_
            rintro e w9 ⟨rfl, hb⟩
            have HB9 := Aside0.mk (below_then HB8.out HB8.out.size hb)
            clear hb
            go_wp2
            go_ret
            exact ⟨rfl, HB9.out⟩
      · obtain ⟨aZ, aY, aU, b47⟩ := alloc3 (((w3.alloc (.cells #[.int .i64 3, .int .i64 0, .int .i64 0, .int .i64 0, .slice none 0 0] 30)).alloc (.cells #[.slice (some ⟨w3.heap.size, 0, none⟩) 1 1] 31)).alloc (.cells (madeCells #[.slice none 0 0] 0) 32)) (.cells #[.int .i64 5, .int .i64 0, .int .i64 0, .int .i64 0, .slice none 0 0] 30) (.cells #[.slice (some ⟨w3.heap.size + 1 + 1 + 1, 0, none⟩) 1 1] 31) (.cells #[.slice (some ⟨w3.heap.size + 1 + 1 + 1 + 1, 0, none⟩) 1 1] 32)
        rw [show (((w3.alloc (.cells #[.int .i64 3, .int .i64 0, .int .i64 0, .int .i64 0, .slice none 0 0] 30)).alloc (.cells #[.slice (some ⟨w3.heap.size, 0, none⟩) 1 1] 31)).alloc (.cells (madeCells #[.slice none 0 0] 0) 32)).heap.size = w3.heap.size + 1 + 1 + 1 by simp] at aZ aY aU
        obtain ⟨Ae, ce, hee, hRe, hke, hbe⟩ := HRT.out
        cases hee
        have HRA := Aside0.mk (hRe.below b47)
        have BS := Aside0.mk aU
        have HZY := Aside0.mk (And.intro aZ aY)
        have HKT := Aside0.mk (And.intro hke (below_then HB34.out HB34.out.size b47))
        clear aZ aY aU b47 hRe hke hbe
        go_wp2_with (at_builtin; refine wpList_append_info rfl _ _ 33 rfl 32 _ 1 24 Tryz.underlying33 infoT2 rfl (some ⟨w3.heap.size + 1 + 1, 0, none⟩) 0 0 [] (by simp [Act.eval, Act.put]) HRA.out ⟨w3.heap.size + 1 + 1 + 1 + 1 + 1, 0, none⟩ 1 1 [.slice (some ⟨w3.heap.size + 1 + 1 + 1 + 1, 0, none⟩) 1 1] (by simp [Act.eval, Act.put]) rfl (one_at0 BS.out) (by simp [Value.oneCell']) (by have := HL.out; unfold maxLen; omega) (by have := HL.out; omega) ?_; refine Hid.out ?_)
        refine Lib.hid ?_
        intro A2 c2 w6 hR6 hG6 hk6
        have H3N := Aside0.mk (hG6.to_below HKT.out.2 HKT.out.2.size HKT.out.1)
        have H1N := Aside0.mk (below_then H13.out H13.out.size H3N.out)
        have HBN := Aside0.mk (below_then HB3.out HB3.out.size H3N.out)
        have hz6 := (hG6.block _ (Array.getElem?_eq_some_iff.1 HZY.out.1).1 (fun h => by obtain ⟨a, h1, h2⟩ := h; cases h1; have h3 : w3.heap.size + 1 + 1 = w3.heap.size + 1 + 1 + 1 := h2; omega)).trans HZY.out.1
        have hy6 := (hG6.block _ (Array.getElem?_eq_some_iff.1 HZY.out.2).1 (fun h => by obtain ⟨a, h1, h2⟩ := h; cases h1; have h3 : w3.heap.size + 1 + 1 = w3.heap.size + 1 + 1 + 1 + 1 := h2; omega)).trans HZY.out.2
        have HZ6 := Aside0.mk (And.intro hz6 ((blk_cell hy6 0).trans rfl))
        clear hz6 hy6
        obtain ⟨g2, off, cur, rfl, _, _, hcl⟩ := hR6.at_ (by omega)
        have hx6 := (hcl 0 _ (by simp; rfl)).1
        rw [Nat.add_zero] at hx6
        have HX6 := Aside0.mk hx6
        clear hR6 hG6 hk6 hcl hx6
        obtain ⟨x0, x1, x2, x3, x4, x5, x6, x7, x8, x9, x10, x11⟩ := HX.out _ H1N.out
        go_wp2_with fail
        refine (stmForm_ c A cA heap w6 sz nd (Kd.C_below HA.out.1 HBN.out) HA.out.2 HBB.out.1 (by have h := HBB.out.2.2; rwa [← HL.out] at h) HCG.out.2.2.2.2.2.2.1 HCG.out.2.2.2.2.2.2.2 (by have := HCG.out.1; have := HL.out; have := HMN.out; omega) (by have := HCG.out.2.1; have := HL.out; have := HMN.out; omega) HCG.out.2.2.1 HCG.out.2.2.2.1 HCG.out.2.2.2.2.1 g2 off (w3.heap.size + 1 + 1 + 1 + 1) (w3.heap.size + 1 + 1 + 1) c2 HX6.out HZ6.out.2 (C_jump HZ6.out.1) (check_jump HBB.out.1)).mono ?_
        rintro e w8 ⟨rfl, hb⟩
        have HB8 := Aside0.mk (below_then HBN.out HBN.out.size hb)
        clear hb x0 x1 x2 x3 x4 x5 x6 x7 x8 x9 x10 x11
        go_wp2_with fail
        refine (stmFirst_ _).mono ?_
        rintro e w9 ⟨rfl, hb⟩
        have HB9 := Aside0.mk (below_then HB8.out HB8.out.size hb)
        clear hb
        go_wp2
        go_ret
        exact ⟨rfl, HB9.out⟩
end Go.Proofs.YtkfhnicojokafaaGreat.Co
