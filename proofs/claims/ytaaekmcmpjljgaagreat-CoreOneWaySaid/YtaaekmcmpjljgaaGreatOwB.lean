import Derived.Test.YtaaekmcmpjljgaaGreatKA
import Derived.Test.YtaaekmcmpjljgaaGreatOw
import Derived.Test.YtaaekmcmpjljgaaGreatTC
namespace Go.Proofs.YtaaekmcmpjljgaaGreat.Co
open Go.RowKit Go.Proofs.YtaaekmcmpjljgaaGreatW.PrintWords Go.Proofs.YtaaekmcmpjljgaaGreatW.PrintLast Go.Proofs.YtaaekmcmpjljgaaGreatW.PrintMore Go.Proofs.YtaaekmcmpjljgaaGreat.PMd Go.Proofs.YtaaekmcmpjljgaaGreat.Ln Go.Proofs.YtaaekmcmpjljgaaGreat.Gr
open Go.Maps
open Go.Sort (grow)
set_option linter.unusedVariables false
set_option linter.unusedSimpArgs false
theorem kl_edgesR {w0 w : World} {b : Nat} {P : Pl} {most : Int} {nb : Nat} {k : KT} (h : Kl w0 w b P most nb k) (hn : nb ≤ 1000000) {n : Nat} (hg : Good k n) (hf : FInv k n) (m : Nat) (hm : (liveE k.s (k.ed n)).length = m) :
    Calls Tryz.prog 16 #[.pointer (some ⟨b, 0, none⟩)] w fun e w' => (∃ A c, e = .returned (.slice A m c) ∧ RowE w' A c (liveE k.s (k.ed n))) ∧ Kl w0 w' b P most nb k ∧ Below w.heap.size w w' := by
  have hk := h
  obtain ⟨F, FT, N, h1, h2, h3, h4, h5, h6⟩ := h
  have := coreEdges_ h1 hg.1 h2 (kl_fine hg hf (by omega))
  rw [edC_is] at this
  exact this.mono fun e w' ⟨A, c, e1, e2, e3, e4⟩ => ⟨⟨A, c, e1.trans (by rw [show (liveE k.s (edC k.ls k.f n)).length = m from hm]), e2⟩, hk.below e4, e4⟩
def GoneAt (w : World) (a : Nat) (g : List Bool) : Prop := w.heap[a]? = some (.cells (g.map Value.bool).toArray 92 (0, 0))
theorem GoneAt.at_ {w : World} {a : Nat} {g : List Bool} (h : GoneAt w a g) {j : Nat} (hj : j < g.length) : w.cell? ⟨a, j, none⟩ = some (.bool (g.getD j false)) :=
  (blk_cell h j).trans (by rw [List.getD_eq_getElem?_getD, List.getElem?_eq_getElem hj]; simp [hj])
def freeP (g : List Bool) (t : Int) (e : Ed) : Bool := e.1 != t || (decide (0 ≤ e.2) && decide (e.2 < 64) && g.getD e.2.toNat false)
theorem freeP_nat {p : List Bool} {t x : Int} {j : Nat} (hj : j < 64) : freeP p t (x, (j : Int)) = (x != t || p.getD j false) := by
  unfold freeP
  dsimp only
  rw [decide_eq_true (by omega : (0 : Int) ≤ j), decide_eq_true (by omega : (j : Int) < 64)]
  rfl
theorem take_all {l : List Ed} {i : Nat} (P : Ed → Bool) (h : i < l.length) : (l.take (i + 1)).all P = ((l.take i).all P && P (l.getD i (0, 0))) := by
  rw [List.take_add_one, List.getElem?_eq_getElem h, List.all_append, List.getD_eq_getElem?_getD, List.getElem?_eq_getElem h]
  simp
theorem GoneAt.set {w : World} {a : Nat} {g : List Bool} (h : GoneAt w a g) {j : Nat} (v : Bool) : GoneAt (w.setCell ⟨a, j, none⟩ (.bool v)) a (g.set j v) := by
  have e := Go.heap_setCell_same w a j _ _ (.bool v) h
  unfold GoneAt
  refine e.trans ?_
  congr 2
  simp
def tkB (pol : Int) (s : CoreS) (l : List Ed) : Prop := ∀ x ∈ l, (pol = 1 → tickOf s x.2 < tickOf s x.1) ∧ (pol = 2 → tickOf s x.1 < tickOf s x.2)
set_option maxHeartbeats 16000000 in
set_option maxRecDepth 100000 in
theorem oneWay_ {w0 w : World} {b : Nat} {P : Pl} {most : Int} {nb n : Nat} {k : KT} (h : Kl w0 w b P most nb k) (hn : nb ≤ 1000000) (hg : Good k n) (hf : FInv k n) (c : Cf) (hc : c.f4 = (n : Int)) (h64 : n ≤ 64)
    (hs : Sinks (liveE k.s (k.ed n))) (hl : ∀ x ∈ liveE k.s (k.ed n), 0 ≤ x.2 ∧ x.2 < n) (hp : tkB c.f11 k.s (liveE k.s (k.ed n))) :
    Calls Tryz.prog 22 #[.pointer (some ⟨b, 0, none⟩), .agg #[.int .i64 c.f0, .int .i64 c.f1, .int .i64 c.f2, .int .i64 c.f3, .int .i64 c.f4, .int .i64 c.f5, .int .i64 c.f6, .int .i64 c.f7, .int .i64 c.f8, .int .i64 c.f9, .int .i64 c.f10, .int .i64 c.f11]] w fun e w' => e = .returned (.bool true) ∧ Kl w0 w' b P most nb k := by
  have hu := Tryz.underlying24
  have hu2 := Tryz.underlying87
  have hu3 := Tryz.underlying92
  have mixed : Tryz.prog.follows Departure.mixedOrders = true := by kernel_rfl
  have HK0 := Aside0.mk (h.below (below_alloc (Below.refl w.heap.size w) (.cells #[.int .i64 c.f0, .int .i64 c.f1, .int .i64 c.f2, .int .i64 c.f3, .int .i64 c.f4, .int .i64 c.f5, .int .i64 c.f6, .int .i64 c.f7, .int .i64 c.f8, .int .i64 c.f9, .int .i64 c.f10, .int .i64 c.f11] 24)))
  have hz := blk_new w (.cells #[.int .i64 c.f0, .int .i64 c.f1, .int .i64 c.f2, .int .i64 c.f3, .int .i64 c.f4, .int .i64 c.f5, .int .i64 c.f6, .int .i64 c.f7, .int .i64 c.f8, .int .i64 c.f9, .int .i64 c.f10, .int .i64 c.f11] 24)
  have c4 : (w.alloc (.cells #[.int .i64 c.f0, .int .i64 c.f1, .int .i64 c.f2, .int .i64 c.f3, .int .i64 c.f4, .int .i64 c.f5, .int .i64 c.f6, .int .i64 c.f7, .int .i64 c.f8, .int .i64 c.f9, .int .i64 c.f10, .int .i64 c.f11] 24)).cell? ⟨w.heap.size, 4, none⟩ = some (.int .i64 n) := (blk_cell hz 4).trans (by rw [← hc]; rfl)
  have c11 : (w.alloc (.cells #[.int .i64 c.f0, .int .i64 c.f1, .int .i64 c.f2, .int .i64 c.f3, .int .i64 c.f4, .int .i64 c.f5, .int .i64 c.f6, .int .i64 c.f7, .int .i64 c.f8, .int .i64 c.f9, .int .i64 c.f10, .int .i64 c.f11] 24)).cell? ⟨w.heap.size, 11, none⟩ = some (.int .i64 c.f11) := (blk_cell hz 11).trans rfl
  have C4 := Aside0.mk c4
  have C11 := Aside0.mk c11
  have X := Aside0.mk (blk_lt hz)
  have HE := Aside0.mk (show Calls Tryz.prog 16 _ _ _ from kl_edgesR HK0.out hn hg hf _ rfl)
  have HG := Aside0.mk hg
  have HS := Aside0.mk hs
  have HL := Aside0.mk hl
  have HP := Aside0.mk hp
  have HM := Aside0.mk (show (liveE k.s (k.ed n)).length ≤ 400000 from Nat.le_trans (dead_lens _ _) hg.2.2.1)
  have H64 := Aside0.mk h64
  generalize liveE k.s (k.ed n) = l at HE HS HL HP HM
  clear h hn hg hf hs hl hp hz c4 c11 h64 hc
  go_enter Tryz.func22, Tryz.ntmps22
  go_wp2_with fail
  refine HE.out.mono ?_
  rintro e w2 ⟨⟨A, cp, rfl, hR⟩, hk, hb⟩
  have HR := Aside0.mk hR
  have HK := Aside0.mk hk
  have D4 := Aside0.mk ((hb.cell (p := ⟨w.heap.size, 4, none⟩) X.out).trans C4.out)
  have D11 := Aside0.mk ((hb.cell (p := ⟨w.heap.size, 11, none⟩) X.out).trans C11.out)
  have X2 := Aside0.mk (show w.heap.size < w2.heap.size from Nat.lt_of_lt_of_le X.out hb.size)
  clear hR hk hb HE
  go_wp2_with fail
  have HT := Aside0.mk (fun W (hb : Below w2.heap.size w2 W) (x : Int) => (kl_ticket (HK.out.below hb) HG.out.1 x).mono (fun e w' ⟨h1, h2⟩ => (show e = Ending.returned (.int .i64 (tickOf k.s x)) ∧ Below W.heap.size W w' from ⟨h1, by rw [h2]; exact Below.refl _ _⟩)))
  go_loopg [6] l.length (fun gg v wr => ∃ i : Nat, i ≤ l.length ∧ l.length - i ≤ gg ∧ v = .int .i64 i ∧ Aside0 (Below w2.heap.size w2 wr))
  case atStart => exact ⟨0, by omega, by omega, rfl, ⟨Below.refl _ _⟩⟩
  case round =>
    obtain ⟨i, hi, hgg, rfl, HB⟩ := hrel
    by_cases hlt : i < l.length
    · have t1 : (i : Int) < l.length := by omega
      have t0 : 0 ≤ (i : Int) := by omega
      obtain ⟨g, off, rfl, q0, q1⟩ := RowE.at_ (Row.below HR.out HB.out) hlt
      have HPx := Aside0.mk (HP.out (l.getD i (0, 0)) (by rw [List.getD_eq_getElem?_getD, List.getElem?_eq_getElem hlt]; exact List.getElem_mem hlt))
      have WI := Aside0.mk (show wrap64 ((i : Int) + 1) = ((i + 1 : Nat) : Int) by have := HM.out; unfold wrap64; omega)
      have HLT := Aside0.mk (And.intro hlt hgg)
      have z11 := (HB.out.cell (p := ⟨w.heap.size, 11, none⟩) X2.out).trans D11.out
      generalize l.getD i (0, 0) = x at q0 q1 HPx
      obtain ⟨x, y⟩ := x
      dsimp only at q0 q1 HPx
      clear hlt hgg hi
      have g0 := fun d os => cell_gr q0 d os
      have g1 := fun d os => cell_gr q1 d os
      go_wp2_with fail
      refine wp_region_gr mixed (by kernel_rfl) ?_
      repeat (go_big_quiet_step (first | exact Calls.gr_of (HT.out _ (below_then HB.out HB.out.size (below_gr _ _ _)) _)))
      refine wpQuiet_nil ?_
      intro _ hw'
      obtain ⟨⟨d, os⟩, rfl⟩ := hw'
      have HB1 := Aside0.mk (below_then HB.out HB.out.size (below_gr wr d os))
      have z11' := cell_gr z11 d os
      clear q0 q1 g0 g1 z11
      generalize grow (wat wr d) os = w3 at HB1 z11' ⊢
      generalize tickOf k.s x = tx at HPx ⊢
      generalize tickOf k.s y = ty at HPx ⊢
      by_cases e1 : c.f11 = 1
      · have b1 : (c.f11 == 1) = true := beq_iff_eq.2 e1
        have b2 : (c.f11 == 2) = false := beq_eq_false_iff_ne.2 (by omega)
        have b3 : decide (tx ≤ ty) = false := decide_eq_false (by have := HPx.out.1 e1; omega)
        clear e1 HPx
        go_wp2_with fail
        go_roundg (l.length - (i + 1))
        case measure => have := HLT.out; omega
        case rel => exact ⟨i + 1, by have := HLT.out; omega, Nat.le_refl _, by first | rw [WI.out] | simp, HB1⟩
      · have b1 : (c.f11 == 1) = false := beq_eq_false_iff_ne.2 e1
        by_cases e2 : c.f11 = 2
        · have b2 : (c.f11 == 2) = true := beq_iff_eq.2 e2
          have b3 : decide (tx ≥ ty) = false := decide_eq_false (by have := HPx.out.2 e2; omega)
          have b4 : decide (ty ≤ tx) = false := b3
          clear e1 e2 HPx
          go_wp2_with fail
          go_roundg (l.length - (i + 1))
          case measure => have := HLT.out; omega
          case rel => exact ⟨i + 1, by have := HLT.out; omega, Nat.le_refl _, by first | rw [WI.out] | simp, HB1⟩
        · have b2 : (c.f11 == 2) = false := beq_eq_false_iff_ne.2 e2
          clear e1 e2 HPx
          go_wp2_with fail
          go_roundg (l.length - (i + 1))
          case measure => have := HLT.out; omega
          case rel => exact ⟨i + 1, by have := HLT.out; omega, Nat.le_refl _, by first | rw [WI.out] | simp, HB1⟩
    · obtain rfl : i = l.length := by omega
      have t1 : ¬ ((l.length : Int) < l.length) := by omega
      have D4' := Aside0.mk ((HB.out.cell (p := ⟨w.heap.size, 4, none⟩) X2.out).trans D4.out)
      have HR' := Aside0.mk (Row.below HR.out HB.out)
      have HK' := Aside0.mk (HK.out.below HB.out)
      have X3 := Aside0.mk (Nat.lt_of_lt_of_le X2.out HB.out.size)
      clear hlt hgg hi HK HR D4 D11 C4 C11 HK0 X X2 HT HB HP
      have HA0 := Aside0.mk (show GoneAt (wr.alloc (.cells (List.toArray (Value.bool false :: Value.bool false :: Value.bool false :: Value.bool false :: Value.bool false :: Value.bool false :: Value.bool false :: Value.bool false :: Value.bool false :: Value.bool false :: Value.bool false :: Value.bool false :: Value.bool false :: Value.bool false :: Value.bool false :: Value.bool false :: Value.bool false :: Value.bool false :: Value.bool false :: Value.bool false :: Value.bool false :: Value.bool false :: Value.bool false :: Value.bool false :: Value.bool false :: Value.bool false :: Value.bool false :: Value.bool false :: Value.bool false :: Value.bool false :: Value.bool false :: Value.bool false :: Value.bool false :: Value.bool false :: Value.bool false :: Value.bool false :: Value.bool false :: Value.bool false :: Value.bool false :: Value.bool false :: Value.bool false :: Value.bool false :: Value.bool false :: Value.bool false :: Value.bool false :: Value.bool false :: Value.bool false :: Value.bool false :: Value.bool false :: Value.bool false :: Value.bool false :: Value.bool false :: Value.bool false :: Value.bool false :: Value.bool false :: Value.bool false :: Value.bool false :: Value.bool false :: Value.bool false :: Value.bool false :: Value.bool false :: Value.bool false :: Value.bool false :: Value.bool false ::  [])) 92)) wr.heap.size (roundG l n 0) from blk_new wr (.cells (List.toArray (Value.bool false :: Value.bool false :: Value.bool false :: Value.bool false :: Value.bool false :: Value.bool false :: Value.bool false :: Value.bool false :: Value.bool false :: Value.bool false :: Value.bool false :: Value.bool false :: Value.bool false :: Value.bool false :: Value.bool false :: Value.bool false :: Value.bool false :: Value.bool false :: Value.bool false :: Value.bool false :: Value.bool false :: Value.bool false :: Value.bool false :: Value.bool false :: Value.bool false :: Value.bool false :: Value.bool false :: Value.bool false :: Value.bool false :: Value.bool false :: Value.bool false :: Value.bool false :: Value.bool false :: Value.bool false :: Value.bool false :: Value.bool false :: Value.bool false :: Value.bool false :: Value.bool false :: Value.bool false :: Value.bool false :: Value.bool false :: Value.bool false :: Value.bool false :: Value.bool false :: Value.bool false :: Value.bool false :: Value.bool false :: Value.bool false :: Value.bool false :: Value.bool false :: Value.bool false :: Value.bool false :: Value.bool false :: Value.bool false :: Value.bool false :: Value.bool false :: Value.bool false :: Value.bool false :: Value.bool false :: Value.bool false :: Value.bool false :: Value.bool false :: Value.bool false ::  [])) 92))
      have HB0 := Aside0.mk (below_alloc (Below.refl wr.heap.size wr) (.cells (List.toArray (Value.bool false :: Value.bool false :: Value.bool false :: Value.bool false :: Value.bool false :: Value.bool false :: Value.bool false :: Value.bool false :: Value.bool false :: Value.bool false :: Value.bool false :: Value.bool false :: Value.bool false :: Value.bool false :: Value.bool false :: Value.bool false :: Value.bool false :: Value.bool false :: Value.bool false :: Value.bool false :: Value.bool false :: Value.bool false :: Value.bool false :: Value.bool false :: Value.bool false :: Value.bool false :: Value.bool false :: Value.bool false :: Value.bool false :: Value.bool false :: Value.bool false :: Value.bool false :: Value.bool false :: Value.bool false :: Value.bool false :: Value.bool false :: Value.bool false :: Value.bool false :: Value.bool false :: Value.bool false :: Value.bool false :: Value.bool false :: Value.bool false :: Value.bool false :: Value.bool false :: Value.bool false :: Value.bool false :: Value.bool false :: Value.bool false :: Value.bool false :: Value.bool false :: Value.bool false :: Value.bool false :: Value.bool false :: Value.bool false :: Value.bool false :: Value.bool false :: Value.bool false :: Value.bool false :: Value.bool false :: Value.bool false :: Value.bool false :: Value.bool false :: Value.bool false ::  [])) 92))
      go_wp2_with fail
      generalize wr.alloc (.cells (List.toArray (Value.bool false :: Value.bool false :: Value.bool false :: Value.bool false :: Value.bool false :: Value.bool false :: Value.bool false :: Value.bool false :: Value.bool false :: Value.bool false :: Value.bool false :: Value.bool false :: Value.bool false :: Value.bool false :: Value.bool false :: Value.bool false :: Value.bool false :: Value.bool false :: Value.bool false :: Value.bool false :: Value.bool false :: Value.bool false :: Value.bool false :: Value.bool false :: Value.bool false :: Value.bool false :: Value.bool false :: Value.bool false :: Value.bool false :: Value.bool false :: Value.bool false :: Value.bool false :: Value.bool false :: Value.bool false :: Value.bool false :: Value.bool false :: Value.bool false :: Value.bool false :: Value.bool false :: Value.bool false :: Value.bool false :: Value.bool false :: Value.bool false :: Value.bool false :: Value.bool false :: Value.bool false :: Value.bool false :: Value.bool false :: Value.bool false :: Value.bool false :: Value.bool false :: Value.bool false :: Value.bool false :: Value.bool false :: Value.bool false :: Value.bool false :: Value.bool false :: Value.bool false :: Value.bool false :: Value.bool false :: Value.bool false :: Value.bool false :: Value.bool false :: Value.bool false ::  [])) 92) = w4 at HA0 HB0 ⊢
      generalize hq : wr.heap.size = a at HA0 ⊢
      have HQ := Aside0.mk (Nat.le_of_eq hq)
      clear hq
      generalize wr = wA at HB0 D4' HR' HK' X3 HQ ⊢
      go_loopg [10] (n + 1) (fun gg v wr => ∃ r : Nat, r ≤ n + 1 ∧ n + 1 - r ≤ gg ∧ v = .int .i64 r ∧ Aside0 (GoneAt wr a (roundG l n r)) ∧ Aside0 (Below wA.heap.size wA wr))
      case atStart => exact ⟨0, by omega, by omega, rfl, HA0, HB0⟩
      case round =>
        obtain ⟨r, hr, hgg, rfl, HA1, HB1⟩ := hrel
        have z4 := (HB1.out.cell (p := ⟨w.heap.size, 4, none⟩) X3.out).trans D4'.out
        by_cases hlt : r < n + 1
        · have t1 : (r : Int) ≤ n := by omega
          have WI := Aside0.mk (show wrap64 ((r : Int) + 1) = ((r + 1 : Nat) : Int) by have := H64.out; unfold wrap64; omega)
          have HLT := Aside0.mk (And.intro hlt hgg)
          clear hlt hgg hr
          go_wp2_with fail
          generalize wr = wC at HA1 HB1 z4 ⊢
          have HR1 := Aside0.mk (show roundG l n (r + 1) = passG l (roundG l n r) n from rfl)
          have HGL := Aside0.mk (round_len l n r)
          generalize roundG l n r = g at HA1 HR1 HGL
          clear t1 z4
          go_loopg [11] n (fun gg v wr => ∃ t : Nat, t ≤ n ∧ n - t ≤ gg ∧ v = .int .i64 t ∧ Aside0 (GoneAt wr a (passG l g t)) ∧ Aside0 (Below wA.heap.size wA wr))
          case atStart => exact ⟨0, by omega, by omega, rfl, HA1, HB1⟩
          case round =>
            obtain ⟨t, ht, hgg, rfl, HA2, HB2⟩ := hrel
            have z4 := (HB2.out.cell (p := ⟨w.heap.size, 4, none⟩) X3.out).trans D4'.out
            by_cases hlt : t < n
            · have t1 : (t : Int) < n := by omega
              have t2 : (t : Int) < 64 := by have := H64.out; omega
              have WI2 := Aside0.mk (show wrap64 ((t : Int) + 1) = ((t + 1 : Nat) : Int) by have := H64.out; unfold wrap64; omega)
              have HLT2 := Aside0.mk (And.intro hlt hgg)
              have HPS := Aside0.mk (show passG l g (t + 1) = Gr.stepG l (passG l g t) t from rfl)
              have HPL := Aside0.mk ((pass_len l g t).trans HGL.out)
              generalize passG l g t = p at HA2 HPS HPL
              clear hlt hgg ht
              go_wp2_with fail
              generalize wr = wD at HA2 HB2 z4 ⊢
              clear z4 t1
              go_loopg [12, 13] l.length (fun gg v12 v13 wr => ∃ i : Nat, i ≤ l.length ∧ l.length - i ≤ gg ∧ v12 = .bool ((l.take i).all (freeP p t)) ∧ v13 = .int .i64 i ∧ wr = wD)
              case atStart => exact ⟨0, by omega, by omega, rfl, rfl, rfl⟩
              case round =>
                obtain ⟨i, hi, hgg, rfl, rfl, rfl⟩ := hrel
                by_cases hlt : i < l.length
                · have t1 : (i : Int) < l.length := by omega
                  have t0 : 0 ≤ (i : Int) := by omega
                  obtain ⟨g', off, rfl, q0, q1⟩ := RowE.at_ (Row.below HR'.out HB2.out) hlt
                  have HLx := Aside0.mk (HL.out (l.getD i (0, 0)) (by rw [List.getD_eq_getElem?_getD, List.getElem?_eq_getElem hlt]; exact List.getElem_mem hlt))
                  have WI3 := Aside0.mk (show wrap64 ((i : Int) + 1) = ((i + 1 : Nat) : Int) by have := HM.out; unfold wrap64; omega)
                  have HLT3 := Aside0.mk (And.intro hlt hgg)
                  have HST := Aside0.mk (take_all (freeP p t) hlt)
                  generalize l.getD i (0, 0) = x at q0 q1 HLx HST
                  obtain ⟨x, y⟩ := x
                  dsimp only at q0 q1 HLx
                  obtain ⟨j, rfl⟩ : ∃ j : Nat, y = j := ⟨y.toNat, by have := HLx.out; omega⟩
                  have j1 : (j : Int) ≥ 0 := by omega
                  have j2 : (j : Int) < 64 := by have := HLx.out; have := H64.out; omega
                  have j3 : j < 64 := by omega
                  have k0 := HA2.out.at_ (by rw [HPL.out]; exact j3)
                  have HFP := Aside0.mk (show freeP p t (x, (j : Int)) = (x != (t : Int) || p.getD j false) from freeP_nat j3)
                  clear hlt hgg hi
                  generalize (l.take i).all (freeP p t) = fr at HST
                  cases fr with
                  | false =>
                    go_wp2_with fail
                    go_roundg (l.length - (i + 1))
                    case measure => have := HLT3.out; omega
                    case rel => exact ⟨i + 1, by have := HLT3.out; omega, Nat.le_refl _, by rw [HST.out]; rfl, by first | rw [WI3.out] | simp, rfl⟩
                  | true =>
                    by_cases e1 : x = (t : Int)
                    · have b1 : (x != (t : Int)) = false := by rw [e1]; simp
                      have HV := Aside0.mk (show freeP p t (x, (j : Int)) = p.getD j false by rw [HFP.out, b1]; rfl)
                      clear e1
                      generalize p.getD j false = bb at k0 HV
                      cases bb with
                      | false =>
                        go_wp2_with fail
                        go_roundg (l.length - (i + 1))
                        case measure => have := HLT3.out; omega
                        case rel => exact ⟨i + 1, by have := HLT3.out; omega, Nat.le_refl _, by rw [HST.out, HV.out]; rfl, by first | rw [WI3.out] | simp, rfl⟩
                      | true =>
                        go_wp2_with fail
                        go_roundg (l.length - (i + 1))
                        case measure => have := HLT3.out; omega
                        case rel => exact ⟨i + 1, by have := HLT3.out; omega, Nat.le_refl _, by rw [HST.out, HV.out]; rfl, by first | rw [WI3.out] | simp, rfl⟩
                    · have b1 : (x != (t : Int)) = true := bne_iff_ne.2 e1
                      have HV := Aside0.mk (show freeP p t (x, (j : Int)) = true by rw [HFP.out, b1]; rfl)
                      clear e1 k0
                      go_wp2_with fail
                      go_roundg (l.length - (i + 1))
                      case measure => have := HLT3.out; omega
                      case rel => exact ⟨i + 1, by have := HLT3.out; omega, Nat.le_refl _, by rw [HST.out, HV.out]; rfl, by first | rw [WI3.out] | simp, rfl⟩
                · obtain rfl : i = l.length := by omega
                  have t1 : ¬ ((l.length : Int) < l.length) := by omega
                  have HFR := Aside0.mk (show (l.take l.length).all (freeP p t) = freeG l p t by rw [List.take_length]; rfl)
                  generalize (l.take l.length).all (freeP p t) = fr at HFR
                  have k0 := HA2.out.at_ (j := t) (by rw [HPL.out]; omega)
                  have HV := Aside0.mk (show Gr.stepG l p t = p.set t (p.getD t false || fr) by rw [HFR.out]; rfl)
                  generalize p.getD t false = bb at k0 HV
                  have jf := Go.frozen_of_row _ a t _ _ HA2.out
                  clear hlt hgg hi
                  cases bb with
                  | false =>
                    go_wp2_with fail
                    go_roundg (n - (t + 1))
                    case measure => have := HLT2.out; omega
                    case rel => exact ⟨t + 1, by have := HLT2.out; omega, Nat.le_refl _, by first | rw [WI2.out] | simp, ⟨by rw [HPS.out, HV.out]; exact HA2.out.set _⟩, ⟨HB2.out.setCell (p := ⟨a, t, none⟩) HQ.out _⟩⟩
                  | true =>
                    go_wp2_with fail
                    go_roundg (n - (t + 1))
                    case measure => have := HLT2.out; omega
                    case rel => exact ⟨t + 1, by have := HLT2.out; omega, Nat.le_refl _, by first | rw [WI2.out] | simp, ⟨by rw [HPS.out, HV.out]; exact HA2.out.set _⟩, ⟨HB2.out.setCell (p := ⟨a, t, none⟩) HQ.out _⟩⟩
            · obtain rfl : t = n := by omega
              have t1 : ¬ ((t : Int) < t) := by omega
              clear hlt hgg ht
              go_wp2_with fail
              go_roundg (t + 1 - (r + 1))
              case measure => have := HLT.out; omega
              case rel => exact ⟨r + 1, by have := HLT.out; omega, Nat.le_refl _, by first | rw [WI.out] | simp, ⟨by rw [HR1.out]; exact HA2.out⟩, HB2⟩
        · obtain rfl : r = n + 1 := by omega
          have t1 : ¬ (((n + 1 : Nat) : Int) ≤ n) := by omega
          have HALL := Aside0.mk (fun t (ht : t < n) => round_all HS.out H64.out HL.out ht)
          have HGL := Aside0.mk (round_len l n (n + 1))
          generalize roundG l n (n + 1) = g at HA1 HALL HGL
          clear hlt hgg hr
          go_wp2_with fail
          generalize wr = wC at HA1 HB1 z4 ⊢
          clear t1
          go_loopg [14] n (fun gg v wr => ∃ t : Nat, t ≤ n ∧ n - t ≤ gg ∧ v = .int .i64 t ∧ wr = wC)
          case atStart => exact ⟨0, by omega, by omega, rfl, rfl⟩
          case round =>
            obtain ⟨t, ht, hgg, rfl, rfl⟩ := hrel
            by_cases hlt : t < n
            · have t1 : (t : Int) < n := by omega
              have t2 : (t : Int) < 64 := by have := H64.out; omega
              have t0 : 0 ≤ (t : Int) := by omega
              have WI2 := Aside0.mk (show wrap64 ((t : Int) + 1) = ((t + 1 : Nat) : Int) by have := H64.out; unfold wrap64; omega)
              have HLT2 := Aside0.mk (And.intro hlt hgg)
              have k0 := HA1.out.at_ (j := t) (by rw [HGL.out]; have := H64.out; omega)
              rw [HALL.out t hlt] at k0
              clear hlt hgg ht
              go_wp2_with fail
              go_roundg (n - (t + 1))
              case measure => have := HLT2.out; omega
              case rel => exact ⟨t + 1, by have := HLT2.out; omega, Nat.le_refl _, by first | rw [WI2.out] | simp, rfl⟩
            · obtain rfl : t = n := by omega
              have t1 : ¬ ((t : Int) < t) := by omega
              clear hlt hgg ht
              go_wp2_with fail
              go_ret
              exact ⟨rfl, HK'.out.below HB1.out⟩
end Go.Proofs.YtaaekmcmpjljgaaGreat.Co
namespace Go.Proofs.YtaaekmcmpjljgaaGreat.Co
open Go.RowKit Go.Proofs.YtaaekmcmpjljgaaGreatW.PrintWords Go.Proofs.YtaaekmcmpjljgaaGreatW.PrintLast Go.Proofs.YtaaekmcmpjljgaaGreatW.PrintMore Go.Proofs.YtaaekmcmpjljgaaGreat.PMd Go.Proofs.YtaaekmcmpjljgaaGreat.Ln Go.Proofs.YtaaekmcmpjljgaaGreat.Gr
open Go.Maps
set_option linter.unusedVariables false
set_option linter.unusedSimpArgs false
theorem getD_setI (d : List Int) (i j : Nat) (v : Int) (h : i < d.length) : (d.set i v).getD j 0 = if i = j then v else d.getD j 0 := by
  rw [List.getD_eq_getElem?_getD, List.getD_eq_getElem?_getD, List.getElem?_set]
  by_cases e : i = j
  · subst e; rw [if_pos rfl, if_pos h, if_pos rfl]; rfl
  · rw [if_neg e, if_neg e]
def Cnt (s : CoreS) (x : Int) : Prop := actOf s x = true ∧ doomOf s x = 0
theorem act_has {s : CoreS} {x : Int} (h : actOf s x = true) : hasB s x = true := by
  unfold actOf at h
  cases hb : hasB s x
  · rw [hb] at h; cases h
  · rfl
theorem counts_iff {s : CoreS} {x : Int} : countsB s x = true ↔ Cnt s x := by
  unfold countsB Cnt
  constructor
  · intro h
    by_cases ha : actOf s x = true
    · rw [if_pos ha] at h
      refine ⟨ha, ?_⟩
      unfold doomOf
      rw [act_has ha]
      exact beq_iff_eq.1 h
    · rw [if_neg ha] at h; cases h
  · rintro ⟨ha, hd⟩
    rw [if_pos ha]
    unfold doomOf at hd
    rw [act_has ha] at hd
    exact beq_iff_eq.2 hd
def Same (s s' : CoreS) : Prop := s'.tk = s.tk ∧ s'.ac = s.ac ∧ s'.c = s.c ∧ s'.dm.length = s.dm.length
theorem Same.has {s s' : CoreS} (h : Same s s') (x : Int) : hasB s' x = hasB s x := by unfold hasB; rw [h.1]
theorem Same.tick {s s' : CoreS} (h : Same s s') (x : Int) : tickOf s' x = tickOf s x := by unfold tickOf; rw [h.has, h.1]
theorem Same.act {s s' : CoreS} (h : Same s s') (x : Int) : actOf s' x = actOf s x := by unfold actOf; rw [h.has, h.2.1]
theorem doom1_same (s : CoreS) (t e : Int) : Same s (doom1S s t e) := by
  unfold doom1S
  by_cases h : hasB s t = true
  · rw [if_pos h]; exact ⟨rfl, rfl, rfl, by simp⟩
  · rw [if_neg h]; exact ⟨rfl, rfl, rfl, rfl⟩
theorem doom1_of {s : CoreS} (hl : Lens s) (t e x : Int) : doomOf (doom1S s t e) x = if hasB s t = true ∧ x = t then e else doomOf s x := by
  by_cases h : hasB s t = true
  · have h2 : 0 ≤ t ∧ t < (s.tk.length : Int) := of_decide_eq_true h
    unfold doomOf
    rw [(doom1_same s t e).has]
    unfold doom1S
    rw [if_pos h]
    dsimp only
    by_cases hx : x = t
    · subst hx
      rw [if_pos (show hasB s x = true ∧ x = x from ⟨h, rfl⟩), if_pos h, getD_setI _ _ _ _ (by rw [hl.2.1]; omega), if_pos rfl]
    · rw [if_neg (fun q : hasB s t = true ∧ x = t => hx q.2)]
      by_cases hb : hasB s x = true
      · have h3 : 0 ≤ x ∧ x < (s.tk.length : Int) := of_decide_eq_true hb
        rw [if_pos hb, if_pos hb, getD_setI _ _ _ _ (by rw [hl.2.1]; omega), if_neg (by omega)]
      · rw [if_neg hb, if_neg hb]
  · rw [if_neg (fun q : hasB s t = true ∧ x = t => h q.1)]
    unfold doom1S
    rw [if_neg h]
theorem Same.lens {s s' : CoreS} (h : Same s s') (hl : Lens s) : Lens s' := ⟨by rw [h.2.1, h.1]; exact hl.1, by rw [h.2.2.2, h.1]; exact hl.2.1, by rw [h.1]; exact hl.2.2⟩
theorem Same.trans {a b c : CoreS} (h : Same a b) (g : Same b c) : Same a c := ⟨g.1.trans h.1, g.2.1.trans h.2.1, g.2.2.1.trans h.2.2.1, g.2.2.2.trans h.2.2.2⟩
theorem doomS_same (e : Int) : ∀ (L : List Int) (s : CoreS), Same s (doomS s e L)
  | [], s => ⟨rfl, rfl, rfl, rfl⟩
  | t :: L, s => (doom1_same s t e).trans (doomS_same e L _)
theorem doomS_of (e : Int) (x : Int) : ∀ (L : List Int) (s : CoreS), Lens s → doomOf (doomS s e L) x = if hasB s x = true ∧ x ∈ L then e else doomOf s x
  | [], s, _ => by rw [if_neg (by rintro ⟨_, h⟩; cases h)]; rfl
  | t :: L, s, hl => by
    have ih := doomS_of e x L (doom1S s t e) ((doom1_same s t e).lens hl)
    unfold doomS
    rw [ih, (doom1_same s t e).has, doom1_of hl]
    by_cases hx : hasB s x = true
    · by_cases hL : x ∈ L
      · rw [if_pos ⟨hx, hL⟩, if_pos ⟨hx, List.mem_cons_of_mem _ hL⟩]
      · rw [if_neg (fun q => hL q.2)]
        by_cases ht : x = t
        · subst ht; rw [if_pos ⟨hx, rfl⟩, if_pos ⟨hx, List.mem_cons_self ..⟩]
        · rw [if_neg (fun q => ht q.2), if_neg (fun q => (List.mem_cons.1 q.2).elim ht hL)]
    · rw [if_neg (fun q => hx q.1), if_neg (fun q => hx (by rw [q.2]; exact q.1)), if_neg (fun q => hx q.1)]
theorem cnt_doom {s : CoreS} (hl : Lens s) {e : Int} (he : e ≠ 0) {L : List Int} {x : Int} (h : Cnt (doomS s e L) x) : Cnt s x ∧ x ∉ L := by
  obtain ⟨h1, h2⟩ := h
  rw [(doomS_same e L s).act] at h1
  rw [doomS_of e x L s hl] at h2
  by_cases hx : x ∈ L
  · rw [if_pos ⟨act_has h1, hx⟩] at h2; exact (he h2).elim
  · rw [if_neg (fun q => hx q.2)] at h2; exact ⟨⟨h1, h2⟩, hx⟩
theorem of_tick (s : CoreS) (x : Int) : ofF s.tk x = tickOf s x := by
  unfold ofF tickOf hasB
  by_cases h : 0 ≤ x ∧ x < (s.tk.length : Int)
  · rw [if_pos h, if_pos (decide_eq_true h)]; rfl
  · rw [if_neg h, if_neg (by rw [decide_eq_false h]; decide)]
theorem age_lt {s : CoreS} {a b : Int} (h : tickOf s a < tickOf s b) : ageF s.tk a b = -1 := by
  unfold ageF
  rw [of_tick, of_tick]
  have e : cmpF (tickOf s a) (tickOf s b) = -1 := by unfold cmpF; rw [if_pos h]
  rw [e]; rfl
theorem age_gt {s : CoreS} {a b : Int} (h : tickOf s b < tickOf s a) : ageF s.tk a b = 1 := by
  unfold ageF
  rw [of_tick, of_tick]
  have e : cmpF (tickOf s a) (tickOf s b) = 1 := by unfold cmpF; rw [if_neg (by omega), if_pos h]
  rw [e]; rfl
def TkD (s : CoreS) : Prop := ∀ x y, actOf s x = true → actOf s y = true → x ≠ y → tickOf s x ≠ tickOf s y
theorem mem_pick {pk : Ed → Bool} {en : Ed → Int} {l : List Ed} {x : Int} : x ∈ nodesE (pickE pk en l) ↔ ∃ e ∈ l, pk e = true ∧ en e = x := by
  rw [mem_nodes]
  unfold pickE
  constructor
  · rintro ⟨e, he, hx⟩
    obtain ⟨e2, h2, rfl⟩ := List.mem_map.1 he
    obtain ⟨h3, h4⟩ := List.mem_filter.1 h2
    exact ⟨e2, h3, h4, hx.elim id id⟩
  · rintro ⟨e, he, hp, hx⟩
    exact ⟨_, List.mem_map.2 ⟨e, List.mem_filter.2 ⟨he, hp⟩, rfl⟩, .inl hx⟩
theorem mem_live {s : CoreS} {l : List Ed} {x : Ed} : x ∈ liveE s l ↔ x ∈ l ∧ Cnt s x.1 ∧ Cnt s x.2 := by
  unfold liveE
  rw [List.mem_filter]
  constructor
  · rintro ⟨h, hc⟩
    rw [Bool.and_eq_true] at hc
    exact ⟨h, counts_iff.1 hc.1, counts_iff.1 hc.2⟩
  · rintro ⟨h, h1, h2⟩
    exact ⟨h, by rw [Bool.and_eq_true]; exact ⟨counts_iff.2 h1, counts_iff.2 h2⟩⟩
theorem sinks_sub {l l' : List Ed} (h : Sinks l) (hs : ∀ x ∈ l', x ∈ l) : Sinks l' := fun S hS => by
  obtain ⟨t, ht, hy⟩ := h S hS
  exact ⟨t, ht, fun y hm => hy y (hs _ hm)⟩
def Eldest (s : CoreS) (e : Int) : Prop := Cnt s e ∧ ∀ x, Cnt s x → x ≠ e → tickOf s e < tickOf s x
theorem marks_tick (s : CoreS) (l : List Ed) (hl : Lens s) (hd : TkD s) (hne : ∀ x ∈ l, x.1 ≠ x.2) (hp : s.c.f11 = 0 ∨ s.c.f11 = 1 ∨ s.c.f11 = 2) :
    Same s (tickS (marksS s l) l) ∧ (∀ e, Eldest s e → doomOf (tickS (marksS s l) l) e = 0) ∧ Sinks (liveE (tickS (marksS s l) l) l) ∧ tkB s.c.f11 (tickS (marksS s l) l) (liveE (tickS (marksS s l) l) l) := by
  have hlt : ∀ x ∈ liveE s l, tickOf s x.1 ≠ tickOf s x.2 := fun x hx => by
    obtain ⟨h1, h2, h3⟩ := mem_live.1 hx
    exact hd _ _ h2.1 h3.1 (hne x h1)
  rcases hp with h0 | h1 | h2
  · have e1 : marksS s l = s := by unfold marksS; rw [h0, if_neg (by decide), if_neg (by decide)]
    have e2 : tickS s l = doomS s 9 (vicF s.tk (liveE s l)) := by unfold tickS tickL; rw [if_pos h0]
    rw [e1, e2]
    have hne' : ∀ x ∈ liveE s l, x.1 ≠ x.2 := fun x hx => hne x (mem_live.1 hx).1
    refine ⟨doomS_same _ _ _, fun e he => ?_, ?_, ?_⟩
    · rw [doomS_of 9 e _ s hl, if_neg, he.1.2]
      rintro ⟨_, hm⟩
      refine (vic_facts s.tk (liveE s l) hne' e (fun x hx hxe => ?_)).2 hm
      obtain ⟨q, hq, hx⟩ := mem_nodes.1 hx
      obtain ⟨_, c1, c2⟩ := mem_live.1 hq
      have hc : Cnt s x := hx.elim (fun h => h ▸ c1) (fun h => h ▸ c2)
      have := he.2 x hc hxe
      rw [age_gt this, age_lt this]
      exact ⟨by decide, by decide⟩
    · refine sinks_sub (sinks_acy (circ_acy (vic_end s.tk (liveE s l)))) (fun x hx => ?_)
      obtain ⟨h1, c1, c2⟩ := mem_live.1 hx
      have d1 := cnt_doom hl (by decide) c1
      have d2 := cnt_doom hl (by decide) c2
      refine List.mem_filter.2 ⟨mem_live.2 ⟨h1, d1.1, d2.1⟩, ?_⟩
      unfold namesE
      rw [decide_eq_false d1.2, decide_eq_false d2.2]; rfl
    · intro x hx
      rw [h0]
      exact ⟨fun h => absurd h (by decide), fun h => absurd h (by decide)⟩
  · have e1 : marksS s l = doomS s 7 (woundF s.tk (liveE s l)) := by unfold marksS woundS; rw [if_pos h1]
    have e2 : ∀ s', Same s s' → tickS s' l = s' := fun s' h => by unfold tickS tickL; rw [h.2.2.1, h1, if_neg (by decide)]; rfl
    rw [e1, e2 _ (doomS_same _ _ _)]
    have hlive : ∀ x ∈ liveE (doomS s 7 (woundF s.tk (liveE s l))) l, tickOf s x.2 < tickOf s x.1 := fun x hx => by
      obtain ⟨h1, c1, c2⟩ := mem_live.1 hx
      have d1 := cnt_doom hl (by decide) c1
      have d2 := cnt_doom hl (by decide) c2
      have hm := mem_live.2 ⟨h1, d1.1, d2.1⟩
      have := hlt x hm
      by_cases hh : tickOf s x.1 < tickOf s x.2
      · exact (d2.2 (mem_pick.2 ⟨x, hm, decide_eq_true (by rw [age_lt hh]; decide), rfl⟩)).elim
      · omega
    refine ⟨doomS_same _ _ _, fun e he => ?_, sinks_up (tickOf s) hlive, fun x hx => ?_⟩
    · rw [doomS_of 7 e _ s hl, if_neg, he.1.2]
      rintro ⟨_, hm⟩
      obtain ⟨x, hx, hp, he2⟩ := mem_pick.1 hm
      have hp : ageF s.tk x.1 x.2 < 0 := of_decide_eq_true hp
      have he2 : x.2 = e := he2
      obtain ⟨h1, c1, c2⟩ := mem_live.1 hx
      have := he.2 x.1 c1 (by rw [← he2]; exact hne x h1)
      rw [← he2] at this
      rw [age_gt this] at hp
      exact absurd hp (by decide)
    · rw [h1, (doomS_same _ _ _).tick, (doomS_same _ _ _).tick]
      exact ⟨fun _ => hlive x hx, fun h => absurd h (by decide)⟩
  · have e1 : marksS s l = doomS s 8 (deathF s.tk (liveE s l)) := by unfold marksS deathS; rw [h2, if_neg (by decide), if_pos rfl]
    have e2 : ∀ s', Same s s' → tickS s' l = s' := fun s' h => by unfold tickS tickL; rw [h.2.2.1, h2, if_neg (by decide)]; rfl
    rw [e1, e2 _ (doomS_same _ _ _)]
    have hlive : ∀ x ∈ liveE (doomS s 8 (deathF s.tk (liveE s l))) l, tickOf s x.1 < tickOf s x.2 := fun x hx => by
      obtain ⟨h1, c1, c2⟩ := mem_live.1 hx
      have d1 := cnt_doom hl (by decide) c1
      have d2 := cnt_doom hl (by decide) c2
      have hm := mem_live.2 ⟨h1, d1.1, d2.1⟩
      have := hlt x hm
      by_cases hh : tickOf s x.2 < tickOf s x.1
      · exact (d1.2 (mem_pick.2 ⟨x, hm, decide_eq_true (by rw [age_gt hh]; decide), rfl⟩)).elim
      · omega
    refine ⟨doomS_same _ _ _, fun e he => ?_, sinks_down (tickOf s) hlive, fun x hx => ?_⟩
    · rw [doomS_of 8 e _ s hl, if_neg, he.1.2]
      rintro ⟨_, hm⟩
      obtain ⟨x, hx, hp, he2⟩ := mem_pick.1 hm
      have hp : 0 < ageF s.tk x.1 x.2 := of_decide_eq_true hp
      have he2 : x.1 = e := he2
      obtain ⟨h1, c1, c2⟩ := mem_live.1 hx
      have := he.2 x.2 c2 (by rw [← he2]; exact fun h => hne x h1 h.symm)
      rw [← he2] at this
      rw [age_lt this] at hp
      exact absurd hp (by decide)
    · rw [h2, (doomS_same _ _ _).tick, (doomS_same _ _ _).tick]
      exact ⟨fun h => absurd h (by decide), fun _ => hlive x hx⟩
end Go.Proofs.YtaaekmcmpjljgaaGreat.Co
namespace Go.Proofs.YtaaekmcmpjljgaaGreat.Co
open Go.RowKit Go.Proofs.YtaaekmcmpjljgaaGreatW.PrintWords Go.Proofs.YtaaekmcmpjljgaaGreatW.PrintLast Go.Proofs.YtaaekmcmpjljgaaGreatW.PrintMore Go.Proofs.YtaaekmcmpjljgaaGreat.PMd Go.Proofs.YtaaekmcmpjljgaaGreat.Ln Go.Proofs.YtaaekmcmpjljgaaGreat.Gr
open Go.Maps
set_option linter.unusedVariables false
set_option linter.unusedSimpArgs false
theorem okI {x : Int} (h0 : -9223372036854775808 ≤ x) (h1 : x ≤ 9223372036854775807) : ok64 x := ok64_to (by unfold wrap64; omega)
def KT.drop (k : KT) (who : Int) : KT := { k with ls := dropL k.ls who 0, f := dropF k.ls k.f who }
theorem drop_folk {s : LS} (h : Inv s.1 s.2) (who : Int) {x : Int} (hk : x ∈ folk (dropS who s).2) : x ∈ folk s := by
  obtain ⟨n, h1, h2, h3, h4, h5, _⟩ := dropS_spec h who
  rw [folk_mem h4] at hk
  rw [folk_mem h]
  rcases hk with ⟨x, hx, e⟩ | ⟨x, hx, e⟩
  · rcases (h5 x).1 hx with hx | ⟨hx, _⟩
    · exact .inr ⟨x, (fl_mem.1 (List.mem_of_mem_take hx)).1, e⟩
    · exact .inl ⟨x, (fl_mem.1 hx).1, e⟩
  · rw [h3] at hx
    exact .inr ⟨x, (fl_mem.1 (List.mem_of_mem_drop hx)).1, e⟩
theorem blocks_mem {hs qs : List E} (h : Inv hs qs) {who y : Int} (hy : y ∈ blocksIn hs qs who) : y ≠ who ∧ y ∈ folk (hs, qs) := by
  rw [blocksC_is] at hy
  unfold blocksC at hy
  split at hy
  · cases hy
  · rename_i hix
    rw [mem_sortR] at hy
    unfold blocksAt at hy
    obtain ⟨_, _, hbef⟩ := ix_hit' (p := fun x : E => x.f0 == who) (l := qs) (i := (ix (fun x => x.f0 == who) qs).toNat) (by omega)
    rw [folk_mem h]
    rcases List.mem_append.1 hy with hy | hy
    · obtain ⟨e, he, rfl⟩ := List.mem_map.1 hy
      refine ⟨?_, .inr ⟨e, List.mem_of_mem_take he, rfl⟩⟩
      obtain ⟨q, hq, rfl⟩ := List.mem_iff_getElem.1 he
      rw [List.length_take] at hq
      have := hbef q (by omega)
      rw [List.getElem_take]
      rw [List.getD_eq_getElem?_getD, List.getElem?_eq_getElem (by omega)] at this
      exact beq_eq_false_iff_ne.1 this
    · obtain ⟨e, he, rfl⟩ := List.mem_map.1 hy
      obtain ⟨h1, h2⟩ := List.mem_filter.1 he
      refine ⟨?_, .inl ⟨e, h1, rfl⟩⟩
      unfold inWay at h2
      rw [Bool.and_eq_true] at h2
      have := h2.1
      simpa using this
theorem flat_len {g : Nat → List Ed} {B : Nat} : ∀ n : Nat, (∀ t, t < n → (g t).length ≤ B) → ((List.range n).flatMap g).length ≤ n * B
  | 0, _ => by simp
  | n + 1, h => by
    rw [List.range_succ, List.flatMap_append, List.length_append]
    have h1 := flat_len n (fun t ht => h t (by omega))
    have h2 := h n (by omega)
    have h3 : ([n].flatMap g).length = (g n).length := by simp
    rw [h3, Nat.succ_mul]; omega
structure OwI (nd n : Nat) (most : Int) (i : Nat) (next : Int) (k : KT) : Prop where
  o : OInv nd most i k.ls k.f
  r : ∀ j, j < k.ls.length → ∀ x ∈ folk (k.ls.getD j zL), 0 ≤ x ∧ x < n
  l : Lens k.s
  n : k.s.tk.length = n
  d : TkD k.s
  u : ∀ x, actOf k.s x = true → tickOf k.s x < next
section
variable {nd n : Nat} {most : Int} {i : Nat} {next : Int} {k : KT}
theorem OwI.finv (h : OwI nd n most i next k) (h64 : n ≤ 64) : FInv k n := ⟨by omega, fun x m hm => by
  obtain ⟨h1, e, he, rfl⟩ := (h.o.t.map x m).1 hm
  have := h.r m h1 e.f0 ((folk_mem (h.o.t.inv m h1)).2 (.inr ⟨e, he, rfl⟩))
  exact ⟨h1, this.1, this.2⟩⟩
theorem OwI.edge (h : OwI nd n most i next k) (x : Ed) (hx : x ∈ k.ed n) : x.1 ≠ x.2 ∧ (0 ≤ x.1 ∧ x.1 < n) ∧ 0 ≤ x.2 ∧ x.2 < n := by
  have hx : x ∈ edK k.ls k.f n := by rw [edC_is]; exact hx
  unfold edK at hx
  obtain ⟨t, ht, hx⟩ := List.mem_flatMap.1 hx
  have ht := List.mem_range.1 ht
  unfold edT at hx
  split at hx
  · cases hx
  · rename_i m hm
    obtain ⟨y, hy, rfl⟩ := List.mem_map.1 hx
    have hm1 := ((h.o.t.map _ m).1 hm).1
    obtain ⟨h1, h2⟩ := blocks_mem (h.o.t.inv m hm1) hy
    have h3 := h.r m hm1 y h2
    exact ⟨fun e => h1 e.symm, ⟨by dsimp only; omega, by dsimp only; omega⟩, h3⟩
theorem OwI.edlen (h : OwI nd n most i next k) : (k.ed n).length ≤ n * i := by
  show (edC k.ls k.f n).length ≤ n * i
  rw [← edC_is]
  unfold edK
  refine flat_len n (fun t ht => ?_)
  unfold edT
  split
  · simp
  · rename_i m hm
    rw [List.length_map]
    have := blocks_len8 (k.ls.getD m zL).1 (k.ls.getD m zL).2 t
    have := h.o.size m ((h.o.t.map _ m).1 hm).1
    omega
theorem OwI.good (h : OwI nd n most i next k) (hi : i ≤ 400) (hnd : nd ≤ 10000) (h64 : n ≤ 64) : Good k n :=
  ⟨h.l, h.o.small (by omega) hnd, Nat.le_trans h.edlen (Nat.le_trans (Nat.mul_le_mul h64 hi) (by decide)), fun x hx => by
    obtain ⟨_, h1, h2⟩ := h.edge x hx
    exact ⟨okI (by omega) (by omega), okI (by omega) (by omega)⟩⟩
theorem OwI.more (h : OwI nd n most i next k) : OwI nd n most (i + 1) next k := ⟨h.o.more, h.r, h.l, h.n, h.d, h.u⟩
theorem OwI.ask (h : OwI nd n most i next k) (h64 : n ≤ 64) {who : Int} (h0 : 0 ≤ who) (h1 : who < n) (node m : Int) : OwI nd n most (i + 1) next (k.ask most who node m) := by
  refine ⟨h.o.ask (okI (by omega) (by omega)) node m, ?_, h.l, h.n, h.d, h.u⟩
  show ∀ j, j < (askT k.ls most k.f who node m).2.2.1.length → ∀ x ∈ folk ((askT k.ls most k.f who node m).2.2.1.getD j zL), 0 ≤ x ∧ x < n
  rcases askT_cases k.ls most k.f who node m with ⟨h1, _⟩ | ⟨q, rfl, hk, _, _, _, _, _, e⟩
  · rw [h1]; exact h.r
  · rw [e]
    intro j hj y hy
    dsimp only at hj hy
    rw [List.length_set] at hj
    rw [askT_at hk] at hy
    by_cases ej : j = q
    · rw [if_pos ej] at hy
      rcases ask_folk (h.o.t.inv q hk) who m hy with hy | rfl
      · exact h.r q hk y hy
      · exact ⟨h0, h1⟩
    · rw [if_neg ej] at hy
      exact h.r j hj y hy
theorem OwI.drop (h : OwI nd n most i next k) (who : Int) : OwI nd n most i next (k.drop who) := by
  refine ⟨h.o.drop who, fun j hj x hx => ?_, h.l, h.n, h.d, h.u⟩
  have hj : j < (dropL k.ls who 0).length := hj
  have hx : x ∈ folk ((dropL k.ls who 0).getD j zL) := hx
  rw [dropL_len] at hj
  rw [dropL0_at hj] at hx
  exact h.r j hj x (drop_folk (h.o.t.inv j hj) who hx)
theorem getD_setBo (d : List Bool) (i j : Nat) (v : Bool) (h : i < d.length) : (d.set i v).getD j false = if i = j then v else d.getD j false := by
  rw [List.getD_eq_getElem?_getD, List.getD_eq_getElem?_getD, List.getElem?_set]
  by_cases e : i = j
  · subst e; rw [if_pos rfl, if_pos h, if_pos rfl]; rfl
  · rw [if_neg e, if_neg e]
theorem hasB_iff {s : CoreS} {x : Int} : hasB s x = true ↔ 0 ≤ x ∧ x < (s.tk.length : Int) := decide_eq_true_iff
theorem live_has {s : CoreS} {t tick : Int} (x : Int) : hasB (liveS s t tick) x = hasB s x := by
  unfold liveS
  split
  · unfold hasB; dsimp only; rw [List.length_set]
  · rfl
theorem live_facts {s : CoreS} (hl : Lens s) {t tick : Int} (ht : hasB s t = true) (x : Int) :
    actOf (liveS s t tick) x = (if x = t then true else actOf s x) ∧ tickOf (liveS s t tick) x = (if x = t then tick else tickOf s x) ∧ doomOf (liveS s t tick) x = if x = t then 0 else doomOf s x := by
  have h2 := hasB_iff.1 ht
  have e : liveS s t tick = { s with tk := s.tk.set t.toNat tick, ac := s.ac.set t.toNat true, dm := s.dm.set t.toNat 0 } := by unfold liveS; rw [if_pos ht]
  unfold actOf tickOf doomOf
  rw [live_has, e]
  dsimp only
  by_cases hx : hasB s x = true
  · have h3 := hasB_iff.1 hx
    rw [if_pos hx, if_pos hx, if_pos hx, getD_setBo _ _ _ _ (by rw [hl.1]; omega), getD_setI _ _ _ _ (by omega), getD_setI _ _ _ _ (by rw [hl.2.1]; omega)]
    by_cases e1 : x = t
    · subst e1; simp
    · rw [if_neg (by omega : ¬ t.toNat = x.toNat), if_neg e1, if_neg e1, if_neg e1, if_neg (by omega : ¬ t.toNat = x.toNat), if_neg (by omega : ¬ t.toNat = x.toNat)]
      simp [hx]
  · have e1 : ¬ x = t := fun q => hx (q ▸ ht)
    rw [if_neg e1, if_neg e1, if_neg e1]
    simp [hx]
theorem ends_has {s : CoreS} {t : Int} (x : Int) : hasB (endsS s t) x = hasB s x := by
  unfold endsS
  split <;> rfl
theorem ends_facts {s : CoreS} (hl : Lens s) {t : Int} (ht : hasB s t = true) (x : Int) :
    actOf (endsS s t) x = (if x = t then false else actOf s x) ∧ tickOf (endsS s t) x = tickOf s x ∧ doomOf (endsS s t) x = doomOf s x := by
  have h2 := hasB_iff.1 ht
  have e : endsS s t = { s with ac := s.ac.set t.toNat false } := by unfold endsS; rw [if_pos ht]
  unfold actOf tickOf doomOf
  rw [ends_has, e]
  dsimp only
  refine ⟨?_, rfl, rfl⟩
  by_cases hx : hasB s x = true
  · have h3 := hasB_iff.1 hx
    rw [if_pos hx, getD_setBo _ _ _ _ (by rw [hl.1]; omega)]
    by_cases e1 : x = t
    · subst e1; simp
    · rw [if_neg (by omega : ¬ t.toNat = x.toNat), if_neg e1, if_pos hx]
  · have e1 : ¬ x = t := fun q => hx (q ▸ ht)
    rw [if_neg e1, if_neg hx, if_neg hx]
theorem OwI.has (h : OwI nd n most i next k) {t : Int} (h0 : 0 ≤ t) (h1 : t < n) : hasB k.s t = true := hasB_iff.2 ⟨h0, by rw [h.n]; exact h1⟩
theorem OwI.live (h : OwI nd n most i next k) {t : Int} (h0 : 0 ≤ t) (h1 : t < n) : OwI nd n most i (next + 1) (k.live t next) := by
  have ht := h.has h0 h1
  have hf := live_facts h.l (tick := next) ht
  have e : liveS k.s t next = { k.s with tk := k.s.tk.set t.toNat next, ac := k.s.ac.set t.toNat true, dm := k.s.dm.set t.toNat 0 } := by unfold liveS; rw [if_pos ht]
  refine ⟨h.o, h.r, ?_, ?_, fun x y hx hy hxy => ?_, fun x hx => ?_⟩
  · show Lens (liveS k.s t next)
    rw [e]
    exact ⟨by simp [h.l.1], by simp [h.l.2.1], by simpa using h.l.2.2⟩
  · show (liveS k.s t next).tk.length = n
    rw [e]; simpa using h.n
  · have hx : actOf (liveS k.s t next) x = true := hx
    have hy : actOf (liveS k.s t next) y = true := hy
    show tickOf (liveS k.s t next) x ≠ tickOf (liveS k.s t next) y
    rw [(hf x).1] at hx
    rw [(hf y).1] at hy
    rw [(hf x).2.1, (hf y).2.1]
    by_cases ex : x = t
    · have ey : ¬ y = t := fun q => hxy (ex.trans q.symm)
      rw [if_neg ey] at hy
      rw [if_pos ex, if_neg ey]
      have := h.u y hy
      omega
    · rw [if_neg ex] at hx
      rw [if_neg ex]
      by_cases ey : y = t
      · rw [if_pos ey]
        have := h.u x hx
        omega
      · rw [if_neg ey] at hy
        rw [if_neg ey]
        exact h.d x y hx hy hxy
  · have hx : actOf (liveS k.s t next) x = true := hx
    show tickOf (liveS k.s t next) x < next + 1
    rw [(hf x).1] at hx
    rw [(hf x).2.1]
    by_cases ex : x = t
    · rw [if_pos ex]; omega
    · rw [if_neg ex] at hx ⊢
      have := h.u x hx
      omega
theorem OwI.ends (h : OwI nd n most i next k) {t : Int} (h0 : 0 ≤ t) (h1 : t < n) : OwI nd n most i next (k.ends t) := by
  have ht := h.has h0 h1
  have hf := ends_facts h.l ht
  have e : endsS k.s t = { k.s with ac := k.s.ac.set t.toNat false } := by unfold endsS; rw [if_pos ht]
  have up : ∀ x, actOf (endsS k.s t) x = true → actOf k.s x = true := fun x hx => by
    rw [(hf x).1] at hx
    by_cases ex : x = t
    · rw [if_pos ex] at hx; cases hx
    · rwa [if_neg ex] at hx
  refine ⟨h.o, h.r, ?_, ?_, fun x y hx hy hxy => ?_, fun x hx => ?_⟩
  · show Lens (endsS k.s t)
    rw [e]
    exact ⟨by simp [h.l.1], by simp [h.l.2.1], by simpa using h.l.2.2⟩
  · show (endsS k.s t).tk.length = n
    rw [e]; exact h.n
  · show tickOf (endsS k.s t) x ≠ tickOf (endsS k.s t) y
    rw [(hf x).2.1, (hf y).2.1]
    exact h.d x y (up x hx) (up y hy) hxy
  · show tickOf (endsS k.s t) x < next
    rw [(hf x).2.1]
    exact h.u x (up x hx)
theorem OwI.same (h : OwI nd n most i next k) {s : CoreS} (hs : Same k.s s) : OwI nd n most i next { k with s := s } :=
  ⟨h.o, h.r, hs.lens h.l, by show s.tk.length = n; rw [hs.1]; exact h.n, fun x y hx hy hxy => by
    show tickOf s x ≠ tickOf s y
    rw [hs.tick, hs.tick]
    exact h.d x y (by rw [← hs.act]; exact hx) (by rw [← hs.act]; exact hy) hxy, fun x hx => by
    show tickOf s x < next
    rw [hs.tick]
    exact h.u x (by rw [← hs.act]; exact hx)⟩
end
end Go.Proofs.YtaaekmcmpjljgaaGreat.Co
namespace Go.Proofs.YtaaekmcmpjljgaaGreat.Co
open Go.RowKit Go.Proofs.YtaaekmcmpjljgaaGreatW.PrintWords Go.Proofs.YtaaekmcmpjljgaaGreatW.PrintLast Go.Proofs.YtaaekmcmpjljgaaGreatW.PrintMore Go.Proofs.YtaaekmcmpjljgaaGreat.PMd Go.Proofs.YtaaekmcmpjljgaaGreat.Ln Go.Proofs.YtaaekmcmpjljgaaGreat.Gr
set_option linter.unusedVariables false
set_option linter.unusedSimpArgs false
def InB (c0 c1 c2 c3 c4 c5 c6 c7 c8 c9 c10 c11 : Int) : Prop :=
  (1 ≤ c0 ∧ c0 ≤ 8) ∧ (1 ≤ c1 ∧ c1 ≤ 8) ∧ (1 ≤ c2 ∧ c2 ≤ 8) ∧ (1 ≤ c3 ∧ c3 ≤ 8) ∧ (1 ≤ c4 ∧ c4 ≤ 64) ∧ (0 ≤ c5 ∧ c5 ≤ 48) ∧ (1 ≤ c6 ∧ c6 ≤ 8) ∧ (1 ≤ c7 ∧ c7 ≤ 4096) ∧ (1 ≤ c8 ∧ c8 ≤ 1000) ∧ (0 ≤ c9 ∧ c9 ≤ 64) ∧ (1 ≤ c10 ∧ c10 ≤ 10000) ∧ (0 ≤ c11 ∧ c11 ≤ 2)
theorem chk_inb {c0 c1 c2 c3 c4 c5 c6 c7 c8 c9 c10 c11 : Int} : shape_Check.chkAll (shape_Check.chkN c0 c1 c2 c3 c4 c5 c6 c7 c8 c9 c10 c11) 12 = true ↔ InB c0 c1 c2 c3 c4 c5 c6 c7 c8 c9 c10 c11 := by
  simp only [shape_Check.chkAll, shape_Check.chkN, shape_Check.chkLo, shape_Check.chkHi, Bool.and_eq_true, Bool.not_eq_true', Bool.or_eq_false_iff, decide_eq_false_iff_not, Int.not_lt, InB, true_and]
  constructor
  · rintro ⟨⟨⟨⟨⟨⟨⟨⟨⟨⟨⟨h0, h1⟩, h2⟩, h3⟩, h4⟩, h5⟩, h6⟩, h7⟩, h8⟩, h9⟩, h10⟩, h11⟩
    exact ⟨h0, h1, h2, h3, h4, h5, h6, h7, h8, h9, h10, h11⟩
  · rintro ⟨h0, h1, h2, h3, h4, h5, h6, h7, h8, h9, h10, h11⟩
    exact ⟨⟨⟨⟨⟨⟨⟨⟨⟨⟨⟨h0, h1⟩, h2⟩, h3⟩, h4⟩, h5⟩, h6⟩, h7⟩, h8⟩, h9⟩, h10⟩, h11⟩
theorem chk_yes {c0 c1 c2 c3 c4 c5 c6 c7 c8 c9 c10 c11 : Int} (h : InB c0 c1 c2 c3 c4 c5 c6 c7 c8 c9 c10 c11) : shape_Check.f c0 c1 c2 c3 c4 c5 c6 c7 c8 c9 c10 c11 = some 0 := by
  unfold shape_Check.f shape_Check.g
  rw [if_pos (chk_inb.2 h)]
theorem mul8 {a b m : Int} (a0 : 1 ≤ a) (am : a ≤ m) (b0 : 1 ≤ b) (b8 : b ≤ 8) : a ≤ a * b ∧ a * b ≤ 8 * m := by
  have h1 : a * b ≤ a * 8 := Int.mul_le_mul_of_nonneg_left b8 (by omega)
  have h2 : a * 1 ≤ a * b := Int.mul_le_mul_of_nonneg_left b0 (by omega)
  omega
theorem conf_good {c0 c1 c2 c3 c4 c5 c6 c7 c8 c9 c10 c11 : Int} (h : InB c0 c1 c2 c3 c4 c5 c6 c7 c8 c9 c10 c11) : ∃ m sz nd : Nat, 1 ≤ m ∧ m ≤ sz ∧ sz ≤ 65536 ∧ 1 ≤ nd ∧ nd ≤ 10000 ∧
    shape_Words.f c0 c1 c2 c3 c4 c5 c6 c7 c8 c9 c10 c11 = some (m : Int) ∧ shape_Cells.f c0 c1 c2 c3 c4 c5 c6 c7 c8 c9 c10 c11 = some (sz : Int) ∧ shape_Nodes.f c0 c1 c2 c3 c4 c5 c6 c7 c8 c9 c10 c11 = some (nd : Int) := by
  have s := chk_yes h
  obtain ⟨⟨a0, b0⟩, ⟨a1, b1⟩, ⟨a2, b2⟩, ⟨a3, b3⟩, _⟩ := h
  have m1 := mul8 a0 b0 a1 b1
  have m2 := mul8 (a := c0 * c1) (m := 8 * 8) (by omega) m1.2 a2 b2
  have m3 := mul8 (a := c0 * c1 * c2) (m := 8 * (8 * 8)) (by omega) m2.2 a3 b3
  have w1 : wrap64 (c0 * c1) = c0 * c1 := wrap_in _ (by omega) (by omega)
  have w2 : wrap64 (c0 * c1 * c2) = c0 * c1 * c2 := wrap_in _ (by omega) (by omega)
  have w3 : wrap64 (c0 * c1 * c2 * c3) = c0 * c1 * c2 * c3 := wrap_in _ (by omega) (by omega)
  generalize hO : c0 * c1 = O at *
  generalize hS : O * c2 = S at *
  generalize hM : S * c3 = M at *
  have w4 : wrap64 (S * 8) = S * 8 := wrap_in _ (by omega) (by omega)
  have w5 : wrap64 (M + S * 8) = M + S * 8 := wrap_in _ (by omega) (by omega)
  have w6 : wrap64 (c0 + O) = c0 + O := wrap_in _ (by omega) (by omega)
  have w7 : wrap64 (c0 + O + S) = c0 + O + S := wrap_in _ (by omega) (by omega)
  refine ⟨M.toNat, (M + S * 8).toNat, (c0 + O + S).toNat, by omega, by omega, by omega, by omega, by omega, ?_, ?_, ?_⟩
  · unfold shape_Words.f shape_counts.f
    rw [s]
    simp only [Option.bind_some, if_true]
    rw [hO, w1, hS, w2, hM, w3, Int.toNat_of_nonneg (by omega)]
  · unfold shape_Cells.f shape_counts.f
    rw [s]
    simp only [Option.bind_some, if_true]
    rw [hO, w1, hS, w2, hM, w3, w4, w5, Int.toNat_of_nonneg (by omega)]
  · unfold shape_Nodes.f shape_counts.f
    rw [s]
    simp only [Option.bind_some, if_true]
    rw [hO, w1, hS, w2, w6, w7, Int.toNat_of_nonneg (by omega)]
structure Okc (c : Cf) : Prop where
  b0 : 1 ≤ c.f0 ∧ c.f0 ≤ 8
  b1 : 1 ≤ c.f1 ∧ c.f1 ≤ 8
  b2 : 1 ≤ c.f2 ∧ c.f2 ≤ 8
  b3 : 1 ≤ c.f3 ∧ c.f3 ≤ 8
  b4 : 1 ≤ c.f4 ∧ c.f4 ≤ 64
  b5 : 0 ≤ c.f5 ∧ c.f5 ≤ 48
  b6 : 1 ≤ c.f6 ∧ c.f6 ≤ 8
  b7 : 1 ≤ c.f7 ∧ c.f7 ≤ 4096
  b8 : 1 ≤ c.f8 ∧ c.f8 ≤ 1000
  b9 : 0 ≤ c.f9 ∧ c.f9 ≤ 64
  b10 : 1 ≤ c.f10 ∧ c.f10 ≤ 10000
  b11 : 0 ≤ c.f11 ∧ c.f11 ≤ 2
set_option maxHeartbeats 8000000 in
theorem chk_l0 (c : Cf) (k : Nat) (hk : 5 < k) : ∃ r, ltkref1_Check.l0 k [c.f0, c.f1, c.f2, c.f3] 0 c.f0 c.f1 c.f2 c.f3 c.f4 c.f5 c.f6 c.f7 c.f8 c.f9 c.f10 c.f11 = some r ∧ (r = 0 ↔ Okc c) := by
  obtain ⟨k, rfl⟩ : ∃ m, k = m + 5 := ⟨k - 5, by omega⟩
  have r0 : rd [c.f0, c.f1, c.f2, c.f3] 0 = c.f0 := by simp [rd]
  have r1 : rd [c.f0, c.f1, c.f2, c.f3] 1 = c.f1 := by simp [rd]
  have r2 : rd [c.f0, c.f1, c.f2, c.f3] 2 = c.f2 := by simp [rd]
  have r3 : rd [c.f0, c.f1, c.f2, c.f3] 3 = c.f3 := by simp [rd]
  have w0 : wrap64 (0 + 1) = 1 := by unfold wrap64; omega
  have w1 : wrap64 (1 + 1) = 2 := by unfold wrap64; omega
  have w2 : wrap64 (2 + 1) = 3 := by unfold wrap64; omega
  have w3 : wrap64 (3 + 1) = 4 := by unfold wrap64; omega
  have ll : (([c.f0, c.f1, c.f2, c.f3] : List Int).length : Int) = 4 := rfl
  have i0 : (0 : Int) < 4 := by decide
  have i1 : (1 : Int) < 4 := by decide
  have i2 : (2 : Int) < 4 := by decide
  have i3 : (3 : Int) < 4 := by decide
  have i4 : ¬ (4 : Int) < 4 := by decide
  have j0 : (0 : Int) ≤ 0 := by decide
  have j1 : (0 : Int) ≤ 1 := by decide
  have j2 : (0 : Int) ≤ 2 := by decide
  have j3 : (0 : Int) ≤ 3 := by decide
  suffices hh : (Okc c ∧ ltkref1_Check.l0 (k + 5) [c.f0, c.f1, c.f2, c.f3] 0 c.f0 c.f1 c.f2 c.f3 c.f4 c.f5 c.f6 c.f7 c.f8 c.f9 c.f10 c.f11 = some 0) ∨ (¬ Okc c ∧ ltkref1_Check.l0 (k + 5) [c.f0, c.f1, c.f2, c.f3] 0 c.f0 c.f1 c.f2 c.f3 c.f4 c.f5 c.f6 c.f7 c.f8 c.f9 c.f10 c.f11 = some 1) by
    rcases hh with ⟨h1, h2⟩ | ⟨h1, h2⟩
    · exact ⟨0, h2, fun _ => h1, fun _ => rfl⟩
    · exact ⟨1, h2, fun h => by simp at h, fun h => absurd h h1⟩
  obtain ⟨X, hX⟩ : ∃ X, ltkref1_Check.l0 (k + 5) [c.f0, c.f1, c.f2, c.f3] 0 c.f0 c.f1 c.f2 c.f3 c.f4 c.f5 c.f6 c.f7 c.f8 c.f9 c.f10 c.f11 = X := ⟨_, rfl⟩
  rw [hX]
  simp only [ltkref1_Check.l0, ll, r0, r1, r2, r3, w0, w1, w2, w3, i0, i1, i2, i3, i4, j0, j1, j2, j3, if_true, if_false] at hX
  clear r0 r1 r2 r3 w0 w1 w2 w3 ll i0 i1 i2 i3 i4 j0 j1 j2 j3
  by_cases g0 : c.f0 < 1
  · rw [if_pos g0] at hX
    exact .inr ⟨fun h => by have := h.b0; omega, hX.symm⟩
  rw [if_neg g0] at hX
  by_cases k0 : c.f0 > 8
  · rw [if_pos k0] at hX
    exact .inr ⟨fun h => by have := h.b0; omega, hX.symm⟩
  rw [if_neg k0] at hX
  by_cases g1 : c.f1 < 1
  · rw [if_pos g1] at hX
    exact .inr ⟨fun h => by have := h.b1; omega, hX.symm⟩
  rw [if_neg g1] at hX
  by_cases k1 : c.f1 > 8
  · rw [if_pos k1] at hX
    exact .inr ⟨fun h => by have := h.b1; omega, hX.symm⟩
  rw [if_neg k1] at hX
  by_cases g2 : c.f2 < 1
  · rw [if_pos g2] at hX
    exact .inr ⟨fun h => by have := h.b2; omega, hX.symm⟩
  rw [if_neg g2] at hX
  by_cases k2 : c.f2 > 8
  · rw [if_pos k2] at hX
    exact .inr ⟨fun h => by have := h.b2; omega, hX.symm⟩
  rw [if_neg k2] at hX
  by_cases g3 : c.f3 < 1
  · rw [if_pos g3] at hX
    exact .inr ⟨fun h => by have := h.b3; omega, hX.symm⟩
  rw [if_neg g3] at hX
  by_cases k3 : c.f3 > 8
  · rw [if_pos k3] at hX
    exact .inr ⟨fun h => by have := h.b3; omega, hX.symm⟩
  rw [if_neg k3] at hX
  by_cases g4 : c.f4 < 1
  · rw [if_pos g4] at hX
    exact .inr ⟨fun h => by have := h.b4; omega, hX.symm⟩
  rw [if_neg g4] at hX
  by_cases k4 : c.f4 > 64
  · rw [if_pos k4] at hX
    exact .inr ⟨fun h => by have := h.b4; omega, hX.symm⟩
  rw [if_neg k4] at hX
  by_cases g5 : c.f5 < 0
  · rw [if_pos g5] at hX
    exact .inr ⟨fun h => by have := h.b5; omega, hX.symm⟩
  rw [if_neg g5] at hX
  by_cases k5 : c.f5 > 48
  · rw [if_pos k5] at hX
    exact .inr ⟨fun h => by have := h.b5; omega, hX.symm⟩
  rw [if_neg k5] at hX
  by_cases g6 : c.f6 < 1
  · rw [if_pos g6] at hX
    exact .inr ⟨fun h => by have := h.b6; omega, hX.symm⟩
  rw [if_neg g6] at hX
  by_cases k6 : c.f6 > 8
  · rw [if_pos k6] at hX
    exact .inr ⟨fun h => by have := h.b6; omega, hX.symm⟩
  rw [if_neg k6] at hX
  by_cases g7 : c.f7 < 1
  · rw [if_pos g7] at hX
    exact .inr ⟨fun h => by have := h.b7; omega, hX.symm⟩
  rw [if_neg g7] at hX
  by_cases k7 : c.f7 > 4096
  · rw [if_pos k7] at hX
    exact .inr ⟨fun h => by have := h.b7; omega, hX.symm⟩
  rw [if_neg k7] at hX
  by_cases g8 : c.f8 < 1
  · rw [if_pos g8] at hX
    exact .inr ⟨fun h => by have := h.b8; omega, hX.symm⟩
  rw [if_neg g8] at hX
  by_cases k8 : c.f8 > 1000
  · rw [if_pos k8] at hX
    exact .inr ⟨fun h => by have := h.b8; omega, hX.symm⟩
  rw [if_neg k8] at hX
  by_cases g9 : c.f9 < 0
  · rw [if_pos g9] at hX
    exact .inr ⟨fun h => by have := h.b9; omega, hX.symm⟩
  rw [if_neg g9] at hX
  by_cases k9 : c.f9 > 64
  · rw [if_pos k9] at hX
    exact .inr ⟨fun h => by have := h.b9; omega, hX.symm⟩
  rw [if_neg k9] at hX
  by_cases g10 : c.f10 < 1
  · rw [if_pos g10] at hX
    exact .inr ⟨fun h => by have := h.b10; omega, hX.symm⟩
  rw [if_neg g10] at hX
  by_cases k10 : c.f10 > 10000
  · rw [if_pos k10] at hX
    exact .inr ⟨fun h => by have := h.b10; omega, hX.symm⟩
  rw [if_neg k10] at hX
  by_cases g11 : c.f11 < 0
  · rw [if_pos g11] at hX
    exact .inr ⟨fun h => by have := h.b11; omega, hX.symm⟩
  rw [if_neg g11] at hX
  by_cases k11 : c.f11 > 2
  · rw [if_pos k11] at hX
    exact .inr ⟨fun h => by have := h.b11; omega, hX.symm⟩
  rw [if_neg k11] at hX
  exact .inl ⟨⟨⟨by omega, by omega⟩, ⟨by omega, by omega⟩, ⟨by omega, by omega⟩, ⟨by omega, by omega⟩, ⟨by omega, by omega⟩, ⟨by omega, by omega⟩, ⟨by omega, by omega⟩, ⟨by omega, by omega⟩, ⟨by omega, by omega⟩, ⟨by omega, by omega⟩, ⟨by omega, by omega⟩, ⟨by omega, by omega⟩⟩, hX.symm⟩
theorem chk_f (c : Cf) : ∃ r, ltkref1_Check.f 20 c.f0 c.f1 c.f2 c.f3 c.f4 c.f5 c.f6 c.f7 c.f8 c.f9 c.f10 c.f11 = some r ∧ (r = 0 ↔ Okc c) := chk_l0 c 20 (by omega)
theorem okc_inb {c : Cf} (h : Okc c) : InB c.f0 c.f1 c.f2 c.f3 c.f4 c.f5 c.f6 c.f7 c.f8 c.f9 c.f10 c.f11 := ⟨h.b0, h.b1, h.b2, h.b3, h.b4, h.b5, h.b6, h.b7, h.b8, h.b9, h.b10, h.b11⟩
theorem words_eq {c : Cf} {m : Int} (h : InB c.f0 c.f1 c.f2 c.f3 c.f4 c.f5 c.f6 c.f7 c.f8 c.f9 c.f10 c.f11) (hk : ltkref1_Check.f 20 c.f0 c.f1 c.f2 c.f3 c.f4 c.f5 c.f6 c.f7 c.f8 c.f9 c.f10 c.f11 = some 0) (hm : shape_Words.f c.f0 c.f1 c.f2 c.f3 c.f4 c.f5 c.f6 c.f7 c.f8 c.f9 c.f10 c.f11 = some m) : ltkref1_Words.f 20 c.f0 c.f1 c.f2 c.f3 c.f4 c.f5 c.f6 c.f7 c.f8 c.f9 c.f10 c.f11 = some m := by
  have s := chk_yes h
  unfold shape_Words.f shape_counts.f at hm
  rw [s] at hm
  simp only [Option.bind_some, if_true] at hm
  unfold ltkref1_Words.f ltkref1_stripes.f ltkref1_objects.f
  rw [hk]
  simp only [Option.bind_some, if_true]
  exact hm
theorem conf_all (c : Cf) : (∃ r, r ≠ 0 ∧ ltkref1_Check.f 20 c.f0 c.f1 c.f2 c.f3 c.f4 c.f5 c.f6 c.f7 c.f8 c.f9 c.f10 c.f11 = some r) ∨ (ltkref1_Check.f 20 c.f0 c.f1 c.f2 c.f3 c.f4 c.f5 c.f6 c.f7 c.f8 c.f9 c.f10 c.f11 = some 0 ∧ InB c.f0 c.f1 c.f2 c.f3 c.f4 c.f5 c.f6 c.f7 c.f8 c.f9 c.f10 c.f11 ∧ ∃ m sz nd : Nat, 1 ≤ m ∧ m ≤ sz ∧ sz ≤ 65536 ∧ 1 ≤ nd ∧ nd ≤ 10000 ∧ shape_Words.f c.f0 c.f1 c.f2 c.f3 c.f4 c.f5 c.f6 c.f7 c.f8 c.f9 c.f10 c.f11 = some (m : Int) ∧ shape_Cells.f c.f0 c.f1 c.f2 c.f3 c.f4 c.f5 c.f6 c.f7 c.f8 c.f9 c.f10 c.f11 = some (sz : Int) ∧ shape_Nodes.f c.f0 c.f1 c.f2 c.f3 c.f4 c.f5 c.f6 c.f7 c.f8 c.f9 c.f10 c.f11 = some (nd : Int) ∧ ltkref1_Words.f 20 c.f0 c.f1 c.f2 c.f3 c.f4 c.f5 c.f6 c.f7 c.f8 c.f9 c.f10 c.f11 = some (m : Int)) := by
  obtain ⟨r, h1, h2⟩ := chk_f c
  by_cases hr : r = 0
  · subst hr
    have hi := okc_inb (h2.1 rfl)
    obtain ⟨m, sz, nd, g1, g2, g3, g4, g5, g6, g7, g8⟩ := conf_good hi
    exact .inr ⟨h1, hi, m, sz, nd, g1, g2, g3, g4, g5, g6, g7, g8, words_eq hi h1 g6⟩
  · exact .inl ⟨r, hr, h1⟩
end Go.Proofs.YtaaekmcmpjljgaaGreat.Co
