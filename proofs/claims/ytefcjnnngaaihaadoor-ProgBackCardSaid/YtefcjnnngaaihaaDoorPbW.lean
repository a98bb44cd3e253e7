import Derived.Test.YtefcjnnngaaihaaDoorPlW
import Derived.Test.YtefcjnnngaaihaaDoorPaW
/- ProgBack: what passes ends, stays in the heap, is read back. -/
namespace Go.Proofs.YtefcjnnngaaihaaDoor.Pg
open Go.RowKit Go.Proofs.Pg Go.Proofs.YtefcjnnngaaihaaDoor.Ln Go.Proofs.YtefcjnnngaaihaaDoorW.PrintWords Go.Proofs.YtefcjnnngaaihaaDoorW.PrintWords.Kd Go.Proofs.YtefcjnnngaaihaaDoor.PPg
set_option linter.unusedVariables false
set_option linter.unusedSimpArgs false
theorem Check_n {c0 c1 c2 c3 c4 c5 c6 c7 c8 c9 c10 c11 : Int} (A : Option Addr) (c n : Nat) (xs : List In) (r : Int) (w : World) (hn : xs.length = n) (hC : Kd.C k26 w A xs.length (xs.map toS)) (hc : xs.length ≤ c)
    (h : prog_Check.f 70 c0 c1 c2 c3 c4 c5 c6 c7 c8 c9 c10 c11 (xs.map toS) = some r) :
    Calls Tryd.prog 9 #[.agg #[.int .i64 c0, .int .i64 c1, .int .i64 c2, .int .i64 c3, .int .i64 c4, .int .i64 c5, .int .i64 c6, .int .i64 c7, .int .i64 c8, .int .i64 c9, .int .i64 c10, .int .i64 c11], .slice A n c] w fun e w' => e = .returned (.int .i64 r) ∧ Below w.heap.size w w' := by
  subst hn
  have h2 := prog_Check.calls 70 c0 c1 c2 c3 c4 c5 c6 c7 c8 c9 c10 c11 A c (xs.map toS) r w (by rw [List.length_map]; exact hC) (by rw [List.length_map]; exact hc) h
  rwa [List.length_map] at h2
theorem words_pos {c0 c1 c2 c3 c4 c5 c6 c7 c8 c9 c10 c11 : Int} (h : InB c0 c1 c2 c3 c4 c5 c6 c7 c8 c9 c10 c11) : ∃ n : Int, 1 ≤ n ∧ n ≤ 65536 ∧ shape_Words.f c0 c1 c2 c3 c4 c5 c6 c7 c8 c9 c10 c11 = some n := by
  have s := chk_yes h
  obtain ⟨⟨a0, b0⟩, ⟨a1, b1⟩, ⟨a2, b2⟩, ⟨a3, b3⟩, _⟩ := h
  have m1 := mul8 a0 b0 a1 b1
  have m2 := mul8 m1.1 m1.2 a2 b2
  have m3 := mul8 m2.1 m2.2 a3 b3
  refine ⟨c0 * c1 * c2 * c3, m3.1, by omega, ?_⟩
  unfold shape_Words.f shape_counts.f
  rw [s]
  simp only [Option.bind_some, if_true]
  rw [w64 (x := c0 * c1) (by omega) (by omega), w64 (x := c0 * c1 * c2) (by omega) (by omega), w64 (x := c0 * c1 * c2 * c3) (by omega) (by omega)]
theorem addr_any (c0 c1 c2 c3 c4 c5 c6 c7 c8 c9 c10 c11 n x0 x1 x2 x3 : Int) (l regs : List Int) (hn : shape_Words.f c0 c1 c2 c3 c4 c5 c6 c7 c8 c9 c10 c11 = some n) (h1 : 1 ≤ n) (h2 : n ≤ 65536) : ∃ a, prog_Addr.f 1 c0 c1 c2 c3 c4 c5 c6 c7 c8 c9 c10 c11 x0 x1 x2 x3 l regs = some a ∧ 0 ≤ a ∧ a < n := by
  by_cases e : x3 = -1
  · subst e
    obtain ⟨r, hr, r0, r1⟩ := wrap_to x2 n h1 (by omega)
    exact ⟨r, by rw [addr_plain 1 c0 c1 c2 c3 c4 c5 c6 c7 c8 c9 c10 c11 n x0 x1 x2 l regs hn]; exact hr, r0, r1⟩
  · by_cases e1 : x3 < 0
    · refine ⟨0, ?_, by omega, by omega⟩
      unfold prog_Addr.f; rw [if_neg e, if_pos e1]; simp [prog_Addr.j0]
    · by_cases e2 : (regs.length : Int) ≤ x3
      · exact ⟨0, addr_far 0 c0 c1 c2 c3 c4 c5 c6 c7 c8 c9 c10 c11 x0 x1 x2 x3 l regs (by omega) e2, by omega, by omega⟩
      · obtain ⟨r, hr, r0, r1⟩ := wrap_to (wrap64 (x2 + rd regs x3)) n h1 (by omega)
        exact ⟨r, by rw [addr_reg 0 c0 c1 c2 c3 c4 c5 c6 c7 c8 c9 c10 c11 n x0 x1 x2 x3 l regs hn (by omega) (by omega)]; exact hr, r0, r1⟩
theorem Texts_n (A B : Option Addr) (c d n m : Nat) (l k : List ByteArray) (w : World) (hn : l.length = n) (hm : k.length = m) (hl : Kd.string.C w A l.length l) (hk : Kd.string.C w B k.length k) (hq : l = k) :
    Calls Tryd.prog 19 #[.slice A n c, .slice B m d] w fun e w' => e = .returned (.bool true) ∧ Below w.heap.size w w' := by
  subst hn; subst hm
  exact Texts_ A B c d l k w hl hk hq
theorem canon_ok {x : In} (h : OkI x ∧ x.l.length ≤ 1000) : OkI (canon x) ∧ (canon x).l.length ≤ 1000 := by
  have h0 : I64 0 := by unfold I64; omega
  obtain ⟨⟨ha, hb, hc, hl⟩, hn⟩ := h
  unfold canon OkI
  simp only
  refine ⟨⟨?_, ?_, ?_, ?_⟩, ?_⟩
  · split <;> assumption
  · split <;> assumption
  · split <;> assumption
  · split
    · exact hl
    · intro v hv; cases hv
  · split
    · exact hn
    · simp
theorem canon_k (x : In) : (canon x).k = x.k := rfl
set_option maxHeartbeats 16000000 in
set_option maxRecDepth 100000 in
theorem back_walk (c0 c1 c2 c3 c4 c5 c6 c7 c8 c9 c10 c11 : Int) (A B : Option Addr) (cA cB : Nat) (ps : List In) (regs : List Int) (w : World) (hE : Env w) (hA : Kd.C k26 w A ps.length (ps.map toS)) (hcA : ps.length ≤ cA) (okp : ∀ x ∈ ps, OkI x) (hR : (Kd.int .i64).C w B regs.length regs) (hcB : regs.length ≤ cB) :
    Calls Tryd.prog 7 #[.agg #[.int .i64 c0, .int .i64 c1, .int .i64 c2, .int .i64 c3, .int .i64 c4, .int .i64 c5, .int .i64 c6, .int .i64 c7, .int .i64 c8, .int .i64 c9, .int .i64 c10, .int .i64 c11], .slice A ps.length cA, .slice B regs.length cB] w fun e w' => e = .returned (.bool true) ∧ Below w.heap.size w w' := by
  have hu := Tryd.underlying30
  have hu2 := Tryd.underlying26
  have HE := Aside0.mk (fun W (hb : Below w.heap.size w W) => hE.below hb)
  have HF := Aside0.mk (fun W (hb : Below w.heap.size w W) => first_ W (hE.below hb))
  have HA := Aside0.mk (And.intro hA hcA)
  have HR := Aside0.mk (And.intro hR hcB)
  have HOK := Aside0.mk okp
  have B1 := Aside0.mk (below_alloc (Below.refl w.heap.size w) (.cells #[.int .i64 c0, .int .i64 c1, .int .i64 c2, .int .i64 c3, .int .i64 c4, .int .i64 c5, .int .i64 c6, .int .i64 c7, .int .i64 c8, .int .i64 c9, .int .i64 c10, .int .i64 c11] 30))
  have BK1 := Aside0.mk (heap_alloc_new w (.cells #[.int .i64 c0, .int .i64 c1, .int .i64 c2, .int .i64 c3, .int .i64 c4, .int .i64 c5, .int .i64 c6, .int .i64 c7, .int .i64 c8, .int .i64 c9, .int .i64 c10, .int .i64 c11] 30))
  clear hE hA hcA hR hcB okp
  go_enter Tryd.func7, Tryd.ntmps7
  go_wp2_with fail
  refine (HF.out _ B1.out).mono ?_
  rintro e w1 ⟨rfl, hb⟩
  have HB1 := Aside0.mk (below_then B1.out B1.out.size hb)
  have bk := (hb.block w.heap.size (by simp)).trans BK1.out
  have HSZ1 := Aside0.mk (show w.heap.size < w1.heap.size from (Array.getElem?_eq_some_iff.1 bk).1)
  generalize w.heap.size = g at bk HSZ1
  have HG := Aside0.mk (fun W (hb : Below w1.heap.size w1 W) => show W.cell? ⟨g, 0, none⟩ = some (.int .i64 c0) ∧ W.cell? ⟨g, 1, none⟩ = some (.int .i64 c1) ∧ W.cell? ⟨g, 2, none⟩ = some (.int .i64 c2) ∧ W.cell? ⟨g, 3, none⟩ = some (.int .i64 c3) ∧ W.cell? ⟨g, 4, none⟩ = some (.int .i64 c4) ∧ W.cell? ⟨g, 5, none⟩ = some (.int .i64 c5) ∧ W.cell? ⟨g, 6, none⟩ = some (.int .i64 c6) ∧ W.cell? ⟨g, 7, none⟩ = some (.int .i64 c7) ∧ W.cell? ⟨g, 8, none⟩ = some (.int .i64 c8) ∧ W.cell? ⟨g, 9, none⟩ = some (.int .i64 c9) ∧ W.cell? ⟨g, 10, none⟩ = some (.int .i64 c10) ∧ W.cell? ⟨g, 11, none⟩ = some (.int .i64 c11) from conf_cells ((hb.block g HSZ1.out).trans bk))
  have HBW := Aside0.mk (fun W (hb : Below w1.heap.size w1 W) => HB1.out.trans (Below.low hb HB1.out.size))
  have HFW := Aside0.mk (fun W (hb : Below w1.heap.size w1 W) => HF.out W (HBW.out W hb))
  have HF1 := Aside0.mk (Few_ A cA ps w1 (C_below HA.out.1 HB1.out))
  clear hb bk B1 BK1
  go_wp2_with fail
  refine HF1.out.mono ?_
  rintro e w2 ⟨r, rfl, hr, hb⟩
  have H2 := Aside0.mk hb
  have HRR := Aside0.mk hr
  clear hb hr HF1
  cases r with
  | false =>
    clear HRR
    go_wp2_with fail
    refine (HFW.out _ H2.out).mono ?_
    rintro e w9 ⟨rfl, hb⟩
    have HB9 := Aside0.mk ((HBW.out _ H2.out).trans (Below.low hb (HBW.out _ H2.out).size))
    clear hb
    go_wp2
    go_ret
    exact ⟨rfl, HB9.out⟩
  | true =>
    have HP := Aside0.mk (HRR.out.1 rfl)
    clear HRR
    by_cases hreg : 100 < (regs.length : Int)
    · skip
      go_wp2_with fail
      refine (HFW.out _ H2.out).mono ?_
      rintro e w9 ⟨rfl, hb⟩
      have HB9 := Aside0.mk ((HBW.out _ H2.out).trans (Below.low hb (HBW.out _ H2.out).size))
      clear hb
      go_wp2
      go_ret
      exact ⟨rfl, HB9.out⟩
    · obtain ⟨y0, y1, y2, y3, y4, y5, y6, y7, y8, y9, y10, y11⟩ := HG.out _ H2.out
      by_cases hchk : chk c0 c1 c2 c3 c4 c5 c6 c7 c8 c9 c10 c11 ps
      case neg =>
        have HK := Aside0.mk (Check_n A cA ps.length ps 2 w2 rfl (C_below HA.out.1 (HBW.out _ H2.out)) HA.out.2 (check_no hchk))
        clear hchk
        go_wp2_with fail
        refine HK.out.mono ?_
        rintro e w3 ⟨rfl, hb⟩
        have H3 := Aside0.mk (below_then H2.out H2.out.size hb)
        clear hb H2
        have H2 := Aside0.mk H3.out
        clear H3
        go_wp2_with fail
        refine (HFW.out _ H2.out).mono ?_
        rintro e w9 ⟨rfl, hb⟩
        have HB9 := Aside0.mk ((HBW.out _ H2.out).trans (Below.low hb (HBW.out _ H2.out).size))
        clear hb
        go_wp2
        go_ret
        exact ⟨rfl, HB9.out⟩
      case pos =>
        have HK := Aside0.mk (Check_n A cA ps.length ps 0 w2 rfl (C_below HA.out.1 (HBW.out _ H2.out)) HA.out.2 (check_yes hchk))
        have HCK := Aside0.mk hchk
        clear hchk
        go_wp2_with fail
        refine HK.out.mono ?_
        rintro e w3 ⟨rfl, hb⟩
        have H3 := Aside0.mk (below_then H2.out H2.out.size hb)
        obtain ⟨n, n1, n2, hn⟩ := words_pos HCK.out.1
        have HWD := Aside0.mk (And.intro hn (And.intro n1 n2))
        clear hb HK y0 y1 y2 y3 y4 y5 y6 y7 y8 y9 y10 y11 hn n1 n2 H2
        go_wp2_with fail
        go_loopg [7] ps.length (fun gg v7 wr => ∃ (i : Nat) (z : Int), z = i ∧ i ≤ ps.length ∧ ps.length - i ≤ gg ∧ v7 = .int .i64 z ∧ Aside0 (Below w1.heap.size w1 wr))
        case atStart => exact ⟨0, 0, rfl, by omega, by omega, rfl, H3⟩
        case round =>
          obtain ⟨i, z, hz, hi, hgg, rfl, HB⟩ := hrel
          by_cases hlt : i < ps.length
          · have t1 : z < (ps.length : Int) := by omega
            have t0 : 0 ≤ z := by omega
            obtain ⟨ad, A4, q4, hAd, x0, x1, x2, x3, x4, hl4, hC4⟩ := at_T26 HA.out.1 z t0 t1
            cases hAd
            have hrd : rd_T26 (ps.map toS) z = toS ps[i] := by rw [hz]; exact rd_toS ps i hlt
            rw [hrd] at x0 x1 x2 x3 x4 hl4 hC4
            have hok := HCK.out.2.2 i hlt
            generalize ps[i] = x at x0 x1 x2 x3 x4 hl4 hC4 hok
            obtain ⟨xk, xa, xb, xc, xl⟩ := x
            simp only [toS] at x0 x1 x2 x3 x4 hl4 hC4
            have HJ := Aside0.mk (And.intro hz (And.intro hlt hgg))
            have HJK := Aside0.mk (show (xk = 5 → z < xb ∧ xb ≤ (ps.length : Int)) ∧ (xk = 4 → 0 ≤ xb ∧ xb ≤ 8) from ⟨fun h => by rw [hz]; exact ok_jump hok h, fun h => ok_calc hok h⟩)
            have W3 := Aside0.mk (show wrap64 (z + 1) = ((i + 1 : Nat) : Int) by have := HP.out.1; unfold wrap64; omega)
            have HPC := Aside0.mk (fun W (hb : Below w1.heap.size w1 W) => show W.cell? (ad.add (z.toNat * 5)) = some (.int .i64 xk) ∧ W.cell? ⟨(ad.add (z.toNat * 5)).block, (ad.add (z.toNat * 5)).off + 1, none⟩ = some (.int .i64 xa) ∧ W.cell? ⟨(ad.add (z.toNat * 5)).block, (ad.add (z.toNat * 5)).off + 2, none⟩ = some (.int .i64 xb) ∧ W.cell? ⟨(ad.add (z.toNat * 5)).block, (ad.add (z.toNat * 5)).off + 3, none⟩ = some (.int .i64 xc) ∧ W.cell? ⟨(ad.add (z.toNat * 5)).block, (ad.add (z.toNat * 5)).off + 4, none⟩ = some (.slice A4 xl.length q4) from
              have h := fun (a : Addr) (v : Value) (hc : w.cell? a = some v) => show W.cell? a = some v from ((HBW.out W hb).cell (World.block_lt_of_cell? w _ hc)).trans hc
              ⟨h _ _ x0, h _ _ x1, h _ _ x2, h _ _ x3, h _ _ x4⟩)
            have hany := addr_any c0 c1 c2 c3 c4 c5 c6 c7 c8 c9 c10 c11 n xk xa xb xc xl regs HWD.out.1 HWD.out.2.1 HWD.out.2.2
            obtain ⟨av, hav, av0, av1⟩ := hany
            have HAC := Aside0.mk (fun W (hb : Below w1.heap.size w1 W) => prog_Addr.calls 1 c0 c1 c2 c3 c4 c5 c6 c7 c8 c9 c10 c11 xk xa xb xc A4 q4 xl B cB regs av W (C_below hC4 (HBW.out W hb)) hl4 (C_below HR.out.1 (HBW.out W hb)) HR.out.2 hav)
            have HSS := Aside0.mk (fun W (hb : Below w1.heap.size w1 W) => And.intro (HG.out W hb) (HPC.out W hb))
            have HKd := Aside0.mk (below_drew HB.out)
            clear hrd hok hz hlt hgg hi x0 x1 x2 x3 x4 hl4 hC4 hav
            go_wp2
            refine wp_region_held_drew (S := (fun W => (W.cell? ⟨g, 0, none⟩ = some (.int .i64 c0) ∧ W.cell? ⟨g, 1, none⟩ = some (.int .i64 c1) ∧ W.cell? ⟨g, 2, none⟩ = some (.int .i64 c2) ∧ W.cell? ⟨g, 3, none⟩ = some (.int .i64 c3) ∧ W.cell? ⟨g, 4, none⟩ = some (.int .i64 c4) ∧ W.cell? ⟨g, 5, none⟩ = some (.int .i64 c5) ∧ W.cell? ⟨g, 6, none⟩ = some (.int .i64 c6) ∧ W.cell? ⟨g, 7, none⟩ = some (.int .i64 c7) ∧ W.cell? ⟨g, 8, none⟩ = some (.int .i64 c8) ∧ W.cell? ⟨g, 9, none⟩ = some (.int .i64 c9) ∧ W.cell? ⟨g, 10, none⟩ = some (.int .i64 c10) ∧ W.cell? ⟨g, 11, none⟩ = some (.int .i64 c11)) ∧ (W.cell? (ad.add (z.toNat * 5)) = some (.int .i64 xk) ∧ W.cell? ⟨(ad.add (z.toNat * 5)).block, (ad.add (z.toNat * 5)).off + 1, none⟩ = some (.int .i64 xa) ∧ W.cell? ⟨(ad.add (z.toNat * 5)).block, (ad.add (z.toNat * 5)).off + 2, none⟩ = some (.int .i64 xb) ∧ W.cell? ⟨(ad.add (z.toNat * 5)).block, (ad.add (z.toNat * 5)).off + 3, none⟩ = some (.int .i64 xc) ∧ W.cell? ⟨(ad.add (z.toNat * 5)).block, (ad.add (z.toNat * 5)).off + 4, none⟩ = some (.slice A4 xl.length q4)))) (by kernel_rfl) ?_ (fun hH => ?_)
            · exact HSS.out _ HKd.out
            refine wpAnyH_take (i := 0) (oi := { dst := some 35, op := Op.load 30 (Operand.tmp 3), type := 30, pos := "law.go:77", after := #[], guard := none }) (v := ?vq1) rfl (by kernel_rfl) (by kernel_rfl) (by kernel_rfl) (fun _ _ _ h => h) (Or.inl ⟨by rfl, ?yq1⟩) (by assumption) ?rq1
            case yq1 => (intro w hSw; (try dsimp only at hSw); go_simp; (try with_reducible rfl))
            (try simp only [Act.put, List.setIfInBounds_toArray, List.set_cons_zero, List.set_cons_succ])
            refine wpAnyH_take (i := 1) (oi := { dst := some 36, op := Op.move (Operand.tmp 1), type := 23, pos := "law.go:77", after := #[], guard := none }) (v := ?vq2) rfl (by kernel_rfl) (by kernel_rfl) (by kernel_rfl) (fun _ _ _ h => h) (Or.inl ⟨by rfl, ?yq2⟩) (by assumption) ?rq2
            case yq2 => (intro w hSw; (try dsimp only at hSw); go_simp; (try with_reducible rfl))
            (try simp only [Act.put, List.setIfInBounds_toArray, List.set_cons_zero, List.set_cons_succ])
            refine wpAnyH_take (i := 2) (oi := { dst := some 37, op := Op.move (Operand.tmp 7), type := 3, pos := "law.go:77", after := #[], guard := none }) (v := ?vq3) rfl (by kernel_rfl) (by kernel_rfl) (by kernel_rfl) (fun _ _ _ h => h) (Or.inl ⟨by rfl, ?yq3⟩) (by assumption) ?rq3
            case yq3 => (intro w hSw; (try dsimp only at hSw); go_simp; (try with_reducible rfl))
            (try simp only [Act.put, List.setIfInBounds_toArray, List.set_cons_zero, List.set_cons_succ])
            refine wpAnyH_take (i := 3) (oi := { dst := some 38, op := Op.indexAddr 23 (Operand.tmp 36) (Operand.tmp 37), type := 0, pos := "law.go:77", after := #[{ on := 1, ground := Ground.data }, { on := 2, ground := Ground.data }], guard := none }) (v := ?vq4) rfl (by kernel_rfl) (by kernel_rfl) (by kernel_rfl) (fun _ _ _ h => h) (Or.inl ⟨by rfl, ?yq4⟩) (by assumption) ?rq4
            case yq4 => (intro w hSw; (try dsimp only at hSw); go_simp; (try with_reducible rfl))
            (try simp only [Act.put, List.setIfInBounds_toArray, List.set_cons_zero, List.set_cons_succ])
            refine wpAnyH_take (i := 4) (oi := { dst := some 39, op := Op.load 26 (Operand.tmp 38), type := 26, pos := "law.go:77", after := #[{ on := 3, ground := Ground.data }], guard := none }) (v := ?vq5) rfl (by kernel_rfl) (by kernel_rfl) (by kernel_rfl) (fun _ _ _ h => h) (Or.inl ⟨by rfl, ?yq5⟩) (by assumption) ?rq5
            case yq5 => (intro w hSw; (try dsimp only at hSw); go_simp; (try with_reducible rfl))
            (try simp only [Act.put, List.setIfInBounds_toArray, List.set_cons_zero, List.set_cons_succ])
            refine wpAnyH_take (i := 5) (oi := { dst := some 40, op := Op.move (Operand.tmp 2), type := 24, pos := "law.go:77", after := #[], guard := none }) (v := ?vq6) rfl (by kernel_rfl) (by kernel_rfl) (by kernel_rfl) (fun _ _ _ h => h) (Or.inl ⟨by rfl, ?yq6⟩) (by assumption) ?rq6
            case yq6 => (intro w hSw; (try dsimp only at hSw); go_simp; (try with_reducible rfl))
            (try simp only [Act.put, List.setIfInBounds_toArray, List.set_cons_zero, List.set_cons_succ])
            refine wpAnyH_ready (rs := [6]) (by kernel_rfl) (by simp) ?_
            refine AllReadyH.cons (o := { dst := some 41, op := Op.call { callee := Callee.value (Operand.func 12), args := #[Operand.tmp 35, Operand.tmp 39, Operand.tmp 40], argTypes := #[30, 26, 24] }, type := 3, pos := "law.go:77", after := #[{ on := 0, ground := Ground.data }, { on := 4, ground := Ground.data }, { on := 5, ground := Ground.data }], guard := none }) rfl (fun K hK => ?_) AllReadyH.nil
            go_simp
            (go_at_call 12; (with_reducible refine (HAC.out _ HKd.out).mono ?_); rintro e w4 ⟨rfl, hb⟩; have K4 := Aside0.mk (below_then HKd.out HKd.out.size hb); clear hb)
            go_wp2_with fail
            refine hK.out _ _ ?_ (fun hHq6 => ?_)
            · (try dsimp only)
              exact HSS.out _ K4.out
            clear hK K hH
            (try simp only [Act.put, List.setIfInBounds_toArray, List.set_cons_zero, List.set_cons_succ])
            refine wpAnyH_take (i := 7) (oi := { dst := some 8, op := Op.assign (Operand.tmp 41), type := 3, pos := "law.go:77", after := #[{ on := 6, ground := Ground.data }, { on := 6, ground := Ground.chain }, { on := 0, ground := Ground.phase }, { on := 1, ground := Ground.phase }, { on := 2, ground := Ground.phase }, { on := 3, ground := Ground.phase }, { on := 4, ground := Ground.phase }, { on := 5, ground := Ground.phase }, { on := 6, ground := Ground.phase }], guard := none }) (v := ?vq8) rfl (by kernel_rfl) (by kernel_rfl) (by kernel_rfl) (fun _ _ _ h => h) (Or.inl ⟨by rfl, ?yq8⟩) (by assumption) ?rq8
            case yq8 => (intro w hSw; (try dsimp only at hSw); go_simp; (try with_reducible rfl))
            (try simp only [Act.put, List.setIfInBounds_toArray, List.set_cons_zero, List.set_cons_succ])
            refine wpAnyH_done (by kernel_rfl) ?_ _
            have hcf := HG.out _ K4.out
            have f1 : decide (av < 0) = false := decide_eq_false (by omega)
            go_wp2_with fail
            refine (shape_Words.calls c0 c1 c2 c3 c4 c5 c6 c7 c8 c9 c10 c11 n _ HWD.out.1).mono ?_
            rintro e w5 ⟨rfl, hb⟩
            have K5 := Aside0.mk (below_then K4.out K4.out.size hb)
            have f2 : decide (n ≤ av) = false := decide_eq_false (by omega)
            obtain ⟨x0, x1, x2, x3, x4⟩ := HPC.out _ K5.out
            clear hb hcf
            by_cases k5 : xk = 5
            · subst k5
              have j1 : decide (xb ≤ z) = false := decide_eq_false (by have := HJK.out.1 rfl; omega)
              have j2 : decide ((ps.length : Int) < xb) = false := decide_eq_false (by have := HJK.out.1 rfl; omega)
              go_wp2_with fail
              go_roundg (ps.length - (i + 1))
              case measure => have := HJ.out; omega
              case rel => exact ⟨i + 1, _, W3.out, by have := HJ.out; omega, by have := HJ.out; omega, rfl, K5⟩
            · have e5 : (xk == 5) = false := beq_eq_false_iff_ne.2 k5
              by_cases k4 : xk = 4
              · subst k4
                have HKN := Aside0.mk (calc_Known.calls xb true w5 (by have := HJK.out.2 rfl; unfold calc_Known.f; rw [if_pos (by omega), decide_eq_true (by omega)]))
                go_wp2_with fail
                refine HKN.out.mono ?_
                rintro e w6 ⟨rfl, hd⟩
                have K6 := Aside0.mk (below_then K5.out K5.out.size hd.below)
                clear hd
                go_wp2_with fail
                go_roundg (ps.length - (i + 1))
                case measure => have := HJ.out; omega
                case rel => exact ⟨i + 1, _, W3.out, by have := HJ.out; omega, by have := HJ.out; omega, rfl, K6⟩
              · have e4 : (xk == 4) = false := beq_eq_false_iff_ne.2 k4
                go_wp2_with fail
                go_roundg (ps.length - (i + 1))
                case measure => have := HJ.out; omega
                case rel => exact ⟨i + 1, _, W3.out, by have := HJ.out; omega, by have := HJ.out; omega, rfl, K5⟩
          · obtain rfl : i = ps.length := by omega
            have t1 : ¬ z < (ps.length : Int) := by omega
            have HXP := Aside0.mk (show ∀ x ∈ ps, OkI x ∧ x.l.length ≤ 1000 from fun x hx => ⟨HOK.out x hx, by have := HP.out.2 x hx; omega⟩)
            have HKD := Aside0.mk (show ∀ x ∈ ps, (1 ≤ x.k ∧ x.k ≤ 7) from fun x hx => by
              obtain ⟨j, hj, rfl⟩ := List.getElem_of_mem hx
              exact ok_kind (HCK.out.2.2 j hj))
            have HPr := Aside0.mk (Print_ A cA ps wr (HE.out _ (HBW.out _ HB.out)) (C_below HA.out.1 (HBW.out _ HB.out)) (by have := HP.out.1; omega) HXP.out)
            clear hi hgg hlt hz
            go_wp2_with fail
            refine HPr.out.mono ?_
            rintro e w4 ⟨v, rfl, hO⟩
            obtain ⟨Aa, ca, rfl, hcap, hC⟩ := hO.C
            have hb4 := hO.choose_spec.choose_spec.2.2.2
            have H4 := Aside0.mk (HB.out.trans (Below.low hb4 HB.out.size))
            have HCa := Aside0.mk hC
            have HPa := Aside0.mk (Parse_lines Aa ca ps w4 (HE.out _ (HBW.out _ H4.out)) hC hcap (by have := HP.out.1; omega) (fun x hx => ⟨⟨HKD.out x hx, (HXP.out x hx).1⟩, (HXP.out x hx).2⟩))
            rw [List.length_map] at HPa
            clear hO hcap hC hb4 HPr
            go_wp2_with fail
            refine HPa.out.mono ?_
            rintro e w5 ⟨⟨A5, q5, rfl, hcap, hC⟩, hb5⟩
            have H5 := Aside0.mk (H4.out.trans (Below.low hb5 H4.out.size))
            have HX5 := Aside0.mk (And.intro hcap hC)
            have HCa5 := Aside0.mk (C_below HCa.out hb5)
            have HQL := Aside0.mk (show (ps.map canon).length = ps.length from List.length_map ..)
            have HQK := Aside0.mk (chk_canon HCK.out)
            have HQX := Aside0.mk (show ∀ x ∈ ps.map canon, OkI x ∧ x.l.length ≤ 1000 from fun x hx => by
              obtain ⟨y, hy, rfl⟩ := List.mem_map.1 hx
              exact canon_ok (HXP.out y hy))
            have HQB := Aside0.mk (show (ps.map canon).map lnB = ps.map lnB from by
              rw [List.map_map]; exact List.map_congr_left (fun x _ => by show lnB (canon x) = lnB x; unfold lnB; rw [word_canon]))
            generalize ps.map canon = qs at HX5 HQL HQK HQX HQB ⊢
            clear hcap hC hb5 HPa
            go_wp2_with fail
            refine (HFW.out _ H5.out).mono ?_
            rintro e w6 ⟨rfl, hb⟩
            have H6 := Aside0.mk (H5.out.trans (Below.low hb H5.out.size))
            have HX6 := Aside0.mk (C_below HX5.out.2 hb)
            have HCa6 := Aside0.mk (C_below HCa5.out hb)
            have HPq := Aside0.mk (Print_ A5 q5 qs w6 (HE.out _ (HBW.out _ H6.out)) HX6.out (by have := HQL.out; have := HP.out.1; omega) HQX.out)
            have l1 : (qs.length == ps.length) = true := by rw [HQL.out]; simp
            have l2 : ((qs.length : Int) == (ps.length : Int)) = true := by rw [HQL.out]; simp
            clear hb
            go_wp2_with fail
            refine HPq.out.mono ?_
            rintro e w7 ⟨v, rfl, hO⟩
            obtain ⟨Aq, cq, rfl, hcap, hC⟩ := hO.C
            have hb7 := hO.choose_spec.choose_spec.2.2.2
            have H7 := Aside0.mk (H6.out.trans (Below.low hb7 H6.out.size))
            have HT := Aside0.mk (Texts_n Aq Aa cq ca qs.length ps.length (qs.map lnB) (ps.map lnB) w7 (List.length_map ..) (List.length_map ..) hC (C_below HCa6.out hb7) HQB.out)
            have HX7 := Aside0.mk (C_below HX6.out hb7)
            clear hO hcap hC hb7 l1 l2 HPq
            go_wp2_with fail
            refine HT.out.mono ?_
            rintro e w8 ⟨rfl, hb⟩
            have H8 := Aside0.mk (H7.out.trans (Below.low hb H7.out.size))
            have HX8 := Aside0.mk (C_below HX7.out hb)
            have HK8 := Aside0.mk (Check_n A5 q5 qs.length qs 0 w8 rfl HX8.out (HX5.out.1) (check_yes HQK.out))
            obtain ⟨y0, y1, y2, y3, y4, y5, y6, y7, y8, y9, y10, y11⟩ := HG.out _ H8.out
            clear hb HT
            go_wp2_with fail
            refine HK8.out.mono ?_
            rintro e w9 ⟨rfl, hb⟩
            have H9 := Aside0.mk (H8.out.trans (Below.low hb H8.out.size))
            have HS9 := Aside0.mk (Same_ A5 A5 q5 q5 qs qs w9 (C_below HX8.out hb) (C_below HX8.out hb))
            clear hb HK8 y0 y1 y2 y3 y4 y5 y6 y7 y8 y9 y10 y11
            go_wp2_with fail
            refine HS9.out.mono ?_
            rintro e wa ⟨r, rfl, hr, hb⟩
            obtain rfl : r = true := hr.2 (by first | trivial | rfl)
            have HBa := Aside0.mk ((HBW.out _ H9.out).trans (Below.low hb (HBW.out _ H9.out).size))
            clear hb hr HS9
            go_wp2
            go_ret
            exact ⟨rfl, HBa.out⟩
theorem back_row (x : S30) (A : Option Addr) (cA : Nat) (l : List S26) (B : Option Addr) (cB : Nat) (regs : List Int) (w : World) (hE : Env w) (hA : Kd.C k26 w A l.length l) (ha : l.length ≤ cA) (_hA : l.length ≤ maxLen) (wA : ∀ x ∈ l, (Lit.int .i64 x.f0).wf = true ∧ (Lit.int .i64 x.f1).wf = true ∧ (Lit.int .i64 x.f2).wf = true ∧ (Lit.int .i64 x.f3).wf = true ∧ x.f4.length ≤ maxLen ∧ ∀ z ∈ x.f4, (Lit.int .i64 z).wf = true)
    (hB : (Kd.int .i64).C w B regs.length regs) (hb : regs.length ≤ cB) (_hB : regs.length ≤ maxLen) (_wB : ∀ z ∈ regs, (Lit.int .i64 z).wf = true) :
    Calls Tryd.prog 7 #[.agg #[.int .i64 x.f0, .int .i64 x.f1, .int .i64 x.f2, .int .i64 x.f3, .int .i64 x.f4, .int .i64 x.f5, .int .i64 x.f6, .int .i64 x.f7, .int .i64 x.f8, .int .i64 x.f9, .int .i64 x.f10, .int .i64 x.f11], .slice A l.length cA, .slice B regs.length cB] w fun e w' => e = .returned (.bool true) ∧ Below w.heap.size w w' := by
  have h := back_walk x.f0 x.f1 x.f2 x.f3 x.f4 x.f5 x.f6 x.f7 x.f8 x.f9 x.f10 x.f11 A B cA cB (l.map ofS) regs w hE (by rw [toS_ofS, List.length_map]; exact hA) (by rw [List.length_map]; exact ha) (ok_of wA) hB hb
  rwa [List.length_map] at h
end Go.Proofs.YtefcjnnngaaihaaDoor.Pg
