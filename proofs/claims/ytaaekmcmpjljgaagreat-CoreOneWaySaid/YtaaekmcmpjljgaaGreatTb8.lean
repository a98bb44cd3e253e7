import Derived.Test.YtaaekmcmpjljgaaGreatTb7
import Derived.Maps.RangeWalk
import Derived.Deep.RegionHeld3
namespace Go.Proofs.YtaaekmcmpjljgaaGreat.Ln
open Go.RowKit Go.Proofs.YtaaekmcmpjljgaaGreatW.PrintWords Go.Proofs.YtaaekmcmpjljgaaGreatW.PrintLast Go.Proofs.YtaaekmcmpjljgaaGreatW.PrintMore Go.Proofs.YtaaekmcmpjljgaaGreat.PMd
open Go.Maps
open Go.Sort (grow)
set_option linter.unusedVariables false
set_option linter.unusedSimpArgs false
def Keys7 (D : DataW Unit) (left : Lit → Bool) (l : List Int) : Prop :=
  (∀ x, x ∈ l ↔ ok64 x ∧ Maps.has D (.int .i64 x) = true ∧ left (.int .i64 x) = false) ∧ l.Nodup
theorem keys_step {D : DataW Unit} {left : Lit → Bool} {l : List Int} {x : Int} (h : Keys7 D left l) (hx : ok64 x) (hl : left (.int .i64 x) = true) (hD : Maps.has D (.int .i64 x) = true) :
    Keys7 D (fun z => left z && !z.sameKey (.int .i64 x)) (l ++ [x]) := by
  refine ⟨fun y => ?_, ?_⟩
  · rw [List.mem_append, h.1 y, List.mem_singleton]
    constructor
    · rintro (⟨h1, h2, h3⟩ | rfl)
      · exact ⟨h1, h2, by show (left _ && _) = false; rw [h3]; rfl⟩
      · exact ⟨hx, hD, by show (left _ && !Lit.sameKey _ _) = false; simp [Lit.sameKey]⟩
    · rintro ⟨h1, h2, h3⟩
      by_cases e : y = x
      · exact .inr e
      · refine .inl ⟨h1, h2, ?_⟩
        have h4 : (left (.int .i64 y) && !Lit.sameKey (.int .i64 y) (.int .i64 x)) = false := h3
        rw [sameKey_ne (lit_ne e)] at h4
        simpa using h4
  · rw [List.nodup_append]
    refine ⟨h.2, by simp, fun a ha b hb => ?_⟩
    rw [List.mem_singleton] at hb
    subst hb
    intro e
    subst e
    have := ((h.1 a).1 ha).2.2
    rw [hl] at this
    cases this
theorem ranges_move {w w' : World} {P : Program} {K : TypeId} {R : Value → Option (DataW Unit × List MemPlace)} {b r n : Nat} {D : DataW Unit} {left : Lit → Bool} {cnt : Nat} (h : w.ranges P K R b r n D left cnt) (hb : w'.heap[b]? = w.heap[b]?) (hr : w'.heap[r]? = w.heap[r]?) : w'.ranges P K R b r n D left cnt := by
  obtain ⟨es, clock, since, seen, c0, h1, h2, h3, h4, h5, h6⟩ := h
  exact ⟨es, clock, since, seen, c0, hb.trans h1, h2, h3, h4, hr.trans h5, h6⟩
theorem ranges_cnt {w : World} {P : Program} {K : TypeId} {R : Value → Option (DataW Unit × List MemPlace)} {b r n : Nat} {D : DataW Unit} {left : Lit → Bool} {cnt : Nat} (h : w.ranges P K R b r n D left cnt) : cnt ≤ n := by
  obtain ⟨es, clock, since, seen, c0, h1, h2, h3, h4, h5, h6, h7, _⟩ := h
  rw [← h7]
  exact Nat.le_trans (Array.size_filter_le ..) h3
theorem ranges_cells {w : World} {P : Program} {K : TypeId} {R : Value → Option (DataW Unit × List MemPlace)} {b r n : Nat} {D : DataW Unit} {left : Lit → Bool} {cnt k : Nat} {cs : Array Value} {t : TypeId} {z : Nat × Nat} (h : w.ranges P K R b r n D left cnt) (hk : w.heap[k]? = some (.cells cs t z)) : k ≠ b ∧ k ≠ r ∧ b < w.heap.size ∧ r < w.heap.size := by
  obtain ⟨es, clock, since, seen, c0, h1, h2, h3, h4, h5, _⟩ := h
  refine ⟨fun e => ?_, fun e => ?_, (Array.getElem?_eq_some_iff.1 h1).1, (Array.getElem?_eq_some_iff.1 h5).1⟩
  · subst e; rw [h1] at hk; cases hk
  · subst e; rw [h5] at hk; cases hk
theorem blocks_len8 (hs qs : List E) (who : Int) : (blocksIn hs qs who).length ≤ hs.length + qs.length := by
  unfold blocksIn
  split
  · simp
  · refine Nat.le_trans (compact_le _) ?_
    unfold sortedI blocksAt
    rw [List.length_mergeSort, List.length_append, List.length_map, List.length_map, List.length_take]
    have := List.length_filter_le (inWay who (qs.getD (ix (fun x => x.f0 == who) qs).toNat z113).f1) hs
    omega
theorem infoEd : (Tryz.prog.info? 87).map (fun i => (i.zero, i.size, i.bytes)) = some (some (.agg #[(.int .i64 0), (.int .i64 0)]), 2, 16) := by kernel_rfl
def edT (ls : List LS) (f : At) (x : Int) : List (Int × Int) := match f x with
  | none => []
  | some n => (blocksIn (ls.getD n zL).1 (ls.getD n zL).2 x).map fun y => (x, y)
def edUp (ls : List LS) (f : At) (K : List Int) (i : Nat) : List (Int × Int) := (K.take i).flatMap (edT ls f)
def flatP (l : List (Int × Int)) : List Value := l.flatMap fun p => [.int .i64 p.1, .int .i64 p.2]
def OutP (w : World) (l : List (Int × Int)) (v : Value) (wr : World) : Prop :=
  ∃ A' c', v = .slice A' l.length c' ∧ Row wr 87 2 A' l.length c' (flatP l) ∧ (∀ k, blk A' k → w.heap.size ≤ k) ∧ Below w.heap.size w wr
theorem ed_len {ls : List LS} {f : At} (hs : Small ls) (hf : ∀ x n, f x = some n → n < ls.length) (x : Int) : (edT ls f x).length ≤ 800000 := by
  unfold edT
  split
  · simp
  · rename_i n hn
    rw [List.length_map]
    have h1 := blocks_len8 (ls.getD n zL).1 (ls.getD n zL).2 x
    obtain ⟨h2, h3⟩ := hs.2 n (hf x n hn)
    omega
theorem flatP_append (a b : List (Int × Int)) : flatP (a ++ b) = flatP a ++ flatP b := by simp [flatP]
set_option maxRecDepth 100000 in
theorem look_at {w : World} {m N : Nat} {D : DataW Unit} {x : Int} {n : Nat} (h : w.ownsMap Tryz.prog 3 (plainElem Tryz.prog 3) m N D) (hx : ok64 x) (hat : ∀ z, D.atKey (.int .i64 x) z = .lit (.int .i64 (n : Int))) :
    (Instr.lookup 75 (.map (some m)) (.int .i64 x) false).run Tryz.prog w = .ok (.int .i64 (n : Int)) w := by
  obtain ⟨c, hrun, h1, _⟩ := h.lookup_int keyed Tryz.underlying75 Tryz.underlying3 (Tryz.zeroValue3 _) (Maps.keyOf_int_mk Tryz.underlying3 hx)
  rw [hat] at h1
  injection h1 with h1
  injection h1 with _ h1
  rw [hrun, h1]
set_option maxHeartbeats 8000000 in
set_option maxRecDepth 100000 in
theorem EdgesT_ {w : World} {b : Nat} {F : Nat → Prop} {ls : List LS} {most : Int} {N : Nat} {f : At} (h : IsTab w b F ls most N f) (hs : Small ls) (hN : N ≤ 1000000) (hf : ∀ x n, f x = some n → n < ls.length) :
    Calls Tryz.prog 47 #[.pointer (some ⟨b, 0, none⟩)] w fun e w' => ∃ l, l.Nodup ∧ (∀ x, x ∈ l ↔ ok64 x ∧ (f x).isSome = true) ∧ ∃ A' c', e = .returned (.slice A' (edUp ls f (sortedI l) l.length).length c') ∧
      Row w' 87 2 A' (edUp ls f (sortedI l) l.length).length c' (flatP (edUp ls f (sortedI l) l.length)) ∧ (∀ k, blk A' k → w.heap.size ≤ k) ∧ Below w.heap.size w w' := by
  have hu := Tryz.underlying77
  have HTx := Aside0.mk (h.mono (F' := fun k => k < w.heap.size) (fun k hk _ => hk))
  have HSm := Aside0.mk hs
  have HF := Aside0.mk hf
  obtain ⟨sA, sc, m, c0, -, c2, -, -, ⟨D, hown, hD⟩, -, -⟩ := h.open_
  have HD := Aside0.mk hD
  have HO := Aside0.mk hown
  have C0 := Aside0.mk c0
  have C2 := Aside0.mk c2
  clear h hown hD c0 hf hs
  go_enter Tryz.func47, Tryz.ntmps47
  go_wp2_with (first | (at_range; refine wpList_range_own _ rfl _ 75 rfl 3 3 keyed Tryz.underlying75 _ m N D rfl HO.out ?_; intro w0 hrg0 hg0 hs0) | fail)
  go_frame
  have HR0 := Aside0.mk hrg0
  have HB0 := Aside0.mk (show Below w.heap.size w w0 from ⟨hg0.os, hg0.tape, hg0.output, hg0.size, fun k hk => hg0.block k hk (by simp)⟩)
  have HK0 := Aside0.mk (show Keys7 D (Maps.has D) [] from ⟨fun x => ⟨fun h => by simp at h, fun h => by rw [h.2.1] at h; simp at h⟩, List.nodup_nil⟩)
  clear hrg0 hg0 hs0 c2
  go_loopw [3, 4] (fun v3 _ wr => ∃ (l : List Int) (left : Lit → Bool) (cnt : Nat), Aside0 (wr.ranges Tryz.prog 3 (plainElem Tryz.prog 3) m w.heap.size N D left cnt) ∧ Aside0 (Keys7 D left l ∧ l.length + cnt ≤ N) ∧ Aside0 (Out1 w l v3 wr)) (fun _ _ wr => wr.rangeLeft m w.heap.size)
  case atStart => exact ⟨[], _, _, HR0, ⟨HK0.out, by simpa using ranges_cnt HR0.out⟩, ⟨none, 0, rfl, Row.zero _ _ _, fun k h => (blk_none h).elim, HB0.out⟩⟩
  case round =>
    obtain ⟨l, left, cnt, hrg, hK, hO⟩ := hrel
    obtain ⟨A', c', rfl, hR1, hk1, hb1⟩ := hO.out
    have HRg := Aside0.mk hrg.out
    have HK := hK
    have HR1 := Aside0.mk hR1
    have HK1 := Aside0.mk hk1
    have HB1 := Aside0.mk hb1
    clear hR1 hk1 hb1 hO hrg
    go_wp2_with (first | (at_next; refine wpList_next_ranges_ii _ rfl _ rfl 3 3 .i64 .i64 keyed Tryz.underlying3 Tryz.underlying3 m w.heap.size N _ _ _ rfl HRg.out ?_ ?_) | fail)
    · intro hc0 hl0
      have HAll := Aside0.mk (show (∀ x, x ∈ l ↔ ok64 x ∧ Maps.has D (.int .i64 x) = true) ∧ l.Nodup from ⟨fun x => by rw [HK.out.1.1 x, hl0]; simp, HK.out.1.2⟩)
      have HLen := Aside0.mk (show l.length ≤ 1000000 by have := HK.out.2; omega)
      have HSo := Aside0.mk (Sort_ A' c' l wr HR1.out HLen.out)
      clear hc0 hl0
      go_wp2_with fail
      refine HSo.out.mono ?_
      rintro e w5 ⟨rfl, hR5, hG5⟩
      have HB5 := Aside0.mk (hG5.to_below HB1.out HB1.out.size (fun k hk => HK1.out k hk))
      have HC5 := Aside0.mk (show Row w5 3 1 A' (sortedI l).length c' (ints (sortedI l)) from by
        have e : (sortedI l).length = l.length := by unfold sortedI; exact List.length_mergeSort _
        rw [e]; exact hR5)
      have hKl : (sortedI l).length = l.length := by unfold sortedI; exact List.length_mergeSort _
      have HKm := Aside0.mk (show ∀ x, x ∈ sortedI l ↔ ok64 x ∧ Maps.has D (.int .i64 x) = true from fun x => by unfold sortedI; rw [List.mem_mergeSort]; exact HAll.out.1 x)
      have HKn := Aside0.mk (show (sortedI l).length ≤ 1000000 by rw [hKl]; exact HLen.out)
      have HQ := Aside0.mk (And.intro HAll.out (And.intro hKl (show sortedI l = sortedI l from rfl)))
      obtain ⟨K, hKe⟩ : ∃ K, sortedI l = K := ⟨_, rfl⟩
      have HKe := Aside0.mk hKe
      rw [← hKl]
      clear hR5 hG5 hKl HSo HRg HK HAll HR1 HB1 HK1 HR0 HB0 HK0 HLen
      rw [hKe] at HC5 HKm HKn ⊢
      clear hKe
      go_wp2_with fail
      go_loopg [5, 27] K.length (fun gg v5 v27 wr => ∃ i : Nat, i ≤ K.length ∧ K.length - i ≤ gg ∧ v27 = .int .i64 i ∧ Aside0 (OutP w (edUp ls f K i) v5 wr ∧ (edUp ls f K i).length ≤ i * 800000) ∧ Aside0 (Row wr 3 1 A' K.length c' (ints K)))
      case atStart => exact ⟨0, by omega, by omega, rfl, ⟨⟨none, 0, rfl, Row.zero _ _ _, fun k h => (blk_none h).elim, HB5.out⟩, Nat.le_refl _⟩, HC5⟩
      case round =>
        obtain ⟨i, hi, hgg, rfl, HO1, HBi⟩ := hrel
        obtain ⟨⟨A2, c2', rfl, hR1, hk1, hb1⟩, hOl⟩ := HO1.out
        clear HO1
        by_cases hlt : i < K.length
        · have t1 : (i : Int) < K.length := by omega
          have t0 : 0 ≤ (i : Int) := by omega
          obtain ⟨ad, rfl, q0⟩ := Kd.at_int HBi.out.readsI (i : Int) (by omega) (by omega)
          rw [Int.toNat_natCast, show rd K (i : Int) = K.getD i 0 from by simp [rd]] at q0
          have hxm : K.getD i 0 ∈ K := by rw [List.getD_eq_getElem?_getD, List.getElem?_eq_getElem hlt]; exact List.getElem_mem hlt
          have HStep := Aside0.mk (show edUp ls f K (i + 1) = edUp ls f K i ++ edT ls f (K.getD i 0) by
            unfold edUp
            have e : K[i]? = some (K.getD i 0) := by rw [List.getD_eq_getElem?_getD, List.getElem?_eq_getElem hlt]; rfl
            rw [List.take_add_one, e, List.flatMap_append]
            simp)
          generalize K.getD i 0 = x at q0 hxm HStep
          obtain ⟨hx, hxD⟩ := (HKm.out x).1 hxm
          obtain ⟨n, hn⟩ : ∃ n, f x = some n := by have := (HD.out x hx).1; rw [hxD] at this; exact Option.isSome_iff_exists.1 this.symm
          have hnl := HF.out x n hn
          obtain ⟨g, off, sc', m', bi, Gi, c0, -, c2, -, -, ⟨D', hown', hD'⟩, cs, hI, -, -, -⟩ := (HTx.out.below hb1).at_ n hnl
          have HL := Aside0.mk (fun W (hb : Below wr.heap.size wr W) => look_at (owns_be hown' hb) hx ((hD' x hx).2 n hn))
          have hbd := below_drew (Below.refl wr.heap.size wr)
          have HBk := Aside0.mk (Blocks_ wr.drew bi Gi _ _ x (hI.below hbd) (by have := (HSm.out.2 n hnl).1; omega) (by have := (HSm.out.2 n hnl).2; omega))
          have HE := Aside0.mk (show edT ls f x = (blocksIn (ls.getD n zL).1 (ls.getD n zL).2 x).map (fun y => (x, y)) by unfold edT; rw [hn])
          have p1 : (n : Int) < ls.length := by omega
          have p2 : 0 ≤ (n : Int) := by omega
          have lk := HL.out _ (Below.refl _ _)
          have Q0 := Aside0.mk q0
          have HCC := Aside0.mk (And.intro c0 (And.intro c2 cs))
          generalize blocksIn (ls.getD n zL).1 (ls.getD n zL).2 x = bl at HBk HE
          clear hxm hxD hn hnl hI hown' hD'
          go_wp2_with fail
          go_region_held3 (fun W => W.cell? ⟨b, 0, none⟩ = some (.slice (some ⟨g, off, none⟩) ls.length sc') ∧ W.cell? ⟨b, 2, none⟩ = some (.map (some m')) ∧ W.cell? ⟨g, off + n, none⟩ = some (.pointer (some ⟨bi, 0, none⟩)) ∧ (Instr.lookup 75 (.map (some m')) (.int .i64 x) false).run Tryz.prog W = .ok (.int .i64 (n : Int)) W)
            (first | exact ⟨c0, c2, cs, HL.out _ hbd⟩ | exact ⟨n0, n2, ns, nl⟩)
            (first | (go_at_call 78; refine HBk.out.mono ?_; rintro e w7 ⟨A7, c7, rfl, hR7, hk7, hb7⟩; have n0 := cell_be (w := wr.drew) c0 hb7; have n2 := cell_be (w := wr.drew) c2 hb7; have ns := cell_be (w := wr.drew) cs hb7; have nl := HL.out _ (below_then hbd hbd.size hb7)))
          have HR7 := Aside0.mk ((show Row wr.drew 87 2 A2 (edUp ls f K i).length c2' (flatP (edUp ls f K i)) from hR1.drewN 1).below hb7)
          have HB7 := Aside0.mk (below_then hb1 hb1.size (below_then hbd hbd.size hb7))
          have HB75 := Aside0.mk ((show Row wr.drew 3 1 (some ad) K.length c' (ints K) from HBi.out.drewN 1).below hb7)
          have HC7 := Aside0.mk hR7
          have hc7 := hR7.2.1
          have HK1 := Aside0.mk hk1
          have HOl := Aside0.mk hOl
          have HBl := Aside0.mk (show bl.length ≤ 800000 by have h1 := ed_len HSm.out HF.out x; rw [HE.out, List.length_map] at h1; exact h1)
          have WI := Aside0.mk (show wrap64 ((i : Int) + 1) = ((i + 1 : Nat) : Int) by have := HKn.out; unfold wrap64; omega)
          have HLT := Aside0.mk hlt
          rw [HE.out] at HStep
          clear hR1 hk1 hb1 hOl hR7 hk7 hb7 hbd lk n0 n2 ns nl c0 c2 cs HBk q0 hlt
          generalize edUp ls f K i = O at HR7 HOl HStep ⊢
          go_wp2_with fail
          go_loopg [5, 47] bl.length (fun gg v5 v47 wr' => ∃ j : Nat, j ≤ bl.length ∧ bl.length - j ≤ gg ∧ v47 = .int .i64 j ∧ Aside0 (OutP w (O ++ (bl.take j).map (fun y => (x, y))) v5 wr') ∧ Aside0 (Row wr' 3 1 A7 bl.length c7 (ints bl) ∧ Row wr' 3 1 (some ad) K.length c' (ints K)))
          case atStart => exact ⟨0, by omega, by omega, rfl, ⟨A2, c2', by simp, by simpa using HR7.out, HK1.out, HB7.out⟩, ⟨HC7.out, HB75.out⟩⟩
          case round =>
            obtain ⟨j, hj, hgj, rfl, HOj, HBj⟩ := hrel
            by_cases hlj : j < bl.length
            · have s1 : (j : Int) < bl.length := by omega
              have s0 : 0 ≤ (j : Int) := by omega
              obtain ⟨ad7, rfl, r0⟩ := Kd.at_int HBj.out.1.readsI (j : Int) (by omega) (by omega)
              rw [Int.toNat_natCast, show rd bl (j : Int) = bl.getD j 0 from by simp [rd]] at r0
              have HSj := Aside0.mk (show O ++ (bl.take (j + 1)).map (fun y => (x, y)) = (O ++ (bl.take j).map (fun y => (x, y))) ++ [(x, bl.getD j 0)] by
                have e : bl[j]? = some (bl.getD j 0) := by rw [List.getD_eq_getElem?_getD, List.getElem?_eq_getElem hlj]; rfl
                rw [List.take_add_one, e, List.map_append, ← List.append_assoc]; rfl)
              have HOLn := Aside0.mk (show (O ++ (bl.take j).map (fun y => (x, y))).length ≤ i * 800000 + 800000 by
                have h1 := HOl.out; have h2 := HBl.out
                rw [List.length_append, List.length_map, List.length_take]; omega)
              have WJ := Aside0.mk (show wrap64 ((j : Int) + 1) = ((j + 1 : Nat) : Int) by have := HBl.out; unfold wrap64; omega)
              generalize bl.getD j 0 = y at r0 HSj
              generalize hP : O ++ (bl.take j).map (fun y => (x, y)) = P at HOj HSj HOLn
              obtain ⟨A8, c8, rfl, hR8, hk8, hb8⟩ := HOj.out
              have HR8 := Aside0.mk (hR8.alloc (.cells #[.int .i64 x, .int .i64 y] 87))
              have HB8 := Aside0.mk (below_alloc hb8 (.cells #[.int .i64 x, .int .i64 y] 87))
              have HB8s := Aside0.mk hb8.size
              have HK8 := Aside0.mk hk8
              have HBj8 := Aside0.mk (And.intro (HBj.out.1.alloc (.cells #[.int .i64 x, .int .i64 y] 87)) (HBj.out.2.alloc (.cells #[.int .i64 x, .int .i64 y] 87)))
              have BS := Aside0.mk (blk_new wr (.cells #[.int .i64 x, .int .i64 y] 87))
              clear hR8 hk8 hb8 HOj
              go_wp2_with (first | (at_builtin; refine wpList_append_info rfl _ _ 45 rfl 87 _ 2 16 Tryz.underlying45 infoEd rfl A8 P.length c8 (flatP P) (by simp [Act.eval, Act.put]) HR8.out ⟨wr.heap.size, 0, none⟩ 1 1 [.int .i64 x, .int .i64 y] (by simp [Act.eval, Act.put]) rfl (two_at BS.out) (two_one _ _) (by have h1 := HOLn.out; have h2 := HLT.out; have h3 := HKn.out; unfold maxLen; omega) (by have h1 := HOLn.out; have h2 := HLT.out; have h3 := HKn.out; omega) ?_) | fail)
              intro A9 c9 w9 hR9 hG9 hk9
              have apart : ∀ {A : Option Addr} {n c : Nat} {xs : List Value}, Row (wr.alloc (.cells #[.int .i64 x, .int .i64 y] 87)) 3 1 A n c xs → Row w9 3 1 A n c xs := fun hA => hA.grew hG9 (fun k hk h8 => by
                obtain ⟨cur, e1⟩ := hA.typed hk
                obtain ⟨cur2, e2⟩ := HR8.out.typed h8
                rw [e1] at e2
                injection e2 with e2
                injection e2 with _ e2
                exact absurd e2 (by decide))
              have HBj9 := Aside0.mk (And.intro (apart HBj8.out.1) (apart HBj8.out.2))
              have HR9 := Aside0.mk hR9
              have HB9 := Aside0.mk (hG9.to_below HB8.out (by have := HB8.out.size; exact this) (fun k h => HK8.out k h))
              have HK9 := Aside0.mk (show ∀ k, blk A9 k → w.heap.size ≤ k from fun k h => (hk9 k h).elim (HK8.out k) (fun h2 => by have h3 := HB8s.out; have h5 : wr.heap.size + 1 ≤ k := (by simpa using h2); omega))
              clear hR9 hG9 hk9 apart r0
              subst hP
              go_wp2
              go_roundg (bl.length - (j + 1))
              case measure => omega
              case rel =>
                refine ⟨j + 1, by omega, by omega, by rw [WJ.out], ⟨A9, c9, ?_, ?_, HK9.out, HB9.out⟩, HBj9⟩
                · rw [HSj.out]; simp; omega
                · rw [HSj.out, flatP_append]
                  have h1 := HR9.out
                  rw [show (O ++ (bl.take j).map (fun y => (x, y))).length + 1 = ((O ++ (bl.take j).map (fun y => (x, y))) ++ [(x, y)]).length by simp; omega] at h1
                  exact h1
            · have ej : j = bl.length := by omega
              subst ej
              have s1 : ¬ (bl.length : Int) < bl.length := by omega
              obtain ⟨A9, c9, rfl, hR9, hk9, hb9⟩ := HOj.out
              rw [List.take_length] at hR9
              rw [List.take_length]
              have HF9 := Aside0.mk (And.intro hR9 (And.intro hk9 (And.intro hb9 HBj.out.2)))
              clear hR9 hk9 hb9 HOj HBj
              go_wp2
              go_roundg (K.length - (i + 1))
              case measure => have := HLT.out; omega
              case rel =>
                refine ⟨i + 1, by have := HLT.out; omega, by have := HLT.out; omega, by rw [WI.out], ⟨⟨A9, c9, ?_, ?_, HF9.out.2.1, HF9.out.2.2.1⟩, ?_⟩, ⟨HF9.out.2.2.2⟩⟩
                · rw [HStep.out]; simp
                · rw [HStep.out]; exact HF9.out.1
                · rw [HStep.out, List.length_append, List.length_map]
                  have h1 := HOl.out
                  have h2 := HBl.out
                  omega
        · have ei : i = K.length := by omega
          subst ei
          have t1 : ¬ (K.length : Int) < K.length := by omega
          have HF9 := Aside0.mk (And.intro hR1 (And.intro hk1 hb1))
          clear hR1 hk1 hb1
          go_wp2
          go_ret
          have e1 : l.length = K.length := by rw [← HKe.out]; exact HQ.out.2.1.symm
          refine ⟨l, HQ.out.1.2, fun x => ?_, A2, c2', ?_, ?_, HF9.out.2.1, HF9.out.2.2⟩
          · rw [HQ.out.1.1 x]
            constructor
            · rintro ⟨h1, h2⟩
              exact ⟨h1, by rw [← (HD.out x h1).1]; exact h2⟩
            · rintro ⟨h1, h2⟩
              exact ⟨h1, by rw [(HD.out x h1).1]; exact h2⟩
          · rw [HKe.out, e1]; rfl
          · rw [HKe.out, e1]; exact HF9.out.1
    · intro x c w1 cnt1 hwx hwc hlx hat hrg1 hlt hg1 hs1 hen
      have hG1 := Grew.of_grown hg1
      have hR2 := HR1.out.grew hG1 (fun k hk e => by
        obtain ⟨cur, hc⟩ := HR1.out.typed hk
        have := (ranges_cells HRg.out hc).2.1
        injection e with e
        exact this e)
      have HR2 := Aside0.mk (hR2.alloc (.cells #[.int .i64 x] 3))
      have HB2 := Aside0.mk (below_alloc (hG1.to_below HB1.out HB1.out.size (fun k hk => by injection hk with hk; omega)) (.cells #[.int .i64 x] 3))
      have HRg1 := Aside0.mk hrg1
      have HKx := Aside0.mk (keys_step HK.out.1 hwx hlx (has_true_of_atKey hat))
      have HLx := Aside0.mk (show l.length + 1 + cnt1 ≤ N by have := HK.out.2; omega)
      have BS := Aside0.mk (blk_new w1 (.cells #[.int .i64 x] 3))
      have S1 := Aside0.mk hs1
      have HNN := Aside0.mk hN
      clear hg1 hG1 hR2 hrg1 hat hlx hs1 HR1 hwx hwc
      go_wp2_with (first | (at_builtin; refine wpList_append_info rfl _ _ 29 rfl 3 _ 1 8 Tryz.underlying29 info3 rfl A' l.length c' (ints l) (by simp [Act.eval, Act.put]) HR2.out ⟨w1.heap.size, 0, none⟩ 1 1 [.int .i64 x] (by simp [Act.eval, Act.put]) rfl (one_at BS.out) (one_one _) (by have := HLx.out; have := HNN.out; unfold maxLen; omega) (by have := HLx.out; have := HNN.out; omega) ?_) | fail)
      intro A2 c2 w6 hR6 hG6 hk6
      have hm6 : w6.heap[m]? = w1.heap[m]? ∧ w6.heap[w.heap.size]? = w1.heap[w.heap.size]? := by
        have key : ∀ k, k < w1.heap.size → (∀ cs t z, w1.heap[k]? ≠ some (.cells cs t z)) → w6.heap[k]? = w1.heap[k]? := fun k hk hn => by
          have h1 : (w1.alloc (.cells #[.int .i64 x] 3)).heap[k]? = w1.heap[k]? := Below.heap_alloc _ _ _ hk
          refine (hG6.block k (by simp; omega) (fun hb => ?_)).trans h1
          obtain ⟨cur, hc⟩ := HR2.out.typed hb
          exact hn _ _ _ (h1.symm.trans hc)
        obtain ⟨_, _, _, _, _, g1, _, _, _, g5, _⟩ := HRg1.out
        exact ⟨key m (Array.getElem?_eq_some_iff.1 g1).1 (fun cs t z e => by rw [g1] at e; cases e), key w.heap.size (Array.getElem?_eq_some_iff.1 g5).1 (fun cs t z e => by rw [g5] at e; cases e)⟩
      have HRg6 := Aside0.mk (ranges_move HRg1.out hm6.1 hm6.2)
      have HR6 := Aside0.mk hR6
      have HB6 := Aside0.mk (hG6.to_below HB2.out (by have := HB2.out.size; exact this) (fun k h => HK1.out k h))
      have HK6 := Aside0.mk (show ∀ k, blk A2 k → w.heap.size ≤ k from fun k h => (hk6 k h).elim (HK1.out k) (fun h2 => by have h3 := HB1.out.size; have h4 := S1.out; have h5 : w1.heap.size + 1 ≤ k := (by simpa using h2); omega))
      clear hR6 hG6 hk6 hm6 HR2 HB2 HRg1
      go_wp2
      go_roundw
      case rel => exact ⟨l ++ [x], _, cnt1, HRg6, ⟨HKx.out, by have := HLx.out; simp; omega⟩, ⟨A2, c2, by simp, by simpa [ints] using HR6.out, HK6.out, HB6.out⟩⟩
      case measure => rw [HRg6.out.left_eq, HRg.out.left_eq]; omega
end Go.Proofs.YtaaekmcmpjljgaaGreat.Ln
