import Derived.Test.YtfpnadalfopmcaaLr6
import Derived.Test.YtfpnadalfopmcaaRp
import Derived.Test.YtfpnadalfopmcaaLC
import Derived.BigQuiet
/- The document's Sorted. -/
namespace Go.Proofs.Ytfpnadalfopmcaa.Ln
open Go.RowKit Go.Proofs.YtfpnadalfopmcaaW.PrintWords Go.Proofs.YtfpnadalfopmcaaW.PrintWords.Kd Go.Proofs.YtfpnadalfopmcaaW.PrintLast Go.Proofs.YtfpnadalfopmcaaW.PrintMore Go.Proofs.Ytfpnadalfopmcaa.PMd Go.Proofs.Ytfpnadalfopmcaa
open Go.Sort (grow)
set_option linter.unusedVariables false
set_option linter.unusedSimpArgs false
theorem ints_one' (l : List Int) : ∀ u ∈ ints l, u.oneCell' = true := by
  intro u hu
  obtain ⟨x, _, rfl⟩ := List.mem_map.1 hu
  rfl
theorem insI_len (l : List Int) (x : Int) : (insI l x).length ≤ l.length + 1 := by
  unfold insI
  split
  · omega
  · simp only [List.length_append, List.length_cons]
    have h : ∀ m : List Int, (m.filter fun y => decide (y < x)).length + (m.filter fun y => decide (x < y)).length ≤ m.length := by
      intro m
      induction m with
      | nil => simp
      | cons y m ih =>
        rw [List.filter_cons, List.filter_cons, List.length_cons]
        by_cases h1 : y < x
        · rw [if_pos (by simpa using h1), if_neg (by simp; omega), List.length_cons]; omega
        · rw [if_neg (by simpa using h1)]
          split <;> (try simp) <;> omega
    have := h l
    omega
theorem sortR_snoc (l : List Int) (x : Int) : sortR (l ++ [x]) = insI (sortR l) x := by unfold sortR; rw [List.foldl_append]; rfl
theorem foldl_insI_len : ∀ (l a : List Int), (l.foldl insI a).length ≤ a.length + l.length
  | [], a => by simp
  | x :: l, a => by have h1 := foldl_insI_len l (insI a x); have h2 := insI_len a x; simp only [List.foldl_cons, List.length_cons]; omega
theorem sortR_len (l : List Int) : (sortR l).length ≤ l.length := by have := foldl_insI_len l []; simpa [sortR] using this
theorem sortR_ris (l : List Int) : Ris (sortR l) := (sortR_go l [] List.Pairwise.nil).1
set_option maxHeartbeats 16000000 in
set_option maxRecDepth 100000 in
theorem Sorted_ (A : Option Addr) (c : Nat) (l : List Int) (w : World) (hC : Kd.C (Kd.int .i64) w A l.length l) (hl : l.length ≤ 1000000) :
    Calls Try.prog 41 #[.slice A l.length c] w (BlPost w (sortR l)) := by
  have HC := Aside0.mk hC
  have HL := Aside0.mk hl
  have hm := hC.2.1
  clear hC hl
  go_enter Try.func41, Try.ntmps41
  go_wp2_with fail
  go_loopg [3, 4] l.length (fun gg v3 v4 wr => ∃ i : Nat, i ≤ l.length ∧ l.length - i ≤ gg ∧ v4 = .int .i64 i ∧ Aside0 (Out1 w (sortR (l.take i)) v3 wr))
  case atStart => exact ⟨0, by omega, by omega, rfl, ⟨none, 0, rfl, Row.zero _ _ _, fun k h => (blk_none h).elim, Below.refl _ _⟩⟩
  case round =>
    obtain ⟨i, hi, hgg, rfl, HO⟩ := hrel
    obtain ⟨wo, hwo⟩ : ∃ W, W = wr := ⟨_, rfl⟩
    subst hwo
    by_cases hlt : i < l.length
    · obtain ⟨A3, c3, rfl, hR3, hk3, hb3⟩ := HO.out
      obtain ⟨ad, hA, q0⟩ := Kd.at_int (Kd.C_below HC.out hb3) (i : Int) (by omega) (by omega)
      subst hA
      rw [Int.toNat_natCast, show rd l (i : Int) = l[i] from by simp [rd, List.getElem?_eq_getElem hlt]] at q0
      have p1 : 0 ≤ (i : Int) := by omega
      have p2 : (i : Int) < l.length := by omega
      have HS := Aside0.mk (show sortR (l.take (i + 1)) = insI (sortR (l.take i)) l[i] by rw [List.take_succ_eq_append_getElem hlt, sortR_snoc])
      have HRI := Aside0.mk (sortR_ris (l.take i))
      have HOL := Aside0.mk (show (sortR (l.take i)).length ≤ 1000000 by have := sortR_len (l.take i); rw [List.length_take] at this; have := HL.out; omega)
      have HJ := Aside0.mk (And.intro hlt hgg)
      have W3 := Aside0.mk (show wrap64 ((i : Int) + 1) = ((i + 1 : Nat) : Int) by have := HL.out; unfold wrap64; omega)
      generalize sortR (l.take i) = O at hR3 HO HS HRI HOL ⊢
      generalize l[i] = x at q0 HS
      have HR3 := Aside0.mk hR3
      have HK3 := Aside0.mk hk3
      have HB3 := Aside0.mk hb3
      have HQ0 := Aside0.mk q0
      have HHas := Aside0.mk (Has_ A3 c3 O x wo hR3.readsI hR3.2.1 HOL.out)
      have HCL := Aside0.mk hR3.2.1
      clear hR3 hk3 hb3 hlt hgg hi
      by_cases hx : x ∈ O
      · have HI := Aside0.mk (show insI O x = O by unfold insI; rw [if_pos hx])
        rw [decide_eq_true hx] at HHas
        clear hx
        go_wp2_with fail
        refine HHas.out.mono ?_
        rintro e w4 ⟨rfl, hb4⟩
        have HB4 := Aside0.mk (below_then HB3.out HB3.out.size hb4)
        have HR4 := Aside0.mk (HR3.out.below hb4)
        clear hb4
        go_wp2_with fail
        go_roundg (l.length - (i + 1))
        case measure => have := HJ.out; omega
        case rel => exact ⟨i + 1, by have := HJ.out; omega, by have := HJ.out; omega, by first | rw [W3.out] | simp, ⟨by rw [HS.out, HI.out]; exact ⟨A3, c3, rfl, HR4.out, HK3.out, HB4.out⟩⟩⟩
      · have HNX := Aside0.mk hx
        rw [decide_eq_false hx] at HHas
        clear hx
        go_wp2_with fail
        refine HHas.out.mono ?_
        rintro e w4 ⟨rfl, hb4⟩
        have HB4 := Aside0.mk (below_then HB3.out HB3.out.size hb4)
        have HR4 := Aside0.mk (HR3.out.below hb4)
        have q4 := cell_be q0 hb4
        have HQ4 := Aside0.mk q4
        clear hb4 q0 q4 HHas HR3 HQ0 HB3
        go_wp2_with fail
        go_loopg [5] O.length (fun gg v wi => ∃ k : Nat, k ≤ O.length ∧ k ≤ gg ∧ v = .int .i64 k ∧ Aside0 (∀ j, (hj : j < O.length) → k ≤ j → x < O[j]) ∧ Aside0 (Below w4.heap.size w4 wi))
        case atStart => exact ⟨O.length, Nat.le_refl _, Nat.le_refl _, rfl, ⟨fun j h1 h2 => by omega⟩, ⟨Below.refl _ _⟩⟩
        case round =>
          obtain ⟨k, hk, hgg, rfl, HT, HBi⟩ := hrel
          obtain ⟨wi, hwi⟩ : ∃ W, W = wr := ⟨_, rfl⟩
          subst hwi
          have q5 := cell_be HQ4.out HBi.out
          have HQ5 := Aside0.mk q5
          have HR5 := Aside0.mk (HR4.out.below HBi.out)
          have HB5 := Aside0.mk (below_then HB4.out HB4.out.size HBi.out)
          have mixed : Try.prog.follows Departure.mixedOrders = true := by kernel_rfl
          by_cases h0 : k = 0
          · subst h0
            have HF0 := Aside0.mk (show insI O x = O.take 0 ++ x :: O.drop 0 from insI_at HRI.out HNX.out (Nat.zero_le _) HT.out (.inl rfl))
            have t1 : decide (0 < 0) = false := by decide
            have gq := fun d os => cell_gr q5 d os
            clear hk hgg HT
            go_wp2_with fail
            refine wp_region_gr mixed (by kernel_rfl) ?_
            repeat (go_big_quiet_step (fail))
            refine wpQuiet_nil ?_
            intro _ hw'
            obtain ⟨⟨d, os⟩, rfl⟩ := hw'
            have hgr := below_gr wi d os
            generalize grow (wat wi d) os = w6 at hgr ⊢
            clear gq q5
            have HQ6 := Aside0.mk (cell_be HQ5.out hgr)
            have HR6 := Aside0.mk (HR5.out.below hgr)
            have HB6 := Aside0.mk (below_then HB5.out HB5.out.size hgr)
            have HKL := Aside0.mk (show 0 ≤ O.length by omega)
            have HF := Aside0.mk (HR6.out.upto (0) HKL.out)
            have HBK := HR6
            have HO1 := Aside0.mk (show ∀ u ∈ (ints O).take ((0) * 1), u.oneCell' = true from fun u hu => ints_one' O u (List.mem_of_mem_take hu))
            have HO2 := Aside0.mk (show ∀ u ∈ ints O, u.oneCell' = true from fun u hu => ints_one' O u hu)
            have HFL := Aside0.mk (show [] ++ (ints O).take ((0) * 1) ++ [Value.int .i64 x] ++ ints O = ints (insI O x) by rw [HF0.out]; simp [ints, List.map_take, List.map_drop])
            have HNL := Aside0.mk (show 0 + (0) + 1 + O.length = (insI O x).length by rw [HF0.out]; have := HKL.out; simp; omega)
            have HX := Aside0.mk (fun (W : World) (hb : Below w6.heap.size w6 W) => cell_be HQ6.out hb)
            have HBd := Aside0.mk (below_drew (Below.refl w6.heap.size w6))
            have p3 : ((0 : Nat) : Int) ≤ O.length := by have := HKL.out; omega
            have p4 : ((0 : Nat) : Int) ≤ c3 := by have := HKL.out; have := HCL.out; omega
            have p5 : (0 : Int) ≤ ((0 : Nat) : Int) := by omega
            clear hgr
            go_wp2_with fail
            refine wp_region_held_drew (S := (fun W => W.cell? (ad.add i) = some (.int .i64 x))) (by kernel_rfl) ?_ (fun hH => ?_)
            · exact HX.out _ HBd.out
            refine wpAnyH_take (i := 1) (oi := { dst := some 37, op := Op.move (Operand.tmp 3), type := 34, pos := "same.go:52", after := #[], guard := none }) (v := ?vu1) rfl (by kernel_rfl) (by kernel_rfl) (by kernel_rfl) (fun _ _ _ h => h) (Or.inl ⟨by rfl, ?yu1⟩) (by assumption) ?ru1
            case yu1 => (intro w hSw; (try dsimp only at hSw); go_simp; (try with_reducible rfl))
            (try simp only [Act.put, List.setIfInBounds_toArray, List.set_cons_zero, List.set_cons_succ])
            refine wpAnyH_take (i := 2) (oi := { dst := some 38, op := Op.move (Operand.tmp 5), type := 3, pos := "same.go:52", after := #[], guard := none }) (v := ?vu2) rfl (by kernel_rfl) (by kernel_rfl) (by kernel_rfl) (fun _ _ _ h => h) (Or.inl ⟨by rfl, ?yu2⟩) (by assumption) ?ru2
            case yu2 => (intro w hSw; (try dsimp only at hSw); go_simp; (try with_reducible rfl))
            (try simp only [Act.put, List.setIfInBounds_toArray, List.set_cons_zero, List.set_cons_succ])
            refine wpAnyH_take (i := 3) (oi := { dst := some 39, op := Op.slice 34 (Operand.tmp 37) none (some (Operand.tmp 38)) none, type := 34, pos := "same.go:52", after := #[{ on := 1, ground := Ground.data }, { on := 2, ground := Ground.data }], guard := none }) (v := ?vu3) rfl (by kernel_rfl) (by kernel_rfl) (by kernel_rfl) (fun _ _ _ h => h) (Or.inl ⟨by rfl, ?yu3⟩) (by assumption) ?ru3
            case yu3 => (intro w hSw; (try dsimp only at hSw); go_simp; (try with_reducible rfl))
            (try simp only [Act.put, List.setIfInBounds_toArray, List.set_cons_zero, List.set_cons_succ])
            refine wpAnyH_take (i := 5) (oi := { dst := some 41, op := Op.move (Operand.tmp 0), type := 34, pos := "same.go:52", after := #[], guard := none }) (v := ?vu4) rfl (by kernel_rfl) (by kernel_rfl) (by kernel_rfl) (fun _ _ _ h => h) (Or.inl ⟨by rfl, ?yu4⟩) (by assumption) ?ru4
            case yu4 => (intro w hSw; (try dsimp only at hSw); go_simp; (try with_reducible rfl))
            (try simp only [Act.put, List.setIfInBounds_toArray, List.set_cons_zero, List.set_cons_succ])
            refine wpAnyH_take (i := 6) (oi := { dst := some 42, op := Op.move (Operand.tmp 4), type := 3, pos := "same.go:52", after := #[], guard := none }) (v := ?vu5) rfl (by kernel_rfl) (by kernel_rfl) (by kernel_rfl) (fun _ _ _ h => h) (Or.inl ⟨by rfl, ?yu5⟩) (by assumption) ?ru5
            case yu5 => (intro w hSw; (try dsimp only at hSw); go_simp; (try with_reducible rfl))
            (try simp only [Act.put, List.setIfInBounds_toArray, List.set_cons_zero, List.set_cons_succ])
            refine wpAnyH_take (i := 7) (oi := { dst := some 43, op := Op.indexAddr 34 (Operand.tmp 41) (Operand.tmp 42), type := 0, pos := "same.go:52", after := #[{ on := 5, ground := Ground.data }, { on := 6, ground := Ground.data }], guard := none }) (v := ?vu6) rfl (by kernel_rfl) (by kernel_rfl) (by kernel_rfl) (fun _ _ _ h => h) (Or.inl ⟨by rfl, ?yu6⟩) (by assumption) ?ru6
            case yu6 => (intro w hSw; (try dsimp only at hSw); go_simp; (try with_reducible rfl))
            (try simp only [Act.put, List.setIfInBounds_toArray, List.set_cons_zero, List.set_cons_succ])
            refine wpAnyH_take (i := 8) (oi := { dst := some 44, op := Op.load 3 (Operand.tmp 43), type := 3, pos := "same.go:52", after := #[{ on := 7, ground := Ground.data }], guard := none }) (v := ?vu7) rfl (by kernel_rfl) (by kernel_rfl) (by kernel_rfl) (fun _ _ _ h => h) (Or.inl ⟨by rfl, ?yu7⟩) (by assumption) ?ru7
            case yu7 => (intro w hSw; (try dsimp only at hSw); go_simp; (try with_reducible rfl))
            (try simp only [Act.put, List.setIfInBounds_toArray, List.set_cons_zero, List.set_cons_succ])
            refine wpAnyH_take (i := 11) (oi := { dst := some 47, op := Op.move (Operand.tmp 3), type := 34, pos := "same.go:52", after := #[], guard := none }) (v := ?vu8) rfl (by kernel_rfl) (by kernel_rfl) (by kernel_rfl) (fun _ _ _ h => h) (Or.inl ⟨by rfl, ?yu8⟩) (by assumption) ?ru8
            case yu8 => (intro w hSw; (try dsimp only at hSw); go_simp; (try with_reducible rfl))
            (try simp only [Act.put, List.setIfInBounds_toArray, List.set_cons_zero, List.set_cons_succ])
            refine wpAnyH_take (i := 12) (oi := { dst := some 48, op := Op.move (Operand.tmp 5), type := 3, pos := "same.go:52", after := #[], guard := none }) (v := ?vu9) rfl (by kernel_rfl) (by kernel_rfl) (by kernel_rfl) (fun _ _ _ h => h) (Or.inl ⟨by rfl, ?yu9⟩) (by assumption) ?ru9
            case yu9 => (intro w hSw; (try dsimp only at hSw); go_simp; (try with_reducible rfl))
            (try simp only [Act.put, List.setIfInBounds_toArray, List.set_cons_zero, List.set_cons_succ])
            refine wpAnyH_take (i := 13) (oi := { dst := some 49, op := Op.slice 34 (Operand.tmp 47) (some (Operand.tmp 48)) none none, type := 34, pos := "same.go:52", after := #[{ on := 11, ground := Ground.data }, { on := 12, ground := Ground.data }], guard := none }) (v := ?vu10) rfl (by kernel_rfl) (by kernel_rfl) (by kernel_rfl) (fun _ _ _ h => h) (Or.inl ⟨by rfl, ?yu10⟩) (by assumption) ?ru10
            case yu10 => (intro w hSw; (try dsimp only at hSw); go_simp; (try with_reducible rfl))
            (try simp only [Act.put, List.setIfInBounds_toArray, List.set_cons_zero, List.set_cons_succ])
            refine wpAnyH_ready (rs := [0, 9]) (by kernel_rfl) (by simp) ?_
            refine AllReadyH.cons (o := { dst := some 36, op := Op.buildSlice 34 0 #[], type := 34, pos := "same.go:52", after := #[], guard := none }) rfl (fun K hK => ?_) ?_
            · go_simp
              have B_0 := Aside0.mk (below_alloc HBd.out (.cells #[] 3))
              have E_0 := Aside0.mk (lit_be HBd.out 3 1 0 #[] rfl (by decide))
              have LE := Aside0.mk (HBd.out.size)
              refine hK.out _ _ ?_ (fun hHu10 => ?_)
              · (try dsimp only)
                exact HX.out _ B_0.out
              clear hK K hH
              (try simp only [Act.put, List.setIfInBounds_toArray, List.set_cons_zero, List.set_cons_succ])
              refine wpAnyH_ready (rs := [4, 9]) (by kernel_rfl) (by simp) ?_
              refine AllReadyH.cons (o := { dst := some 40, op := Op.call { callee := Callee.builtin Builtin.append, args := #[Operand.tmp 36, Operand.tmp 39], argTypes := #[34, 34] }, type := 34, pos := "same.go:52", after := #[{ on := 0, ground := Ground.data }, { on := 3, ground := Ground.data }], guard := none }) rfl (fun K hK => ?_) ?_
              · refine step_append_rows (by rfl) (.tmp 36) (.tmp 39) 34 (by rfl) 3 (.int .i64 0) 1 8 Try.underlying34 info3 rfl _ 0 0 [] (by simp [Act.eval, Act.put]) E_0.out A3 (0) c3 _ (by simp [Act.eval, Act.put]) (HF.out.below B_0.out) HO1.out (by have := HOL.out; have := HKL.out; unfold maxLen; omega) (by have := HOL.out; have := HKL.out; omega) ?_
                intro A_0_4 c_0_4 w_0_4 hR6 hG6 hk6
                have B_0_4 := Aside0.mk (hG6.to_below B_0.out B_0.out.size (blk_le (by have := LE.out; first | omega | (simp; done) | (simp; omega) | (simp at this ⊢; omega))))
                have R_0_4 := Aside0.mk hR6
                have K_0_4 := Aside0.mk (show ∀ k, blk A_0_4 k → w6.heap.size ≤ k from fun k h => (hk6 k h).elim (blk_le (by have := LE.out; first | omega | (simp; done) | (simp; omega) | (simp at this ⊢; omega)) k) (fun h2 => Nat.le_trans B_0.out.size h2))
                clear hR6 hG6 hk6
                refine hK.out _ _ ?_ (fun hHu11 => ?_)
                · (try dsimp only)
                  exact HX.out _ B_0_4.out
                clear hK K hHu10
                (try simp only [Act.put, List.setIfInBounds_toArray, List.set_cons_zero, List.set_cons_succ])
                refine wpAnyH_ready (rs := [9]) (by kernel_rfl) (by simp) ?_
                refine AllReadyH.cons (o := { dst := some 45, op := Op.buildSlice 34 1 #[(0, Operand.tmp 44)], type := 34, pos := "same.go:52", after := #[{ on := 8, ground := Ground.data }], guard := none }) rfl (fun K hK => ?_) AllReadyH.nil
                go_simp
                have B_0_4_9 := Aside0.mk (below_alloc B_0_4.out (.cells #[.int .i64 x] 3))
                have N_0_4_9 := Aside0.mk (lit_be B_0_4.out 3 1 1 #[.int .i64 x] rfl (by decide))
                have R_0_4_9 := Aside0.mk (R_0_4.out.alloc (.cells #[.int .i64 x] 3))
                have K_0_4_9 := K_0_4
                refine hK.out _ _ ?_ (fun hHu12 => ?_)
                · (try dsimp only)
                  exact HX.out _ B_0_4_9.out
                clear hK K hHu11
                (try simp only [Act.put, List.setIfInBounds_toArray, List.set_cons_zero, List.set_cons_succ])
                refine wpAnyH_ready (rs := [10]) (by kernel_rfl) (by simp) ?_
                refine AllReadyH.cons (o := { dst := some 46, op := Op.call { callee := Callee.builtin Builtin.append, args := #[Operand.tmp 40, Operand.tmp 45], argTypes := #[34, 34] }, type := 34, pos := "same.go:52", after := #[{ on := 4, ground := Ground.data }, { on := 9, ground := Ground.data }, { on := 4, ground := Ground.chain }], guard := none }) rfl (fun K hK => ?_) AllReadyH.nil
                refine step_append_rows (by rfl) (.tmp 40) (.tmp 45) 34 (by rfl) 3 (.int .i64 0) 1 8 Try.underlying34 info3 rfl _ _ _ _ (by simp [Act.eval, Act.put]) R_0_4_9.out _ 1 1 _ (by simp [Act.eval, Act.put]) N_0_4_9.out (by simp [Value.oneCell']) (by have := HOL.out; have := HKL.out; unfold maxLen; omega) (by have := HOL.out; have := HKL.out; omega) ?_
                intro A_0_4_9_10 c_0_4_9_10 w_0_4_9_10 hR6 hG6 hk6
                have B_0_4_9_10 := Aside0.mk (hG6.to_below B_0_4_9.out B_0_4_9.out.size K_0_4_9.out)
                have R_0_4_9_10 := Aside0.mk hR6
                have K_0_4_9_10 := Aside0.mk (show ∀ k, blk A_0_4_9_10 k → w6.heap.size ≤ k from fun k h => (hk6 k h).elim (K_0_4_9.out k) (fun h2 => Nat.le_trans B_0_4_9.out.size h2))
                clear hR6 hG6 hk6
                refine hK.out _ _ ?_ (fun hHu13 => ?_)
                · (try dsimp only)
                  exact HX.out _ B_0_4_9_10.out
                clear hK K hHu12
                (try simp only [Act.put, List.setIfInBounds_toArray, List.set_cons_zero, List.set_cons_succ])
                refine wpAnyH_ready (rs := [14]) (by kernel_rfl) (by simp) ?_
                refine AllReadyH.cons (o := { dst := some 50, op := Op.call { callee := Callee.builtin Builtin.append, args := #[Operand.tmp 46, Operand.tmp 49], argTypes := #[34, 34] }, type := 34, pos := "same.go:52", after := #[{ on := 10, ground := Ground.data }, { on := 13, ground := Ground.data }, { on := 10, ground := Ground.chain }], guard := none }) rfl (fun K hK => ?_) AllReadyH.nil
                refine step_append_rows (by rfl) (.tmp 46) (.tmp 49) 34 (by rfl) 3 (.int .i64 0) 1 8 Try.underlying34 info3 rfl _ _ _ _ (by simp [Act.eval, Act.put]) R_0_4_9_10.out A3 O.length c3 _ (by simp [Act.eval, Act.put]) (HBK.out.below B_0_4_9_10.out) HO2.out (by have := HOL.out; have := HKL.out; unfold maxLen; omega) (by have := HOL.out; have := HKL.out; omega) ?_
                intro A_0_4_9_10_14 c_0_4_9_10_14 w_0_4_9_10_14 hR6 hG6 hk6
                have B_0_4_9_10_14 := Aside0.mk (hG6.to_below B_0_4_9_10.out B_0_4_9_10.out.size K_0_4_9_10.out)
                have R_0_4_9_10_14 := Aside0.mk hR6
                have K_0_4_9_10_14 := Aside0.mk (show ∀ k, blk A_0_4_9_10_14 k → w6.heap.size ≤ k from fun k h => (hk6 k h).elim (K_0_4_9_10.out k) (fun h2 => Nat.le_trans B_0_4_9_10.out.size h2))
                clear hR6 hG6 hk6
                refine hK.out _ _ ?_ (fun hHu14 => ?_)
                · (try dsimp only)
                  exact HX.out _ B_0_4_9_10_14.out
                clear hK K hHu13
                (try simp only [Act.put, List.setIfInBounds_toArray, List.set_cons_zero, List.set_cons_succ])
                refine wpAnyH_take (i := 15) (oi := { dst := some 3, op := Op.assign (Operand.tmp 50), type := 34, pos := "same.go:52", after := #[{ on := 14, ground := Ground.data }, { on := 14, ground := Ground.chain }, { on := 0, ground := Ground.phase }, { on := 1, ground := Ground.phase }, { on := 2, ground := Ground.phase }, { on := 3, ground := Ground.phase }, { on := 4, ground := Ground.phase }, { on := 5, ground := Ground.phase }, { on := 6, ground := Ground.phase }, { on := 7, ground := Ground.phase }, { on := 8, ground := Ground.phase }, { on := 9, ground := Ground.phase }, { on := 10, ground := Ground.phase }, { on := 11, ground := Ground.phase }, { on := 12, ground := Ground.phase }, { on := 13, ground := Ground.phase }, { on := 14, ground := Ground.phase }], guard := none }) (v := ?vu16) rfl (by kernel_rfl) (by kernel_rfl) (by kernel_rfl) (fun _ _ _ h => h) (Or.inl ⟨by rfl, ?yu16⟩) (by assumption) ?ru16
                case yu16 => (intro w hSw; (try dsimp only at hSw); go_simp; (try with_reducible rfl))
                (try simp only [Act.put, List.setIfInBounds_toArray, List.set_cons_zero, List.set_cons_succ])
                refine wpAnyH_done (by kernel_rfl) ?_ _
                go_wp2
                all_goals (go_roundg (l.length - (i + 1)))
                all_goals first | (have := HJ.out; omega) | skip
                all_goals (refine ⟨i + 1, by have := HJ.out; omega, by have := HJ.out; omega, by first | rw [W3.out] | simp, ⟨?_⟩⟩; rw [HS.out]; have hR9 := R_0_4_9_10_14.out; rw [HFL.out, HNL.out] at hR9; have hN9 := HNL.out; simp only [Nat.zero_add, Nat.sub_self, Nat.add_zero, Nat.sub_zero] at hN9 ⊢; exact ⟨A_0_4_9_10_14, c_0_4_9_10_14, by first | (rw [hN9]; done) | (congr 1; omega) | (rw [← hN9]; congr 1; omega) | (rw [← hN9]), hR9, fun k h => Nat.le_trans HB6.out.size (K_0_4_9_10_14.out k h), below_then HB6.out HB6.out.size B_0_4_9_10_14.out⟩)
              refine AllReadyH.cons (o := { dst := some 45, op := Op.buildSlice 34 1 #[(0, Operand.tmp 44)], type := 34, pos := "same.go:52", after := #[{ on := 8, ground := Ground.data }], guard := none }) rfl (fun K hK => ?_) ?_
              · go_simp
                have B_0_9 := Aside0.mk (below_alloc B_0.out (.cells #[.int .i64 x] 3))
                have N_0_9 := Aside0.mk (lit_be B_0.out 3 1 1 #[.int .i64 x] rfl (by decide))
                have E_0_9 := Aside0.mk (E_0.out.alloc (.cells #[.int .i64 x] 3))
                refine hK.out _ _ ?_ (fun hHu16 => ?_)
                · (try dsimp only)
                  exact HX.out _ B_0_9.out
                clear hK K hHu10
                (try simp only [Act.put, List.setIfInBounds_toArray, List.set_cons_zero, List.set_cons_succ])
                refine wpAnyH_ready (rs := [4]) (by kernel_rfl) (by simp) ?_
                refine AllReadyH.cons (o := { dst := some 40, op := Op.call { callee := Callee.builtin Builtin.append, args := #[Operand.tmp 36, Operand.tmp 39], argTypes := #[34, 34] }, type := 34, pos := "same.go:52", after := #[{ on := 0, ground := Ground.data }, { on := 3, ground := Ground.data }], guard := none }) rfl (fun K hK => ?_) AllReadyH.nil
                refine step_append_rows (by rfl) (.tmp 36) (.tmp 39) 34 (by rfl) 3 (.int .i64 0) 1 8 Try.underlying34 info3 rfl _ 0 0 [] (by simp [Act.eval, Act.put]) E_0_9.out A3 (0) c3 _ (by simp [Act.eval, Act.put]) (HF.out.below B_0_9.out) HO1.out (by have := HOL.out; have := HKL.out; unfold maxLen; omega) (by have := HOL.out; have := HKL.out; omega) ?_
                intro A_0_9_4 c_0_9_4 w_0_9_4 hR6 hG6 hk6
                have B_0_9_4 := Aside0.mk (hG6.to_below B_0_9.out B_0_9.out.size (blk_le (by have := LE.out; first | omega | (simp; done) | (simp; omega) | (simp at this ⊢; omega))))
                have R_0_9_4 := Aside0.mk hR6
                have K_0_9_4 := Aside0.mk (show ∀ k, blk A_0_9_4 k → w6.heap.size ≤ k from fun k h => (hk6 k h).elim (blk_le (by have := LE.out; first | omega | (simp; done) | (simp; omega) | (simp at this ⊢; omega)) k) (fun h2 => Nat.le_trans B_0_9.out.size h2))
                have N_0_9_4 := Aside0.mk (N_0_9.out.grew hG6 (blk_ne (by first | omega | (simp; done) | (simp; omega))))
                clear hR6 hG6 hk6
                refine hK.out _ _ ?_ (fun hHu17 => ?_)
                · (try dsimp only)
                  exact HX.out _ B_0_9_4.out
                clear hK K hHu16
                (try simp only [Act.put, List.setIfInBounds_toArray, List.set_cons_zero, List.set_cons_succ])
                refine wpAnyH_ready (rs := [10]) (by kernel_rfl) (by simp) ?_
                refine AllReadyH.cons (o := { dst := some 46, op := Op.call { callee := Callee.builtin Builtin.append, args := #[Operand.tmp 40, Operand.tmp 45], argTypes := #[34, 34] }, type := 34, pos := "same.go:52", after := #[{ on := 4, ground := Ground.data }, { on := 9, ground := Ground.data }, { on := 4, ground := Ground.chain }], guard := none }) rfl (fun K hK => ?_) AllReadyH.nil
                refine step_append_rows (by rfl) (.tmp 40) (.tmp 45) 34 (by rfl) 3 (.int .i64 0) 1 8 Try.underlying34 info3 rfl _ _ _ _ (by simp [Act.eval, Act.put]) R_0_9_4.out _ 1 1 _ (by simp [Act.eval, Act.put]) N_0_9_4.out (by simp [Value.oneCell']) (by have := HOL.out; have := HKL.out; unfold maxLen; omega) (by have := HOL.out; have := HKL.out; omega) ?_
                intro A_0_9_4_10 c_0_9_4_10 w_0_9_4_10 hR6 hG6 hk6
                have B_0_9_4_10 := Aside0.mk (hG6.to_below B_0_9_4.out B_0_9_4.out.size K_0_9_4.out)
                have R_0_9_4_10 := Aside0.mk hR6
                have K_0_9_4_10 := Aside0.mk (show ∀ k, blk A_0_9_4_10 k → w6.heap.size ≤ k from fun k h => (hk6 k h).elim (K_0_9_4.out k) (fun h2 => Nat.le_trans B_0_9_4.out.size h2))
                clear hR6 hG6 hk6
                refine hK.out _ _ ?_ (fun hHu18 => ?_)
                · (try dsimp only)
                  exact HX.out _ B_0_9_4_10.out
                clear hK K hHu17
                (try simp only [Act.put, List.setIfInBounds_toArray, List.set_cons_zero, List.set_cons_succ])
                refine wpAnyH_ready (rs := [14]) (by kernel_rfl) (by simp) ?_
                refine AllReadyH.cons (o := { dst := some 50, op := Op.call { callee := Callee.builtin Builtin.append, args := #[Operand.tmp 46, Operand.tmp 49], argTypes := #[34, 34] }, type := 34, pos := "same.go:52", after := #[{ on := 10, ground := Ground.data }, { on := 13, ground := Ground.data }, { on := 10, ground := Ground.chain }], guard := none }) rfl (fun K hK => ?_) AllReadyH.nil
                refine step_append_rows (by rfl) (.tmp 46) (.tmp 49) 34 (by rfl) 3 (.int .i64 0) 1 8 Try.underlying34 info3 rfl _ _ _ _ (by simp [Act.eval, Act.put]) R_0_9_4_10.out A3 O.length c3 _ (by simp [Act.eval, Act.put]) (HBK.out.below B_0_9_4_10.out) HO2.out (by have := HOL.out; have := HKL.out; unfold maxLen; omega) (by have := HOL.out; have := HKL.out; omega) ?_
                intro A_0_9_4_10_14 c_0_9_4_10_14 w_0_9_4_10_14 hR6 hG6 hk6
                have B_0_9_4_10_14 := Aside0.mk (hG6.to_below B_0_9_4_10.out B_0_9_4_10.out.size K_0_9_4_10.out)
                have R_0_9_4_10_14 := Aside0.mk hR6
                have K_0_9_4_10_14 := Aside0.mk (show ∀ k, blk A_0_9_4_10_14 k → w6.heap.size ≤ k from fun k h => (hk6 k h).elim (K_0_9_4_10.out k) (fun h2 => Nat.le_trans B_0_9_4_10.out.size h2))
                clear hR6 hG6 hk6
                refine hK.out _ _ ?_ (fun hHu19 => ?_)
                · (try dsimp only)
                  exact HX.out _ B_0_9_4_10_14.out
                clear hK K hHu18
                (try simp only [Act.put, List.setIfInBounds_toArray, List.set_cons_zero, List.set_cons_succ])
                refine wpAnyH_take (i := 15) (oi := { dst := some 3, op := Op.assign (Operand.tmp 50), type := 34, pos := "same.go:52", after := #[{ on := 14, ground := Ground.data }, { on := 14, ground := Ground.chain }, { on := 0, ground := Ground.phase }, { on := 1, ground := Ground.phase }, { on := 2, ground := Ground.phase }, { on := 3, ground := Ground.phase }, { on := 4, ground := Ground.phase }, { on := 5, ground := Ground.phase }, { on := 6, ground := Ground.phase }, { on := 7, ground := Ground.phase }, { on := 8, ground := Ground.phase }, { on := 9, ground := Ground.phase }, { on := 10, ground := Ground.phase }, { on := 11, ground := Ground.phase }, { on := 12, ground := Ground.phase }, { on := 13, ground := Ground.phase }, { on := 14, ground := Ground.phase }], guard := none }) (v := ?vu21) rfl (by kernel_rfl) (by kernel_rfl) (by kernel_rfl) (fun _ _ _ h => h) (Or.inl ⟨by rfl, ?yu21⟩) (by assumption) ?ru21
                case yu21 => (intro w hSw; (try dsimp only at hSw); go_simp; (try with_reducible rfl))
                (try simp only [Act.put, List.setIfInBounds_toArray, List.set_cons_zero, List.set_cons_succ])
                refine wpAnyH_done (by kernel_rfl) ?_ _
                go_wp2
                all_goals (go_roundg (l.length - (i + 1)))
                all_goals first | (have := HJ.out; omega) | skip
                all_goals (refine ⟨i + 1, by have := HJ.out; omega, by have := HJ.out; omega, by first | rw [W3.out] | simp, ⟨?_⟩⟩; rw [HS.out]; have hR9 := R_0_9_4_10_14.out; rw [HFL.out, HNL.out] at hR9; have hN9 := HNL.out; simp only [Nat.zero_add, Nat.sub_self, Nat.add_zero, Nat.sub_zero] at hN9 ⊢; exact ⟨A_0_9_4_10_14, c_0_9_4_10_14, by first | (rw [hN9]; done) | (congr 1; omega) | (rw [← hN9]; congr 1; omega) | (rw [← hN9]), hR9, fun k h => Nat.le_trans HB6.out.size (K_0_9_4_10_14.out k h), below_then HB6.out HB6.out.size B_0_9_4_10_14.out⟩)
              exact AllReadyH.nil
            refine AllReadyH.cons (o := { dst := some 45, op := Op.buildSlice 34 1 #[(0, Operand.tmp 44)], type := 34, pos := "same.go:52", after := #[{ on := 8, ground := Ground.data }], guard := none }) rfl (fun K hK => ?_) ?_
            · go_simp
              have B_9 := Aside0.mk (below_alloc HBd.out (.cells #[.int .i64 x] 3))
              have N_9 := Aside0.mk (lit_be HBd.out 3 1 1 #[.int .i64 x] rfl (by decide))
              refine hK.out _ _ ?_ (fun hHu21 => ?_)
              · (try dsimp only)
                exact HX.out _ B_9.out
              clear hK K hH
              (try simp only [Act.put, List.setIfInBounds_toArray, List.set_cons_zero, List.set_cons_succ])
              refine wpAnyH_ready (rs := [0]) (by kernel_rfl) (by simp) ?_
              refine AllReadyH.cons (o := { dst := some 36, op := Op.buildSlice 34 0 #[], type := 34, pos := "same.go:52", after := #[], guard := none }) rfl (fun K hK => ?_) AllReadyH.nil
              go_simp
              have B_9_0 := Aside0.mk (below_alloc B_9.out (.cells #[] 3))
              have E_9_0 := Aside0.mk (lit_be B_9.out 3 1 0 #[] rfl (by decide))
              have LE := Aside0.mk (B_9.out.size)
              have N_9_0 := Aside0.mk (N_9.out.alloc (.cells #[] 3))
              refine hK.out _ _ ?_ (fun hHu22 => ?_)
              · (try dsimp only)
                exact HX.out _ B_9_0.out
              clear hK K hHu21
              (try simp only [Act.put, List.setIfInBounds_toArray, List.set_cons_zero, List.set_cons_succ])
              refine wpAnyH_ready (rs := [4]) (by kernel_rfl) (by simp) ?_
              refine AllReadyH.cons (o := { dst := some 40, op := Op.call { callee := Callee.builtin Builtin.append, args := #[Operand.tmp 36, Operand.tmp 39], argTypes := #[34, 34] }, type := 34, pos := "same.go:52", after := #[{ on := 0, ground := Ground.data }, { on := 3, ground := Ground.data }], guard := none }) rfl (fun K hK => ?_) AllReadyH.nil
              refine step_append_rows (by rfl) (.tmp 36) (.tmp 39) 34 (by rfl) 3 (.int .i64 0) 1 8 Try.underlying34 info3 rfl _ 0 0 [] (by simp [Act.eval, Act.put]) E_9_0.out A3 (0) c3 _ (by simp [Act.eval, Act.put]) (HF.out.below B_9_0.out) HO1.out (by have := HOL.out; have := HKL.out; unfold maxLen; omega) (by have := HOL.out; have := HKL.out; omega) ?_
              intro A_9_0_4 c_9_0_4 w_9_0_4 hR6 hG6 hk6
              have B_9_0_4 := Aside0.mk (hG6.to_below B_9_0.out B_9_0.out.size (blk_le (by have := LE.out; first | omega | (simp; done) | (simp; omega) | (simp at this ⊢; omega))))
              have R_9_0_4 := Aside0.mk hR6
              have K_9_0_4 := Aside0.mk (show ∀ k, blk A_9_0_4 k → w6.heap.size ≤ k from fun k h => (hk6 k h).elim (blk_le (by have := LE.out; first | omega | (simp; done) | (simp; omega) | (simp at this ⊢; omega)) k) (fun h2 => Nat.le_trans B_9_0.out.size h2))
              have N_9_0_4 := Aside0.mk (N_9_0.out.grew hG6 (blk_ne (by first | omega | (simp; done) | (simp; omega))))
              clear hR6 hG6 hk6
              refine hK.out _ _ ?_ (fun hHu23 => ?_)
              · (try dsimp only)
                exact HX.out _ B_9_0_4.out
              clear hK K hHu22
              (try simp only [Act.put, List.setIfInBounds_toArray, List.set_cons_zero, List.set_cons_succ])
              refine wpAnyH_ready (rs := [10]) (by kernel_rfl) (by simp) ?_
              refine AllReadyH.cons (o := { dst := some 46, op := Op.call { callee := Callee.builtin Builtin.append, args := #[Operand.tmp 40, Operand.tmp 45], argTypes := #[34, 34] }, type := 34, pos := "same.go:52", after := #[{ on := 4, ground := Ground.data }, { on := 9, ground := Ground.data }, { on := 4, ground := Ground.chain }], guard := none }) rfl (fun K hK => ?_) AllReadyH.nil
              refine step_append_rows (by rfl) (.tmp 40) (.tmp 45) 34 (by rfl) 3 (.int .i64 0) 1 8 Try.underlying34 info3 rfl _ _ _ _ (by simp [Act.eval, Act.put]) R_9_0_4.out _ 1 1 _ (by simp [Act.eval, Act.put]) N_9_0_4.out (by simp [Value.oneCell']) (by have := HOL.out; have := HKL.out; unfold maxLen; omega) (by have := HOL.out; have := HKL.out; omega) ?_
              intro A_9_0_4_10 c_9_0_4_10 w_9_0_4_10 hR6 hG6 hk6
              have B_9_0_4_10 := Aside0.mk (hG6.to_below B_9_0_4.out B_9_0_4.out.size K_9_0_4.out)
              have R_9_0_4_10 := Aside0.mk hR6
              have K_9_0_4_10 := Aside0.mk (show ∀ k, blk A_9_0_4_10 k → w6.heap.size ≤ k from fun k h => (hk6 k h).elim (K_9_0_4.out k) (fun h2 => Nat.le_trans B_9_0_4.out.size h2))
              clear hR6 hG6 hk6
              refine hK.out _ _ ?_ (fun hHu24 => ?_)
              · (try dsimp only)
                exact HX.out _ B_9_0_4_10.out
              clear hK K hHu23
              (try simp only [Act.put, List.setIfInBounds_toArray, List.set_cons_zero, List.set_cons_succ])
              refine wpAnyH_ready (rs := [14]) (by kernel_rfl) (by simp) ?_
              refine AllReadyH.cons (o := { dst := some 50, op := Op.call { callee := Callee.builtin Builtin.append, args := #[Operand.tmp 46, Operand.tmp 49], argTypes := #[34, 34] }, type := 34, pos := "same.go:52", after := #[{ on := 10, ground := Ground.data }, { on := 13, ground := Ground.data }, { on := 10, ground := Ground.chain }], guard := none }) rfl (fun K hK => ?_) AllReadyH.nil
              refine step_append_rows (by rfl) (.tmp 46) (.tmp 49) 34 (by rfl) 3 (.int .i64 0) 1 8 Try.underlying34 info3 rfl _ _ _ _ (by simp [Act.eval, Act.put]) R_9_0_4_10.out A3 O.length c3 _ (by simp [Act.eval, Act.put]) (HBK.out.below B_9_0_4_10.out) HO2.out (by have := HOL.out; have := HKL.out; unfold maxLen; omega) (by have := HOL.out; have := HKL.out; omega) ?_
              intro A_9_0_4_10_14 c_9_0_4_10_14 w_9_0_4_10_14 hR6 hG6 hk6
              have B_9_0_4_10_14 := Aside0.mk (hG6.to_below B_9_0_4_10.out B_9_0_4_10.out.size K_9_0_4_10.out)
              have R_9_0_4_10_14 := Aside0.mk hR6
              have K_9_0_4_10_14 := Aside0.mk (show ∀ k, blk A_9_0_4_10_14 k → w6.heap.size ≤ k from fun k h => (hk6 k h).elim (K_9_0_4_10.out k) (fun h2 => Nat.le_trans B_9_0_4_10.out.size h2))
              clear hR6 hG6 hk6
              refine hK.out _ _ ?_ (fun hHu25 => ?_)
              · (try dsimp only)
                exact HX.out _ B_9_0_4_10_14.out
              clear hK K hHu24
              (try simp only [Act.put, List.setIfInBounds_toArray, List.set_cons_zero, List.set_cons_succ])
              refine wpAnyH_take (i := 15) (oi := { dst := some 3, op := Op.assign (Operand.tmp 50), type := 34, pos := "same.go:52", after := #[{ on := 14, ground := Ground.data }, { on := 14, ground := Ground.chain }, { on := 0, ground := Ground.phase }, { on := 1, ground := Ground.phase }, { on := 2, ground := Ground.phase }, { on := 3, ground := Ground.phase }, { on := 4, ground := Ground.phase }, { on := 5, ground := Ground.phase }, { on := 6, ground := Ground.phase }, { on := 7, ground := Ground.phase }, { on := 8, ground := Ground.phase }, { on := 9, ground := Ground.phase }, { on := 10, ground := Ground.phase }, { on := 11, ground := Ground.phase }, { on := 12, ground := Ground.phase }, { on := 13, ground := Ground.phase }, { on := 14, ground := Ground.phase }], guard := none }) (v := ?vu27) rfl (by kernel_rfl) (by kernel_rfl) (by kernel_rfl) (fun _ _ _ h => h) (Or.inl ⟨by rfl, ?yu27⟩) (by assumption) ?ru27
              case yu27 => (intro w hSw; (try dsimp only at hSw); go_simp; (try with_reducible rfl))
              (try simp only [Act.put, List.setIfInBounds_toArray, List.set_cons_zero, List.set_cons_succ])
              refine wpAnyH_done (by kernel_rfl) ?_ _
              go_wp2
              all_goals (go_roundg (l.length - (i + 1)))
              all_goals first | (have := HJ.out; omega) | skip
              all_goals (refine ⟨i + 1, by have := HJ.out; omega, by have := HJ.out; omega, by first | rw [W3.out] | simp, ⟨?_⟩⟩; rw [HS.out]; have hR9 := R_9_0_4_10_14.out; rw [HFL.out, HNL.out] at hR9; have hN9 := HNL.out; simp only [Nat.zero_add, Nat.sub_self, Nat.add_zero, Nat.sub_zero] at hN9 ⊢; exact ⟨A_9_0_4_10_14, c_9_0_4_10_14, by first | (rw [hN9]; done) | (congr 1; omega) | (rw [← hN9]; congr 1; omega) | (rw [← hN9]), hR9, fun k h => Nat.le_trans HB6.out.size (K_9_0_4_10_14.out k h), below_then HB6.out HB6.out.size B_9_0_4_10_14.out⟩)
            exact AllReadyH.nil
          · obtain ⟨j, hj⟩ : ∃ j, k = j + 1 := ⟨k - 1, by omega⟩
            have hkl : j < O.length := by omega
            obtain ⟨ad3, hA3, q6⟩ := Kd.at_int HR5.out.readsI (j : Int) (by omega) (by omega)
            subst hA3
            rw [Int.toNat_natCast, show rd O (j : Int) = O[j] from by simp [rd, List.getElem?_eq_getElem hkl]] at q6
            have t1 : decide (0 < k) = true := decide_eq_true (by omega)
            have t2 : (0 : Int) < (k : Int) := by omega
            have t3 : wrap64 ((k : Int) - 1) = (j : Int) := by have := HOL.out; unfold wrap64; omega
            have t4 : (0 : Int) ≤ (j : Int) := by omega
            have t5 : (j : Int) < O.length := by omega
            have HKJ0 := Aside0.mk hj
            have gq := fun d os => cell_gr q5 d os
            have gq6 := fun d os => cell_gr q6 d os
            by_cases hgt : x < O[j]
            · have HT1 := Aside0.mk (show ∀ j2, (hj2 : j2 < O.length) → j ≤ j2 → x < O[j2] from fun j2 hj2 hkj => by
                rcases Nat.eq_or_lt_of_le hkj with rfl | h
                · exact hgt
                · exact HT.out j2 hj2 (by omega))
              have HKJ := Aside0.mk (And.intro hk hgg)
              generalize O[j] = y at q6 gq6 hgt
              clear hk hgg HT hkl hj h0
              go_wp2_with fail
              refine wp_region_gr mixed (by kernel_rfl) ?_
              repeat (go_big_quiet_step (fail))
              refine wpQuiet_nil ?_
              intro _ hw'
              obtain ⟨⟨d, os⟩, rfl⟩ := hw'
              have hgr := below_gr wi d os
              generalize grow (wat wi d) os = w6 at hgr ⊢
              have HB6 := Aside0.mk (below_then HBi.out HBi.out.size hgr)
              clear gq gq6 q5 q6 hgr
              go_wp2_with fail
              go_roundg j
              case measure => have := HKJ.out; have := HKJ0.out; omega
              case rel => exact ⟨j, by have := HKJ.out; have := HKJ0.out; omega, Nat.le_refl _, by first | rfl | rw [t3] | simp [t3], HT1, HB6⟩
            · have HF0 := Aside0.mk (show insI O x = O.take k ++ x :: O.drop k from insI_at HRI.out HNX.out (by omega) HT.out (.inr ⟨by omega, by subst hj; simpa using (by omega : O[j] ≤ x)⟩))
              generalize O[j] = y at q6 gq6 hgt
              have HKL1 := Aside0.mk hk
              clear hk hgg HT hkl hj h0
              go_wp2_with fail
              refine wp_region_gr mixed (by kernel_rfl) ?_
              repeat (go_big_quiet_step (fail))
              refine wpQuiet_nil ?_
              intro _ hw'
              obtain ⟨⟨d, os⟩, rfl⟩ := hw'
              have hgr := below_gr wi d os
              generalize grow (wat wi d) os = w6 at hgr ⊢
              clear gq gq6 q5 q6
              have HQ6 := Aside0.mk (cell_be HQ5.out hgr)
              have HR6 := Aside0.mk (HR5.out.below hgr)
              have HB6 := Aside0.mk (below_then HB5.out HB5.out.size hgr)
              have HKL := Aside0.mk (show k ≤ O.length by have := HKL1.out; omega)
              have HF := Aside0.mk (HR6.out.upto (k) HKL.out)
              have HBK := Aside0.mk (HR6.out.from_ (k) HKL.out)
              have HO1 := Aside0.mk (show ∀ u ∈ (ints O).take ((k) * 1), u.oneCell' = true from fun u hu => ints_one' O u (List.mem_of_mem_take hu))
              have HO2 := Aside0.mk (show ∀ u ∈ (ints O).drop ((k) * 1), u.oneCell' = true from fun u hu => ints_one' O u (List.mem_of_mem_drop hu))
              have HFL := Aside0.mk (show [] ++ (ints O).take ((k) * 1) ++ [Value.int .i64 x] ++ (ints O).drop ((k) * 1) = ints (insI O x) by rw [HF0.out]; simp [ints, List.map_take, List.map_drop])
              have HNL := Aside0.mk (show 0 + (k) + 1 + (O.length - (k)) = (insI O x).length by rw [HF0.out]; have := HKL.out; simp; omega)
              have HX := Aside0.mk (fun (W : World) (hb : Below w6.heap.size w6 W) => cell_be HQ6.out hb)
              have HBd := Aside0.mk (below_drew (Below.refl w6.heap.size w6))
              have p3 : ((k : Nat) : Int) ≤ O.length := by have := HKL.out; omega
              have p4 : ((k : Nat) : Int) ≤ c3 := by have := HKL.out; have := HCL.out; omega
              have p5 : (0 : Int) ≤ ((k : Nat) : Int) := by omega
              clear hgr
              go_wp2_with fail
              refine wp_region_held_drew (S := (fun W => W.cell? (ad.add i) = some (.int .i64 x))) (by kernel_rfl) ?_ (fun hH => ?_)
              · exact HX.out _ HBd.out
              refine wpAnyH_take (i := 1) (oi := { dst := some 37, op := Op.move (Operand.tmp 3), type := 34, pos := "same.go:52", after := #[], guard := none }) (v := ?vv1) rfl (by kernel_rfl) (by kernel_rfl) (by kernel_rfl) (fun _ _ _ h => h) (Or.inl ⟨by rfl, ?yv1⟩) (by assumption) ?rv1
              case yv1 => (intro w hSw; (try dsimp only at hSw); go_simp; (try with_reducible rfl))
              (try simp only [Act.put, List.setIfInBounds_toArray, List.set_cons_zero, List.set_cons_succ])
              refine wpAnyH_take (i := 2) (oi := { dst := some 38, op := Op.move (Operand.tmp 5), type := 3, pos := "same.go:52", after := #[], guard := none }) (v := ?vv2) rfl (by kernel_rfl) (by kernel_rfl) (by kernel_rfl) (fun _ _ _ h => h) (Or.inl ⟨by rfl, ?yv2⟩) (by assumption) ?rv2
              case yv2 => (intro w hSw; (try dsimp only at hSw); go_simp; (try with_reducible rfl))
              (try simp only [Act.put, List.setIfInBounds_toArray, List.set_cons_zero, List.set_cons_succ])
              refine wpAnyH_take (i := 3) (oi := { dst := some 39, op := Op.slice 34 (Operand.tmp 37) none (some (Operand.tmp 38)) none, type := 34, pos := "same.go:52", after := #[{ on := 1, ground := Ground.data }, { on := 2, ground := Ground.data }], guard := none }) (v := ?vv3) rfl (by kernel_rfl) (by kernel_rfl) (by kernel_rfl) (fun _ _ _ h => h) (Or.inl ⟨by rfl, ?yv3⟩) (by assumption) ?rv3
              case yv3 => (intro w hSw; (try dsimp only at hSw); go_simp; (try with_reducible rfl))
              (try simp only [Act.put, List.setIfInBounds_toArray, List.set_cons_zero, List.set_cons_succ])
              refine wpAnyH_take (i := 5) (oi := { dst := some 41, op := Op.move (Operand.tmp 0), type := 34, pos := "same.go:52", after := #[], guard := none }) (v := ?vv4) rfl (by kernel_rfl) (by kernel_rfl) (by kernel_rfl) (fun _ _ _ h => h) (Or.inl ⟨by rfl, ?yv4⟩) (by assumption) ?rv4
              case yv4 => (intro w hSw; (try dsimp only at hSw); go_simp; (try with_reducible rfl))
              (try simp only [Act.put, List.setIfInBounds_toArray, List.set_cons_zero, List.set_cons_succ])
              refine wpAnyH_take (i := 6) (oi := { dst := some 42, op := Op.move (Operand.tmp 4), type := 3, pos := "same.go:52", after := #[], guard := none }) (v := ?vv5) rfl (by kernel_rfl) (by kernel_rfl) (by kernel_rfl) (fun _ _ _ h => h) (Or.inl ⟨by rfl, ?yv5⟩) (by assumption) ?rv5
              case yv5 => (intro w hSw; (try dsimp only at hSw); go_simp; (try with_reducible rfl))
              (try simp only [Act.put, List.setIfInBounds_toArray, List.set_cons_zero, List.set_cons_succ])
              refine wpAnyH_take (i := 7) (oi := { dst := some 43, op := Op.indexAddr 34 (Operand.tmp 41) (Operand.tmp 42), type := 0, pos := "same.go:52", after := #[{ on := 5, ground := Ground.data }, { on := 6, ground := Ground.data }], guard := none }) (v := ?vv6) rfl (by kernel_rfl) (by kernel_rfl) (by kernel_rfl) (fun _ _ _ h => h) (Or.inl ⟨by rfl, ?yv6⟩) (by assumption) ?rv6
              case yv6 => (intro w hSw; (try dsimp only at hSw); go_simp; (try with_reducible rfl))
              (try simp only [Act.put, List.setIfInBounds_toArray, List.set_cons_zero, List.set_cons_succ])
              refine wpAnyH_take (i := 8) (oi := { dst := some 44, op := Op.load 3 (Operand.tmp 43), type := 3, pos := "same.go:52", after := #[{ on := 7, ground := Ground.data }], guard := none }) (v := ?vv7) rfl (by kernel_rfl) (by kernel_rfl) (by kernel_rfl) (fun _ _ _ h => h) (Or.inl ⟨by rfl, ?yv7⟩) (by assumption) ?rv7
              case yv7 => (intro w hSw; (try dsimp only at hSw); go_simp; (try with_reducible rfl))
              (try simp only [Act.put, List.setIfInBounds_toArray, List.set_cons_zero, List.set_cons_succ])
              refine wpAnyH_take (i := 11) (oi := { dst := some 47, op := Op.move (Operand.tmp 3), type := 34, pos := "same.go:52", after := #[], guard := none }) (v := ?vv8) rfl (by kernel_rfl) (by kernel_rfl) (by kernel_rfl) (fun _ _ _ h => h) (Or.inl ⟨by rfl, ?yv8⟩) (by assumption) ?rv8
              case yv8 => (intro w hSw; (try dsimp only at hSw); go_simp; (try with_reducible rfl))
              (try simp only [Act.put, List.setIfInBounds_toArray, List.set_cons_zero, List.set_cons_succ])
              refine wpAnyH_take (i := 12) (oi := { dst := some 48, op := Op.move (Operand.tmp 5), type := 3, pos := "same.go:52", after := #[], guard := none }) (v := ?vv9) rfl (by kernel_rfl) (by kernel_rfl) (by kernel_rfl) (fun _ _ _ h => h) (Or.inl ⟨by rfl, ?yv9⟩) (by assumption) ?rv9
              case yv9 => (intro w hSw; (try dsimp only at hSw); go_simp; (try with_reducible rfl))
              (try simp only [Act.put, List.setIfInBounds_toArray, List.set_cons_zero, List.set_cons_succ])
              refine wpAnyH_take (i := 13) (oi := { dst := some 49, op := Op.slice 34 (Operand.tmp 47) (some (Operand.tmp 48)) none none, type := 34, pos := "same.go:52", after := #[{ on := 11, ground := Ground.data }, { on := 12, ground := Ground.data }], guard := none }) (v := ?vv10) rfl (by kernel_rfl) (by kernel_rfl) (by kernel_rfl) (fun _ _ _ h => h) (Or.inl ⟨by rfl, ?yv10⟩) (by assumption) ?rv10
              case yv10 => (intro w hSw; (try dsimp only at hSw); go_simp; (try with_reducible rfl))
              (try simp only [Act.put, List.setIfInBounds_toArray, List.set_cons_zero, List.set_cons_succ])
              refine wpAnyH_ready (rs := [0, 9]) (by kernel_rfl) (by simp) ?_
              refine AllReadyH.cons (o := { dst := some 36, op := Op.buildSlice 34 0 #[], type := 34, pos := "same.go:52", after := #[], guard := none }) rfl (fun K hK => ?_) ?_
              · go_simp
                have B_0 := Aside0.mk (below_alloc HBd.out (.cells #[] 3))
                have E_0 := Aside0.mk (lit_be HBd.out 3 1 0 #[] rfl (by decide))
                have LE := Aside0.mk (HBd.out.size)
                refine hK.out _ _ ?_ (fun hHv10 => ?_)
                · (try dsimp only)
                  exact HX.out _ B_0.out
                clear hK K hH
                (try simp only [Act.put, List.setIfInBounds_toArray, List.set_cons_zero, List.set_cons_succ])
                refine wpAnyH_ready (rs := [4, 9]) (by kernel_rfl) (by simp) ?_
                refine AllReadyH.cons (o := { dst := some 40, op := Op.call { callee := Callee.builtin Builtin.append, args := #[Operand.tmp 36, Operand.tmp 39], argTypes := #[34, 34] }, type := 34, pos := "same.go:52", after := #[{ on := 0, ground := Ground.data }, { on := 3, ground := Ground.data }], guard := none }) rfl (fun K hK => ?_) ?_
                · refine step_append_rows (by rfl) (.tmp 36) (.tmp 39) 34 (by rfl) 3 (.int .i64 0) 1 8 Try.underlying34 info3 rfl _ 0 0 [] (by simp [Act.eval, Act.put]) E_0.out (some ad3) (k) c3 _ (by simp [Act.eval, Act.put]) (HF.out.below B_0.out) HO1.out (by have := HOL.out; have := HKL.out; unfold maxLen; omega) (by have := HOL.out; have := HKL.out; omega) ?_
                  intro A_0_4 c_0_4 w_0_4 hR6 hG6 hk6
                  have B_0_4 := Aside0.mk (hG6.to_below B_0.out B_0.out.size (blk_le (by have := LE.out; first | omega | (simp; done) | (simp; omega) | (simp at this ⊢; omega))))
                  have R_0_4 := Aside0.mk hR6
                  have K_0_4 := Aside0.mk (show ∀ k, blk A_0_4 k → w6.heap.size ≤ k from fun k h => (hk6 k h).elim (blk_le (by have := LE.out; first | omega | (simp; done) | (simp; omega) | (simp at this ⊢; omega)) k) (fun h2 => Nat.le_trans B_0.out.size h2))
                  clear hR6 hG6 hk6
                  refine hK.out _ _ ?_ (fun hHv11 => ?_)
                  · (try dsimp only)
                    exact HX.out _ B_0_4.out
                  clear hK K hHv10
                  (try simp only [Act.put, List.setIfInBounds_toArray, List.set_cons_zero, List.set_cons_succ])
                  refine wpAnyH_ready (rs := [9]) (by kernel_rfl) (by simp) ?_
                  refine AllReadyH.cons (o := { dst := some 45, op := Op.buildSlice 34 1 #[(0, Operand.tmp 44)], type := 34, pos := "same.go:52", after := #[{ on := 8, ground := Ground.data }], guard := none }) rfl (fun K hK => ?_) AllReadyH.nil
                  go_simp
                  have B_0_4_9 := Aside0.mk (below_alloc B_0_4.out (.cells #[.int .i64 x] 3))
                  have N_0_4_9 := Aside0.mk (lit_be B_0_4.out 3 1 1 #[.int .i64 x] rfl (by decide))
                  have R_0_4_9 := Aside0.mk (R_0_4.out.alloc (.cells #[.int .i64 x] 3))
                  have K_0_4_9 := K_0_4
                  refine hK.out _ _ ?_ (fun hHv12 => ?_)
                  · (try dsimp only)
                    exact HX.out _ B_0_4_9.out
                  clear hK K hHv11
                  (try simp only [Act.put, List.setIfInBounds_toArray, List.set_cons_zero, List.set_cons_succ])
                  refine wpAnyH_ready (rs := [10]) (by kernel_rfl) (by simp) ?_
                  refine AllReadyH.cons (o := { dst := some 46, op := Op.call { callee := Callee.builtin Builtin.append, args := #[Operand.tmp 40, Operand.tmp 45], argTypes := #[34, 34] }, type := 34, pos := "same.go:52", after := #[{ on := 4, ground := Ground.data }, { on := 9, ground := Ground.data }, { on := 4, ground := Ground.chain }], guard := none }) rfl (fun K hK => ?_) AllReadyH.nil
                  refine step_append_rows (by rfl) (.tmp 40) (.tmp 45) 34 (by rfl) 3 (.int .i64 0) 1 8 Try.underlying34 info3 rfl _ _ _ _ (by simp [Act.eval, Act.put]) R_0_4_9.out _ 1 1 _ (by simp [Act.eval, Act.put]) N_0_4_9.out (by simp [Value.oneCell']) (by have := HOL.out; have := HKL.out; unfold maxLen; omega) (by have := HOL.out; have := HKL.out; omega) ?_
                  intro A_0_4_9_10 c_0_4_9_10 w_0_4_9_10 hR6 hG6 hk6
                  have B_0_4_9_10 := Aside0.mk (hG6.to_below B_0_4_9.out B_0_4_9.out.size K_0_4_9.out)
                  have R_0_4_9_10 := Aside0.mk hR6
                  have K_0_4_9_10 := Aside0.mk (show ∀ k, blk A_0_4_9_10 k → w6.heap.size ≤ k from fun k h => (hk6 k h).elim (K_0_4_9.out k) (fun h2 => Nat.le_trans B_0_4_9.out.size h2))
                  clear hR6 hG6 hk6
                  refine hK.out _ _ ?_ (fun hHv13 => ?_)
                  · (try dsimp only)
                    exact HX.out _ B_0_4_9_10.out
                  clear hK K hHv12
                  (try simp only [Act.put, List.setIfInBounds_toArray, List.set_cons_zero, List.set_cons_succ])
                  refine wpAnyH_ready (rs := [14]) (by kernel_rfl) (by simp) ?_
                  refine AllReadyH.cons (o := { dst := some 50, op := Op.call { callee := Callee.builtin Builtin.append, args := #[Operand.tmp 46, Operand.tmp 49], argTypes := #[34, 34] }, type := 34, pos := "same.go:52", after := #[{ on := 10, ground := Ground.data }, { on := 13, ground := Ground.data }, { on := 10, ground := Ground.chain }], guard := none }) rfl (fun K hK => ?_) AllReadyH.nil
                  refine step_append_rows (by rfl) (.tmp 46) (.tmp 49) 34 (by rfl) 3 (.int .i64 0) 1 8 Try.underlying34 info3 rfl _ _ _ _ (by simp [Act.eval, Act.put]) R_0_4_9_10.out (if c3 = k then (some ad3) else ((some ad3)).map (·.add ((k) * 1))) (O.length - (k)) (c3 - (k)) _ (by simp [Act.eval, Act.put]) (HBK.out.below B_0_4_9_10.out) HO2.out (by have := HOL.out; have := HKL.out; unfold maxLen; omega) (by have := HOL.out; have := HKL.out; omega) ?_
                  intro A_0_4_9_10_14 c_0_4_9_10_14 w_0_4_9_10_14 hR6 hG6 hk6
                  have B_0_4_9_10_14 := Aside0.mk (hG6.to_below B_0_4_9_10.out B_0_4_9_10.out.size K_0_4_9_10.out)
                  have R_0_4_9_10_14 := Aside0.mk hR6
                  have K_0_4_9_10_14 := Aside0.mk (show ∀ k, blk A_0_4_9_10_14 k → w6.heap.size ≤ k from fun k h => (hk6 k h).elim (K_0_4_9_10.out k) (fun h2 => Nat.le_trans B_0_4_9_10.out.size h2))
                  clear hR6 hG6 hk6
                  refine hK.out _ _ ?_ (fun hHv14 => ?_)
                  · (try dsimp only)
                    exact HX.out _ B_0_4_9_10_14.out
                  clear hK K hHv13
                  (try simp only [Act.put, List.setIfInBounds_toArray, List.set_cons_zero, List.set_cons_succ])
                  refine wpAnyH_take (i := 15) (oi := { dst := some 3, op := Op.assign (Operand.tmp 50), type := 34, pos := "same.go:52", after := #[{ on := 14, ground := Ground.data }, { on := 14, ground := Ground.chain }, { on := 0, ground := Ground.phase }, { on := 1, ground := Ground.phase }, { on := 2, ground := Ground.phase }, { on := 3, ground := Ground.phase }, { on := 4, ground := Ground.phase }, { on := 5, ground := Ground.phase }, { on := 6, ground := Ground.phase }, { on := 7, ground := Ground.phase }, { on := 8, ground := Ground.phase }, { on := 9, ground := Ground.phase }, { on := 10, ground := Ground.phase }, { on := 11, ground := Ground.phase }, { on := 12, ground := Ground.phase }, { on := 13, ground := Ground.phase }, { on := 14, ground := Ground.phase }], guard := none }) (v := ?vv16) rfl (by kernel_rfl) (by kernel_rfl) (by kernel_rfl) (fun _ _ _ h => h) (Or.inl ⟨by rfl, ?yv16⟩) (by assumption) ?rv16
                  case yv16 => (intro w hSw; (try dsimp only at hSw); go_simp; (try with_reducible rfl))
                  (try simp only [Act.put, List.setIfInBounds_toArray, List.set_cons_zero, List.set_cons_succ])
                  refine wpAnyH_done (by kernel_rfl) ?_ _
                  go_wp2
                  all_goals (go_roundg (l.length - (i + 1)))
                  all_goals first | (have := HJ.out; omega) | skip
                  all_goals (refine ⟨i + 1, by have := HJ.out; omega, by have := HJ.out; omega, by first | rw [W3.out] | simp, ⟨?_⟩⟩; rw [HS.out]; have hR9 := R_0_4_9_10_14.out; rw [HFL.out, HNL.out] at hR9; have hN9 := HNL.out; simp only [Nat.zero_add, Nat.sub_self, Nat.add_zero, Nat.sub_zero] at hN9 ⊢; exact ⟨A_0_4_9_10_14, c_0_4_9_10_14, by first | (rw [hN9]; done) | (congr 1; omega) | (rw [← hN9]; congr 1; omega) | (rw [← hN9]), hR9, fun k h => Nat.le_trans HB6.out.size (K_0_4_9_10_14.out k h), below_then HB6.out HB6.out.size B_0_4_9_10_14.out⟩)
                refine AllReadyH.cons (o := { dst := some 45, op := Op.buildSlice 34 1 #[(0, Operand.tmp 44)], type := 34, pos := "same.go:52", after := #[{ on := 8, ground := Ground.data }], guard := none }) rfl (fun K hK => ?_) ?_
                · go_simp
                  have B_0_9 := Aside0.mk (below_alloc B_0.out (.cells #[.int .i64 x] 3))
                  have N_0_9 := Aside0.mk (lit_be B_0.out 3 1 1 #[.int .i64 x] rfl (by decide))
                  have E_0_9 := Aside0.mk (E_0.out.alloc (.cells #[.int .i64 x] 3))
                  refine hK.out _ _ ?_ (fun hHv16 => ?_)
                  · (try dsimp only)
                    exact HX.out _ B_0_9.out
                  clear hK K hHv10
                  (try simp only [Act.put, List.setIfInBounds_toArray, List.set_cons_zero, List.set_cons_succ])
                  refine wpAnyH_ready (rs := [4]) (by kernel_rfl) (by simp) ?_
                  refine AllReadyH.cons (o := { dst := some 40, op := Op.call { callee := Callee.builtin Builtin.append, args := #[Operand.tmp 36, Operand.tmp 39], argTypes := #[34, 34] }, type := 34, pos := "same.go:52", after := #[{ on := 0, ground := Ground.data }, { on := 3, ground := Ground.data }], guard := none }) rfl (fun K hK => ?_) AllReadyH.nil
                  refine step_append_rows (by rfl) (.tmp 36) (.tmp 39) 34 (by rfl) 3 (.int .i64 0) 1 8 Try.underlying34 info3 rfl _ 0 0 [] (by simp [Act.eval, Act.put]) E_0_9.out (some ad3) (k) c3 _ (by simp [Act.eval, Act.put]) (HF.out.below B_0_9.out) HO1.out (by have := HOL.out; have := HKL.out; unfold maxLen; omega) (by have := HOL.out; have := HKL.out; omega) ?_
                  intro A_0_9_4 c_0_9_4 w_0_9_4 hR6 hG6 hk6
                  have B_0_9_4 := Aside0.mk (hG6.to_below B_0_9.out B_0_9.out.size (blk_le (by have := LE.out; first | omega | (simp; done) | (simp; omega) | (simp at this ⊢; omega))))
                  have R_0_9_4 := Aside0.mk hR6
                  have K_0_9_4 := Aside0.mk (show ∀ k, blk A_0_9_4 k → w6.heap.size ≤ k from fun k h => (hk6 k h).elim (blk_le (by have := LE.out; first | omega | (simp; done) | (simp; omega) | (simp at this ⊢; omega)) k) (fun h2 => Nat.le_trans B_0_9.out.size h2))
                  have N_0_9_4 := Aside0.mk (N_0_9.out.grew hG6 (blk_ne (by first | omega | (simp; done) | (simp; omega))))
                  clear hR6 hG6 hk6
                  refine hK.out _ _ ?_ (fun hHv17 => ?_)
                  · (try dsimp only)
                    exact HX.out _ B_0_9_4.out
                  clear hK K hHv16
                  (try simp only [Act.put, List.setIfInBounds_toArray, List.set_cons_zero, List.set_cons_succ])
                  refine wpAnyH_ready (rs := [10]) (by kernel_rfl) (by simp) ?_
                  refine AllReadyH.cons (o := { dst := some 46, op := Op.call { callee := Callee.builtin Builtin.append, args := #[Operand.tmp 40, Operand.tmp 45], argTypes := #[34, 34] }, type := 34, pos := "same.go:52", after := #[{ on := 4, ground := Ground.data }, { on := 9, ground := Ground.data }, { on := 4, ground := Ground.chain }], guard := none }) rfl (fun K hK => ?_) AllReadyH.nil
                  refine step_append_rows (by rfl) (.tmp 40) (.tmp 45) 34 (by rfl) 3 (.int .i64 0) 1 8 Try.underlying34 info3 rfl _ _ _ _ (by simp [Act.eval, Act.put]) R_0_9_4.out _ 1 1 _ (by simp [Act.eval, Act.put]) N_0_9_4.out (by simp [Value.oneCell']) (by have := HOL.out; have := HKL.out; unfold maxLen; omega) (by have := HOL.out; have := HKL.out; omega) ?_
                  intro A_0_9_4_10 c_0_9_4_10 w_0_9_4_10 hR6 hG6 hk6
                  have B_0_9_4_10 := Aside0.mk (hG6.to_below B_0_9_4.out B_0_9_4.out.size K_0_9_4.out)
                  have R_0_9_4_10 := Aside0.mk hR6
                  have K_0_9_4_10 := Aside0.mk (show ∀ k, blk A_0_9_4_10 k → w6.heap.size ≤ k from fun k h => (hk6 k h).elim (K_0_9_4.out k) (fun h2 => Nat.le_trans B_0_9_4.out.size h2))
                  clear hR6 hG6 hk6
                  refine hK.out _ _ ?_ (fun hHv18 => ?_)
                  · (try dsimp only)
                    exact HX.out _ B_0_9_4_10.out
                  clear hK K hHv17
                  (try simp only [Act.put, List.setIfInBounds_toArray, List.set_cons_zero, List.set_cons_succ])
                  refine wpAnyH_ready (rs := [14]) (by kernel_rfl) (by simp) ?_
                  refine AllReadyH.cons (o := { dst := some 50, op := Op.call { callee := Callee.builtin Builtin.append, args := #[Operand.tmp 46, Operand.tmp 49], argTypes := #[34, 34] }, type := 34, pos := "same.go:52", after := #[{ on := 10, ground := Ground.data }, { on := 13, ground := Ground.data }, { on := 10, ground := Ground.chain }], guard := none }) rfl (fun K hK => ?_) AllReadyH.nil
                  refine step_append_rows (by rfl) (.tmp 46) (.tmp 49) 34 (by rfl) 3 (.int .i64 0) 1 8 Try.underlying34 info3 rfl _ _ _ _ (by simp [Act.eval, Act.put]) R_0_9_4_10.out (if c3 = k then (some ad3) else ((some ad3)).map (·.add ((k) * 1))) (O.length - (k)) (c3 - (k)) _ (by simp [Act.eval, Act.put]) (HBK.out.below B_0_9_4_10.out) HO2.out (by have := HOL.out; have := HKL.out; unfold maxLen; omega) (by have := HOL.out; have := HKL.out; omega) ?_
                  intro A_0_9_4_10_14 c_0_9_4_10_14 w_0_9_4_10_14 hR6 hG6 hk6
                  have B_0_9_4_10_14 := Aside0.mk (hG6.to_below B_0_9_4_10.out B_0_9_4_10.out.size K_0_9_4_10.out)
                  have R_0_9_4_10_14 := Aside0.mk hR6
                  have K_0_9_4_10_14 := Aside0.mk (show ∀ k, blk A_0_9_4_10_14 k → w6.heap.size ≤ k from fun k h => (hk6 k h).elim (K_0_9_4_10.out k) (fun h2 => Nat.le_trans B_0_9_4_10.out.size h2))
                  clear hR6 hG6 hk6
                  refine hK.out _ _ ?_ (fun hHv19 => ?_)
                  · (try dsimp only)
                    exact HX.out _ B_0_9_4_10_14.out
                  clear hK K hHv18
                  (try simp only [Act.put, List.setIfInBounds_toArray, List.set_cons_zero, List.set_cons_succ])
                  refine wpAnyH_take (i := 15) (oi := { dst := some 3, op := Op.assign (Operand.tmp 50), type := 34, pos := "same.go:52", after := #[{ on := 14, ground := Ground.data }, { on := 14, ground := Ground.chain }, { on := 0, ground := Ground.phase }, { on := 1, ground := Ground.phase }, { on := 2, ground := Ground.phase }, { on := 3, ground := Ground.phase }, { on := 4, ground := Ground.phase }, { on := 5, ground := Ground.phase }, { on := 6, ground := Ground.phase }, { on := 7, ground := Ground.phase }, { on := 8, ground := Ground.phase }, { on := 9, ground := Ground.phase }, { on := 10, ground := Ground.phase }, { on := 11, ground := Ground.phase }, { on := 12, ground := Ground.phase }, { on := 13, ground := Ground.phase }, { on := 14, ground := Ground.phase }], guard := none }) (v := ?vv21) rfl (by kernel_rfl) (by kernel_rfl) (by kernel_rfl) (fun _ _ _ h => h) (Or.inl ⟨by rfl, ?yv21⟩) (by assumption) ?rv21
                  case yv21 => (intro w hSw; (try dsimp only at hSw); go_simp; (try with_reducible rfl))
                  (try simp only [Act.put, List.setIfInBounds_toArray, List.set_cons_zero, List.set_cons_succ])
                  refine wpAnyH_done (by kernel_rfl) ?_ _
                  go_wp2
                  all_goals (go_roundg (l.length - (i + 1)))
                  all_goals first | (have := HJ.out; omega) | skip
                  all_goals (refine ⟨i + 1, by have := HJ.out; omega, by have := HJ.out; omega, by first | rw [W3.out] | simp, ⟨?_⟩⟩; rw [HS.out]; have hR9 := R_0_9_4_10_14.out; rw [HFL.out, HNL.out] at hR9; have hN9 := HNL.out; simp only [Nat.zero_add, Nat.sub_self, Nat.add_zero, Nat.sub_zero] at hN9 ⊢; exact ⟨A_0_9_4_10_14, c_0_9_4_10_14, by first | (rw [hN9]; done) | (congr 1; omega) | (rw [← hN9]; congr 1; omega) | (rw [← hN9]), hR9, fun k h => Nat.le_trans HB6.out.size (K_0_9_4_10_14.out k h), below_then HB6.out HB6.out.size B_0_9_4_10_14.out⟩)
                exact AllReadyH.nil
              refine AllReadyH.cons (o := { dst := some 45, op := Op.buildSlice 34 1 #[(0, Operand.tmp 44)], type := 34, pos := "same.go:52", after := #[{ on := 8, ground := Ground.data }], guard := none }) rfl (fun K hK => ?_) ?_
              · go_simp
                have B_9 := Aside0.mk (below_alloc HBd.out (.cells #[.int .i64 x] 3))
                have N_9 := Aside0.mk (lit_be HBd.out 3 1 1 #[.int .i64 x] rfl (by decide))
                refine hK.out _ _ ?_ (fun hHv21 => ?_)
                · (try dsimp only)
                  exact HX.out _ B_9.out
                clear hK K hH
                (try simp only [Act.put, List.setIfInBounds_toArray, List.set_cons_zero, List.set_cons_succ])
                refine wpAnyH_ready (rs := [0]) (by kernel_rfl) (by simp) ?_
                refine AllReadyH.cons (o := { dst := some 36, op := Op.buildSlice 34 0 #[], type := 34, pos := "same.go:52", after := #[], guard := none }) rfl (fun K hK => ?_) AllReadyH.nil
                go_simp
                have B_9_0 := Aside0.mk (below_alloc B_9.out (.cells #[] 3))
                have E_9_0 := Aside0.mk (lit_be B_9.out 3 1 0 #[] rfl (by decide))
                have LE := Aside0.mk (B_9.out.size)
                have N_9_0 := Aside0.mk (N_9.out.alloc (.cells #[] 3))
                refine hK.out _ _ ?_ (fun hHv22 => ?_)
                · (try dsimp only)
                  exact HX.out _ B_9_0.out
                clear hK K hHv21
                (try simp only [Act.put, List.setIfInBounds_toArray, List.set_cons_zero, List.set_cons_succ])
                refine wpAnyH_ready (rs := [4]) (by kernel_rfl) (by simp) ?_
                refine AllReadyH.cons (o := { dst := some 40, op := Op.call { callee := Callee.builtin Builtin.append, args := #[Operand.tmp 36, Operand.tmp 39], argTypes := #[34, 34] }, type := 34, pos := "same.go:52", after := #[{ on := 0, ground := Ground.data }, { on := 3, ground := Ground.data }], guard := none }) rfl (fun K hK => ?_) AllReadyH.nil
                refine step_append_rows (by rfl) (.tmp 36) (.tmp 39) 34 (by rfl) 3 (.int .i64 0) 1 8 Try.underlying34 info3 rfl _ 0 0 [] (by simp [Act.eval, Act.put]) E_9_0.out (some ad3) (k) c3 _ (by simp [Act.eval, Act.put]) (HF.out.below B_9_0.out) HO1.out (by have := HOL.out; have := HKL.out; unfold maxLen; omega) (by have := HOL.out; have := HKL.out; omega) ?_
                intro A_9_0_4 c_9_0_4 w_9_0_4 hR6 hG6 hk6
                have B_9_0_4 := Aside0.mk (hG6.to_below B_9_0.out B_9_0.out.size (blk_le (by have := LE.out; first | omega | (simp; done) | (simp; omega) | (simp at this ⊢; omega))))
                have R_9_0_4 := Aside0.mk hR6
                have K_9_0_4 := Aside0.mk (show ∀ k, blk A_9_0_4 k → w6.heap.size ≤ k from fun k h => (hk6 k h).elim (blk_le (by have := LE.out; first | omega | (simp; done) | (simp; omega) | (simp at this ⊢; omega)) k) (fun h2 => Nat.le_trans B_9_0.out.size h2))
                have N_9_0_4 := Aside0.mk (N_9_0.out.grew hG6 (blk_ne (by first | omega | (simp; done) | (simp; omega))))
                clear hR6 hG6 hk6
                refine hK.out _ _ ?_ (fun hHv23 => ?_)
                · (try dsimp only)
                  exact HX.out _ B_9_0_4.out
                clear hK K hHv22
                (try simp only [Act.put, List.setIfInBounds_toArray, List.set_cons_zero, List.set_cons_succ])
                refine wpAnyH_ready (rs := [10]) (by kernel_rfl) (by simp) ?_
                refine AllReadyH.cons (o := { dst := some 46, op := Op.call { callee := Callee.builtin Builtin.append, args := #[Operand.tmp 40, Operand.tmp 45], argTypes := #[34, 34] }, type := 34, pos := "same.go:52", after := #[{ on := 4, ground := Ground.data }, { on := 9, ground := Ground.data }, { on := 4, ground := Ground.chain }], guard := none }) rfl (fun K hK => ?_) AllReadyH.nil
                refine step_append_rows (by rfl) (.tmp 40) (.tmp 45) 34 (by rfl) 3 (.int .i64 0) 1 8 Try.underlying34 info3 rfl _ _ _ _ (by simp [Act.eval, Act.put]) R_9_0_4.out _ 1 1 _ (by simp [Act.eval, Act.put]) N_9_0_4.out (by simp [Value.oneCell']) (by have := HOL.out; have := HKL.out; unfold maxLen; omega) (by have := HOL.out; have := HKL.out; omega) ?_
                intro A_9_0_4_10 c_9_0_4_10 w_9_0_4_10 hR6 hG6 hk6
                have B_9_0_4_10 := Aside0.mk (hG6.to_below B_9_0_4.out B_9_0_4.out.size K_9_0_4.out)
                have R_9_0_4_10 := Aside0.mk hR6
                have K_9_0_4_10 := Aside0.mk (show ∀ k, blk A_9_0_4_10 k → w6.heap.size ≤ k from fun k h => (hk6 k h).elim (K_9_0_4.out k) (fun h2 => Nat.le_trans B_9_0_4.out.size h2))
                clear hR6 hG6 hk6
                refine hK.out _ _ ?_ (fun hHv24 => ?_)
                · (try dsimp only)
                  exact HX.out _ B_9_0_4_10.out
                clear hK K hHv23
                (try simp only [Act.put, List.setIfInBounds_toArray, List.set_cons_zero, List.set_cons_succ])
                refine wpAnyH_ready (rs := [14]) (by kernel_rfl) (by simp) ?_
                refine AllReadyH.cons (o := { dst := some 50, op := Op.call { callee := Callee.builtin Builtin.append, args := #[Operand.tmp 46, Operand.tmp 49], argTypes := #[34, 34] }, type := 34, pos := "same.go:52", after := #[{ on := 10, ground := Ground.data }, { on := 13, ground := Ground.data }, { on := 10, ground := Ground.chain }], guard := none }) rfl (fun K hK => ?_) AllReadyH.nil
                refine step_append_rows (by rfl) (.tmp 46) (.tmp 49) 34 (by rfl) 3 (.int .i64 0) 1 8 Try.underlying34 info3 rfl _ _ _ _ (by simp [Act.eval, Act.put]) R_9_0_4_10.out (if c3 = k then (some ad3) else ((some ad3)).map (·.add ((k) * 1))) (O.length - (k)) (c3 - (k)) _ (by simp [Act.eval, Act.put]) (HBK.out.below B_9_0_4_10.out) HO2.out (by have := HOL.out; have := HKL.out; unfold maxLen; omega) (by have := HOL.out; have := HKL.out; omega) ?_
                intro A_9_0_4_10_14 c_9_0_4_10_14 w_9_0_4_10_14 hR6 hG6 hk6
                have B_9_0_4_10_14 := Aside0.mk (hG6.to_below B_9_0_4_10.out B_9_0_4_10.out.size K_9_0_4_10.out)
                have R_9_0_4_10_14 := Aside0.mk hR6
                have K_9_0_4_10_14 := Aside0.mk (show ∀ k, blk A_9_0_4_10_14 k → w6.heap.size ≤ k from fun k h => (hk6 k h).elim (K_9_0_4_10.out k) (fun h2 => Nat.le_trans B_9_0_4_10.out.size h2))
                clear hR6 hG6 hk6
                refine hK.out _ _ ?_ (fun hHv25 => ?_)
                · (try dsimp only)
                  exact HX.out _ B_9_0_4_10_14.out
                clear hK K hHv24
                (try simp only [Act.put, List.setIfInBounds_toArray, List.set_cons_zero, List.set_cons_succ])
                refine wpAnyH_take (i := 15) (oi := { dst := some 3, op := Op.assign (Operand.tmp 50), type := 34, pos := "same.go:52", after := #[{ on := 14, ground := Ground.data }, { on := 14, ground := Ground.chain }, { on := 0, ground := Ground.phase }, { on := 1, ground := Ground.phase }, { on := 2, ground := Ground.phase }, { on := 3, ground := Ground.phase }, { on := 4, ground := Ground.phase }, { on := 5, ground := Ground.phase }, { on := 6, ground := Ground.phase }, { on := 7, ground := Ground.phase }, { on := 8, ground := Ground.phase }, { on := 9, ground := Ground.phase }, { on := 10, ground := Ground.phase }, { on := 11, ground := Ground.phase }, { on := 12, ground := Ground.phase }, { on := 13, ground := Ground.phase }, { on := 14, ground := Ground.phase }], guard := none }) (v := ?vv27) rfl (by kernel_rfl) (by kernel_rfl) (by kernel_rfl) (fun _ _ _ h => h) (Or.inl ⟨by rfl, ?yv27⟩) (by assumption) ?rv27
                case yv27 => (intro w hSw; (try dsimp only at hSw); go_simp; (try with_reducible rfl))
                (try simp only [Act.put, List.setIfInBounds_toArray, List.set_cons_zero, List.set_cons_succ])
                refine wpAnyH_done (by kernel_rfl) ?_ _
                go_wp2
                all_goals (go_roundg (l.length - (i + 1)))
                all_goals first | (have := HJ.out; omega) | skip
                all_goals (refine ⟨i + 1, by have := HJ.out; omega, by have := HJ.out; omega, by first | rw [W3.out] | simp, ⟨?_⟩⟩; rw [HS.out]; have hR9 := R_9_0_4_10_14.out; rw [HFL.out, HNL.out] at hR9; have hN9 := HNL.out; simp only [Nat.zero_add, Nat.sub_self, Nat.add_zero, Nat.sub_zero] at hN9 ⊢; exact ⟨A_9_0_4_10_14, c_9_0_4_10_14, by first | (rw [hN9]; done) | (congr 1; omega) | (rw [← hN9]; congr 1; omega) | (rw [← hN9]), hR9, fun k h => Nat.le_trans HB6.out.size (K_9_0_4_10_14.out k h), below_then HB6.out HB6.out.size B_9_0_4_10_14.out⟩)
              exact AllReadyH.nil
    · obtain rfl : i = l.length := by omega
      have hO := HO.out
      rw [List.take_length] at hO
      have HO1 := Aside0.mk hO
      have t1 : ¬ ((l.length : Int) < (l.length : Int)) := by omega
      clear hi hgg hlt hO HO
      go_wp2
      go_ret
      obtain ⟨A3, c3, rfl, h1, h2, h3⟩ := HO1.out
      exact ⟨A3, c3, rfl, h1, h2, h3⟩
end Go.Proofs.Ytfpnadalfopmcaa.Ln
