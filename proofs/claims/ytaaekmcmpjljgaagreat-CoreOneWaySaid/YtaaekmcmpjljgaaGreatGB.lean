import Derived.Test.YtaaekmcmpjljgaaGreatGA
import Derived.Maps.OwnSet
namespace Go.Proofs.YtaaekmcmpjljgaaGreat.Gr
open Go.RowKit Go.Proofs.YtaaekmcmpjljgaaGreatW.PrintWords Go.Proofs.YtaaekmcmpjljgaaGreatW.PrintWords.Kd Go.Proofs.YtaaekmcmpjljgaaGreatW.PrintLast Go.Proofs.YtaaekmcmpjljgaaGreatW.PrintMore Go.Proofs.YtaaekmcmpjljgaaGreat.PMd Go.Proofs.YtaaekmcmpjljgaaGreat.Ln
open Go.Maps
open Go.Sort (grow)
set_option linter.unusedVariables false
set_option linter.unusedSimpArgs false
def MetAt (w : World) (m N : Nat) (met : List Int) : Prop :=
  ∃ D : DataW Unit, w.ownsMap Tryz.prog 3 (plainElem Tryz.prog 4) m N D ∧ ∀ x, ok64 x → D.atKey (.int .i64 x) (.lit (.bool false)) = .lit (.bool (decide (x ∈ met)))
theorem MetAt.move {w w' : World} {m N : Nat} {met : List Int} (h : MetAt w m N met) (hm : w'.heap[m]? = w.heap[m]?) : MetAt w' m N met := by
  obtain ⟨D, ⟨es, clock, hb, h1⟩, h2⟩ := h
  exact ⟨D, ⟨es, clock, hm.trans hb, h1⟩, h2⟩
theorem MetAt.lt {w : World} {m N : Nat} {met : List Int} (h : MetAt w m N met) : m < w.heap.size := by
  obtain ⟨D, h1, _⟩ := h
  exact h1.lt
theorem MetAt.off {w : World} {m N : Nat} {met : List Int} (h : MetAt w m N met) {e sz n c : Nat} {A : Option Addr} {xs : List Value} (hr : Row w e sz A n c xs) : ¬ blk A m := fun hk => by
  obtain ⟨cur, hc⟩ := hr.typed hk
  obtain ⟨D, ⟨es, clock, hb, _⟩, _⟩ := h
  rw [hb] at hc
  cases hc
set_option maxRecDepth 100000 in
theorem plainElem_bool_inv {v : Value} {z : DataW Unit × List MemPlace} (h : plainElem Tryz.prog 4 v = some z) : ∃ b, v = .bool b ∧ z = (.lit (.bool b), []) := by
  unfold plainElem at h
  rw [Tryz.underlying4] at h
  cases v <;> simp at h
  exact ⟨_, rfl, h.symm⟩
set_option maxRecDepth 100000 in
theorem MetAt.look {w : World} {m N : Nat} {met : List Int} (h : MetAt w m N met) {x : Int} (hx : ok64 x) : (Instr.lookup 154 (.map (some m)) (.int .i64 x) false).run Tryz.prog w = .ok (.bool (decide (x ∈ met))) w := by
  obtain ⟨D, h1, h2⟩ := h
  obtain ⟨v, ps, hrun, hv⟩ := h1.lookup keyed Tryz.underlying154 (Tryz.zeroValue4 w) (plainElem_bool Tryz.underlying4 false) (Maps.keyOf_int_mk Tryz.underlying3 hx)
  rw [h2 x hx] at hv
  obtain ⟨b, rfl, e⟩ := plainElem_bool_inv hv
  injection e with e _
  injection e with e
  injection e with e
  rw [hrun, e]
theorem MetAt.put {w' : World} {m N' : Nat} {met : List Int} {D : DataW Unit} (h : ∀ x, ok64 x → D.atKey (.int .i64 x) (.lit (.bool false)) = .lit (.bool (decide (x ∈ met)))) (hD : IsMap D) {y : Int}
    (hown : w'.ownsMap Tryz.prog 3 (plainElem Tryz.prog 4) m N' (D.put (.int .i64 y) (.lit (.bool true)))) : MetAt w' m N' (y :: met) := by
  refine ⟨_, hown, fun x hx => ?_⟩
  by_cases e : x = y
  · subst e
    rw [atKey_put_same hD (by trivial)]
    simp
  · rw [atKey_put_other (lit_ne e), h x hx]
    simp [e]
structure At_ (w wr : World) (m2 : Nat) (l : List Ed) (v : Value) (met st : List Int) : Prop where
  ex : ∃ A c N, v = .slice A st.length c ∧ Row wr 3 1 A st.length c (ints st) ∧ (∀ k, blk A k → w.heap.size ≤ k) ∧ MetAt wr m2 N met ∧ N + unm (nodesE l) met ≤ (nodesE l).length
  pot : unm (nodesE l) met + st.length ≤ (nodesE l).length + 1
  ok : ∀ y ∈ st, ok64 y
  below : Below w.heap.size w wr
theorem At_.move {w wr wr' : World} {m2 : Nat} {l : List Ed} {v : Value} {met st : List Int} (h : At_ w wr m2 l v met st) (hb : Below wr.heap.size wr wr') : At_ w wr' m2 l v met st := by
  obtain ⟨⟨A, c, N, h1, h2, h3, h4, h5⟩, h6, h7, h8⟩ := h
  exact ⟨⟨A, c, N, h1, h2.below hb, h3, h4.move (hb.block m2 h4.lt), h5⟩, h6, h7, below_then h8 h8.size hb⟩
theorem IsWeb.lookB {w w' : World} {m : Nat} {l : List Ed} (h : IsWeb w m l) (hb : Below w.heap.size w w') {x : Int} (hx : ok64 x) : ∃ A c, (Instr.lookup 142 (.map (some m)) (.int .i64 x) false).run Tryz.prog w' = .ok (.slice A (nextE x l).length c) w' ∧ Row w 3 1 A (nextE x l).length c (ints (nextE x l)) := by
  obtain ⟨N, f, h1, h2⟩ := h
  obtain ⟨A, c, h3, h4⟩ := h2 x hx
  exact ⟨A, c, by rw [(h1.move (hb.block m h1.lt)).look hx, h3], h4⟩
set_option maxHeartbeats 16000000 in
set_option maxRecDepth 100000 in
theorem reaches_ (m : Nat) (fr tgt : Int) (An : Option Addr) (cn : Nat) (nots : List Int) (l : List Ed) (w : World) (hw : IsWeb w m l) (hok : OkE l) (hl : l.length ≤ 400000) (hf : ok64 fr) (ht : ok64 tgt) (hn : Row w 3 1 An nots.length cn (ints nots)) :
    Calls Tryz.prog 103 #[.map (some m), .int .i64 fr, .int .i64 tgt, .slice An nots.length cn] w fun e w' => e = .returned (.bool (reachB l fr tgt nots)) ∧ Below w.heap.size w w' := by
  have HW := Aside0.mk hw
  have HOK := Aside0.mk hok
  have HL := Aside0.mk hl
  have HN := Aside0.mk hn
  have HNB := Aside0.mk (show (nodesE l).length ≤ 800000 by have := nodes_len l; omega)
  have HT := Aside0.mk ht
  have HD := Aside0.mk (reach_dfs l fr tgt nots)
  have HA0 := Aside0.mk (show At_ w ((w.alloc (.map #[] 0)).alloc (.cells #[.int .i64 fr] 3)) w.heap.size l (.slice (some ⟨w.heap.size + 1, 0, none⟩) 1 1) [] [fr] from by
    refine ⟨⟨some ⟨w.heap.size + 1, 0, none⟩, 1, 0, rfl, ?_, ?_, ?_, by rw [unm_nil]; omega⟩, by rw [unm_nil]; simp, fun y hy => by simp at hy; exact hy ▸ hf, below_alloc (below_alloc (Below.refl _ _) _) _⟩
    · have hb := blk_new (w.alloc (.map #[] 0)) (.cells #[.int .i64 fr] 3)
      rw [show (w.alloc (.map #[] 0)).heap.size = w.heap.size + 1 by simp] at hb
      exact ⟨by simp [ints], by simp, by unfold maxLen; simp, .inr ⟨w.heap.size + 1, 0, _, rfl, hb, by simp, by simp [ints]⟩⟩
    · rintro k ⟨a, h1, rfl⟩
      cases h1
      show w.heap.size ≤ w.heap.size + 1
      omega
    · refine MetAt.move (w := w.alloc (.map #[] 0)) ⟨_, World.ownsMap_made _ _ _ _, fun x _ => rfl⟩ ?_
      exact (below_alloc (Below.refl (w.alloc (.map #[] 0)).heap.size (w.alloc (.map #[] 0))) _).block _ (by simp))
  have hmm := @run_makeMap Tryz.prog
  generalize hr : reachB l fr tgt nots = r at HD
  have HRR := Aside0.mk hr
  clear hw hok hl hn hf ht hr
  go_enter Tryz.func103, Tryz.ntmps103
  go_wp2_with fail
  clear hmm
  obtain ⟨w1, hw1⟩ : ∃ W, W = (w.alloc (.map #[] 0)).alloc (.cells #[.int .i64 fr] 3) := ⟨_, rfl⟩
  rw [← hw1] at HA0 ⊢
  obtain ⟨m2, hm2⟩ : ∃ x, x = w.heap.size := ⟨_, rfl⟩
  have HA1 := Aside0.mk (show At_ w w1 m2 l (.slice (some ⟨w.heap.size + 1, 0, none⟩) 1 1) [] [fr] from hm2 ▸ HA0.out)
  have HM2 := Aside0.mk hm2
  clear HA0 hw1
  go_loopg [10] ((nodesE l).length + 2) (fun gg v wr => ∃ met st : List Int, Aside0 (At_ w wr w.heap.size l v met st) ∧ Aside0 (dfs l tgt nots gg met st = some r))
  case atStart => exact ⟨[], [fr], ⟨by have := HA1.out; rw [HM2.out] at this; exact this⟩, HD⟩
  case round =>
    clear HA1 HD
    obtain ⟨met, st, HA, HD⟩ := hrel
    obtain ⟨k, hgk⟩ : ∃ k, gk = k + 1 := by
      cases gk with
      | zero => have := HD.out; simp [dfs] at this
      | succ k => exact ⟨k, rfl⟩
    subst hgk
    rcases List.eq_nil_or_concat st with rfl | ⟨st0, n, hst⟩
    · have hr : r = false := by have := HD.out; simp [dfs] at this; exact this
      obtain ⟨A, c, N, rfl, -⟩ := HA.out.ex
      have HB := Aside0.mk HA.out.below
      subst hr
      go_wp2
      go_ret
      exact ⟨rfl, HB.out⟩
    · rw [List.concat_eq_append] at hst
      subst hst
      have hD := HD.out
      unfold dfs at hD
      rw [List.getLast?_concat, List.dropLast_concat] at hD
      simp only at hD
      obtain ⟨A, c, N, rfl, hR, hK, hM, hN⟩ := HA.out.ex
      have hpot := HA.out.pot
      have hokn := HA.out.ok n (by simp)
      obtain ⟨ad, hA, q0⟩ := Kd.at_int hR.readsI (st0.length : Int) (by omega) (by simp; omega)
      subst hA
      rw [Int.toNat_natCast, show rd (st0 ++ [n]) (st0.length : Int) = n from by simp [rd]] at q0
      have hsl : (st0 ++ [n]).length = st0.length + 1 := by simp
      rw [hsl] at hR hpot
      rw [hsl]
      have HCAP := Aside0.mk hR.2.1
      have HR0 := Aside0.mk (show Row wr 3 1 (some ad) st0.length c (ints st0) from by
        have := hR.upto st0.length (by omega)
        simpa [ints, List.take_left'] using this)
      have HPT := Aside0.mk (show unm (nodesE l) met + st0.length ≤ (nodesE l).length by omega)
      have HSL := Aside0.mk (show st0.length ≤ 800000 by have := HNB.out; omega)
      obtain ⟨Aw, cw, hlook, hRw⟩ := HW.out.lookB HA.out.below hokn
      have HRW := Aside0.mk hRw
      have HOK0 := Aside0.mk (show ∀ y ∈ st0, ok64 y from fun y hy => HA.out.ok y (by simp [hy]))
      have HB := Aside0.mk HA.out.below
      have HM := Aside0.mk hM
      have HK := Aside0.mk hK
      have HNN := Aside0.mk hN
      have HSUB := Aside0.mk (show ∀ y ∈ nextE n l, y ∈ nodesE l from fun y hy => next_sub hy)
      obtain ⟨ys, hys⟩ : ∃ ys, ys = nextE n l := ⟨_, rfl⟩
      have HYL := Aside0.mk (show ys.length ≤ 400000 by rw [hys]; have := next_len n l; have := HL.out; omega)
      rw [← hys] at hD hlook HRW HSUB
      have t0 : wrap64 (((st0.length + 1 : Nat) : Int) - 1) = (st0.length : Int) := by have := HSL.out; unfold wrap64; omega
      have t1 : (0 : Int) ≤ (st0.length : Int) := by omega
      have t2 : (st0.length : Int) < ((st0.length + 1 : Nat) : Int) := by omega
      have t3 : (st0.length : Int) ≤ (c : Int) := by have := HCAP.out; omega
      have t4 : (0 : Int) < ((st0.length + 1 : Nat) : Int) := by omega
      generalize hz : dfsIn tgt nots ys met st0 = Z at hD
      have HZ := Aside0.mk (show dfsIn tgt nots (ys.drop 0) met st0 = Z from hz)
      have HDD := Aside0.mk hD
      have HAT := Aside0.mk (show At_ w wr w.heap.size l (.slice (some ad) st0.length c) met st0 from ⟨⟨some ad, c, N, rfl, HR0.out, hK, hM, hN⟩, by have := HPT.out; omega, HOK0.out, HB.out⟩)
      have HPT0 := HPT
      have HYS := Aside0.mk (And.intro hys hokn)
      clear hR hK hM hN hpot hokn hsl hRw hD hz hys HA HD HM HK HNN HR0 HPT HOK0
      obtain ⟨sl, hsl⟩ : ∃ s, s = st0.length + 1 := ⟨_, rfl⟩
      rw [← hsl] at t0 t2 t4 ⊢
      have HSLE := Aside0.mk hsl
      have t5 : decide (0 < sl) = true := decide_eq_true (by omega)
      clear hsl
      obtain ⟨wo, hwo⟩ : ∃ W, W = wr := ⟨_, rfl⟩
      subst hwo
      go_wp2_with fail
      clear t0 t1 t2 t3 t4
      go_loopg [10, 35] ys.length (fun gg v v35 wr => ∃ (j : Nat) (met' st' : List Int), j ≤ ys.length ∧ ys.length - j ≤ gg ∧ v35 = .int .i64 j ∧ Aside0 (At_ w wr w.heap.size l v met' st') ∧ Aside0 (unm (nodesE l) met' + st'.length ≤ (nodesE l).length) ∧ Aside0 (dfsIn tgt nots (ys.drop j) met' st' = Z))
      case atStart => exact ⟨0, met, st0, by omega, by omega, rfl, HAT, HPT0, HZ⟩
      case round =>
        clear HAT HZ HPT0
        obtain ⟨j, met', st', hj, hgg, rfl, HA, HPT, HZ⟩ := hrel
        by_cases hlt : j < ys.length
        · obtain ⟨A', c', N', rfl, hR, hK, hM, hN⟩ := HA.out.ex
          obtain ⟨ady, hAy, qy⟩ := Kd.at_int (HRW.out.below HA.out.below).readsI (j : Int) (by omega) (by omega)
          subst hAy
          rw [Int.toNat_natCast, show rd ys (j : Int) = ys[j] from by simp [rd, List.getElem?_eq_getElem hlt]] at qy
          have p1 : 0 ≤ (j : Int) := by omega
          have p2 : (j : Int) < ys.length := by omega
          have hmx : ys.length ≤ 9223372036854775807 := by have := HYL.out; omega
          have hyn := HSUB.out ys[j] (List.getElem_mem hlt)
          have hyk := nodes_ok HOK.out hyn
          have HYN := Aside0.mk (And.intro hyn hyk)
          have hdr : ys.drop j = ys[j] :: ys.drop (j + 1) := List.drop_eq_getElem_cons hlt
          have hz := HZ.out
          rw [hdr] at hz
          unfold dfsIn at hz
          have HJ := Aside0.mk (And.intro hlt hgg)
          have W3 := Aside0.mk (show wrap64 ((j : Int) + 1) = ((j + 1 : Nat) : Int) by have := HYL.out; unfold wrap64; omega)
          have hlk := MetAt.look hM hyk
          generalize ys[j] = y at qy hz HYN hlk
          have HR := Aside0.mk hR
          have HK := Aside0.mk hK
          have HM := Aside0.mk hM
          have HNN := Aside0.mk hN
          have HB := Aside0.mk HA.out.below
          clear hdr hyn hyk hR hK hM hN hlt hj hgg HZ
          by_cases ey : y = tgt
          · have b1 : (y == tgt) = true := by simp [ey]
            rw [if_pos ey] at hz
            have hr : r = true := by have := HDD.out; rw [← hz] at this; simpa using this.symm
            subst hr
            clear ey hz hlk
            go_wp2
            go_ret
            exact ⟨rfl, HB.out⟩
          · have b1 : (y == tgt) = false := by simp [ey]
            rw [if_neg ey] at hz
            by_cases hm : y ∈ met'
            · rw [if_neg (fun h => h.1 hm)] at hz
              have HZ := Aside0.mk hz
              rw [decide_eq_true hm] at hlk
              clear ey hz hm
              go_wp2_with fail
              go_roundg (ys.length - (j + 1))
              case measure => have := HJ.out; omega
              case rel => exact ⟨j + 1, met', st', by have := HJ.out; omega, by have := HJ.out; omega, by first | rw [W3.out] | simp, HA, HPT, HZ⟩
            · rw [decide_eq_false hm] at hlk
              have HCO := Aside0.mk (containsI_ An cn nots y wr (HN.out.below HB.out).readsI)
              by_cases hn : y ∈ nots
              · rw [if_neg (fun h => h.2 hn)] at hz
                have HZ := Aside0.mk hz
                rw [decide_eq_true hn] at HCO
                clear ey hz hm hn
                go_wp2_with fail
                refine HCO.out.mono ?_
                rintro e w5 ⟨rfl, rfl⟩
                go_wp2_with fail
                go_roundg (ys.length - (j + 1))
                case measure => have := HJ.out; omega
                case rel => exact ⟨j + 1, met', st', by have := HJ.out; omega, by have := HJ.out; omega, by first | rw [W3.out] | simp, HA, HPT, HZ⟩
              · rw [if_pos ⟨hm, hn⟩] at hz
                have HZ := Aside0.mk hz
                rw [decide_eq_false hn] at HCO
                have HUP := Aside0.mk (unm_push (nodes_nodup l) HYN.out.1 hm)
                obtain ⟨D, o1, o2⟩ := HM.out
                have O1 := Aside0.mk o1
                have O2 := Aside0.mk o2
                have HSL2 := Aside0.mk (show st'.length ≤ 800000 by have := HPT.out; have := HNB.out; omega)
                clear ey hz hm hn o1 o2
                go_wp2_with fail
                refine HCO.out.mono ?_
                rintro e w5 ⟨rfl, rfl⟩
                clear hlk
                go_wp2_with (first
                  | (at_mapUpdate; refine wpList_mapUpdate_own _ rfl _ _ _ 154 rfl 3 4 keyed Tryz.underlying154 _ w.heap.size N' D rfl O1.out (by have h1 := HNN.out; have h2 := HNB.out; unfold maxLen; omega) _ _ _ rfl rfl (Maps.keyOf_int_mk Tryz.underlying3 HYN.out.2) _ [] (plainElem_bool Tryz.underlying4 true) ?_; intro w7 hown7 hgrow7
                     have HM7 := Aside0.mk (MetAt.put O2.out O1.out.isMap hown7)
                     have HR7 := Aside0.mk (grown_row hgrow7 HR.out (HM.out.off HR.out))
                     have HB7 := Aside0.mk (show Below w.heap.size w w7 from HB.out.trans ⟨hgrow7.os, hgrow7.tape, hgrow7.output, hgrow7.size, fun k hk => hgrow7.block k (Nat.lt_of_lt_of_le hk HB.out.size) (fun e => by injection e with e; omega)⟩)
                     clear hown7 hgrow7
                     have HR8 := Aside0.mk (HR7.out.alloc (.cells #[.int .i64 y] 3))
                     have HBS := Aside0.mk (blk_new w7 (.cells #[.int .i64 y] 3))
                     have HB8 := Aside0.mk (below_alloc HB7.out (.cells #[.int .i64 y] 3))
                     have HM8 := Aside0.mk (HM7.out.move (w' := w7.alloc (.cells #[.int .i64 y] 3)) ((below_alloc (Below.refl w7.heap.size w7) _).block _ HM7.out.lt)))
                  | (at_builtin; refine wpList_append_info rfl _ _ 29 rfl 3 _ 1 8 Tryz.underlying29 info3 rfl A' st'.length c' (ints st') (by simp [Act.eval, Act.put]) HR8.out ⟨w7.heap.size, 0, none⟩ 1 1 [.int .i64 y] (by simp [Act.eval, Act.put]) rfl (Ln.one_at HBS.out) (Ln.one_one y) (by have := HSL2.out; unfold maxLen; omega) (by have := HSL2.out; omega) ?_; intro A9 c9 w9 hR9 hG9 hk9
                     have HR9 := Aside0.mk hR9
                     have HG9 := Aside0.mk hG9
                     have HK9 := Aside0.mk hk9
                     clear hR9 hG9 hk9)
                  | fail)
                have HA9 := Aside0.mk (show At_ w w9 w.heap.size l (.slice A9 (st'.length + 1) c9) (y :: met') (st' ++ [y]) from by
                  refine ⟨⟨A9, c9, N' + 1, by simp, by rw [← ints_snoc]; simpa using HR9.out, fun k h => (HK9.out k h).elim (HK.out k) (fun h2 => Nat.le_trans HB7.out.size (by have h3 : w7.heap.size + 1 ≤ k := (by simpa using h2); omega)), HM8.out.move (HG9.out.block _ HM8.out.lt (HM8.out.off HR8.out)), ?_⟩, ?_, fun z hz => ?_, HG9.out.to_below HB8.out HB8.out.size HK.out⟩
                  · have h1 := HNN.out; have h2 := HUP.out; omega
                  · have h1 := HA.out.pot; have h2 := HUP.out; simp; omega
                  · rcases List.mem_append.1 hz with h | h
                    · exact HA.out.ok z h
                    · simp at h; subst h; exact HYN.out.2)
                have HPT9 := Aside0.mk (show unm (nodesE l) (y :: met') + (st' ++ [y]).length ≤ (nodesE l).length by have h1 := HPT.out; have h2 := HUP.out; simp; omega)
                go_roundg (ys.length - (j + 1))
                case measure => have := HJ.out; omega
                case rel => exact ⟨j + 1, y :: met', st' ++ [y], by have := HJ.out; omega, by have := HJ.out; omega, by first | rw [W3.out] | simp, HA9, HPT9, HZ⟩
        · obtain rfl : j = ys.length := by omega
          have t9 : ¬ ((ys.length : Int) < (ys.length : Int)) := by omega
          have hz := HZ.out
          rw [List.drop_length] at hz
          unfold dfsIn at hz
          have hdd := HDD.out
          rw [← hz] at hdd
          have HD2 := Aside0.mk (show dfs l tgt nots k met' st' = some r from hdd)
          obtain ⟨A', c', N', rfl, hR, hK, hM, hN⟩ := HA.out.ex
          clear hz hdd hR hK hM hN hlt hgg hj
          go_wp2_with fail
          go_roundg k
          case measure => omega
          case rel => exact ⟨met', st', HA, HD2⟩
end Go.Proofs.YtaaekmcmpjljgaaGreat.Gr
namespace Go.Proofs.YtaaekmcmpjljgaaGreat.Gr
open Go.RowKit Go.Proofs.YtaaekmcmpjljgaaGreatW.PrintWords Go.Proofs.YtaaekmcmpjljgaaGreatW.PrintWords.Kd Go.Proofs.YtaaekmcmpjljgaaGreatW.PrintLast Go.Proofs.YtaaekmcmpjljgaaGreatW.PrintMore Go.Proofs.YtaaekmcmpjljgaaGreat.PMd Go.Proofs.YtaaekmcmpjljgaaGreat.Ln
open Go.Maps
open Go.Sort (grow)
set_option linter.unusedVariables false
set_option linter.unusedSimpArgs false
def ixI (p : Int → Bool) (l : List Int) : Int := match l.findIdx? p with | some i => i | none => -1
theorem ixI_hit {p : Int → Bool} {l : List Int} {k : Nat} (hk : k < l.length) (h : p l[k] = true) (ha : ∀ i, (hi : i < l.length) → i < k → p l[i] = false) : ixI p l = k := by
  have : l.findIdx? p = some k := by
    rw [List.findIdx?_eq_some_iff_getElem]
    exact ⟨hk, h, fun j hj => by rw [ha j (by omega) hj]; decide⟩
  unfold ixI
  rw [this]
theorem ixI_miss {p : Int → Bool} {l : List Int} (ha : ∀ i, (hi : i < l.length) → p l[i] = false) : ixI p l = -1 := by
  have : l.findIdx? p = none := by
    rw [List.findIdx?_eq_none_iff]
    intro x hx
    obtain ⟨i, hi, rfl⟩ := List.mem_iff_getElem.1 hx
    exact ha i hi
  unfold ixI
  rw [this]
theorem ixI_cases (p : Int → Bool) (l : List Int) : (ixI p l = -1 ∧ l.find? p = none) ∨ ∃ (k : Nat) (hk : k < l.length), ixI p l = k ∧ l.find? p = some l[k] := by
  cases h : l.findIdx? p with
  | none =>
    refine .inl ⟨by unfold ixI; rw [h], ?_⟩
    rw [List.findIdx?_eq_none_iff] at h
    rw [List.find?_eq_none]
    intro x hx
    rw [h x hx]; decide
  | some k =>
    have h2 := List.findIdx?_eq_some_iff_getElem.1 h
    obtain ⟨hk, hp, ha⟩ := h2
    refine .inr ⟨k, hk, by unfold ixI; rw [h], ?_⟩
    rw [List.find?_eq_some_iff_getElem]
    exact ⟨hp, k, hk, rfl, fun j hj => by simpa using ha j hj⟩
def PredI (g : Nat) (lb : Array Value) (p : Int → Bool) (l : List Int) (w : World) : Prop :=
  ∀ (W : World) (x : Int), Below w.heap.size w W → x ∈ l → Calls Tryz.prog g (#[.int .i64 x] ++ lb) W fun e w' => e = .returned (.bool (p x)) ∧ Below W.heap.size W w'
set_option maxHeartbeats 8000000 in
set_option maxRecDepth 100000 in
theorem indexFuncI_ (g : Nat) (lb : Array Value) (p : Int → Bool) (eg : ∀ args w, (callFunc g args).run Tryz.prog w = .ok (.enter g args) w) (A : Option Addr) (c : Nat) (l : List Int) (w : World)
    (hr : Kd.C (Kd.int .i64) w A l.length l) (hp : PredI g lb p l w) :
    Calls Tryz.prog 101 #[.slice A l.length c, .func (.func g) #[] lb] w fun e w' => e = .returned (.int .i64 (ixI p l)) ∧ Below w.heap.size w w' := by
  have HR := Aside0.mk hr
  have HP := Aside0.mk hp
  have hl63 := hr.2.1
  clear hr hp
  go_enter Tryz.func101, Tryz.ntmps101
  go_wp2_with fail
  go_loopg [5, 8] l.length (fun gg _ v wr => ∃ k : Nat, k ≤ l.length ∧ l.length - k ≤ gg ∧ v = .int .i64 k ∧ Aside0 (∀ i, (hi : i < l.length) → i < k → p l[i] = false) ∧ Aside0 (Below w.heap.size w wr))
  case atStart => exact ⟨0, by omega, by omega, rfl, ⟨fun i _ hi => by omega⟩, ⟨Below.refl _ _⟩⟩
  case round =>
    obtain ⟨k, hk, hgg, rfl, HA, HB⟩ := hrel
    by_cases hlt : k < l.length
    · obtain ⟨ad, rfl, q0⟩ := Kd.at_int (Kd.C_below HR.out HB.out) (k : Int) (by omega) (by omega)
      have p1 : 0 ≤ (k : Int) := by omega
      have p2 : (k : Int) < l.length := by omega
      rw [Int.toNat_natCast, show rd l (k : Int) = l[k] from by simp [rd, List.getElem?_eq_getElem hlt]] at q0
      have hcall := HP.out wr l[k] HB.out (List.getElem_mem hlt)
      cases hq : p l[k] with
      | true =>
        rw [hq] at hcall
        have HF := Aside0.mk (show ixI p l = (k : Int) from ixI_hit hlt hq HA.out)
        have HX := Aside0.mk hcall
        generalize l[k] = y at q0 HX
        clear hcall hq
        go_wp2_with fail
        refine HX.out.mono ?_
        rintro e w3 ⟨rfl, hb⟩
        have HB3 := Aside0.mk (below_then HB.out HB.out.size hb)
        clear hb
        go_wp2
        go_ret
        exact ⟨congrArg (fun q : Int => Ending.returned (.int .i64 q)) HF.out.symm, HB3.out⟩
      | false =>
        rw [hq] at hcall
        have HA1 := Aside0.mk (show ∀ i, (hi : i < l.length) → i < k + 1 → p l[i] = false from fun i hi h => by
          by_cases e : i = k
          · subst e; exact hq
          · exact HA.out i hi (by omega))
        have HX := Aside0.mk hcall
        generalize l[k] = y at q0 HX
        clear hcall hq HA
        go_wp2_with fail
        refine HX.out.mono ?_
        rintro e w3 ⟨rfl, hb⟩
        have HB3 := Aside0.mk (below_then HB.out HB.out.size hb)
        clear hb
        go_wp2
        go_roundg (l.length - (k + 1))
        case measure => omega
        case rel => exact ⟨k + 1, by omega, by omega, by go_num, HA1, HB3⟩
    · have HF := Aside0.mk (show ixI p l = -1 from ixI_miss (fun i hi => HA.out i hi (by omega)))
      go_wp2
      go_ret
      exact ⟨congrArg (fun q : Int => Ending.returned (.int .i64 q)) HF.out.symm, HB.out⟩
def circGo (l : List Ed) (f : Int) : Nat → Int → List Int → Option (List Int)
  | 0, _, _ => none
  | k + 1, at_, out => if f ∈ nextE at_ l then some out else match (nextE at_ l).find? (fun y => !decide (y ∈ out) && reachB l y f out) with
    | none => some out
    | some y => circGo l f k y (out ++ [y])
def circF (l : List Ed) : List Int := match (nodesE l).find? (fun n => reachB l n n []) with
  | none => []
  | some f => (circGo l f ((nodesE l).length + 1) f [f]).getD []
theorem unm_snoc {ns out : List Int} (hn : ns.Nodup) {y : Int} (hy : y ∈ ns) (hm : y ∉ out) : unm ns (out ++ [y]) + 1 = unm ns out := by
  rw [← unm_push hn hy hm]
  unfold unm
  congr 2
  refine List.filter_congr (fun z _ => ?_)
  simp [or_comm]
theorem circ_total (l : List Ed) (f : Int) : ∀ (k : Nat) (at_ : Int) (out : List Int), unm (nodesE l) out < k → ∃ r, circGo l f k at_ out = some r
  | 0, _, _, h => by omega
  | k + 1, at_, out, h => by
    unfold circGo
    by_cases hf : f ∈ nextE at_ l
    · exact ⟨out, by rw [if_pos hf]⟩
    · rw [if_neg hf]
      cases hy : (nextE at_ l).find? (fun y => !decide (y ∈ out) && reachB l y f out) with
      | none => exact ⟨out, rfl⟩
      | some y =>
        have hm := List.mem_of_find?_eq_some hy
        have hp := List.find?_some hy
        have hno : y ∉ out := by
          intro h2
          simp [h2] at hp
        obtain ⟨r, hr⟩ := circ_total l f k y (out ++ [y]) (by have := unm_snoc (nodes_nodup l) (next_sub hm) hno; omega)
        exact ⟨r, hr⟩
theorem circ_none {l : List Ed} (h : (nodesE l).find? (fun n => reachB l n n []) = none) : circF l = [] := by unfold circF; rw [h]
theorem circ_some {l : List Ed} {f : Int} (h : (nodesE l).find? (fun n => reachB l n n []) = some f) : circGo l f ((nodesE l).length + 1) f [f] = some (circF l) := by
  have hf := List.mem_of_find?_eq_some h
  obtain ⟨r, hr⟩ := circ_total l f ((nodesE l).length + 1) f [f] (by
    have := unm_push (nodes_nodup l) hf (met := []) (by simp)
    rw [unm_nil] at this
    have h2 : unm (nodesE l) [f] + 1 = (nodesE l).length := this
    omega)
  unfold circF
  rw [h]
  simp only [hr, Option.getD_some]
end Go.Proofs.YtaaekmcmpjljgaaGreat.Gr
namespace Go.Proofs.YtaaekmcmpjljgaaGreat.Gr
open Go.RowKit Go.Proofs.YtaaekmcmpjljgaaGreatW.PrintWords Go.Proofs.YtaaekmcmpjljgaaGreatW.PrintWords.Kd Go.Proofs.YtaaekmcmpjljgaaGreatW.PrintLast Go.Proofs.YtaaekmcmpjljgaaGreatW.PrintMore Go.Proofs.YtaaekmcmpjljgaaGreat.PMd Go.Proofs.YtaaekmcmpjljgaaGreat.Ln
open Go.Maps
open Go.Sort (grow)
set_option linter.unusedVariables false
set_option linter.unusedSimpArgs false
theorem circle1_ (n : Int) (b3 m : Nat) (l : List Ed) (w : World) (hc : w.cell? ⟨b3, 0, none⟩ = some (.map (some m))) (hw : IsWeb w m l) (hok : OkE l) (hl : l.length ≤ 400000) (hn : ok64 n) :
    Calls Tryz.prog 102 #[.int .i64 n, .pointer (some ⟨b3, 0, none⟩)] w fun e w' => e = .returned (.bool (reachB l n n [])) ∧ Below w.heap.size w w' := by
  have HR := Aside0.mk (reaches_ m n n none 0 [] l w hw hok hl hn hn (Row.zero _ _ _))
  generalize reachB l n n [] = r at HR
  clear hw hok hl hn
  go_enter Tryz.func102, Tryz.ntmps102
  go_wp2_with fail
  refine HR.out.mono ?_
  rintro e w2 ⟨rfl, hb⟩
  have HB := Aside0.mk hb
  clear hb
  go_wp2
  go_ret
  exact ⟨rfl, HB.out⟩
theorem enters_circle1 : ∀ args w, (callFunc 102 args).run Tryz.prog w = .ok (.enter 102 args) w := ent_of Tryz.func102 (by kernel_rfl) rfl
theorem circle2_ (y f : Int) (b3 b6 b7 m : Nat) (Ao : Option Addr) (co : Nat) (out : List Int) (l : List Ed) (w : World) (hc3 : w.cell? ⟨b3, 0, none⟩ = some (.map (some m))) (hc6 : w.cell? ⟨b6, 0, none⟩ = some (.int .i64 f)) (hc7 : w.cell? ⟨b7, 0, none⟩ = some (.slice Ao out.length co))
    (hw : IsWeb w m l) (hok : OkE l) (hl : l.length ≤ 400000) (hy : ok64 y) (hf : ok64 f) (hR : Row w 3 1 Ao out.length co (ints out)) :
    Calls Tryz.prog 105 #[.int .i64 y, .pointer (some ⟨b7, 0, none⟩), .pointer (some ⟨b3, 0, none⟩), .pointer (some ⟨b6, 0, none⟩)] w fun e w' => e = .returned (.bool (!decide (y ∈ out) && reachB l y f out)) ∧ Below w.heap.size w w' := by
  have HC := Aside0.mk (containsI_ Ao co out y w hR.readsI)
  have HR := Aside0.mk (reaches_ m y f Ao co out l w hw hok hl hy hf hR)
  generalize reachB l y f out = r at HR
  generalize decide (y ∈ out) = d at HC
  clear hw hok hl hy hf hR
  cases d with
  | true =>
    go_enter Tryz.func105, Tryz.ntmps105
    go_wp2_with fail
    refine HC.out.mono ?_
    rintro e w1 ⟨rfl, rfl⟩
    go_wp2_with fail
    go_ret
    exact ⟨rfl, Below.refl _ _⟩
  | false =>
    go_enter Tryz.func105, Tryz.ntmps105
    go_wp2_with fail
    refine HC.out.mono ?_
    rintro e w1 ⟨rfl, rfl⟩
    go_wp2_with fail
    refine HR.out.mono ?_
    rintro e w2 ⟨rfl, hb⟩
    have HB := Aside0.mk hb
    clear hb
    go_wp2
    go_ret
    exact ⟨rfl, HB.out⟩
theorem enters_circle2 : ∀ args w, (callFunc 105 args).run Tryz.prog w = .ok (.enter 105 args) w := ent_of Tryz.func105 (by kernel_rfl) rfl
theorem IsWeb.lookA {w : World} {m : Nat} {l : List Ed} (h : IsWeb w m l) {x : Int} (hx : ok64 x) : ∃ A c, (∀ w', Below w.heap.size w w' → (Instr.lookup 142 (.map (some m)) (.int .i64 x) false).run Tryz.prog w' = .ok (.slice A (nextE x l).length c) w') ∧ Row w 3 1 A (nextE x l).length c (ints (nextE x l)) := by
  obtain ⟨N, f, h1, h2⟩ := h
  obtain ⟨A, c, h3, h4⟩ := h2 x hx
  exact ⟨A, c, fun w' hb => by rw [(h1.move (hb.block m h1.lt)).look hx, h3], h4⟩
def CircAt (wB : World) (b7 : Nat) (l : List Ed) (f : Int) (r : List Int) (k : Nat) (v : Value) (wr : World) : Prop :=
  ∃ (at_ : Int) (out : List Int) (Ao : Option Addr) (co : Nat), v = .int .i64 at_ ∧ wr.heap[b7]? = some (.cells #[.slice Ao out.length co] 29 (0, 0)) ∧ Row wr 3 1 Ao out.length co (ints out) ∧ (∀ k, blk Ao k → wB.heap.size ≤ k) ∧ Below wB.heap.size wB wr ∧
    circGo l f k at_ out = some r ∧ ok64 at_ ∧ out.length + unm (nodesE l) out ≤ (nodesE l).length
set_option maxHeartbeats 16000000 in
set_option maxRecDepth 100000 in
theorem Circle_ (A : Option Addr) (c : Nat) (l : List Ed) (w : World) (hR : RowE w A c l) (hl : l.length ≤ 400000) (hok : OkE l) :
    Calls Tryz.prog 73 #[.slice A l.length c] w (BlPost w (circF l)) := by
  have HR := Aside0.mk hR
  have HL := Aside0.mk hl
  have HOK := Aside0.mk hok
  have HSP := Aside0.mk (spun_ A c l w hR hl hok)
  clear hR hl hok
  go_enter Tryz.func73, Tryz.ntmps73
  go_wp2_with fail
  refine HSP.out.mono ?_
  rintro e w1 ⟨m, rfl, hw1, hb1⟩
  have HW1 := Aside0.mk hw1
  have HB1 := Aside0.mk hb1
  clear hw1 hb1 HSP
  obtain ⟨b3, hb3⟩ : ∃ b, b = w1.heap.size := ⟨_, rfl⟩
  obtain ⟨w2, hw2⟩ : ∃ W, W = w1.alloc (.cells #[.map (some m)] 142) := ⟨_, rfl⟩
  have H3 := Aside0.mk (show w2.heap[b3]? = some (.cells #[.map (some m)] 142 (0, 0)) from by rw [hw2, hb3]; exact blk_new w1 _)
  have HB2 := Aside0.mk (show Below w.heap.size w w2 from by rw [hw2]; exact below_alloc HB1.out _)
  have HW2 := Aside0.mk (show IsWeb w2 m l from by rw [hw2]; exact HW1.out.below (below_alloc (Below.refl _ _) _))
  have HN := Aside0.mk (Nodes_ A c l w2 (Row.below HR.out HB2.out) HL.out)
  go_upto_region 2 with fail
  rw [← hw2, ← hb3]
  clear hw2 hb3 HW1 HB1
  go_wp2_with fail
  refine HN.out.mono ?_
  rintro e w4 ⟨A4, c4, rfl, h4, k4, b4⟩
  have H4 := Aside0.mk h4
  have HB4 := Aside0.mk (below_then HB2.out HB2.out.size b4)
  have HW4 := Aside0.mk (HW2.out.below b4)
  have H34 := Aside0.mk ((b4.block b3 (Array.getElem?_eq_some_iff.1 H3.out).1).trans H3.out)
  have HIX := Aside0.mk (indexFuncI_ 102 #[.pointer (some ⟨b3, 0, none⟩)] (fun n => reachB l n n []) enters_circle1 A4 c4 (nodesE l) w4 h4.readsI (fun W x hb hx => circle1_ x b3 m l W ((blk_cell ((hb.block b3 (Array.getElem?_eq_some_iff.1 H34.out).1).trans H34.out) 0).trans rfl) (HW4.out.below hb) HOK.out HL.out (nodes_ok HOK.out hx)))
  have HNL := Aside0.mk (show (nodesE l).length ≤ 800000 by have := nodes_len l; have := HL.out; omega)
  have HNK := Aside0.mk (show ∀ x ∈ nodesE l, ok64 x from fun x hx => nodes_ok HOK.out hx)
  have HU0 := Aside0.mk (show ∀ f ∈ nodesE l, [f].length + unm (nodesE l) [f] ≤ (nodesE l).length from fun f hf => by
    have := unm_push (nodes_nodup l) hf (met := []) (by simp)
    rw [unm_nil] at this
    have h2 : unm (nodesE l) [f] + 1 = (nodesE l).length := this
    simp only [List.length_cons, List.length_nil]; omega)
  have hcs := ixI_cases (fun n => reachB l n n []) (nodesE l)
  generalize hix : ixI (fun n => reachB l n n []) (nodesE l) = ix at HIX hcs
  clear h4 k4 b4 HN H3 HW2 HB2 hix
  go_wp2_with fail
  refine HIX.out.mono ?_
  rintro e w5 ⟨rfl, hb5⟩
  have HB5 := Aside0.mk (below_then HB4.out HB4.out.size hb5)
  have H35 := Aside0.mk ((hb5.block b3 (Array.getElem?_eq_some_iff.1 H34.out).1).trans H34.out)
  have HW5 := Aside0.mk (HW4.out.below hb5)
  have H45 := Aside0.mk (H4.out.below hb5)
  clear hb5 HIX
  rcases hcs with ⟨rfl, hf⟩ | ⟨k, hk, rfl, hf⟩
  · have HF := Aside0.mk (circ_none hf)
    clear hf
    go_wp2_with fail
    go_ret
    rw [HF.out]
    exact ⟨none, 0, rfl, Row.zero _ _ _, fun k h => (blk_none h).elim, HB5.out⟩
  · obtain ⟨ad, hA, q0⟩ := Kd.at_int H45.out.readsI (k : Int) (by omega) (by omega)
    subst hA
    rw [Int.toNat_natCast, show rd (nodesE l) (k : Int) = (nodesE l)[k] from by simp [rd, List.getElem?_eq_getElem hk]] at q0
    have hfn : (nodesE l)[k] ∈ nodesE l := List.getElem_mem hk
    have p1 : 0 ≤ (k : Int) := by omega
    have p2 : (k : Int) < (nodesE l).length := by omega
    have p3 : ¬ ((k : Int) < 0) := by omega
    have p4 : (nodesE l).length ≤ 9223372036854775807 := by have := HNL.out; omega
    have hcf := circ_some hf
    generalize (nodesE l)[k] = f at q0 hfn hcf
    have HCF := Aside0.mk hcf
    have HFN := Aside0.mk hfn
    have HFK := Aside0.mk (HNK.out f hfn)
    have HU := Aside0.mk (HU0.out f hfn)
    have HOLE := Aside0.mk hk
    clear hf hfn hcf hk
    obtain ⟨b6, hb6⟩ : ∃ b, b = w5.heap.size := ⟨_, rfl⟩
    obtain ⟨w6, hw6⟩ : ∃ W, W = w5.alloc (.cells #[.int .i64 f] 3) := ⟨_, rfl⟩
    have H6 := Aside0.mk (show w6.heap[b6]? = some (.cells #[.int .i64 f] 3 (0, 0)) from by rw [hw6, hb6]; exact blk_new w5 _)
    have HB6 := Aside0.mk (show Below w5.heap.size w5 w6 from by rw [hw6]; exact below_alloc (Below.refl _ _) _)
    have z6 : w6.cell? ⟨b6, 0, none⟩ = some (.int .i64 f) := (blk_cell H6.out 0).trans rfl
    go_upto_region 7 with fail
    rw [← hw6, ← hb6]
    have HS6 := Aside0.mk (show b6 < w6.heap.size from (Array.getElem?_eq_some_iff.1 H6.out).1)
    clear hw6 hb6 q0
    have HB6w := Aside0.mk (below_then HB5.out HB5.out.size HB6.out)
    have H36 := Aside0.mk ((HB6.out.block b3 (Array.getElem?_eq_some_iff.1 H35.out).1).trans H35.out)
    have HW6 := Aside0.mk (HW5.out.below HB6.out)
    obtain ⟨b7, hb7⟩ : ∃ b, b = w6.heap.size + 1 := ⟨_, rfl⟩
    obtain ⟨w7, hw7⟩ : ∃ W, W = (w6.alloc (.cells #[.int .i64 f] 3)).alloc (.cells #[.slice (some ⟨w6.heap.size, 0, none⟩) 1 1] 29) := ⟨_, rfl⟩
    have HCA := Aside0.mk (show CircAt w6 b7 l f (circF l) ((nodesE l).length + 1) (.int .i64 f) w7 from by
      refine ⟨f, [f], some ⟨w6.heap.size, 0, none⟩, 1, rfl, ?_, ?_, ?_, ?_, HCF.out, HFK.out, HU.out⟩
      · rw [hw7, hb7]
        have := blk_new (w6.alloc (.cells #[.int .i64 f] 3)) (.cells #[.slice (some ⟨w6.heap.size, 0, none⟩) 1 1] 29)
        rw [show (w6.alloc (.cells #[.int .i64 f] 3)).heap.size = w6.heap.size + 1 by simp] at this
        exact this
      · rw [hw7]
        refine Row.alloc ⟨by simp [ints], by simp, by unfold maxLen; simp, .inr ⟨w6.heap.size, 0, _, rfl, blk_new w6 _, by simp, by simp [ints]⟩⟩ _
      · rintro k ⟨a, h1, rfl⟩; cases h1; exact Nat.le_refl _
      · rw [hw7]; exact below_alloc (below_alloc (Below.refl _ _) _) _)
    have z7 : w7.cell? ⟨b6, 0, none⟩ = some (.int .i64 f) := by rw [hw7]; exact cell_al (cell_al z6 _) _
    go_upto_region 8 with fail
    rw [← hw7, ← hb7]
    have H6k := Aside0.mk z6
    have HB7N := Aside0.mk (show w6.heap.size ≤ b7 by omega)
    clear hw7 hb7 z6
    go_wp2_with fail
    clear z7
    go_loopg [8] ((nodesE l).length + 1) (fun gg v wr => Aside0 (CircAt w6 b7 l f (circF l) gg v wr))
    case atStart => exact HCA
    case round =>
      obtain ⟨at_, out, Ao, co, rfl, h7, hR, hK, hb, hgo, hka, hcnt⟩ := hrel.out
      obtain ⟨k', hgk⟩ : ∃ k', gk = k' + 1 := by
        cases gk with
        | zero => simp [circGo] at hgo
        | succ k' => exact ⟨k', rfl⟩
      subst hgk
      have z3 : wr.cell? ⟨b3, 0, none⟩ = some (.map (some m)) := (blk_cell ((hb.block b3 (Array.getElem?_eq_some_iff.1 H36.out).1).trans H36.out) 0).trans rfl
      have z6 : wr.cell? ⟨b6, 0, none⟩ = some (.int .i64 f) := (hb.cell HS6.out).trans H6k.out
      have z7 : wr.cell? ⟨b7, 0, none⟩ = some (.slice Ao out.length co) := (blk_cell h7 0).trans rfl
      obtain ⟨Ax, cx, hlk, hRx⟩ := HW6.out.lookA hka
      have HLK := Aside0.mk hlk
      have hlook := hlk wr hb
      have HRx := Aside0.mk (hRx.below hb)
      have HC := Aside0.mk (containsI_ Ax cx (nextE at_ l) f wr HRx.out.readsI)
      have H7 := Aside0.mk h7
      have HRo := Aside0.mk hR
      have HKo := Aside0.mk hK
      have HBo := Aside0.mk hb
      have HGO := Aside0.mk hgo
      have HKA := Aside0.mk hka
      have HCN := Aside0.mk hcnt
      clear hrel h7 hR hK hb hgo hka hcnt hRx HCA hlk
      by_cases hf : f ∈ nextE at_ l
      · have hgo := HGO.out
        unfold circGo at hgo
        rw [if_pos hf] at hgo
        injection hgo with hgo
        rw [decide_eq_true hf] at HC
        have HFIN := Aside0.mk hgo
        clear hf hgo
        go_wp2_with fail
        refine HC.out.mono ?_
        rintro e w9 ⟨rfl, rfl⟩
        go_wp2_with fail
        go_ret
        rw [← HFIN.out]
        exact ⟨Ao, co, rfl, HRo.out, fun k h => Nat.le_trans HB6w.out.size (HKo.out k h), below_then HB6w.out HB6w.out.size HBo.out⟩
      · have hgo := HGO.out
        unfold circGo at hgo
        rw [if_neg hf] at hgo
        rw [decide_eq_false hf] at HC
        have HIX := Aside0.mk (indexFuncI_ 105 #[.pointer (some ⟨b7, 0, none⟩), .pointer (some ⟨b3, 0, none⟩), .pointer (some ⟨b6, 0, none⟩)] (fun y => !decide (y ∈ out) && reachB l y f out) enters_circle2 Ax cx (nextE at_ l) wr HRx.out.readsI
          (fun W x hB hx => circle2_ x f b3 b6 b7 m Ao co out l W ((hB.cell (Nat.lt_of_lt_of_le (Array.getElem?_eq_some_iff.1 H36.out).1 HBo.out.size)).trans z3) ((hB.cell (Nat.lt_of_lt_of_le HS6.out HBo.out.size)).trans z6) ((hB.cell (Array.getElem?_eq_some_iff.1 H7.out).1).trans z7) (HW6.out.below (below_then HBo.out HBo.out.size hB)) HOK.out HL.out (nodes_ok HOK.out (next_sub hx)) HFK.out (HRo.out.below hB)))
        have hcs := ixI_cases (fun y => !decide (y ∈ out) && reachB l y f out) (nextE at_ l)
        generalize hix : ixI (fun y => !decide (y ∈ out) && reachB l y f out) (nextE at_ l) = ix at HIX hcs
        clear hix hf
        rcases hcs with ⟨rfl, hf⟩ | ⟨j, hj, rfl, hf⟩
        · rw [hf] at hgo
          injection hgo with hgo
          have HFIN := Aside0.mk hgo
          clear hf hgo
          go_wp2_with fail
          refine HC.out.mono ?_
          rintro e w9 ⟨rfl, rfl⟩
          go_wp2_with fail
          refine HIX.out.mono ?_
          rintro e w10 ⟨rfl, hb10⟩
          have HB10 := Aside0.mk hb10
          have z7' := (hb10.cell (Array.getElem?_eq_some_iff.1 H7.out).1).trans z7
          clear hb10 z3 z6 z7 hlook
          go_wp2_with fail
          go_ret
          rw [← HFIN.out]
          exact ⟨Ao, co, rfl, HRo.out.below HB10.out, fun k h => Nat.le_trans HB6w.out.size (HKo.out k h), below_then HB6w.out HB6w.out.size (below_then HBo.out HBo.out.size HB10.out)⟩
        · rw [hf] at hgo
          have hp := List.find?_some hf
          simp only at hgo hp
          have hym : (nextE at_ l)[j] ∈ nextE at_ l := List.getElem_mem hj
          have HRD := Aside0.mk (show rd (nextE at_ l) (j : Int) = (nextE at_ l)[j] from by simp [rd, List.getElem?_eq_getElem hj])
          have HJJ := Aside0.mk hj
          generalize (nextE at_ l)[j] = y at hgo hp hym HRD
          have HGO2 := Aside0.mk hgo
          have hyo : y ∉ out := fun h2 => by simp [h2] at hp
          have HUS := Aside0.mk (unm_snoc (nodes_nodup l) (next_sub hym) hyo)
          have HYK := Aside0.mk (nodes_ok HOK.out (next_sub hym))
          have HNX := Aside0.mk (show (nextE at_ l).length ≤ 400000 by have := next_len at_ l; have := HL.out; omega)
          clear hf hgo hp hym hyo hj
          go_wp2_with fail
          refine HC.out.mono ?_
          rintro e w9 ⟨rfl, rfl⟩
          go_wp2_with fail
          refine HIX.out.mono ?_
          rintro e w10 ⟨rfl, hb10⟩
          have HB10 := Aside0.mk hb10
          have H710 := Aside0.mk ((hb10.block b7 (Array.getElem?_eq_some_iff.1 H7.out).1).trans H7.out)
          have z3' := (hb10.cell (Nat.lt_of_lt_of_le (Array.getElem?_eq_some_iff.1 H36.out).1 HBo.out.size)).trans z3
          have z7' := (hb10.cell (Array.getElem?_eq_some_iff.1 H7.out).1).trans z7
          have HB10w := Aside0.mk (below_then HBo.out HBo.out.size hb10)
          have hlook' := HLK.out w10 HB10w.out
          obtain ⟨adx, hAx, q0⟩ := Kd.at_int (HRx.out.below hb10).readsI (j : Int) (by omega) (by have := HJJ.out; omega)
          subst hAx
          rw [Int.toNat_natCast, HRD.out] at q0
          have p1 : 0 ≤ (j : Int) := by omega
          have p2 : (j : Int) < (nextE at_ l).length := by have := HJJ.out; omega
          have p3 : ¬ ((j : Int) < 0) := by omega
          have p4 : (nextE at_ l).length ≤ 9223372036854775807 := by have := HNX.out; omega
          have HRo10 := Aside0.mk (HRo.out.below hb10)
          have HSLO := Aside0.mk (show out.length ≤ 800000 by have h1 := HCN.out; have h2 := HNL.out; omega)
          clear hb10 z3 z6 z7 hlook
          have HR11 := Aside0.mk (HRo10.out.alloc (.cells #[.int .i64 y] 3))
          have HBS := Aside0.mk (blk_new w10 (.cells #[.int .i64 y] 3))
          have HB11 := Aside0.mk (below_alloc HB10w.out (.cells #[.int .i64 y] 3))
          have H711 := Aside0.mk (((below_alloc (Below.refl w10.heap.size w10) (.cells #[.int .i64 y] 3)).block b7 (Array.getElem?_eq_some_iff.1 H710.out).1).trans H710.out)
          go_wp2_with (first
            | (at_builtin; refine wpList_append_info rfl _ _ 29 rfl 3 _ 1 8 Tryz.underlying29 info3 rfl Ao out.length co (ints out) (by simp [Act.eval, Act.put]) HR11.out ⟨w10.heap.size, 0, none⟩ 1 1 [.int .i64 y] (by simp [Act.eval, Act.put]) rfl (Ln.one_at HBS.out) (Ln.one_one y) (by have := HSLO.out; unfold maxLen; omega) (by have := HSLO.out; omega) ?_; intro A9 c9 w11 hR9 hG9 hk9
               have HR9 := Aside0.mk hR9
               have HG9 := Aside0.mk hG9
               have HK9 := Aside0.mk hk9
               clear hR9 hG9 hk9
               have h711 := (HG9.out.block b7 (Array.getElem?_eq_some_iff.1 H711.out).1 (fun hk => by
                 obtain ⟨cur, hc⟩ := HR11.out.typed hk
                 rw [H711.out] at hc
                 injection hc with hc
                 injection hc with _ hc
                 exact absurd hc (by decide))).trans H711.out
               have HN11 := Aside0.mk h711
               have z11 : w11.cell? ⟨b7, 0, none⟩ = some (.slice Ao out.length co) := (blk_cell h711 0).trans rfl
               have f11 : w11.frozen? ⟨b7, 0, none⟩ = false := blk_frozen h711 0
               clear h711)
            | fail)
          clear z11 f11
          have HC13 := Aside0.mk (show CircAt w6 b7 l f (circF l) k' (.int .i64 y) (w11.setCell ⟨b7, 0, none⟩ (.slice A9 (out.length + 1) c9)) from by
            refine ⟨y, out ++ [y], A9, c9, rfl, ?_, ?_, fun k h => (HK9.out k h).elim (HKo.out k) (fun h2 => Nat.le_trans HB11.out.size h2), ?_, HGO2.out, HYK.out, ?_⟩
            · have := heap_setCell_same w11 b7 0 _ _ (.slice A9 (out.length + 1) c9) HN11.out
              simpa using this
            · rw [List.length_append, ← ints_snoc]
              refine HR9.out.set (p := ⟨b7, 0, none⟩) (fun hk => ?_) _
              obtain ⟨cur, hc⟩ := HR9.out.typed hk
              have hc2 : w11.heap[b7]? = _ := hc
              rw [HN11.out] at hc2
              injection hc2 with hc2
              injection hc2 with _ hc2
              exact absurd hc2 (by decide)
            · exact (HG9.out.to_below HB11.out HB11.out.size HKo.out).setCell (p := ⟨b7, 0, none⟩) HB7N.out _
            · have h1 := HCN.out; have h2 := HUS.out; simp; omega)
          go_roundg k'
          case measure => omega
          case rel => exact HC13
end Go.Proofs.YtaaekmcmpjljgaaGreat.Gr
namespace Go.Proofs.YtaaekmcmpjljgaaGreat.Gr
open Go.RowKit Go.Proofs.YtaaekmcmpjljgaaGreatW.PrintWords Go.Proofs.YtaaekmcmpjljgaaGreatW.PrintWords.Kd Go.Proofs.YtaaekmcmpjljgaaGreatW.PrintLast Go.Proofs.YtaaekmcmpjljgaaGreatW.PrintMore Go.Proofs.YtaaekmcmpjljgaaGreat.PMd Go.Proofs.YtaaekmcmpjljgaaGreat.Ln
open Go.Maps
open Go.Sort (grow)
set_option linter.unusedVariables false
set_option linter.unusedSimpArgs false
def cmpF (a b : Int) : Int := if a < b then -1 else if b < a then 1 else 0
def orF (l : List Int) : Int := (l.find? (fun x => decide (x ≠ 0))).getD 0
def ofF (d : List Int) (n : Int) : Int := if 0 ≤ n ∧ n < d.length then rd d n else 0
def ageF (d : List Int) (a b : Int) : Int := orF [cmpF (ofF d a) (ofF d b), cmpF a b]
set_option maxRecDepth 100000 in
theorem isNaN_ (a : Int) (w : World) : Calls Tryz.prog 116 #[.int .i64 a] w fun e w' => e = .returned (.bool false) ∧ w' = w := by
  go_enter Tryz.func116, Tryz.ntmps116
  have t : (a == a) = true := by simp
  go_wp2_with fail
  go_ret
  first | exact ⟨rfl, rfl⟩ | exact ⟨by simp, rfl⟩
set_option maxHeartbeats 4000000 in
set_option maxRecDepth 100000 in
theorem compare_ (a b : Int) (w : World) : Calls Tryz.prog 98 #[.int .i64 a, .int .i64 b] w fun e w' => e = .returned (.int .i64 (cmpF a b)) ∧ w' = w := by
  have HA := Aside0.mk (isNaN_ a w)
  have HB := Aside0.mk (isNaN_ b w)
  generalize hr : cmpF a b = r
  unfold cmpF at hr
  by_cases h1 : a < b
  · rw [if_pos h1] at hr
    subst hr
    go_enter Tryz.func98, Tryz.ntmps98
    go_wp2_with fail
    refine HA.out.mono ?_
    rintro e w1 ⟨rfl, rfl⟩
    go_wp2_with fail
    refine HB.out.mono ?_
    rintro e w2 ⟨rfl, rfl⟩
    go_wp2_with fail
    go_ret
    exact ⟨rfl, rfl⟩
  · rw [if_neg h1] at hr
    by_cases h2 : b < a
    · rw [if_pos h2] at hr
      subst hr
      go_enter Tryz.func98, Tryz.ntmps98
      go_wp2_with fail
      refine HA.out.mono ?_
      rintro e w1 ⟨rfl, rfl⟩
      go_wp2_with fail
      refine HB.out.mono ?_
      rintro e w2 ⟨rfl, rfl⟩
      go_wp2_with fail
      go_ret
      exact ⟨rfl, rfl⟩
    · rw [if_neg h2] at hr
      subst hr
      go_enter Tryz.func98, Tryz.ntmps98
      go_wp2_with fail
      refine HA.out.mono ?_
      rintro e w1 ⟨rfl, rfl⟩
      go_wp2_with fail
      refine HB.out.mono ?_
      rintro e w2 ⟨rfl, rfl⟩
      go_wp2_with fail
      go_ret
      exact ⟨rfl, rfl⟩
set_option maxHeartbeats 4000000 in
set_option maxRecDepth 100000 in
theorem or_ (A : Option Addr) (c : Nat) (l : List Int) (w : World) (hr : Kd.C (Kd.int .i64) w A l.length l) : Calls Tryz.prog 97 #[.slice A l.length c] w fun e w' => e = .returned (.int .i64 (orF l)) ∧ w' = w := by
  have HR := Aside0.mk hr
  have hl63 := hr.2.1
  clear hr
  go_enter Tryz.func97, Tryz.ntmps97
  go_wp2_with fail
  go_loopg [5, 8] l.length (fun gg _ v wr => ∃ k : Nat, k ≤ l.length ∧ l.length - k ≤ gg ∧ v = .int .i64 k ∧ Aside0 (orF (l.drop k) = orF l) ∧ wr = w)
  case atStart => exact ⟨0, by omega, by omega, rfl, ⟨rfl⟩, rfl⟩
  case round =>
    obtain ⟨k, hk, hgg, rfl, HA, rfl⟩ := hrel
    by_cases hlt : k < l.length
    · obtain ⟨ad, rfl, q0⟩ := Kd.at_int HR.out (k : Int) (by omega) (by omega)
      have p1 : 0 ≤ (k : Int) := by omega
      have p2 : (k : Int) < l.length := by omega
      rw [Int.toNat_natCast, show rd l (k : Int) = l[k] from by simp [rd, List.getElem?_eq_getElem hlt]] at q0
      have hd := HA.out
      rw [List.drop_eq_getElem_cons hlt] at hd
      generalize l[k] = y at q0 hd
      by_cases h0 : y = 0
      · have HF := Aside0.mk (show orF (l.drop (k + 1)) = orF l from by rw [← hd]; simp [orF, List.find?_cons, h0])
        have b1 : (y == 0) = true := by simp [h0]
        clear hd h0 HA
        go_wp2_with fail
        go_roundg (l.length - (k + 1))
        case measure => omega
        case rel => exact ⟨k + 1, by omega, by omega, by go_num, HF, rfl⟩
      · have HF := Aside0.mk (show y = orF l from by rw [← hd]; simp [orF, List.find?_cons, h0])
        have b1 : (y == 0) = false := by simp [h0]
        clear hd h0 HA
        go_wp2_with fail
        go_ret
        exact ⟨congrArg (fun q : Int => Ending.returned (.int .i64 q)) HF.out, rfl⟩
    · have HF := Aside0.mk (show (0 : Int) = orF l from by rw [← HA.out, List.drop_eq_nil_of_le (by omega)]; rfl)
      go_wp2_with fail
      go_ret
      exact ⟨congrArg (fun q : Int => Ending.returned (.int .i64 q)) HF.out, rfl⟩
set_option maxHeartbeats 4000000 in
set_option maxRecDepth 100000 in
theorem of_ (A : Option Addr) (c : Nat) (d : List Int) (n : Int) (w : World) (hr : Kd.C (Kd.int .i64) w A d.length d) (hn : ok64 n) : Calls Tryz.prog 99 #[.slice A d.length c, .int .i64 n] w fun e w' => e = .returned (.int .i64 (ofF d n)) ∧ w' = w := by
  have hl63 := hr.2.1
  by_cases h0 : 0 ≤ n
  · by_cases h1 : n < d.length
    · obtain ⟨ad, rfl, q0⟩ := Kd.at_int hr n h0 (by simpa using h1)
      have HF := Aside0.mk (show rd d n = ofF d n from by unfold ofF; rw [if_pos ⟨h0, h1⟩])
      clear hr
      generalize rd d n = y at q0 HF
      go_enter Tryz.func99, Tryz.ntmps99
      go_wp2_with fail
      go_ret
      exact ⟨congrArg (fun q : Int => Ending.returned (.int .i64 q)) HF.out, rfl⟩
    · have HF := Aside0.mk (show 0 = ofF d n from by unfold ofF; rw [if_neg (fun h => h1 h.2)])
      clear hr
      go_enter Tryz.func99, Tryz.ntmps99
      go_wp2_with fail
      go_ret
      exact ⟨congrArg (fun q : Int => Ending.returned (.int .i64 q)) HF.out, rfl⟩
  · have HF := Aside0.mk (show 0 = ofF d n from by unfold ofF; rw [if_neg (fun h => h0 h.1)])
    clear hr
    go_enter Tryz.func99, Tryz.ntmps99
    go_wp2_with fail
    go_ret
    exact ⟨congrArg (fun q : Int => Ending.returned (.int .i64 q)) HF.out, rfl⟩
theorem two_row (w : World) (x y : Int) : Row (w.alloc (.cells #[.int .i64 x, .int .i64 y] 3)) 3 1 (some ⟨w.heap.size, 0, none⟩) 2 2 (ints [x, y]) :=
  ⟨by simp [ints], by simp, by unfold maxLen; simp, .inr ⟨w.heap.size, 0, _, rfl, blk_new w _, by simp, by simp [ints]⟩⟩
set_option maxHeartbeats 4000000 in
set_option maxRecDepth 100000 in
theorem age_ (A : Option Addr) (c : Nat) (d : List Int) (a b : Int) (w : World) (hr : Kd.C (Kd.int .i64) w A d.length d) (ha : ok64 a) (hb : ok64 b) :
    Calls Tryz.prog 69 #[.slice A d.length c, .int .i64 a, .int .i64 b] w fun e w' => e = .returned (.int .i64 (ageF d a b)) ∧ Below w.heap.size w w' := by
  have H1 := Aside0.mk (of_ A c d a w hr ha)
  have H2 := Aside0.mk (of_ A c d b w hr hb)
  have H3 := Aside0.mk (compare_ (ofF d a) (ofF d b) w)
  have H4 := Aside0.mk (compare_ a b w)
  have H5 := Aside0.mk (or_ (some ⟨w.heap.size, 0, none⟩) 2 [cmpF (ofF d a) (ofF d b), cmpF a b] (w.alloc (.cells #[.int .i64 (cmpF (ofF d a) (ofF d b)), .int .i64 (cmpF a b)] 3)) (two_row w _ _).readsI)
  have HF := Aside0.mk (show orF [cmpF (ofF d a) (ofF d b), cmpF a b] = ageF d a b from rfl)
  clear hr
  generalize ofF d a = x at H1 H3 H5 HF
  generalize ofF d b = y at H2 H3 H5 HF
  generalize cmpF x y = p at H3 H5 HF
  generalize cmpF a b = q at H4 H5 HF
  go_enter Tryz.func69, Tryz.ntmps69
  go_wp2_with fail
  refine H1.out.mono ?_
  rintro e w1 ⟨rfl, rfl⟩
  go_wp2_with fail
  refine H2.out.mono ?_
  rintro e w2 ⟨rfl, rfl⟩
  go_wp2_with fail
  refine H3.out.mono ?_
  rintro e w3 ⟨rfl, rfl⟩
  go_wp2_with fail
  refine H4.out.mono ?_
  rintro e w4 ⟨rfl, rfl⟩
  go_wp2_with fail
  refine H5.out.mono ?_
  rintro e w5 ⟨rfl, rfl⟩
  go_wp2_with fail
  go_ret
  exact ⟨congrArg (fun q : Int => Ending.returned (.int .i64 q)) HF.out, below_alloc (Below.refl _ _) _⟩
theorem cellLt {w : World} {a : Addr} {v : Value} (h : w.cell? a = some v) : a.block < w.heap.size := by
  rcases Nat.lt_or_ge a.block w.heap.size with h' | h'
  · exact h'
  · simp [World.cell?, Array.getElem?_eq_none h'] at h
def maxGo (f : Int → Int → Int) : Int → List Int → Int
  | m, [] => m
  | m, x :: l => maxGo f (if 0 < f x m then x else m) l
def maxI (f : Int → Int → Int) (l : List Int) : Int := match l with | [] => 0 | x :: l => maxGo f x l
def CmpI (g : Nat) (la : Array Value) (f : Int → Int → Int) (l : List Int) (w : World) : Prop :=
  ∀ (W : World) (x y : Int), Below w.heap.size w W → x ∈ l → y ∈ l → Calls Tryz.prog g (la ++ #[.int .i64 x, .int .i64 y]) W fun e w' => e = .returned (.int .i64 (f x y)) ∧ Below W.heap.size W w'
set_option maxHeartbeats 8000000 in
set_option maxRecDepth 100000 in
theorem maxFunc_ (g : Nat) (a0 : Value) (f : Int → Int → Int) (eg : ∀ args w, (callFunc g args).run Tryz.prog w = .ok (.enter g args) w) (A : Option Addr) (c : Nat) (x0 : Int) (l0 : List Int) (w : World)
    (hr : Kd.C (Kd.int .i64) w A (x0 :: l0).length (x0 :: l0)) (hp : CmpI g #[a0] f (x0 :: l0) w) :
    Calls Tryz.prog 75 #[.slice A (x0 :: l0).length c, .func (.func g) #[a0] #[]] w fun e w' => e = .returned (.int .i64 (maxI f (x0 :: l0))) ∧ Below w.heap.size w w' := by
  obtain ⟨l, hl⟩ : ∃ l, l = x0 :: l0 := ⟨_, rfl⟩
  have hmx : maxGo f x0 (l.drop 1) = maxI f l := by rw [hl]; rfl
  rw [← hl] at hr hp ⊢
  have hx0 : x0 ∈ l := by rw [hl]; simp
  have hlen : 1 ≤ l.length := by rw [hl]; simp
  have hrd : rd l 0 = x0 := by rw [hl]; rfl
  clear hl
  have HR := Aside0.mk hr
  have HP := Aside0.mk hp
  have HM0 := Aside0.mk (And.intro hmx hx0)
  have hl63 := hr.2.1
  obtain ⟨ad, hA, q0⟩ := Kd.at_int hr (0 : Int) (by omega) (by omega)
  subst hA
  rw [show (0 : Int).toNat = 0 from rfl, hrd, show ad.add 0 = ad from by cases ad; simp [Addr.add]] at q0
  have p0 : ¬ ((l.length : Int) < 1) := by omega
  have p01 : (0 : Int) < (l.length : Int) := by omega
  clear hr hp hmx hx0 hrd
  go_enter Tryz.func75, Tryz.ntmps75
  go_wp2_with fail
  go_loopg [5, 6] l.length (fun gg m v wr => ∃ (k : Nat) (y : Int), k ≤ l.length ∧ 1 ≤ k ∧ l.length - k ≤ gg ∧ v = .int .i64 k ∧ m = .int .i64 y ∧ Aside0 (maxGo f y (l.drop k) = maxI f l ∧ y ∈ l) ∧ Aside0 (Below w.heap.size w wr))
  case atStart => exact ⟨1, x0, by omega, by omega, by omega, rfl, rfl, HM0, ⟨Below.refl _ _⟩⟩
  case round =>
    obtain ⟨k, m, hk, hk1, hgg, rfl, rfl, HA, HB⟩ := hrel
    clear q0
    by_cases hlt : k < l.length
    · obtain ⟨adx, e4, q0⟩ := Kd.at_int (Kd.C_below HR.out HB.out) (k : Int) (by omega) (by omega)
      cases e4
      have p1 : 0 ≤ (k : Int) := by omega
      have p2 : (k : Int) < l.length := by omega
      rw [Int.toNat_natCast, show rd l (k : Int) = l[k] from by simp [rd, List.getElem?_eq_getElem hlt]] at q0
      have hym : l[k] ∈ l := List.getElem_mem hlt
      have hcall := HP.out wr l[k] m HB.out hym HA.out.2
      have hd := HA.out.1
      rw [List.drop_eq_getElem_cons hlt] at hd
      have HMM := Aside0.mk HA.out.2
      generalize l[k] = y at q0 hcall hd hym
      have HY := Aside0.mk hym
      by_cases hq : 0 < f y m
      · have HF := Aside0.mk (show maxGo f y (l.drop (k + 1)) = maxI f l ∧ y ∈ l from ⟨by rw [← hd]; simp only [maxGo, if_pos hq], hym⟩)
        generalize f y m = z at hcall hq
        have HX := Aside0.mk hcall
        clear hcall hd HA hym
        go_wp2_with fail
        refine HX.out.mono ?_
        rintro e w3 ⟨rfl, hb⟩
        have HB3 := Aside0.mk (below_then HB.out HB.out.size hb)
        have q1 : w3.cell? (ad.add k) = some (.int .i64 y) := (hb.cell (cellLt q0)).trans q0
        clear hb q0
        go_wp2_with fail
        go_roundg (l.length - (k + 1))
        case measure => omega
        case rel => exact ⟨k + 1, y, by omega, by omega, by omega, by go_num, rfl, HF, HB3⟩
      · have HF := Aside0.mk (show maxGo f m (l.drop (k + 1)) = maxI f l ∧ m ∈ l from ⟨by rw [← hd]; simp only [maxGo, if_neg hq], HMM.out⟩)
        generalize f y m = z at hcall hq
        have HX := Aside0.mk hcall
        clear hcall hd HA hym
        go_wp2_with fail
        refine HX.out.mono ?_
        rintro e w3 ⟨rfl, hb⟩
        have HB3 := Aside0.mk (below_then HB.out HB.out.size hb)
        clear hb q0
        go_wp2_with fail
        go_roundg (l.length - (k + 1))
        case measure => omega
        case rel => exact ⟨k + 1, m, by omega, by omega, by omega, by go_num, rfl, HF, HB3⟩
    · have HF := Aside0.mk (show m = maxI f l from by have := HA.out.1; rw [List.drop_eq_nil_of_le (by omega)] at this; exact this)
      go_wp2_with fail
      go_ret
      exact ⟨congrArg (fun q : Int => Ending.returned (.int .i64 q)) HF.out, HB.out⟩
end Go.Proofs.YtaaekmcmpjljgaaGreat.Gr
namespace Go.Proofs.YtaaekmcmpjljgaaGreat.Gr
open Go.RowKit Go.Proofs.YtaaekmcmpjljgaaGreatW.PrintWords Go.Proofs.YtaaekmcmpjljgaaGreatW.PrintWords.Kd Go.Proofs.YtaaekmcmpjljgaaGreatW.PrintLast Go.Proofs.YtaaekmcmpjljgaaGreatW.PrintMore Go.Proofs.YtaaekmcmpjljgaaGreat.PMd Go.Proofs.YtaaekmcmpjljgaaGreat.Ln
open Go.Maps
open Go.Sort (grow)
set_option linter.unusedVariables false
set_option linter.unusedSimpArgs false
theorem maxGo_mem (f : Int → Int → Int) : ∀ (l : List Int) (m : Int), maxGo f m l = m ∨ maxGo f m l ∈ l
  | [], m => .inl rfl
  | x :: l, m => by
    unfold maxGo
    by_cases h : 0 < f x m
    · rw [if_pos h]
      rcases maxGo_mem f l x with e | e
      · exact .inr (by rw [e]; simp)
      · exact .inr (by simp [e])
    · rw [if_neg h]
      rcases maxGo_mem f l m with e | e
      · exact .inl e
      · exact .inr (by simp [e])
theorem maxI_mem (f : Int → Int → Int) (x : Int) (l : List Int) : maxI f (x :: l) ∈ x :: l := by
  unfold maxI
  rcases maxGo_mem f l x with e | e
  · simp only [e]; simp
  · simp [e]
theorem circGo_sub (l : List Ed) (f : Int) : ∀ (k : Nat) (at_ : Int) (out r : List Int), circGo l f k at_ out = some r → (∀ x ∈ out, x ∈ nodesE l) → ∀ x ∈ r, x ∈ nodesE l
  | 0, _, _, r, h, _ => by simp [circGo] at h
  | k + 1, at_, out, r, h, ho => by
    unfold circGo at h
    by_cases hf : f ∈ nextE at_ l
    · rw [if_pos hf] at h
      injection h with h
      rw [← h]; exact ho
    · rw [if_neg hf] at h
      cases hy : (nextE at_ l).find? (fun y => !decide (y ∈ out) && reachB l y f out) with
      | none =>
        rw [hy] at h
        simp only at h
        injection h with h
        rw [← h]; exact ho
      | some y =>
        rw [hy] at h
        simp only at h
        refine circGo_sub l f k y (out ++ [y]) r h (fun x hx => ?_)
        rcases List.mem_append.1 hx with h1 | h1
        · exact ho x h1
        · simp at h1; subst h1; exact next_sub (List.mem_of_find?_eq_some hy)
theorem circ_sub {l : List Ed} : ∀ x ∈ circF l, x ∈ nodesE l := by
  cases h : (nodesE l).find? (fun n => reachB l n n []) with
  | none => rw [circ_none h]; simp
  | some f =>
    have hf := List.mem_of_find?_eq_some h
    exact circGo_sub l f _ f [f] _ (circ_some h) (fun x hx => by simp at hx; subst hx; exact hf)
theorem without_nodes {gone : List Int} {l : List Ed} {x : Int} (h : x ∈ nodesE (withoutE gone l)) : x ∈ nodesE l ∧ x ∉ gone := by
  obtain ⟨e, he, hx⟩ := mem_nodes.1 h
  unfold withoutE at he
  rw [List.mem_filter] at he
  have h2 : decide (e.1 ∈ gone) = false ∧ decide (e.2 ∈ gone) = false := by
    have := he.2
    unfold namesE at this
    simpa using this
  refine ⟨mem_nodes.2 ⟨e, he.1, hx⟩, ?_⟩
  rcases hx with rfl | rfl
  · exact of_decide_eq_false h2.1
  · exact of_decide_eq_false h2.2
theorem without_ok {gone : List Int} {l : List Ed} (h : OkE l) : OkE (withoutE gone l) := fun x hx => h x (List.mem_filter.1 hx).1
theorem without_len (gone : List Int) (l : List Ed) : (withoutE gone l).length ≤ l.length := List.length_filter_le _ _
def vicGo (d : List Int) (l : List Ed) : Nat → List Int → List Int → Option (List Int)
  | 0, gone, c => match c with | [] => some gone | _ :: _ => none
  | k + 1, gone, c => match c with
    | [] => some gone
    | x :: c => vicGo d l k (gone ++ [maxI (ageF d) (x :: c)]) (circF (withoutE (gone ++ [maxI (ageF d) (x :: c)]) l))
def vicF (d : List Int) (l : List Ed) : List Int := (vicGo d l ((nodesE l).length + 1) [] (circF l)).getD []
theorem vicGo_nil (d : List Int) (l : List Ed) (k : Nat) (gone : List Int) : vicGo d l k gone [] = some gone := by cases k <;> rfl
theorem vic_total (d : List Int) (l : List Ed) : ∀ (k : Nat) (gone c : List Int), unm (nodesE l) gone < k → (∀ x ∈ c, x ∈ nodesE l ∧ x ∉ gone) → ∃ r, vicGo d l k gone c = some r
  | 0, _, _, h, _ => by omega
  | k + 1, gone, [], h, hc => ⟨gone, rfl⟩
  | k + 1, gone, x :: c, h, hc => by
    unfold vicGo
    have hm := maxI_mem (ageF d) x c
    obtain ⟨h1, h2⟩ := hc _ hm
    refine vic_total d l k _ _ (by have := unm_snoc (nodes_nodup l) h1 h2; omega) (fun y hy => without_nodes (circ_sub y hy))
theorem vic_is (d : List Int) (l : List Ed) : vicGo d l ((nodesE l).length + 1) [] (circF l) = some (vicF d l) := by
  obtain ⟨r, hr⟩ := vic_total d l ((nodesE l).length + 1) [] (circF l) (by rw [unm_nil]; omega) (fun x hx => ⟨circ_sub x hx, by simp⟩)
  unfold vicF
  rw [hr]
  rfl
theorem enters_age : ∀ args w, (callFunc 69 args).run Tryz.prog w = .ok (.enter 69 args) w := ent_of Tryz.func69 (by kernel_rfl) rfl
def VicAt (w : World) (d : List Int) (l : List Ed) (r : List Int) (k : Nat) (vg vc : Value) (wr : World) : Prop :=
  ∃ (gone cs : List Int) (Ag : Option Addr) (cg : Nat) (Ac : Option Addr) (cc : Nat), vg = .slice Ag gone.length cg ∧ vc = .slice Ac cs.length cc ∧ Row wr 3 1 Ag gone.length cg (ints gone) ∧ (∀ k, blk Ag k → w.heap.size ≤ k) ∧ Row wr 3 1 Ac cs.length cc (ints cs) ∧
    Below w.heap.size w wr ∧ vicGo d l k gone cs = some r ∧ (∀ x ∈ cs, x ∈ nodesE l ∧ x ∉ gone) ∧ gone.length + unm (nodesE l) gone ≤ (nodesE l).length
set_option maxHeartbeats 16000000 in
set_option maxRecDepth 100000 in
theorem Victims_ (Ad : Option Addr) (cd : Nat) (d : List Int) (A : Option Addr) (c : Nat) (l : List Ed) (w : World) (hd : Kd.C (Kd.int .i64) w Ad d.length d) (hR : RowE w A c l) (hl : l.length ≤ 400000) (hok : OkE l) :
    Calls Tryz.prog 45 #[.slice Ad d.length cd, .slice A l.length c] w (BlPost w (vicF d l)) := by
  have HD := Aside0.mk hd
  have HR := Aside0.mk hR
  have HL := Aside0.mk hl
  have HOK := Aside0.mk hok
  have HC0 := Aside0.mk (Circle_ A c l w hR hl hok)
  have HV := Aside0.mk (vic_is d l)
  have HNL := Aside0.mk (show (nodesE l).length ≤ 800000 by have := nodes_len l; omega)
  generalize vicF d l = r at HV
  clear hd hR hl hok
  go_enter Tryz.func45, Tryz.ntmps45
  go_wp2_with fail
  refine HC0.out.mono ?_
  rintro e w1 ⟨A1, c1, rfl, h1, k1, b1⟩
  have HV1 := Aside0.mk (show VicAt w d l r ((nodesE l).length + 1) (.slice none 0 0) (.slice A1 (circF l).length c1) w1 from
    ⟨[], circF l, none, 0, A1, c1, rfl, rfl, Row.zero _ _ _, fun k h => (blk_none h).elim, h1, b1, HV.out, fun x hx => ⟨circ_sub x hx, by simp⟩, by rw [unm_nil]; simp⟩)
  clear h1 k1 b1 HC0 HV
  go_wp2_with fail
  go_loopg [5, 6] ((nodesE l).length + 1) (fun gg vg vc wr => Aside0 (VicAt w d l r gg vg vc wr))
  case atStart => exact HV1
  case round =>
    obtain ⟨gone, cs, Ag, cg, Ac, cc, rfl, rfl, h1, h2, h3, h4, h5, h6, h7⟩ := hrel.out
    clear hrel HV1
    have HB := Aside0.mk h4
    have HG := Aside0.mk h1
    have HGK := Aside0.mk h2
    have HCN := Aside0.mk h7
    cases cs with
    | nil =>
      have HF := Aside0.mk (show gone = r from by rw [vicGo_nil] at h5; injection h5)
      clear h1 h2 h3 h4 h5 h6 h7
      go_wp2_with fail
      go_ret
      rw [← HF.out]
      exact ⟨Ag, cg, rfl, HG.out, HGK.out, HB.out⟩
    | cons x cs =>
      have HMX := Aside0.mk (maxFunc_ 69 (.slice Ad d.length cd) (ageF d) enters_age Ac cc x cs wr h3.readsI (fun W a b hb ha hb' => age_ Ad cd d a b W (Kd.C_below HD.out (below_then h4 h4.size hb)) (nodes_ok HOK.out (h6 a ha).1) (nodes_ok HOK.out (h6 b hb').1)))
      have hm := h6 _ (maxI_mem (ageF d) x cs)
      have HMN := Aside0.mk hm
      unfold vicGo at h5
      cases gk with
      | zero => cases h5
      | succ k =>
        simp only at h5
        have HVG := Aside0.mk h5
        have HLEN := Aside0.mk (show (x :: cs).length = cs.length + 1 from rfl)
        obtain ⟨n, hn⟩ : ∃ n, n = (x :: cs).length := ⟨_, rfl⟩
        have p0 : (0 : Int) < (n : Int) := by rw [hn, HLEN.out]; omega
        rw [← hn] at HMX ⊢
        generalize maxI (ageF d) (x :: cs) = v at HMX HMN HVG
        have HSL := Aside0.mk (show gone.length ≤ 800000 by have h8 := HNL.out; omega)
        clear h1 h2 h3 h4 h5 h6 h7 hm hn HLEN
        go_wp2_with fail
        refine HMX.out.mono ?_
        rintro e w3 ⟨rfl, hb⟩
        have HB3 := Aside0.mk (below_then HB.out HB.out.size hb)
        have HG3 := Aside0.mk ((HG.out.below hb).alloc (.cells #[.int .i64 v] 3))
        have HBS := Aside0.mk (blk_new w3 (.cells #[.int .i64 v] 3))
        have HB4 := Aside0.mk (below_alloc HB3.out (.cells #[.int .i64 v] 3))
        clear hb p0
        go_wp2_with (first
          | (at_builtin; refine wpList_append_info rfl _ _ 29 rfl 3 _ 1 8 Tryz.underlying29 info3 rfl Ag gone.length cg (ints gone) (by simp [Act.eval, Act.put]) HG3.out ⟨w3.heap.size, 0, none⟩ 1 1 [.int .i64 v] (by simp [Act.eval, Act.put]) rfl (Ln.one_at HBS.out) (Ln.one_one v) (by have := HSL.out; unfold maxLen; omega) (by have := HSL.out; omega) ?_; intro A9 c9 w9 hR9 hG9 hk9
             have HR9 := Aside0.mk (show Row w9 3 1 A9 (gone ++ [v]).length c9 (ints (gone ++ [v])) from by rw [List.length_append, ← ints_snoc]; exact hR9)
             have HB9 := Aside0.mk (hG9.to_below HB4.out HB4.out.size HGK.out)
             have HK9 := Aside0.mk (fun k h => (hk9 k h).elim (HGK.out k) (fun h2 => Nat.le_trans HB4.out.size h2))
             have HWO := Aside0.mk (Without_ A9 c9 (gone ++ [v]) A c l w9 HR9.out (Row.below HR.out HB9.out) (by have := HL.out; omega))
             rw [show (gone ++ [v]).length = gone.length + 1 from by simp] at HWO
             clear hR9 hG9 hk9)
          | fail)
        refine HWO.out.mono ?_
        rintro e w10 ⟨A10, c10, rfl, h10, k10, b10⟩
        have HCI := Aside0.mk (Circle_ A10 c10 (withoutE (gone ++ [v]) l) w10 h10 (by have := HL.out; have := without_len (gone ++ [v]) l; omega) (without_ok HOK.out))
        have HB10 := Aside0.mk (below_then HB9.out HB9.out.size b10)
        have HR10 := Aside0.mk (HR9.out.below b10)
        clear h10 k10 b10 HWO
        go_wp2_with fail
        refine HCI.out.mono ?_
        rintro e w11 ⟨A11, c11, rfl, h11, k11, b11⟩
        have HV11 := Aside0.mk (show VicAt w d l r k (.slice A9 (gone.length + 1) c9) (.slice A11 (circF (withoutE (gone ++ [v]) l)).length c11) w11 from
          ⟨gone ++ [v], circF (withoutE (gone ++ [v]) l), A9, c9, A11, c11, by simp, rfl, HR10.out.below b11, HK9.out, h11, below_then HB10.out HB10.out.size b11, HVG.out, fun y hy => without_nodes (circ_sub y hy),
            by have h1 := HCN.out; have h2 := unm_snoc (nodes_nodup l) HMN.out.1 HMN.out.2; simp; omega⟩)
        clear h11 k11 b11 HCI
        go_wp2_with fail
        go_roundg k
        case measure => omega
        case rel => exact HV11
end Go.Proofs.YtaaekmcmpjljgaaGreat.Gr
