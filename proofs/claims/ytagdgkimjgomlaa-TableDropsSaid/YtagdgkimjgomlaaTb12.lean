/- A table: Drop. -/
import Derived.Test.YtagdgkimjgomlaaTb10
import Derived.Deep.RegionLaw
import Derived.Deep.RegionHeld3
import Derived.BigQuiet
namespace Go.Proofs.Ytagdgkimjgomlaa.Ln
open Go.RowKit Go.Proofs.YtagdgkimjgomlaaW.PrintWords Go.Proofs.YtagdgkimjgomlaaW.PrintLast Go.Proofs.YtagdgkimjgomlaaW.PrintMore Go.Proofs.Ytagdgkimjgomlaa.PMd
open Go.Maps
open Go.Sort (grow)
attribute [local go_sem] Oper.semAt_some
set_option linter.unusedVariables false
set_option linter.unusedSimpArgs false
/-- An append of a row, be it none. -/
theorem run_append_any {P : Program} (w : World) (t ty e : TypeId) (i : TypeInfo) (z : Value) (size bytes : Nat) (ht : P.underlying t = some (.slice e)) (hi : P.info? e = some i) (hz : i.zero = some z)
    (hsize : i.size = size) (hby : i.bytes = bytes) (hzs : z.cells.size = size) (A : Option Addr) (n cap : Nat) (xs : List Value) (hR : Row w e size A n cap xs)
    (Al : Option Addr) (m c : Nat) (news : List Value) (hRl : Row w e size Al m c news) (hsz : 0 < size) (h1 : ∀ u ∈ news, u.oneCell' = true)
    (h63 : n + m ≤ maxLen) (hbytes : (n + m) * bytes ≤ 140737488355328) :
    ∃ A' cap' w', (Builtin.append_ #[t, t] ty #[.slice A n cap, .slice Al m c]).run P w = .ok (.slice A' (n + m) cap') w' ∧ Row w' e size A' (n + m) cap' (xs ++ news) ∧ Grew (blk A) w w' ∧
      (∀ k, blk A' k → blk A k ∨ w.heap.size ≤ k) := by
  by_cases hm : 0 < m
  · obtain ⟨g, off, cur, rfl, hg, hsz, hc⟩ := hRl.at_ hm
    exact run_append_row w t ty e i z size bytes ht hi hz hsize hby hzs A n cap xs hR ⟨g, off, none⟩ m c news hRl.1 (fun j u hu => by rw [Addr.add_lit]; exact (hc j u hu).1) h1 h63 hbytes
  · obtain rfl : m = 0 := by omega
    have hnews : news = [] := List.eq_nil_of_length_eq_zero (by simpa using hRl.1)
    subst hnews
    cases Al with
    | some ad => exact run_append_row w t ty e i z size bytes ht hi hz hsize hby hzs A n cap xs hR ad 0 c [] (by simp) (fun j u hu => by simp at hu) (by simp) h63 hbytes
    | none =>
      refine ⟨A, cap, w, ?_, by rw [List.append_nil]; exact hR, Grew.refl _ _, fun k hk => .inl hk⟩
      have hn := hR.2.1
      cases A with
      | none => simp [Builtin.append_, run_underlying ht, sizeOf, typeInfo, hi, Builtin.lenOf, Builtin.firstCells, hn]
      | some a => simp [Builtin.append_, run_underlying ht, sizeOf, typeInfo, hi, Builtin.lenOf, Builtin.firstCells, hn, storeCells]
theorem step_append_any_in {F : Fence} {nF : Nat} {P : Program} {ops : Array Oper} {o : Oper} {a : Act} {w : World} {K : Act → World → Prop} {Q : Exit → Act → World → Prop} {E : Prop} (hgd : o.guard = none) (s x : Operand) (t : TypeId)
    (ho : o.op = .call { callee := .builtin .append, args := #[s, x], argTypes := #[t, t] })
    (e : TypeId) (z : Value) (size bytes : Nat) (ht : P.underlying t = some (.slice e)) (hinfo : (P.info? e).map (fun i => (i.zero, i.size, i.bytes)) = some (some z, size, bytes))
    (hzs : z.cells.size = size) (A : Option Addr) (n cap : Nat) (xs : List Value) (hs : a.eval s = .slice A n cap) (hR : Row w e size A n cap xs)
    (Al : Option Addr) (m c : Nat) (news : List Value) (hx : a.eval x = .slice Al m c) (hRl : Row w e size Al m c news) (hsz : 0 < size) (h1 : ∀ u ∈ news, u.oneCell' = true)
    (h63 : n + m ≤ maxLen) (hbytes : (n + m) * bytes ≤ 140737488355328)
    (h : ∀ A' cap' w', Row w' e size A' (n + m) cap' (xs ++ news) → Grew (blk A) w w' → (∀ k, blk A' k → blk A k ∨ w.heap.size ≤ k) → K (a.put o.dst (.slice A' (n + m) cap')) w') :
    if Region.wanted o (yielded ops a.tmps) = true then Oper.wpIn F nF P o a w K Q else E := by
  have hw : Region.wanted o (yielded ops a.tmps) = true := by simp [Region.wanted, hgd]
  rw [if_pos hw]
  cases hi : P.info? e with
  | none => rw [hi] at hinfo; cases hinfo
  | some i =>
    rw [hi] at hinfo
    obtain ⟨hz, hs1, hb1⟩ : i.zero = some z ∧ i.size = size ∧ i.bytes = bytes := by simpa using hinfo
    obtain ⟨A', cap', w', hr, h2, h3, h4⟩ := run_append_any (P := P) w t o.type e i z size bytes ht hi hz hs1 hb1 hzs A n cap xs hR Al m c news hRl hsz h1 h63 hbytes
    unfold Oper.wpIn
    refine ⟨?_, ?_⟩
    · simp [Oper.about, ho, resolve, Target.leads, Sem.run_pure]
    · rw [Oper.semAt_plain F _ _ (by rw [ho]; intro c hc'; cases hc')]
      simp [execOp, ho, resolve, invoke, builtin, hs, hx, hr, Result.andThen]
      exact h _ _ _ h2 h3 h4
/-- A delete as a step of a region that draws its order. -/
theorem step_delete_own {H : Type} {P : Program} {ops : Array Oper} {o : Oper} {a : Act} {w : World} {K : Act → World → Prop} {Q : Exit → Act → World → Prop} {E : Prop} (hgd : o.guard = none) (m x : Operand) (t k : TypeId)
    (ho : o.op = .call { callee := .builtin .delete, args := #[m, x], argTypes := #[t, k] }) (e : TypeId) (KK : Keyed P k) (ht : P.underlying t = some (.map k e)) (R : Value → Option (DataW H × List MemPlace)) (b n : Nat) (D : DataW H)
    (hm : a.eval m = .map (some b)) (hown : w.ownsMap P k R b n D) (key : Value) (kl : Lit) (hx : a.eval x = key) (hkey : keyOf P k key = some kl)
    (h : ∀ w', w'.ownsMap P k R b n (D.del kl) → w.mapTurned w' b → K (a.put o.dst (.tuple #[])) w') :
    if Region.wanted o (yielded ops a.tmps) = true then Oper.wp P o a w K Q else E := by
  have hw : Region.wanted o (yielded ops a.tmps) = true := by simp [Region.wanted, hgd]
  rw [if_pos hw]
  obtain ⟨w', hrun, r1, r2⟩ := hown.drop KK ht hkey o.type
  unfold Oper.wp
  simp [execOp, ho, resolve, invoke, builtin, hm, hx, hrun, Result.andThen]
  exact h w' r1 r2
theorem grew_turned {w w' : World} {b : Nat} (h : w.mapTurned w' b) : Grew (fun k => k = b) w w' := by
  have hg := h.grown
  exact ⟨hg.os, hg.tape, hg.output, hg.size, fun k hk hn => hg.block k hk (fun e => by injection e with e; exact hn e)⟩
theorem dels_snoc (f : At) (l : List Int) (x : Int) : delsT f (l ++ [x]) = (delsT f l).del x := by unfold delsT; rw [List.foldl_append]; rfl
theorem ints_one (l : List Int) : ∀ u ∈ ints l, u.oneCell' = true := by
  intro u hu
  obtain ⟨x, _, rfl⟩ := List.mem_map.1 hu
  rfl
set_option maxHeartbeats 8000000 in
set_option maxRecDepth 100000 in
theorem DropT_ {w : World} {b : Nat} {F : Nat → Prop} {ls : List LS} {most : Int} {N : Nat} {f : At} (h : IsTab w b F ls most N f) (h0 : 0 < ls.length) (hl : ls.length ≤ 10000) (hm : ∀ i, mS (ls.getD i zL) ≤ 900000) (who : Int) (hw : ok64 who) (hok : ∀ x ∈ dropO ls who 0, ok64 x) :
    Calls Try.prog 37 #[.pointer (some ⟨b, 0, none⟩), .int .i64 who] w fun e w' => ∃ A' c', e = .returned (.slice A' (dropO ls who 0).length c') ∧ Row w' 3 1 A' (dropO ls who 0).length c' (ints (dropO ls who 0)) ∧ (∀ k, blk A' k → w.heap.size ≤ k) ∧
      IsTab w' b (fun k => (F k ∨ w.heap.size ≤ k) ∧ ¬ blk A' k) (dropL ls who 0) most N (delsT (f.del who) (dropO ls who 0)) ∧ Grew F w w' := by
  have hu := Try.underlying94
  have hu2 := Try.underlying96
  have mixed : Try.prog.follows Departure.mixedOrders = true := by kernel_rfl
  obtain ⟨m, F0, cm, hmc, hT0, hF0⟩ := h.typed
  obtain ⟨g, off, sc, bs, c0, hbs, hFg, hgw, hsc, hgb⟩ := hT0.blocks h0
  have hmw : m < w.heap.size := by
    obtain ⟨sA, sc', m', c0', -, c2', -, -, hmap, -, -⟩ := hT0.open_
    rw [cm] at c2'
    injection c2' with e
    injection e with e
    injection e with e
    subst e
    exact hmap.lt
  have hbw := hT0.lt
  have H2 := Aside0.mk (And.intro hl (And.intro hm (And.intro hw hok)))
  refine (callsIn_wide (n := 9)).1 ?_
  refine callsIn_of_wp_marks Try.func37 rfl trivial ?_ rfl
  simp only [Try.ntmps37, List.size_toArray, List.length_cons, List.length_nil, Nat.reduceAdd, Nat.reduceSub, Array.replicate_succ, Array.replicate_zero, List.push_toArray, List.append_toArray, List.nil_append, List.cons_append]
  gi_wp2_with (first | (refine ⟨trivial, ?_⟩; gi_at_call 72; refine (Backward_in Fence.wide _ trivial rfl _ _ _ _).mono ?_; rintro e w' ⟨rfl, rfl⟩) | fail)
  have s1 : (w.alloc (.cells #[.int .i64 who] 3)).heap.size = w.heap.size + 1 := by simp
  have s2 : ((w.alloc (.cells #[.int .i64 who] 3)).alloc (.cells #[.slice none 0 0] 53)).heap.size = w.heap.size + 2 := by simp
  have b0 := blk_new w (.cells #[.int .i64 who] 3)
  have b1 := blk_new (w.alloc (.cells #[.int .i64 who] 3)) (.cells #[.slice none 0 0] 53)
  have b2 := blk_new ((w.alloc (.cells #[.int .i64 who] 3)).alloc (.cells #[.slice none 0 0] 53)) (.cells #[.slice (some ⟨g, off, none⟩) ls.length sc] 92)
  rw [s1] at b1
  rw [s2] at b2
  replace b0 := blk_alloc (blk_alloc b0 (.cells #[.slice none 0 0] 53)) (.cells #[.slice (some ⟨g, off, none⟩) ls.length sc] 92)
  replace b1 := blk_alloc b1 (.cells #[.slice (some ⟨g, off, none⟩) ls.length sc] 92)
  have hB := below_alloc (below_alloc (below_alloc (Below.refl w.heap.size w) (.cells #[.int .i64 who] 3)) (.cells #[.slice none 0 0] 53)) (.cells #[.slice (some ⟨g, off, none⟩) ls.length sc] 92)
  have s3 : (((w.alloc (.cells #[.int .i64 who] 3)).alloc (.cells #[.slice none 0 0] 53)).alloc (.cells #[.slice (some ⟨g, off, none⟩) ls.length sc] 92)).heap.size = w.heap.size + 3 := by simp
  rw [show w.heap.size + 1 + 1 = w.heap.size + 2 from rfl]
  obtain ⟨W0, hW0⟩ : ∃ W, ((w.alloc (.cells #[.int .i64 who] 3)).alloc (.cells #[.slice none 0 0] 53)).alloc (.cells #[.slice (some ⟨g, off, none⟩) ls.length sc] 92) = W := ⟨_, rfl⟩
  rw [hW0] at b0 b1 b2 hB s3 ⊢
  clear hW0 s1 s2
  have hI0 : DropI w b m g F ls most N f who [] W0 := by
    refine ⟨F0, none, 0, hT0.below hB, fun k hk => ⟨.inl (hF0 k hk).1, (hF0 k hk).2.2.kept (hB.block k (hF0 k hk).2.1), by have := (hF0 k hk).2.1; omega⟩, fun cs t z e => hmc cs t z ((hB.block m hmw).symm.trans e), b0, b1, hB.block b hbw, hB.block g hgw, Row.zero _ _ _, fun k h => (blk_none h).elim, Grew.of_below hB, by omega, hmw, hbw, hgw, ⟨_, b2⟩⟩
  refine wpIn_rangeFunc_ownH rfl (by decide) (gf := 96) (lb := #[.pointer (some ⟨w.heap.size + 2, 0, none⟩)]) rfl trivial (enters_of Try.func96 (by kernel_rfl) rfl)
    (back_stops Fence.wide _ trivial rfl (by decide) (w.heap.size + 2) g off ls.length sc bs W0 (by omega) (by omega) ((blk_cell b2 0).trans rfl) (fun j hj => cell_be (hbs j hj) hB) H2.out.1) (fun h k => Keep2.trans h k) (keep2_put (by omega) (by omega)) (Below.refl _ _) (fun _ => rfl)
    (DropI w b m g F ls most N f who) (fun _ _ _ => False) (by rw [s3]; exact dropI_own) (fun c s W W' row hs _ _ => hs) hI0
    (fun x a' W => ∃ Bx, w.heap.size + 3 ≤ Bx ∧ W.heap[Bx]? = some (.cells #[.pointer (some ⟨bs x.1, 0, none⟩)] 96 (0, 0)) ∧
      a' = { tmps := #[.pointer (some ⟨b, 0, none⟩), .int .i64 who, undef, .pointer (some ⟨w.heap.size, 0, none⟩), .slice none 0 0, .pointer (some ⟨w.heap.size + 1, 0, none⟩), undef, .pointer (some ⟨Bx, 0, none⟩), undef, undef, .pointer (some ⟨b, 0, none⟩), .pointer (some ⟨b, 0, none⟩), .pointer (some ⟨b, 0, none⟩), .slice (some ⟨g, off, none⟩) ls.length sc, .func (.func 96) #[] #[.pointer (some ⟨w.heap.size + 2, 0, none⟩)], .int .i64 ((x.1 : Nat) : Int), .agg #[.pointer (some ⟨bs x.1, 0, none⟩)], undef, undef, undef, undef, undef, undef, undef, undef, undef, undef, undef, undef, undef, undef, undef, undef, undef, undef, undef, undef, undef, undef, undef, undef, undef, undef, undef], defers := [] })
    ?hAx ?assign ?body ?done ?stop
  case hAx =>
    rintro x a' s W W' row ⟨Bx, h1, h2, h3⟩ hg hr
    refine ⟨Bx, h1, (hg.block Bx (Array.getElem?_eq_some_iff.1 h2).1 (fun e => ?_)).trans h2, h3⟩
    obtain ⟨_, o, ho, hc⟩ := hr Bx e.symm
    rw [h2] at ho; injection ho with ho; subst ho; cases hc
  case assign =>
    intro l pre x W K hI hK
    gi_wp2
    have hsz : w.heap.size + 3 ≤ W.heap.size := by obtain ⟨_, _, _, _, _, _, _, _, _, _, _, _, _, h, _⟩ := hI; exact h
    exact hK _ _ ((KeepsOthers.alloc _ _).from _) ⟨Below.heap_alloc W _ g (by omega), Below.heap_alloc W _ _ (by omega)⟩ (dropS_below hI (below_alloc (Below.refl _ _) _)) ⟨W.heap.size, hsz, blk_new W _, rfl⟩
  case body =>
    rintro l pre x a' W hlW hlr hI ⟨Bx, hBx, hX, rfl⟩ hlen
    have hbd := visits_bd (who := who) H2.out.2.1 (pre.map (·.1))
    have hln := visits_len who ls (pre.map (·.1))
    have hsn : visits who ls ((pre ++ [x]).map (·.1)) = visit who (visits who ls (pre.map (·.1))) x.1 := by rw [List.map_append]; exact visits_snoc who ls (pre.map (·.1)) x.1
    have hI : DropS w b m g F most N f who (visits who ls (pre.map (·.1))) W := hI
    have hG : ∀ W', DropI w b m g F ls most N f who (pre ++ [x]) W' = DropS w b m g F most N f who (visit who (visits who ls (pre.map (·.1))) x.1) W' := fun W' => by unfold DropI; rw [hsn]
    clear hsn
    have hxl := x.2
    generalize x.1 = i at hX hG hxl ⊢
    generalize visits who ls (pre.map (·.1)) = st at hI hbd hln hG
    obtain ⟨Gi, A', c', w0, o0, of, hR, hsz, dI, dA, dG, hA9, hg', hb', hm', hclose⟩ := dropS_at hI c0 cm hbs i hxl hln
    have x0 : W.cell? ⟨Bx, 0, none⟩ = some (.pointer (some ⟨bs i, 0, none⟩)) := (blk_cell hX 0).trans rfl
    cases hh : hasIn (st.2.getD i zL).1 (st.2.getD i zL).2 who with
    | false =>
      have HV := Aside0.mk (visit_same (who := who) (st := st) (i := i) (by omega) hh)
      have HC := Aside0.mk (has_ W (bs i) Gi _ _ who dI)
      rw [hh] at HC
      have HG := Aside0.mk hG
      clear hG hclose hbd hln hR dI dA dG hA9
      gi_wp2_with (first | (refine ⟨trivial, ?_⟩; gi_at_call 67; refine (CallsIn.inRound l (callsIn_wide.2 HC.out)).mono ?_; rintro e W1 ⟨rfl, hb⟩) | fail)
      refine ⟨⟨hb.size, fun k o _ hk _ => (hb.block k (Array.getElem?_eq_some_iff.1 hk).1).trans hk⟩, ⟨hb.block g (by omega), hb.block _ (by omega)⟩, ?_⟩
      rw [HG.out, HV.out]
      exact dropS_below hI hb
    | true =>
      have HV := Aside0.mk (visit_leave (who := who) (st := st) (i := i) hh)
      have HC := Aside0.mk (has_ W (bs i) Gi _ _ who dI)
      rw [hh] at HC
      have HLn := Aside0.mk (show st.1.length ≤ 9000000000 ∧ (leaveIn (st.2.getD i zL).1 (st.2.getD i zL).2 who).1.length ≤ 900000 by
        have h1 := hbd.2
        rw [List.length_map] at h1
        have h2 := hbd.1 i
        have h3 := serve_bd (fl (st.2.getD i zL).1 who) (fl (st.2.getD i zL).2 who)
        have h4 := fl_len (st.2.getD i zL).1 who
        have h5 := fl_len (st.2.getD i zL).2 who
        have h6 := H2.out.1
        unfold mS at h2
        unfold leaveIn
        omega)
      obtain ⟨sl, hsl⟩ : ∃ s, st.2.getD i zL = s := ⟨_, rfl⟩
      have HSL := Aside0.mk hsl
      have HMs := Aside0.mk (hbd.1 i)
      rw [hsl] at HV HLn HMs
      clear hsl
      have HG := Aside0.mk hG
      have HI := Aside0.mk hI
      have HX := Aside0.mk hX
      have HBd := Aside0.mk hbd
      clear hG hclose hbd hR dI dA dG hA9 o0 of hh hI hX
      gi_wp2_with (first | (refine ⟨trivial, ?_⟩; gi_at_call 67; refine (CallsIn.inRound l (callsIn_wide.2 HC.out)).mono ?_; rintro e W1 ⟨rfl, hb⟩; have hI1 := dropS_below HI.out hb; have hX1 := (hb.block Bx (Array.getElem?_eq_some_iff.1 HX.out).1).trans HX.out; clear x0 w0 HC; obtain ⟨Gi, A', c', w0, o0, of, hR, hsz1, dI, dA, dG, hA9, -, -, -, hclose⟩ := dropS_at hI1 c0 cm hbs i hxl hln; rw [HSL.out] at dI dA; have x0 : W1.cell? ⟨Bx, 0, none⟩ = some (.pointer (some ⟨bs i, 0, none⟩)) := (blk_cell hX1 0).trans rfl) | fail)
      have HDA := Aside0.mk (asc_leave (who := who) (qs := sl.2) dA)
      have HLv := Aside0.mk (Leave_ W1.drew (bs i) Gi _ _ who (show IsLane W1.drew (bs i) Gi sl.1 sl.2 from dI) dA HMs.out (fun k hk => (dG k hk).1))
      clear dI dA
      refine wpIn_region_any mixed ?_
      change wpAnyIn _ _ _ _ _ _ _ _ _ (World.drew _)
      refine wpAnyIn_ready (rs := [0, 1, 3]) (by kernel_rfl) (by simp) ?_
      refine AllReadyIn.cons rfl (fun K hK => ?_) (AllReadyIn.cons rfl (fun K hK => ?_) (AllReadyIn.cons rfl (fun K hK => ?_) AllReadyIn.nil))
      · go_simp
        refine hK _ _ ?_
        clear hK K
        refine wpAnyIn_ready (rs := [1, 3]) (by kernel_rfl) (by simp) ?_
        refine AllReadyIn.cons rfl (fun K hK => ?_) (AllReadyIn.cons rfl (fun K hK => ?_) AllReadyIn.nil)
        · go_simp
          refine hK _ _ ?_
          clear hK K
          refine wpAnyIn_ready (rs := [2, 3]) (by kernel_rfl) (by simp) ?_
          refine AllReadyIn.cons rfl (fun K hK => ?_) (AllReadyIn.cons rfl (fun K hK => ?_) AllReadyIn.nil)
          · go_simp
            refine hK _ _ ?_
            clear hK K
            refine wpAnyIn_ready (rs := [3]) (by kernel_rfl) (by simp) ?_
            refine AllReadyIn.cons rfl (fun K hK => ?_) AllReadyIn.nil
            go_simp
            refine hK _ _ ?_
            clear hK K
            refine wpAnyIn_ready (rs := [4]) (by kernel_rfl) (by simp) ?_
            refine AllReadyIn.cons rfl (fun K hK => ?_) AllReadyIn.nil
            go_simp
            refine ⟨trivial, ?_⟩
            gi_at_call 50
            refine (CallsIn.inRound l (callsIn_wide.2 HLv.out)).mono ?_
            rintro e W2 ⟨Al, cl, rfl, hRl, hAl, hIl, hGl⟩
            have k2 : W2.heap[w.heap.size + 1]? = W1.heap[w.heap.size + 1]? := hGl.block _ (by show w.heap.size + 1 < W1.heap.size; omega) (fun h => (dG _ h).2.1 rfl)
            have o2 := (World.cell?_of_block (a := ⟨w.heap.size + 1, 0, none⟩) k2).trans o0
            have of2 := (World.frozen?_of_block (a := ⟨w.heap.size + 1, 0, none⟩) k2).trans of
            have hR2 := (show Row W1.drew 3 1 A' st.1.length c' (ints st.1) from hR).grew hGl (fun k hk h => (dG k h).2.2 hk)
            refine hK _ _ ?_
            clear hK K
            refine wpAnyIn_ready (rs := [5]) (by kernel_rfl) (by simp) ?_
            refine AllReadyIn.cons rfl (fun K hK => ?_) AllReadyIn.nil
            refine step_append_any_in rfl (.tmp 20) (.tmp 24) 53 rfl 3 (.int .i64 0) 1 8 Try.underlying53 info3 rfl A' st.1.length c' (ints st.1) (by simp [Act.eval, Act.put]) hR2 Al _ cl _ (by simp [Act.eval, Act.put]) hRl (by decide) (ints_one _) (by have := HLn.out; unfold maxLen; omega) (by have := HLn.out; omega) ?_
            intro A2 c2 W3 hR3 hG3 hA3
            have k3 : W3.heap[w.heap.size + 1]? = W2.heap[w.heap.size + 1]? := hG3.block _ (by have := hGl.size; have h1 : W1.drew.heap.size = W1.heap.size := rfl; omega) (fun h => by have := hA9 _ h; omega)
            have o3 := (World.cell?_of_block (a := ⟨w.heap.size + 1, 0, none⟩) k3).trans o2
            have of3 := (World.frozen?_of_block (a := ⟨w.heap.size + 1, 0, none⟩) k3).trans of2
            refine hK _ _ ?_
            clear hK K
            refine wpAnyIn_ready (rs := [6]) (by kernel_rfl) (by simp) ?_
            refine AllReadyIn.cons rfl (fun K hK => ?_) AllReadyIn.nil
            go_simp
            refine hK _ _ ?_
            clear hK K
            refine wpAnyIn_done (by kernel_rfl) ?_ _
            gi_wp2
            obtain ⟨q1, q2, q3⟩ := hclose W2 W3 _ _ Al cl _ A2 c2 hIl HDA.out ⟨hGl.os, hGl.tape, hGl.output, hGl.size, hGl.block⟩ hRl hAl hR3 hG3 hA3
            refine ⟨KeepsFrom.trans ⟨hb.size, fun k o _ hk _ => (hb.block k (Array.getElem?_eq_some_iff.1 hk).1).trans hk⟩ (by rw [s3]; exact q2), Keep2.trans ⟨hb.block g (by omega), hb.block _ (by omega)⟩ q3, ?_⟩
            rw [HG.out, HV.out]
            exact q1
          · go_simp
            refine hK _ _ ?_
            clear hK K
            refine wpAnyIn_ready (rs := [2]) (by kernel_rfl) (by simp) ?_
            refine AllReadyIn.cons rfl (fun K hK => ?_) AllReadyIn.nil
            go_simp
            refine hK _ _ ?_
            clear hK K
            refine wpAnyIn_ready (rs := [4]) (by kernel_rfl) (by simp) ?_
            refine AllReadyIn.cons rfl (fun K hK => ?_) AllReadyIn.nil
            go_simp
            refine ⟨trivial, ?_⟩
            gi_at_call 50
            refine (CallsIn.inRound l (callsIn_wide.2 HLv.out)).mono ?_
            rintro e W2 ⟨Al, cl, rfl, hRl, hAl, hIl, hGl⟩
            have k2 : W2.heap[w.heap.size + 1]? = W1.heap[w.heap.size + 1]? := hGl.block _ (by show w.heap.size + 1 < W1.heap.size; omega) (fun h => (dG _ h).2.1 rfl)
            have o2 := (World.cell?_of_block (a := ⟨w.heap.size + 1, 0, none⟩) k2).trans o0
            have of2 := (World.frozen?_of_block (a := ⟨w.heap.size + 1, 0, none⟩) k2).trans of
            have hR2 := (show Row W1.drew 3 1 A' st.1.length c' (ints st.1) from hR).grew hGl (fun k hk h => (dG k h).2.2 hk)
            refine hK _ _ ?_
            clear hK K
            refine wpAnyIn_ready (rs := [5]) (by kernel_rfl) (by simp) ?_
            refine AllReadyIn.cons rfl (fun K hK => ?_) AllReadyIn.nil
            refine step_append_any_in rfl (.tmp 20) (.tmp 24) 53 rfl 3 (.int .i64 0) 1 8 Try.underlying53 info3 rfl A' st.1.length c' (ints st.1) (by simp [Act.eval, Act.put]) hR2 Al _ cl _ (by simp [Act.eval, Act.put]) hRl (by decide) (ints_one _) (by have := HLn.out; unfold maxLen; omega) (by have := HLn.out; omega) ?_
            intro A2 c2 W3 hR3 hG3 hA3
            have k3 : W3.heap[w.heap.size + 1]? = W2.heap[w.heap.size + 1]? := hG3.block _ (by have := hGl.size; have h1 : W1.drew.heap.size = W1.heap.size := rfl; omega) (fun h => by have := hA9 _ h; omega)
            have o3 := (World.cell?_of_block (a := ⟨w.heap.size + 1, 0, none⟩) k3).trans o2
            have of3 := (World.frozen?_of_block (a := ⟨w.heap.size + 1, 0, none⟩) k3).trans of2
            refine hK _ _ ?_
            clear hK K
            refine wpAnyIn_ready (rs := [6]) (by kernel_rfl) (by simp) ?_
            refine AllReadyIn.cons rfl (fun K hK => ?_) AllReadyIn.nil
            go_simp
            refine hK _ _ ?_
            clear hK K
            refine wpAnyIn_done (by kernel_rfl) ?_ _
            gi_wp2
            obtain ⟨q1, q2, q3⟩ := hclose W2 W3 _ _ Al cl _ A2 c2 hIl HDA.out ⟨hGl.os, hGl.tape, hGl.output, hGl.size, hGl.block⟩ hRl hAl hR3 hG3 hA3
            refine ⟨KeepsFrom.trans ⟨hb.size, fun k o _ hk _ => (hb.block k (Array.getElem?_eq_some_iff.1 hk).1).trans hk⟩ (by rw [s3]; exact q2), Keep2.trans ⟨hb.block g (by omega), hb.block _ (by omega)⟩ q3, ?_⟩
            rw [HG.out, HV.out]
            exact q1
        · go_simp
          refine hK _ _ ?_
          clear hK K
          refine wpAnyIn_ready (rs := [1]) (by kernel_rfl) (by simp) ?_
          refine AllReadyIn.cons rfl (fun K hK => ?_) AllReadyIn.nil
          go_simp
          refine hK _ _ ?_
          clear hK K
          refine wpAnyIn_ready (rs := [2]) (by kernel_rfl) (by simp) ?_
          refine AllReadyIn.cons rfl (fun K hK => ?_) AllReadyIn.nil
          go_simp
          refine hK _ _ ?_
          clear hK K
          refine wpAnyIn_ready (rs := [4]) (by kernel_rfl) (by simp) ?_
          refine AllReadyIn.cons rfl (fun K hK => ?_) AllReadyIn.nil
          go_simp
          refine ⟨trivial, ?_⟩
          gi_at_call 50
          refine (CallsIn.inRound l (callsIn_wide.2 HLv.out)).mono ?_
          rintro e W2 ⟨Al, cl, rfl, hRl, hAl, hIl, hGl⟩
          have k2 : W2.heap[w.heap.size + 1]? = W1.heap[w.heap.size + 1]? := hGl.block _ (by show w.heap.size + 1 < W1.heap.size; omega) (fun h => (dG _ h).2.1 rfl)
          have o2 := (World.cell?_of_block (a := ⟨w.heap.size + 1, 0, none⟩) k2).trans o0
          have of2 := (World.frozen?_of_block (a := ⟨w.heap.size + 1, 0, none⟩) k2).trans of
          have hR2 := (show Row W1.drew 3 1 A' st.1.length c' (ints st.1) from hR).grew hGl (fun k hk h => (dG k h).2.2 hk)
          refine hK _ _ ?_
          clear hK K
          refine wpAnyIn_ready (rs := [5]) (by kernel_rfl) (by simp) ?_
          refine AllReadyIn.cons rfl (fun K hK => ?_) AllReadyIn.nil
          refine step_append_any_in rfl (.tmp 20) (.tmp 24) 53 rfl 3 (.int .i64 0) 1 8 Try.underlying53 info3 rfl A' st.1.length c' (ints st.1) (by simp [Act.eval, Act.put]) hR2 Al _ cl _ (by simp [Act.eval, Act.put]) hRl (by decide) (ints_one _) (by have := HLn.out; unfold maxLen; omega) (by have := HLn.out; omega) ?_
          intro A2 c2 W3 hR3 hG3 hA3
          have k3 : W3.heap[w.heap.size + 1]? = W2.heap[w.heap.size + 1]? := hG3.block _ (by have := hGl.size; have h1 : W1.drew.heap.size = W1.heap.size := rfl; omega) (fun h => by have := hA9 _ h; omega)
          have o3 := (World.cell?_of_block (a := ⟨w.heap.size + 1, 0, none⟩) k3).trans o2
          have of3 := (World.frozen?_of_block (a := ⟨w.heap.size + 1, 0, none⟩) k3).trans of2
          refine hK _ _ ?_
          clear hK K
          refine wpAnyIn_ready (rs := [6]) (by kernel_rfl) (by simp) ?_
          refine AllReadyIn.cons rfl (fun K hK => ?_) AllReadyIn.nil
          go_simp
          refine hK _ _ ?_
          clear hK K
          refine wpAnyIn_done (by kernel_rfl) ?_ _
          gi_wp2
          obtain ⟨q1, q2, q3⟩ := hclose W2 W3 _ _ Al cl _ A2 c2 hIl HDA.out ⟨hGl.os, hGl.tape, hGl.output, hGl.size, hGl.block⟩ hRl hAl hR3 hG3 hA3
          refine ⟨KeepsFrom.trans ⟨hb.size, fun k o _ hk _ => (hb.block k (Array.getElem?_eq_some_iff.1 hk).1).trans hk⟩ (by rw [s3]; exact q2), Keep2.trans ⟨hb.block g (by omega), hb.block _ (by omega)⟩ q3, ?_⟩
          rw [HG.out, HV.out]
          exact q1
      · go_simp
        refine hK _ _ ?_
        clear hK K
        refine wpAnyIn_ready (rs := [0, 2, 3]) (by kernel_rfl) (by simp) ?_
        refine AllReadyIn.cons rfl (fun K hK => ?_) (AllReadyIn.cons rfl (fun K hK => ?_) (AllReadyIn.cons rfl (fun K hK => ?_) AllReadyIn.nil))
        · go_simp
          refine hK _ _ ?_
          clear hK K
          refine wpAnyIn_ready (rs := [2, 3]) (by kernel_rfl) (by simp) ?_
          refine AllReadyIn.cons rfl (fun K hK => ?_) (AllReadyIn.cons rfl (fun K hK => ?_) AllReadyIn.nil)
          · go_simp
            refine hK _ _ ?_
            clear hK K
            refine wpAnyIn_ready (rs := [3]) (by kernel_rfl) (by simp) ?_
            refine AllReadyIn.cons rfl (fun K hK => ?_) AllReadyIn.nil
            go_simp
            refine hK _ _ ?_
            clear hK K
            refine wpAnyIn_ready (rs := [4]) (by kernel_rfl) (by simp) ?_
            refine AllReadyIn.cons rfl (fun K hK => ?_) AllReadyIn.nil
            go_simp
            refine ⟨trivial, ?_⟩
            gi_at_call 50
            refine (CallsIn.inRound l (callsIn_wide.2 HLv.out)).mono ?_
            rintro e W2 ⟨Al, cl, rfl, hRl, hAl, hIl, hGl⟩
            have k2 : W2.heap[w.heap.size + 1]? = W1.heap[w.heap.size + 1]? := hGl.block _ (by show w.heap.size + 1 < W1.heap.size; omega) (fun h => (dG _ h).2.1 rfl)
            have o2 := (World.cell?_of_block (a := ⟨w.heap.size + 1, 0, none⟩) k2).trans o0
            have of2 := (World.frozen?_of_block (a := ⟨w.heap.size + 1, 0, none⟩) k2).trans of
            have hR2 := (show Row W1.drew 3 1 A' st.1.length c' (ints st.1) from hR).grew hGl (fun k hk h => (dG k h).2.2 hk)
            refine hK _ _ ?_
            clear hK K
            refine wpAnyIn_ready (rs := [5]) (by kernel_rfl) (by simp) ?_
            refine AllReadyIn.cons rfl (fun K hK => ?_) AllReadyIn.nil
            refine step_append_any_in rfl (.tmp 20) (.tmp 24) 53 rfl 3 (.int .i64 0) 1 8 Try.underlying53 info3 rfl A' st.1.length c' (ints st.1) (by simp [Act.eval, Act.put]) hR2 Al _ cl _ (by simp [Act.eval, Act.put]) hRl (by decide) (ints_one _) (by have := HLn.out; unfold maxLen; omega) (by have := HLn.out; omega) ?_
            intro A2 c2 W3 hR3 hG3 hA3
            have k3 : W3.heap[w.heap.size + 1]? = W2.heap[w.heap.size + 1]? := hG3.block _ (by have := hGl.size; have h1 : W1.drew.heap.size = W1.heap.size := rfl; omega) (fun h => by have := hA9 _ h; omega)
            have o3 := (World.cell?_of_block (a := ⟨w.heap.size + 1, 0, none⟩) k3).trans o2
            have of3 := (World.frozen?_of_block (a := ⟨w.heap.size + 1, 0, none⟩) k3).trans of2
            refine hK _ _ ?_
            clear hK K
            refine wpAnyIn_ready (rs := [6]) (by kernel_rfl) (by simp) ?_
            refine AllReadyIn.cons rfl (fun K hK => ?_) AllReadyIn.nil
            go_simp
            refine hK _ _ ?_
            clear hK K
            refine wpAnyIn_done (by kernel_rfl) ?_ _
            gi_wp2
            obtain ⟨q1, q2, q3⟩ := hclose W2 W3 _ _ Al cl _ A2 c2 hIl HDA.out ⟨hGl.os, hGl.tape, hGl.output, hGl.size, hGl.block⟩ hRl hAl hR3 hG3 hA3
            refine ⟨KeepsFrom.trans ⟨hb.size, fun k o _ hk _ => (hb.block k (Array.getElem?_eq_some_iff.1 hk).1).trans hk⟩ (by rw [s3]; exact q2), Keep2.trans ⟨hb.block g (by omega), hb.block _ (by omega)⟩ q3, ?_⟩
            rw [HG.out, HV.out]
            exact q1
          · go_simp
            refine hK _ _ ?_
            clear hK K
            refine wpAnyIn_ready (rs := [2]) (by kernel_rfl) (by simp) ?_
            refine AllReadyIn.cons rfl (fun K hK => ?_) AllReadyIn.nil
            go_simp
            refine hK _ _ ?_
            clear hK K
            refine wpAnyIn_ready (rs := [4]) (by kernel_rfl) (by simp) ?_
            refine AllReadyIn.cons rfl (fun K hK => ?_) AllReadyIn.nil
            go_simp
            refine ⟨trivial, ?_⟩
            gi_at_call 50
            refine (CallsIn.inRound l (callsIn_wide.2 HLv.out)).mono ?_
            rintro e W2 ⟨Al, cl, rfl, hRl, hAl, hIl, hGl⟩
            have k2 : W2.heap[w.heap.size + 1]? = W1.heap[w.heap.size + 1]? := hGl.block _ (by show w.heap.size + 1 < W1.heap.size; omega) (fun h => (dG _ h).2.1 rfl)
            have o2 := (World.cell?_of_block (a := ⟨w.heap.size + 1, 0, none⟩) k2).trans o0
            have of2 := (World.frozen?_of_block (a := ⟨w.heap.size + 1, 0, none⟩) k2).trans of
            have hR2 := (show Row W1.drew 3 1 A' st.1.length c' (ints st.1) from hR).grew hGl (fun k hk h => (dG k h).2.2 hk)
            refine hK _ _ ?_
            clear hK K
            refine wpAnyIn_ready (rs := [5]) (by kernel_rfl) (by simp) ?_
            refine AllReadyIn.cons rfl (fun K hK => ?_) AllReadyIn.nil
            refine step_append_any_in rfl (.tmp 20) (.tmp 24) 53 rfl 3 (.int .i64 0) 1 8 Try.underlying53 info3 rfl A' st.1.length c' (ints st.1) (by simp [Act.eval, Act.put]) hR2 Al _ cl _ (by simp [Act.eval, Act.put]) hRl (by decide) (ints_one _) (by have := HLn.out; unfold maxLen; omega) (by have := HLn.out; omega) ?_
            intro A2 c2 W3 hR3 hG3 hA3
            have k3 : W3.heap[w.heap.size + 1]? = W2.heap[w.heap.size + 1]? := hG3.block _ (by have := hGl.size; have h1 : W1.drew.heap.size = W1.heap.size := rfl; omega) (fun h => by have := hA9 _ h; omega)
            have o3 := (World.cell?_of_block (a := ⟨w.heap.size + 1, 0, none⟩) k3).trans o2
            have of3 := (World.frozen?_of_block (a := ⟨w.heap.size + 1, 0, none⟩) k3).trans of2
            refine hK _ _ ?_
            clear hK K
            refine wpAnyIn_ready (rs := [6]) (by kernel_rfl) (by simp) ?_
            refine AllReadyIn.cons rfl (fun K hK => ?_) AllReadyIn.nil
            go_simp
            refine hK _ _ ?_
            clear hK K
            refine wpAnyIn_done (by kernel_rfl) ?_ _
            gi_wp2
            obtain ⟨q1, q2, q3⟩ := hclose W2 W3 _ _ Al cl _ A2 c2 hIl HDA.out ⟨hGl.os, hGl.tape, hGl.output, hGl.size, hGl.block⟩ hRl hAl hR3 hG3 hA3
            refine ⟨KeepsFrom.trans ⟨hb.size, fun k o _ hk _ => (hb.block k (Array.getElem?_eq_some_iff.1 hk).1).trans hk⟩ (by rw [s3]; exact q2), Keep2.trans ⟨hb.block g (by omega), hb.block _ (by omega)⟩ q3, ?_⟩
            rw [HG.out, HV.out]
            exact q1
        · go_simp
          refine hK _ _ ?_
          clear hK K
          refine wpAnyIn_ready (rs := [0, 3]) (by kernel_rfl) (by simp) ?_
          refine AllReadyIn.cons rfl (fun K hK => ?_) (AllReadyIn.cons rfl (fun K hK => ?_) AllReadyIn.nil)
          · go_simp
            refine hK _ _ ?_
            clear hK K
            refine wpAnyIn_ready (rs := [3]) (by kernel_rfl) (by simp) ?_
            refine AllReadyIn.cons rfl (fun K hK => ?_) AllReadyIn.nil
            go_simp
            refine hK _ _ ?_
            clear hK K
            refine wpAnyIn_ready (rs := [4]) (by kernel_rfl) (by simp) ?_
            refine AllReadyIn.cons rfl (fun K hK => ?_) AllReadyIn.nil
            go_simp
            refine ⟨trivial, ?_⟩
            gi_at_call 50
            refine (CallsIn.inRound l (callsIn_wide.2 HLv.out)).mono ?_
            rintro e W2 ⟨Al, cl, rfl, hRl, hAl, hIl, hGl⟩
            have k2 : W2.heap[w.heap.size + 1]? = W1.heap[w.heap.size + 1]? := hGl.block _ (by show w.heap.size + 1 < W1.heap.size; omega) (fun h => (dG _ h).2.1 rfl)
            have o2 := (World.cell?_of_block (a := ⟨w.heap.size + 1, 0, none⟩) k2).trans o0
            have of2 := (World.frozen?_of_block (a := ⟨w.heap.size + 1, 0, none⟩) k2).trans of
            have hR2 := (show Row W1.drew 3 1 A' st.1.length c' (ints st.1) from hR).grew hGl (fun k hk h => (dG k h).2.2 hk)
            refine hK _ _ ?_
            clear hK K
            refine wpAnyIn_ready (rs := [5]) (by kernel_rfl) (by simp) ?_
            refine AllReadyIn.cons rfl (fun K hK => ?_) AllReadyIn.nil
            refine step_append_any_in rfl (.tmp 20) (.tmp 24) 53 rfl 3 (.int .i64 0) 1 8 Try.underlying53 info3 rfl A' st.1.length c' (ints st.1) (by simp [Act.eval, Act.put]) hR2 Al _ cl _ (by simp [Act.eval, Act.put]) hRl (by decide) (ints_one _) (by have := HLn.out; unfold maxLen; omega) (by have := HLn.out; omega) ?_
            intro A2 c2 W3 hR3 hG3 hA3
            have k3 : W3.heap[w.heap.size + 1]? = W2.heap[w.heap.size + 1]? := hG3.block _ (by have := hGl.size; have h1 : W1.drew.heap.size = W1.heap.size := rfl; omega) (fun h => by have := hA9 _ h; omega)
            have o3 := (World.cell?_of_block (a := ⟨w.heap.size + 1, 0, none⟩) k3).trans o2
            have of3 := (World.frozen?_of_block (a := ⟨w.heap.size + 1, 0, none⟩) k3).trans of2
            refine hK _ _ ?_
            clear hK K
            refine wpAnyIn_ready (rs := [6]) (by kernel_rfl) (by simp) ?_
            refine AllReadyIn.cons rfl (fun K hK => ?_) AllReadyIn.nil
            go_simp
            refine hK _ _ ?_
            clear hK K
            refine wpAnyIn_done (by kernel_rfl) ?_ _
            gi_wp2
            obtain ⟨q1, q2, q3⟩ := hclose W2 W3 _ _ Al cl _ A2 c2 hIl HDA.out ⟨hGl.os, hGl.tape, hGl.output, hGl.size, hGl.block⟩ hRl hAl hR3 hG3 hA3
            refine ⟨KeepsFrom.trans ⟨hb.size, fun k o _ hk _ => (hb.block k (Array.getElem?_eq_some_iff.1 hk).1).trans hk⟩ (by rw [s3]; exact q2), Keep2.trans ⟨hb.block g (by omega), hb.block _ (by omega)⟩ q3, ?_⟩
            rw [HG.out, HV.out]
            exact q1
          · go_simp
            refine hK _ _ ?_
            clear hK K
            refine wpAnyIn_ready (rs := [0, 4]) (by kernel_rfl) (by simp) ?_
            refine AllReadyIn.cons rfl (fun K hK => ?_) (AllReadyIn.cons rfl (fun K hK => ?_) AllReadyIn.nil)
            · go_simp
              refine hK _ _ ?_
              clear hK K
              refine wpAnyIn_ready (rs := [4]) (by kernel_rfl) (by simp) ?_
              refine AllReadyIn.cons rfl (fun K hK => ?_) AllReadyIn.nil
              go_simp
              refine ⟨trivial, ?_⟩
              gi_at_call 50
              refine (CallsIn.inRound l (callsIn_wide.2 HLv.out)).mono ?_
              rintro e W2 ⟨Al, cl, rfl, hRl, hAl, hIl, hGl⟩
              have k2 : W2.heap[w.heap.size + 1]? = W1.heap[w.heap.size + 1]? := hGl.block _ (by show w.heap.size + 1 < W1.heap.size; omega) (fun h => (dG _ h).2.1 rfl)
              have o2 := (World.cell?_of_block (a := ⟨w.heap.size + 1, 0, none⟩) k2).trans o0
              have of2 := (World.frozen?_of_block (a := ⟨w.heap.size + 1, 0, none⟩) k2).trans of
              have hR2 := (show Row W1.drew 3 1 A' st.1.length c' (ints st.1) from hR).grew hGl (fun k hk h => (dG k h).2.2 hk)
              refine hK _ _ ?_
              clear hK K
              refine wpAnyIn_ready (rs := [5]) (by kernel_rfl) (by simp) ?_
              refine AllReadyIn.cons rfl (fun K hK => ?_) AllReadyIn.nil
              refine step_append_any_in rfl (.tmp 20) (.tmp 24) 53 rfl 3 (.int .i64 0) 1 8 Try.underlying53 info3 rfl A' st.1.length c' (ints st.1) (by simp [Act.eval, Act.put]) hR2 Al _ cl _ (by simp [Act.eval, Act.put]) hRl (by decide) (ints_one _) (by have := HLn.out; unfold maxLen; omega) (by have := HLn.out; omega) ?_
              intro A2 c2 W3 hR3 hG3 hA3
              have k3 : W3.heap[w.heap.size + 1]? = W2.heap[w.heap.size + 1]? := hG3.block _ (by have := hGl.size; have h1 : W1.drew.heap.size = W1.heap.size := rfl; omega) (fun h => by have := hA9 _ h; omega)
              have o3 := (World.cell?_of_block (a := ⟨w.heap.size + 1, 0, none⟩) k3).trans o2
              have of3 := (World.frozen?_of_block (a := ⟨w.heap.size + 1, 0, none⟩) k3).trans of2
              refine hK _ _ ?_
              clear hK K
              refine wpAnyIn_ready (rs := [6]) (by kernel_rfl) (by simp) ?_
              refine AllReadyIn.cons rfl (fun K hK => ?_) AllReadyIn.nil
              go_simp
              refine hK _ _ ?_
              clear hK K
              refine wpAnyIn_done (by kernel_rfl) ?_ _
              gi_wp2
              obtain ⟨q1, q2, q3⟩ := hclose W2 W3 _ _ Al cl _ A2 c2 hIl HDA.out ⟨hGl.os, hGl.tape, hGl.output, hGl.size, hGl.block⟩ hRl hAl hR3 hG3 hA3
              refine ⟨KeepsFrom.trans ⟨hb.size, fun k o _ hk _ => (hb.block k (Array.getElem?_eq_some_iff.1 hk).1).trans hk⟩ (by rw [s3]; exact q2), Keep2.trans ⟨hb.block g (by omega), hb.block _ (by omega)⟩ q3, ?_⟩
              rw [HG.out, HV.out]
              exact q1
            · go_simp
              refine ⟨trivial, ?_⟩
              gi_at_call 50
              refine (CallsIn.inRound l (callsIn_wide.2 HLv.out)).mono ?_
              rintro e W2 ⟨Al, cl, rfl, hRl, hAl, hIl, hGl⟩
              have k2 : W2.heap[w.heap.size + 1]? = W1.heap[w.heap.size + 1]? := hGl.block _ (by show w.heap.size + 1 < W1.heap.size; omega) (fun h => (dG _ h).2.1 rfl)
              have o2 := (World.cell?_of_block (a := ⟨w.heap.size + 1, 0, none⟩) k2).trans o0
              have of2 := (World.frozen?_of_block (a := ⟨w.heap.size + 1, 0, none⟩) k2).trans of
              have hR2 := (show Row W1.drew 3 1 A' st.1.length c' (ints st.1) from hR).grew hGl (fun k hk h => (dG k h).2.2 hk)
              refine hK _ _ ?_
              clear hK K
              refine wpAnyIn_ready (rs := [0]) (by kernel_rfl) (by simp) ?_
              refine AllReadyIn.cons rfl (fun K hK => ?_) AllReadyIn.nil
              go_simp
              refine hK _ _ ?_
              clear hK K
              refine wpAnyIn_ready (rs := [5]) (by kernel_rfl) (by simp) ?_
              refine AllReadyIn.cons rfl (fun K hK => ?_) AllReadyIn.nil
              refine step_append_any_in rfl (.tmp 20) (.tmp 24) 53 rfl 3 (.int .i64 0) 1 8 Try.underlying53 info3 rfl A' st.1.length c' (ints st.1) (by simp [Act.eval, Act.put]) hR2 Al _ cl _ (by simp [Act.eval, Act.put]) hRl (by decide) (ints_one _) (by have := HLn.out; unfold maxLen; omega) (by have := HLn.out; omega) ?_
              intro A2 c2 W3 hR3 hG3 hA3
              have k3 : W3.heap[w.heap.size + 1]? = W2.heap[w.heap.size + 1]? := hG3.block _ (by have := hGl.size; have h1 : W1.drew.heap.size = W1.heap.size := rfl; omega) (fun h => by have := hA9 _ h; omega)
              have o3 := (World.cell?_of_block (a := ⟨w.heap.size + 1, 0, none⟩) k3).trans o2
              have of3 := (World.frozen?_of_block (a := ⟨w.heap.size + 1, 0, none⟩) k3).trans of2
              refine hK _ _ ?_
              clear hK K
              refine wpAnyIn_ready (rs := [6]) (by kernel_rfl) (by simp) ?_
              refine AllReadyIn.cons rfl (fun K hK => ?_) AllReadyIn.nil
              go_simp
              refine hK _ _ ?_
              clear hK K
              refine wpAnyIn_done (by kernel_rfl) ?_ _
              gi_wp2
              obtain ⟨q1, q2, q3⟩ := hclose W2 W3 _ _ Al cl _ A2 c2 hIl HDA.out ⟨hGl.os, hGl.tape, hGl.output, hGl.size, hGl.block⟩ hRl hAl hR3 hG3 hA3
              refine ⟨KeepsFrom.trans ⟨hb.size, fun k o _ hk _ => (hb.block k (Array.getElem?_eq_some_iff.1 hk).1).trans hk⟩ (by rw [s3]; exact q2), Keep2.trans ⟨hb.block g (by omega), hb.block _ (by omega)⟩ q3, ?_⟩
              rw [HG.out, HV.out]
              exact q1
        · go_simp
          refine hK _ _ ?_
          clear hK K
          refine wpAnyIn_ready (rs := [0, 2]) (by kernel_rfl) (by simp) ?_
          refine AllReadyIn.cons rfl (fun K hK => ?_) (AllReadyIn.cons rfl (fun K hK => ?_) AllReadyIn.nil)
          · go_simp
            refine hK _ _ ?_
            clear hK K
            refine wpAnyIn_ready (rs := [2]) (by kernel_rfl) (by simp) ?_
            refine AllReadyIn.cons rfl (fun K hK => ?_) AllReadyIn.nil
            go_simp
            refine hK _ _ ?_
            clear hK K
            refine wpAnyIn_ready (rs := [4]) (by kernel_rfl) (by simp) ?_
            refine AllReadyIn.cons rfl (fun K hK => ?_) AllReadyIn.nil
            go_simp
            refine ⟨trivial, ?_⟩
            gi_at_call 50
            refine (CallsIn.inRound l (callsIn_wide.2 HLv.out)).mono ?_
            rintro e W2 ⟨Al, cl, rfl, hRl, hAl, hIl, hGl⟩
            have k2 : W2.heap[w.heap.size + 1]? = W1.heap[w.heap.size + 1]? := hGl.block _ (by show w.heap.size + 1 < W1.heap.size; omega) (fun h => (dG _ h).2.1 rfl)
            have o2 := (World.cell?_of_block (a := ⟨w.heap.size + 1, 0, none⟩) k2).trans o0
            have of2 := (World.frozen?_of_block (a := ⟨w.heap.size + 1, 0, none⟩) k2).trans of
            have hR2 := (show Row W1.drew 3 1 A' st.1.length c' (ints st.1) from hR).grew hGl (fun k hk h => (dG k h).2.2 hk)
            refine hK _ _ ?_
            clear hK K
            refine wpAnyIn_ready (rs := [5]) (by kernel_rfl) (by simp) ?_
            refine AllReadyIn.cons rfl (fun K hK => ?_) AllReadyIn.nil
            refine step_append_any_in rfl (.tmp 20) (.tmp 24) 53 rfl 3 (.int .i64 0) 1 8 Try.underlying53 info3 rfl A' st.1.length c' (ints st.1) (by simp [Act.eval, Act.put]) hR2 Al _ cl _ (by simp [Act.eval, Act.put]) hRl (by decide) (ints_one _) (by have := HLn.out; unfold maxLen; omega) (by have := HLn.out; omega) ?_
            intro A2 c2 W3 hR3 hG3 hA3
            have k3 : W3.heap[w.heap.size + 1]? = W2.heap[w.heap.size + 1]? := hG3.block _ (by have := hGl.size; have h1 : W1.drew.heap.size = W1.heap.size := rfl; omega) (fun h => by have := hA9 _ h; omega)
            have o3 := (World.cell?_of_block (a := ⟨w.heap.size + 1, 0, none⟩) k3).trans o2
            have of3 := (World.frozen?_of_block (a := ⟨w.heap.size + 1, 0, none⟩) k3).trans of2
            refine hK _ _ ?_
            clear hK K
            refine wpAnyIn_ready (rs := [6]) (by kernel_rfl) (by simp) ?_
            refine AllReadyIn.cons rfl (fun K hK => ?_) AllReadyIn.nil
            go_simp
            refine hK _ _ ?_
            clear hK K
            refine wpAnyIn_done (by kernel_rfl) ?_ _
            gi_wp2
            obtain ⟨q1, q2, q3⟩ := hclose W2 W3 _ _ Al cl _ A2 c2 hIl HDA.out ⟨hGl.os, hGl.tape, hGl.output, hGl.size, hGl.block⟩ hRl hAl hR3 hG3 hA3
            refine ⟨KeepsFrom.trans ⟨hb.size, fun k o _ hk _ => (hb.block k (Array.getElem?_eq_some_iff.1 hk).1).trans hk⟩ (by rw [s3]; exact q2), Keep2.trans ⟨hb.block g (by omega), hb.block _ (by omega)⟩ q3, ?_⟩
            rw [HG.out, HV.out]
            exact q1
          · go_simp
            refine hK _ _ ?_
            clear hK K
            refine wpAnyIn_ready (rs := [0, 4]) (by kernel_rfl) (by simp) ?_
            refine AllReadyIn.cons rfl (fun K hK => ?_) (AllReadyIn.cons rfl (fun K hK => ?_) AllReadyIn.nil)
            · go_simp
              refine hK _ _ ?_
              clear hK K
              refine wpAnyIn_ready (rs := [4]) (by kernel_rfl) (by simp) ?_
              refine AllReadyIn.cons rfl (fun K hK => ?_) AllReadyIn.nil
              go_simp
              refine ⟨trivial, ?_⟩
              gi_at_call 50
              refine (CallsIn.inRound l (callsIn_wide.2 HLv.out)).mono ?_
              rintro e W2 ⟨Al, cl, rfl, hRl, hAl, hIl, hGl⟩
              have k2 : W2.heap[w.heap.size + 1]? = W1.heap[w.heap.size + 1]? := hGl.block _ (by show w.heap.size + 1 < W1.heap.size; omega) (fun h => (dG _ h).2.1 rfl)
              have o2 := (World.cell?_of_block (a := ⟨w.heap.size + 1, 0, none⟩) k2).trans o0
              have of2 := (World.frozen?_of_block (a := ⟨w.heap.size + 1, 0, none⟩) k2).trans of
              have hR2 := (show Row W1.drew 3 1 A' st.1.length c' (ints st.1) from hR).grew hGl (fun k hk h => (dG k h).2.2 hk)
              refine hK _ _ ?_
              clear hK K
              refine wpAnyIn_ready (rs := [5]) (by kernel_rfl) (by simp) ?_
              refine AllReadyIn.cons rfl (fun K hK => ?_) AllReadyIn.nil
              refine step_append_any_in rfl (.tmp 20) (.tmp 24) 53 rfl 3 (.int .i64 0) 1 8 Try.underlying53 info3 rfl A' st.1.length c' (ints st.1) (by simp [Act.eval, Act.put]) hR2 Al _ cl _ (by simp [Act.eval, Act.put]) hRl (by decide) (ints_one _) (by have := HLn.out; unfold maxLen; omega) (by have := HLn.out; omega) ?_
              intro A2 c2 W3 hR3 hG3 hA3
              have k3 : W3.heap[w.heap.size + 1]? = W2.heap[w.heap.size + 1]? := hG3.block _ (by have := hGl.size; have h1 : W1.drew.heap.size = W1.heap.size := rfl; omega) (fun h => by have := hA9 _ h; omega)
              have o3 := (World.cell?_of_block (a := ⟨w.heap.size + 1, 0, none⟩) k3).trans o2
              have of3 := (World.frozen?_of_block (a := ⟨w.heap.size + 1, 0, none⟩) k3).trans of2
              refine hK _ _ ?_
              clear hK K
              refine wpAnyIn_ready (rs := [6]) (by kernel_rfl) (by simp) ?_
              refine AllReadyIn.cons rfl (fun K hK => ?_) AllReadyIn.nil
              go_simp
              refine hK _ _ ?_
              clear hK K
              refine wpAnyIn_done (by kernel_rfl) ?_ _
              gi_wp2
              obtain ⟨q1, q2, q3⟩ := hclose W2 W3 _ _ Al cl _ A2 c2 hIl HDA.out ⟨hGl.os, hGl.tape, hGl.output, hGl.size, hGl.block⟩ hRl hAl hR3 hG3 hA3
              refine ⟨KeepsFrom.trans ⟨hb.size, fun k o _ hk _ => (hb.block k (Array.getElem?_eq_some_iff.1 hk).1).trans hk⟩ (by rw [s3]; exact q2), Keep2.trans ⟨hb.block g (by omega), hb.block _ (by omega)⟩ q3, ?_⟩
              rw [HG.out, HV.out]
              exact q1
            · go_simp
              refine ⟨trivial, ?_⟩
              gi_at_call 50
              refine (CallsIn.inRound l (callsIn_wide.2 HLv.out)).mono ?_
              rintro e W2 ⟨Al, cl, rfl, hRl, hAl, hIl, hGl⟩
              have k2 : W2.heap[w.heap.size + 1]? = W1.heap[w.heap.size + 1]? := hGl.block _ (by show w.heap.size + 1 < W1.heap.size; omega) (fun h => (dG _ h).2.1 rfl)
              have o2 := (World.cell?_of_block (a := ⟨w.heap.size + 1, 0, none⟩) k2).trans o0
              have of2 := (World.frozen?_of_block (a := ⟨w.heap.size + 1, 0, none⟩) k2).trans of
              have hR2 := (show Row W1.drew 3 1 A' st.1.length c' (ints st.1) from hR).grew hGl (fun k hk h => (dG k h).2.2 hk)
              refine hK _ _ ?_
              clear hK K
              refine wpAnyIn_ready (rs := [0]) (by kernel_rfl) (by simp) ?_
              refine AllReadyIn.cons rfl (fun K hK => ?_) AllReadyIn.nil
              go_simp
              refine hK _ _ ?_
              clear hK K
              refine wpAnyIn_ready (rs := [5]) (by kernel_rfl) (by simp) ?_
              refine AllReadyIn.cons rfl (fun K hK => ?_) AllReadyIn.nil
              refine step_append_any_in rfl (.tmp 20) (.tmp 24) 53 rfl 3 (.int .i64 0) 1 8 Try.underlying53 info3 rfl A' st.1.length c' (ints st.1) (by simp [Act.eval, Act.put]) hR2 Al _ cl _ (by simp [Act.eval, Act.put]) hRl (by decide) (ints_one _) (by have := HLn.out; unfold maxLen; omega) (by have := HLn.out; omega) ?_
              intro A2 c2 W3 hR3 hG3 hA3
              have k3 : W3.heap[w.heap.size + 1]? = W2.heap[w.heap.size + 1]? := hG3.block _ (by have := hGl.size; have h1 : W1.drew.heap.size = W1.heap.size := rfl; omega) (fun h => by have := hA9 _ h; omega)
              have o3 := (World.cell?_of_block (a := ⟨w.heap.size + 1, 0, none⟩) k3).trans o2
              have of3 := (World.frozen?_of_block (a := ⟨w.heap.size + 1, 0, none⟩) k3).trans of2
              refine hK _ _ ?_
              clear hK K
              refine wpAnyIn_ready (rs := [6]) (by kernel_rfl) (by simp) ?_
              refine AllReadyIn.cons rfl (fun K hK => ?_) AllReadyIn.nil
              go_simp
              refine hK _ _ ?_
              clear hK K
              refine wpAnyIn_done (by kernel_rfl) ?_ _
              gi_wp2
              obtain ⟨q1, q2, q3⟩ := hclose W2 W3 _ _ Al cl _ A2 c2 hIl HDA.out ⟨hGl.os, hGl.tape, hGl.output, hGl.size, hGl.block⟩ hRl hAl hR3 hG3 hA3
              refine ⟨KeepsFrom.trans ⟨hb.size, fun k o _ hk _ => (hb.block k (Array.getElem?_eq_some_iff.1 hk).1).trans hk⟩ (by rw [s3]; exact q2), Keep2.trans ⟨hb.block g (by omega), hb.block _ (by omega)⟩ q3, ?_⟩
              rw [HG.out, HV.out]
              exact q1
      · go_simp
        refine hK _ _ ?_
        clear hK K
        refine wpAnyIn_ready (rs := [0, 1]) (by kernel_rfl) (by simp) ?_
        refine AllReadyIn.cons rfl (fun K hK => ?_) (AllReadyIn.cons rfl (fun K hK => ?_) AllReadyIn.nil)
        · go_simp
          refine hK _ _ ?_
          clear hK K
          refine wpAnyIn_ready (rs := [1]) (by kernel_rfl) (by simp) ?_
          refine AllReadyIn.cons rfl (fun K hK => ?_) AllReadyIn.nil
          go_simp
          refine hK _ _ ?_
          clear hK K
          refine wpAnyIn_ready (rs := [2]) (by kernel_rfl) (by simp) ?_
          refine AllReadyIn.cons rfl (fun K hK => ?_) AllReadyIn.nil
          go_simp
          refine hK _ _ ?_
          clear hK K
          refine wpAnyIn_ready (rs := [4]) (by kernel_rfl) (by simp) ?_
          refine AllReadyIn.cons rfl (fun K hK => ?_) AllReadyIn.nil
          go_simp
          refine ⟨trivial, ?_⟩
          gi_at_call 50
          refine (CallsIn.inRound l (callsIn_wide.2 HLv.out)).mono ?_
          rintro e W2 ⟨Al, cl, rfl, hRl, hAl, hIl, hGl⟩
          have k2 : W2.heap[w.heap.size + 1]? = W1.heap[w.heap.size + 1]? := hGl.block _ (by show w.heap.size + 1 < W1.heap.size; omega) (fun h => (dG _ h).2.1 rfl)
          have o2 := (World.cell?_of_block (a := ⟨w.heap.size + 1, 0, none⟩) k2).trans o0
          have of2 := (World.frozen?_of_block (a := ⟨w.heap.size + 1, 0, none⟩) k2).trans of
          have hR2 := (show Row W1.drew 3 1 A' st.1.length c' (ints st.1) from hR).grew hGl (fun k hk h => (dG k h).2.2 hk)
          refine hK _ _ ?_
          clear hK K
          refine wpAnyIn_ready (rs := [5]) (by kernel_rfl) (by simp) ?_
          refine AllReadyIn.cons rfl (fun K hK => ?_) AllReadyIn.nil
          refine step_append_any_in rfl (.tmp 20) (.tmp 24) 53 rfl 3 (.int .i64 0) 1 8 Try.underlying53 info3 rfl A' st.1.length c' (ints st.1) (by simp [Act.eval, Act.put]) hR2 Al _ cl _ (by simp [Act.eval, Act.put]) hRl (by decide) (ints_one _) (by have := HLn.out; unfold maxLen; omega) (by have := HLn.out; omega) ?_
          intro A2 c2 W3 hR3 hG3 hA3
          have k3 : W3.heap[w.heap.size + 1]? = W2.heap[w.heap.size + 1]? := hG3.block _ (by have := hGl.size; have h1 : W1.drew.heap.size = W1.heap.size := rfl; omega) (fun h => by have := hA9 _ h; omega)
          have o3 := (World.cell?_of_block (a := ⟨w.heap.size + 1, 0, none⟩) k3).trans o2
          have of3 := (World.frozen?_of_block (a := ⟨w.heap.size + 1, 0, none⟩) k3).trans of2
          refine hK _ _ ?_
          clear hK K
          refine wpAnyIn_ready (rs := [6]) (by kernel_rfl) (by simp) ?_
          refine AllReadyIn.cons rfl (fun K hK => ?_) AllReadyIn.nil
          go_simp
          refine hK _ _ ?_
          clear hK K
          refine wpAnyIn_done (by kernel_rfl) ?_ _
          gi_wp2
          obtain ⟨q1, q2, q3⟩ := hclose W2 W3 _ _ Al cl _ A2 c2 hIl HDA.out ⟨hGl.os, hGl.tape, hGl.output, hGl.size, hGl.block⟩ hRl hAl hR3 hG3 hA3
          refine ⟨KeepsFrom.trans ⟨hb.size, fun k o _ hk _ => (hb.block k (Array.getElem?_eq_some_iff.1 hk).1).trans hk⟩ (by rw [s3]; exact q2), Keep2.trans ⟨hb.block g (by omega), hb.block _ (by omega)⟩ q3, ?_⟩
          rw [HG.out, HV.out]
          exact q1
        · go_simp
          refine hK _ _ ?_
          clear hK K
          refine wpAnyIn_ready (rs := [0, 2]) (by kernel_rfl) (by simp) ?_
          refine AllReadyIn.cons rfl (fun K hK => ?_) (AllReadyIn.cons rfl (fun K hK => ?_) AllReadyIn.nil)
          · go_simp
            refine hK _ _ ?_
            clear hK K
            refine wpAnyIn_ready (rs := [2]) (by kernel_rfl) (by simp) ?_
            refine AllReadyIn.cons rfl (fun K hK => ?_) AllReadyIn.nil
            go_simp
            refine hK _ _ ?_
            clear hK K
            refine wpAnyIn_ready (rs := [4]) (by kernel_rfl) (by simp) ?_
            refine AllReadyIn.cons rfl (fun K hK => ?_) AllReadyIn.nil
            go_simp
            refine ⟨trivial, ?_⟩
            gi_at_call 50
            refine (CallsIn.inRound l (callsIn_wide.2 HLv.out)).mono ?_
            rintro e W2 ⟨Al, cl, rfl, hRl, hAl, hIl, hGl⟩
            have k2 : W2.heap[w.heap.size + 1]? = W1.heap[w.heap.size + 1]? := hGl.block _ (by show w.heap.size + 1 < W1.heap.size; omega) (fun h => (dG _ h).2.1 rfl)
            have o2 := (World.cell?_of_block (a := ⟨w.heap.size + 1, 0, none⟩) k2).trans o0
            have of2 := (World.frozen?_of_block (a := ⟨w.heap.size + 1, 0, none⟩) k2).trans of
            have hR2 := (show Row W1.drew 3 1 A' st.1.length c' (ints st.1) from hR).grew hGl (fun k hk h => (dG k h).2.2 hk)
            refine hK _ _ ?_
            clear hK K
            refine wpAnyIn_ready (rs := [5]) (by kernel_rfl) (by simp) ?_
            refine AllReadyIn.cons rfl (fun K hK => ?_) AllReadyIn.nil
            refine step_append_any_in rfl (.tmp 20) (.tmp 24) 53 rfl 3 (.int .i64 0) 1 8 Try.underlying53 info3 rfl A' st.1.length c' (ints st.1) (by simp [Act.eval, Act.put]) hR2 Al _ cl _ (by simp [Act.eval, Act.put]) hRl (by decide) (ints_one _) (by have := HLn.out; unfold maxLen; omega) (by have := HLn.out; omega) ?_
            intro A2 c2 W3 hR3 hG3 hA3
            have k3 : W3.heap[w.heap.size + 1]? = W2.heap[w.heap.size + 1]? := hG3.block _ (by have := hGl.size; have h1 : W1.drew.heap.size = W1.heap.size := rfl; omega) (fun h => by have := hA9 _ h; omega)
            have o3 := (World.cell?_of_block (a := ⟨w.heap.size + 1, 0, none⟩) k3).trans o2
            have of3 := (World.frozen?_of_block (a := ⟨w.heap.size + 1, 0, none⟩) k3).trans of2
            refine hK _ _ ?_
            clear hK K
            refine wpAnyIn_ready (rs := [6]) (by kernel_rfl) (by simp) ?_
            refine AllReadyIn.cons rfl (fun K hK => ?_) AllReadyIn.nil
            go_simp
            refine hK _ _ ?_
            clear hK K
            refine wpAnyIn_done (by kernel_rfl) ?_ _
            gi_wp2
            obtain ⟨q1, q2, q3⟩ := hclose W2 W3 _ _ Al cl _ A2 c2 hIl HDA.out ⟨hGl.os, hGl.tape, hGl.output, hGl.size, hGl.block⟩ hRl hAl hR3 hG3 hA3
            refine ⟨KeepsFrom.trans ⟨hb.size, fun k o _ hk _ => (hb.block k (Array.getElem?_eq_some_iff.1 hk).1).trans hk⟩ (by rw [s3]; exact q2), Keep2.trans ⟨hb.block g (by omega), hb.block _ (by omega)⟩ q3, ?_⟩
            rw [HG.out, HV.out]
            exact q1
          · go_simp
            refine hK _ _ ?_
            clear hK K
            refine wpAnyIn_ready (rs := [0, 4]) (by kernel_rfl) (by simp) ?_
            refine AllReadyIn.cons rfl (fun K hK => ?_) (AllReadyIn.cons rfl (fun K hK => ?_) AllReadyIn.nil)
            · go_simp
              refine hK _ _ ?_
              clear hK K
              refine wpAnyIn_ready (rs := [4]) (by kernel_rfl) (by simp) ?_
              refine AllReadyIn.cons rfl (fun K hK => ?_) AllReadyIn.nil
              go_simp
              refine ⟨trivial, ?_⟩
              gi_at_call 50
              refine (CallsIn.inRound l (callsIn_wide.2 HLv.out)).mono ?_
              rintro e W2 ⟨Al, cl, rfl, hRl, hAl, hIl, hGl⟩
              have k2 : W2.heap[w.heap.size + 1]? = W1.heap[w.heap.size + 1]? := hGl.block _ (by show w.heap.size + 1 < W1.heap.size; omega) (fun h => (dG _ h).2.1 rfl)
              have o2 := (World.cell?_of_block (a := ⟨w.heap.size + 1, 0, none⟩) k2).trans o0
              have of2 := (World.frozen?_of_block (a := ⟨w.heap.size + 1, 0, none⟩) k2).trans of
              have hR2 := (show Row W1.drew 3 1 A' st.1.length c' (ints st.1) from hR).grew hGl (fun k hk h => (dG k h).2.2 hk)
              refine hK _ _ ?_
              clear hK K
              refine wpAnyIn_ready (rs := [5]) (by kernel_rfl) (by simp) ?_
              refine AllReadyIn.cons rfl (fun K hK => ?_) AllReadyIn.nil
              refine step_append_any_in rfl (.tmp 20) (.tmp 24) 53 rfl 3 (.int .i64 0) 1 8 Try.underlying53 info3 rfl A' st.1.length c' (ints st.1) (by simp [Act.eval, Act.put]) hR2 Al _ cl _ (by simp [Act.eval, Act.put]) hRl (by decide) (ints_one _) (by have := HLn.out; unfold maxLen; omega) (by have := HLn.out; omega) ?_
              intro A2 c2 W3 hR3 hG3 hA3
              have k3 : W3.heap[w.heap.size + 1]? = W2.heap[w.heap.size + 1]? := hG3.block _ (by have := hGl.size; have h1 : W1.drew.heap.size = W1.heap.size := rfl; omega) (fun h => by have := hA9 _ h; omega)
              have o3 := (World.cell?_of_block (a := ⟨w.heap.size + 1, 0, none⟩) k3).trans o2
              have of3 := (World.frozen?_of_block (a := ⟨w.heap.size + 1, 0, none⟩) k3).trans of2
              refine hK _ _ ?_
              clear hK K
              refine wpAnyIn_ready (rs := [6]) (by kernel_rfl) (by simp) ?_
              refine AllReadyIn.cons rfl (fun K hK => ?_) AllReadyIn.nil
              go_simp
              refine hK _ _ ?_
              clear hK K
              refine wpAnyIn_done (by kernel_rfl) ?_ _
              gi_wp2
              obtain ⟨q1, q2, q3⟩ := hclose W2 W3 _ _ Al cl _ A2 c2 hIl HDA.out ⟨hGl.os, hGl.tape, hGl.output, hGl.size, hGl.block⟩ hRl hAl hR3 hG3 hA3
              refine ⟨KeepsFrom.trans ⟨hb.size, fun k o _ hk _ => (hb.block k (Array.getElem?_eq_some_iff.1 hk).1).trans hk⟩ (by rw [s3]; exact q2), Keep2.trans ⟨hb.block g (by omega), hb.block _ (by omega)⟩ q3, ?_⟩
              rw [HG.out, HV.out]
              exact q1
            · go_simp
              refine ⟨trivial, ?_⟩
              gi_at_call 50
              refine (CallsIn.inRound l (callsIn_wide.2 HLv.out)).mono ?_
              rintro e W2 ⟨Al, cl, rfl, hRl, hAl, hIl, hGl⟩
              have k2 : W2.heap[w.heap.size + 1]? = W1.heap[w.heap.size + 1]? := hGl.block _ (by show w.heap.size + 1 < W1.heap.size; omega) (fun h => (dG _ h).2.1 rfl)
              have o2 := (World.cell?_of_block (a := ⟨w.heap.size + 1, 0, none⟩) k2).trans o0
              have of2 := (World.frozen?_of_block (a := ⟨w.heap.size + 1, 0, none⟩) k2).trans of
              have hR2 := (show Row W1.drew 3 1 A' st.1.length c' (ints st.1) from hR).grew hGl (fun k hk h => (dG k h).2.2 hk)
              refine hK _ _ ?_
              clear hK K
              refine wpAnyIn_ready (rs := [0]) (by kernel_rfl) (by simp) ?_
              refine AllReadyIn.cons rfl (fun K hK => ?_) AllReadyIn.nil
              go_simp
              refine hK _ _ ?_
              clear hK K
              refine wpAnyIn_ready (rs := [5]) (by kernel_rfl) (by simp) ?_
              refine AllReadyIn.cons rfl (fun K hK => ?_) AllReadyIn.nil
              refine step_append_any_in rfl (.tmp 20) (.tmp 24) 53 rfl 3 (.int .i64 0) 1 8 Try.underlying53 info3 rfl A' st.1.length c' (ints st.1) (by simp [Act.eval, Act.put]) hR2 Al _ cl _ (by simp [Act.eval, Act.put]) hRl (by decide) (ints_one _) (by have := HLn.out; unfold maxLen; omega) (by have := HLn.out; omega) ?_
              intro A2 c2 W3 hR3 hG3 hA3
              have k3 : W3.heap[w.heap.size + 1]? = W2.heap[w.heap.size + 1]? := hG3.block _ (by have := hGl.size; have h1 : W1.drew.heap.size = W1.heap.size := rfl; omega) (fun h => by have := hA9 _ h; omega)
              have o3 := (World.cell?_of_block (a := ⟨w.heap.size + 1, 0, none⟩) k3).trans o2
              have of3 := (World.frozen?_of_block (a := ⟨w.heap.size + 1, 0, none⟩) k3).trans of2
              refine hK _ _ ?_
              clear hK K
              refine wpAnyIn_ready (rs := [6]) (by kernel_rfl) (by simp) ?_
              refine AllReadyIn.cons rfl (fun K hK => ?_) AllReadyIn.nil
              go_simp
              refine hK _ _ ?_
              clear hK K
              refine wpAnyIn_done (by kernel_rfl) ?_ _
              gi_wp2
              obtain ⟨q1, q2, q3⟩ := hclose W2 W3 _ _ Al cl _ A2 c2 hIl HDA.out ⟨hGl.os, hGl.tape, hGl.output, hGl.size, hGl.block⟩ hRl hAl hR3 hG3 hA3
              refine ⟨KeepsFrom.trans ⟨hb.size, fun k o _ hk _ => (hb.block k (Array.getElem?_eq_some_iff.1 hk).1).trans hk⟩ (by rw [s3]; exact q2), Keep2.trans ⟨hb.block g (by omega), hb.block _ (by omega)⟩ q3, ?_⟩
              rw [HG.out, HV.out]
              exact q1
  case done =>
    rintro D ys W hD hS hI hK
    have hI : DropS w b m g F most N f who (visits who ls (ys.map (·.1))) W := hI
    rw [hS, visits_down (Nat.le_refl _), Nat.sub_self] at hI
    gi_wp2
    rename_i K0 hK0
    obtain ⟨FT, A', c', hT, i2, i3, i4, i5, i6, i7, i8, i9, i10, i11, -, -, -, cs2, i15⟩ := hI
    dsimp only at hT i5 i8
    have HX := Aside0.mk (And.intro i2 (And.intro i3 (And.intro i9 (And.intro i10 (show w.heap.size + 1 < W.heap.size by omega)))))
    have w0 : W.cell? ⟨w.heap.size, 0, none⟩ = some (.int .i64 who) := (blk_cell i4 0).trans rfl
    have HO := Aside0.mk (show W.cell? ⟨w.heap.size + 1, 0, none⟩ = some (.slice A' (dropO ls who 0).length c') from (blk_cell i5 0).trans rfl)
    have HR := Aside0.mk i8
    have HT := Aside0.mk hT
    have e2 : W.cell? ⟨b, 2, none⟩ = some (.map (some m)) := (World.cell?_of_block (a := ⟨b, 2, none⟩) i6).trans cm
    have HE2 := Aside0.mk e2
    have hbk : ∃ cs t z, W.heap[b]? = some (.cells cs t z) := by
      obtain ⟨sA, sc', m', bs', G', h1, _⟩ := hT
      exact ⟨_, _, _, h1⟩
    obtain ⟨bcs, bt, bz, hbk⟩ := hbk
    have HBk := Aside0.mk hbk
    clear hbk
    have HKD := Aside0.mk (And.intro hD hK)
    have HOP := Aside0.mk (fun (wr : World) (f1 : At) (hT1 : IsTab wr b FT (dropL ls who 0) most N f1) (he : wr.cell? ⟨b, 2, none⟩ = some (.map (some m))) => (show MapAt wr m N f1 ∧ FT m ∧ (∀ w1 N1 f2, MapAt w1 m N1 f2 → Grew (fun k => k = m) wr w1 → IsTab w1 b FT (dropL ls who 0) most N1 f2) by
      obtain ⟨sA, sc', m', -, -, c2, -, -, hmap, hFm, hback⟩ := hT1.open_
      rw [he] at c2
      injection c2 with e
      injection e with e
      injection e with e
      subst e
      exact ⟨hmap, hFm, hback⟩))
    obtain ⟨⟨Dm, hown, hDm⟩, hFm, hback⟩ := HOP.out W f hT e2
    have HFm := Aside0.mk hFm
    have HB := Aside0.mk hback
    have HDM := Aside0.mk hDm
    have HOW := Aside0.mk hown
    have hkw := Maps.keyOf_int_mk Try.underlying3 H2.out.2.2.1
    have HKW := Aside0.mk hkw
    have HS := Aside0.mk (And.intro hmw (And.intro hbw s3))
    have HOk := Aside0.mk H2.out.2.2.2
    obtain ⟨out, hout⟩ : ∃ o, dropO ls who 0 = o := ⟨_, rfl⟩
    obtain ⟨L2, hL2⟩ : ∃ o, dropL ls who 0 = o := ⟨_, rfl⟩
    rw [hout] at HO HR HOk
    rw [hL2] at HT HB HOP
    have HOut := Aside0.mk (And.intro hout hL2)
    clear hout hL2
    clear hT i2 i3 i4 i5 i6 i7 i8 i9 i10 i11 i15 hown hDm hFm hback hS hD hK hkw hI0 b0 b1 b2 hB hmc hT0 hF0 hbs cm c0 h
    refine wpIn_wide.2 (wp_region_noPanic ?_)
    go_region_law (first
      | (refine step_delete_own rfl (.tmp 29) (.tmp 30) 91 3 rfl 3 keyed Try.underlying91 _ m N Dm (by simp [Act.eval, Act.put]) (show W.drew.ownsMap Try.prog 3 (plainElem Try.prog 3) m N Dm from HOW.out) (.int .i64 who) (.int .i64 who) (by simp [Act.eval, Act.put]) HKW.out ?_
         intro W1 hown1 hturn1
         have HG1 := Aside0.mk (show Grew (fun k => k = m) W W1 from ⟨(grew_turned hturn1).os, (grew_turned hturn1).tape, (grew_turned hturn1).output, (grew_turned hturn1).size, (grew_turned hturn1).block⟩)
         have HM1 := Aside0.mk (MapAt.del (w := W) (w' := W1) (m := m) (N := N) (N' := N) HDM.out H2.out.2.2.1 hown1)
         clear hown1 hturn1))
    all_goals
      refine NoPanic.normal ?_
      refine hK0 _ _ (wpIn_wide.2 ?_)
      have HT1 := Aside0.mk (HB.out W1 N _ HM1.out HG1.out)
      have HM := Aside0.mk (fun (k : Nat) (hk : k < W.heap.size) (hn : k ≠ m) (wr : World) (hg : Grew (fun k => k = m) W wr) => hg.block k hk hn)
      have o1 : W1.cell? ⟨w.heap.size + 1, 0, none⟩ = some (.slice A' out.length c') := (World.cell?_of_block (a := ⟨w.heap.size + 1, 0, none⟩) (HM.out _ HX.out.2.2.2.2 (by have := HS.out.1; omega) W1 HG1.out)).trans HO.out
      have HLn := Aside0.mk (And.intro HR.out.2.1 HR.out.2.2.1)
      go_wp2_with fail
      go_loopg [33] out.length (fun gg v wr => ∃ j : Nat, j ≤ out.length ∧ out.length - j ≤ gg ∧ v = .int .i64 j ∧ Aside0 (IsTab wr b FT L2 most N (delsT (f.del who) (out.take j))) ∧ Aside0 (Grew (fun k => k = m) W wr))
      case atStart => exact ⟨0, by omega, by omega, rfl, HT1, HG1⟩
      case round =>
        obtain ⟨j, hj, hgg, rfl, HTj, HGj⟩ := hrel
        have HEb := Aside0.mk ((World.cell?_of_block (a := ⟨b, 2, none⟩) (HM.out b (by have := HX.out.2.2.2.1.size; have := HS.out.2.1; omega) (fun e => HX.out.2.1 _ _ _ (e ▸ HBk.out)) wr HGj.out)).trans HE2.out)
        have HRj := Aside0.mk (HR.out.grew HGj.out (fun k hk e => by have h1 := HX.out.2.2.1 k hk; have h2 := HS.out.1; omega))
        by_cases hlt : j < out.length
        · have t1 : (j : Int) < out.length := by omega
          have t0 : 0 ≤ (j : Int) := by omega
          obtain ⟨ad, hA', q0⟩ := Kd.at_int HRj.out.readsI (j : Int) (by omega) (by omega)
          subst hA'
          rw [Int.toNat_natCast, show rd out (j : Int) = out.getD j 0 from by simp [rd]] at q0
          have hxm : out.getD j 0 ∈ out := by rw [List.getD_eq_getElem?_getD, List.getElem?_eq_getElem hlt]; exact List.getElem_mem hlt
          have HStep := Aside0.mk (show out.take (j + 1) = out.take j ++ [out.getD j 0] by
            have e : out[j]? = some (out.getD j 0) := by rw [List.getD_eq_getElem?_getD, List.getElem?_eq_getElem hlt]; rfl
            rw [List.take_add_one, e]; rfl)
          generalize out.getD j 0 = x at q0 hxm HStep
          have hx := HOk.out x hxm
          obtain ⟨⟨D1, hown1, hD1⟩, -, hback1⟩ := HOP.out wr _ HTj.out HEb.out
          have HO1 := Aside0.mk hown1
          have HB1 := Aside0.mk hback1
          have HD1 := Aside0.mk hD1
          have HKx := Aside0.mk (Maps.keyOf_int_mk Try.underlying3 hx)
          have HXo := Aside0.mk hx
          have eb := HEb.out
          have WJ := Aside0.mk (show wrap64 ((j : Int) + 1) = ((j + 1 : Nat) : Int) by have := HLn.out; unfold maxLen at this; unfold wrap64; omega)
          have HLT := Aside0.mk hlt
          clear hown1 hD1 hback1 hxm hx o1 hlt
          go_wp2_with (first | (at_delete; refine wpList_delete_own _ rfl _ _ 91 3 rfl 3 keyed Try.underlying91 _ m N D1 rfl HO1.out _ _ rfl HKx.out ?_; intro W5 hown5 hturn5) | fail)
          have HG5 := Aside0.mk (HGj.out.trans (grew_turned hturn5) (fun k hk => .inl hk))
          have HT5 := Aside0.mk (HB1.out W5 N _ (MapAt.del (w := wr) (w' := W5) (m := m) (N := N) (N' := N) HD1.out HXo.out hown5) (grew_turned hturn5))
          clear hown5 hturn5 q0 eb
          go_wp2
          go_roundg (out.length - (j + 1))
          case measure => have := HLT.out; omega
          case rel => exact ⟨j + 1, by have := HLT.out; omega, by have := HLT.out; omega, by rw [WJ.out], ⟨by rw [HStep.out, dels_snoc]; exact HT5.out⟩, HG5⟩
        · obtain rfl : j = out.length := by omega
          rw [List.take_length] at HTj
          have t1 : ¬ (out.length : Int) < out.length := by omega
          have o5 : wr.cell? ⟨w.heap.size + 1, 0, none⟩ = some (.slice A' out.length c') := (World.cell?_of_block (a := ⟨w.heap.size + 1, 0, none⟩) (HM.out _ HX.out.2.2.2.2 (by have := HS.out.1; omega) wr HGj.out)).trans HO.out
          have kD : wr.heap[D]? = some (.deferred (some [])) := (HM.out D (Array.getElem?_eq_some_iff.1 HKD.out.2).1 (by have h1 := HKD.out.1; have h2 := HS.out; omega) wr HGj.out).trans HKD.out.2
          clear o1 hlt
          go_wp2
          refine ⟨by simp, .inl ⟨_, _, rfl, run_takeDeferred kD, ?_⟩⟩
          refine ⟨_, results_tmp rfl _ _ _, ?_⟩
          rw [HOut.out.1, HOut.out.2]
          obtain ⟨x1, x2, x3, x4, x5⟩ := HX.out
          obtain ⟨d1, d2⟩ := HKD.out
          obtain ⟨y1, y2, y3⟩ := HS.out
          have hp : ∀ k, k ≠ D → (wr.putObj D (.deferred none)).heap[k]? = wr.heap[k]? := fun k hk => World.putObj_heap_other (fun e => hk e)
          have hps : (wr.putObj D (.deferred none)).heap.size = wr.heap.size := by simp [World.putObj]
          have nFD : ∀ k, FT k → k ≠ D := fun k hk e => by
            rcases (x1 k hk).2.1 with h | ⟨cs, t, h, _⟩
            · omega
            · rw [e, d2] at h; cases h
          have nFA : ∀ k, FT k → ¬ blk A' k := fun k hk h => by
            obtain ⟨cur, hc⟩ := HR.out.typed h
            exact (x1 k hk).2.1.ne x2 (by decide) hc
          have nAD : ∀ k, blk A' k → k ≠ D := fun k hk e => by
            obtain ⟨cur, hc⟩ := HR.out.typed hk
            rw [e, d2] at hc; cases hc
          have szr := HGj.out.size
          refine ⟨A', c', rfl, HRj.out.move (fun k hk _ => hp k (nAD k hk)), fun k hk => by have := x3 k hk; omega, ?_, ?_⟩
          · refine (HTj.out.move (fun k hk _ => hp k (nFD k hk))).mono (fun k _ hk => ⟨(x1 k hk).1, nFA k hk⟩)
          · have hg1 : Grew F w wr := x4.trans HGj.out (fun k hk => by subst hk; exact (x1 _ HFm.out).1)
            refine ⟨hg1.os, hg1.tape, hg1.output, by rw [hps]; exact hg1.size, fun k hk hn => (hp k (by omega)).trans (hg1.block k hk hn)⟩
  case stop =>
    rintro D c pre W _ _ h _
    exact h.elim
end Go.Proofs.Ytagdgkimjgomlaa.Ln
