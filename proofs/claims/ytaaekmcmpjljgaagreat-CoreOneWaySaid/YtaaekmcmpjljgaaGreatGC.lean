import Derived.RangeFuncNested
import Derived.RangeFuncBound
import Derived.RangeFuncCalls
import Derived.RangeFuncLeaves
import Derived.Shelf.RegionOpen
import Derived.WalkKit
import Derived.OwnWalkIn
import Derived.TacticsInMore
import Derived.LoopNIn
import Derived.LoopIn
import Derived.Maps.OwnIn
import Derived.Test.YtaaekmcmpjljgaaGreatGA
import Derived.Test.YtaaekmcmpjljgaaGreatBk
import Derived.Test.YtaaekmcmpjljgaaGreatTB
import Derived.OrdersIn
import Derived.Deep.RegionLaw
import Derived.Deep.RegionHeld3
import Derived.BigQuiet
import Derived.Test.YtaaekmcmpjljgaaGreatGB
namespace Go.Proofs.YtaaekmcmpjljgaaGreat.Gr
open Go.RowKit Go.Proofs.YtaaekmcmpjljgaaGreatW.PrintWords Go.Proofs.YtaaekmcmpjljgaaGreatW.PrintWords.Kd Go.Proofs.YtaaekmcmpjljgaaGreatW.PrintLast Go.Proofs.YtaaekmcmpjljgaaGreatW.PrintMore Go.Proofs.YtaaekmcmpjljgaaGreat.PMd Go.Proofs.YtaaekmcmpjljgaaGreat.Ln
attribute [local go_sem] Oper.semAt_some
set_option linter.unusedVariables false
set_option linter.unusedSimpArgs false
set_option maxHeartbeats 1000000 in
theorem Values_in (F : Fence) (n : Nat) (hf : F.fn 95) (hro : F.round = none) (a : Option Addr) (len cap : Nat) (w : World) :
    CallsIn F n Tryz.prog 95 #[.slice a len cap] w fun e w' => e = .returned (.func (.func 114) #[] #[.pointer (some ⟨w.heap.size, 0, none⟩)]) ∧ w' = w.alloc (.cells #[.slice a len cap] 45) := by
  refine callsIn_of_wp Tryz.func95 rfl hf ?_ hro
  simp only [Tryz.ntmps95, List.size_toArray, List.length_cons, List.length_nil, Nat.reduceAdd, Nat.reduceSub, Array.replicate_succ, Array.replicate_zero, List.push_toArray, List.append_toArray, List.nil_append, List.cons_append]
  gi_wp2
  go_ret
  exact ⟨rfl, rfl⟩
theorem Keep2.lt1 {g Bs : Nat} {W W' : World} (h : Keep2 g Bs W W') (hg : g < W.heap.size) : g < W'.heap.size := by
  have h1 := h.1
  rw [Array.getElem?_eq_getElem hg] at h1
  exact (Array.getElem?_eq_some_iff.1 h1).1
theorem Keep2.lt2 {g Bs : Nat} {W W' : World} (h : Keep2 g Bs W W') (hg : Bs < W.heap.size) : Bs < W'.heap.size := by
  have h1 := h.2
  rw [Array.getElem?_eq_getElem hg] at h1
  exact (Array.getElem?_eq_some_iff.1 h1).1
def edV (e : Ed) : Value := .agg #[.int .i64 e.1, .int .i64 e.2]
set_option maxRecDepth 100000 in
set_option maxHeartbeats 2000000 in
theorem vals1_in (F : Fence) (n : Nat) (hf : F.fn 114) (hro : F.round = none) (hn : 1 ≤ n) (lp Bs g : Nat) (A : Option Addr) (cap : Nat) (l : List Ed) (J Jx : List (Fin l.length) → World → Prop) (B : Nat)
    (hJ : AbidesFrom B J)
    (hY : ∀ pre x W, J pre W → pre.length < l.length → YieldAt F (n - 1) Tryz.prog lp #[edV (l.getD x.1 (0, 0))] W fun e W' =>
      (e = .returned (.bool true) ∧ J (pre ++ [x]) W' ∧ Keep2 g Bs W W') ∨ (e = .returned (.bool false) ∧ Jx (pre ++ [x]) W'))
    (W : World) (hBs : W.cell? ⟨Bs, 0, none⟩ = some (.slice A l.length cap)) (hc : ∀ j, j < l.length → ∃ off, A = some ⟨g, off, none⟩ ∧ W.cell? ⟨g, off + j * 2, none⟩ = some (.int .i64 (l.getD j (0, 0)).1) ∧ W.cell? ⟨g, off + j * 2 + 1, none⟩ = some (.int .i64 (l.getD j (0, 0)).2))
    (hgW : 0 < l.length → g < W.heap.size) (hBW : Bs < W.heap.size) (hl : l.length ≤ 1000000) (h0 : J [] W) :
    CallsIn F n Tryz.prog 114 #[.func (.yield lp) #[] #[], .pointer (some ⟨Bs, 0, none⟩)] W fun e W' => (∃ v, e = .returned v) ∧
      ((∃ ys, ys.map (·.1) = List.range l.length ∧ J ys W') ∨ (∃ pre, True ∧ Jx pre W')) := by
  have hu := Tryz.underlying87
  refine callsIn_of_wp Tryz.func114 rfl hf ?_ hro
  simp only [Tryz.ntmps114, List.size_toArray, List.length_cons, List.length_nil, Nat.reduceAdd, Nat.reduceSub, Array.replicate_succ, Array.replicate_zero, List.push_toArray, List.append_toArray, List.nil_append, List.cons_append]
  gi_wp2
  gi_loopw [7] (fun i wr => ∃ (k : Nat) (pre : List (Fin l.length)), k ≤ l.length ∧ i = .int .i64 (k : Int) ∧ pre.map (·.1) = List.range k ∧ J pre wr ∧ Keep2 g Bs W wr)
    (fun i _ => l.length - (intOf i).toNat)
  case atStart => exact ⟨0, [], Nat.zero_le _, rfl, rfl, h0, Keep2.refl _ _ _⟩
  case round =>
    obtain ⟨k, pre, hk, rfl, hp, hJs, hkk⟩ := hrel
    by_cases hlt : k < l.length
    · obtain ⟨off, rfl, q0, q1⟩ := hc k hlt
      have q0' : wr.cell? ⟨g, off + k * 2, none⟩ = some (.int .i64 (l.getD k (0, 0)).1) := (World.cell?_of_block (a := ⟨g, off + k * 2, none⟩) hkk.1).trans q0
      have q1' : wr.cell? ⟨g, off + k * 2 + 1, none⟩ = some (.int .i64 (l.getD k (0, 0)).2) := (World.cell?_of_block (a := ⟨g, off + k * 2 + 1, none⟩) hkk.1).trans q1
      have hplen : pre.length < l.length := by
        have h1 := congrArg List.length hp
        rw [List.length_map, List.length_range] at h1; omega
      have t1 : 0 ≤ (k : Int) := by omega
      have t2 : (k : Int) < (l.length : Int) := by omega
      have wm : wrap64 ((k : Int) + 1) = ((k + 1 : Nat) : Int) := by unfold wrap64; omega
      have hY' := hY
      have hYk := hY' pre ⟨k, hlt⟩
      clear hY' q0 q1
      dsimp only at hYk
      obtain ⟨⟨x, y⟩, hxy⟩ : ∃ e, e = l.getD k (0, 0) := ⟨_, rfl⟩
      rw [← hxy] at hYk q0' q1'
      clear hxy
      dsimp only at q0' q1'
      have hJ1 := hJ _ _ _ none hJs (World.grownBy_alloc wr (.cells #[.int .i64 x, .int .i64 y] 87) none) (fun r e => by cases e)
      have hbd := below_alloc (Below.refl wr.heap.size wr) (.cells #[.int .i64 x, .int .i64 y] 87)
      have hk1 : Keep2 g Bs W (wr.alloc (.cells #[.int .i64 x, .int .i64 y] 87)) := ⟨(hbd.block g (Gr.Keep2.lt1 hkk (hgW (by omega)))).trans hkk.1, (hbd.block Bs (Gr.Keep2.lt2 hkk hBW)).trans hkk.2⟩
      obtain ⟨fn, tmps, assign, body, hy, hR⟩ := hYk _ hJ1 hplen
      unfold edV at hy
      gi_wp2
      refine hR.mono ?_
      rintro e W3 (⟨rfl, hJ3, hk3⟩ | ⟨rfl, hJx3⟩)
      · gi_wp2
        go_roundw
        case rel =>
          refine ⟨k + 1, _, by omega, by first | rw [wm] | simp, ?_, hJ3, hk1.trans hk3⟩
          rw [List.map_append, hp, List.range_succ]
          rfl
        case measure => simp [intOf]; omega
      · gi_wp2
        refine bodyPost_ret (results_none rfl _ _ _) rfl ?_
        exact ⟨⟨_, rfl⟩, .inr ⟨_, trivial, hJx3⟩⟩
    · obtain rfl : k = l.length := by omega
      have t2 : ¬ ((l.length : Int) < (l.length : Int)) := by omega
      gi_wp2
      go_end0
      exact ⟨⟨_, rfl⟩, .inl ⟨pre, hp, hJs⟩⟩
theorem vals_stops (F : Fence) (n : Nat) (hf : F.fn 114) (hro : F.round = none) (hn : 1 ≤ n) (Bs g : Nat) (A : Option Addr) (cap : Nat) (l : List Ed) (w : World) (hBw : Bs < w.heap.size) (hgw : 0 < l.length → g < w.heap.size)
    (hBs : w.cell? ⟨Bs, 0, none⟩ = some (.slice A l.length cap)) (hc : ∀ j, j < l.length → ∃ off, A = some ⟨g, off, none⟩ ∧ w.cell? ⟨g, off + j * 2, none⟩ = some (.int .i64 (l.getD j (0, 0)).1) ∧ w.cell? ⟨g, off + j * 2 + 1, none⟩ = some (.int .i64 (l.getD j (0, 0)).2)) (hl : l.length ≤ 1000000) :
    SeqStopsK F n Tryz.prog 114 #[.pointer (some ⟨Bs, 0, none⟩)] (fun x : Fin l.length => #[edV (l.getD x.1 (0, 0))]) (Keep2 g Bs) (fun ys => ys.map (·.1) = List.range l.length) (fun _ => True) l.length w :=
  fun lp J Jx W hW hJ _ hY h0 => vals1_in F n hf hro hn lp Bs g A cap l J Jx _ hJ hY W ((hW.cell (p := ⟨Bs, 0, none⟩) hBw).trans hBs)
    (fun j hj => by
      obtain ⟨off, h1, h2, h3⟩ := hc j hj
      exact ⟨off, h1, (hW.cell (p := ⟨g, off + j * 2, none⟩) (hgw (by omega))).trans h2, (hW.cell (p := ⟨g, off + j * 2 + 1, none⟩) (hgw (by omega))).trans h3⟩)
    (fun h => Nat.lt_of_lt_of_le (hgw h) hW.size) (Nat.lt_of_lt_of_le hBw hW.size) hl h0
end Go.Proofs.YtaaekmcmpjljgaaGreat.Gr
namespace Go.Proofs.YtaaekmcmpjljgaaGreat.Ln
open Go.RowKit Go.Proofs.YtaaekmcmpjljgaaGreatW.PrintWords Go.Proofs.YtaaekmcmpjljgaaGreatW.PrintLast Go.Proofs.YtaaekmcmpjljgaaGreatW.PrintMore Go.Proofs.YtaaekmcmpjljgaaGreat.PMd
open Go.Maps
open Go.Sort (grow)
attribute [local go_sem] Oper.semAt_some
set_option linter.unusedVariables false
set_option linter.unusedSimpArgs false
theorem run_append_any {P : Program} (w : World) (t ty e : TypeId) (i : TypeInfo) (z : Value) (size bytes : Nat) (ht : P.underlying t = some (.slice e)) (hi : P.info? e = some i) (hz : i.zero = some z)
    (hsize : i.size = size) (hby : i.bytes = bytes) (hzs : z.cells.size = size) (A : Option Addr) (n cap : Nat) (xs : List Value) (hR : Row w e size A n cap xs)
    (Al : Option Addr) (m c : Nat) (news : List Value) (hRl : Row w e size Al m c news) (hsz : 0 < size) (h1 : ∀ u ∈ news, u.oneCell' = true)
    (h63 : n + m ≤ maxLen) (hbytes : (n + m) * bytes ≤ 140737488355328) :
    ∃ A' cap' w', (Builtin.append_ #[t, t] ty #[.slice A n cap, .slice Al m c]).run P w = .ok (.slice A' (n + m) cap') w' ∧ Row w' e size A' (n + m) cap' (xs ++ news) ∧ Grew (blk A) w w' ∧
      (∀ k, blk A' k → blk A k ∨ w.heap.size ≤ k) := by
  by_cases hm : 0 < m
  · obtain ⟨g, off, cur, rfl, hg, hsz, hc⟩ := hRl.at_ hm
    exact run_append_row w t ty e i z size bytes ht hi hz hsize hby hzs A n cap xs hR ⟨g, off, none⟩ m c news hRl.1 (fun j u hu => by rw [Addr.add_lit]; exact (hc j u hu).1) h1 h63 hbytes
  · obtain rfl : m = 0 := by omega
    have hnews : news = [] := List.eq_nil_of_length_eq_zero (by simpa using hRl.1)
    subst hnews
    cases Al with
    | some ad => exact run_append_row w t ty e i z size bytes ht hi hz hsize hby hzs A n cap xs hR ad 0 c [] (by simp) (fun j u hu => by simp at hu) (by simp) h63 hbytes
    | none =>
      refine ⟨A, cap, w, ?_, by rw [List.append_nil]; exact hR, Grew.refl _ _, fun k hk => .inl hk⟩
      have hn := hR.2.1
      cases A with
      | none => simp [Builtin.append_, run_underlying ht, sizeOf, typeInfo, hi, Builtin.lenOf, Builtin.firstCells, hn]
      | some a => simp [Builtin.append_, run_underlying ht, sizeOf, typeInfo, hi, Builtin.lenOf, Builtin.firstCells, hn, storeCells]
theorem step_append_any_in {F : Fence} {nF : Nat} {P : Program} {ops : Array Oper} {o : Oper} {a : Act} {w : World} {K : Act → World → Prop} {Q : Exit → Act → World → Prop} {E : Prop} (hgd : o.guard = none) (s x : Operand) (t : TypeId)
    (ho : o.op = .call { callee := .builtin .append, args := #[s, x], argTypes := #[t, t] })
    (e : TypeId) (z : Value) (size bytes : Nat) (ht : P.underlying t = some (.slice e)) (hinfo : (P.info? e).map (fun i => (i.zero, i.size, i.bytes)) = some (some z, size, bytes))
    (hzs : z.cells.size = size) (A : Option Addr) (n cap : Nat) (xs : List Value) (hs : a.eval s = .slice A n cap) (hR : Row w e size A n cap xs)
    (Al : Option Addr) (m c : Nat) (news : List Value) (hx : a.eval x = .slice Al m c) (hRl : Row w e size Al m c news) (hsz : 0 < size) (h1 : ∀ u ∈ news, u.oneCell' = true)
    (h63 : n + m ≤ maxLen) (hbytes : (n + m) * bytes ≤ 140737488355328)
    (h : ∀ A' cap' w', Row w' e size A' (n + m) cap' (xs ++ news) → Grew (blk A) w w' → (∀ k, blk A' k → blk A k ∨ w.heap.size ≤ k) → K (a.put o.dst (.slice A' (n + m) cap')) w') :
    if Region.wanted o (yielded ops a.tmps) = true then Oper.wpIn F nF P o a w K Q else E := by
  have hw : Region.wanted o (yielded ops a.tmps) = true := by simp [Region.wanted, hgd]
  rw [if_pos hw]
  cases hi : P.info? e with
  | none => rw [hi] at hinfo; cases hinfo
  | some i =>
    rw [hi] at hinfo
    obtain ⟨hz, hs1, hb1⟩ : i.zero = some z ∧ i.size = size ∧ i.bytes = bytes := by simpa using hinfo
    obtain ⟨A', cap', w', hr, h2, h3, h4⟩ := run_append_any (P := P) w t o.type e i z size bytes ht hi hz hs1 hb1 hzs A n cap xs hR Al m c news hRl hsz h1 h63 hbytes
    unfold Oper.wpIn
    refine ⟨?_, ?_⟩
    · simp [Oper.about, ho, resolve, Target.leads, Sem.run_pure]
    · rw [Oper.semAt_plain F _ _ (by rw [ho]; intro c hc'; cases hc')]
      simp [execOp, ho, resolve, invoke, builtin, hs, hx, hr, Result.andThen]
      exact h _ _ _ h2 h3 h4
end Go.Proofs.YtaaekmcmpjljgaaGreat.Ln
namespace Go.Proofs.YtaaekmcmpjljgaaGreat.Gr
open Go.RowKit Go.Proofs.YtaaekmcmpjljgaaGreatW.PrintWords Go.Proofs.YtaaekmcmpjljgaaGreatW.PrintWords.Kd Go.Proofs.YtaaekmcmpjljgaaGreatW.PrintLast Go.Proofs.YtaaekmcmpjljgaaGreatW.PrintMore Go.Proofs.YtaaekmcmpjljgaaGreat.PMd Go.Proofs.YtaaekmcmpjljgaaGreat.Ln
open Go.Maps
open Go.Sort (grow)
attribute [local go_sem] Oper.semAt_some
set_option linter.unusedVariables false
set_option linter.unusedSimpArgs false
def oW0 : Oper := { dst := some 15, op := Op.load 45 (Operand.tmp 7), type := 45, pos := "rule.go:40", after := #[], guard := none }
def oW1 : Oper := { dst := some 16, op := Op.load 122 (Operand.tmp 5), type := 122, pos := "rule.go:40", after := #[], guard := none }
def oW2 : Oper := { dst := some 17, op := Op.load 87 (Operand.tmp 8), type := 87, pos := "rule.go:40", after := #[], guard := none }
def oW3 : Oper := { dst := some 18, op := Op.call { callee := Callee.value (Operand.tmp 16), args := #[Operand.tmp 17], argTypes := #[87] }, type := 3, pos := "rule.go:40", after := #[{ on := 1, ground := Ground.data }, { on := 2, ground := Ground.data }], guard := none }
def oW4 : Oper := { dst := some 19, op := Op.load 122 (Operand.tmp 5), type := 122, pos := "rule.go:40", after := #[], guard := none }
def oW5 : Oper := { dst := some 20, op := Op.load 87 (Operand.tmp 8), type := 87, pos := "rule.go:40", after := #[], guard := none }
def oW6 : Oper := { dst := some 21, op := Op.call { callee := Callee.value (Operand.tmp 19), args := #[Operand.tmp 20], argTypes := #[87] }, type := 3, pos := "rule.go:40", after := #[{ on := 4, ground := Ground.data }, { on := 5, ground := Ground.data }, { on := 3, ground := Ground.chain }], guard := none }
def oW7 : Oper := { dst := some 22, op := Op.build 87 #[(0, Operand.tmp 18), (1, Operand.tmp 21)], type := 87, pos := "rule.go:40", after := #[{ on := 3, ground := Ground.data }, { on := 6, ground := Ground.data }], guard := none }
def oW8 : Oper := { dst := some 23, op := Op.buildSlice 45 1 #[(0, Operand.tmp 22)], type := 45, pos := "rule.go:40", after := #[{ on := 7, ground := Ground.data }], guard := none }
def oW9 : Oper := { dst := some 24, op := Op.call { callee := Callee.builtin Builtin.append, args := #[Operand.tmp 15, Operand.tmp 23], argTypes := #[45, 45] }, type := 45, pos := "rule.go:40", after := #[{ on := 0, ground := Ground.data }, { on := 8, ground := Ground.data }, { on := 6, ground := Ground.chain }], guard := none }
def oW10 : Oper := { dst := none, op := Op.store 45 (Operand.tmp 7) (Operand.tmp 24), type := 0, pos := "rule.go:40", after := #[{ on := 9, ground := Ground.data }, { on := 9, ground := Ground.chain }, { on := 0, ground := Ground.phase }, { on := 1, ground := Ground.phase }, { on := 2, ground := Ground.phase }, { on := 3, ground := Ground.phase }, { on := 4, ground := Ground.phase }, { on := 5, ground := Ground.phase }, { on := 6, ground := Ground.phase }, { on := 7, ground := Ground.phase }, { on := 8, ground := Ground.phase }, { on := 9, ground := Ground.phase }], guard := none }
def opsW : Array Oper := #[oW0, oW1, oW2, oW3, oW4, oW5, oW6, oW7, oW8, oW9, oW10]
theorem infoEd : (Tryz.prog.info? 87).map (fun i => (i.zero, i.size, i.bytes)) = some (some (.agg #[(.int .i64 0), (.int .i64 0)]), 2, 16) := by kernel_rfl
theorem edge_one (z : Int) : ∀ u ∈ [Value.int .i64 z, Value.int .i64 z], u.oneCell' = true := by
  intro u hu
  simp at hu
  subst hu
  rfl
theorem edge_row {w : World} {p : Nat} {z : Int} (h : w.heap[p]? = some (.cells #[.int .i64 z, .int .i64 z] 87 (0, 0))) : Row w 87 2 (some ⟨p, 0, none⟩) 1 1 [.int .i64 z, .int .i64 z] :=
  ⟨by simp, by simp, by unfold maxLen; simp, .inr ⟨p, 0, _, rfl, h, by simp, by simp⟩⟩
set_option maxHeartbeats 16000000 in
set_option maxRecDepth 100000 in
theorem ways5 (lp nF ge : Nat) (Q : Exit → Act → World → Prop) (t0 t1 t2 t3 t4 t6 t9 t10 t11 t12 t13 t14 : Value) (b5 b7 Bx n co : Nat) (Ao : Option Addr) (xs : List Value) (ex ey z : Int) (w : World) (ege : ∀ args w, (callFunc ge args).run Tryz.prog w = .ok (.enter ge args) w)
    (Z5 : w.cell? ⟨b5, 0, none⟩ = some (.func (.func ge) #[] #[])) (Z7 : w.heap[b7]? = some (.cells #[.slice Ao n co] 45 (0, 0))) (X0 : w.cell? ⟨Bx, 0, none⟩ = some (.int .i64 ex)) (X1 : w.cell? ⟨Bx, 1, none⟩ = some (.int .i64 ey))
    (HR : Row w 87 2 Ao n co xs) (hn : n ≤ 400000)
    (HE : ∀ W, Calls Tryz.prog ge #[.agg #[.int .i64 ex, .int .i64 ey]] W fun r w' => r = .returned (.int .i64 z) ∧ Below W.heap.size W w')
    (hQ : ∀ (a : Act) (W W2 : World) (A9 : Option Addr) (c9 : Nat), Below w.heap.size w W → Row W2 87 2 A9 (n + 1) c9 (xs ++ [.int .i64 z, .int .i64 z]) → Grew (blk Ao) W W2 → (∀ k, blk A9 k → blk Ao k ∨ W.heap.size ≤ k) → Q .normal a (W2.setCell ⟨b7, 0, none⟩ (.slice A9 (n + 1) c9))) :
    wpAnyIn (Fence.wide.inRound lp) nF Tryz.prog Region.Mode.any opsW Q 11 #[false, false, false, false, false, false, false, false, false, false, false] { tmps := #[t0, t1, t2, t3, t4, .pointer (some ⟨b5, 0, none⟩), t6, .pointer (some ⟨b7, 0, none⟩), .pointer (some ⟨Bx, 0, none⟩), t9, t10, t11, t12, t13, t14, undef, undef, undef, undef, undef, undef, undef, undef, undef, undef, undef, undef], defers := [] } w := by
  have hu := Tryz.underlying87
  have off7 : ¬ blk Ao b7 := fun hk => by
    obtain ⟨cur, hc⟩ := HR.typed hk
    rw [Z7] at hc
    injection hc with hc
    injection hc with _ hc
    exact absurd hc (by decide)
  have F5 : ∀ W, Below w.heap.size w W → W.cell? ⟨b5, 0, none⟩ = some (.func (.func ge) #[] #[]) := fun W h => (h.cell (p := ⟨b5, 0, none⟩) (cellLt Z5)).trans Z5
  have F7 : ∀ W, Below w.heap.size w W → W.cell? ⟨b7, 0, none⟩ = some (.slice Ao n co) := fun W h => (h.cell (p := ⟨b7, 0, none⟩) (Array.getElem?_eq_some_iff.1 Z7).1).trans ((blk_cell Z7 0).trans rfl)
  have FX0 : ∀ W, Below w.heap.size w W → W.cell? ⟨Bx, 0, none⟩ = some (.int .i64 ex) := fun W h => (h.cell (p := ⟨Bx, 0, none⟩) (cellLt X0)).trans X0
  have FX1 : ∀ W, Below w.heap.size w W → W.cell? ⟨Bx, 1, none⟩ = some (.int .i64 ey) := fun W h => (h.cell (p := ⟨Bx, 1, none⟩) (cellLt X1)).trans X1
  have H7 := Aside0.mk Z7
  have HRo := Aside0.mk HR
  have HEo := Aside0.mk HE
  have HQo := Aside0.mk hQ
  have HOFF := Aside0.mk off7
  have G5 := Aside0.mk F5
  have G7 := Aside0.mk F7
  have GX0 := Aside0.mk FX0
  have GX1 := Aside0.mk FX1
  clear Z5 Z7 X0 X1 HR HE hQ off7 F5 F7 FX0 FX1
  have fin : ∀ (W W2 : World) (a : Act) (A9 : Option Addr) (c9 : Nat), Aside0 (Below w.heap.size w W) → Aside0 (Row W2 87 2 A9 (n + 1) c9 (xs ++ [.int .i64 z, .int .i64 z])) → Aside0 (Grew (blk Ao) W W2) → Aside0 (∀ k, blk A9 k → blk Ao k ∨ W.heap.size ≤ k) →
      wpAnyIn (Fence.wide.inRound lp) nF Tryz.prog Region.Mode.any opsW Q 0 #[true, true, true, true, true, true, true, true, true, true, true] a (W2.setCell ⟨b7, 0, none⟩ (.slice A9 (n + 1) c9)) := by
    intro W W2 a A9 c9 hb hr hg hk
    exact wpAnyIn_done (by kernel_rfl) (HQo.out _ W W2 A9 c9 hb.out hr.out hg.out hk.out) _
  have st_11111111110 : ∀ (W W2 : World) (p : Nat) (A9 : Option Addr) (c9 : Nat), Aside0 (Below w.heap.size w W) → Aside0 (Row W2 87 2 A9 (n + 1) c9 (xs ++ [.int .i64 z, .int .i64 z])) → Aside0 (Grew (blk Ao) W W2) → Aside0 (∀ k, blk A9 k → blk Ao k ∨ W.heap.size ≤ k) → wpAnyIn (Fence.wide.inRound lp) nF Tryz.prog Region.Mode.any opsW Q 1 #[true, true, true, true, true, true, true, true, true, true, false] { tmps := #[t0, t1, t2, t3, t4, .pointer (some ⟨b5, 0, none⟩), t6, .pointer (some ⟨b7, 0, none⟩), .pointer (some ⟨Bx, 0, none⟩), t9, t10, t11, t12, t13, t14, .slice Ao n co, .func (.func ge) #[] #[], .agg #[.int .i64 ex, .int .i64 ey], .int .i64 z, .func (.func ge) #[] #[], .agg #[.int .i64 ex, .int .i64 ey], .int .i64 z, .agg #[.int .i64 z, .int .i64 z], .slice (some ⟨p, 0, none⟩) 1 1, .slice A9 (n + 1) c9, undef, undef], defers := [] } W2 := by
    intro W W2 p A9 c9 hb hr hg hk
    have n7 := (hg.out.block b7 (Nat.lt_of_lt_of_le (Array.getElem?_eq_some_iff.1 H7.out).1 hb.out.size) HOFF.out).trans ((hb.out.block b7 (Array.getElem?_eq_some_iff.1 H7.out).1).trans H7.out)
    have c7 : W2.cell? ⟨b7, 0, none⟩ = some (.slice Ao n co) := (blk_cell n7 0).trans rfl
    have f7 : W2.frozen? ⟨b7, 0, none⟩ = false := blk_frozen n7 0
    clear n7
    refine wpAnyIn_ready (rs := [10]) (by kernel_rfl) (by simp) ?_
    refine AllReadyIn.cons (o := oW10) rfl (fun K hK => ?_) (AllReadyIn.nil)
    · unfold oW10
      go_simp
      refine hK _ _ ?_
      clear hK K
      (try simp only [Act.put, List.setIfInBounds_toArray, List.set_cons_zero, List.set_cons_succ])
      exact fin W W2 _ A9 c9 hb hr hg hk
  have st_11111111100 : ∀ (W : World) (p : Nat), Aside0 (Below w.heap.size w W) → Aside0 (W.heap[p]? = some (.cells #[.int .i64 z, .int .i64 z] 87 (0, 0))) → wpAnyIn (Fence.wide.inRound lp) nF Tryz.prog Region.Mode.any opsW Q 2 #[true, true, true, true, true, true, true, true, true, false, false] { tmps := #[t0, t1, t2, t3, t4, .pointer (some ⟨b5, 0, none⟩), t6, .pointer (some ⟨b7, 0, none⟩), .pointer (some ⟨Bx, 0, none⟩), t9, t10, t11, t12, t13, t14, .slice Ao n co, .func (.func ge) #[] #[], .agg #[.int .i64 ex, .int .i64 ey], .int .i64 z, .func (.func ge) #[] #[], .agg #[.int .i64 ex, .int .i64 ey], .int .i64 z, .agg #[.int .i64 z, .int .i64 z], .slice (some ⟨p, 0, none⟩) 1 1, undef, undef, undef], defers := [] } W := by
    intro W p hb hp
    have z5 := G5.out W hb.out
    have z7 := G7.out W hb.out
    have x0 := GX0.out W hb.out
    have x1 := GX1.out W hb.out
    refine wpAnyIn_ready (rs := [9]) (by kernel_rfl) (by simp) ?_
    refine AllReadyIn.cons (o := oW9) rfl (fun K hK => ?_) (AllReadyIn.nil)
    · unfold oW9
      refine step_append_any_in rfl (.tmp 15) (.tmp 23) 45 rfl 87 (.agg #[.int .i64 0, .int .i64 0]) 2 16 Tryz.underlying45 infoEd rfl Ao n co xs (by simp [Act.eval, Act.put]) (HRo.out.below hb.out) (some ⟨p, 0, none⟩) 1 1 [.int .i64 z, .int .i64 z] (by simp [Act.eval, Act.put]) (edge_row hp.out) (by decide) (edge_one z) (by unfold maxLen; omega) (by omega) ?_
      intro A9 c9 W2 hr2 hg2 hk2
      refine hK _ _ ?_
      clear hK K
      (try simp only [Act.put, List.setIfInBounds_toArray, List.set_cons_zero, List.set_cons_succ])
      exact st_11111111110 W W2 p A9 c9 hb ⟨hr2⟩ ⟨hg2⟩ ⟨hk2⟩
  have st_11111111000 : ∀ (W : World), Aside0 (Below w.heap.size w W) → wpAnyIn (Fence.wide.inRound lp) nF Tryz.prog Region.Mode.any opsW Q 3 #[true, true, true, true, true, true, true, true, false, false, false] { tmps := #[t0, t1, t2, t3, t4, .pointer (some ⟨b5, 0, none⟩), t6, .pointer (some ⟨b7, 0, none⟩), .pointer (some ⟨Bx, 0, none⟩), t9, t10, t11, t12, t13, t14, .slice Ao n co, .func (.func ge) #[] #[], .agg #[.int .i64 ex, .int .i64 ey], .int .i64 z, .func (.func ge) #[] #[], .agg #[.int .i64 ex, .int .i64 ey], .int .i64 z, .agg #[.int .i64 z, .int .i64 z], undef, undef, undef, undef], defers := [] } W := by
    intro W hb
    have z5 := G5.out W hb.out
    have z7 := G7.out W hb.out
    have x0 := GX0.out W hb.out
    have x1 := GX1.out W hb.out
    refine wpAnyIn_ready (rs := [8]) (by kernel_rfl) (by simp) ?_
    refine AllReadyIn.cons (o := oW8) rfl (fun K hK => ?_) (AllReadyIn.nil)
    · unfold oW8
      go_simp
      refine hK _ _ ?_
      clear hK K
      (try simp only [Act.put, List.setIfInBounds_toArray, List.set_cons_zero, List.set_cons_succ])
      exact st_11111111100 _ _ ⟨below_alloc hb.out _⟩ ⟨blk_new W _⟩
  have st_01111111100 : ∀ (W : World) (p : Nat), Aside0 (Below w.heap.size w W) → Aside0 (W.heap[p]? = some (.cells #[.int .i64 z, .int .i64 z] 87 (0, 0))) → wpAnyIn (Fence.wide.inRound lp) nF Tryz.prog Region.Mode.any opsW Q 3 #[false, true, true, true, true, true, true, true, true, false, false] { tmps := #[t0, t1, t2, t3, t4, .pointer (some ⟨b5, 0, none⟩), t6, .pointer (some ⟨b7, 0, none⟩), .pointer (some ⟨Bx, 0, none⟩), t9, t10, t11, t12, t13, t14, undef, .func (.func ge) #[] #[], .agg #[.int .i64 ex, .int .i64 ey], .int .i64 z, .func (.func ge) #[] #[], .agg #[.int .i64 ex, .int .i64 ey], .int .i64 z, .agg #[.int .i64 z, .int .i64 z], .slice (some ⟨p, 0, none⟩) 1 1, undef, undef, undef], defers := [] } W := by
    intro W p hb hp
    have z5 := G5.out W hb.out
    have z7 := G7.out W hb.out
    have x0 := GX0.out W hb.out
    have x1 := GX1.out W hb.out
    refine wpAnyIn_ready (rs := [0]) (by kernel_rfl) (by simp) ?_
    refine AllReadyIn.cons (o := oW0) rfl (fun K hK => ?_) (AllReadyIn.nil)
    · unfold oW0
      go_simp
      refine hK _ _ ?_
      clear hK K
      (try simp only [Act.put, List.setIfInBounds_toArray, List.set_cons_zero, List.set_cons_succ])
      exact st_11111111100 W p hb hp
  have st_11111110000 : ∀ (W : World), Aside0 (Below w.heap.size w W) → wpAnyIn (Fence.wide.inRound lp) nF Tryz.prog Region.Mode.any opsW Q 4 #[true, true, true, true, true, true, true, false, false, false, false] { tmps := #[t0, t1, t2, t3, t4, .pointer (some ⟨b5, 0, none⟩), t6, .pointer (some ⟨b7, 0, none⟩), .pointer (some ⟨Bx, 0, none⟩), t9, t10, t11, t12, t13, t14, .slice Ao n co, .func (.func ge) #[] #[], .agg #[.int .i64 ex, .int .i64 ey], .int .i64 z, .func (.func ge) #[] #[], .agg #[.int .i64 ex, .int .i64 ey], .int .i64 z, undef, undef, undef, undef, undef], defers := [] } W := by
    intro W hb
    have z5 := G5.out W hb.out
    have z7 := G7.out W hb.out
    have x0 := GX0.out W hb.out
    have x1 := GX1.out W hb.out
    refine wpAnyIn_ready (rs := [7]) (by kernel_rfl) (by simp) ?_
    refine AllReadyIn.cons (o := oW7) rfl (fun K hK => ?_) (AllReadyIn.nil)
    · unfold oW7
      go_simp
      refine hK _ _ ?_
      clear hK K
      (try simp only [Act.put, List.setIfInBounds_toArray, List.set_cons_zero, List.set_cons_succ])
      exact st_11111111000 W hb
  have st_01111111000 : ∀ (W : World), Aside0 (Below w.heap.size w W) → wpAnyIn (Fence.wide.inRound lp) nF Tryz.prog Region.Mode.any opsW Q 4 #[false, true, true, true, true, true, true, true, false, false, false] { tmps := #[t0, t1, t2, t3, t4, .pointer (some ⟨b5, 0, none⟩), t6, .pointer (some ⟨b7, 0, none⟩), .pointer (some ⟨Bx, 0, none⟩), t9, t10, t11, t12, t13, t14, undef, .func (.func ge) #[] #[], .agg #[.int .i64 ex, .int .i64 ey], .int .i64 z, .func (.func ge) #[] #[], .agg #[.int .i64 ex, .int .i64 ey], .int .i64 z, .agg #[.int .i64 z, .int .i64 z], undef, undef, undef, undef], defers := [] } W := by
    intro W hb
    have z5 := G5.out W hb.out
    have z7 := G7.out W hb.out
    have x0 := GX0.out W hb.out
    have x1 := GX1.out W hb.out
    refine wpAnyIn_ready (rs := [0, 8]) (by kernel_rfl) (by simp) ?_
    refine AllReadyIn.cons (o := oW0) rfl (fun K hK => ?_) (AllReadyIn.cons (o := oW8) rfl (fun K hK => ?_) (AllReadyIn.nil))
    · unfold oW0
      go_simp
      refine hK _ _ ?_
      clear hK K
      (try simp only [Act.put, List.setIfInBounds_toArray, List.set_cons_zero, List.set_cons_succ])
      exact st_11111111000 W hb
    · unfold oW8
      go_simp
      refine hK _ _ ?_
      clear hK K
      (try simp only [Act.put, List.setIfInBounds_toArray, List.set_cons_zero, List.set_cons_succ])
      exact st_01111111100 _ _ ⟨below_alloc hb.out _⟩ ⟨blk_new W _⟩
  have st_11111100000 : ∀ (W : World), Aside0 (Below w.heap.size w W) → wpAnyIn (Fence.wide.inRound lp) nF Tryz.prog Region.Mode.any opsW Q 5 #[true, true, true, true, true, true, false, false, false, false, false] { tmps := #[t0, t1, t2, t3, t4, .pointer (some ⟨b5, 0, none⟩), t6, .pointer (some ⟨b7, 0, none⟩), .pointer (some ⟨Bx, 0, none⟩), t9, t10, t11, t12, t13, t14, .slice Ao n co, .func (.func ge) #[] #[], .agg #[.int .i64 ex, .int .i64 ey], .int .i64 z, .func (.func ge) #[] #[], .agg #[.int .i64 ex, .int .i64 ey], undef, undef, undef, undef, undef, undef], defers := [] } W := by
    intro W hb
    have z5 := G5.out W hb.out
    have z7 := G7.out W hb.out
    have x0 := GX0.out W hb.out
    have x1 := GX1.out W hb.out
    refine wpAnyIn_ready (rs := [6]) (by kernel_rfl) (by simp) ?_
    refine AllReadyIn.cons (o := oW6) rfl (fun K hK => ?_) (AllReadyIn.nil)
    · unfold oW6
      go_simp
      refine ⟨trivial, fun h => absurd h (by decide), ?_⟩
      refine (CallsIn.inRound lp (callsIn_wide.2 (HEo.out W))).mono ?_
      rintro e W3 ⟨rfl, hb3⟩
      refine hK _ _ ?_
      clear hK K
      (try simp only [Act.put, List.setIfInBounds_toArray, List.set_cons_zero, List.set_cons_succ])
      exact st_11111110000 W3 ⟨below_then hb.out hb.out.size hb3⟩
  have st_01111110000 : ∀ (W : World), Aside0 (Below w.heap.size w W) → wpAnyIn (Fence.wide.inRound lp) nF Tryz.prog Region.Mode.any opsW Q 5 #[false, true, true, true, true, true, true, false, false, false, false] { tmps := #[t0, t1, t2, t3, t4, .pointer (some ⟨b5, 0, none⟩), t6, .pointer (some ⟨b7, 0, none⟩), .pointer (some ⟨Bx, 0, none⟩), t9, t10, t11, t12, t13, t14, undef, .func (.func ge) #[] #[], .agg #[.int .i64 ex, .int .i64 ey], .int .i64 z, .func (.func ge) #[] #[], .agg #[.int .i64 ex, .int .i64 ey], .int .i64 z, undef, undef, undef, undef, undef], defers := [] } W := by
    intro W hb
    have z5 := G5.out W hb.out
    have z7 := G7.out W hb.out
    have x0 := GX0.out W hb.out
    have x1 := GX1.out W hb.out
    refine wpAnyIn_ready (rs := [0, 7]) (by kernel_rfl) (by simp) ?_
    refine AllReadyIn.cons (o := oW0) rfl (fun K hK => ?_) (AllReadyIn.cons (o := oW7) rfl (fun K hK => ?_) (AllReadyIn.nil))
    · unfold oW0
      go_simp
      refine hK _ _ ?_
      clear hK K
      (try simp only [Act.put, List.setIfInBounds_toArray, List.set_cons_zero, List.set_cons_succ])
      exact st_11111110000 W hb
    · unfold oW7
      go_simp
      refine hK _ _ ?_
      clear hK K
      (try simp only [Act.put, List.setIfInBounds_toArray, List.set_cons_zero, List.set_cons_succ])
      exact st_01111111000 W hb
  have st_11111000000 : ∀ (W : World), Aside0 (Below w.heap.size w W) → wpAnyIn (Fence.wide.inRound lp) nF Tryz.prog Region.Mode.any opsW Q 6 #[true, true, true, true, true, false, false, false, false, false, false] { tmps := #[t0, t1, t2, t3, t4, .pointer (some ⟨b5, 0, none⟩), t6, .pointer (some ⟨b7, 0, none⟩), .pointer (some ⟨Bx, 0, none⟩), t9, t10, t11, t12, t13, t14, .slice Ao n co, .func (.func ge) #[] #[], .agg #[.int .i64 ex, .int .i64 ey], .int .i64 z, .func (.func ge) #[] #[], undef, undef, undef, undef, undef, undef, undef], defers := [] } W := by
    intro W hb
    have z5 := G5.out W hb.out
    have z7 := G7.out W hb.out
    have x0 := GX0.out W hb.out
    have x1 := GX1.out W hb.out
    refine wpAnyIn_ready (rs := [5]) (by kernel_rfl) (by simp) ?_
    refine AllReadyIn.cons (o := oW5) rfl (fun K hK => ?_) (AllReadyIn.nil)
    · unfold oW5
      go_simp
      refine hK _ _ ?_
      clear hK K
      (try simp only [Act.put, List.setIfInBounds_toArray, List.set_cons_zero, List.set_cons_succ])
      exact st_11111100000 W hb
  have st_11110100000 : ∀ (W : World), Aside0 (Below w.heap.size w W) → wpAnyIn (Fence.wide.inRound lp) nF Tryz.prog Region.Mode.any opsW Q 6 #[true, true, true, true, false, true, false, false, false, false, false] { tmps := #[t0, t1, t2, t3, t4, .pointer (some ⟨b5, 0, none⟩), t6, .pointer (some ⟨b7, 0, none⟩), .pointer (some ⟨Bx, 0, none⟩), t9, t10, t11, t12, t13, t14, .slice Ao n co, .func (.func ge) #[] #[], .agg #[.int .i64 ex, .int .i64 ey], .int .i64 z, undef, .agg #[.int .i64 ex, .int .i64 ey], undef, undef, undef, undef, undef, undef], defers := [] } W := by
    intro W hb
    have z5 := G5.out W hb.out
    have z7 := G7.out W hb.out
    have x0 := GX0.out W hb.out
    have x1 := GX1.out W hb.out
    refine wpAnyIn_ready (rs := [4]) (by kernel_rfl) (by simp) ?_
    refine AllReadyIn.cons (o := oW4) rfl (fun K hK => ?_) (AllReadyIn.nil)
    · unfold oW4
      go_simp
      refine hK _ _ ?_
      clear hK K
      (try simp only [Act.put, List.setIfInBounds_toArray, List.set_cons_zero, List.set_cons_succ])
      exact st_11111100000 W hb
  have st_11101100000 : ∀ (W : World), Aside0 (Below w.heap.size w W) → wpAnyIn (Fence.wide.inRound lp) nF Tryz.prog Region.Mode.any opsW Q 6 #[true, true, true, false, true, true, false, false, false, false, false] { tmps := #[t0, t1, t2, t3, t4, .pointer (some ⟨b5, 0, none⟩), t6, .pointer (some ⟨b7, 0, none⟩), .pointer (some ⟨Bx, 0, none⟩), t9, t10, t11, t12, t13, t14, .slice Ao n co, .func (.func ge) #[] #[], .agg #[.int .i64 ex, .int .i64 ey], undef, .func (.func ge) #[] #[], .agg #[.int .i64 ex, .int .i64 ey], undef, undef, undef, undef, undef, undef], defers := [] } W := by
    intro W hb
    have z5 := G5.out W hb.out
    have z7 := G7.out W hb.out
    have x0 := GX0.out W hb.out
    have x1 := GX1.out W hb.out
    refine wpAnyIn_ready (rs := [3]) (by kernel_rfl) (by simp) ?_
    refine AllReadyIn.cons (o := oW3) rfl (fun K hK => ?_) (AllReadyIn.nil)
    · unfold oW3
      go_simp
      refine ⟨trivial, fun h => absurd h (by decide), ?_⟩
      refine (CallsIn.inRound lp (callsIn_wide.2 (HEo.out W))).mono ?_
      rintro e W3 ⟨rfl, hb3⟩
      refine hK _ _ ?_
      clear hK K
      (try simp only [Act.put, List.setIfInBounds_toArray, List.set_cons_zero, List.set_cons_succ])
      exact st_11111100000 W3 ⟨below_then hb.out hb.out.size hb3⟩
  have st_01111100000 : ∀ (W : World), Aside0 (Below w.heap.size w W) → wpAnyIn (Fence.wide.inRound lp) nF Tryz.prog Region.Mode.any opsW Q 6 #[false, true, true, true, true, true, false, false, false, false, false] { tmps := #[t0, t1, t2, t3, t4, .pointer (some ⟨b5, 0, none⟩), t6, .pointer (some ⟨b7, 0, none⟩), .pointer (some ⟨Bx, 0, none⟩), t9, t10, t11, t12, t13, t14, undef, .func (.func ge) #[] #[], .agg #[.int .i64 ex, .int .i64 ey], .int .i64 z, .func (.func ge) #[] #[], .agg #[.int .i64 ex, .int .i64 ey], undef, undef, undef, undef, undef, undef], defers := [] } W := by
    intro W hb
    have z5 := G5.out W hb.out
    have z7 := G7.out W hb.out
    have x0 := GX0.out W hb.out
    have x1 := GX1.out W hb.out
    refine wpAnyIn_ready (rs := [0, 6]) (by kernel_rfl) (by simp) ?_
    refine AllReadyIn.cons (o := oW0) rfl (fun K hK => ?_) (AllReadyIn.cons (o := oW6) rfl (fun K hK => ?_) (AllReadyIn.nil))
    · unfold oW0
      go_simp
      refine hK _ _ ?_
      clear hK K
      (try simp only [Act.put, List.setIfInBounds_toArray, List.set_cons_zero, List.set_cons_succ])
      exact st_11111100000 W hb
    · unfold oW6
      go_simp
      refine ⟨trivial, fun h => absurd h (by decide), ?_⟩
      refine (CallsIn.inRound lp (callsIn_wide.2 (HEo.out W))).mono ?_
      rintro e W3 ⟨rfl, hb3⟩
      refine hK _ _ ?_
      clear hK K
      (try simp only [Act.put, List.setIfInBounds_toArray, List.set_cons_zero, List.set_cons_succ])
      exact st_01111110000 W3 ⟨below_then hb.out hb.out.size hb3⟩
  have st_11110000000 : ∀ (W : World), Aside0 (Below w.heap.size w W) → wpAnyIn (Fence.wide.inRound lp) nF Tryz.prog Region.Mode.any opsW Q 7 #[true, true, true, true, false, false, false, false, false, false, false] { tmps := #[t0, t1, t2, t3, t4, .pointer (some ⟨b5, 0, none⟩), t6, .pointer (some ⟨b7, 0, none⟩), .pointer (some ⟨Bx, 0, none⟩), t9, t10, t11, t12, t13, t14, .slice Ao n co, .func (.func ge) #[] #[], .agg #[.int .i64 ex, .int .i64 ey], .int .i64 z, undef, undef, undef, undef, undef, undef, undef, undef], defers := [] } W := by
    intro W hb
    have z5 := G5.out W hb.out
    have z7 := G7.out W hb.out
    have x0 := GX0.out W hb.out
    have x1 := GX1.out W hb.out
    refine wpAnyIn_ready (rs := [4, 5]) (by kernel_rfl) (by simp) ?_
    refine AllReadyIn.cons (o := oW4) rfl (fun K hK => ?_) (AllReadyIn.cons (o := oW5) rfl (fun K hK => ?_) (AllReadyIn.nil))
    · unfold oW4
      go_simp
      refine hK _ _ ?_
      clear hK K
      (try simp only [Act.put, List.setIfInBounds_toArray, List.set_cons_zero, List.set_cons_succ])
      exact st_11111000000 W hb
    · unfold oW5
      go_simp
      refine hK _ _ ?_
      clear hK K
      (try simp only [Act.put, List.setIfInBounds_toArray, List.set_cons_zero, List.set_cons_succ])
      exact st_11110100000 W hb
  have st_11101000000 : ∀ (W : World), Aside0 (Below w.heap.size w W) → wpAnyIn (Fence.wide.inRound lp) nF Tryz.prog Region.Mode.any opsW Q 7 #[true, true, true, false, true, false, false, false, false, false, false] { tmps := #[t0, t1, t2, t3, t4, .pointer (some ⟨b5, 0, none⟩), t6, .pointer (some ⟨b7, 0, none⟩), .pointer (some ⟨Bx, 0, none⟩), t9, t10, t11, t12, t13, t14, .slice Ao n co, .func (.func ge) #[] #[], .agg #[.int .i64 ex, .int .i64 ey], undef, .func (.func ge) #[] #[], undef, undef, undef, undef, undef, undef, undef], defers := [] } W := by
    intro W hb
    have z5 := G5.out W hb.out
    have z7 := G7.out W hb.out
    have x0 := GX0.out W hb.out
    have x1 := GX1.out W hb.out
    refine wpAnyIn_ready (rs := [3, 5]) (by kernel_rfl) (by simp) ?_
    refine AllReadyIn.cons (o := oW3) rfl (fun K hK => ?_) (AllReadyIn.cons (o := oW5) rfl (fun K hK => ?_) (AllReadyIn.nil))
    · unfold oW3
      go_simp
      refine ⟨trivial, fun h => absurd h (by decide), ?_⟩
      refine (CallsIn.inRound lp (callsIn_wide.2 (HEo.out W))).mono ?_
      rintro e W3 ⟨rfl, hb3⟩
      refine hK _ _ ?_
      clear hK K
      (try simp only [Act.put, List.setIfInBounds_toArray, List.set_cons_zero, List.set_cons_succ])
      exact st_11111000000 W3 ⟨below_then hb.out hb.out.size hb3⟩
    · unfold oW5
      go_simp
      refine hK _ _ ?_
      clear hK K
      (try simp only [Act.put, List.setIfInBounds_toArray, List.set_cons_zero, List.set_cons_succ])
      exact st_11101100000 W hb
  have st_11100100000 : ∀ (W : World), Aside0 (Below w.heap.size w W) → wpAnyIn (Fence.wide.inRound lp) nF Tryz.prog Region.Mode.any opsW Q 7 #[true, true, true, false, false, true, false, false, false, false, false] { tmps := #[t0, t1, t2, t3, t4, .pointer (some ⟨b5, 0, none⟩), t6, .pointer (some ⟨b7, 0, none⟩), .pointer (some ⟨Bx, 0, none⟩), t9, t10, t11, t12, t13, t14, .slice Ao n co, .func (.func ge) #[] #[], .agg #[.int .i64 ex, .int .i64 ey], undef, undef, .agg #[.int .i64 ex, .int .i64 ey], undef, undef, undef, undef, undef, undef], defers := [] } W := by
    intro W hb
    have z5 := G5.out W hb.out
    have z7 := G7.out W hb.out
    have x0 := GX0.out W hb.out
    have x1 := GX1.out W hb.out
    refine wpAnyIn_ready (rs := [3, 4]) (by kernel_rfl) (by simp) ?_
    refine AllReadyIn.cons (o := oW3) rfl (fun K hK => ?_) (AllReadyIn.cons (o := oW4) rfl (fun K hK => ?_) (AllReadyIn.nil))
    · unfold oW3
      go_simp
      refine ⟨trivial, fun h => absurd h (by decide), ?_⟩
      refine (CallsIn.inRound lp (callsIn_wide.2 (HEo.out W))).mono ?_
      rintro e W3 ⟨rfl, hb3⟩
      refine hK _ _ ?_
      clear hK K
      (try simp only [Act.put, List.setIfInBounds_toArray, List.set_cons_zero, List.set_cons_succ])
      exact st_11110100000 W3 ⟨below_then hb.out hb.out.size hb3⟩
    · unfold oW4
      go_simp
      refine hK _ _ ?_
      clear hK K
      (try simp only [Act.put, List.setIfInBounds_toArray, List.set_cons_zero, List.set_cons_succ])
      exact st_11101100000 W hb
  have st_11001100000 : ∀ (W : World), Aside0 (Below w.heap.size w W) → wpAnyIn (Fence.wide.inRound lp) nF Tryz.prog Region.Mode.any opsW Q 7 #[true, true, false, false, true, true, false, false, false, false, false] { tmps := #[t0, t1, t2, t3, t4, .pointer (some ⟨b5, 0, none⟩), t6, .pointer (some ⟨b7, 0, none⟩), .pointer (some ⟨Bx, 0, none⟩), t9, t10, t11, t12, t13, t14, .slice Ao n co, .func (.func ge) #[] #[], undef, undef, .func (.func ge) #[] #[], .agg #[.int .i64 ex, .int .i64 ey], undef, undef, undef, undef, undef, undef], defers := [] } W := by
    intro W hb
    have z5 := G5.out W hb.out
    have z7 := G7.out W hb.out
    have x0 := GX0.out W hb.out
    have x1 := GX1.out W hb.out
    refine wpAnyIn_ready (rs := [2]) (by kernel_rfl) (by simp) ?_
    refine AllReadyIn.cons (o := oW2) rfl (fun K hK => ?_) (AllReadyIn.nil)
    · unfold oW2
      go_simp
      refine hK _ _ ?_
      clear hK K
      (try simp only [Act.put, List.setIfInBounds_toArray, List.set_cons_zero, List.set_cons_succ])
      exact st_11101100000 W hb
  have st_10101100000 : ∀ (W : World), Aside0 (Below w.heap.size w W) → wpAnyIn (Fence.wide.inRound lp) nF Tryz.prog Region.Mode.any opsW Q 7 #[true, false, true, false, true, true, false, false, false, false, false] { tmps := #[t0, t1, t2, t3, t4, .pointer (some ⟨b5, 0, none⟩), t6, .pointer (some ⟨b7, 0, none⟩), .pointer (some ⟨Bx, 0, none⟩), t9, t10, t11, t12, t13, t14, .slice Ao n co, undef, .agg #[.int .i64 ex, .int .i64 ey], undef, .func (.func ge) #[] #[], .agg #[.int .i64 ex, .int .i64 ey], undef, undef, undef, undef, undef, undef], defers := [] } W := by
    intro W hb
    have z5 := G5.out W hb.out
    have z7 := G7.out W hb.out
    have x0 := GX0.out W hb.out
    have x1 := GX1.out W hb.out
    refine wpAnyIn_ready (rs := [1]) (by kernel_rfl) (by simp) ?_
    refine AllReadyIn.cons (o := oW1) rfl (fun K hK => ?_) (AllReadyIn.nil)
    · unfold oW1
      go_simp
      refine hK _ _ ?_
      clear hK K
      (try simp only [Act.put, List.setIfInBounds_toArray, List.set_cons_zero, List.set_cons_succ])
      exact st_11101100000 W hb
  have st_01111000000 : ∀ (W : World), Aside0 (Below w.heap.size w W) → wpAnyIn (Fence.wide.inRound lp) nF Tryz.prog Region.Mode.any opsW Q 7 #[false, true, true, true, true, false, false, false, false, false, false] { tmps := #[t0, t1, t2, t3, t4, .pointer (some ⟨b5, 0, none⟩), t6, .pointer (some ⟨b7, 0, none⟩), .pointer (some ⟨Bx, 0, none⟩), t9, t10, t11, t12, t13, t14, undef, .func (.func ge) #[] #[], .agg #[.int .i64 ex, .int .i64 ey], .int .i64 z, .func (.func ge) #[] #[], undef, undef, undef, undef, undef, undef, undef], defers := [] } W := by
    intro W hb
    have z5 := G5.out W hb.out
    have z7 := G7.out W hb.out
    have x0 := GX0.out W hb.out
    have x1 := GX1.out W hb.out
    refine wpAnyIn_ready (rs := [0, 5]) (by kernel_rfl) (by simp) ?_
    refine AllReadyIn.cons (o := oW0) rfl (fun K hK => ?_) (AllReadyIn.cons (o := oW5) rfl (fun K hK => ?_) (AllReadyIn.nil))
    · unfold oW0
      go_simp
      refine hK _ _ ?_
      clear hK K
      (try simp only [Act.put, List.setIfInBounds_toArray, List.set_cons_zero, List.set_cons_succ])
      exact st_11111000000 W hb
    · unfold oW5
      go_simp
      refine hK _ _ ?_
      clear hK K
      (try simp only [Act.put, List.setIfInBounds_toArray, List.set_cons_zero, List.set_cons_succ])
      exact st_01111100000 W hb
  have st_01110100000 : ∀ (W : World), Aside0 (Below w.heap.size w W) → wpAnyIn (Fence.wide.inRound lp) nF Tryz.prog Region.Mode.any opsW Q 7 #[false, true, true, true, false, true, false, false, false, false, false] { tmps := #[t0, t1, t2, t3, t4, .pointer (some ⟨b5, 0, none⟩), t6, .pointer (some ⟨b7, 0, none⟩), .pointer (some ⟨Bx, 0, none⟩), t9, t10, t11, t12, t13, t14, undef, .func (.func ge) #[] #[], .agg #[.int .i64 ex, .int .i64 ey], .int .i64 z, undef, .agg #[.int .i64 ex, .int .i64 ey], undef, undef, undef, undef, undef, undef], defers := [] } W := by
    intro W hb
    have z5 := G5.out W hb.out
    have z7 := G7.out W hb.out
    have x0 := GX0.out W hb.out
    have x1 := GX1.out W hb.out
    refine wpAnyIn_ready (rs := [0, 4]) (by kernel_rfl) (by simp) ?_
    refine AllReadyIn.cons (o := oW0) rfl (fun K hK => ?_) (AllReadyIn.cons (o := oW4) rfl (fun K hK => ?_) (AllReadyIn.nil))
    · unfold oW0
      go_simp
      refine hK _ _ ?_
      clear hK K
      (try simp only [Act.put, List.setIfInBounds_toArray, List.set_cons_zero, List.set_cons_succ])
      exact st_11110100000 W hb
    · unfold oW4
      go_simp
      refine hK _ _ ?_
      clear hK K
      (try simp only [Act.put, List.setIfInBounds_toArray, List.set_cons_zero, List.set_cons_succ])
      exact st_01111100000 W hb
  have st_01101100000 : ∀ (W : World), Aside0 (Below w.heap.size w W) → wpAnyIn (Fence.wide.inRound lp) nF Tryz.prog Region.Mode.any opsW Q 7 #[false, true, true, false, true, true, false, false, false, false, false] { tmps := #[t0, t1, t2, t3, t4, .pointer (some ⟨b5, 0, none⟩), t6, .pointer (some ⟨b7, 0, none⟩), .pointer (some ⟨Bx, 0, none⟩), t9, t10, t11, t12, t13, t14, undef, .func (.func ge) #[] #[], .agg #[.int .i64 ex, .int .i64 ey], undef, .func (.func ge) #[] #[], .agg #[.int .i64 ex, .int .i64 ey], undef, undef, undef, undef, undef, undef], defers := [] } W := by
    intro W hb
    have z5 := G5.out W hb.out
    have z7 := G7.out W hb.out
    have x0 := GX0.out W hb.out
    have x1 := GX1.out W hb.out
    refine wpAnyIn_ready (rs := [0, 3]) (by kernel_rfl) (by simp) ?_
    refine AllReadyIn.cons (o := oW0) rfl (fun K hK => ?_) (AllReadyIn.cons (o := oW3) rfl (fun K hK => ?_) (AllReadyIn.nil))
    · unfold oW0
      go_simp
      refine hK _ _ ?_
      clear hK K
      (try simp only [Act.put, List.setIfInBounds_toArray, List.set_cons_zero, List.set_cons_succ])
      exact st_11101100000 W hb
    · unfold oW3
      go_simp
      refine ⟨trivial, fun h => absurd h (by decide), ?_⟩
      refine (CallsIn.inRound lp (callsIn_wide.2 (HEo.out W))).mono ?_
      rintro e W3 ⟨rfl, hb3⟩
      refine hK _ _ ?_
      clear hK K
      (try simp only [Act.put, List.setIfInBounds_toArray, List.set_cons_zero, List.set_cons_succ])
      exact st_01111100000 W3 ⟨below_then hb.out hb.out.size hb3⟩
  have st_11100000000 : ∀ (W : World), Aside0 (Below w.heap.size w W) → wpAnyIn (Fence.wide.inRound lp) nF Tryz.prog Region.Mode.any opsW Q 8 #[true, true, true, false, false, false, false, false, false, false, false] { tmps := #[t0, t1, t2, t3, t4, .pointer (some ⟨b5, 0, none⟩), t6, .pointer (some ⟨b7, 0, none⟩), .pointer (some ⟨Bx, 0, none⟩), t9, t10, t11, t12, t13, t14, .slice Ao n co, .func (.func ge) #[] #[], .agg #[.int .i64 ex, .int .i64 ey], undef, undef, undef, undef, undef, undef, undef, undef, undef], defers := [] } W := by
    intro W hb
    have z5 := G5.out W hb.out
    have z7 := G7.out W hb.out
    have x0 := GX0.out W hb.out
    have x1 := GX1.out W hb.out
    refine wpAnyIn_ready (rs := [3, 4, 5]) (by kernel_rfl) (by simp) ?_
    refine AllReadyIn.cons (o := oW3) rfl (fun K hK => ?_) (AllReadyIn.cons (o := oW4) rfl (fun K hK => ?_) (AllReadyIn.cons (o := oW5) rfl (fun K hK => ?_) (AllReadyIn.nil)))
    · unfold oW3
      go_simp
      refine ⟨trivial, fun h => absurd h (by decide), ?_⟩
      refine (CallsIn.inRound lp (callsIn_wide.2 (HEo.out W))).mono ?_
      rintro e W3 ⟨rfl, hb3⟩
      refine hK _ _ ?_
      clear hK K
      (try simp only [Act.put, List.setIfInBounds_toArray, List.set_cons_zero, List.set_cons_succ])
      exact st_11110000000 W3 ⟨below_then hb.out hb.out.size hb3⟩
    · unfold oW4
      go_simp
      refine hK _ _ ?_
      clear hK K
      (try simp only [Act.put, List.setIfInBounds_toArray, List.set_cons_zero, List.set_cons_succ])
      exact st_11101000000 W hb
    · unfold oW5
      go_simp
      refine hK _ _ ?_
      clear hK K
      (try simp only [Act.put, List.setIfInBounds_toArray, List.set_cons_zero, List.set_cons_succ])
      exact st_11100100000 W hb
  have st_11001000000 : ∀ (W : World), Aside0 (Below w.heap.size w W) → wpAnyIn (Fence.wide.inRound lp) nF Tryz.prog Region.Mode.any opsW Q 8 #[true, true, false, false, true, false, false, false, false, false, false] { tmps := #[t0, t1, t2, t3, t4, .pointer (some ⟨b5, 0, none⟩), t6, .pointer (some ⟨b7, 0, none⟩), .pointer (some ⟨Bx, 0, none⟩), t9, t10, t11, t12, t13, t14, .slice Ao n co, .func (.func ge) #[] #[], undef, undef, .func (.func ge) #[] #[], undef, undef, undef, undef, undef, undef, undef], defers := [] } W := by
    intro W hb
    have z5 := G5.out W hb.out
    have z7 := G7.out W hb.out
    have x0 := GX0.out W hb.out
    have x1 := GX1.out W hb.out
    refine wpAnyIn_ready (rs := [2, 5]) (by kernel_rfl) (by simp) ?_
    refine AllReadyIn.cons (o := oW2) rfl (fun K hK => ?_) (AllReadyIn.cons (o := oW5) rfl (fun K hK => ?_) (AllReadyIn.nil))
    · unfold oW2
      go_simp
      refine hK _ _ ?_
      clear hK K
      (try simp only [Act.put, List.setIfInBounds_toArray, List.set_cons_zero, List.set_cons_succ])
      exact st_11101000000 W hb
    · unfold oW5
      go_simp
      refine hK _ _ ?_
      clear hK K
      (try simp only [Act.put, List.setIfInBounds_toArray, List.set_cons_zero, List.set_cons_succ])
      exact st_11001100000 W hb
  have st_11000100000 : ∀ (W : World), Aside0 (Below w.heap.size w W) → wpAnyIn (Fence.wide.inRound lp) nF Tryz.prog Region.Mode.any opsW Q 8 #[true, true, false, false, false, true, false, false, false, false, false] { tmps := #[t0, t1, t2, t3, t4, .pointer (some ⟨b5, 0, none⟩), t6, .pointer (some ⟨b7, 0, none⟩), .pointer (some ⟨Bx, 0, none⟩), t9, t10, t11, t12, t13, t14, .slice Ao n co, .func (.func ge) #[] #[], undef, undef, undef, .agg #[.int .i64 ex, .int .i64 ey], undef, undef, undef, undef, undef, undef], defers := [] } W := by
    intro W hb
    have z5 := G5.out W hb.out
    have z7 := G7.out W hb.out
    have x0 := GX0.out W hb.out
    have x1 := GX1.out W hb.out
    refine wpAnyIn_ready (rs := [2, 4]) (by kernel_rfl) (by simp) ?_
    refine AllReadyIn.cons (o := oW2) rfl (fun K hK => ?_) (AllReadyIn.cons (o := oW4) rfl (fun K hK => ?_) (AllReadyIn.nil))
    · unfold oW2
      go_simp
      refine hK _ _ ?_
      clear hK K
      (try simp only [Act.put, List.setIfInBounds_toArray, List.set_cons_zero, List.set_cons_succ])
      exact st_11100100000 W hb
    · unfold oW4
      go_simp
      refine hK _ _ ?_
      clear hK K
      (try simp only [Act.put, List.setIfInBounds_toArray, List.set_cons_zero, List.set_cons_succ])
      exact st_11001100000 W hb
  have st_10101000000 : ∀ (W : World), Aside0 (Below w.heap.size w W) → wpAnyIn (Fence.wide.inRound lp) nF Tryz.prog Region.Mode.any opsW Q 8 #[true, false, true, false, true, false, false, false, false, false, false] { tmps := #[t0, t1, t2, t3, t4, .pointer (some ⟨b5, 0, none⟩), t6, .pointer (some ⟨b7, 0, none⟩), .pointer (some ⟨Bx, 0, none⟩), t9, t10, t11, t12, t13, t14, .slice Ao n co, undef, .agg #[.int .i64 ex, .int .i64 ey], undef, .func (.func ge) #[] #[], undef, undef, undef, undef, undef, undef, undef], defers := [] } W := by
    intro W hb
    have z5 := G5.out W hb.out
    have z7 := G7.out W hb.out
    have x0 := GX0.out W hb.out
    have x1 := GX1.out W hb.out
    refine wpAnyIn_ready (rs := [1, 5]) (by kernel_rfl) (by simp) ?_
    refine AllReadyIn.cons (o := oW1) rfl (fun K hK => ?_) (AllReadyIn.cons (o := oW5) rfl (fun K hK => ?_) (AllReadyIn.nil))
    · unfold oW1
      go_simp
      refine hK _ _ ?_
      clear hK K
      (try simp only [Act.put, List.setIfInBounds_toArray, List.set_cons_zero, List.set_cons_succ])
      exact st_11101000000 W hb
    · unfold oW5
      go_simp
      refine hK _ _ ?_
      clear hK K
      (try simp only [Act.put, List.setIfInBounds_toArray, List.set_cons_zero, List.set_cons_succ])
      exact st_10101100000 W hb
  have st_10100100000 : ∀ (W : World), Aside0 (Below w.heap.size w W) → wpAnyIn (Fence.wide.inRound lp) nF Tryz.prog Region.Mode.any opsW Q 8 #[true, false, true, false, false, true, false, false, false, false, false] { tmps := #[t0, t1, t2, t3, t4, .pointer (some ⟨b5, 0, none⟩), t6, .pointer (some ⟨b7, 0, none⟩), .pointer (some ⟨Bx, 0, none⟩), t9, t10, t11, t12, t13, t14, .slice Ao n co, undef, .agg #[.int .i64 ex, .int .i64 ey], undef, undef, .agg #[.int .i64 ex, .int .i64 ey], undef, undef, undef, undef, undef, undef], defers := [] } W := by
    intro W hb
    have z5 := G5.out W hb.out
    have z7 := G7.out W hb.out
    have x0 := GX0.out W hb.out
    have x1 := GX1.out W hb.out
    refine wpAnyIn_ready (rs := [1, 4]) (by kernel_rfl) (by simp) ?_
    refine AllReadyIn.cons (o := oW1) rfl (fun K hK => ?_) (AllReadyIn.cons (o := oW4) rfl (fun K hK => ?_) (AllReadyIn.nil))
    · unfold oW1
      go_simp
      refine hK _ _ ?_
      clear hK K
      (try simp only [Act.put, List.setIfInBounds_toArray, List.set_cons_zero, List.set_cons_succ])
      exact st_11100100000 W hb
    · unfold oW4
      go_simp
      refine hK _ _ ?_
      clear hK K
      (try simp only [Act.put, List.setIfInBounds_toArray, List.set_cons_zero, List.set_cons_succ])
      exact st_10101100000 W hb
  have st_10001100000 : ∀ (W : World), Aside0 (Below w.heap.size w W) → wpAnyIn (Fence.wide.inRound lp) nF Tryz.prog Region.Mode.any opsW Q 8 #[true, false, false, false, true, true, false, false, false, false, false] { tmps := #[t0, t1, t2, t3, t4, .pointer (some ⟨b5, 0, none⟩), t6, .pointer (some ⟨b7, 0, none⟩), .pointer (some ⟨Bx, 0, none⟩), t9, t10, t11, t12, t13, t14, .slice Ao n co, undef, undef, undef, .func (.func ge) #[] #[], .agg #[.int .i64 ex, .int .i64 ey], undef, undef, undef, undef, undef, undef], defers := [] } W := by
    intro W hb
    have z5 := G5.out W hb.out
    have z7 := G7.out W hb.out
    have x0 := GX0.out W hb.out
    have x1 := GX1.out W hb.out
    refine wpAnyIn_ready (rs := [1, 2]) (by kernel_rfl) (by simp) ?_
    refine AllReadyIn.cons (o := oW1) rfl (fun K hK => ?_) (AllReadyIn.cons (o := oW2) rfl (fun K hK => ?_) (AllReadyIn.nil))
    · unfold oW1
      go_simp
      refine hK _ _ ?_
      clear hK K
      (try simp only [Act.put, List.setIfInBounds_toArray, List.set_cons_zero, List.set_cons_succ])
      exact st_11001100000 W hb
    · unfold oW2
      go_simp
      refine hK _ _ ?_
      clear hK K
      (try simp only [Act.put, List.setIfInBounds_toArray, List.set_cons_zero, List.set_cons_succ])
      exact st_10101100000 W hb
  have st_01110000000 : ∀ (W : World), Aside0 (Below w.heap.size w W) → wpAnyIn (Fence.wide.inRound lp) nF Tryz.prog Region.Mode.any opsW Q 8 #[false, true, true, true, false, false, false, false, false, false, false] { tmps := #[t0, t1, t2, t3, t4, .pointer (some ⟨b5, 0, none⟩), t6, .pointer (some ⟨b7, 0, none⟩), .pointer (some ⟨Bx, 0, none⟩), t9, t10, t11, t12, t13, t14, undef, .func (.func ge) #[] #[], .agg #[.int .i64 ex, .int .i64 ey], .int .i64 z, undef, undef, undef, undef, undef, undef, undef, undef], defers := [] } W := by
    intro W hb
    have z5 := G5.out W hb.out
    have z7 := G7.out W hb.out
    have x0 := GX0.out W hb.out
    have x1 := GX1.out W hb.out
    refine wpAnyIn_ready (rs := [0, 4, 5]) (by kernel_rfl) (by simp) ?_
    refine AllReadyIn.cons (o := oW0) rfl (fun K hK => ?_) (AllReadyIn.cons (o := oW4) rfl (fun K hK => ?_) (AllReadyIn.cons (o := oW5) rfl (fun K hK => ?_) (AllReadyIn.nil)))
    · unfold oW0
      go_simp
      refine hK _ _ ?_
      clear hK K
      (try simp only [Act.put, List.setIfInBounds_toArray, List.set_cons_zero, List.set_cons_succ])
      exact st_11110000000 W hb
    · unfold oW4
      go_simp
      refine hK _ _ ?_
      clear hK K
      (try simp only [Act.put, List.setIfInBounds_toArray, List.set_cons_zero, List.set_cons_succ])
      exact st_01111000000 W hb
    · unfold oW5
      go_simp
      refine hK _ _ ?_
      clear hK K
      (try simp only [Act.put, List.setIfInBounds_toArray, List.set_cons_zero, List.set_cons_succ])
      exact st_01110100000 W hb
  have st_01101000000 : ∀ (W : World), Aside0 (Below w.heap.size w W) → wpAnyIn (Fence.wide.inRound lp) nF Tryz.prog Region.Mode.any opsW Q 8 #[false, true, true, false, true, false, false, false, false, false, false] { tmps := #[t0, t1, t2, t3, t4, .pointer (some ⟨b5, 0, none⟩), t6, .pointer (some ⟨b7, 0, none⟩), .pointer (some ⟨Bx, 0, none⟩), t9, t10, t11, t12, t13, t14, undef, .func (.func ge) #[] #[], .agg #[.int .i64 ex, .int .i64 ey], undef, .func (.func ge) #[] #[], undef, undef, undef, undef, undef, undef, undef], defers := [] } W := by
    intro W hb
    have z5 := G5.out W hb.out
    have z7 := G7.out W hb.out
    have x0 := GX0.out W hb.out
    have x1 := GX1.out W hb.out
    refine wpAnyIn_ready (rs := [0, 3, 5]) (by kernel_rfl) (by simp) ?_
    refine AllReadyIn.cons (o := oW0) rfl (fun K hK => ?_) (AllReadyIn.cons (o := oW3) rfl (fun K hK => ?_) (AllReadyIn.cons (o := oW5) rfl (fun K hK => ?_) (AllReadyIn.nil)))
    · unfold oW0
      go_simp
      refine hK _ _ ?_
      clear hK K
      (try simp only [Act.put, List.setIfInBounds_toArray, List.set_cons_zero, List.set_cons_succ])
      exact st_11101000000 W hb
    · unfold oW3
      go_simp
      refine ⟨trivial, fun h => absurd h (by decide), ?_⟩
      refine (CallsIn.inRound lp (callsIn_wide.2 (HEo.out W))).mono ?_
      rintro e W3 ⟨rfl, hb3⟩
      refine hK _ _ ?_
      clear hK K
      (try simp only [Act.put, List.setIfInBounds_toArray, List.set_cons_zero, List.set_cons_succ])
      exact st_01111000000 W3 ⟨below_then hb.out hb.out.size hb3⟩
    · unfold oW5
      go_simp
      refine hK _ _ ?_
      clear hK K
      (try simp only [Act.put, List.setIfInBounds_toArray, List.set_cons_zero, List.set_cons_succ])
      exact st_01101100000 W hb
  have st_01100100000 : ∀ (W : World), Aside0 (Below w.heap.size w W) → wpAnyIn (Fence.wide.inRound lp) nF Tryz.prog Region.Mode.any opsW Q 8 #[false, true, true, false, false, true, false, false, false, false, false] { tmps := #[t0, t1, t2, t3, t4, .pointer (some ⟨b5, 0, none⟩), t6, .pointer (some ⟨b7, 0, none⟩), .pointer (some ⟨Bx, 0, none⟩), t9, t10, t11, t12, t13, t14, undef, .func (.func ge) #[] #[], .agg #[.int .i64 ex, .int .i64 ey], undef, undef, .agg #[.int .i64 ex, .int .i64 ey], undef, undef, undef, undef, undef, undef], defers := [] } W := by
    intro W hb
    have z5 := G5.out W hb.out
    have z7 := G7.out W hb.out
    have x0 := GX0.out W hb.out
    have x1 := GX1.out W hb.out
    refine wpAnyIn_ready (rs := [0, 3, 4]) (by kernel_rfl) (by simp) ?_
    refine AllReadyIn.cons (o := oW0) rfl (fun K hK => ?_) (AllReadyIn.cons (o := oW3) rfl (fun K hK => ?_) (AllReadyIn.cons (o := oW4) rfl (fun K hK => ?_) (AllReadyIn.nil)))
    · unfold oW0
      go_simp
      refine hK _ _ ?_
      clear hK K
      (try simp only [Act.put, List.setIfInBounds_toArray, List.set_cons_zero, List.set_cons_succ])
      exact st_11100100000 W hb
    · unfold oW3
      go_simp
      refine ⟨trivial, fun h => absurd h (by decide), ?_⟩
      refine (CallsIn.inRound lp (callsIn_wide.2 (HEo.out W))).mono ?_
      rintro e W3 ⟨rfl, hb3⟩
      refine hK _ _ ?_
      clear hK K
      (try simp only [Act.put, List.setIfInBounds_toArray, List.set_cons_zero, List.set_cons_succ])
      exact st_01110100000 W3 ⟨below_then hb.out hb.out.size hb3⟩
    · unfold oW4
      go_simp
      refine hK _ _ ?_
      clear hK K
      (try simp only [Act.put, List.setIfInBounds_toArray, List.set_cons_zero, List.set_cons_succ])
      exact st_01101100000 W hb
  have st_01001100000 : ∀ (W : World), Aside0 (Below w.heap.size w W) → wpAnyIn (Fence.wide.inRound lp) nF Tryz.prog Region.Mode.any opsW Q 8 #[false, true, false, false, true, true, false, false, false, false, false] { tmps := #[t0, t1, t2, t3, t4, .pointer (some ⟨b5, 0, none⟩), t6, .pointer (some ⟨b7, 0, none⟩), .pointer (some ⟨Bx, 0, none⟩), t9, t10, t11, t12, t13, t14, undef, .func (.func ge) #[] #[], undef, undef, .func (.func ge) #[] #[], .agg #[.int .i64 ex, .int .i64 ey], undef, undef, undef, undef, undef, undef], defers := [] } W := by
    intro W hb
    have z5 := G5.out W hb.out
    have z7 := G7.out W hb.out
    have x0 := GX0.out W hb.out
    have x1 := GX1.out W hb.out
    refine wpAnyIn_ready (rs := [0, 2]) (by kernel_rfl) (by simp) ?_
    refine AllReadyIn.cons (o := oW0) rfl (fun K hK => ?_) (AllReadyIn.cons (o := oW2) rfl (fun K hK => ?_) (AllReadyIn.nil))
    · unfold oW0
      go_simp
      refine hK _ _ ?_
      clear hK K
      (try simp only [Act.put, List.setIfInBounds_toArray, List.set_cons_zero, List.set_cons_succ])
      exact st_11001100000 W hb
    · unfold oW2
      go_simp
      refine hK _ _ ?_
      clear hK K
      (try simp only [Act.put, List.setIfInBounds_toArray, List.set_cons_zero, List.set_cons_succ])
      exact st_01101100000 W hb
  have st_00101100000 : ∀ (W : World), Aside0 (Below w.heap.size w W) → wpAnyIn (Fence.wide.inRound lp) nF Tryz.prog Region.Mode.any opsW Q 8 #[false, false, true, false, true, true, false, false, false, false, false] { tmps := #[t0, t1, t2, t3, t4, .pointer (some ⟨b5, 0, none⟩), t6, .pointer (some ⟨b7, 0, none⟩), .pointer (some ⟨Bx, 0, none⟩), t9, t10, t11, t12, t13, t14, undef, undef, .agg #[.int .i64 ex, .int .i64 ey], undef, .func (.func ge) #[] #[], .agg #[.int .i64 ex, .int .i64 ey], undef, undef, undef, undef, undef, undef], defers := [] } W := by
    intro W hb
    have z5 := G5.out W hb.out
    have z7 := G7.out W hb.out
    have x0 := GX0.out W hb.out
    have x1 := GX1.out W hb.out
    refine wpAnyIn_ready (rs := [0, 1]) (by kernel_rfl) (by simp) ?_
    refine AllReadyIn.cons (o := oW0) rfl (fun K hK => ?_) (AllReadyIn.cons (o := oW1) rfl (fun K hK => ?_) (AllReadyIn.nil))
    · unfold oW0
      go_simp
      refine hK _ _ ?_
      clear hK K
      (try simp only [Act.put, List.setIfInBounds_toArray, List.set_cons_zero, List.set_cons_succ])
      exact st_10101100000 W hb
    · unfold oW1
      go_simp
      refine hK _ _ ?_
      clear hK K
      (try simp only [Act.put, List.setIfInBounds_toArray, List.set_cons_zero, List.set_cons_succ])
      exact st_01101100000 W hb
  have st_11000000000 : ∀ (W : World), Aside0 (Below w.heap.size w W) → wpAnyIn (Fence.wide.inRound lp) nF Tryz.prog Region.Mode.any opsW Q 9 #[true, true, false, false, false, false, false, false, false, false, false] { tmps := #[t0, t1, t2, t3, t4, .pointer (some ⟨b5, 0, none⟩), t6, .pointer (some ⟨b7, 0, none⟩), .pointer (some ⟨Bx, 0, none⟩), t9, t10, t11, t12, t13, t14, .slice Ao n co, .func (.func ge) #[] #[], undef, undef, undef, undef, undef, undef, undef, undef, undef, undef], defers := [] } W := by
    intro W hb
    have z5 := G5.out W hb.out
    have z7 := G7.out W hb.out
    have x0 := GX0.out W hb.out
    have x1 := GX1.out W hb.out
    refine wpAnyIn_ready (rs := [2, 4, 5]) (by kernel_rfl) (by simp) ?_
    refine AllReadyIn.cons (o := oW2) rfl (fun K hK => ?_) (AllReadyIn.cons (o := oW4) rfl (fun K hK => ?_) (AllReadyIn.cons (o := oW5) rfl (fun K hK => ?_) (AllReadyIn.nil)))
    · unfold oW2
      go_simp
      refine hK _ _ ?_
      clear hK K
      (try simp only [Act.put, List.setIfInBounds_toArray, List.set_cons_zero, List.set_cons_succ])
      exact st_11100000000 W hb
    · unfold oW4
      go_simp
      refine hK _ _ ?_
      clear hK K
      (try simp only [Act.put, List.setIfInBounds_toArray, List.set_cons_zero, List.set_cons_succ])
      exact st_11001000000 W hb
    · unfold oW5
      go_simp
      refine hK _ _ ?_
      clear hK K
      (try simp only [Act.put, List.setIfInBounds_toArray, List.set_cons_zero, List.set_cons_succ])
      exact st_11000100000 W hb
  have st_10100000000 : ∀ (W : World), Aside0 (Below w.heap.size w W) → wpAnyIn (Fence.wide.inRound lp) nF Tryz.prog Region.Mode.any opsW Q 9 #[true, false, true, false, false, false, false, false, false, false, false] { tmps := #[t0, t1, t2, t3, t4, .pointer (some ⟨b5, 0, none⟩), t6, .pointer (some ⟨b7, 0, none⟩), .pointer (some ⟨Bx, 0, none⟩), t9, t10, t11, t12, t13, t14, .slice Ao n co, undef, .agg #[.int .i64 ex, .int .i64 ey], undef, undef, undef, undef, undef, undef, undef, undef, undef], defers := [] } W := by
    intro W hb
    have z5 := G5.out W hb.out
    have z7 := G7.out W hb.out
    have x0 := GX0.out W hb.out
    have x1 := GX1.out W hb.out
    refine wpAnyIn_ready (rs := [1, 4, 5]) (by kernel_rfl) (by simp) ?_
    refine AllReadyIn.cons (o := oW1) rfl (fun K hK => ?_) (AllReadyIn.cons (o := oW4) rfl (fun K hK => ?_) (AllReadyIn.cons (o := oW5) rfl (fun K hK => ?_) (AllReadyIn.nil)))
    · unfold oW1
      go_simp
      refine hK _ _ ?_
      clear hK K
      (try simp only [Act.put, List.setIfInBounds_toArray, List.set_cons_zero, List.set_cons_succ])
      exact st_11100000000 W hb
    · unfold oW4
      go_simp
      refine hK _ _ ?_
      clear hK K
      (try simp only [Act.put, List.setIfInBounds_toArray, List.set_cons_zero, List.set_cons_succ])
      exact st_10101000000 W hb
    · unfold oW5
      go_simp
      refine hK _ _ ?_
      clear hK K
      (try simp only [Act.put, List.setIfInBounds_toArray, List.set_cons_zero, List.set_cons_succ])
      exact st_10100100000 W hb
  have st_10001000000 : ∀ (W : World), Aside0 (Below w.heap.size w W) → wpAnyIn (Fence.wide.inRound lp) nF Tryz.prog Region.Mode.any opsW Q 9 #[true, false, false, false, true, false, false, false, false, false, false] { tmps := #[t0, t1, t2, t3, t4, .pointer (some ⟨b5, 0, none⟩), t6, .pointer (some ⟨b7, 0, none⟩), .pointer (some ⟨Bx, 0, none⟩), t9, t10, t11, t12, t13, t14, .slice Ao n co, undef, undef, undef, .func (.func ge) #[] #[], undef, undef, undef, undef, undef, undef, undef], defers := [] } W := by
    intro W hb
    have z5 := G5.out W hb.out
    have z7 := G7.out W hb.out
    have x0 := GX0.out W hb.out
    have x1 := GX1.out W hb.out
    refine wpAnyIn_ready (rs := [1, 2, 5]) (by kernel_rfl) (by simp) ?_
    refine AllReadyIn.cons (o := oW1) rfl (fun K hK => ?_) (AllReadyIn.cons (o := oW2) rfl (fun K hK => ?_) (AllReadyIn.cons (o := oW5) rfl (fun K hK => ?_) (AllReadyIn.nil)))
    · unfold oW1
      go_simp
      refine hK _ _ ?_
      clear hK K
      (try simp only [Act.put, List.setIfInBounds_toArray, List.set_cons_zero, List.set_cons_succ])
      exact st_11001000000 W hb
    · unfold oW2
      go_simp
      refine hK _ _ ?_
      clear hK K
      (try simp only [Act.put, List.setIfInBounds_toArray, List.set_cons_zero, List.set_cons_succ])
      exact st_10101000000 W hb
    · unfold oW5
      go_simp
      refine hK _ _ ?_
      clear hK K
      (try simp only [Act.put, List.setIfInBounds_toArray, List.set_cons_zero, List.set_cons_succ])
      exact st_10001100000 W hb
  have st_10000100000 : ∀ (W : World), Aside0 (Below w.heap.size w W) → wpAnyIn (Fence.wide.inRound lp) nF Tryz.prog Region.Mode.any opsW Q 9 #[true, false, false, false, false, true, false, false, false, false, false] { tmps := #[t0, t1, t2, t3, t4, .pointer (some ⟨b5, 0, none⟩), t6, .pointer (some ⟨b7, 0, none⟩), .pointer (some ⟨Bx, 0, none⟩), t9, t10, t11, t12, t13, t14, .slice Ao n co, undef, undef, undef, undef, .agg #[.int .i64 ex, .int .i64 ey], undef, undef, undef, undef, undef, undef], defers := [] } W := by
    intro W hb
    have z5 := G5.out W hb.out
    have z7 := G7.out W hb.out
    have x0 := GX0.out W hb.out
    have x1 := GX1.out W hb.out
    refine wpAnyIn_ready (rs := [1, 2, 4]) (by kernel_rfl) (by simp) ?_
    refine AllReadyIn.cons (o := oW1) rfl (fun K hK => ?_) (AllReadyIn.cons (o := oW2) rfl (fun K hK => ?_) (AllReadyIn.cons (o := oW4) rfl (fun K hK => ?_) (AllReadyIn.nil)))
    · unfold oW1
      go_simp
      refine hK _ _ ?_
      clear hK K
      (try simp only [Act.put, List.setIfInBounds_toArray, List.set_cons_zero, List.set_cons_succ])
      exact st_11000100000 W hb
    · unfold oW2
      go_simp
      refine hK _ _ ?_
      clear hK K
      (try simp only [Act.put, List.setIfInBounds_toArray, List.set_cons_zero, List.set_cons_succ])
      exact st_10100100000 W hb
    · unfold oW4
      go_simp
      refine hK _ _ ?_
      clear hK K
      (try simp only [Act.put, List.setIfInBounds_toArray, List.set_cons_zero, List.set_cons_succ])
      exact st_10001100000 W hb
  have st_01100000000 : ∀ (W : World), Aside0 (Below w.heap.size w W) → wpAnyIn (Fence.wide.inRound lp) nF Tryz.prog Region.Mode.any opsW Q 9 #[false, true, true, false, false, false, false, false, false, false, false] { tmps := #[t0, t1, t2, t3, t4, .pointer (some ⟨b5, 0, none⟩), t6, .pointer (some ⟨b7, 0, none⟩), .pointer (some ⟨Bx, 0, none⟩), t9, t10, t11, t12, t13, t14, undef, .func (.func ge) #[] #[], .agg #[.int .i64 ex, .int .i64 ey], undef, undef, undef, undef, undef, undef, undef, undef, undef], defers := [] } W := by
    intro W hb
    have z5 := G5.out W hb.out
    have z7 := G7.out W hb.out
    have x0 := GX0.out W hb.out
    have x1 := GX1.out W hb.out
    refine wpAnyIn_ready (rs := [0, 3, 4, 5]) (by kernel_rfl) (by simp) ?_
    refine AllReadyIn.cons (o := oW0) rfl (fun K hK => ?_) (AllReadyIn.cons (o := oW3) rfl (fun K hK => ?_) (AllReadyIn.cons (o := oW4) rfl (fun K hK => ?_) (AllReadyIn.cons (o := oW5) rfl (fun K hK => ?_) (AllReadyIn.nil))))
    · unfold oW0
      go_simp
      refine hK _ _ ?_
      clear hK K
      (try simp only [Act.put, List.setIfInBounds_toArray, List.set_cons_zero, List.set_cons_succ])
      exact st_11100000000 W hb
    · unfold oW3
      go_simp
      refine ⟨trivial, fun h => absurd h (by decide), ?_⟩
      refine (CallsIn.inRound lp (callsIn_wide.2 (HEo.out W))).mono ?_
      rintro e W3 ⟨rfl, hb3⟩
      refine hK _ _ ?_
      clear hK K
      (try simp only [Act.put, List.setIfInBounds_toArray, List.set_cons_zero, List.set_cons_succ])
      exact st_01110000000 W3 ⟨below_then hb.out hb.out.size hb3⟩
    · unfold oW4
      go_simp
      refine hK _ _ ?_
      clear hK K
      (try simp only [Act.put, List.setIfInBounds_toArray, List.set_cons_zero, List.set_cons_succ])
      exact st_01101000000 W hb
    · unfold oW5
      go_simp
      refine hK _ _ ?_
      clear hK K
      (try simp only [Act.put, List.setIfInBounds_toArray, List.set_cons_zero, List.set_cons_succ])
      exact st_01100100000 W hb
  have st_01001000000 : ∀ (W : World), Aside0 (Below w.heap.size w W) → wpAnyIn (Fence.wide.inRound lp) nF Tryz.prog Region.Mode.any opsW Q 9 #[false, true, false, false, true, false, false, false, false, false, false] { tmps := #[t0, t1, t2, t3, t4, .pointer (some ⟨b5, 0, none⟩), t6, .pointer (some ⟨b7, 0, none⟩), .pointer (some ⟨Bx, 0, none⟩), t9, t10, t11, t12, t13, t14, undef, .func (.func ge) #[] #[], undef, undef, .func (.func ge) #[] #[], undef, undef, undef, undef, undef, undef, undef], defers := [] } W := by
    intro W hb
    have z5 := G5.out W hb.out
    have z7 := G7.out W hb.out
    have x0 := GX0.out W hb.out
    have x1 := GX1.out W hb.out
    refine wpAnyIn_ready (rs := [0, 2, 5]) (by kernel_rfl) (by simp) ?_
    refine AllReadyIn.cons (o := oW0) rfl (fun K hK => ?_) (AllReadyIn.cons (o := oW2) rfl (fun K hK => ?_) (AllReadyIn.cons (o := oW5) rfl (fun K hK => ?_) (AllReadyIn.nil)))
    · unfold oW0
      go_simp
      refine hK _ _ ?_
      clear hK K
      (try simp only [Act.put, List.setIfInBounds_toArray, List.set_cons_zero, List.set_cons_succ])
      exact st_11001000000 W hb
    · unfold oW2
      go_simp
      refine hK _ _ ?_
      clear hK K
      (try simp only [Act.put, List.setIfInBounds_toArray, List.set_cons_zero, List.set_cons_succ])
      exact st_01101000000 W hb
    · unfold oW5
      go_simp
      refine hK _ _ ?_
      clear hK K
      (try simp only [Act.put, List.setIfInBounds_toArray, List.set_cons_zero, List.set_cons_succ])
      exact st_01001100000 W hb
  have st_01000100000 : ∀ (W : World), Aside0 (Below w.heap.size w W) → wpAnyIn (Fence.wide.inRound lp) nF Tryz.prog Region.Mode.any opsW Q 9 #[false, true, false, false, false, true, false, false, false, false, false] { tmps := #[t0, t1, t2, t3, t4, .pointer (some ⟨b5, 0, none⟩), t6, .pointer (some ⟨b7, 0, none⟩), .pointer (some ⟨Bx, 0, none⟩), t9, t10, t11, t12, t13, t14, undef, .func (.func ge) #[] #[], undef, undef, undef, .agg #[.int .i64 ex, .int .i64 ey], undef, undef, undef, undef, undef, undef], defers := [] } W := by
    intro W hb
    have z5 := G5.out W hb.out
    have z7 := G7.out W hb.out
    have x0 := GX0.out W hb.out
    have x1 := GX1.out W hb.out
    refine wpAnyIn_ready (rs := [0, 2, 4]) (by kernel_rfl) (by simp) ?_
    refine AllReadyIn.cons (o := oW0) rfl (fun K hK => ?_) (AllReadyIn.cons (o := oW2) rfl (fun K hK => ?_) (AllReadyIn.cons (o := oW4) rfl (fun K hK => ?_) (AllReadyIn.nil)))
    · unfold oW0
      go_simp
      refine hK _ _ ?_
      clear hK K
      (try simp only [Act.put, List.setIfInBounds_toArray, List.set_cons_zero, List.set_cons_succ])
      exact st_11000100000 W hb
    · unfold oW2
      go_simp
      refine hK _ _ ?_
      clear hK K
      (try simp only [Act.put, List.setIfInBounds_toArray, List.set_cons_zero, List.set_cons_succ])
      exact st_01100100000 W hb
    · unfold oW4
      go_simp
      refine hK _ _ ?_
      clear hK K
      (try simp only [Act.put, List.setIfInBounds_toArray, List.set_cons_zero, List.set_cons_succ])
      exact st_01001100000 W hb
  have st_00101000000 : ∀ (W : World), Aside0 (Below w.heap.size w W) → wpAnyIn (Fence.wide.inRound lp) nF Tryz.prog Region.Mode.any opsW Q 9 #[false, false, true, false, true, false, false, false, false, false, false] { tmps := #[t0, t1, t2, t3, t4, .pointer (some ⟨b5, 0, none⟩), t6, .pointer (some ⟨b7, 0, none⟩), .pointer (some ⟨Bx, 0, none⟩), t9, t10, t11, t12, t13, t14, undef, undef, .agg #[.int .i64 ex, .int .i64 ey], undef, .func (.func ge) #[] #[], undef, undef, undef, undef, undef, undef, undef], defers := [] } W := by
    intro W hb
    have z5 := G5.out W hb.out
    have z7 := G7.out W hb.out
    have x0 := GX0.out W hb.out
    have x1 := GX1.out W hb.out
    refine wpAnyIn_ready (rs := [0, 1, 5]) (by kernel_rfl) (by simp) ?_
    refine AllReadyIn.cons (o := oW0) rfl (fun K hK => ?_) (AllReadyIn.cons (o := oW1) rfl (fun K hK => ?_) (AllReadyIn.cons (o := oW5) rfl (fun K hK => ?_) (AllReadyIn.nil)))
    · unfold oW0
      go_simp
      refine hK _ _ ?_
      clear hK K
      (try simp only [Act.put, List.setIfInBounds_toArray, List.set_cons_zero, List.set_cons_succ])
      exact st_10101000000 W hb
    · unfold oW1
      go_simp
      refine hK _ _ ?_
      clear hK K
      (try simp only [Act.put, List.setIfInBounds_toArray, List.set_cons_zero, List.set_cons_succ])
      exact st_01101000000 W hb
    · unfold oW5
      go_simp
      refine hK _ _ ?_
      clear hK K
      (try simp only [Act.put, List.setIfInBounds_toArray, List.set_cons_zero, List.set_cons_succ])
      exact st_00101100000 W hb
  have st_00100100000 : ∀ (W : World), Aside0 (Below w.heap.size w W) → wpAnyIn (Fence.wide.inRound lp) nF Tryz.prog Region.Mode.any opsW Q 9 #[false, false, true, false, false, true, false, false, false, false, false] { tmps := #[t0, t1, t2, t3, t4, .pointer (some ⟨b5, 0, none⟩), t6, .pointer (some ⟨b7, 0, none⟩), .pointer (some ⟨Bx, 0, none⟩), t9, t10, t11, t12, t13, t14, undef, undef, .agg #[.int .i64 ex, .int .i64 ey], undef, undef, .agg #[.int .i64 ex, .int .i64 ey], undef, undef, undef, undef, undef, undef], defers := [] } W := by
    intro W hb
    have z5 := G5.out W hb.out
    have z7 := G7.out W hb.out
    have x0 := GX0.out W hb.out
    have x1 := GX1.out W hb.out
    refine wpAnyIn_ready (rs := [0, 1, 4]) (by kernel_rfl) (by simp) ?_
    refine AllReadyIn.cons (o := oW0) rfl (fun K hK => ?_) (AllReadyIn.cons (o := oW1) rfl (fun K hK => ?_) (AllReadyIn.cons (o := oW4) rfl (fun K hK => ?_) (AllReadyIn.nil)))
    · unfold oW0
      go_simp
      refine hK _ _ ?_
      clear hK K
      (try simp only [Act.put, List.setIfInBounds_toArray, List.set_cons_zero, List.set_cons_succ])
      exact st_10100100000 W hb
    · unfold oW1
      go_simp
      refine hK _ _ ?_
      clear hK K
      (try simp only [Act.put, List.setIfInBounds_toArray, List.set_cons_zero, List.set_cons_succ])
      exact st_01100100000 W hb
    · unfold oW4
      go_simp
      refine hK _ _ ?_
      clear hK K
      (try simp only [Act.put, List.setIfInBounds_toArray, List.set_cons_zero, List.set_cons_succ])
      exact st_00101100000 W hb
  have st_00001100000 : ∀ (W : World), Aside0 (Below w.heap.size w W) → wpAnyIn (Fence.wide.inRound lp) nF Tryz.prog Region.Mode.any opsW Q 9 #[false, false, false, false, true, true, false, false, false, false, false] { tmps := #[t0, t1, t2, t3, t4, .pointer (some ⟨b5, 0, none⟩), t6, .pointer (some ⟨b7, 0, none⟩), .pointer (some ⟨Bx, 0, none⟩), t9, t10, t11, t12, t13, t14, undef, undef, undef, undef, .func (.func ge) #[] #[], .agg #[.int .i64 ex, .int .i64 ey], undef, undef, undef, undef, undef, undef], defers := [] } W := by
    intro W hb
    have z5 := G5.out W hb.out
    have z7 := G7.out W hb.out
    have x0 := GX0.out W hb.out
    have x1 := GX1.out W hb.out
    refine wpAnyIn_ready (rs := [0, 1, 2]) (by kernel_rfl) (by simp) ?_
    refine AllReadyIn.cons (o := oW0) rfl (fun K hK => ?_) (AllReadyIn.cons (o := oW1) rfl (fun K hK => ?_) (AllReadyIn.cons (o := oW2) rfl (fun K hK => ?_) (AllReadyIn.nil)))
    · unfold oW0
      go_simp
      refine hK _ _ ?_
      clear hK K
      (try simp only [Act.put, List.setIfInBounds_toArray, List.set_cons_zero, List.set_cons_succ])
      exact st_10001100000 W hb
    · unfold oW1
      go_simp
      refine hK _ _ ?_
      clear hK K
      (try simp only [Act.put, List.setIfInBounds_toArray, List.set_cons_zero, List.set_cons_succ])
      exact st_01001100000 W hb
    · unfold oW2
      go_simp
      refine hK _ _ ?_
      clear hK K
      (try simp only [Act.put, List.setIfInBounds_toArray, List.set_cons_zero, List.set_cons_succ])
      exact st_00101100000 W hb
  have st_10000000000 : ∀ (W : World), Aside0 (Below w.heap.size w W) → wpAnyIn (Fence.wide.inRound lp) nF Tryz.prog Region.Mode.any opsW Q 10 #[true, false, false, false, false, false, false, false, false, false, false] { tmps := #[t0, t1, t2, t3, t4, .pointer (some ⟨b5, 0, none⟩), t6, .pointer (some ⟨b7, 0, none⟩), .pointer (some ⟨Bx, 0, none⟩), t9, t10, t11, t12, t13, t14, .slice Ao n co, undef, undef, undef, undef, undef, undef, undef, undef, undef, undef, undef], defers := [] } W := by
    intro W hb
    have z5 := G5.out W hb.out
    have z7 := G7.out W hb.out
    have x0 := GX0.out W hb.out
    have x1 := GX1.out W hb.out
    refine wpAnyIn_ready (rs := [1, 2, 4, 5]) (by kernel_rfl) (by simp) ?_
    refine AllReadyIn.cons (o := oW1) rfl (fun K hK => ?_) (AllReadyIn.cons (o := oW2) rfl (fun K hK => ?_) (AllReadyIn.cons (o := oW4) rfl (fun K hK => ?_) (AllReadyIn.cons (o := oW5) rfl (fun K hK => ?_) (AllReadyIn.nil))))
    · unfold oW1
      go_simp
      refine hK _ _ ?_
      clear hK K
      (try simp only [Act.put, List.setIfInBounds_toArray, List.set_cons_zero, List.set_cons_succ])
      exact st_11000000000 W hb
    · unfold oW2
      go_simp
      refine hK _ _ ?_
      clear hK K
      (try simp only [Act.put, List.setIfInBounds_toArray, List.set_cons_zero, List.set_cons_succ])
      exact st_10100000000 W hb
    · unfold oW4
      go_simp
      refine hK _ _ ?_
      clear hK K
      (try simp only [Act.put, List.setIfInBounds_toArray, List.set_cons_zero, List.set_cons_succ])
      exact st_10001000000 W hb
    · unfold oW5
      go_simp
      refine hK _ _ ?_
      clear hK K
      (try simp only [Act.put, List.setIfInBounds_toArray, List.set_cons_zero, List.set_cons_succ])
      exact st_10000100000 W hb
  have st_01000000000 : ∀ (W : World), Aside0 (Below w.heap.size w W) → wpAnyIn (Fence.wide.inRound lp) nF Tryz.prog Region.Mode.any opsW Q 10 #[false, true, false, false, false, false, false, false, false, false, false] { tmps := #[t0, t1, t2, t3, t4, .pointer (some ⟨b5, 0, none⟩), t6, .pointer (some ⟨b7, 0, none⟩), .pointer (some ⟨Bx, 0, none⟩), t9, t10, t11, t12, t13, t14, undef, .func (.func ge) #[] #[], undef, undef, undef, undef, undef, undef, undef, undef, undef, undef], defers := [] } W := by
    intro W hb
    have z5 := G5.out W hb.out
    have z7 := G7.out W hb.out
    have x0 := GX0.out W hb.out
    have x1 := GX1.out W hb.out
    refine wpAnyIn_ready (rs := [0, 2, 4, 5]) (by kernel_rfl) (by simp) ?_
    refine AllReadyIn.cons (o := oW0) rfl (fun K hK => ?_) (AllReadyIn.cons (o := oW2) rfl (fun K hK => ?_) (AllReadyIn.cons (o := oW4) rfl (fun K hK => ?_) (AllReadyIn.cons (o := oW5) rfl (fun K hK => ?_) (AllReadyIn.nil))))
    · unfold oW0
      go_simp
      refine hK _ _ ?_
      clear hK K
      (try simp only [Act.put, List.setIfInBounds_toArray, List.set_cons_zero, List.set_cons_succ])
      exact st_11000000000 W hb
    · unfold oW2
      go_simp
      refine hK _ _ ?_
      clear hK K
      (try simp only [Act.put, List.setIfInBounds_toArray, List.set_cons_zero, List.set_cons_succ])
      exact st_01100000000 W hb
    · unfold oW4
      go_simp
      refine hK _ _ ?_
      clear hK K
      (try simp only [Act.put, List.setIfInBounds_toArray, List.set_cons_zero, List.set_cons_succ])
      exact st_01001000000 W hb
    · unfold oW5
      go_simp
      refine hK _ _ ?_
      clear hK K
      (try simp only [Act.put, List.setIfInBounds_toArray, List.set_cons_zero, List.set_cons_succ])
      exact st_01000100000 W hb
  have st_00100000000 : ∀ (W : World), Aside0 (Below w.heap.size w W) → wpAnyIn (Fence.wide.inRound lp) nF Tryz.prog Region.Mode.any opsW Q 10 #[false, false, true, false, false, false, false, false, false, false, false] { tmps := #[t0, t1, t2, t3, t4, .pointer (some ⟨b5, 0, none⟩), t6, .pointer (some ⟨b7, 0, none⟩), .pointer (some ⟨Bx, 0, none⟩), t9, t10, t11, t12, t13, t14, undef, undef, .agg #[.int .i64 ex, .int .i64 ey], undef, undef, undef, undef, undef, undef, undef, undef, undef], defers := [] } W := by
    intro W hb
    have z5 := G5.out W hb.out
    have z7 := G7.out W hb.out
    have x0 := GX0.out W hb.out
    have x1 := GX1.out W hb.out
    refine wpAnyIn_ready (rs := [0, 1, 4, 5]) (by kernel_rfl) (by simp) ?_
    refine AllReadyIn.cons (o := oW0) rfl (fun K hK => ?_) (AllReadyIn.cons (o := oW1) rfl (fun K hK => ?_) (AllReadyIn.cons (o := oW4) rfl (fun K hK => ?_) (AllReadyIn.cons (o := oW5) rfl (fun K hK => ?_) (AllReadyIn.nil))))
    · unfold oW0
      go_simp
      refine hK _ _ ?_
      clear hK K
      (try simp only [Act.put, List.setIfInBounds_toArray, List.set_cons_zero, List.set_cons_succ])
      exact st_10100000000 W hb
    · unfold oW1
      go_simp
      refine hK _ _ ?_
      clear hK K
      (try simp only [Act.put, List.setIfInBounds_toArray, List.set_cons_zero, List.set_cons_succ])
      exact st_01100000000 W hb
    · unfold oW4
      go_simp
      refine hK _ _ ?_
      clear hK K
      (try simp only [Act.put, List.setIfInBounds_toArray, List.set_cons_zero, List.set_cons_succ])
      exact st_00101000000 W hb
    · unfold oW5
      go_simp
      refine hK _ _ ?_
      clear hK K
      (try simp only [Act.put, List.setIfInBounds_toArray, List.set_cons_zero, List.set_cons_succ])
      exact st_00100100000 W hb
  have st_00001000000 : ∀ (W : World), Aside0 (Below w.heap.size w W) → wpAnyIn (Fence.wide.inRound lp) nF Tryz.prog Region.Mode.any opsW Q 10 #[false, false, false, false, true, false, false, false, false, false, false] { tmps := #[t0, t1, t2, t3, t4, .pointer (some ⟨b5, 0, none⟩), t6, .pointer (some ⟨b7, 0, none⟩), .pointer (some ⟨Bx, 0, none⟩), t9, t10, t11, t12, t13, t14, undef, undef, undef, undef, .func (.func ge) #[] #[], undef, undef, undef, undef, undef, undef, undef], defers := [] } W := by
    intro W hb
    have z5 := G5.out W hb.out
    have z7 := G7.out W hb.out
    have x0 := GX0.out W hb.out
    have x1 := GX1.out W hb.out
    refine wpAnyIn_ready (rs := [0, 1, 2, 5]) (by kernel_rfl) (by simp) ?_
    refine AllReadyIn.cons (o := oW0) rfl (fun K hK => ?_) (AllReadyIn.cons (o := oW1) rfl (fun K hK => ?_) (AllReadyIn.cons (o := oW2) rfl (fun K hK => ?_) (AllReadyIn.cons (o := oW5) rfl (fun K hK => ?_) (AllReadyIn.nil))))
    · unfold oW0
      go_simp
      refine hK _ _ ?_
      clear hK K
      (try simp only [Act.put, List.setIfInBounds_toArray, List.set_cons_zero, List.set_cons_succ])
      exact st_10001000000 W hb
    · unfold oW1
      go_simp
      refine hK _ _ ?_
      clear hK K
      (try simp only [Act.put, List.setIfInBounds_toArray, List.set_cons_zero, List.set_cons_succ])
      exact st_01001000000 W hb
    · unfold oW2
      go_simp
      refine hK _ _ ?_
      clear hK K
      (try simp only [Act.put, List.setIfInBounds_toArray, List.set_cons_zero, List.set_cons_succ])
      exact st_00101000000 W hb
    · unfold oW5
      go_simp
      refine hK _ _ ?_
      clear hK K
      (try simp only [Act.put, List.setIfInBounds_toArray, List.set_cons_zero, List.set_cons_succ])
      exact st_00001100000 W hb
  have st_00000100000 : ∀ (W : World), Aside0 (Below w.heap.size w W) → wpAnyIn (Fence.wide.inRound lp) nF Tryz.prog Region.Mode.any opsW Q 10 #[false, false, false, false, false, true, false, false, false, false, false] { tmps := #[t0, t1, t2, t3, t4, .pointer (some ⟨b5, 0, none⟩), t6, .pointer (some ⟨b7, 0, none⟩), .pointer (some ⟨Bx, 0, none⟩), t9, t10, t11, t12, t13, t14, undef, undef, undef, undef, undef, .agg #[.int .i64 ex, .int .i64 ey], undef, undef, undef, undef, undef, undef], defers := [] } W := by
    intro W hb
    have z5 := G5.out W hb.out
    have z7 := G7.out W hb.out
    have x0 := GX0.out W hb.out
    have x1 := GX1.out W hb.out
    refine wpAnyIn_ready (rs := [0, 1, 2, 4]) (by kernel_rfl) (by simp) ?_
    refine AllReadyIn.cons (o := oW0) rfl (fun K hK => ?_) (AllReadyIn.cons (o := oW1) rfl (fun K hK => ?_) (AllReadyIn.cons (o := oW2) rfl (fun K hK => ?_) (AllReadyIn.cons (o := oW4) rfl (fun K hK => ?_) (AllReadyIn.nil))))
    · unfold oW0
      go_simp
      refine hK _ _ ?_
      clear hK K
      (try simp only [Act.put, List.setIfInBounds_toArray, List.set_cons_zero, List.set_cons_succ])
      exact st_10000100000 W hb
    · unfold oW1
      go_simp
      refine hK _ _ ?_
      clear hK K
      (try simp only [Act.put, List.setIfInBounds_toArray, List.set_cons_zero, List.set_cons_succ])
      exact st_01000100000 W hb
    · unfold oW2
      go_simp
      refine hK _ _ ?_
      clear hK K
      (try simp only [Act.put, List.setIfInBounds_toArray, List.set_cons_zero, List.set_cons_succ])
      exact st_00100100000 W hb
    · unfold oW4
      go_simp
      refine hK _ _ ?_
      clear hK K
      (try simp only [Act.put, List.setIfInBounds_toArray, List.set_cons_zero, List.set_cons_succ])
      exact st_00001100000 W hb
  have st_00000000000 : ∀ (W : World), Aside0 (Below w.heap.size w W) → wpAnyIn (Fence.wide.inRound lp) nF Tryz.prog Region.Mode.any opsW Q 11 #[false, false, false, false, false, false, false, false, false, false, false] { tmps := #[t0, t1, t2, t3, t4, .pointer (some ⟨b5, 0, none⟩), t6, .pointer (some ⟨b7, 0, none⟩), .pointer (some ⟨Bx, 0, none⟩), t9, t10, t11, t12, t13, t14, undef, undef, undef, undef, undef, undef, undef, undef, undef, undef, undef, undef], defers := [] } W := by
    intro W hb
    have z5 := G5.out W hb.out
    have z7 := G7.out W hb.out
    have x0 := GX0.out W hb.out
    have x1 := GX1.out W hb.out
    refine wpAnyIn_ready (rs := [0, 1, 2, 4, 5]) (by kernel_rfl) (by simp) ?_
    refine AllReadyIn.cons (o := oW0) rfl (fun K hK => ?_) (AllReadyIn.cons (o := oW1) rfl (fun K hK => ?_) (AllReadyIn.cons (o := oW2) rfl (fun K hK => ?_) (AllReadyIn.cons (o := oW4) rfl (fun K hK => ?_) (AllReadyIn.cons (o := oW5) rfl (fun K hK => ?_) (AllReadyIn.nil)))))
    · unfold oW0
      go_simp
      refine hK _ _ ?_
      clear hK K
      (try simp only [Act.put, List.setIfInBounds_toArray, List.set_cons_zero, List.set_cons_succ])
      exact st_10000000000 W hb
    · unfold oW1
      go_simp
      refine hK _ _ ?_
      clear hK K
      (try simp only [Act.put, List.setIfInBounds_toArray, List.set_cons_zero, List.set_cons_succ])
      exact st_01000000000 W hb
    · unfold oW2
      go_simp
      refine hK _ _ ?_
      clear hK K
      (try simp only [Act.put, List.setIfInBounds_toArray, List.set_cons_zero, List.set_cons_succ])
      exact st_00100000000 W hb
    · unfold oW4
      go_simp
      refine hK _ _ ?_
      clear hK K
      (try simp only [Act.put, List.setIfInBounds_toArray, List.set_cons_zero, List.set_cons_succ])
      exact st_00001000000 W hb
    · unfold oW5
      go_simp
      refine hK _ _ ?_
      clear hK K
      (try simp only [Act.put, List.setIfInBounds_toArray, List.set_cons_zero, List.set_cons_succ])
      exact st_00000100000 W hb
  exact st_00000000000 w ⟨Below.refl _ _⟩
end Go.Proofs.YtaaekmcmpjljgaaGreat.Gr
namespace Go.Proofs.YtaaekmcmpjljgaaGreat.Gr
open Go.RowKit Go.Proofs.YtaaekmcmpjljgaaGreatW.PrintWords Go.Proofs.YtaaekmcmpjljgaaGreatW.PrintWords.Kd Go.Proofs.YtaaekmcmpjljgaaGreatW.PrintLast Go.Proofs.YtaaekmcmpjljgaaGreatW.PrintMore Go.Proofs.YtaaekmcmpjljgaaGreat.PMd Go.Proofs.YtaaekmcmpjljgaaGreat.Ln
open Go.Maps
open Go.Sort (grow)
attribute [local go_sem] Oper.semAt_some
set_option linter.unusedVariables false
set_option linter.unusedSimpArgs false
def pickE (pk : Ed → Bool) (en : Ed → Int) (l : List Ed) : List Ed := (l.filter pk).map fun e => (en e, en e)
theorem pickE_snoc (pk : Ed → Bool) (en : Ed → Int) (l : List Ed) (x : Ed) : pickE pk en (l ++ [x]) = if pk x then pickE pk en l ++ [(en x, en x)] else pickE pk en l := by
  unfold pickE
  rw [List.filter_append]
  by_cases h : pk x
  · rw [if_pos h, List.filter_cons_of_pos h]; simp
  · rw [if_neg h, List.filter_cons_of_neg h]; simp
theorem pickE_len (pk : Ed → Bool) (en : Ed → Int) (l : List Ed) : (pickE pk en l).length ≤ l.length := by unfold pickE; rw [List.length_map]; exact List.length_filter_le _ _
def seen (l : List Ed) (pre : List (Fin l.length)) : List Ed := pre.map fun x => l.getD x.1 (0, 0)
theorem seen_snoc (l : List Ed) (pre : List (Fin l.length)) (x : Fin l.length) : seen l (pre ++ [x]) = seen l pre ++ [l.getD x.1 (0, 0)] := by simp [seen]
theorem seen_all {l : List Ed} {ys : List (Fin l.length)} (h : ys.map (·.1) = List.range l.length) : seen l ys = l := by
  have : seen l ys = (ys.map (·.1)).map fun i => l.getD i (0, 0) := by simp [seen]
  rw [this, h]
  refine List.ext_getElem (by simp) (fun i h1 h2 => ?_)
  simp at h1
  simp [List.getElem?_eq_getElem h1]
def WaysI (w : World) (fp fe : Value) (pk : Ed → Bool) (en : Ed → Int) (l : List Ed) (pre : List (Fin l.length)) (W : World) : Prop :=
  ∃ Ao co, W.heap[w.heap.size + 2]? = some (.cells #[.slice Ao (pickE pk en (seen l pre)).length co] 45 (0, 0)) ∧ RowE W Ao co (pickE pk en (seen l pre)) ∧ (∀ k, blk Ao k → w.heap.size + 4 ≤ k) ∧ Below w.heap.size w W ∧
    W.heap[w.heap.size]? = some (.cells #[fp] 88 (0, 0)) ∧ W.heap[w.heap.size + 1]? = some (.cells #[fe] 122 (0, 0)) ∧ w.heap.size + 4 ≤ W.heap.size ∧ pre.length ≤ l.length
theorem ways_keep {w : World} {fp fe : Value} {pk : Ed → Bool} {en : Ed → Int} {l : List Ed} {pre : List (Fin l.length)} {W W' : World} (h : WaysI w fp fe pk en l pre W) (ho : W'.os = W.os) (ht : W'.tape = W.tape) (hu : W'.output = W.output) (hz : W.heap.size ≤ W'.heap.size)
    (hb : ∀ k, k < W.heap.size → (k < w.heap.size + 4 ∨ ∃ cs t z, W.heap[k]? = some (.cells cs t z)) → W'.heap[k]? = W.heap[k]?) : WaysI w fp fe pk en l pre W' := by
  obtain ⟨Ao, co, h1, h2, h3, h4, h5, h6, h7, h8⟩ := h
  have hs := h4.size
  refine ⟨Ao, co, (hb _ (by omega) (.inl (by omega))).trans h1, ?_, h3, h4.trans ⟨ho, ht, hu, hz, fun k hk => hb k (by omega) (.inl (by omega))⟩, (hb _ (by omega) (.inl (by omega))).trans h5, (hb _ (by omega) (.inl (by omega))).trans h6, by omega, h8⟩
  exact Row.move h2 (fun k hk hl => hb k hl (.inr (by
    obtain ⟨cur, hc⟩ := Row.typed h2 hk
    exact ⟨_, _, _, hc⟩)))
theorem ways_own {w : World} {fp fe : Value} {pk : Ed → Bool} {en : Ed → Int} {l : List Ed} : OwnFrom (w.heap.size + 4) (WaysI w fp fe pk en l) := fun pre W W' row h hg hr =>
  ways_keep h hg.os hg.tape hg.output hg.size (fun k hk h => hg.block k hk (fun e => by
    obtain ⟨hB, o, ho, hc⟩ := hr k e.symm
    rcases h with h | ⟨cs, t, z, h⟩
    · omega
    · rw [h] at ho; injection ho with ho; subst ho; cases hc))
theorem ways_below {w : World} {fp fe : Value} {pk : Ed → Bool} {en : Ed → Int} {l : List Ed} {pre : List (Fin l.length)} {W W' : World} (h : WaysI w fp fe pk en l pre W) (hb : Below W.heap.size W W') : WaysI w fp fe pk en l pre W' :=
  ways_keep h hb.os hb.tape hb.output hb.size (fun k hk _ => hb.block k hk)
theorem ways_next {w : World} {fp fe : Value} {pk : Ed → Bool} {en : Ed → Int} {l : List Ed} {pre : List (Fin l.length)} {x : Fin l.length} {W : World} (h : WaysI w fp fe pk en l pre W) (he : pickE pk en (seen l (pre ++ [x])) = pickE pk en (seen l pre)) (hl : pre.length < l.length) : WaysI w fp fe pk en l (pre ++ [x]) W := by
  obtain ⟨Ao, co, h1, h2, h3, h4, h5, h6, h7, h8⟩ := h
  unfold WaysI
  rw [he]
  exact ⟨Ao, co, h1, h2, h3, h4, h5, h6, h7, by simp; omega⟩
theorem ways_close {w : World} {fp fe : Value} {pk : Ed → Bool} {en : Ed → Int} {l : List Ed} {pre : List (Fin l.length)} {x : Fin l.length} {W W1 W2 : World} {Ao : Option Addr} {co : Nat} {z : Int} {g : Nat}
    (h1 : W.heap[w.heap.size + 2]? = some (.cells #[.slice Ao (pickE pk en (seen l pre)).length co] 45 (0, 0))) (h2 : RowE W Ao co (pickE pk en (seen l pre))) (h3 : ∀ k, blk Ao k → w.heap.size + 4 ≤ k) (h4 : Below w.heap.size w W)
    (h5 : W.heap[w.heap.size]? = some (.cells #[fp] 88 (0, 0))) (h6 : W.heap[w.heap.size + 1]? = some (.cells #[fe] 122 (0, 0))) (h7 : w.heap.size + 4 ≤ W.heap.size) (hg4 : g < w.heap.size + 4)
    (hlen : pre.length < l.length) (he : pickE pk en (seen l (pre ++ [x])) = pickE pk en (seen l pre) ++ [(z, z)])
    (hb : Below W.heap.size W W1) (A9 : Option Addr) (c9 : Nat) (hr : Row W2 87 2 A9 ((pickE pk en (seen l pre)).length + 1) c9 (flatP (pickE pk en (seen l pre)) ++ [.int .i64 z, .int .i64 z])) (hg : Grew (blk Ao) W1 W2) (hk : ∀ k, blk A9 k → blk Ao k ∨ W1.heap.size ≤ k) (hgx : g ≠ w.heap.size + 2) :
    KeepsFrom (w.heap.size + 4) W (W2.setCell ⟨w.heap.size + 2, 0, none⟩ (.slice A9 ((pickE pk en (seen l pre)).length + 1) c9)) ∧ Keep2 g (w.heap.size + 3) W (W2.setCell ⟨w.heap.size + 2, 0, none⟩ (.slice A9 ((pickE pk en (seen l pre)).length + 1) c9)) ∧
      WaysI w fp fe pk en l (pre ++ [x]) (W2.setCell ⟨w.heap.size + 2, 0, none⟩ (.slice A9 ((pickE pk en (seen l pre)).length + 1) c9)) := by
  have hs1 := hb.size
  have hs2 := hg.size
  have key : ∀ k, k < W.heap.size → ¬ blk Ao k → k ≠ w.heap.size + 2 → (W2.setCell ⟨w.heap.size + 2, 0, none⟩ (.slice A9 ((pickE pk en (seen l pre)).length + 1) c9)).heap[k]? = W.heap[k]? := fun k hk1 hk2 hk3 =>
    (Below.heap_setCell W2 ⟨w.heap.size + 2, 0, none⟩ _ k hk3).trans ((hg.block k (by omega) hk2).trans (hb.block k hk1))
  have nb : ∀ k, k < w.heap.size + 4 → ¬ blk Ao k := fun k hk1 hk2 => by have := h3 k hk2; omega
  have hsz : (W2.setCell ⟨w.heap.size + 2, 0, none⟩ (.slice A9 ((pickE pk en (seen l pre)).length + 1) c9)).heap.size = W2.heap.size := by simp [World.setCell]
  have b2 : W2.heap[w.heap.size + 2]? = some (.cells #[.slice Ao (pickE pk en (seen l pre)).length co] 45 (0, 0)) := (hg.block _ (by omega) (nb _ (by omega))).trans ((hb.block _ (by omega)).trans h1)
  have hA9 : ∀ k, blk A9 k → w.heap.size + 4 ≤ k := fun k h => (hk k h).elim (h3 k) (fun h => by omega)
  refine ⟨⟨by rw [hsz]; omega, fun k o hk1 ho hc => ?_⟩, ⟨key g (by omega) (nb g hg4) hgx, key _ (by omega) (nb _ (by omega)) (by omega)⟩, A9, c9, ?_, ?_, hA9, ?_, ?_, ?_, ?_, by simp; omega⟩
  · have hkl := (Array.getElem?_eq_some_iff.1 ho).1
    refine (key k hkl (fun hbk => ?_) (by omega)).trans ho
    obtain ⟨cur, hcur⟩ := Row.typed h2 hbk
    rw [hcur] at ho
    injection ho with ho
    subst ho
    cases hc
  · rw [he, List.length_append]
    have := heap_setCell_same W2 (w.heap.size + 2) 0 _ _ (.slice A9 ((pickE pk en (seen l pre)).length + 1) c9) b2
    simpa using this
  · rw [he]
    unfold RowE
    rw [List.length_append, show flatP (pickE pk en (seen l pre) ++ [(z, z)]) = flatP (pickE pk en (seen l pre)) ++ [.int .i64 z, .int .i64 z] from by simp [flatP]]
    exact hr.set (p := ⟨w.heap.size + 2, 0, none⟩) (fun h => by have h9 : w.heap.size + 4 ≤ w.heap.size + 2 := hA9 _ h; omega) _
  · refine h4.trans ⟨?_, ?_, ?_, by omega, fun k hk1 => key k (by omega) (nb k (by omega)) (by omega)⟩
    · exact hg.os.trans hb.os
    · exact hg.tape.trans hb.tape
    · exact hg.output.trans hb.output
  · exact (key _ (by omega) (nb _ (by omega)) (by omega)).trans h5
  · exact (key _ (by omega) (nb _ (by omega)) (by omega)).trans h6
  · omega
set_option maxHeartbeats 8000000 in
set_option maxRecDepth 100000 in
theorem ways_ (gp : Nat) (lb : Array Value) (ge : Nat) (pk : Ed → Bool) (en : Ed → Int) (egp : ∀ args w, (callFunc gp args).run Tryz.prog w = .ok (.enter gp args) w) (ege : ∀ args w, (callFunc ge args).run Tryz.prog w = .ok (.enter ge args) w)
    (A : Option Addr) (c : Nat) (l : List Ed) (w : World) (hR : RowE w A c l) (hl : l.length ≤ 400000)
    (hP : ∀ W e, Below w.heap.size w W → e ∈ l → Calls Tryz.prog gp (#[edV e] ++ lb) W fun r w' => r = .returned (.bool (pk e)) ∧ Below W.heap.size W w')
    (hE : ∀ W e, e ∈ l → Calls Tryz.prog ge #[edV e] W fun r w' => r = .returned (.int .i64 (en e)) ∧ Below W.heap.size W w') :
    Calls Tryz.prog 67 #[.slice A l.length c, .func (.func gp) #[] lb, .func (.func ge) #[] #[]] w (BlPost w (nodesE (pickE pk en l))) := by
  have hu := Tryz.underlying87
  have mixed : Tryz.prog.follows Departure.mixedOrders = true := by kernel_rfl
  have HR := Aside0.mk hR
  have HL := Aside0.mk hl
  have HP := Aside0.mk hP
  have HE := Aside0.mk hE
  have hAt : ∃ g : Nat, g < w.heap.size + 4 ∧ g ≠ w.heap.size + 2 ∧ ∀ j, j < l.length → ∃ off, A = some ⟨g, off, none⟩ ∧ w.cell? ⟨g, off + j * 2, none⟩ = some (.int .i64 (l.getD j (0, 0)).1) ∧ w.cell? ⟨g, off + j * 2 + 1, none⟩ = some (.int .i64 (l.getD j (0, 0)).2) := by
    by_cases h0 : 0 < l.length
    · obtain ⟨g, off, hA, hq, _⟩ := RowE.at_ hR h0
      refine ⟨g, by have h7 : g < w.heap.size := cellLt hq; omega, by have h7 : g < w.heap.size := cellLt hq; omega, fun j hj => ?_⟩
      obtain ⟨g', off', hA', h1, h2⟩ := RowE.at_ hR hj
      rw [hA] at hA'
      injection hA' with e
      injection e with e1 e2 _
      subst e1; subst e2
      exact ⟨off, hA, h1, h2⟩
    · exact ⟨0, by omega, by omega, fun j hj => by omega⟩
  obtain ⟨g, hg4, hgx, hAt⟩ := hAt
  have hgw : 0 < l.length → g < w.heap.size := fun h => by
    obtain ⟨off, _, h1, _⟩ := hAt 0 h
    exact cellLt h1
  have HAT := Aside0.mk (And.intro hAt hgw)
  clear hR hl hP hE hAt hgw
  refine (callsIn_wide (n := 9)).1 ?_
  refine callsIn_of_wp_marks Tryz.func67 rfl trivial ?_ rfl
  simp only [Tryz.ntmps67, List.size_toArray, List.length_cons, List.length_nil, Nat.reduceAdd, Nat.reduceSub, Array.replicate_succ, Array.replicate_zero, List.push_toArray, List.append_toArray, List.nil_append, List.cons_append]
  gi_wp2_with (first | (refine ⟨trivial, ?_⟩; gi_at_call 95; refine (Values_in Fence.wide _ trivial rfl _ _ _ _).mono ?_; rintro e w' ⟨rfl, rfl⟩) | fail)
  have s1 : (w.alloc (.cells #[.func (.func gp) #[] lb] 88)).heap.size = w.heap.size + 1 := by simp
  have s2 : ((w.alloc (.cells #[.func (.func gp) #[] lb] 88)).alloc (.cells #[.func (.func ge) #[] #[]] 122)).heap.size = w.heap.size + 2 := by simp
  have s3 : (((w.alloc (.cells #[.func (.func gp) #[] lb] 88)).alloc (.cells #[.func (.func ge) #[] #[]] 122)).alloc (.cells #[.slice none 0 0] 45)).heap.size = w.heap.size + 3 := by simp
  have b0 := blk_new w (.cells #[.func (.func gp) #[] lb] 88)
  have b1 := blk_new (w.alloc (.cells #[.func (.func gp) #[] lb] 88)) (.cells #[.func (.func ge) #[] #[]] 122)
  have b2 := blk_new ((w.alloc (.cells #[.func (.func gp) #[] lb] 88)).alloc (.cells #[.func (.func ge) #[] #[]] 122)) (.cells #[.slice none 0 0] 45)
  have b3 := blk_new (((w.alloc (.cells #[.func (.func gp) #[] lb] 88)).alloc (.cells #[.func (.func ge) #[] #[]] 122)).alloc (.cells #[.slice none 0 0] 45)) (.cells #[.slice A l.length c] 45)
  rw [s1] at b1
  rw [s2] at b2
  rw [s3] at b3
  replace b0 := blk_alloc (blk_alloc (blk_alloc b0 (.cells #[.func (.func ge) #[] #[]] 122)) (.cells #[.slice none 0 0] 45)) (.cells #[.slice A l.length c] 45)
  replace b1 := blk_alloc (blk_alloc b1 (.cells #[.slice none 0 0] 45)) (.cells #[.slice A l.length c] 45)
  replace b2 := blk_alloc b2 (.cells #[.slice A l.length c] 45)
  have hB := below_alloc (below_alloc (below_alloc (below_alloc (Below.refl w.heap.size w) (.cells #[.func (.func gp) #[] lb] 88)) (.cells #[.func (.func ge) #[] #[]] 122)) (.cells #[.slice none 0 0] 45)) (.cells #[.slice A l.length c] 45)
  have s4 : ((((w.alloc (.cells #[.func (.func gp) #[] lb] 88)).alloc (.cells #[.func (.func ge) #[] #[]] 122)).alloc (.cells #[.slice none 0 0] 45)).alloc (.cells #[.slice A l.length c] 45)).heap.size = w.heap.size + 4 := by simp
  rw [show w.heap.size + 1 + 1 + 1 = w.heap.size + 3 from rfl, show w.heap.size + 1 + 1 = w.heap.size + 2 from rfl]
  obtain ⟨W0, hW0⟩ : ∃ W, (((w.alloc (.cells #[.func (.func gp) #[] lb] 88)).alloc (.cells #[.func (.func ge) #[] #[]] 122)).alloc (.cells #[.slice none 0 0] 45)).alloc (.cells #[.slice A l.length c] 45) = W := ⟨_, rfl⟩
  rw [hW0] at b0 b1 b2 b3 hB s4 ⊢
  clear hW0 s1 s2 s3
  have hI0 : WaysI w (.func (.func gp) #[] lb) (.func (.func ge) #[] #[]) pk en l [] W0 :=
    ⟨none, 0, b2, Row.zero _ _ _, fun k h => (blk_none h).elim, hB, b0, b1, by omega, by simp⟩
  refine wpIn_rangeFunc_ownH rfl (by decide) (gf := 114) (lb := #[.pointer (some ⟨w.heap.size + 3, 0, none⟩)]) rfl trivial (enters_of Tryz.func114 (by kernel_rfl) rfl)
    (vals_stops Fence.wide _ trivial rfl (by decide) (w.heap.size + 3) g A c l W0 (by omega) (fun h => Nat.lt_of_lt_of_le (HAT.out.2 h) hB.size) ((blk_cell b3 0).trans rfl) (fun j hj => by
      obtain ⟨off, h1, h2, h3⟩ := HAT.out.1 j hj
      exact ⟨off, h1, (hB.cell (p := ⟨g, off + j * 2, none⟩) (HAT.out.2 (by omega))).trans h2, (hB.cell (p := ⟨g, off + j * 2 + 1, none⟩) (HAT.out.2 (by omega))).trans h3⟩) (by have := HL.out; omega))
    (fun h k => Keep2.trans h k) (keep2_put (by omega) (by omega)) (Below.refl _ _) (fun _ => rfl)
    (WaysI w (.func (.func gp) #[] lb) (.func (.func ge) #[] #[]) pk en l) (fun _ _ _ => False) (by rw [s4]; exact ways_own) (fun c s W W' row hs _ _ => hs) hI0
    (fun x a' W => ∃ Bx, w.heap.size + 4 ≤ Bx ∧ W.heap[Bx]? = some (.cells #[.int .i64 (l.getD x.1 (0, 0)).1, .int .i64 (l.getD x.1 (0, 0)).2] 87 (0, 0)) ∧
      a' = { tmps := #[.slice A l.length c, .func (.func gp) #[] lb, .func (.func ge) #[] #[], undef, .pointer (some ⟨w.heap.size, 0, none⟩), .pointer (some ⟨w.heap.size + 1, 0, none⟩), .slice none 0 0, .pointer (some ⟨w.heap.size + 2, 0, none⟩), .pointer (some ⟨Bx, 0, none⟩), .slice A l.length c, .func (.func 114) #[] #[.pointer (some ⟨w.heap.size + 3, 0, none⟩)], edV (l.getD x.1 (0, 0)), undef, undef, undef, undef, undef, undef, undef, undef, undef, undef, undef, undef, undef, undef, undef], defers := [] })
    ?hAx ?assign ?body ?done ?stop
  case hAx =>
    rintro x a' s W W' row ⟨Bx, h1, h2, h3⟩ hg hr
    refine ⟨Bx, h1, (hg.block Bx (Array.getElem?_eq_some_iff.1 h2).1 (fun e => ?_)).trans h2, h3⟩
    obtain ⟨_, o, ho, hc⟩ := hr Bx e.symm
    rw [h2] at ho; injection ho with ho; subst ho; cases hc
  case assign =>
    intro lp pre x W K hI hK
    obtain ⟨⟨ex, ey⟩, hxy⟩ : ∃ e, e = l.getD x.1 (0, 0) := ⟨_, rfl⟩
    have hsz : w.heap.size + 4 ≤ W.heap.size := by obtain ⟨_, _, _, _, _, _, _, _, h, _⟩ := hI; exact h
    have hgz : 0 < l.length → g < W.heap.size := fun h => by have := HAT.out.2 h; omega
    have hlx : 0 < l.length := by have := x.2; omega
    have hfin := hK _ _ ((KeepsOthers.alloc W (.cells #[.int .i64 ex, .int .i64 ey] 87)).from _) ⟨Below.heap_alloc W _ g (hgz hlx), Below.heap_alloc W _ _ (by omega)⟩ (ways_below hI (below_alloc (Below.refl _ _) _)) ⟨W.heap.size, hsz, by rw [← hxy]; exact blk_new W _, rfl⟩
    rw [← hxy] at hfin ⊢
    unfold edV at hfin ⊢
    gi_wp2
    exact hfin
  case body =>
    rintro lp pre x a' W hlW hlr hI ⟨Bx, hBx, hX, rfl⟩ hlen
    have hG : ∀ W', WaysI w (.func (.func gp) #[] lb) (.func (.func ge) #[] #[]) pk en l (pre ++ [x]) W' = WaysI w (.func (.func gp) #[] lb) (.func (.func ge) #[] #[]) pk en l (pre ++ [x]) W' := fun _ => rfl
    have hmem : l.getD x.1 (0, 0) ∈ l := by
      rw [List.getD_eq_getElem?_getD, List.getElem?_eq_getElem x.2, Option.getD_some]
      exact List.getElem_mem _
    have hsn := seen_snoc l pre x
    obtain ⟨ed, hed⟩ : ∃ e, e = l.getD x.1 (0, 0) := ⟨_, rfl⟩
    rw [← hed] at hX hmem hsn ⊢
    clear hed
    have hI' := hI
    obtain ⟨Ao, co, h1, h2, h3, h4, h5, h6, h7, h8⟩ := hI'
    have z4 : W.cell? ⟨w.heap.size, 0, none⟩ = some (.func (.func gp) #[] lb) := (blk_cell h5 0).trans rfl
    have x0 : W.cell? ⟨Bx, 0, none⟩ = some (.int .i64 ed.1) := (blk_cell hX 0).trans rfl
    have x1 : W.cell? ⟨Bx, 1, none⟩ = some (.int .i64 ed.2) := (blk_cell hX 1).trans rfl
    have HC := Aside0.mk (HP.out W ed h4 hmem)
    unfold edV at HC
    cases hq : pk ed with
    | false =>
      rw [hq] at HC
      gi_wp2_with (first | (refine ⟨trivial, ?_⟩; refine (CallsIn.inRound lp (callsIn_wide.2 HC.out)).mono ?_; rintro e W1 ⟨rfl, hb⟩) | fail)
      refine ⟨⟨hb.size, fun k o _ hk _ => (hb.block k (Array.getElem?_eq_some_iff.1 hk).1).trans hk⟩, ⟨hb.block g (by omega), hb.block _ (by omega)⟩, ?_⟩
      exact ways_next (ways_below hI hb) (by rw [hsn, pickE_snoc, hq]; rfl) hlen
    | true =>
      rw [hq] at HC
      gi_wp2_with (first | (refine ⟨trivial, ?_⟩; refine (CallsIn.inRound lp (callsIn_wide.2 HC.out)).mono ?_; rintro e W1 ⟨rfl, hb⟩) | fail)
      refine wpIn_region_any mixed ?_
      change wpAnyIn _ _ _ _ _ _ _ _ _ (World.drew _)
      have hE' := HE.out
      have hI1 := ways_below hI hb
      have x0' : W1.cell? ⟨Bx, 0, none⟩ = some (.int .i64 ed.1) := (hb.cell (p := ⟨Bx, 0, none⟩) (cellLt x0)).trans x0
      have x1' : W1.cell? ⟨Bx, 1, none⟩ = some (.int .i64 ed.2) := (hb.cell (p := ⟨Bx, 1, none⟩) (cellLt x1)).trans x1
      obtain ⟨Ao, co, h1, h2, h3, h4, h5, h6, h7, h8⟩ := hI1
      have z5 : W1.cell? ⟨w.heap.size + 1, 0, none⟩ = some (.func (.func ge) #[] #[]) := (blk_cell h6 0).trans rfl
      have hne : (pickE pk en (seen l pre)).length ≤ 400000 := by
        have q1 := pickE_len pk en (seen l pre)
        have q2 : (seen l pre).length = pre.length := by simp [seen]
        have q3 := HL.out
        omega
      refine ways5 lp _ ge _ _ _ _ _ _ _ _ _ _ _ _ _ (w.heap.size + 1) (w.heap.size + 2) Bx (pickE pk en (seen l pre)).length co Ao (flatP (pickE pk en (seen l pre))) ed.1 ed.2 (en ed) W1.drew ege z5 h1 x0' x1' h2 hne (fun W => hE' W ed hmem) ?_
      intro a W3 W2 A9 c9 hb3 hr3 hg3 hk3
      obtain ⟨q1, q2, q3⟩ := ways_close (x := x) (g := g) (z := en ed) h1 h2 h3 h4 h5 h6 h7 hg4 hlen (by rw [hsn, pickE_snoc, hq]; rfl) (show Below W1.heap.size W1 W3 from ⟨hb3.os, hb3.tape, hb3.output, hb3.size, hb3.block⟩) A9 c9 hr3 hg3 hk3 hgx
      exact ⟨KeepsFrom.trans ⟨hb.size, fun k o _ hk _ => (hb.block k (Array.getElem?_eq_some_iff.1 hk).1).trans hk⟩ (by rw [s4]; exact q1), Keep2.trans ⟨hb.block g (by omega), hb.block _ (by omega)⟩ q2, q3⟩
  case done =>
    rintro D ys W hD hS hI hKD
    obtain ⟨Ao, co, h1, h2, h3, h4, h5, h6, h7, h8⟩ := hI
    rw [seen_all hS] at h1 h2
    have z7 : W.cell? ⟨w.heap.size + 2, 0, none⟩ = some (.slice Ao (pickE pk en l).length co) := (blk_cell h1 0).trans rfl
    have HN := Aside0.mk (Nodes_ Ao co (pickE pk en l) W h2 (Nat.le_trans (pickE_len pk en l) HL.out))
    have HD := Aside0.mk (And.intro hD (And.intro hKD (And.intro h4 s4)))
    clear h1 h2 h3 h5 h6 h7 h8 hS hD hKD hI0 hu b0 b1 b2 b3 hB
    gi_wp2_with (first | (refine ⟨trivial, ?_⟩; gi_at_call 96; refine (callsIn_wide.2 HN.out).mono ?_; rintro e W3 ⟨A3, c3, rfl, h3, k3, b3⟩; have H3 := Aside0.mk h3; have K3 := Aside0.mk k3; have B3 := Aside0.mk b3; clear h3 k3 b3) | fail)
    have kD : W3.heap[D]? = some (.deferred (some [])) := (B3.out.block D (Array.getElem?_eq_some_iff.1 HD.out.2.1).1).trans HD.out.2.1
    have hDW := (Array.getElem?_eq_some_iff.1 HD.out.2.1).1
    have hD4 := HD.out.1
    have hp : ∀ k, k ≠ D → (W3.putObj D (.deferred none)).heap[k]? = W3.heap[k]? := fun k hk => World.putObj_heap_other (fun e => hk e)
    have hps : (W3.putObj D (.deferred none)).heap.size = W3.heap.size := by simp [World.putObj]
    have hw4 := HD.out.2.2.1
    have hs := HD.out.2.2.2
    have hb3 := B3.out
    have hsz := hb3.size
    refine ⟨by simp, .inl ⟨_, _, rfl, run_takeDeferred kD, ?_⟩⟩
    refine ⟨_, results_tmp rfl _ _ _, ?_⟩
    refine ⟨A3, c3, rfl, H3.out.move (fun k hk _ => hp k (fun e => by have := K3.out k hk; omega)), fun k hk => by have h1 := K3.out k hk; have h2 := hw4.size; omega, ?_⟩
    refine ⟨hb3.os.trans hw4.os, hb3.tape.trans hw4.tape, hb3.output.trans hw4.output, by rw [hps]; have := hw4.size; omega, fun k hk => ?_⟩
    have h2 := hw4.size
    exact (hp k (by omega)).trans ((hb3.block k (by omega)).trans (hw4.block k hk))
  case stop =>
    rintro D c pre W _ _ h _
    exact h.elim
end Go.Proofs.YtaaekmcmpjljgaaGreat.Gr
namespace Go.Proofs.YtaaekmcmpjljgaaGreat.Gr
open Go.RowKit Go.Proofs.YtaaekmcmpjljgaaGreatW.PrintWords Go.Proofs.YtaaekmcmpjljgaaGreatW.PrintWords.Kd Go.Proofs.YtaaekmcmpjljgaaGreatW.PrintLast Go.Proofs.YtaaekmcmpjljgaaGreatW.PrintMore Go.Proofs.YtaaekmcmpjljgaaGreat.PMd Go.Proofs.YtaaekmcmpjljgaaGreat.Ln
open Go.Maps
open Go.Sort (grow)
set_option linter.unusedVariables false
set_option linter.unusedSimpArgs false
def eldB (d : List Int) (e : Ed) : Bool := decide (ageF d e.1 e.2 < 0)
def yngB (d : List Int) (e : Ed) : Bool := decide (0 < ageF d e.1 e.2)
def woundF (d : List Int) (l : List Ed) : List Int := nodesE (pickE (eldB d) (·.2) l)
def deathF (d : List Int) (l : List Ed) : List Int := nodesE (pickE (yngB d) (·.1) l)
set_option maxHeartbeats 8000000 in
theorem wounds1_ (x y : Int) (g : Nat) (A : Option Addr) (c : Nat) (d : List Int) (w : World) (hc : w.cell? ⟨g, 0, none⟩ = some (.slice A d.length c)) (hR : Kd.C (Kd.int .i64) w A d.length d) (hx : ok64 x) (hy : ok64 y) :
    Calls Tryz.prog 68 #[.agg #[.int .i64 x, .int .i64 y], .pointer (some ⟨g, 0, none⟩)] w fun e w' => e = .returned (.bool (eldB d (x, y))) ∧ Below w.heap.size w w' := by
  have hu := Tryz.underlying87
  have c1 := cell_al hc (.cells #[.int .i64 x, .int .i64 y] 87)
  have HB := Aside0.mk (below_alloc (Below.refl w.heap.size w) (.cells #[.int .i64 x, .int .i64 y] 87))
  have H1 := Aside0.mk (age_ A c d x y (w.alloc (.cells #[.int .i64 x, .int .i64 y] 87)) (Kd.C_below hR HB.out) hx hy)
  have HN := Aside0.mk (show eldB d (x, y) = decide (ageF d x y < 0) from rfl)
  generalize ageF d x y = z at H1 HN
  clear hR
  go_enter Tryz.func68, Tryz.ntmps68
  go_wp2_with fail
  refine H1.out.mono ?_
  rintro e w1 ⟨rfl, hb⟩
  have HB1 := Aside0.mk (below_then HB.out HB.out.size hb)
  clear hb
  go_wp2_with fail
  go_ret
  exact ⟨by rw [HN.out]; rfl, HB1.out⟩
theorem enters_wounds1 : ∀ args w, (callFunc 68 args).run Tryz.prog w = .ok (.enter 68 args) w := ent_of Tryz.func68 (by kernel_rfl) rfl
theorem wounds2_ (x y : Int) (w : World) : Calls Tryz.prog 70 #[.agg #[.int .i64 x, .int .i64 y]] w fun e w' => e = .returned (.int .i64 y) ∧ Below w.heap.size w w' := by
  have hu := Tryz.underlying87
  have HB := Aside0.mk (below_alloc (Below.refl w.heap.size w) (.cells #[.int .i64 x, .int .i64 y] 87))
  go_enter Tryz.func70, Tryz.ntmps70
  go_wp2_with fail
  go_ret
  exact ⟨rfl, HB.out⟩
theorem enters_wounds2 : ∀ args w, (callFunc 70 args).run Tryz.prog w = .ok (.enter 70 args) w := ent_of Tryz.func70 (by kernel_rfl) rfl
set_option maxHeartbeats 8000000 in
theorem Wounds_ (Ad : Option Addr) (cd : Nat) (d : List Int) (A : Option Addr) (c : Nat) (l : List Ed) (w : World) (hd : Kd.C (Kd.int .i64) w Ad d.length d) (hR : RowE w A c l) (hl : l.length ≤ 400000) (hok : OkE l) :
    Calls Tryz.prog 43 #[.slice Ad d.length cd, .slice A l.length c] w (BlPost w (woundF d l)) := by
  have HB := Aside0.mk (below_alloc (Below.refl w.heap.size w) (.cells #[.slice Ad d.length cd] 29))
  have H1 := Aside0.mk (ways_ 68 #[.pointer (some ⟨w.heap.size, 0, none⟩)] 70 (eldB d) (·.2) enters_wounds1 enters_wounds2 A c l (w.alloc (.cells #[.slice Ad d.length cd] 29)) (Row.below hR HB.out) hl
    (fun W e hb he => wounds1_ e.1 e.2 w.heap.size Ad cd d W ((hb.cell (p := ⟨w.heap.size, 0, none⟩) (by simp)).trans ((blk_cell (blk_new w _) 0).trans rfl)) (Kd.C_below hd (below_then HB.out HB.out.size hb)) (hok e he).1 (hok e he).2)
    (fun W e he => wounds2_ e.1 e.2 W))
  have HE := Aside0.mk (show nodesE (pickE (eldB d) (·.2) l) = woundF d l from rfl)
  generalize nodesE (pickE (eldB d) (·.2) l) = r at H1 HE
  clear hd hR hl hok
  go_enter Tryz.func43, Tryz.ntmps43
  go_wp2_with fail
  refine H1.out.mono ?_
  rintro e w1 ⟨A1, c1, rfl, h1, k1, b1⟩
  have HR1 := Aside0.mk h1
  have HK1 := Aside0.mk k1
  have HB1 := Aside0.mk b1
  clear h1 k1 b1
  go_wp2_with fail
  go_ret
  rw [← HE.out]
  exact ⟨A1, c1, rfl, HR1.out, fun k hk => Nat.le_trans HB.out.size (HK1.out k hk), below_then HB.out HB.out.size HB1.out⟩
set_option maxHeartbeats 8000000 in
theorem deaths1_ (x y : Int) (g : Nat) (A : Option Addr) (c : Nat) (d : List Int) (w : World) (hc : w.cell? ⟨g, 0, none⟩ = some (.slice A d.length c)) (hR : Kd.C (Kd.int .i64) w A d.length d) (hx : ok64 x) (hy : ok64 y) :
    Calls Tryz.prog 71 #[.agg #[.int .i64 x, .int .i64 y], .pointer (some ⟨g, 0, none⟩)] w fun e w' => e = .returned (.bool (yngB d (x, y))) ∧ Below w.heap.size w w' := by
  have hu := Tryz.underlying87
  have c1 := cell_al hc (.cells #[.int .i64 x, .int .i64 y] 87)
  have HB := Aside0.mk (below_alloc (Below.refl w.heap.size w) (.cells #[.int .i64 x, .int .i64 y] 87))
  have H1 := Aside0.mk (age_ A c d x y (w.alloc (.cells #[.int .i64 x, .int .i64 y] 87)) (Kd.C_below hR HB.out) hx hy)
  have HN := Aside0.mk (show yngB d (x, y) = decide (0 < ageF d x y) from rfl)
  generalize ageF d x y = z at H1 HN
  clear hR
  go_enter Tryz.func71, Tryz.ntmps71
  go_wp2_with fail
  refine H1.out.mono ?_
  rintro e w1 ⟨rfl, hb⟩
  have HB1 := Aside0.mk (below_then HB.out HB.out.size hb)
  clear hb
  go_wp2_with fail
  go_ret
  exact ⟨by rw [HN.out]; rfl, HB1.out⟩
theorem enters_deaths1 : ∀ args w, (callFunc 71 args).run Tryz.prog w = .ok (.enter 71 args) w := ent_of Tryz.func71 (by kernel_rfl) rfl
theorem deaths2_ (x y : Int) (w : World) : Calls Tryz.prog 72 #[.agg #[.int .i64 x, .int .i64 y]] w fun e w' => e = .returned (.int .i64 x) ∧ Below w.heap.size w w' := by
  have hu := Tryz.underlying87
  have HB := Aside0.mk (below_alloc (Below.refl w.heap.size w) (.cells #[.int .i64 x, .int .i64 y] 87))
  go_enter Tryz.func72, Tryz.ntmps72
  go_wp2_with fail
  go_ret
  exact ⟨rfl, HB.out⟩
theorem enters_deaths2 : ∀ args w, (callFunc 72 args).run Tryz.prog w = .ok (.enter 72 args) w := ent_of Tryz.func72 (by kernel_rfl) rfl
set_option maxHeartbeats 8000000 in
theorem Deaths_ (Ad : Option Addr) (cd : Nat) (d : List Int) (A : Option Addr) (c : Nat) (l : List Ed) (w : World) (hd : Kd.C (Kd.int .i64) w Ad d.length d) (hR : RowE w A c l) (hl : l.length ≤ 400000) (hok : OkE l) :
    Calls Tryz.prog 44 #[.slice Ad d.length cd, .slice A l.length c] w (BlPost w (deathF d l)) := by
  have HB := Aside0.mk (below_alloc (Below.refl w.heap.size w) (.cells #[.slice Ad d.length cd] 29))
  have H1 := Aside0.mk (ways_ 71 #[.pointer (some ⟨w.heap.size, 0, none⟩)] 72 (yngB d) (·.1) enters_deaths1 enters_deaths2 A c l (w.alloc (.cells #[.slice Ad d.length cd] 29)) (Row.below hR HB.out) hl
    (fun W e hb he => deaths1_ e.1 e.2 w.heap.size Ad cd d W ((hb.cell (p := ⟨w.heap.size, 0, none⟩) (by simp)).trans ((blk_cell (blk_new w _) 0).trans rfl)) (Kd.C_below hd (below_then HB.out HB.out.size hb)) (hok e he).1 (hok e he).2)
    (fun W e he => deaths2_ e.1 e.2 W))
  have HE := Aside0.mk (show nodesE (pickE (yngB d) (·.1) l) = deathF d l from rfl)
  generalize nodesE (pickE (yngB d) (·.1) l) = r at H1 HE
  clear hd hR hl hok
  go_enter Tryz.func44, Tryz.ntmps44
  go_wp2_with fail
  refine H1.out.mono ?_
  rintro e w1 ⟨A1, c1, rfl, h1, k1, b1⟩
  have HR1 := Aside0.mk h1
  have HK1 := Aside0.mk k1
  have HB1 := Aside0.mk b1
  clear h1 k1 b1
  go_wp2_with fail
  go_ret
  rw [← HE.out]
  exact ⟨A1, c1, rfl, HR1.out, fun k hk => Nat.le_trans HB.out.size (HK1.out k hk), below_then HB.out HB.out.size HB1.out⟩
end Go.Proofs.YtaaekmcmpjljgaaGreat.Gr
