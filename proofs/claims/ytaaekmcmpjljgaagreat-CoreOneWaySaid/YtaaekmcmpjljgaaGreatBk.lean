import Derived.RangeFuncNested
import Derived.RangeFuncBound
import Derived.RangeFuncCalls
import Derived.RangeFuncLeaves
import Derived.Shelf.RegionOpen
import Derived.WalkKit
import Derived.OwnWalkIn
import Derived.TacticsInMore
import Derived.LoopNIn
import Derived.LoopIn
import Derived.Maps.OwnIn
import Derived.Test.YtaaekmcmpjljgaaGreatProg
namespace Go.Proofs.YtaaekmcmpjljgaaGreat.Ln
open Go.RowKit
attribute [local go_sem] Oper.semAt_some
set_option linter.unusedVariables false
set_option linter.unusedSimpArgs false
set_option maxHeartbeats 1000000 in
theorem Backward_in (F : Fence) (n : Nat) (hf : F.fn 51) (hro : F.round = none) (a : Option Addr) (len cap : Nat) (w : World) :
    CallsIn F n Tryz.prog 51 #[.slice a len cap] w fun e w' => e = .returned (.func (.func 80) #[] #[.pointer (some ⟨w.heap.size, 0, none⟩)]) ∧ w' = w.alloc (.cells #[.slice a len cap] 74) := by
  refine callsIn_of_wp Tryz.func51 rfl hf ?_ hro
  simp only [Tryz.ntmps51, List.size_toArray, List.length_cons, List.length_nil, Nat.reduceAdd, Nat.reduceSub, Array.replicate_succ, Array.replicate_zero, List.push_toArray, List.append_toArray, List.nil_append, List.cons_append]
  gi_wp2
  go_ret
  exact ⟨rfl, rfl⟩
def Keep2 (g Bs : Nat) (W W' : World) : Prop := W'.heap[g]? = W.heap[g]? ∧ W'.heap[Bs]? = W.heap[Bs]?
theorem Keep2.refl (g Bs : Nat) (W : World) : Keep2 g Bs W W := ⟨rfl, rfl⟩
theorem Keep2.trans {g Bs : Nat} {A B C : World} (h : Keep2 g Bs A B) (k : Keep2 g Bs B C) : Keep2 g Bs A C := ⟨k.1.trans h.1, k.2.trans h.2⟩
theorem keep2_put {g Bs n : Nat} (hg : g < n) (hb : Bs < n) : ∀ (W : World) (l : Nat) (o o' : Obj), n ≤ l → W.heap[l]? = some o → o.isCells = false → o.isWalk = false → Keep2 g Bs W (W.putObj l o') := fun W l o o' hl _ _ _ =>
  ⟨World.putObj_heap_other (by omega), World.putObj_heap_other (by omega)⟩
def downN (len k : Nat) : List Nat := (List.range k).map (fun j => len - 1 - j)
theorem downN_succ (len k : Nat) : downN len (k + 1) = downN len k ++ [len - 1 - k] := by
  unfold downN
  rw [List.range_succ, List.map_append]; rfl
theorem downN_len (len k : Nat) : (downN len k).length = k := by simp [downN]
set_option maxRecDepth 100000 in
set_option maxHeartbeats 2000000 in
theorem back1_in (F : Fence) (n : Nat) (hf : F.fn 80) (hro : F.round = none) (hn : 1 ≤ n) (l Bs g off len cap : Nat) (bs : Nat → Nat) (J Jx : List (Fin len) → World → Prop)
    (hY : ∀ pre x W, J pre W → pre.length < len → YieldAt F (n - 1) Tryz.prog l #[.int .i64 ((x.1 : Nat) : Int), .agg #[.pointer (some ⟨bs x.1, 0, none⟩)]] W fun e W' =>
      (e = .returned (.bool true) ∧ J (pre ++ [x]) W' ∧ Keep2 g Bs W W') ∨ (e = .returned (.bool false) ∧ Jx (pre ++ [x]) W'))
    (W : World) (hBs : W.cell? ⟨Bs, 0, none⟩ = some (.slice (some ⟨g, off, none⟩) len cap)) (hc : ∀ j, j < len → W.cell? ⟨g, off + j, none⟩ = some (.pointer (some ⟨bs j, 0, none⟩))) (hl : len ≤ 10000) (h0 : J [] W) :
    CallsIn F n Tryz.prog 80 #[.func (.yield l) #[] #[], .pointer (some ⟨Bs, 0, none⟩)] W fun e W' => (∃ v, e = .returned v) ∧
      ((∃ ys, ys.map (·.1) = downN len len ∧ J ys W') ∨ (∃ pre, True ∧ Jx pre W')) := by
  have hu := Tryz.underlying81
  have wl : wrap64 ((len : Int) - 1) = (len : Int) - 1 := by unfold wrap64; omega
  refine callsIn_of_wp Tryz.func80 rfl hf ?_ hro
  simp only [Tryz.ntmps80, List.size_toArray, List.length_cons, List.length_nil, Nat.reduceAdd, Nat.reduceSub, Array.replicate_succ, Array.replicate_zero, List.push_toArray, List.append_toArray, List.nil_append, List.cons_append]
  gi_wp2
  gi_loopw [3] (fun i wr => ∃ (r : Nat) (pre : List (Fin len)), r ≤ len ∧ i = .int .i64 ((r : Int) - 1) ∧ pre.map (·.1) = downN len (len - r) ∧ J pre wr ∧ Keep2 g Bs W wr)
    (fun i _ => (intOf i + 1).toNat)
  case atStart => exact ⟨len, [], Nat.le_refl _, rfl, by rw [Nat.sub_self]; rfl, h0, Keep2.refl _ _ _⟩
  case round =>
    obtain ⟨r, pre, hr, rfl, hp, hJs, hk⟩ := hrel
    cases r with
    | zero =>
      have t0 : ¬ ((0 : Nat) : Int) - 1 ≥ 0 := by omega
      have t1 : decide (((0 : Nat) : Int) - 1 ≥ 0) = false := decide_eq_false t0
      gi_wp2
      go_end0
      exact ⟨⟨_, rfl⟩, .inl ⟨pre, by simpa using hp, hJs⟩⟩
    | succ m =>
      have e : ((m + 1 : Nat) : Int) - 1 = (m : Int) := by omega
      rw [e]
      have hm : m < len := by omega
      have t1 : decide ((m : Int) ≥ 0) = true := decide_eq_true (by omega)
      have t2 : (m : Int) < (len : Int) := by omega
      have wm : wrap64 ((m : Int) - 1) = (m : Int) - 1 := by unfold wrap64; omega
      have hplen : pre.length < len := by
        have h1 := congrArg List.length hp
        rw [List.length_map, downN_len] at h1; omega
      have hb' : wr.cell? ⟨Bs, 0, none⟩ = some (.slice (some ⟨g, off, none⟩) len cap) := (World.cell?_of_block (a := ⟨Bs, 0, none⟩) hk.2).trans hBs
      have hc' : wr.cell? ⟨g, off + m, none⟩ = some (.pointer (some ⟨bs m, 0, none⟩)) := (World.cell?_of_block (a := ⟨g, off + m, none⟩) hk.1).trans (hc m hm)
      obtain ⟨fn, tmps, assign, body, hy, hR⟩ := hY _ ⟨m, hm⟩ wr hJs hplen
      dsimp only at hy
      gi_wp2
      refine hR.mono ?_
      rintro e W3 (⟨rfl, hJ3, hk3⟩ | ⟨rfl, hJx3⟩)
      · gi_wp2
        go_roundw
        case rel =>
          refine ⟨m, _, by omega, rfl, ?_, hJ3, hk.trans hk3⟩
          rw [List.map_append, hp, show len - m = (len - (m + 1)) + 1 by omega, downN_succ]
          congr 1
          show [m] = _
          congr 1
          omega
        case measure => simp [intOf]
      · gi_wp2
        refine bodyPost_ret (results_none rfl _ _ _) rfl ?_
        exact ⟨⟨_, rfl⟩, .inr ⟨_, trivial, hJx3⟩⟩
theorem back_stops (F : Fence) (n : Nat) (hf : F.fn 80) (hro : F.round = none) (hn : 1 ≤ n) (Bs g off len cap : Nat) (bs : Nat → Nat) (w : World) (hBw : Bs < w.heap.size) (hgw : g < w.heap.size)
    (hBs : w.cell? ⟨Bs, 0, none⟩ = some (.slice (some ⟨g, off, none⟩) len cap)) (hc : ∀ j, j < len → w.cell? ⟨g, off + j, none⟩ = some (.pointer (some ⟨bs j, 0, none⟩))) (hl : len ≤ 10000) :
    SeqStopsK F n Tryz.prog 80 #[.pointer (some ⟨Bs, 0, none⟩)] (fun x : Fin len => #[.int .i64 ((x.1 : Nat) : Int), .agg #[.pointer (some ⟨bs x.1, 0, none⟩)]]) (Keep2 g Bs) (fun ys => ys.map (·.1) = downN len len) (fun _ => True) len w :=
  fun l J Jx W hW _ _ hY h0 => back1_in F n hf hro hn l Bs g off len cap bs J Jx hY W ((hW.cell (p := ⟨Bs, 0, none⟩) hBw).trans hBs) (fun j hj => (hW.cell (p := ⟨g, off + j, none⟩) hgw).trans (hc j hj)) hl h0
end Go.Proofs.YtaaekmcmpjljgaaGreat.Ln
