import Derived.Test.YtaaekmcmpjljgaaGreatProg
import Derived.Below
import Derived.Deep.Draws
import Derived.Deep.AppendLies
import Derived.Maps.AppendAt
import Derived.OwnWalk
import Derived.Laws.BytesArg
import Derived.Laws.MakeOwn
import Derived.Laws.OwnMore
import Derived.Deep.OwnRows
import Derived.Tactics
import Derived.Lib.ConvBytes
import Derived.Laws.Slices
import Derived.WalkKit
import Derived.KernelRfl
import Derived.RowKit3
import Derived.Deep.LoopGhost
import Derived.Deep.QuietTactic
import Derived.BigQuiet
import Derived.WideLaws
import Derived.Deep.DeepCutAuto
import Derived.Deep.CutBlock
import Derived.Deep.RegionHeld3
import Derived.Laws.Rows
import Derived.Lib.AppendStr
import Derived.ArgAppend
import Derived.Laws.IdiomCopy
import Derived.OrdersHeld
import Derived.Laws.BitsLemmas
import Derived.RowKit
import Derived.Test.YtaaekmcmpjljgaaGreatWWords
import Derived.Test.YtaaekmcmpjljgaaGreatWLast
import Derived.Test.YtaaekmcmpjljgaaGreatWTab
import Derived.Test.YtaaekmcmpjljgaaGreatWFour
import Derived.Test.YtaaekmcmpjljgaaGreatWQPut
import Derived.Test.YtaaekmcmpjljgaaGreatWApart
import Derived.Test.YtaaekmcmpjljgaaGreatWArr
import Derived.Test.YtaaekmcmpjljgaaGreatWZeros
import Derived.Test.YtaaekmcmpjljgaaGreatWFoot
import Derived.Test.YtaaekmcmpjljgaaGreatWKept
import Derived.Test.YtaaekmcmpjljgaaGreatWShare
import Derived.Test.YtaaekmcmpjljgaaGreatWN
import Derived.Test.YtaaekmcmpjljgaaGreatWFootNe
import Derived.Test.YtaaekmcmpjljgaaGreatWAt
import Derived.Test.YtaaekmcmpjljgaaGreatWEqStruct
import Derived.Test.YtaaekmcmpjljgaaGreatWRepsOne
import Derived.Test.YtaaekmcmpjljgaaGreatWInv
import Derived.Test.YtaaekmcmpjljgaaGreatWInvWords
import Derived.Test.YtaaekmcmpjljgaaGreatWGuard
import Derived.Test.YtaaekmcmpjljgaaGreatWNEv
import Derived.Test.YtaaekmcmpjljgaaGreatWMore
namespace Go.Proofs.YtaaekmcmpjljgaaGreat.PMd
open Go.RowKit Go.Proofs.YtaaekmcmpjljgaaGreatW.PrintWords Go.Proofs.YtaaekmcmpjljgaaGreatW.PrintLast Go.Proofs.YtaaekmcmpjljgaaGreatW.PrintMore
attribute [local go_sem] max2_int min2_int max_two min_two max_three min_three max_four min_four   -- for this text's walks alone
set_option linter.unusedVariables false
set_option linter.unusedSimpArgs false
def errW : Option Int → Value
  | none => .nilIface
  | some c => .iface 0 (.int .i64 c)
theorem errW_none : errW none = .nilIface := rfl
theorem errW_some (c : Int) : errW (some c) = .iface 0 (.int .i64 c) := rfl
theorem info3 : (Tryz.prog.info? 3).map (fun i => (i.zero, i.size, i.bytes)) = some (some (.int .i64 0), 1, 8) := by kernel_rfl
structure S24 where
  f0 : Int
  f1 : Int
  f2 : Int
  f3 : Int
  f4 : Int
  f5 : Int
  f6 : Int
  f7 : Int
  f8 : Int
  f9 : Int
  f10 : Int
  f11 : Int
structure S113 where
  f0 : Int
  f1 : Int
def z113 : S113 := ⟨(0 : Int), (0 : Int)⟩
def k113 : Kd S113 := Kd.iso (Kd.pair (Kd.int .i64) (Kd.int .i64)) (fun x : S113 => (x.f0, x.f1))
theorem k113_open {w : World} {x : S113} {cs : List Value} (h : k113.K w x cs) : cs = [.int .i64 x.f0, .int .i64 x.f1] := by
  obtain ⟨_, _, rfl, rfl, rfl⟩ := h
  exact rfl
theorem k113_mk (w : World) (x : S113)  : k113.K w x [.int .i64 x.f0, .int .i64 x.f1] := ⟨[.int .i64 x.f0], [.int .i64 x.f1], rfl, rfl, rfl⟩
def rd_T113 (xs : List S113) (i : Int) : S113 := xs.getD i.toNat z113
theorem at_T113 {w : World} {A : Option Addr} {n : Nat} {xs : List S113} (h : Kd.C k113 w A n xs) (i : Int) (h0 : 0 ≤ i) (h1 : i < n) : ∃ ad , A = some ad ∧ w.cell? (ad.add (i.toNat * 2)) = some (.int .i64 (rd_T113 xs i).f0) ∧ w.cell? ⟨(ad.add (i.toNat * 2)).block, (ad.add (i.toNat * 2)).off + 1, none⟩ = some (.int .i64 (rd_T113 xs i).f1) := by
  obtain ⟨ad, c, e, _, hK, hc0⟩ := Kd.C_get h z113 i h0 h1
  have hc : ∀ j u, c[j]? = some u → w.cell? (ad.add (i.toNat * 2 + j)) = some u := hc0
  obtain rfl := k113_open hK
  exact ⟨ad, e, hc 0 _ rfl, by rw [← add_field _ _ 1 (by omega)]; exact hc 1 _ rfl⟩
structure S204 where
  f0 : Int
  f1 : Int
structure S201 where
  f0 : Int
  f1 : Int
  f2 : Int
  f3 : Int
  f4 : Int
  f5 : Int
  f6 : Int
  f7 : (List S204)
  f8 : (List S204)
  f9 : (List Int)
structure S87 where
  f0 : Int
  f1 : Int
end Go.Proofs.YtaaekmcmpjljgaaGreat.PMd
