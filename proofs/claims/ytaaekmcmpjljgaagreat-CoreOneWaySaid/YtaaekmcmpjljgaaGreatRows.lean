/-
  No cell of these rows narrows 'for every input' (looked for: loops, veiled, ifaces, maps, wideKeys, modest, calm, conditions, laid).
  DERIVED. THE GIVEN ROWS OF THIS SEAT. 4 by the template 'for every input the law returns true; each argument reads behind the call as it read before'; 0 by the template 'total and deterministic' (their statements: YtaaekmcmpjljgaaGreatTotals.lean).
  GIVEN WITH THE SEED: the statements are not yours to turn. If you find one false, say at which input.
  Laid BY PROGRAM, IN A SANDBOX (cutbox-rows.mjs): the forced cells as the released guide's own fill.sh prints them over the translation 15bee509e1ebf200… (all of the seat's roots in one cut). By AI agents, Wed Nov 11 2026. No macro, syntax, notation, axiom, sorry.
-/
import Derived.Test.YtaaekmcmpjljgaaGreatChecked
import GoSem.Claim
import GoSem.ClaimJoined
import GoSem.ClaimMapViews
import Derived.JoinedTies
import Derived.KernelRfl
namespace Go.Proofs.YtaaekmcmpjljgaaGreat
/- THE CELL 'sum', in the pinned program and in every row, IS THE sha256 OF THE DUMP (.gsa) THAT YtaaekmcmpjljgaaGreatProg.lean LOADS. Nothing in Lean hashes anything: it is a label: what it is worth is what the hold of that sum in a sandbox is worth. -/
noncomputable def Tryz.pinned : Pinned := { name := "ytaaekmcmpjljgaagreat", sum := "15bee509e1ebf20067570657a4439df40a0aa48551ab3e6b902d8efe74a310b6", checked := Tryz.checked }
namespace Rows
def none {H : Type} : Left H := { results := [], args := [] }

/-- 'ltklaw17.CoreLeast': WHATEVER THE INPUT: true; the input reads as it did. -/
def coreLeastSpec : ChangeSpec := { name := "coreLeast", fn := fun _ => fun
  | [d1, d2, d3] => { results := [.lit (.bool true)], args := [d1, d2, d3] }
  | _ => none }
def coreLeastRow : OpenClaim := { program := "ytaaekmcmpjljgaagreat", sum := "15bee509e1ebf20067570657a4439df40a0aa48551ab3e6b902d8efe74a310b6", func := "latchkey/ltklaw17.CoreLeast", spec := "coreLeast", inPlace := ["slices.overlaps[latchkey/lane.Entry]"], unfollowed := true, recurses := true, apart := false }
def CoreLeastSaid : Prop := coreLeastRow.holds Tryz.pinned (OpenSpec.ofChange coreLeastSpec)

/-- ITS FALSE NEIGHBOUR: 'it returns false'. Refute it at one input. -/
def coreLeastWrong : ChangeSpec := { name := "coreLeast", fn := fun _ => fun
  | [d1, d2, d3] => { results := [.lit (.bool false)], args := [d1, d2, d3] }
  | _ => none }
def CoreLeastWrongFalsely : Prop := coreLeastRow.holds Tryz.pinned (OpenSpec.ofChange coreLeastWrong)

/-- 'ltklaw17.CoreTwo': WHATEVER THE INPUT: true; the input reads as it did. -/
def coreTwoSpec : ChangeSpec := { name := "coreTwo", fn := fun _ => fun
  | [d1, d2] => { results := [.lit (.bool true)], args := [d1, d2] }
  | _ => none }
def coreTwoRow : OpenClaim := { program := "ytaaekmcmpjljgaagreat", sum := "15bee509e1ebf20067570657a4439df40a0aa48551ab3e6b902d8efe74a310b6", func := "latchkey/ltklaw17.CoreTwo", spec := "coreTwo", inPlace := ["slices.overlaps[latchkey/lane.Entry]"], unfollowed := true, recurses := true, apart := false }
def CoreTwoSaid : Prop := coreTwoRow.holds Tryz.pinned (OpenSpec.ofChange coreTwoSpec)

/-- ITS FALSE NEIGHBOUR: 'it returns false'. Refute it at one input. -/
def coreTwoWrong : ChangeSpec := { name := "coreTwo", fn := fun _ => fun
  | [d1, d2] => { results := [.lit (.bool false)], args := [d1, d2] }
  | _ => none }
def CoreTwoWrongFalsely : Prop := coreTwoRow.holds Tryz.pinned (OpenSpec.ofChange coreTwoWrong)

/-- 'ltklaw17.CoreBack': WHATEVER THE INPUT: true; the input reads as it did. -/
def coreBackSpec : ChangeSpec := { name := "coreBack", fn := fun _ => fun
  | [d] => { results := [.lit (.bool true)], args := [d] }
  | _ => none }
def coreBackRow : OpenClaim := { program := "ytaaekmcmpjljgaagreat", sum := "15bee509e1ebf20067570657a4439df40a0aa48551ab3e6b902d8efe74a310b6", func := "latchkey/ltklaw17.CoreBack", spec := "coreBack", inPlace := ["slices.overlaps[latchkey/lane.Entry]"], unfollowed := true, recurses := true, apart := false }
def CoreBackSaid : Prop := coreBackRow.holds Tryz.pinned (OpenSpec.ofChange coreBackSpec)

/-- ITS FALSE NEIGHBOUR: 'it returns false'. Refute it at one input. -/
def coreBackWrong : ChangeSpec := { name := "coreBack", fn := fun _ => fun
  | [d] => { results := [.lit (.bool false)], args := [d] }
  | _ => none }
def CoreBackWrongFalsely : Prop := coreBackRow.holds Tryz.pinned (OpenSpec.ofChange coreBackWrong)

/-- 'ltklaw17.CoreOneWay': WHATEVER THE INPUT: true; the input reads as it did. -/
def coreOneWaySpec : ChangeSpec := { name := "coreOneWay", fn := fun _ => fun
  | [d1, d2] => { results := [.lit (.bool true)], args := [d1, d2] }
  | _ => none }
def coreOneWayRow : OpenClaim := { program := "ytaaekmcmpjljgaagreat", sum := "15bee509e1ebf20067570657a4439df40a0aa48551ab3e6b902d8efe74a310b6", func := "latchkey/ltklaw17.CoreOneWay", spec := "coreOneWay", inPlace := ["slices.overlaps[latchkey/lane.Entry]"], unfollowed := true, recurses := true, apart := false }
def CoreOneWaySaid : Prop := coreOneWayRow.holds Tryz.pinned (OpenSpec.ofChange coreOneWaySpec)

/-- ITS FALSE NEIGHBOUR: 'it returns false'. Refute it at one input. -/
def coreOneWayWrong : ChangeSpec := { name := "coreOneWay", fn := fun _ => fun
  | [d1, d2] => { results := [.lit (.bool false)], args := [d1, d2] }
  | _ => none }
def CoreOneWayWrongFalsely : Prop := coreOneWayRow.holds Tryz.pinned (OpenSpec.ofChange coreOneWayWrong)

/- THE SECOND FORM. 'bulk': how many values and letters a reading holds, each counted each time it is reached (what is shared counts as often as it is met; a slice's spare places count too). A statement '..UptoSaid' is the law's where the arguments, and the package variables that the reading takes, are together of bulk at most 1048576: NARROWER than '..Said'. Prove '..Said' where nothing that the law and all that it calls make is longer than what came in: it says more and counts as full. Else prove '..UptoSaid'. A law counts once. -/
mutual
def uptoBulk {H : Type} : DataW H → Nat
  | .lit (.string bytes) => bytes.length + 1
  | .lit _ => 1
  | .nil => 1
  | .ptr d => uptoBulk d + 1
  | .slice elems spare => uptoBulkAll elems + uptoBulkAll spare + 1
  | .agg parts => uptoBulkAll parts + 1
  | .iface _ d => uptoBulk d + 1
  | .map entries => uptoBulkEntries entries + 1
  | .held _ => 1
def uptoBulkAll {H : Type} : List (DataW H) → Nat
  | [] => 0
  | d :: r => uptoBulk d + uptoBulkAll r
def uptoBulkEntries {H : Type} : List (Lit × DataW H) → Nat
  | [] => 0
  | x :: r => uptoBulkEntry x + uptoBulkEntries r
def uptoBulkEntry {H : Type} : Lit × DataW H → Nat
  | (.string bytes, d) => bytes.length + uptoBulk d + 1
  | (_, d) => uptoBulk d + 1
 end
def uptoSmall : (H : Type) → List (DataW H) → Bool := fun _ ds => decide (uptoBulkAll ds ≤ 1048576)
def OpenSpec.upto (s : _root_.Go.ChangeSpec) : _root_.Go.OpenSpec := { _root_.Go.OpenSpec.ofChange s with cond := some uptoSmall }

/-- 'ltklaw17.CoreLeast', WHERE WHAT IT READS IS OF BULK AT MOST 1048576: true; the input reads as it did. -/
def coreLeastUptoRow : OpenClaim := { program := "ytaaekmcmpjljgaagreat", sum := "15bee509e1ebf20067570657a4439df40a0aa48551ab3e6b902d8efe74a310b6", func := "latchkey/ltklaw17.CoreLeast", spec := "coreLeast", inPlace := ["slices.overlaps[latchkey/lane.Entry]"], unfollowed := true, recurses := true, apart := false, narrowed := true }
def CoreLeastUptoSaid : Prop := coreLeastUptoRow.holds Tryz.pinned (OpenSpec.upto coreLeastSpec)

/-- 'ltklaw17.CoreTwo', WHERE WHAT IT READS IS OF BULK AT MOST 1048576: true; the input reads as it did. -/
def coreTwoUptoRow : OpenClaim := { program := "ytaaekmcmpjljgaagreat", sum := "15bee509e1ebf20067570657a4439df40a0aa48551ab3e6b902d8efe74a310b6", func := "latchkey/ltklaw17.CoreTwo", spec := "coreTwo", inPlace := ["slices.overlaps[latchkey/lane.Entry]"], unfollowed := true, recurses := true, apart := false, narrowed := true }
def CoreTwoUptoSaid : Prop := coreTwoUptoRow.holds Tryz.pinned (OpenSpec.upto coreTwoSpec)

/-- 'ltklaw17.CoreBack', WHERE WHAT IT READS IS OF BULK AT MOST 1048576: true; the input reads as it did. -/
def coreBackUptoRow : OpenClaim := { program := "ytaaekmcmpjljgaagreat", sum := "15bee509e1ebf20067570657a4439df40a0aa48551ab3e6b902d8efe74a310b6", func := "latchkey/ltklaw17.CoreBack", spec := "coreBack", inPlace := ["slices.overlaps[latchkey/lane.Entry]"], unfollowed := true, recurses := true, apart := false, narrowed := true }
def CoreBackUptoSaid : Prop := coreBackUptoRow.holds Tryz.pinned (OpenSpec.upto coreBackSpec)

/-- 'ltklaw17.CoreOneWay', WHERE WHAT IT READS IS OF BULK AT MOST 1048576: true; the input reads as it did. -/
def coreOneWayUptoRow : OpenClaim := { program := "ytaaekmcmpjljgaagreat", sum := "15bee509e1ebf20067570657a4439df40a0aa48551ab3e6b902d8efe74a310b6", func := "latchkey/ltklaw17.CoreOneWay", spec := "coreOneWay", inPlace := ["slices.overlaps[latchkey/lane.Entry]"], unfollowed := true, recurses := true, apart := false, narrowed := true }
def CoreOneWayUptoSaid : Prop := coreOneWayUptoRow.holds Tryz.pinned (OpenSpec.upto coreOneWaySpec)

end Rows
end Go.Proofs.YtaaekmcmpjljgaaGreat
