/-
  No cell of these rows narrows 'for every input' (looked for: loops, veiled, ifaces, maps, wideKeys, modest, calm, conditions, laid).
  DERIVED. THE GIVEN ROWS OF THIS SEAT. 17 by the template 'for every input the law returns true; each argument reads behind the call as it read before'; 0 by the template 'total and deterministic' (their statements: YtagdgkimjgomlaaTotals.lean).
  GIVEN WITH THE SEED: the statements are not yours to turn. If you find one false, say at which input.
  Laid BY PROGRAM, IN A SANDBOX (cutbox-rows.mjs): the forced cells as the released guide's own fill.sh prints them over the translation 013f933007c90ef6… (all of the seat's roots in one cut). By AI agents, Wed Nov 11 2026. No macro, syntax, notation, axiom, sorry.
-/
import Derived.Test.YtagdgkimjgomlaaChecked
import GoSem.Claim
import GoSem.ClaimJoined
import GoSem.ClaimMapViews
import Derived.JoinedTies
import Derived.KernelRfl
namespace Go.Proofs.Ytagdgkimjgomlaa
/- THE CELL 'sum', in the pinned program and in every row, IS THE sha256 OF THE DUMP (.gsa) THAT YtagdgkimjgomlaaProg.lean LOADS. Nothing in Lean hashes anything: it is a label: what it is worth is what the hold of that sum in a sandbox is worth. -/
noncomputable def Try.pinned : Pinned := { name := "ytagdgkimjgomlaa", sum := "013f933007c90ef6bfd29c1c88f6d1e424a8996ef6db0bbd7a7f22e850f00ce7", checked := Try.checked }
namespace Rows
def none {H : Type} : Left H := { results := [], args := [] }

/-- 'ltklaw9.TableOrder': WHATEVER THE INPUT: true; the input reads as it did. -/
def tableOrderSpec : ChangeSpec := { name := "tableOrder", fn := fun _ => fun
  | [d1, d2, d3] => { results := [.lit (.bool true)], args := [d1, d2, d3] }
  | _ => none }
def tableOrderRow : OpenClaim := { program := "ytagdgkimjgomlaa", sum := "013f933007c90ef6bfd29c1c88f6d1e424a8996ef6db0bbd7a7f22e850f00ce7", func := "latchkey/ltklaw9.TableOrder", spec := "tableOrder", inPlace := ["slices.overlaps[latchkey/lane.Entry]"], unfollowed := true, recurses := true, apart := false }
def TableOrderSaid : Prop := tableOrderRow.holds Try.pinned (OpenSpec.ofChange tableOrderSpec)

/-- ITS FALSE NEIGHBOUR: 'it returns false'. Refute it at one input. -/
def tableOrderWrong : ChangeSpec := { name := "tableOrder", fn := fun _ => fun
  | [d1, d2, d3] => { results := [.lit (.bool false)], args := [d1, d2, d3] }
  | _ => none }
def TableOrderWrongFalsely : Prop := tableOrderRow.holds Try.pinned (OpenSpec.ofChange tableOrderWrong)

/-- 'ltklaw10.PathThree': WHATEVER THE INPUT: true; the input reads as it did. -/
def pathThreeSpec : ChangeSpec := { name := "pathThree", fn := fun _ => fun
  | [d1, d2] => { results := [.lit (.bool true)], args := [d1, d2] }
  | _ => none }
def pathThreeRow : OpenClaim := { program := "ytagdgkimjgomlaa", sum := "013f933007c90ef6bfd29c1c88f6d1e424a8996ef6db0bbd7a7f22e850f00ce7", func := "latchkey/ltklaw10.PathThree", spec := "pathThree", inPlace := ["slices.overlaps[latchkey/lane.Entry]"], unfollowed := true, recurses := true, apart := false }
def PathThreeSaid : Prop := pathThreeRow.holds Try.pinned (OpenSpec.ofChange pathThreeSpec)

/-- ITS FALSE NEIGHBOUR: 'it returns false'. Refute it at one input. -/
def pathThreeWrong : ChangeSpec := { name := "pathThree", fn := fun _ => fun
  | [d1, d2] => { results := [.lit (.bool false)], args := [d1, d2] }
  | _ => none }
def PathThreeWrongFalsely : Prop := pathThreeRow.holds Try.pinned (OpenSpec.ofChange pathThreeWrong)

/-- 'ltklaw10.PathUp': WHATEVER THE INPUT: true; the input reads as it did. -/
def pathUpSpec : ChangeSpec := { name := "pathUp", fn := fun _ => fun
  | [d1, d2, d3] => { results := [.lit (.bool true)], args := [d1, d2, d3] }
  | _ => none }
def pathUpRow : OpenClaim := { program := "ytagdgkimjgomlaa", sum := "013f933007c90ef6bfd29c1c88f6d1e424a8996ef6db0bbd7a7f22e850f00ce7", func := "latchkey/ltklaw10.PathUp", spec := "pathUp", inPlace := ["slices.overlaps[latchkey/lane.Entry]"], unfollowed := true, recurses := true, apart := false }
def PathUpSaid : Prop := pathUpRow.holds Try.pinned (OpenSpec.ofChange pathUpSpec)

/-- ITS FALSE NEIGHBOUR: 'it returns false'. Refute it at one input. -/
def pathUpWrong : ChangeSpec := { name := "pathUp", fn := fun _ => fun
  | [d1, d2, d3] => { results := [.lit (.bool false)], args := [d1, d2, d3] }
  | _ => none }
def PathUpWrongFalsely : Prop := pathUpRow.holds Try.pinned (OpenSpec.ofChange pathUpWrong)

/-- 'ltklaw10.PathAll': WHATEVER THE INPUT: true; the input reads as it did. -/
def pathAllSpec : ChangeSpec := { name := "pathAll", fn := fun _ => fun
  | [d1, d2, d3] => { results := [.lit (.bool true)], args := [d1, d2, d3] }
  | _ => none }
def pathAllRow : OpenClaim := { program := "ytagdgkimjgomlaa", sum := "013f933007c90ef6bfd29c1c88f6d1e424a8996ef6db0bbd7a7f22e850f00ce7", func := "latchkey/ltklaw10.PathAll", spec := "pathAll", inPlace := ["slices.overlaps[latchkey/lane.Entry]"], unfollowed := true, recurses := true, apart := false }
def PathAllSaid : Prop := pathAllRow.holds Try.pinned (OpenSpec.ofChange pathAllSpec)

/-- ITS FALSE NEIGHBOUR: 'it returns false'. Refute it at one input. -/
def pathAllWrong : ChangeSpec := { name := "pathAll", fn := fun _ => fun
  | [d1, d2, d3] => { results := [.lit (.bool false)], args := [d1, d2, d3] }
  | _ => none }
def PathAllWrongFalsely : Prop := pathAllRow.holds Try.pinned (OpenSpec.ofChange pathAllWrong)

/-- 'ltklaw10.PathSafe': WHATEVER THE INPUT: true; the input reads as it did. -/
def pathSafeSpec : ChangeSpec := { name := "pathSafe", fn := fun _ => fun
  | [d1, d2] => { results := [.lit (.bool true)], args := [d1, d2] }
  | _ => none }
def pathSafeRow : OpenClaim := { program := "ytagdgkimjgomlaa", sum := "013f933007c90ef6bfd29c1c88f6d1e424a8996ef6db0bbd7a7f22e850f00ce7", func := "latchkey/ltklaw10.PathSafe", spec := "pathSafe", inPlace := ["slices.overlaps[latchkey/lane.Entry]"], unfollowed := true, recurses := true, apart := false }
def PathSafeSaid : Prop := pathSafeRow.holds Try.pinned (OpenSpec.ofChange pathSafeSpec)

/-- ITS FALSE NEIGHBOUR: 'it returns false'. Refute it at one input. -/
def pathSafeWrong : ChangeSpec := { name := "pathSafe", fn := fun _ => fun
  | [d1, d2] => { results := [.lit (.bool false)], args := [d1, d2] }
  | _ => none }
def PathSafeWrongFalsely : Prop := pathSafeRow.holds Try.pinned (OpenSpec.ofChange pathSafeWrong)

/-- 'ltklaw8.LaneTurns': WHATEVER THE INPUT: true; the input reads as it did. -/
def laneTurnsSpec : ChangeSpec := { name := "laneTurns", fn := fun _ => fun
  | [d1, d2, d3] => { results := [.lit (.bool true)], args := [d1, d2, d3] }
  | _ => none }
def laneTurnsRow : OpenClaim := { program := "ytagdgkimjgomlaa", sum := "013f933007c90ef6bfd29c1c88f6d1e424a8996ef6db0bbd7a7f22e850f00ce7", func := "latchkey/ltklaw8.LaneTurns", spec := "laneTurns", inPlace := ["slices.overlaps[latchkey/lane.Entry]"], unfollowed := true, recurses := true, apart := false }
def LaneTurnsSaid : Prop := laneTurnsRow.holds Try.pinned (OpenSpec.ofChange laneTurnsSpec)

/-- ITS FALSE NEIGHBOUR: 'it returns false'. Refute it at one input. -/
def laneTurnsWrong : ChangeSpec := { name := "laneTurns", fn := fun _ => fun
  | [d1, d2, d3] => { results := [.lit (.bool false)], args := [d1, d2, d3] }
  | _ => none }
def LaneTurnsWrongFalsely : Prop := laneTurnsRow.holds Try.pinned (OpenSpec.ofChange laneTurnsWrong)

/-- 'ltklaw8.LaneQueue': WHATEVER THE INPUT: true; the input reads as it did. -/
def laneQueueSpec : ChangeSpec := { name := "laneQueue", fn := fun _ => fun
  | [d1, d2] => { results := [.lit (.bool true)], args := [d1, d2] }
  | _ => none }
def laneQueueRow : OpenClaim := { program := "ytagdgkimjgomlaa", sum := "013f933007c90ef6bfd29c1c88f6d1e424a8996ef6db0bbd7a7f22e850f00ce7", func := "latchkey/ltklaw8.LaneQueue", spec := "laneQueue", inPlace := ["slices.overlaps[latchkey/lane.Entry]"], unfollowed := true, recurses := true, apart := false }
def LaneQueueSaid : Prop := laneQueueRow.holds Try.pinned (OpenSpec.ofChange laneQueueSpec)

/-- ITS FALSE NEIGHBOUR: 'it returns false'. Refute it at one input. -/
def laneQueueWrong : ChangeSpec := { name := "laneQueue", fn := fun _ => fun
  | [d1, d2] => { results := [.lit (.bool false)], args := [d1, d2] }
  | _ => none }
def LaneQueueWrongFalsely : Prop := laneQueueRow.holds Try.pinned (OpenSpec.ofChange laneQueueWrong)

/-- 'ltklaw8.LaneGone': WHATEVER THE INPUT: true; the input reads as it did. -/
def laneGoneSpec : ChangeSpec := { name := "laneGone", fn := fun _ => fun
  | [d] => { results := [.lit (.bool true)], args := [d] }
  | _ => none }
def laneGoneRow : OpenClaim := { program := "ytagdgkimjgomlaa", sum := "013f933007c90ef6bfd29c1c88f6d1e424a8996ef6db0bbd7a7f22e850f00ce7", func := "latchkey/ltklaw8.LaneGone", spec := "laneGone", inPlace := ["slices.overlaps[latchkey/lane.Entry]"], unfollowed := true, recurses := true, apart := false }
def LaneGoneSaid : Prop := laneGoneRow.holds Try.pinned (OpenSpec.ofChange laneGoneSpec)

/-- ITS FALSE NEIGHBOUR: 'it returns false'. Refute it at one input. -/
def laneGoneWrong : ChangeSpec := { name := "laneGone", fn := fun _ => fun
  | [d] => { results := [.lit (.bool false)], args := [d] }
  | _ => none }
def LaneGoneWrongFalsely : Prop := laneGoneRow.holds Try.pinned (OpenSpec.ofChange laneGoneWrong)

/-- 'ltklaw8.LaneEdges': WHATEVER THE INPUT: true; the input reads as it did. -/
def laneEdgesSpec : ChangeSpec := { name := "laneEdges", fn := fun _ => fun
  | [d] => { results := [.lit (.bool true)], args := [d] }
  | _ => none }
def laneEdgesRow : OpenClaim := { program := "ytagdgkimjgomlaa", sum := "013f933007c90ef6bfd29c1c88f6d1e424a8996ef6db0bbd7a7f22e850f00ce7", func := "latchkey/ltklaw8.LaneEdges", spec := "laneEdges", inPlace := ["slices.overlaps[latchkey/lane.Entry]"], unfollowed := true, recurses := true, apart := false }
def LaneEdgesSaid : Prop := laneEdgesRow.holds Try.pinned (OpenSpec.ofChange laneEdgesSpec)

/-- ITS FALSE NEIGHBOUR: 'it returns false'. Refute it at one input. -/
def laneEdgesWrong : ChangeSpec := { name := "laneEdges", fn := fun _ => fun
  | [d] => { results := [.lit (.bool false)], args := [d] }
  | _ => none }
def LaneEdgesWrongFalsely : Prop := laneEdgesRow.holds Try.pinned (OpenSpec.ofChange laneEdgesWrong)

/-- 'ltklaw8.LanePlays': WHATEVER THE INPUT: true; the input reads as it did. -/
def lanePlaysSpec : ChangeSpec := { name := "lanePlays", fn := fun _ => fun
  | [d] => { results := [.lit (.bool true)], args := [d] }
  | _ => none }
def lanePlaysRow : OpenClaim := { program := "ytagdgkimjgomlaa", sum := "013f933007c90ef6bfd29c1c88f6d1e424a8996ef6db0bbd7a7f22e850f00ce7", func := "latchkey/ltklaw8.LanePlays", spec := "lanePlays", inPlace := ["slices.overlaps[latchkey/lane.Entry]"], unfollowed := true, recurses := true, apart := false }
def LanePlaysSaid : Prop := lanePlaysRow.holds Try.pinned (OpenSpec.ofChange lanePlaysSpec)

/-- ITS FALSE NEIGHBOUR: 'it returns false'. Refute it at one input. -/
def lanePlaysWrong : ChangeSpec := { name := "lanePlays", fn := fun _ => fun
  | [d] => { results := [.lit (.bool false)], args := [d] }
  | _ => none }
def LanePlaysWrongFalsely : Prop := lanePlaysRow.holds Try.pinned (OpenSpec.ofChange lanePlaysWrong)

/-- 'ltklaw8.LaneServes': WHATEVER THE INPUT: true; the input reads as it did. -/
def laneServesSpec : ChangeSpec := { name := "laneServes", fn := fun _ => fun
  | [d1, d2] => { results := [.lit (.bool true)], args := [d1, d2] }
  | _ => none }
def laneServesRow : OpenClaim := { program := "ytagdgkimjgomlaa", sum := "013f933007c90ef6bfd29c1c88f6d1e424a8996ef6db0bbd7a7f22e850f00ce7", func := "latchkey/ltklaw8.LaneServes", spec := "laneServes", inPlace := ["slices.overlaps[latchkey/lane.Entry]"], unfollowed := true, recurses := true, apart := false }
def LaneServesSaid : Prop := laneServesRow.holds Try.pinned (OpenSpec.ofChange laneServesSpec)

/-- ITS FALSE NEIGHBOUR: 'it returns false'. Refute it at one input. -/
def laneServesWrong : ChangeSpec := { name := "laneServes", fn := fun _ => fun
  | [d1, d2] => { results := [.lit (.bool false)], args := [d1, d2] }
  | _ => none }
def LaneServesWrongFalsely : Prop := laneServesRow.holds Try.pinned (OpenSpec.ofChange laneServesWrong)

/-- 'ltklaw8.LaneFits': WHATEVER THE INPUT: true; the input reads as it did. -/
def laneFitsSpec : ChangeSpec := { name := "laneFits", fn := fun _ => fun
  | [d] => { results := [.lit (.bool true)], args := [d] }
  | _ => none }
def laneFitsRow : OpenClaim := { program := "ytagdgkimjgomlaa", sum := "013f933007c90ef6bfd29c1c88f6d1e424a8996ef6db0bbd7a7f22e850f00ce7", func := "latchkey/ltklaw8.LaneFits", spec := "laneFits", inPlace := ["slices.overlaps[latchkey/lane.Entry]"], unfollowed := true, recurses := true, apart := false }
def LaneFitsSaid : Prop := laneFitsRow.holds Try.pinned (OpenSpec.ofChange laneFitsSpec)

/-- ITS FALSE NEIGHBOUR: 'it returns false'. Refute it at one input. -/
def laneFitsWrong : ChangeSpec := { name := "laneFits", fn := fun _ => fun
  | [d] => { results := [.lit (.bool false)], args := [d] }
  | _ => none }
def LaneFitsWrongFalsely : Prop := laneFitsRow.holds Try.pinned (OpenSpec.ofChange laneFitsWrong)

/-- 'ltklaw9.TableDrops': WHATEVER THE INPUT: true; the input reads as it did. -/
def tableDropsSpec : ChangeSpec := { name := "tableDrops", fn := fun _ => fun
  | [d1, d2, d3] => { results := [.lit (.bool true)], args := [d1, d2, d3] }
  | _ => none }
def tableDropsRow : OpenClaim := { program := "ytagdgkimjgomlaa", sum := "013f933007c90ef6bfd29c1c88f6d1e424a8996ef6db0bbd7a7f22e850f00ce7", func := "latchkey/ltklaw9.TableDrops", spec := "tableDrops", inPlace := ["slices.overlaps[latchkey/lane.Entry]"], unfollowed := true, recurses := true, apart := false }
def TableDropsSaid : Prop := tableDropsRow.holds Try.pinned (OpenSpec.ofChange tableDropsSpec)

/-- ITS FALSE NEIGHBOUR: 'it returns false'. Refute it at one input. -/
def tableDropsWrong : ChangeSpec := { name := "tableDrops", fn := fun _ => fun
  | [d1, d2, d3] => { results := [.lit (.bool false)], args := [d1, d2, d3] }
  | _ => none }
def TableDropsWrongFalsely : Prop := tableDropsRow.holds Try.pinned (OpenSpec.ofChange tableDropsWrong)

/-- 'ltklaw9.TableCircle': WHATEVER THE INPUT: true; the input reads as it did. -/
def tableCircleSpec : ChangeSpec := { name := "tableCircle", fn := fun _ => fun
  | [d1, d2] => { results := [.lit (.bool true)], args := [d1, d2] }
  | _ => none }
def tableCircleRow : OpenClaim := { program := "ytagdgkimjgomlaa", sum := "013f933007c90ef6bfd29c1c88f6d1e424a8996ef6db0bbd7a7f22e850f00ce7", func := "latchkey/ltklaw9.TableCircle", spec := "tableCircle", inPlace := ["slices.overlaps[latchkey/lane.Entry]"], unfollowed := true, recurses := true, apart := false }
def TableCircleSaid : Prop := tableCircleRow.holds Try.pinned (OpenSpec.ofChange tableCircleSpec)

/-- ITS FALSE NEIGHBOUR: 'it returns false'. Refute it at one input. -/
def tableCircleWrong : ChangeSpec := { name := "tableCircle", fn := fun _ => fun
  | [d1, d2] => { results := [.lit (.bool false)], args := [d1, d2] }
  | _ => none }
def TableCircleWrongFalsely : Prop := tableCircleRow.holds Try.pinned (OpenSpec.ofChange tableCircleWrong)

/-- 'ltklaw9.TableFull': WHATEVER THE INPUT: true; the input reads as it did. -/
def tableFullSpec : ChangeSpec := { name := "tableFull", fn := fun _ => fun
  | [d1, d2] => { results := [.lit (.bool true)], args := [d1, d2] }
  | _ => none }
def tableFullRow : OpenClaim := { program := "ytagdgkimjgomlaa", sum := "013f933007c90ef6bfd29c1c88f6d1e424a8996ef6db0bbd7a7f22e850f00ce7", func := "latchkey/ltklaw9.TableFull", spec := "tableFull", inPlace := ["slices.overlaps[latchkey/lane.Entry]"], unfollowed := true, recurses := true, apart := false }
def TableFullSaid : Prop := tableFullRow.holds Try.pinned (OpenSpec.ofChange tableFullSpec)

/-- ITS FALSE NEIGHBOUR: 'it returns false'. Refute it at one input. -/
def tableFullWrong : ChangeSpec := { name := "tableFull", fn := fun _ => fun
  | [d1, d2] => { results := [.lit (.bool false)], args := [d1, d2] }
  | _ => none }
def TableFullWrongFalsely : Prop := tableFullRow.holds Try.pinned (OpenSpec.ofChange tableFullWrong)

/-- 'ltklaw9.TableOnce': WHATEVER THE INPUT: true; the input reads as it did. -/
def tableOnceSpec : ChangeSpec := { name := "tableOnce", fn := fun _ => fun
  | [d1, d2, d3] => { results := [.lit (.bool true)], args := [d1, d2, d3] }
  | _ => none }
def tableOnceRow : OpenClaim := { program := "ytagdgkimjgomlaa", sum := "013f933007c90ef6bfd29c1c88f6d1e424a8996ef6db0bbd7a7f22e850f00ce7", func := "latchkey/ltklaw9.TableOnce", spec := "tableOnce", inPlace := ["slices.overlaps[latchkey/lane.Entry]"], unfollowed := true, recurses := true, apart := false }
def TableOnceSaid : Prop := tableOnceRow.holds Try.pinned (OpenSpec.ofChange tableOnceSpec)

/-- ITS FALSE NEIGHBOUR: 'it returns false'. Refute it at one input. -/
def tableOnceWrong : ChangeSpec := { name := "tableOnce", fn := fun _ => fun
  | [d1, d2, d3] => { results := [.lit (.bool false)], args := [d1, d2, d3] }
  | _ => none }
def TableOnceWrongFalsely : Prop := tableOnceRow.holds Try.pinned (OpenSpec.ofChange tableOnceWrong)

/-- 'ltklaw10.PathTwo': WHATEVER THE INPUT: true; the input reads as it did. -/
def pathTwoSpec : ChangeSpec := { name := "pathTwo", fn := fun _ => fun
  | [d1, d2, d3] => { results := [.lit (.bool true)], args := [d1, d2, d3] }
  | _ => none }
def pathTwoRow : OpenClaim := { program := "ytagdgkimjgomlaa", sum := "013f933007c90ef6bfd29c1c88f6d1e424a8996ef6db0bbd7a7f22e850f00ce7", func := "latchkey/ltklaw10.PathTwo", spec := "pathTwo", inPlace := ["slices.overlaps[latchkey/lane.Entry]"], unfollowed := true, recurses := true, apart := false }
def PathTwoSaid : Prop := pathTwoRow.holds Try.pinned (OpenSpec.ofChange pathTwoSpec)

/-- ITS FALSE NEIGHBOUR: 'it returns false'. Refute it at one input. -/
def pathTwoWrong : ChangeSpec := { name := "pathTwo", fn := fun _ => fun
  | [d1, d2, d3] => { results := [.lit (.bool false)], args := [d1, d2, d3] }
  | _ => none }
def PathTwoWrongFalsely : Prop := pathTwoRow.holds Try.pinned (OpenSpec.ofChange pathTwoWrong)

/- THE SECOND FORM. 'bulk': how many values and letters a reading holds, each counted each time it is reached (what is shared counts as often as it is met; a slice's spare places count too). A statement '..UptoSaid' is the law's where the arguments, and the package variables that the reading takes, are together of bulk at most 1048576: NARROWER than '..Said'. Prove '..Said' where nothing that the law and all that it calls make is longer than what came in: it says more and counts as full. Else prove '..UptoSaid'. A law counts once. -/
mutual
def uptoBulk {H : Type} : DataW H → Nat
  | .lit (.string bytes) => bytes.length + 1
  | .lit _ => 1
  | .nil => 1
  | .ptr d => uptoBulk d + 1
  | .slice elems spare => uptoBulkAll elems + uptoBulkAll spare + 1
  | .agg parts => uptoBulkAll parts + 1
  | .iface _ d => uptoBulk d + 1
  | .map entries => uptoBulkEntries entries + 1
  | .held _ => 1
def uptoBulkAll {H : Type} : List (DataW H) → Nat
  | [] => 0
  | d :: r => uptoBulk d + uptoBulkAll r
def uptoBulkEntries {H : Type} : List (Lit × DataW H) → Nat
  | [] => 0
  | x :: r => uptoBulkEntry x + uptoBulkEntries r
def uptoBulkEntry {H : Type} : Lit × DataW H → Nat
  | (.string bytes, d) => bytes.length + uptoBulk d + 1
  | (_, d) => uptoBulk d + 1
 end
def uptoSmall : (H : Type) → List (DataW H) → Bool := fun _ ds => decide (uptoBulkAll ds ≤ 1048576)
def OpenSpec.upto (s : _root_.Go.ChangeSpec) : _root_.Go.OpenSpec := { _root_.Go.OpenSpec.ofChange s with cond := some uptoSmall }

/-- 'ltklaw9.TableOrder', WHERE WHAT IT READS IS OF BULK AT MOST 1048576: true; the input reads as it did. -/
def tableOrderUptoRow : OpenClaim := { program := "ytagdgkimjgomlaa", sum := "013f933007c90ef6bfd29c1c88f6d1e424a8996ef6db0bbd7a7f22e850f00ce7", func := "latchkey/ltklaw9.TableOrder", spec := "tableOrder", inPlace := ["slices.overlaps[latchkey/lane.Entry]"], unfollowed := true, recurses := true, apart := false, narrowed := true }
def TableOrderUptoSaid : Prop := tableOrderUptoRow.holds Try.pinned (OpenSpec.upto tableOrderSpec)

/-- 'ltklaw10.PathThree', WHERE WHAT IT READS IS OF BULK AT MOST 1048576: true; the input reads as it did. -/
def pathThreeUptoRow : OpenClaim := { program := "ytagdgkimjgomlaa", sum := "013f933007c90ef6bfd29c1c88f6d1e424a8996ef6db0bbd7a7f22e850f00ce7", func := "latchkey/ltklaw10.PathThree", spec := "pathThree", inPlace := ["slices.overlaps[latchkey/lane.Entry]"], unfollowed := true, recurses := true, apart := false, narrowed := true }
def PathThreeUptoSaid : Prop := pathThreeUptoRow.holds Try.pinned (OpenSpec.upto pathThreeSpec)

/-- 'ltklaw10.PathUp', WHERE WHAT IT READS IS OF BULK AT MOST 1048576: true; the input reads as it did. -/
def pathUpUptoRow : OpenClaim := { program := "ytagdgkimjgomlaa", sum := "013f933007c90ef6bfd29c1c88f6d1e424a8996ef6db0bbd7a7f22e850f00ce7", func := "latchkey/ltklaw10.PathUp", spec := "pathUp", inPlace := ["slices.overlaps[latchkey/lane.Entry]"], unfollowed := true, recurses := true, apart := false, narrowed := true }
def PathUpUptoSaid : Prop := pathUpUptoRow.holds Try.pinned (OpenSpec.upto pathUpSpec)

/-- 'ltklaw10.PathAll', WHERE WHAT IT READS IS OF BULK AT MOST 1048576: true; the input reads as it did. -/
def pathAllUptoRow : OpenClaim := { program := "ytagdgkimjgomlaa", sum := "013f933007c90ef6bfd29c1c88f6d1e424a8996ef6db0bbd7a7f22e850f00ce7", func := "latchkey/ltklaw10.PathAll", spec := "pathAll", inPlace := ["slices.overlaps[latchkey/lane.Entry]"], unfollowed := true, recurses := true, apart := false, narrowed := true }
def PathAllUptoSaid : Prop := pathAllUptoRow.holds Try.pinned (OpenSpec.upto pathAllSpec)

/-- 'ltklaw10.PathSafe', WHERE WHAT IT READS IS OF BULK AT MOST 1048576: true; the input reads as it did. -/
def pathSafeUptoRow : OpenClaim := { program := "ytagdgkimjgomlaa", sum := "013f933007c90ef6bfd29c1c88f6d1e424a8996ef6db0bbd7a7f22e850f00ce7", func := "latchkey/ltklaw10.PathSafe", spec := "pathSafe", inPlace := ["slices.overlaps[latchkey/lane.Entry]"], unfollowed := true, recurses := true, apart := false, narrowed := true }
def PathSafeUptoSaid : Prop := pathSafeUptoRow.holds Try.pinned (OpenSpec.upto pathSafeSpec)

/-- 'ltklaw8.LaneTurns', WHERE WHAT IT READS IS OF BULK AT MOST 1048576: true; the input reads as it did. -/
def laneTurnsUptoRow : OpenClaim := { program := "ytagdgkimjgomlaa", sum := "013f933007c90ef6bfd29c1c88f6d1e424a8996ef6db0bbd7a7f22e850f00ce7", func := "latchkey/ltklaw8.LaneTurns", spec := "laneTurns", inPlace := ["slices.overlaps[latchkey/lane.Entry]"], unfollowed := true, recurses := true, apart := false, narrowed := true }
def LaneTurnsUptoSaid : Prop := laneTurnsUptoRow.holds Try.pinned (OpenSpec.upto laneTurnsSpec)

/-- 'ltklaw8.LaneQueue', WHERE WHAT IT READS IS OF BULK AT MOST 1048576: true; the input reads as it did. -/
def laneQueueUptoRow : OpenClaim := { program := "ytagdgkimjgomlaa", sum := "013f933007c90ef6bfd29c1c88f6d1e424a8996ef6db0bbd7a7f22e850f00ce7", func := "latchkey/ltklaw8.LaneQueue", spec := "laneQueue", inPlace := ["slices.overlaps[latchkey/lane.Entry]"], unfollowed := true, recurses := true, apart := false, narrowed := true }
def LaneQueueUptoSaid : Prop := laneQueueUptoRow.holds Try.pinned (OpenSpec.upto laneQueueSpec)

/-- 'ltklaw8.LaneGone', WHERE WHAT IT READS IS OF BULK AT MOST 1048576: true; the input reads as it did. -/
def laneGoneUptoRow : OpenClaim := { program := "ytagdgkimjgomlaa", sum := "013f933007c90ef6bfd29c1c88f6d1e424a8996ef6db0bbd7a7f22e850f00ce7", func := "latchkey/ltklaw8.LaneGone", spec := "laneGone", inPlace := ["slices.overlaps[latchkey/lane.Entry]"], unfollowed := true, recurses := true, apart := false, narrowed := true }
def LaneGoneUptoSaid : Prop := laneGoneUptoRow.holds Try.pinned (OpenSpec.upto laneGoneSpec)

/-- 'ltklaw8.LaneEdges', WHERE WHAT IT READS IS OF BULK AT MOST 1048576: true; the input reads as it did. -/
def laneEdgesUptoRow : OpenClaim := { program := "ytagdgkimjgomlaa", sum := "013f933007c90ef6bfd29c1c88f6d1e424a8996ef6db0bbd7a7f22e850f00ce7", func := "latchkey/ltklaw8.LaneEdges", spec := "laneEdges", inPlace := ["slices.overlaps[latchkey/lane.Entry]"], unfollowed := true, recurses := true, apart := false, narrowed := true }
def LaneEdgesUptoSaid : Prop := laneEdgesUptoRow.holds Try.pinned (OpenSpec.upto laneEdgesSpec)

/-- 'ltklaw8.LanePlays', WHERE WHAT IT READS IS OF BULK AT MOST 1048576: true; the input reads as it did. -/
def lanePlaysUptoRow : OpenClaim := { program := "ytagdgkimjgomlaa", sum := "013f933007c90ef6bfd29c1c88f6d1e424a8996ef6db0bbd7a7f22e850f00ce7", func := "latchkey/ltklaw8.LanePlays", spec := "lanePlays", inPlace := ["slices.overlaps[latchkey/lane.Entry]"], unfollowed := true, recurses := true, apart := false, narrowed := true }
def LanePlaysUptoSaid : Prop := lanePlaysUptoRow.holds Try.pinned (OpenSpec.upto lanePlaysSpec)

/-- 'ltklaw8.LaneServes', WHERE WHAT IT READS IS OF BULK AT MOST 1048576: true; the input reads as it did. -/
def laneServesUptoRow : OpenClaim := { program := "ytagdgkimjgomlaa", sum := "013f933007c90ef6bfd29c1c88f6d1e424a8996ef6db0bbd7a7f22e850f00ce7", func := "latchkey/ltklaw8.LaneServes", spec := "laneServes", inPlace := ["slices.overlaps[latchkey/lane.Entry]"], unfollowed := true, recurses := true, apart := false, narrowed := true }
def LaneServesUptoSaid : Prop := laneServesUptoRow.holds Try.pinned (OpenSpec.upto laneServesSpec)

/-- 'ltklaw8.LaneFits', WHERE WHAT IT READS IS OF BULK AT MOST 1048576: true; the input reads as it did. -/
def laneFitsUptoRow : OpenClaim := { program := "ytagdgkimjgomlaa", sum := "013f933007c90ef6bfd29c1c88f6d1e424a8996ef6db0bbd7a7f22e850f00ce7", func := "latchkey/ltklaw8.LaneFits", spec := "laneFits", inPlace := ["slices.overlaps[latchkey/lane.Entry]"], unfollowed := true, recurses := true, apart := false, narrowed := true }
def LaneFitsUptoSaid : Prop := laneFitsUptoRow.holds Try.pinned (OpenSpec.upto laneFitsSpec)

/-- 'ltklaw9.TableDrops', WHERE WHAT IT READS IS OF BULK AT MOST 1048576: true; the input reads as it did. -/
def tableDropsUptoRow : OpenClaim := { program := "ytagdgkimjgomlaa", sum := "013f933007c90ef6bfd29c1c88f6d1e424a8996ef6db0bbd7a7f22e850f00ce7", func := "latchkey/ltklaw9.TableDrops", spec := "tableDrops", inPlace := ["slices.overlaps[latchkey/lane.Entry]"], unfollowed := true, recurses := true, apart := false, narrowed := true }
def TableDropsUptoSaid : Prop := tableDropsUptoRow.holds Try.pinned (OpenSpec.upto tableDropsSpec)

/-- 'ltklaw9.TableCircle', WHERE WHAT IT READS IS OF BULK AT MOST 1048576: true; the input reads as it did. -/
def tableCircleUptoRow : OpenClaim := { program := "ytagdgkimjgomlaa", sum := "013f933007c90ef6bfd29c1c88f6d1e424a8996ef6db0bbd7a7f22e850f00ce7", func := "latchkey/ltklaw9.TableCircle", spec := "tableCircle", inPlace := ["slices.overlaps[latchkey/lane.Entry]"], unfollowed := true, recurses := true, apart := false, narrowed := true }
def TableCircleUptoSaid : Prop := tableCircleUptoRow.holds Try.pinned (OpenSpec.upto tableCircleSpec)

/-- 'ltklaw9.TableFull', WHERE WHAT IT READS IS OF BULK AT MOST 1048576: true; the input reads as it did. -/
def tableFullUptoRow : OpenClaim := { program := "ytagdgkimjgomlaa", sum := "013f933007c90ef6bfd29c1c88f6d1e424a8996ef6db0bbd7a7f22e850f00ce7", func := "latchkey/ltklaw9.TableFull", spec := "tableFull", inPlace := ["slices.overlaps[latchkey/lane.Entry]"], unfollowed := true, recurses := true, apart := false, narrowed := true }
def TableFullUptoSaid : Prop := tableFullUptoRow.holds Try.pinned (OpenSpec.upto tableFullSpec)

/-- 'ltklaw9.TableOnce', WHERE WHAT IT READS IS OF BULK AT MOST 1048576: true; the input reads as it did. -/
def tableOnceUptoRow : OpenClaim := { program := "ytagdgkimjgomlaa", sum := "013f933007c90ef6bfd29c1c88f6d1e424a8996ef6db0bbd7a7f22e850f00ce7", func := "latchkey/ltklaw9.TableOnce", spec := "tableOnce", inPlace := ["slices.overlaps[latchkey/lane.Entry]"], unfollowed := true, recurses := true, apart := false, narrowed := true }
def TableOnceUptoSaid : Prop := tableOnceUptoRow.holds Try.pinned (OpenSpec.upto tableOnceSpec)

/-- 'ltklaw10.PathTwo', WHERE WHAT IT READS IS OF BULK AT MOST 1048576: true; the input reads as it did. -/
def pathTwoUptoRow : OpenClaim := { program := "ytagdgkimjgomlaa", sum := "013f933007c90ef6bfd29c1c88f6d1e424a8996ef6db0bbd7a7f22e850f00ce7", func := "latchkey/ltklaw10.PathTwo", spec := "pathTwo", inPlace := ["slices.overlaps[latchkey/lane.Entry]"], unfollowed := true, recurses := true, apart := false, narrowed := true }
def PathTwoUptoSaid : Prop := pathTwoUptoRow.holds Try.pinned (OpenSpec.upto pathTwoSpec)

end Rows
end Go.Proofs.Ytagdgkimjgomlaa
