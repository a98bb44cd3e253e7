/-
  No cell of these rows narrows 'for every input' (looked for: loops, veiled, ifaces, maps, wideKeys, modest, calm, conditions, laid).
  DERIVED. THE GIVEN ROWS OF THIS SEAT. 17 by the template 'for every input the law returns true; each argument reads behind the call as it read before'; 0 by the template 'total and deterministic' (their statements: YtdpcodnooonmlaaTotals.lean).
  GIVEN WITH THE SEED: the statements are not yours to turn. If you find one false, say at which input.
  Laid BY PROGRAM, IN A SANDBOX (cutbox-rows.mjs): the forced cells as the released guide's own fill.sh prints them over the translation 62b05c759692db98… (all of the seat's roots in one cut). By AI agents, Wed Nov 11 2026. No macro, syntax, notation, axiom, sorry.
-/
import Derived.Test.YtdpcodnooonmlaaChecked
import GoSem.Claim
import GoSem.ClaimJoined
import GoSem.ClaimMapViews
import Derived.JoinedTies
import Derived.KernelRfl
namespace Go.Proofs.Ytdpcodnooonmlaa
/- THE CELL 'sum', in the pinned program and in every row, IS THE sha256 OF THE DUMP (.gsa) THAT YtdpcodnooonmlaaProg.lean LOADS. Nothing in Lean hashes anything: it is a label: what it is worth is what the hold of that sum in a sandbox is worth. -/
noncomputable def Try.pinned : Pinned := { name := "ytdpcodnooonmlaa", sum := "62b05c759692db9859fe23e490ab7e66d17fd1144732361b1644f4c10f30c46c", checked := Try.checked }
namespace Rows
def none {H : Type} : Left H := { results := [], args := [] }

/-- 'ltklaw13.BirthTells': WHATEVER THE INPUT: true; the input reads as it did. -/
def birthTellsSpec : ChangeSpec := { name := "birthTells", fn := fun _ => fun
  | [d1, d2, d3] => { results := [.lit (.bool true)], args := [d1, d2, d3] }
  | _ => none }
def birthTellsRow : OpenClaim := { program := "ytdpcodnooonmlaa", sum := "62b05c759692db9859fe23e490ab7e66d17fd1144732361b1644f4c10f30c46c", func := "latchkey/ltklaw13.BirthTells", spec := "birthTells", apart := false }
def BirthTellsSaid : Prop := birthTellsRow.holds Try.pinned (OpenSpec.ofChange birthTellsSpec)

/-- ITS FALSE NEIGHBOUR: 'it returns false'. Refute it at one input. -/
def birthTellsWrong : ChangeSpec := { name := "birthTells", fn := fun _ => fun
  | [d1, d2, d3] => { results := [.lit (.bool false)], args := [d1, d2, d3] }
  | _ => none }
def BirthTellsWrongFalsely : Prop := birthTellsRow.holds Try.pinned (OpenSpec.ofChange birthTellsWrong)

/-- 'ltklaw13.BirthOnce': WHATEVER THE INPUT: true; the input reads as it did. -/
def birthOnceSpec : ChangeSpec := { name := "birthOnce", fn := fun _ => fun
  | [d1, d2] => { results := [.lit (.bool true)], args := [d1, d2] }
  | _ => none }
def birthOnceRow : OpenClaim := { program := "ytdpcodnooonmlaa", sum := "62b05c759692db9859fe23e490ab7e66d17fd1144732361b1644f4c10f30c46c", func := "latchkey/ltklaw13.BirthOnce", spec := "birthOnce", apart := false }
def BirthOnceSaid : Prop := birthOnceRow.holds Try.pinned (OpenSpec.ofChange birthOnceSpec)

/-- ITS FALSE NEIGHBOUR: 'it returns false'. Refute it at one input. -/
def birthOnceWrong : ChangeSpec := { name := "birthOnce", fn := fun _ => fun
  | [d1, d2] => { results := [.lit (.bool false)], args := [d1, d2] }
  | _ => none }
def BirthOnceWrongFalsely : Prop := birthOnceRow.holds Try.pinned (OpenSpec.ofChange birthOnceWrong)

/-- 'ltklaw13.BirthLeast': WHATEVER THE INPUT: true; the input reads as it did. -/
def birthLeastSpec : ChangeSpec := { name := "birthLeast", fn := fun _ => fun
  | [d1, d2] => { results := [.lit (.bool true)], args := [d1, d2] }
  | _ => none }
def birthLeastRow : OpenClaim := { program := "ytdpcodnooonmlaa", sum := "62b05c759692db9859fe23e490ab7e66d17fd1144732361b1644f4c10f30c46c", func := "latchkey/ltklaw13.BirthLeast", spec := "birthLeast", apart := false }
def BirthLeastSaid : Prop := birthLeastRow.holds Try.pinned (OpenSpec.ofChange birthLeastSpec)

/-- ITS FALSE NEIGHBOUR: 'it returns false'. Refute it at one input. -/
def birthLeastWrong : ChangeSpec := { name := "birthLeast", fn := fun _ => fun
  | [d1, d2] => { results := [.lit (.bool false)], args := [d1, d2] }
  | _ => none }
def BirthLeastWrongFalsely : Prop := birthLeastRow.holds Try.pinned (OpenSpec.ofChange birthLeastWrong)

/-- 'ltklaw13.BirthApart': WHATEVER THE INPUT: true; the input reads as it did. -/
def birthApartSpec : ChangeSpec := { name := "birthApart", fn := fun _ => fun
  | [d1, d2] => { results := [.lit (.bool true)], args := [d1, d2] }
  | _ => none }
def birthApartRow : OpenClaim := { program := "ytdpcodnooonmlaa", sum := "62b05c759692db9859fe23e490ab7e66d17fd1144732361b1644f4c10f30c46c", func := "latchkey/ltklaw13.BirthApart", spec := "birthApart", apart := false }
def BirthApartSaid : Prop := birthApartRow.holds Try.pinned (OpenSpec.ofChange birthApartSpec)

/-- ITS FALSE NEIGHBOUR: 'it returns false'. Refute it at one input. -/
def birthApartWrong : ChangeSpec := { name := "birthApart", fn := fun _ => fun
  | [d1, d2] => { results := [.lit (.bool false)], args := [d1, d2] }
  | _ => none }
def BirthApartWrongFalsely : Prop := birthApartRow.holds Try.pinned (OpenSpec.ofChange birthApartWrong)

/-- 'ltklaw4.ModeSups': WHATEVER THE INPUT: true; the input reads as it did. -/
def modeSupsSpec : ChangeSpec := { name := "modeSups", fn := fun _ => fun
  | [d] => { results := [.lit (.bool true)], args := [d] }
  | _ => none }
def modeSupsRow : OpenClaim := { program := "ytdpcodnooonmlaa", sum := "62b05c759692db9859fe23e490ab7e66d17fd1144732361b1644f4c10f30c46c", func := "latchkey/ltklaw4.ModeSups", spec := "modeSups", apart := false }
def ModeSupsSaid : Prop := modeSupsRow.holds Try.pinned (OpenSpec.ofChange modeSupsSpec)

/-- ITS FALSE NEIGHBOUR: 'it returns false'. Refute it at one input. -/
def modeSupsWrong : ChangeSpec := { name := "modeSups", fn := fun _ => fun
  | [d] => { results := [.lit (.bool false)], args := [d] }
  | _ => none }
def ModeSupsWrongFalsely : Prop := modeSupsRow.holds Try.pinned (OpenSpec.ofChange modeSupsWrong)

/-- 'ltklaw4.ModeOrder': WHATEVER THE INPUT: true; the input reads as it did. -/
def modeOrderSpec : ChangeSpec := { name := "modeOrder", fn := fun _ => fun
  | [d1, d2, d3] => { results := [.lit (.bool true)], args := [d1, d2, d3] }
  | _ => none }
def modeOrderRow : OpenClaim := { program := "ytdpcodnooonmlaa", sum := "62b05c759692db9859fe23e490ab7e66d17fd1144732361b1644f4c10f30c46c", func := "latchkey/ltklaw4.ModeOrder", spec := "modeOrder", apart := false }
def ModeOrderSaid : Prop := modeOrderRow.holds Try.pinned (OpenSpec.ofChange modeOrderSpec)

/-- ITS FALSE NEIGHBOUR: 'it returns false'. Refute it at one input. -/
def modeOrderWrong : ChangeSpec := { name := "modeOrder", fn := fun _ => fun
  | [d1, d2, d3] => { results := [.lit (.bool false)], args := [d1, d2, d3] }
  | _ => none }
def ModeOrderWrongFalsely : Prop := modeOrderRow.holds Try.pinned (OpenSpec.ofChange modeOrderWrong)

/-- 'ltklaw4.ModeSafe': WHATEVER THE INPUT: true; the input reads as it did. -/
def modeSafeSpec : ChangeSpec := { name := "modeSafe", fn := fun _ => fun
  | [d1, d2] => { results := [.lit (.bool true)], args := [d1, d2] }
  | _ => none }
def modeSafeRow : OpenClaim := { program := "ytdpcodnooonmlaa", sum := "62b05c759692db9859fe23e490ab7e66d17fd1144732361b1644f4c10f30c46c", func := "latchkey/ltklaw4.ModeSafe", spec := "modeSafe", apart := false }
def ModeSafeSaid : Prop := modeSafeRow.holds Try.pinned (OpenSpec.ofChange modeSafeSpec)

/-- ITS FALSE NEIGHBOUR: 'it returns false'. Refute it at one input. -/
def modeSafeWrong : ChangeSpec := { name := "modeSafe", fn := fun _ => fun
  | [d1, d2] => { results := [.lit (.bool false)], args := [d1, d2] }
  | _ => none }
def ModeSafeWrongFalsely : Prop := modeSafeRow.holds Try.pinned (OpenSpec.ofChange modeSafeWrong)

/-- 'ltklaw4.ModeTable': WHATEVER THE INPUT: true; the input reads as it did. -/
def modeTableSpec : ChangeSpec := { name := "modeTable", fn := fun _ => fun
  | [d1, d2] => { results := [.lit (.bool true)], args := [d1, d2] }
  | _ => none }
def modeTableRow : OpenClaim := { program := "ytdpcodnooonmlaa", sum := "62b05c759692db9859fe23e490ab7e66d17fd1144732361b1644f4c10f30c46c", func := "latchkey/ltklaw4.ModeTable", spec := "modeTable", apart := false }
def ModeTableSaid : Prop := modeTableRow.holds Try.pinned (OpenSpec.ofChange modeTableSpec)

/-- ITS FALSE NEIGHBOUR: 'it returns false'. Refute it at one input. -/
def modeTableWrong : ChangeSpec := { name := "modeTable", fn := fun _ => fun
  | [d1, d2] => { results := [.lit (.bool false)], args := [d1, d2] }
  | _ => none }
def ModeTableWrongFalsely : Prop := modeTableRow.holds Try.pinned (OpenSpec.ofChange modeTableWrong)

/-- 'ltklaw4.ModeBelow': WHATEVER THE INPUT: true; the input reads as it did. -/
def modeBelowSpec : ChangeSpec := { name := "modeBelow", fn := fun _ => fun
  | [d1, d2] => { results := [.lit (.bool true)], args := [d1, d2] }
  | _ => none }
def modeBelowRow : OpenClaim := { program := "ytdpcodnooonmlaa", sum := "62b05c759692db9859fe23e490ab7e66d17fd1144732361b1644f4c10f30c46c", func := "latchkey/ltklaw4.ModeBelow", spec := "modeBelow", apart := false }
def ModeBelowSaid : Prop := modeBelowRow.holds Try.pinned (OpenSpec.ofChange modeBelowSpec)

/-- ITS FALSE NEIGHBOUR: 'it returns false'. Refute it at one input. -/
def modeBelowWrong : ChangeSpec := { name := "modeBelow", fn := fun _ => fun
  | [d1, d2] => { results := [.lit (.bool false)], args := [d1, d2] }
  | _ => none }
def ModeBelowWrongFalsely : Prop := modeBelowRow.holds Try.pinned (OpenSpec.ofChange modeBelowWrong)

/-- 'ltklaw4.ModeTells': WHATEVER THE INPUT: true; the input reads as it did. -/
def modeTellsSpec : ChangeSpec := { name := "modeTells", fn := fun _ => fun
  | [d1, d2, d3] => { results := [.lit (.bool true)], args := [d1, d2, d3] }
  | _ => none }
def modeTellsRow : OpenClaim := { program := "ytdpcodnooonmlaa", sum := "62b05c759692db9859fe23e490ab7e66d17fd1144732361b1644f4c10f30c46c", func := "latchkey/ltklaw4.ModeTells", spec := "modeTells", apart := false }
def ModeTellsSaid : Prop := modeTellsRow.holds Try.pinned (OpenSpec.ofChange modeTellsSpec)

/-- ITS FALSE NEIGHBOUR: 'it returns false'. Refute it at one input. -/
def modeTellsWrong : ChangeSpec := { name := "modeTells", fn := fun _ => fun
  | [d1, d2, d3] => { results := [.lit (.bool false)], args := [d1, d2, d3] }
  | _ => none }
def ModeTellsWrongFalsely : Prop := modeTellsRow.holds Try.pinned (OpenSpec.ofChange modeTellsWrong)

/-- 'ltklaw4.ModeLaws': WHATEVER THE INPUT: true; the input reads as it did. -/
def modeLawsSpec : ChangeSpec := { name := "modeLaws", fn := fun _ => fun
  | [d1, d2, d3] => { results := [.lit (.bool true)], args := [d1, d2, d3] }
  | _ => none }
def modeLawsRow : OpenClaim := { program := "ytdpcodnooonmlaa", sum := "62b05c759692db9859fe23e490ab7e66d17fd1144732361b1644f4c10f30c46c", func := "latchkey/ltklaw4.ModeLaws", spec := "modeLaws", apart := false }
def ModeLawsSaid : Prop := modeLawsRow.holds Try.pinned (OpenSpec.ofChange modeLawsSpec)

/-- ITS FALSE NEIGHBOUR: 'it returns false'. Refute it at one input. -/
def modeLawsWrong : ChangeSpec := { name := "modeLaws", fn := fun _ => fun
  | [d1, d2, d3] => { results := [.lit (.bool false)], args := [d1, d2, d3] }
  | _ => none }
def ModeLawsWrongFalsely : Prop := modeLawsRow.holds Try.pinned (OpenSpec.ofChange modeLawsWrong)

/-- 'ltklaw21.BoundFair': WHATEVER THE INPUT: true; the input reads as it did. -/
def boundFairSpec : ChangeSpec := { name := "boundFair", fn := fun _ => fun
  | [d1, d2, d3] => { results := [.lit (.bool true)], args := [d1, d2, d3] }
  | _ => none }
def boundFairRow : OpenClaim := { program := "ytdpcodnooonmlaa", sum := "62b05c759692db9859fe23e490ab7e66d17fd1144732361b1644f4c10f30c46c", func := "latchkey/ltklaw21.BoundFair", spec := "boundFair", apart := false }
def BoundFairSaid : Prop := boundFairRow.holds Try.pinned (OpenSpec.ofChange boundFairSpec)

/-- ITS FALSE NEIGHBOUR: 'it returns false'. Refute it at one input. -/
def boundFairWrong : ChangeSpec := { name := "boundFair", fn := fun _ => fun
  | [d1, d2, d3] => { results := [.lit (.bool false)], args := [d1, d2, d3] }
  | _ => none }
def BoundFairWrongFalsely : Prop := boundFairRow.holds Try.pinned (OpenSpec.ofChange boundFairWrong)

/-- 'ltklaw21.BoundPolicies': WHATEVER THE INPUT: true; the input reads as it did. -/
def boundPoliciesSpec : ChangeSpec := { name := "boundPolicies", fn := fun _ => fun
  | [d1, d2] => { results := [.lit (.bool true)], args := [d1, d2] }
  | _ => none }
def boundPoliciesRow : OpenClaim := { program := "ytdpcodnooonmlaa", sum := "62b05c759692db9859fe23e490ab7e66d17fd1144732361b1644f4c10f30c46c", func := "latchkey/ltklaw21.BoundPolicies", spec := "boundPolicies", apart := false }
def BoundPoliciesSaid : Prop := boundPoliciesRow.holds Try.pinned (OpenSpec.ofChange boundPoliciesSpec)

/-- ITS FALSE NEIGHBOUR: 'it returns false'. Refute it at one input. -/
def boundPoliciesWrong : ChangeSpec := { name := "boundPolicies", fn := fun _ => fun
  | [d1, d2] => { results := [.lit (.bool false)], args := [d1, d2] }
  | _ => none }
def BoundPoliciesWrongFalsely : Prop := boundPoliciesRow.holds Try.pinned (OpenSpec.ofChange boundPoliciesWrong)

/-- 'ltklaw23.TaleParts': WHATEVER THE INPUT: true; the input reads as it did. -/
def talePartsSpec : ChangeSpec := { name := "taleParts", fn := fun _ => fun
  | [d1, d2] => { results := [.lit (.bool true)], args := [d1, d2] }
  | _ => none }
def talePartsRow : OpenClaim := { program := "ytdpcodnooonmlaa", sum := "62b05c759692db9859fe23e490ab7e66d17fd1144732361b1644f4c10f30c46c", func := "latchkey/ltklaw23.TaleParts", spec := "taleParts", apart := false }
def TalePartsSaid : Prop := talePartsRow.holds Try.pinned (OpenSpec.ofChange talePartsSpec)

/-- ITS FALSE NEIGHBOUR: 'it returns false'. Refute it at one input. -/
def talePartsWrong : ChangeSpec := { name := "taleParts", fn := fun _ => fun
  | [d1, d2] => { results := [.lit (.bool false)], args := [d1, d2] }
  | _ => none }
def TalePartsWrongFalsely : Prop := talePartsRow.holds Try.pinned (OpenSpec.ofChange talePartsWrong)

/-- 'ltklaw21.BoundMore': WHATEVER THE INPUT: true; the input reads as it did. -/
def boundMoreSpec : ChangeSpec := { name := "boundMore", fn := fun _ => fun
  | [d1, d2, d3, d4, d5, d6] => { results := [.lit (.bool true)], args := [d1, d2, d3, d4, d5, d6] }
  | _ => none }
def boundMoreRow : OpenClaim := { program := "ytdpcodnooonmlaa", sum := "62b05c759692db9859fe23e490ab7e66d17fd1144732361b1644f4c10f30c46c", func := "latchkey/ltklaw21.BoundMore", spec := "boundMore", unfollowed := true, recurses := true, apart := false }
def BoundMoreSaid : Prop := boundMoreRow.holds Try.pinned (OpenSpec.ofChange boundMoreSpec)

/-- ITS FALSE NEIGHBOUR: 'it returns false'. Refute it at one input. -/
def boundMoreWrong : ChangeSpec := { name := "boundMore", fn := fun _ => fun
  | [d1, d2, d3, d4, d5, d6] => { results := [.lit (.bool false)], args := [d1, d2, d3, d4, d5, d6] }
  | _ => none }
def BoundMoreWrongFalsely : Prop := boundMoreRow.holds Try.pinned (OpenSpec.ofChange boundMoreWrong)

/-- 'ltklaw23.TaleTells': WHATEVER THE INPUT: true; the input reads as it did. -/
def taleTellsSpec : ChangeSpec := { name := "taleTells", fn := fun _ => fun
  | [d1, d2, d3, d4, d5] => { results := [.lit (.bool true)], args := [d1, d2, d3, d4, d5] }
  | _ => none }
def taleTellsRow : OpenClaim := { program := "ytdpcodnooonmlaa", sum := "62b05c759692db9859fe23e490ab7e66d17fd1144732361b1644f4c10f30c46c", func := "latchkey/ltklaw23.TaleTells", spec := "taleTells", apart := false }
def TaleTellsSaid : Prop := taleTellsRow.holds Try.pinned (OpenSpec.ofChange taleTellsSpec)

/-- ITS FALSE NEIGHBOUR: 'it returns false'. Refute it at one input. -/
def taleTellsWrong : ChangeSpec := { name := "taleTells", fn := fun _ => fun
  | [d1, d2, d3, d4, d5] => { results := [.lit (.bool false)], args := [d1, d2, d3, d4, d5] }
  | _ => none }
def TaleTellsWrongFalsely : Prop := taleTellsRow.holds Try.pinned (OpenSpec.ofChange taleTellsWrong)

/-- 'ltklaw23.TaleChecks': WHATEVER THE INPUT: true; the input reads as it did. -/
def taleChecksSpec : ChangeSpec := { name := "taleChecks", fn := fun _ => fun
  | [d1, d2, d3, d4] => { results := [.lit (.bool true)], args := [d1, d2, d3, d4] }
  | _ => none }
def taleChecksRow : OpenClaim := { program := "ytdpcodnooonmlaa", sum := "62b05c759692db9859fe23e490ab7e66d17fd1144732361b1644f4c10f30c46c", func := "latchkey/ltklaw23.TaleChecks", spec := "taleChecks", unfollowed := true, recurses := true, apart := false }
def TaleChecksSaid : Prop := taleChecksRow.holds Try.pinned (OpenSpec.ofChange taleChecksSpec)

/-- ITS FALSE NEIGHBOUR: 'it returns false'. Refute it at one input. -/
def taleChecksWrong : ChangeSpec := { name := "taleChecks", fn := fun _ => fun
  | [d1, d2, d3, d4] => { results := [.lit (.bool false)], args := [d1, d2, d3, d4] }
  | _ => none }
def TaleChecksWrongFalsely : Prop := taleChecksRow.holds Try.pinned (OpenSpec.ofChange taleChecksWrong)

/- THE SECOND FORM. 'bulk': how many values and letters a reading holds, each counted each time it is reached (what is shared counts as often as it is met; a slice's spare places count too). A statement '..UptoSaid' is the law's where the arguments, and the package variables that the reading takes, are together of bulk at most 1048576: NARROWER than '..Said'. Prove '..Said' where nothing that the law and all that it calls make is longer than what came in: it says more and counts as full. Else prove '..UptoSaid'. A law counts once. -/
mutual
def uptoBulk {H : Type} : DataW H → Nat
  | .lit (.string bytes) => bytes.length + 1
  | .lit _ => 1
  | .nil => 1
  | .ptr d => uptoBulk d + 1
  | .slice elems spare => uptoBulkAll elems + uptoBulkAll spare + 1
  | .agg parts => uptoBulkAll parts + 1
  | .iface _ d => uptoBulk d + 1
  | .map entries => uptoBulkEntries entries + 1
  | .held _ => 1
def uptoBulkAll {H : Type} : List (DataW H) → Nat
  | [] => 0
  | d :: r => uptoBulk d + uptoBulkAll r
def uptoBulkEntries {H : Type} : List (Lit × DataW H) → Nat
  | [] => 0
  | x :: r => uptoBulkEntry x + uptoBulkEntries r
def uptoBulkEntry {H : Type} : Lit × DataW H → Nat
  | (.string bytes, d) => bytes.length + uptoBulk d + 1
  | (_, d) => uptoBulk d + 1
 end
def uptoSmall : (H : Type) → List (DataW H) → Bool := fun _ ds => decide (uptoBulkAll ds ≤ 1048576)
def OpenSpec.upto (s : _root_.Go.ChangeSpec) : _root_.Go.OpenSpec := { _root_.Go.OpenSpec.ofChange s with cond := some uptoSmall }

/-- 'ltklaw13.BirthTells', WHERE WHAT IT READS IS OF BULK AT MOST 1048576: true; the input reads as it did. -/
def birthTellsUptoRow : OpenClaim := { program := "ytdpcodnooonmlaa", sum := "62b05c759692db9859fe23e490ab7e66d17fd1144732361b1644f4c10f30c46c", func := "latchkey/ltklaw13.BirthTells", spec := "birthTells", apart := false, narrowed := true }
def BirthTellsUptoSaid : Prop := birthTellsUptoRow.holds Try.pinned (OpenSpec.upto birthTellsSpec)

/-- 'ltklaw13.BirthOnce', WHERE WHAT IT READS IS OF BULK AT MOST 1048576: true; the input reads as it did. -/
def birthOnceUptoRow : OpenClaim := { program := "ytdpcodnooonmlaa", sum := "62b05c759692db9859fe23e490ab7e66d17fd1144732361b1644f4c10f30c46c", func := "latchkey/ltklaw13.BirthOnce", spec := "birthOnce", apart := false, narrowed := true }
def BirthOnceUptoSaid : Prop := birthOnceUptoRow.holds Try.pinned (OpenSpec.upto birthOnceSpec)

/-- 'ltklaw13.BirthLeast', WHERE WHAT IT READS IS OF BULK AT MOST 1048576: true; the input reads as it did. -/
def birthLeastUptoRow : OpenClaim := { program := "ytdpcodnooonmlaa", sum := "62b05c759692db9859fe23e490ab7e66d17fd1144732361b1644f4c10f30c46c", func := "latchkey/ltklaw13.BirthLeast", spec := "birthLeast", apart := false, narrowed := true }
def BirthLeastUptoSaid : Prop := birthLeastUptoRow.holds Try.pinned (OpenSpec.upto birthLeastSpec)

/-- 'ltklaw13.BirthApart', WHERE WHAT IT READS IS OF BULK AT MOST 1048576: true; the input reads as it did. -/
def birthApartUptoRow : OpenClaim := { program := "ytdpcodnooonmlaa", sum := "62b05c759692db9859fe23e490ab7e66d17fd1144732361b1644f4c10f30c46c", func := "latchkey/ltklaw13.BirthApart", spec := "birthApart", apart := false, narrowed := true }
def BirthApartUptoSaid : Prop := birthApartUptoRow.holds Try.pinned (OpenSpec.upto birthApartSpec)

/-- 'ltklaw4.ModeSups', WHERE WHAT IT READS IS OF BULK AT MOST 1048576: true; the input reads as it did. -/
def modeSupsUptoRow : OpenClaim := { program := "ytdpcodnooonmlaa", sum := "62b05c759692db9859fe23e490ab7e66d17fd1144732361b1644f4c10f30c46c", func := "latchkey/ltklaw4.ModeSups", spec := "modeSups", apart := false, narrowed := true }
def ModeSupsUptoSaid : Prop := modeSupsUptoRow.holds Try.pinned (OpenSpec.upto modeSupsSpec)

/-- 'ltklaw4.ModeOrder', WHERE WHAT IT READS IS OF BULK AT MOST 1048576: true; the input reads as it did. -/
def modeOrderUptoRow : OpenClaim := { program := "ytdpcodnooonmlaa", sum := "62b05c759692db9859fe23e490ab7e66d17fd1144732361b1644f4c10f30c46c", func := "latchkey/ltklaw4.ModeOrder", spec := "modeOrder", apart := false, narrowed := true }
def ModeOrderUptoSaid : Prop := modeOrderUptoRow.holds Try.pinned (OpenSpec.upto modeOrderSpec)

/-- 'ltklaw4.ModeSafe', WHERE WHAT IT READS IS OF BULK AT MOST 1048576: true; the input reads as it did. -/
def modeSafeUptoRow : OpenClaim := { program := "ytdpcodnooonmlaa", sum := "62b05c759692db9859fe23e490ab7e66d17fd1144732361b1644f4c10f30c46c", func := "latchkey/ltklaw4.ModeSafe", spec := "modeSafe", apart := false, narrowed := true }
def ModeSafeUptoSaid : Prop := modeSafeUptoRow.holds Try.pinned (OpenSpec.upto modeSafeSpec)

/-- 'ltklaw4.ModeTable', WHERE WHAT IT READS IS OF BULK AT MOST 1048576: true; the input reads as it did. -/
def modeTableUptoRow : OpenClaim := { program := "ytdpcodnooonmlaa", sum := "62b05c759692db9859fe23e490ab7e66d17fd1144732361b1644f4c10f30c46c", func := "latchkey/ltklaw4.ModeTable", spec := "modeTable", apart := false, narrowed := true }
def ModeTableUptoSaid : Prop := modeTableUptoRow.holds Try.pinned (OpenSpec.upto modeTableSpec)

/-- 'ltklaw4.ModeBelow', WHERE WHAT IT READS IS OF BULK AT MOST 1048576: true; the input reads as it did. -/
def modeBelowUptoRow : OpenClaim := { program := "ytdpcodnooonmlaa", sum := "62b05c759692db9859fe23e490ab7e66d17fd1144732361b1644f4c10f30c46c", func := "latchkey/ltklaw4.ModeBelow", spec := "modeBelow", apart := false, narrowed := true }
def ModeBelowUptoSaid : Prop := modeBelowUptoRow.holds Try.pinned (OpenSpec.upto modeBelowSpec)

/-- 'ltklaw4.ModeTells', WHERE WHAT IT READS IS OF BULK AT MOST 1048576: true; the input reads as it did. -/
def modeTellsUptoRow : OpenClaim := { program := "ytdpcodnooonmlaa", sum := "62b05c759692db9859fe23e490ab7e66d17fd1144732361b1644f4c10f30c46c", func := "latchkey/ltklaw4.ModeTells", spec := "modeTells", apart := false, narrowed := true }
def ModeTellsUptoSaid : Prop := modeTellsUptoRow.holds Try.pinned (OpenSpec.upto modeTellsSpec)

/-- 'ltklaw4.ModeLaws', WHERE WHAT IT READS IS OF BULK AT MOST 1048576: true; the input reads as it did. -/
def modeLawsUptoRow : OpenClaim := { program := "ytdpcodnooonmlaa", sum := "62b05c759692db9859fe23e490ab7e66d17fd1144732361b1644f4c10f30c46c", func := "latchkey/ltklaw4.ModeLaws", spec := "modeLaws", apart := false, narrowed := true }
def ModeLawsUptoSaid : Prop := modeLawsUptoRow.holds Try.pinned (OpenSpec.upto modeLawsSpec)

/-- 'ltklaw21.BoundFair', WHERE WHAT IT READS IS OF BULK AT MOST 1048576: true; the input reads as it did. -/
def boundFairUptoRow : OpenClaim := { program := "ytdpcodnooonmlaa", sum := "62b05c759692db9859fe23e490ab7e66d17fd1144732361b1644f4c10f30c46c", func := "latchkey/ltklaw21.BoundFair", spec := "boundFair", apart := false, narrowed := true }
def BoundFairUptoSaid : Prop := boundFairUptoRow.holds Try.pinned (OpenSpec.upto boundFairSpec)

/-- 'ltklaw21.BoundPolicies', WHERE WHAT IT READS IS OF BULK AT MOST 1048576: true; the input reads as it did. -/
def boundPoliciesUptoRow : OpenClaim := { program := "ytdpcodnooonmlaa", sum := "62b05c759692db9859fe23e490ab7e66d17fd1144732361b1644f4c10f30c46c", func := "latchkey/ltklaw21.BoundPolicies", spec := "boundPolicies", apart := false, narrowed := true }
def BoundPoliciesUptoSaid : Prop := boundPoliciesUptoRow.holds Try.pinned (OpenSpec.upto boundPoliciesSpec)

/-- 'ltklaw23.TaleParts', WHERE WHAT IT READS IS OF BULK AT MOST 1048576: true; the input reads as it did. -/
def talePartsUptoRow : OpenClaim := { program := "ytdpcodnooonmlaa", sum := "62b05c759692db9859fe23e490ab7e66d17fd1144732361b1644f4c10f30c46c", func := "latchkey/ltklaw23.TaleParts", spec := "taleParts", apart := false, narrowed := true }
def TalePartsUptoSaid : Prop := talePartsUptoRow.holds Try.pinned (OpenSpec.upto talePartsSpec)

/-- 'ltklaw21.BoundMore', WHERE WHAT IT READS IS OF BULK AT MOST 1048576: true; the input reads as it did. -/
def boundMoreUptoRow : OpenClaim := { program := "ytdpcodnooonmlaa", sum := "62b05c759692db9859fe23e490ab7e66d17fd1144732361b1644f4c10f30c46c", func := "latchkey/ltklaw21.BoundMore", spec := "boundMore", unfollowed := true, recurses := true, apart := false, narrowed := true }
def BoundMoreUptoSaid : Prop := boundMoreUptoRow.holds Try.pinned (OpenSpec.upto boundMoreSpec)

/-- 'ltklaw23.TaleTells', WHERE WHAT IT READS IS OF BULK AT MOST 1048576: true; the input reads as it did. -/
def taleTellsUptoRow : OpenClaim := { program := "ytdpcodnooonmlaa", sum := "62b05c759692db9859fe23e490ab7e66d17fd1144732361b1644f4c10f30c46c", func := "latchkey/ltklaw23.TaleTells", spec := "taleTells", apart := false, narrowed := true }
def TaleTellsUptoSaid : Prop := taleTellsUptoRow.holds Try.pinned (OpenSpec.upto taleTellsSpec)

/-- 'ltklaw23.TaleChecks', WHERE WHAT IT READS IS OF BULK AT MOST 1048576: true; the input reads as it did. -/
def taleChecksUptoRow : OpenClaim := { program := "ytdpcodnooonmlaa", sum := "62b05c759692db9859fe23e490ab7e66d17fd1144732361b1644f4c10f30c46c", func := "latchkey/ltklaw23.TaleChecks", spec := "taleChecks", unfollowed := true, recurses := true, apart := false, narrowed := true }
def TaleChecksUptoSaid : Prop := taleChecksUptoRow.holds Try.pinned (OpenSpec.upto taleChecksSpec)

end Rows
end Go.Proofs.Ytdpcodnooonmlaa
