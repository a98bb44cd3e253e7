/-
  No cell of these rows narrows 'for every input' (looked for: loops, veiled, ifaces, maps, wideKeys, modest, calm, conditions, laid).
  DERIVED. THE GIVEN ROWS OF THIS SEAT. 4 by the template 'for every input the law returns true; each argument reads behind the call as it read before'; 0 by the template 'total and deterministic' (their statements: YtfdnhhjggophcaaTotals.lean).
  GIVEN WITH THE SEED: the statements are not yours to turn. If you find one false, say at which input.
  Laid BY PROGRAM, IN A SANDBOX (cutbox-rows.mjs): the forced cells as the released guide's own fill.sh prints them over the translation 16f3ecafbb834951… (all of the seat's roots in one cut). By AI agents, Wed Nov 11 2026. No macro, syntax, notation, axiom, sorry.
-/
import Derived.Test.YtfdnhhjggophcaaChecked
import GoSem.Claim
import GoSem.ClaimJoined
import GoSem.ClaimMapViews
import Derived.JoinedTies
import Derived.KernelRfl
namespace Go.Proofs.Ytfdnhhjggophcaa
/- THE CELL 'sum', in the pinned program and in every row, IS THE sha256 OF THE DUMP (.gsa) THAT YtfdnhhjggophcaaProg.lean LOADS. Nothing in Lean hashes anything: it is a label: what it is worth is what the hold of that sum in a sandbox is worth. -/
noncomputable def Try.pinned : Pinned := { name := "ytfdnhhjggophcaa", sum := "16f3ecafbb8349515b23a74fbb3d2f821a317a78791a9cb7429509ed09f82413", checked := Try.checked }
namespace Rows
def none {H : Type} : Left H := { results := [], args := [] }

/-- 'ltklaw21.BoundPolicies': WHATEVER THE INPUT: true; the input reads as it did. -/
def boundPoliciesSpec : ChangeSpec := { name := "boundPolicies", fn := fun _ => fun
  | [d1, d2] => { results := [.lit (.bool true)], args := [d1, d2] }
  | _ => none }
def boundPoliciesRow : OpenClaim := { program := "ytfdnhhjggophcaa", sum := "16f3ecafbb8349515b23a74fbb3d2f821a317a78791a9cb7429509ed09f82413", func := "latchkey/ltklaw21.BoundPolicies", spec := "boundPolicies", apart := false }
def BoundPoliciesSaid : Prop := boundPoliciesRow.holds Try.pinned (OpenSpec.ofChange boundPoliciesSpec)

/-- ITS FALSE NEIGHBOUR: 'it returns false'. Refute it at one input. -/
def boundPoliciesWrong : ChangeSpec := { name := "boundPolicies", fn := fun _ => fun
  | [d1, d2] => { results := [.lit (.bool false)], args := [d1, d2] }
  | _ => none }
def BoundPoliciesWrongFalsely : Prop := boundPoliciesRow.holds Try.pinned (OpenSpec.ofChange boundPoliciesWrong)

/-- 'ltklaw23.TaleTells': WHATEVER THE INPUT: true; the input reads as it did. -/
def taleTellsSpec : ChangeSpec := { name := "taleTells", fn := fun _ => fun
  | [d1, d2, d3, d4, d5] => { results := [.lit (.bool true)], args := [d1, d2, d3, d4, d5] }
  | _ => none }
def taleTellsRow : OpenClaim := { program := "ytfdnhhjggophcaa", sum := "16f3ecafbb8349515b23a74fbb3d2f821a317a78791a9cb7429509ed09f82413", func := "latchkey/ltklaw23.TaleTells", spec := "taleTells", apart := false }
def TaleTellsSaid : Prop := taleTellsRow.holds Try.pinned (OpenSpec.ofChange taleTellsSpec)

/-- ITS FALSE NEIGHBOUR: 'it returns false'. Refute it at one input. -/
def taleTellsWrong : ChangeSpec := { name := "taleTells", fn := fun _ => fun
  | [d1, d2, d3, d4, d5] => { results := [.lit (.bool false)], args := [d1, d2, d3, d4, d5] }
  | _ => none }
def TaleTellsWrongFalsely : Prop := taleTellsRow.holds Try.pinned (OpenSpec.ofChange taleTellsWrong)

/-- 'ltklaw21.BoundMore': WHATEVER THE INPUT: true; the input reads as it did. -/
def boundMoreSpec : ChangeSpec := { name := "boundMore", fn := fun _ => fun
  | [d1, d2, d3, d4, d5, d6] => { results := [.lit (.bool true)], args := [d1, d2, d3, d4, d5, d6] }
  | _ => none }
def boundMoreRow : OpenClaim := { program := "ytfdnhhjggophcaa", sum := "16f3ecafbb8349515b23a74fbb3d2f821a317a78791a9cb7429509ed09f82413", func := "latchkey/ltklaw21.BoundMore", spec := "boundMore", unfollowed := true, recurses := true, apart := false }
def BoundMoreSaid : Prop := boundMoreRow.holds Try.pinned (OpenSpec.ofChange boundMoreSpec)

/-- ITS FALSE NEIGHBOUR: 'it returns false'. Refute it at one input. -/
def boundMoreWrong : ChangeSpec := { name := "boundMore", fn := fun _ => fun
  | [d1, d2, d3, d4, d5, d6] => { results := [.lit (.bool false)], args := [d1, d2, d3, d4, d5, d6] }
  | _ => none }
def BoundMoreWrongFalsely : Prop := boundMoreRow.holds Try.pinned (OpenSpec.ofChange boundMoreWrong)

/-- 'ltklaw23.TaleChecks': WHATEVER THE INPUT: true; the input reads as it did. -/
def taleChecksSpec : ChangeSpec := { name := "taleChecks", fn := fun _ => fun
  | [d1, d2, d3, d4] => { results := [.lit (.bool true)], args := [d1, d2, d3, d4] }
  | _ => none }
def taleChecksRow : OpenClaim := { program := "ytfdnhhjggophcaa", sum := "16f3ecafbb8349515b23a74fbb3d2f821a317a78791a9cb7429509ed09f82413", func := "latchkey/ltklaw23.TaleChecks", spec := "taleChecks", unfollowed := true, recurses := true, apart := false }
def TaleChecksSaid : Prop := taleChecksRow.holds Try.pinned (OpenSpec.ofChange taleChecksSpec)

/-- ITS FALSE NEIGHBOUR: 'it returns false'. Refute it at one input. -/
def taleChecksWrong : ChangeSpec := { name := "taleChecks", fn := fun _ => fun
  | [d1, d2, d3, d4] => { results := [.lit (.bool false)], args := [d1, d2, d3, d4] }
  | _ => none }
def TaleChecksWrongFalsely : Prop := taleChecksRow.holds Try.pinned (OpenSpec.ofChange taleChecksWrong)

/- THE SECOND FORM. 'bulk': how many values and letters a reading holds, each counted each time it is reached (what is shared counts as often as it is met; a slice's spare places count too). A statement '..UptoSaid' is the law's where the arguments, and the package variables that the reading takes, are together of bulk at most 1048576: NARROWER than '..Said'. Prove '..Said' where nothing that the law and all that it calls make is longer than what came in: it says more and counts as full. Else prove '..UptoSaid'. A law counts once. -/
mutual
def uptoBulk {H : Type} : DataW H → Nat
  | .lit (.string bytes) => bytes.length + 1
  | .lit _ => 1
  | .nil => 1
  | .ptr d => uptoBulk d + 1
  | .slice elems spare => uptoBulkAll elems + uptoBulkAll spare + 1
  | .agg parts => uptoBulkAll parts + 1
  | .iface _ d => uptoBulk d + 1
  | .map entries => uptoBulkEntries entries + 1
  | .held _ => 1
def uptoBulkAll {H : Type} : List (DataW H) → Nat
  | [] => 0
  | d :: r => uptoBulk d + uptoBulkAll r
def uptoBulkEntries {H : Type} : List (Lit × DataW H) → Nat
  | [] => 0
  | x :: r => uptoBulkEntry x + uptoBulkEntries r
def uptoBulkEntry {H : Type} : Lit × DataW H → Nat
  | (.string bytes, d) => bytes.length + uptoBulk d + 1
  | (_, d) => uptoBulk d + 1
 end
def uptoSmall : (H : Type) → List (DataW H) → Bool := fun _ ds => decide (uptoBulkAll ds ≤ 1048576)
def OpenSpec.upto (s : _root_.Go.ChangeSpec) : _root_.Go.OpenSpec := { _root_.Go.OpenSpec.ofChange s with cond := some uptoSmall }

/-- 'ltklaw21.BoundPolicies', WHERE WHAT IT READS IS OF BULK AT MOST 1048576: true; the input reads as it did. -/
def boundPoliciesUptoRow : OpenClaim := { program := "ytfdnhhjggophcaa", sum := "16f3ecafbb8349515b23a74fbb3d2f821a317a78791a9cb7429509ed09f82413", func := "latchkey/ltklaw21.BoundPolicies", spec := "boundPolicies", apart := false, narrowed := true }
def BoundPoliciesUptoSaid : Prop := boundPoliciesUptoRow.holds Try.pinned (OpenSpec.upto boundPoliciesSpec)

/-- 'ltklaw23.TaleTells', WHERE WHAT IT READS IS OF BULK AT MOST 1048576: true; the input reads as it did. -/
def taleTellsUptoRow : OpenClaim := { program := "ytfdnhhjggophcaa", sum := "16f3ecafbb8349515b23a74fbb3d2f821a317a78791a9cb7429509ed09f82413", func := "latchkey/ltklaw23.TaleTells", spec := "taleTells", apart := false, narrowed := true }
def TaleTellsUptoSaid : Prop := taleTellsUptoRow.holds Try.pinned (OpenSpec.upto taleTellsSpec)

/-- 'ltklaw21.BoundMore', WHERE WHAT IT READS IS OF BULK AT MOST 1048576: true; the input reads as it did. -/
def boundMoreUptoRow : OpenClaim := { program := "ytfdnhhjggophcaa", sum := "16f3ecafbb8349515b23a74fbb3d2f821a317a78791a9cb7429509ed09f82413", func := "latchkey/ltklaw21.BoundMore", spec := "boundMore", unfollowed := true, recurses := true, apart := false, narrowed := true }
def BoundMoreUptoSaid : Prop := boundMoreUptoRow.holds Try.pinned (OpenSpec.upto boundMoreSpec)

/-- 'ltklaw23.TaleChecks', WHERE WHAT IT READS IS OF BULK AT MOST 1048576: true; the input reads as it did. -/
def taleChecksUptoRow : OpenClaim := { program := "ytfdnhhjggophcaa", sum := "16f3ecafbb8349515b23a74fbb3d2f821a317a78791a9cb7429509ed09f82413", func := "latchkey/ltklaw23.TaleChecks", spec := "taleChecks", unfollowed := true, recurses := true, apart := false, narrowed := true }
def TaleChecksUptoSaid : Prop := taleChecksUptoRow.holds Try.pinned (OpenSpec.upto taleChecksSpec)

end Rows
end Go.Proofs.Ytfdnhhjggophcaa
