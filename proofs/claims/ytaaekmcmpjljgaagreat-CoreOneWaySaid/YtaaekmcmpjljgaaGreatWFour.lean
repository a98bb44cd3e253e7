-- Out of the words that the kit's print laid for this seat: what no text of this claim names is struck (by prune.py, a program of this session).
import Derived.Test.YtaaekmcmpjljgaaGreatWTab
/-! ### 56. Four, five, six operations that may come up next, in any order -/
namespace Go.Proofs.YtaaekmcmpjljgaaGreatW.PrintLast
section
variable {P : Program} {ops : Array Oper} {Q : Exit → Act → World → Prop} {md : Region.Mode} {S : World → Prop} {ds : List Nat} {T : Bool × List (List Nat × List Nat)}
end
end Go.Proofs.YtaaekmcmpjljgaaGreatW.PrintLast
