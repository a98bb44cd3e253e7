-- Out of the words that the kit's print laid for this seat: what no text of this claim names is struck (by prune.py, a program of this session).
import Derived.Test.YtaaekmcmpjljgaaGreatWLast
import Derived.Test.YtaaekmcmpjljgaaGreatWWords
/-! ### 50. A region's order in a table, made once a region: each step asks the table (numbers alone), not the operations -/
namespace Go.Proofs.YtaaekmcmpjljgaaGreatW.PrintLast
open Go.Proofs.YtaaekmcmpjljgaaGreatW.PrintWords (Aside0)
section
variable {md : Region.Mode} {ops : Array Oper} {T : Bool × List (List Nat × List Nat)} {l l' li lj lk : Array Bool} {ds : List Nat} {i j k : Nat}
end
end Go.Proofs.YtaaekmcmpjljgaaGreatW.PrintLast
