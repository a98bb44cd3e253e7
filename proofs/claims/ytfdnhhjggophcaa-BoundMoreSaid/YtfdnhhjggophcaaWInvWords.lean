-- Out of the words that the kit's print laid for this seat: what no text of this claim names is struck (by prune.py, a program of this session).
import Derived.Test.YtfdnhhjggophcaaWInv
import Derived.Test.YtfdnhhjggophcaaWFootNe
namespace Go.Proofs.YtfdnhhjggophcaaW.PrintWords
open Go.RowKit
end Go.Proofs.YtfdnhhjggophcaaW.PrintWords
namespace Go.Proofs.YtfdnhhjggophcaaW.PrintLast
section
variable {ops : Array Oper} {a : Act} {o og : Oper} {g : Nat} {t : Tmp} {u : Bool}
end
end Go.Proofs.YtfdnhhjggophcaaW.PrintLast
