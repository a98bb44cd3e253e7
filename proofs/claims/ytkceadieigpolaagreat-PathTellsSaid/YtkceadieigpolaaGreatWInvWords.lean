-- Out of the words that the kit's print laid for this seat: what no text of this claim names is struck (by prune.py, a program of this session).
import Derived.Test.YtkceadieigpolaaGreatWInv
import Derived.Test.YtkceadieigpolaaGreatWFootNe
namespace Go.Proofs.YtkceadieigpolaaGreatW.PrintWords
open Go.RowKit
end Go.Proofs.YtkceadieigpolaaGreatW.PrintWords
namespace Go.Proofs.YtkceadieigpolaaGreatW.PrintLast
section
variable {ops : Array Oper} {a : Act} {o og : Oper} {g : Nat} {t : Tmp} {u : Bool}
end
end Go.Proofs.YtkceadieigpolaaGreatW.PrintLast
