-- Out of the words that the kit's print laid for this seat: what no text of this claim names is struck (by prune.py, a program of this session).
import Derived.Test.YtaaekmcmpjljgaaGreatWInv
import Derived.Test.YtaaekmcmpjljgaaGreatWFootNe
namespace Go.Proofs.YtaaekmcmpjljgaaGreatW.PrintWords
open Go.RowKit
end Go.Proofs.YtaaekmcmpjljgaaGreatW.PrintWords
namespace Go.Proofs.YtaaekmcmpjljgaaGreatW.PrintLast
section
variable {ops : Array Oper} {a : Act} {o og : Oper} {g : Nat} {t : Tmp} {u : Bool}
end
end Go.Proofs.YtaaekmcmpjljgaaGreatW.PrintLast
