-- Out of the words that the kit's print laid for this seat: what no text of this claim names is struck (by prune.py, a program of this session).
import Derived.Test.YtaaekmcmpjljgaaGreatWN
/-! ### 52. A row that stays read whatever happens to a block (a set of blocks) doesn't lie there -/
namespace Go.Proofs.YtaaekmcmpjljgaaGreatW.PrintWords
open Go.RowKit
namespace Kd
section
variable {α : Type} {d : Kd α} {W : World} {g n : Nat} {S ok : Nat → Prop} {A : Option Addr} {ad : Addr} {xs : List α}
end
end Kd
end Go.Proofs.YtaaekmcmpjljgaaGreatW.PrintWords
