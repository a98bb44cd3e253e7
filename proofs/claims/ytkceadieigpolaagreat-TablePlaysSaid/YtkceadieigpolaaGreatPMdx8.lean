-- Written by a program of this session (myprint.py) over the kit's print; some functions' contracts are given by hand.
import Derived.Test.YtkceadieigpolaaGreatPMdx0
import Derived.Test.YtkceadieigpolaaGreatPMdx7
namespace Go.Proofs.YtkceadieigpolaaGreat.PMd
open Go.RowKit Go.Proofs.YtkceadieigpolaaGreatW.PrintWords Go.Proofs.YtkceadieigpolaaGreatW.PrintLast Go.Proofs.YtkceadieigpolaaGreatW.PrintMore
attribute [local go_sem] max2_int min2_int max_two min_two max_three min_three max_four min_four   -- for this text's walks alone
set_option linter.unusedVariables false
set_option linter.unusedSimpArgs false

/-! ### ltkref1_Nodes: function 6 -/
/-! ### ltkref1_Level: function 59 -/
/-! ### ltkref1_Parent: function 60 -/
end Go.Proofs.YtkceadieigpolaaGreat.PMd
