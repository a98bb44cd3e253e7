-- Written by a program of this session (myprint.py) over the kit's print; some functions' contracts are given by hand.
import Derived.Test.YtkceadieigpolaaGreatPMdx0
namespace Go.Proofs.YtkceadieigpolaaGreat.PMd
open Go.RowKit Go.Proofs.YtkceadieigpolaaGreatW.PrintWords Go.Proofs.YtkceadieigpolaaGreatW.PrintLast Go.Proofs.YtkceadieigpolaaGreatW.PrintMore
attribute [local go_sem] max2_int min2_int max_two min_two max_three min_three max_four min_four   -- for this text's walks alone
set_option linter.unusedVariables false
set_option linter.unusedSimpArgs false

/-! ### ltkref1_Check: function 34 -/
/-! ### ltkref1_objects: function 35 -/
/-! ### ltkref1_stripes: function 36 -/
end Go.Proofs.YtkceadieigpolaaGreat.PMd
