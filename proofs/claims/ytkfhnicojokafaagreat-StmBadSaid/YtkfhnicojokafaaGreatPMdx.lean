-- Written by a program of this session (myprint.py) over the kit's print; some functions' contracts are given by hand.
import Derived.Test.YtkfhnicojokafaaGreatPMdx0
import Derived.Test.YtkfhnicojokafaaGreatPMdx1
import Derived.Test.YtkfhnicojokafaaGreatPMdx2
import Derived.Test.YtkfhnicojokafaaGreatPMdx3
import Derived.Test.YtkfhnicojokafaaGreatPMdx4
import Derived.Test.YtkfhnicojokafaaGreatPMdx5
namespace Go.Proofs.YtkfhnicojokafaaGreat.PMd
open Go.RowKit Go.Proofs.YtkfhnicojokafaaGreatW.PrintWords Go.Proofs.YtkfhnicojokafaaGreatW.PrintLast Go.Proofs.YtkfhnicojokafaaGreatW.PrintMore
attribute [local go_sem] max2_int min2_int max_two min_two max_three min_three max_four min_four   -- for this text's walks alone
set_option linter.unusedVariables false
set_option linter.unusedSimpArgs false

end Go.Proofs.YtkfhnicojokafaaGreat.PMd
