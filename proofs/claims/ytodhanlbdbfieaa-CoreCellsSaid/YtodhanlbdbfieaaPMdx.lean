-- Written by a program of this session (myprint.py) over the kit's print; some functions' contracts are given by hand.
import Derived.Test.YtodhanlbdbfieaaPMdx0
import Derived.Test.YtodhanlbdbfieaaPMdx1
import Derived.Test.YtodhanlbdbfieaaPMdx2
import Derived.Test.YtodhanlbdbfieaaPMdx3
import Derived.Test.YtodhanlbdbfieaaPMdx4
namespace Go.Proofs.Ytodhanlbdbfieaa.PMd
open Go.RowKit Go.Proofs.YtodhanlbdbfieaaW.PrintWords Go.Proofs.YtodhanlbdbfieaaW.PrintLast Go.Proofs.YtodhanlbdbfieaaW.PrintMore
attribute [local go_sem] max2_int min2_int max_two min_two max_three min_three max_four min_four   -- for this text's walks alone
set_option linter.unusedVariables false
set_option linter.unusedSimpArgs false

end Go.Proofs.Ytodhanlbdbfieaa.PMd
