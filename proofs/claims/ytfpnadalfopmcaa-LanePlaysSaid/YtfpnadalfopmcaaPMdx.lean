-- Written by a program of this session (myprint.py) over the kit's print; some functions' contracts are given by hand.
import Derived.Test.YtfpnadalfopmcaaPMdx0
import Derived.Test.YtfpnadalfopmcaaPMdx1
import Derived.Test.YtfpnadalfopmcaaPMdx2
import Derived.Test.YtfpnadalfopmcaaPMdx3
namespace Go.Proofs.Ytfpnadalfopmcaa.PMd
open Go.RowKit Go.Proofs.YtfpnadalfopmcaaW.PrintWords Go.Proofs.YtfpnadalfopmcaaW.PrintLast Go.Proofs.YtfpnadalfopmcaaW.PrintMore
attribute [local go_sem] max2_int min2_int max_two min_two max_three min_three max_four min_four   -- for this text's walks alone
set_option linter.unusedVariables false
set_option linter.unusedSimpArgs false

end Go.Proofs.Ytfpnadalfopmcaa.PMd
