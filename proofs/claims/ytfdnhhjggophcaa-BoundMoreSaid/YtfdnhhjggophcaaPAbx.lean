-- Written by a program of this session (myprint.py) over the kit's print; some functions' contracts are given by hand.
import Derived.Test.YtfdnhhjggophcaaPAbx0
import Derived.Test.YtfdnhhjggophcaaPAbx1
import Derived.Test.YtfdnhhjggophcaaPAbx2
import Derived.Test.YtfdnhhjggophcaaPAbx3
import Derived.Test.YtfdnhhjggophcaaPAbx4
import Derived.Test.YtfdnhhjggophcaaPAbx5
import Derived.Test.YtfdnhhjggophcaaPAbx6
import Derived.Test.YtfdnhhjggophcaaPAbx7
import Derived.Test.YtfdnhhjggophcaaPAbx8
import Derived.Test.YtfdnhhjggophcaaPAbx9
import Derived.Test.YtfdnhhjggophcaaPAbx10
import Derived.Test.YtfdnhhjggophcaaPAbx11
import Derived.Test.YtfdnhhjggophcaaPAbx12
namespace Go.Proofs.Ytfdnhhjggophcaa.PAb
open Go.RowKit Go.Proofs.YtfdnhhjggophcaaW.PrintWords Go.Proofs.YtfdnhhjggophcaaW.PrintLast Go.Proofs.YtfdnhhjggophcaaW.PrintMore
attribute [local go_sem] max2_int min2_int max_two min_two max_three min_three max_four min_four   -- for this text's walks alone
set_option linter.unusedVariables false
set_option linter.unusedSimpArgs false

end Go.Proofs.Ytfdnhhjggophcaa.PAb
