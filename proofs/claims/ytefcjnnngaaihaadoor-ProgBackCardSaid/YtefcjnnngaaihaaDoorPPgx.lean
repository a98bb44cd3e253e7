-- Written by a program of this session (myprint.py) over the kit's print; some functions' contracts are given by hand.
import Derived.Test.YtefcjnnngaaihaaDoorPPgx0
import Derived.Test.YtefcjnnngaaihaaDoorPPgx1
import Derived.Test.YtefcjnnngaaihaaDoorPPgx2
import Derived.Test.YtefcjnnngaaihaaDoorPPgx3
import Derived.Test.YtefcjnnngaaihaaDoorPPgx4
namespace Go.Proofs.YtefcjnnngaaihaaDoor.PPg
open Go.RowKit Go.Proofs.YtefcjnnngaaihaaDoorW.PrintWords Go.Proofs.YtefcjnnngaaihaaDoorW.PrintLast Go.Proofs.YtefcjnnngaaihaaDoorW.PrintMore
attribute [local go_sem] max2_int min2_int max_two min_two max_three min_three max_four min_four   -- for this text's walks alone
set_option linter.unusedVariables false
set_option linter.unusedSimpArgs false

end Go.Proofs.YtefcjnnngaaihaaDoor.PPg
