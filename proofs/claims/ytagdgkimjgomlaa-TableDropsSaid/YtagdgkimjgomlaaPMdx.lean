-- Written by a program of this session (myprint.py) over the kit's print; some functions' contracts are given by hand.
import Derived.Test.YtagdgkimjgomlaaPMdx0
import Derived.Test.YtagdgkimjgomlaaPMdx1
import Derived.Test.YtagdgkimjgomlaaPMdx2
import Derived.Test.YtagdgkimjgomlaaPMdx3
import Derived.Test.YtagdgkimjgomlaaPMdx4
import Derived.Test.YtagdgkimjgomlaaPMdx5
import Derived.Test.YtagdgkimjgomlaaPMdx6
namespace Go.Proofs.Ytagdgkimjgomlaa.PMd
open Go.RowKit Go.Proofs.YtagdgkimjgomlaaW.PrintWords Go.Proofs.YtagdgkimjgomlaaW.PrintLast Go.Proofs.YtagdgkimjgomlaaW.PrintMore
attribute [local go_sem] max2_int min2_int max_two min_two max_three min_three max_four min_four   -- for this text's walks alone
set_option linter.unusedVariables false
set_option linter.unusedSimpArgs false

end Go.Proofs.Ytagdgkimjgomlaa.PMd
