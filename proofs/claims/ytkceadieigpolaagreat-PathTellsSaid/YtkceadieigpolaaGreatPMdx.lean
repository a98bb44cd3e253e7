import Derived.Test.YtkceadieigpolaaGreatPMdx0
import Derived.Test.YtkceadieigpolaaGreatPMdx1
import Derived.Test.YtkceadieigpolaaGreatPMdx2
import Derived.Test.YtkceadieigpolaaGreatPMdx3
import Derived.Test.YtkceadieigpolaaGreatPMdx4
import Derived.Test.YtkceadieigpolaaGreatPMdx5
import Derived.Test.YtkceadieigpolaaGreatPMdx6
import Derived.Test.YtkceadieigpolaaGreatPMdx7
import Derived.Test.YtkceadieigpolaaGreatPMdx8
import Derived.Test.YtkceadieigpolaaGreatPMdx9
namespace Go.Proofs.YtkceadieigpolaaGreat.PMd
open Go.RowKit Go.Proofs.YtkceadieigpolaaGreatW.PrintWords Go.Proofs.YtkceadieigpolaaGreatW.PrintLast Go.Proofs.YtkceadieigpolaaGreatW.PrintMore
attribute [local go_sem] max2_int min2_int max_two min_two max_three min_three max_four min_four   -- for this text's walks alone
set_option linter.unusedVariables false
set_option linter.unusedSimpArgs false
end Go.Proofs.YtkceadieigpolaaGreat.PMd
