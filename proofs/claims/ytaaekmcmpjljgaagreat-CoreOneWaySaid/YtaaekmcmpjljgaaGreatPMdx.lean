import Derived.Test.YtaaekmcmpjljgaaGreatPMdx0
import Derived.Test.YtaaekmcmpjljgaaGreatPMdx1
import Derived.Test.YtaaekmcmpjljgaaGreatPMdx2
import Derived.Test.YtaaekmcmpjljgaaGreatPMdx3
namespace Go.Proofs.YtaaekmcmpjljgaaGreat.PMd
open Go.RowKit Go.Proofs.YtaaekmcmpjljgaaGreatW.PrintWords Go.Proofs.YtaaekmcmpjljgaaGreatW.PrintLast Go.Proofs.YtaaekmcmpjljgaaGreatW.PrintMore
attribute [local go_sem] max2_int min2_int max_two min_two max_three min_three max_four min_four   -- for this text's walks alone
set_option linter.unusedVariables false
set_option linter.unusedSimpArgs false
end Go.Proofs.YtaaekmcmpjljgaaGreat.PMd
