/- The statement BirthApart: two desks know nothing of one another; for all arguments. The walk is by hand (in the texts that are imported). -/
import Derived.Test.YtdpcodnooonmlaaPBix2
namespace Go.Proofs.Ytdpcodnooonmlaa.Pure
open Go.RowKit Go.Proofs.Ytdpcodnooonmlaa.PBi Go.Proofs.YtdpcodnooonmlaaW.PrintWords Go.Proofs.YtdpcodnooonmlaaW.PrintLast

theorem BirthApart : ltklaw13_BirthApart.Pure := trivial

end Go.Proofs.Ytdpcodnooonmlaa.Pure
