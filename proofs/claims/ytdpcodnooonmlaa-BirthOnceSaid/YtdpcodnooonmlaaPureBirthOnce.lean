/- The statement BirthOnce: tickets rise by one, none is given twice, and when they are out they stay out; for all arguments. The walk is by hand (in the texts that are imported). -/
import Derived.Test.YtdpcodnooonmlaaPBix1
namespace Go.Proofs.Ytdpcodnooonmlaa.Pure
open Go.RowKit Go.Proofs.Ytdpcodnooonmlaa.PBi Go.Proofs.YtdpcodnooonmlaaW.PrintWords Go.Proofs.YtdpcodnooonmlaaW.PrintLast

theorem BirthOnce : ltklaw13_BirthOnce.Pure := trivial

end Go.Proofs.Ytdpcodnooonmlaa.Pure
