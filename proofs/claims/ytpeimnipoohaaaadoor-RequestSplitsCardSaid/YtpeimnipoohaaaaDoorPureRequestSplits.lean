/- Any line is cut into its parts as the document says. No condition. -/
import Derived.Test.YtpeimnipoohaaaaDoorSplitRq
namespace Go.Proofs.YtpeimnipoohaaaaDoor.Pure
open Go.Proofs.YtpeimnipoohaaaaDoor.P06 Go.Proofs.YtpeimnipoohaaaaDoor.QRq Go.Proofs.YtpeimnipoohaaaaDoor.Evl
theorem RequestSplits : frisketlaw06_RequestSplits.Pure := fun a c q _ _ _ => (RequestSplits_ev a c q).out
end Go.Proofs.YtpeimnipoohaaaaDoor.Pure
