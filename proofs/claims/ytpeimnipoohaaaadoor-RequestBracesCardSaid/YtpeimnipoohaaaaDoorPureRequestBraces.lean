/- Braces are counted as the document says, from any depth. No condition. -/
import Derived.Test.YtpeimnipoohaaaaDoorBracesRq
namespace Go.Proofs.YtpeimnipoohaaaaDoor.Pure
open Go.Proofs.YtpeimnipoohaaaaDoor.P06 Go.Proofs.YtpeimnipoohaaaaDoor.QRq Go.Proofs.YtpeimnipoohaaaaDoor.Evl
theorem RequestBraces : frisketlaw06_RequestBraces.Pure := fun a l d _ _ _ hw _ => (RequestBraces_ev a l d hw).out
end Go.Proofs.YtpeimnipoohaaaaDoor.Pure
