/- One more ! in front turns a condition, and two do not. No condition. -/
import Derived.Test.YtpeimnipoohaaaaDoorCondRc
namespace Go.Proofs.YtpeimnipoohaaaaDoor.Pure
open Go.Proofs.YtpeimnipoohaaaaDoor.P06 Go.Proofs.YtpeimnipoohaaaaDoor.QRc Go.Proofs.YtpeimnipoohaaaaDoor.Evl
theorem RequestNots : frisketlaw06_RequestNots.Pure := fun a _ => (RequestNots_ev a).out
end Go.Proofs.YtpeimnipoohaaaaDoor.Pure
