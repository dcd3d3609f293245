/- Any text is read as a condition and what stands behind it, as the document says. No condition. -/
import Derived.Test.YtpeimnipoohaaaaDoorCondRc
namespace Go.Proofs.YtpeimnipoohaaaaDoor.Pure
open Go.Proofs.YtpeimnipoohaaaaDoor.P06 Go.Proofs.YtpeimnipoohaaaaDoor.QRc Go.Proofs.YtpeimnipoohaaaaDoor.Evl
theorem RequestConditions : frisketlaw06_RequestConditions.Pure := fun a l _ _ _ hw => (RequestConditions_ev a l hw).out
end Go.Proofs.YtpeimnipoohaaaaDoor.Pure
