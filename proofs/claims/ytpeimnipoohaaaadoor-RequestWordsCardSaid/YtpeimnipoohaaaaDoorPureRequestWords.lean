/- Lines made of quotes, blanks, backslashes and words are cut as the document says. No condition. -/
import Derived.Test.YtpeimnipoohaaaaDoorBracesRq
namespace Go.Proofs.YtpeimnipoohaaaaDoor.Pure
open Go.Proofs.YtpeimnipoohaaaaDoor.P06 Go.Proofs.YtpeimnipoohaaaaDoor.QRq Go.Proofs.YtpeimnipoohaaaaDoor.Evl
theorem RequestWords : frisketlaw06_RequestWords.Pure := fun l _ _ hw => (RequestWords_ev l hw).out
end Go.Proofs.YtpeimnipoohaaaaDoor.Pure
