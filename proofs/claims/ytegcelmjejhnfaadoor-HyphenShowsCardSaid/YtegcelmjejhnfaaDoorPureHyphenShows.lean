import Derived.Test.YtegcelmjejhnfaaDoorRead9Hy
namespace Go.Proofs.YtegcelmjejhnfaaDoor.Pure
open Go.RowKit Go.Proofs.YtegcelmjejhnfaaDoor.QHy Go.Proofs.YtegcelmjejhnfaaDoorW.PrintWords Go.Proofs.YtegcelmjejhnfaaDoorW.PrintLast Go.Proofs.YtegcelmjejhnfaaDoor.Evl
theorem HyphenShows : frisketlaw09_HyphenShows.Pure := by
  intro a0 l1 _ _ _ _
  exact Evl.out (Read9.shows_ev a0 l1)
end Go.Proofs.YtegcelmjejhnfaaDoor.Pure
