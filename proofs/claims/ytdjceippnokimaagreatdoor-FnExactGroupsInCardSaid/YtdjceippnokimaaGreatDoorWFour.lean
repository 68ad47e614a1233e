import Derived.Test.YtdjceippnokimaaGreatDoorWTab
/-! ### 56. Four, five, six operations that may come up next, in any order -/
namespace Go.Proofs.YtdjceippnokimaaGreatDoorW.PrintLast
end Go.Proofs.YtdjceippnokimaaGreatDoorW.PrintLast
