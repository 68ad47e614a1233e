import Derived.Test.YtdjceippnokimaaGreatDoorWTab
/-! ### 57. A region of open order by ONE relation over what is listed so far: each operation is shown once, whatever came up before it -/
namespace Go.Proofs.YtdjceippnokimaaGreatDoorW.PrintLast
end Go.Proofs.YtdjceippnokimaaGreatDoorW.PrintLast
