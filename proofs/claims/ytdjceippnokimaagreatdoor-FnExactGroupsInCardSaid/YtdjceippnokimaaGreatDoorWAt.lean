import Derived.Test.YtdjceippnokimaaGreatDoorWFootNe
/-! ### 54. Behind orders that were drawn quietly: the same facts at the world's new name; a flat row's foot -/
namespace Go.Proofs.YtdjceippnokimaaGreatDoorW.PrintWords
open Go.RowKit
namespace Kd
end Kd
end Go.Proofs.YtdjceippnokimaaGreatDoorW.PrintWords
