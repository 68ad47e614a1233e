import Derived.Test.YtdjceippnokimaaGreatDoorWShare
import Derived.Test.YtdjceippnokimaaGreatDoorWZeros
/-! ### 47. N: a row of the call's own whose elements share (what they lead to is only read) -/
namespace Go.Proofs.YtdjceippnokimaaGreatDoorW.PrintWords
open Go.RowKit
namespace Kd
end Kd
end Go.Proofs.YtdjceippnokimaaGreatDoorW.PrintWords
