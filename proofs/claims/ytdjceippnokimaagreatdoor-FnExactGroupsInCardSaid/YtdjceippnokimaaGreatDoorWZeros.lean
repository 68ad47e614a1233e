import Derived.Test.YtdjceippnokimaaGreatDoorWApart
import Derived.Test.YtdjceippnokimaaGreatDoorWArr
/-! ### 42. append(v, make([]T, n)...): the operation comes as_ append with the number in the second place -/
namespace Go.Proofs.YtdjceippnokimaaGreatDoorW.PrintWords
open Go.RowKit
namespace Kd
end Kd
end Go.Proofs.YtdjceippnokimaaGreatDoorW.PrintWords
