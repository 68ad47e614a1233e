import Derived.Test.YtdjceippnokimaaGreatDoorWWords
/-! ### 41. Arrays '[n]T' as_ values: a kind (a field, an element of a row), an element read, an element set -/
namespace Go.Proofs.YtdjceippnokimaaGreatDoorW.PrintWords
open Go.RowKit
namespace Kd
end Kd
end Go.Proofs.YtdjceippnokimaaGreatDoorW.PrintWords
