import Derived.Test.YtdjceippnokimaaGreatDoorWWords
import Derived.Laws.StructEq
/-! ### 53. '==' of structs as_ one Bool -/
namespace Go.Proofs.YtdjceippnokimaaGreatDoorW.PrintWords
open Go.RowKit
end Go.Proofs.YtdjceippnokimaaGreatDoorW.PrintWords
