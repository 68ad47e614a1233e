-- Cut by a program of this session to what is used.
import Derived.Test.YteffcglgdfhkmaaDoorWFootNe
/-! ### 54. Behind orders that were drawn quietly: the same facts at the world's new name; a flat row's foot -/
namespace Go.Proofs.YteffcglgdfhkmaaDoorW.PrintWords
open Go.RowKit
namespace Kd
end Kd
end Go.Proofs.YteffcglgdfhkmaaDoorW.PrintWords
