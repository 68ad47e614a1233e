-- Cut by a program of this session to what is used.
import Derived.Test.YteffcglgdfhkmaaDoorWWords
/-! ### 41. Arrays '[n]T' as_ values: a kind (a field, an element of a row), an element read, an element set -/
namespace Go.Proofs.YteffcglgdfhkmaaDoorW.PrintWords
open Go.RowKit
namespace Kd
end Kd
end Go.Proofs.YteffcglgdfhkmaaDoorW.PrintWords
