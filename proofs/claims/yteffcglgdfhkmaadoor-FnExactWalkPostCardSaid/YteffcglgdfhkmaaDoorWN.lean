-- Cut by a program of this session to what is used.
import Derived.Test.YteffcglgdfhkmaaDoorWShare
import Derived.Test.YteffcglgdfhkmaaDoorWZeros
/-! ### 47. N: a row of the call's own whose elements share (what they lead to is only read) -/
namespace Go.Proofs.YteffcglgdfhkmaaDoorW.PrintWords
open Go.RowKit
namespace Kd
end Kd
end Go.Proofs.YteffcglgdfhkmaaDoorW.PrintWords
