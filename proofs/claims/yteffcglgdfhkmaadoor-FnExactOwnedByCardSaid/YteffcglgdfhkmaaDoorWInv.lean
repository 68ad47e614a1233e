-- Cut by a program of this session to what is used.
import Derived.Test.YteffcglgdfhkmaaDoorWTab
/-! ### 57. A region of open order by ONE relation over what is listed so far: each operation is shown once, whatever came up before it -/
namespace Go.Proofs.YteffcglgdfhkmaaDoorW.PrintLast
end Go.Proofs.YteffcglgdfhkmaaDoorW.PrintLast
