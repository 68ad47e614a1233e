-- Cut by a program of this session to what is used.
import Derived.Test.YteffcglgdfhkmaaDoorWTab
/-! ### 56. Four, five, six operations that may come up next, in any order -/
namespace Go.Proofs.YteffcglgdfhkmaaDoorW.PrintLast
end Go.Proofs.YteffcglgdfhkmaaDoorW.PrintLast
