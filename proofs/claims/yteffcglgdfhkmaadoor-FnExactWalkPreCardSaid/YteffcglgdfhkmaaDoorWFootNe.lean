-- Cut by a program of this session to what is used.
import Derived.Test.YteffcglgdfhkmaaDoorWN
/-! ### 52. A row that stays read whatever happens to a block (a set of blocks) doesn't lie there -/
namespace Go.Proofs.YteffcglgdfhkmaaDoorW.PrintWords
open Go.RowKit
namespace Kd
end Kd
end Go.Proofs.YteffcglgdfhkmaaDoorW.PrintWords
