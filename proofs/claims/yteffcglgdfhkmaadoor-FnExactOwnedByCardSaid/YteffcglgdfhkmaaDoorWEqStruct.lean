-- Cut by a program of this session to what is used.
import Derived.Test.YteffcglgdfhkmaaDoorWWords
import Derived.Laws.StructEq
/-! ### 53. '==' of structs as_ one Bool -/
namespace Go.Proofs.YteffcglgdfhkmaaDoorW.PrintWords
open Go.RowKit
end Go.Proofs.YteffcglgdfhkmaaDoorW.PrintWords
