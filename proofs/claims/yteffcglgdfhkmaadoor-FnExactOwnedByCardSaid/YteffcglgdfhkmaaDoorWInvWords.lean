-- Cut by a program of this session to what is used.
import Derived.Test.YteffcglgdfhkmaaDoorWInv
import Derived.Test.YteffcglgdfhkmaaDoorWFootNe
namespace Go.Proofs.YteffcglgdfhkmaaDoorW.PrintWords
open Go.RowKit
end Go.Proofs.YteffcglgdfhkmaaDoorW.PrintWords
namespace Go.Proofs.YteffcglgdfhkmaaDoorW.PrintLast
end Go.Proofs.YteffcglgdfhkmaaDoorW.PrintLast
