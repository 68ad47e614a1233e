-- Cut by a program of this session to what is used.
import Derived.Test.YteffcglgdfhkmaaDoorWInv
import Derived.Test.YteffcglgdfhkmaaDoorWFootNe
namespace Go.Proofs.YteffcglgdfhkmaaDoorW.PrintWords
open Go.RowKit
end Go.Proofs.YteffcglgdfhkmaaDoorW.PrintWords
namespace Go.Proofs.YteffcglgdfhkmaaDoorW.PrintLast
section
variable {ops : Array Oper} {a : Act} {o og : Oper} {g : Nat} {t : Tmp} {u : Bool}
end
end Go.Proofs.YteffcglgdfhkmaaDoorW.PrintLast
