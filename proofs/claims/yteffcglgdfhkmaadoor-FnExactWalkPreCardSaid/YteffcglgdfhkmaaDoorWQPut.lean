-- Cut by a program of this session to what is used.
import Derived.Test.YteffcglgdfhkmaaDoorWWords
import Derived.Test.YteffcglgdfhkmaaDoorWLast
/-! ### 39. Stores into a row that may begin inside its block (Q): Q_form, Q_elem, Q_seg; scalars: Q_cell, Q_putg -/
namespace Go.Proofs.YteffcglgdfhkmaaDoorW.PrintWords
open Go.RowKit
namespace Kd
end Kd
end Go.Proofs.YteffcglgdfhkmaaDoorW.PrintWords
