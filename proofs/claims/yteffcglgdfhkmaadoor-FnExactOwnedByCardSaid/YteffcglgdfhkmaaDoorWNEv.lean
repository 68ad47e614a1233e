-- Cut by a program of this session to what is used.
import Derived.Test.YteffcglgdfhkmaaDoorWN
/-! ### 48. N's events: append, a whole row appended, zeros appended, literals, make, stores, cuts, an element taken out -/
namespace Go.Proofs.YteffcglgdfhkmaaDoorW.PrintWords
open Go.RowKit
namespace Kd
end Kd
end Go.Proofs.YteffcglgdfhkmaaDoorW.PrintWords
