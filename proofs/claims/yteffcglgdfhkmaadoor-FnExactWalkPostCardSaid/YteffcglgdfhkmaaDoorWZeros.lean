-- Cut by a program of this session to what is used.
import Derived.Test.YteffcglgdfhkmaaDoorWApart
import Derived.Test.YteffcglgdfhkmaaDoorWArr
/-! ### 42. append(v, make([]T, n)...): the operation comes as_ append with the number in the second place -/
namespace Go.Proofs.YteffcglgdfhkmaaDoorW.PrintWords
open Go.RowKit
namespace Kd
/-! #### the same for rows whose elements lie apart -/
end Kd
end Go.Proofs.YteffcglgdfhkmaaDoorW.PrintWords
