-- Cut by a program of this session to what is used.
import Derived.Test.YtnmiglfmainhiaaGreatDoorWInv
import Derived.Test.YtnmiglfmainhiaaGreatDoorWFootNe
namespace Go.Proofs.YtnmiglfmainhiaaGreatDoorW.PrintWords
open Go.RowKit
end Go.Proofs.YtnmiglfmainhiaaGreatDoorW.PrintWords
namespace Go.Proofs.YtnmiglfmainhiaaGreatDoorW.PrintLast
section
variable {ops : Array Oper} {a : Act} {o og : Oper} {g : Nat} {t : Tmp} {u : Bool}
end
end Go.Proofs.YtnmiglfmainhiaaGreatDoorW.PrintLast
