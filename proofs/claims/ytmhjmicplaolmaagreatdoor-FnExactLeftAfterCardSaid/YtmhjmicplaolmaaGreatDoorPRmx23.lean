import Derived.Test.YtmhjmicplaolmaaGreatDoorPRmx22
namespace Go.Proofs.YtmhjmicplaolmaaGreatDoor.PRm
open Go.RowKit Go.Proofs.YtmhjmicplaolmaaGreatDoorW.PrintWords Go.Proofs.YtmhjmicplaolmaaGreatDoorW.PrintLast Go.Proofs.YtmhjmicplaolmaaGreatDoorW.PrintMore
attribute [local go_sem] dY dW eZ eY dH dG dX dV
set_option linter.unusedVariables false
set_option linter.unusedSimpArgs false
set_option maxHeartbeats 8000000
set_option maxRecDepth 100000
/-! ### laws_FnExactCanRemove: function 3 -/
def laws_FnExactCanRemove.j0 : Nat → Bool → List (S70) → Int → List (S62) → Int → Option (Bool)
 | 0, _, _, _, _, _ => none
 | k + 1, x44, x523000, x523001, x538000, x538001 => if x44 = true then (some false) else ((fo.f k x523000 x523001).bind fun bt542 => ((ib.f k x538000 x538001 bt542.1 bt542.2).bind fun t546 => (if t546 = true then (some true) else (some false))))
def laws_FnExactCanRemove.f (k : Nat) (lq : List (S70)) (aq : Int) (a1_0 : Int) (a1_1 : Int) (a2 : Int) : Option (Bool) := (iO.f k lq aq 1048576).bind fun t524 => (if t524 < 0 then (some true) else ((fo.f k lq aq).bind fun bt525 => ((fB.f a1_0 a1_1).bind fun bt529 => ((lI.f k bt525.1 bt525.2 bt529.1 bt529.2 a2).bind fun bt531 => ((fo.f k lq aq).bind fun bt533 => ((fB.f a1_0 a1_1).bind fun bt538 => ((qh.f k bt533.1 bt533.2 bt538.1 bt538.2 a2).bind fun bt540 => (if (bt540.1 != bt531.1) = true then (laws_FnExactCanRemove.j0 k true lq aq bt533.1 bt533.2) else (laws_FnExactCanRemove.j0 k (bt540.2 != bt531.2) lq aq bt533.1 bt533.2)))))))))
end Go.Proofs.YtmhjmicplaolmaaGreatDoor.PRm
