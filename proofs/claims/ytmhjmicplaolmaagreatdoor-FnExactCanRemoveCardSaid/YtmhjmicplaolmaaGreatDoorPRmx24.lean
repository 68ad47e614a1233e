import Derived.Test.YtmhjmicplaolmaaGreatDoorPRmx0
import Derived.Test.YtmhjmicplaolmaaGreatDoorPRmx8
import Derived.Test.YtmhjmicplaolmaaGreatDoorPRmx10
import Derived.Test.YtmhjmicplaolmaaGreatDoorPRmx11
import Derived.Test.YtmhjmicplaolmaaGreatDoorPRmx13
import Derived.Test.YtmhjmicplaolmaaGreatDoorPRmx15
import Derived.Test.YtmhjmicplaolmaaGreatDoorPRmx16
import Derived.Test.YtmhjmicplaolmaaGreatDoorPRmx20
import Derived.Test.YtmhjmicplaolmaaGreatDoorPRmx21
namespace Go.Proofs.YtmhjmicplaolmaaGreatDoor.PRm
open Go.RowKit Go.Proofs.YtmhjmicplaolmaaGreatDoorW.PrintWords Go.Proofs.YtmhjmicplaolmaaGreatDoorW.PrintLast Go.Proofs.YtmhjmicplaolmaaGreatDoorW.PrintMore
attribute [local go_sem] max2_int min2_int max_two min_two max_three min_three max_four min_four
set_option linter.unusedVariables false
set_option linter.unusedSimpArgs false
set_option maxHeartbeats 8000000
set_option maxRecDepth 100000
/-! ### spec_LeftAfter: function 11 -/
def spec_LeftAfter.f (k : Nat) (ns : List S62) (room u gi node : Int) : Option (List ByteArray × Bool) :=
 (spec_l4Asked.f k ns room u gi).bind fun a => if a = true then ((spec_l3Is.f ns room node).bind fun b => if b = true ∧ node ≠ 0 then ((spec_l9Name.f k ns room node).bind fun d => (spec_l9After.f k ns room u gi node).bind fun x => if 0 ≤ d.1 ∧ d.1 < (x.2.1.length : Int) then ((spec_l3At.f k (r62 x.2.1 d.1).f6 d.2).bind fun at_ => if at_ < 0 then some ([], true) else ((spec_l7Walk.f k x.2.1 x.2.2.1 at_ (⟨#[46]⟩ : ByteArray) false).bind fun l => some (l, true))) else none) else some ([], false)) else some ([], false)
def impl_isGoodAt.f (k : Nat) (lq : List (S62)) (aq : Int) (a1 : Int) : Option (Bool) := (impl_GoodFs.f k lq aq).bind fun t548 => (if t548 = true then ((impl_Fs_isThere.f lq aq a1).bind fun t549 => (some t549)) else (some false))
def impl_below.f (a0 : ByteArray) (a1 : ByteArray) : Option (ByteArray) := if a0.toList = ([46] : List UInt8) then (some a1) else (if a0.size + 1 ≤ 9223372036854775807 then (if a0.size + 1 + a1.size ≤ 9223372036854775807 then (some ((a0 ++ (⟨#[47]⟩ : ByteArray)) ++ a1)) else (none)) else (none))
mutual
def impl_walk.f : Nat → List S62 → Int → ByteArray → Int → Bool → Option (List S91)
 | 0, _, _, _, _, _ => none
 | k + 1, ns, room, p, n, b => if 0 ≤ n then (if n < (ns.length : Int) then ((impl_walk.l0 k ns room p b (r62 ns n).f6 0).bind fun mid => some (if b = true then mid ++ [⟨p, n⟩] else ⟨p, n⟩ :: mid)) else none) else none
def impl_walk.l0 : Nat → List S62 → Int → ByteArray → Bool → List S87 → Int → Option (List S91)
 | 0, _, _, _, _, _, _ => none
 | k + 1, ns, room, p, b, es, j => if j < (es.length : Int) then (if 0 ≤ j then ((impl_below.f p (r87 es j).f0).bind fun q => ((impl_walk.f k ns room q (r87 es j).f1 b).bind fun r1 => ((impl_walk.l0 k ns room p b es (wrap64 (j + 1))).bind fun r2 => some (r1 ++ r2)))) else none) else some []
end
def impl_Fs_ways.f (k : Nat) (lq : List (S62)) (aq : Int) (a1 : Int) (a2 : Bool) : Option (List (S91)) := (impl_walk.f k lq aq (⟨#[46]⟩ : ByteArray) a1 a2).bind fun r => if r.length < 5864062014805 then some r else none
def impl_walked.l0 : Nat → List ByteArray → List (S91) → Int → Int → Option (List ByteArray × Bool)
 | 0, _, _, _, _ => none
 | k + 1, x8, x19, x20, x21 => if x21 < x20 then (if 0 ≤ x21 then (if x21 < (x19.length : Int) then (if x8.length < 8796093022208 then (impl_walked.l0 k (x8 ++ [(r91 x19 x21).f0]) x19 x20 (wrap64 (x21 + 1))) else (none)) else (none)) else (none)) else (some (x8, true))
def impl_walked.f (k : Nat) (lq : List (S62)) (aq : Int) (a1 : Int) (a2 : Bool) : Option (List ByteArray × Bool) := (impl_isGoodAt.f k lq aq a1).bind fun t551 => (if t551 = true then ((impl_Fs_ways.f k lq aq a1 a2).bind fun t555 => (impl_walked.l0 k (([] : List ByteArray)) t555 (t555.length : Int) 0)) else (some (([] : List ByteArray), false)))
def impl_LeftAfter.f (k : Nat) (lq : List (S62)) (aq : Int) (a1_0 : Int) (a1_1 : Int) (a2 : Int) : Option (List ByteArray × Bool) := (impl_isTaken.f k lq aq a1_0 a1_1 a2).bind fun t565 => (if t565 = true then ((impl_Fs_taken.f k lq aq a1_0 a1_1 a2).bind fun bt566 => (if bt566.2.2.1 = true then (some (([] : List ByteArray), true)) else ((impl_walked.f k bt566.1 bt566.2.1 a2 false).bind fun bt573 => (some (bt573.1, bt573.2))))) else (some (([] : List ByteArray), false)))
end Go.Proofs.YtmhjmicplaolmaaGreatDoor.PRm
