import Derived.Test.YtmhjmicplaolmaaGreatDoorWKept
/-! ### 46. Values that share: what is only read, with the blocks it lies in (its footprint 'ok'): yC, F (a row that is read), FK (an element's cells) -/
namespace Go.Proofs.YtmhjmicplaolmaaGreatDoorW.PrintWords
open Go.RowKit
def yC (P : World → Prop) (W : World) (ok : Nat → Prop) : Prop := ∀ W' : World, (∀ k, ok k → k < W.heap.size → W'.heap[k]? = W.heap[k]?) → P W'
namespace yC
variable {P Q : World → Prop} {W W1 : World} {ok ok' : Nat → Prop}
end yC
namespace Kd
def F {α : Type} (d : Kd α) (W : World) (ok : Nat → Prop) (A : Option Addr) (n : Nat) (xs : List α) : Prop := yC (fun W => d.C W A n xs) W ok
def FK {α : Type} (d : Kd α) (W : World) (ok : Nat → Prop) (x : α) (c : List Value) : Prop := yC (fun W => d.K W x c) W ok
end Kd
end Go.Proofs.YtmhjmicplaolmaaGreatDoorW.PrintWords
