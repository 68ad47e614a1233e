-- Written by a program of this session (wip/print2) out of the translation. Lean checks it.
import Derived.Test.YtkkcpgahgehedaaProg
import Derived.Below
import Derived.Deep.Draws
import Derived.Deep.AppendLies
import Derived.Maps.AppendAt
import Derived.OwnWalk
import Derived.Laws.BytesArg
import Derived.Laws.MakeOwn
import Derived.Laws.OwnMore
import Derived.Deep.OwnRows
import Derived.Tactics
import Derived.Lib.ConvBytes
import Derived.Laws.Slices
import Derived.WalkKit
import Derived.KernelRfl
import Derived.RowKit3
import Derived.Deep.LoopGhost
import Derived.Deep.QuietTactic
import Derived.BigQuiet
import Derived.WideLaws
import Derived.Deep.DeepCutAuto
import Derived.Deep.CutBlock
import Derived.Deep.RegionHeld3
import Derived.Laws.Rows
import Derived.Lib.AppendStr
import Derived.ArgAppend
import Derived.Laws.IdiomCopy
import Derived.OrdersHeld
import Derived.Laws.BitsLemmas
import Derived.RowKit
import Derived.Lib.OwnBridge
import Derived.Lib.SlBytesConst
import Derived.Test.YtkkcpgahgehedaaWWords
import Derived.Test.YtkkcpgahgehedaaWLast
import Derived.Test.YtkkcpgahgehedaaWTab
import Derived.Test.YtkkcpgahgehedaaWFour
import Derived.Test.YtkkcpgahgehedaaWQPut
import Derived.Test.YtkkcpgahgehedaaWApart
import Derived.Test.YtkkcpgahgehedaaWArr
import Derived.Test.YtkkcpgahgehedaaWZeros
import Derived.Test.YtkkcpgahgehedaaWFoot
import Derived.Test.YtkkcpgahgehedaaWKept
import Derived.Test.YtkkcpgahgehedaaWShare
import Derived.Test.YtkkcpgahgehedaaWN
import Derived.Test.YtkkcpgahgehedaaWFootNe
import Derived.Test.YtkkcpgahgehedaaWAt
import Derived.Test.YtkkcpgahgehedaaWEqStruct
import Derived.Test.YtkkcpgahgehedaaWRepsOne
import Derived.Test.YtkkcpgahgehedaaWInv
import Derived.Test.YtkkcpgahgehedaaWInvWords
import Derived.Test.YtkkcpgahgehedaaWGuard
import Derived.Test.YtkkcpgahgehedaaWNEv
import Derived.Test.YtkkcpgahgehedaaWMore
namespace Go.Proofs.Ytkkcpgahgehedaa.PForm
open Go.RowKit Go.Proofs.YtkkcpgahgehedaaW.PrintWords Go.Proofs.YtkkcpgahgehedaaW.PrintLast Go.Proofs.YtkkcpgahgehedaaW.PrintMore
attribute [local go_sem] max2_int min2_int max_two min_two max_three min_three max_four min_four   -- for this text's walks alone
set_option linter.unusedVariables false
set_option linter.unusedSimpArgs false



theorem isEmpty_ne (l : List UInt8) : l.isEmpty = !(l != []) := by cases l <;> rfl
theorem own_map (A : Option Addr) (n c : Nat) : (Value.slice A n c).ownBlock = A.map (·.block) := by cases A <;> rfl
def errW : Option Int → Value
  | none => .nilIface
  | some c => .iface 0 (.int .i64 c)
theorem errW_none : errW none = .nilIface := rfl
theorem errW_some (c : Int) : errW (some c) = .iface 0 (.int .i64 c) := rfl

theorem info4 : (Try.prog.info? 4).map (fun i => (i.zero, i.size, i.bytes)) = some (some (.bool false), 1, 1) := by kernel_rfl
theorem info5 : (Try.prog.info? 5).map (fun i => (i.zero, i.size, i.bytes)) = some (some (.int .u8 0), 1, 1) := by kernel_rfl
-- the values' own types

end Go.Proofs.Ytkkcpgahgehedaa.PForm
