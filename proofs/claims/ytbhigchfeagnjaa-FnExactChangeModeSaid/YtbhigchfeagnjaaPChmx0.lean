-- Written by a program of this session (wip/print2) out of the translation. Lean checks it.
import Derived.Test.YtbhigchfeagnjaaProg
import Derived.Below
import Derived.Deep.Draws
import Derived.Deep.AppendLies
import Derived.Maps.AppendAt
import Derived.OwnWalk
import Derived.Laws.BytesArg
import Derived.Laws.MakeOwn
import Derived.Laws.OwnMore
import Derived.Deep.OwnRows
import Derived.Tactics
import Derived.Lib.ConvBytes
import Derived.Laws.Slices
import Derived.WalkKit
import Derived.KernelRfl
import Derived.RowKit3
import Derived.Deep.LoopGhost
import Derived.Deep.QuietTactic
import Derived.BigQuiet
import Derived.WideLaws
import Derived.Deep.DeepCutAuto
import Derived.Deep.CutBlock
import Derived.Deep.RegionHeld3
import Derived.Laws.Rows
import Derived.Lib.AppendStr
import Derived.ArgAppend
import Derived.Laws.IdiomCopy
import Derived.OrdersHeld
import Derived.Laws.BitsLemmas
import Derived.RowKit
import Derived.Test.YtbhigchfeagnjaaSh
import Derived.Shelf.Strings.IndexAnyAll
import Derived.Shelf.Small.Utf8
import Derived.Laws.RangeAny
import Derived.Lib.OthersKept
import Derived.WalkMore
import Derived.Deep.LoopGhost
import Derived.Deep.RegionWith
import Derived.WalkKit
import Derived.Deep.WholeRow
import Derived.Lib.OwnBridge
import Derived.Lib.SlBytesConst
import Derived.Test.YtbhigchfeagnjaaWWords
import Derived.Test.YtbhigchfeagnjaaWLast
import Derived.Test.YtbhigchfeagnjaaWTab
import Derived.Test.YtbhigchfeagnjaaWFour
import Derived.Test.YtbhigchfeagnjaaWQPut
import Derived.Test.YtbhigchfeagnjaaWApart
import Derived.Test.YtbhigchfeagnjaaWArr
import Derived.Test.YtbhigchfeagnjaaWZeros
import Derived.Test.YtbhigchfeagnjaaWFoot
import Derived.Test.YtbhigchfeagnjaaWKept
import Derived.Test.YtbhigchfeagnjaaWShare
import Derived.Test.YtbhigchfeagnjaaWN
import Derived.Test.YtbhigchfeagnjaaWFootNe
import Derived.Test.YtbhigchfeagnjaaWAt
import Derived.Test.YtbhigchfeagnjaaWEqStruct
import Derived.Test.YtbhigchfeagnjaaWRepsOne
import Derived.Test.YtbhigchfeagnjaaWInv
import Derived.Test.YtbhigchfeagnjaaWInvWords
import Derived.Test.YtbhigchfeagnjaaWGuard
import Derived.Test.YtbhigchfeagnjaaWNEv
import Derived.Test.YtbhigchfeagnjaaWMore
namespace Go.Proofs.Ytbhigchfeagnjaa.PChm
open Go.RowKit Go.Proofs.YtbhigchfeagnjaaW.PrintWords Go.Proofs.YtbhigchfeagnjaaW.PrintLast Go.Proofs.YtbhigchfeagnjaaW.PrintMore
attribute [local go_sem] max2_int min2_int max_two min_two max_three min_three max_four min_four   -- for this text's walks alone
set_option linter.unusedVariables false
set_option linter.unusedSimpArgs false



theorem isEmpty_ne (l : List UInt8) : l.isEmpty = !(l != []) := by cases l <;> rfl
theorem own_map (A : Option Addr) (n c : Nat) : (Value.slice A n c).ownBlock = A.map (·.block) := by cases A <;> rfl
def errW : Option Int → Value
  | none => .nilIface
  | some c => .iface 0 (.int .i64 c)
theorem errW_none : errW none = .nilIface := rfl
theorem errW_some (c : Int) : errW (some c) = .iface 0 (.int .i64 c) := rfl

theorem info3 : (Try.prog.info? 3).map (fun i => (i.zero, i.size, i.bytes)) = some (some (.int .i64 0), 1, 8) := by kernel_rfl
-- the values' own types

end Go.Proofs.Ytbhigchfeagnjaa.PChm
