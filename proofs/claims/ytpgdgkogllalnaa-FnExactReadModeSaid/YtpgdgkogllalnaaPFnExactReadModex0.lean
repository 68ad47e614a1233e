-- Written by a program of this session (wip/print2) out of the translation. Lean checks it.
import Derived.Test.YtpgdgkogllalnaaProg
import Derived.Below
import Derived.Deep.Draws
import Derived.Deep.AppendLies
import Derived.Maps.AppendAt
import Derived.OwnWalk
import Derived.Laws.BytesArg
import Derived.Laws.MakeOwn
import Derived.Laws.OwnMore
import Derived.Deep.OwnRows
import Derived.Tactics
import Derived.Lib.ConvBytes
import Derived.Laws.Slices
import Derived.WalkKit
import Derived.KernelRfl
import Derived.RowKit3
import Derived.Deep.LoopGhost
import Derived.Deep.QuietTactic
import Derived.BigQuiet
import Derived.WideLaws
import Derived.Deep.DeepCutAuto
import Derived.Deep.CutBlock
import Derived.Deep.RegionHeld3
import Derived.Laws.Rows
import Derived.Lib.AppendStr
import Derived.ArgAppend
import Derived.Laws.IdiomCopy
import Derived.OrdersHeld
import Derived.Laws.BitsLemmas
import Derived.RowKit
import Derived.Lib.SlBytesConst
import Derived.Test.YtpgdgkogllalnaaWWords
import Derived.Test.YtpgdgkogllalnaaWLast
import Derived.Test.YtpgdgkogllalnaaWTab
import Derived.Test.YtpgdgkogllalnaaWFour
import Derived.Test.YtpgdgkogllalnaaWQPut
import Derived.Test.YtpgdgkogllalnaaWApart
import Derived.Test.YtpgdgkogllalnaaWArr
import Derived.Test.YtpgdgkogllalnaaWZeros
import Derived.Test.YtpgdgkogllalnaaWFoot
import Derived.Test.YtpgdgkogllalnaaWKept
import Derived.Test.YtpgdgkogllalnaaWShare
import Derived.Test.YtpgdgkogllalnaaWN
import Derived.Test.YtpgdgkogllalnaaWFootNe
import Derived.Test.YtpgdgkogllalnaaWAt
import Derived.Test.YtpgdgkogllalnaaWEqStruct
import Derived.Test.YtpgdgkogllalnaaWRepsOne
import Derived.Test.YtpgdgkogllalnaaWInv
import Derived.Test.YtpgdgkogllalnaaWInvWords
import Derived.Test.YtpgdgkogllalnaaWGuard
import Derived.Test.YtpgdgkogllalnaaWNEv
import Derived.Test.YtpgdgkogllalnaaWMore
namespace Go.Proofs.Ytpgdgkogllalnaa.PFnExactReadMode
open Go.RowKit Go.Proofs.YtpgdgkogllalnaaW.PrintWords Go.Proofs.YtpgdgkogllalnaaW.PrintLast Go.Proofs.YtpgdgkogllalnaaW.PrintMore
attribute [local go_sem] max2_int min2_int max_two min_two max_three min_three max_four min_four   -- for this text's walks alone
set_option linter.unusedVariables false
set_option linter.unusedSimpArgs false



def errW : Option Int → Value
  | none => .nilIface
  | some c => .iface 0 (.int .i64 c)
theorem errW_none : errW none = .nilIface := rfl
theorem errW_some (c : Int) : errW (some c) = .iface 0 (.int .i64 c) := rfl

-- the values' own types

end Go.Proofs.Ytpgdgkogllalnaa.PFnExactReadMode
