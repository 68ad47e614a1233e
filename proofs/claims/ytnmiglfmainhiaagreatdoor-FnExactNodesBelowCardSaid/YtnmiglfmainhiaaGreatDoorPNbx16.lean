-- Written by a program of this session (wip/print2) out of the translation. Lean checks it.
import Derived.Test.YtnmiglfmainhiaaGreatDoorPNbx0
import Derived.Test.YtnmiglfmainhiaaGreatDoorPNbx1
import Derived.Test.YtnmiglfmainhiaaGreatDoorPNbx3
import Derived.Test.YtnmiglfmainhiaaGreatDoorPNbx4
import Derived.Test.YtnmiglfmainhiaaGreatDoorPNbx10
import Derived.Test.YtnmiglfmainhiaaGreatDoorPNbx15
namespace Go.Proofs.YtnmiglfmainhiaaGreatDoor.PNb
open Go.RowKit Go.Proofs.YtnmiglfmainhiaaGreatDoorW.PrintWords Go.Proofs.YtnmiglfmainhiaaGreatDoorW.PrintLast Go.Proofs.YtnmiglfmainhiaaGreatDoorW.PrintMore
attribute [local go_sem] max2_int min2_int max_two min_two max_three min_three max_four min_four   -- for this text's walks alone
set_option linter.unusedVariables false
set_option linter.unusedSimpArgs false
set_option maxHeartbeats 8000000
set_option maxRecDepth 100000

/-! ### laws_FnExactSizeBelow: function 5 -/
/-! ### spec_l10Needs: function 48 -/
/-! ### spec_CopyNeeds: function 23 -/
/-! ### impl_CopyNeeds: function 24 -/
end Go.Proofs.YtnmiglfmainhiaaGreatDoor.PNb
