/- The program's constants have the reference's values: the statement holds without a condition. -/
import Derived.Test.YtpgdgkogllalnaaPFnExactConstantsx1
namespace Go.Proofs.Ytpgdgkogllalnaa.Pure
open Go.RowKit Go.Proofs.Ytpgdgkogllalnaa.PFnExactConstants

theorem FnExactConstants : laws_FnExactConstants.Pure := rfl

end Go.Proofs.Ytpgdgkogllalnaa.Pure
