/- The law on the constants returns true (printed row; pure part here). No condition. -/
import Derived.Test.YtcegeleoicjciaaPFnExactConstantsx1
namespace Go.Proofs.Ytcegeleoicjciaa.Pure
open Go.RowKit Go.Proofs.Ytcegeleoicjciaa.PFnExactConstants Go.Proofs.YtcegeleoicjciaaW.PrintWords Go.Proofs.YtcegeleoicjciaaW.PrintLast
set_option linter.unusedVariables false
set_option linter.unusedSimpArgs false

theorem FnExactConstants : laws_FnExactConstants.Pure := rfl

end Go.Proofs.Ytcegeleoicjciaa.Pure
