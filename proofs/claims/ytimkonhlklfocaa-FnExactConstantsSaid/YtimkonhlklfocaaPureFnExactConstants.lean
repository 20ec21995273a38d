/- The pure statement of the law FnExactConstants: plain Lean over numbers and lists. -/
import Derived.Test.YtimkonhlklfocaaPFnExactConstantsx1
import Derived.Test.YtimkonhlklfocaaMath
set_option linter.unusedSimpArgs false
set_option linter.unusedVariables false
namespace Go.Proofs.Ytimkonhlklfocaa.Pure
open Go.RowKit Go.Proofs.Ytimkonhlklfocaa.PFnExactConstants Go.Proofs.YtimkonhlklfocaaW.PrintWords Go.Proofs.YtimkonhlklfocaaW.PrintLast Go.Proofs.Ytimkonhlklfocaa.Math

theorem FnExactConstants : laws_FnExactConstants.Pure := rfl

end Go.Proofs.Ytimkonhlklfocaa.Pure
