/- The pure statement of the law FnExactSketchNew: plain Lean over numbers and lists. -/
import Derived.Test.YtcoboobnpmaahaaPFnExactSketchNewx1
import Derived.Test.YtcoboobnpmaahaaMath
set_option linter.unusedSimpArgs false
set_option linter.unusedVariables false
namespace Go.Proofs.Ytcoboobnpmaahaa.Pure
open Go.RowKit Go.Proofs.Ytcoboobnpmaahaa.PFnExactSketchNew Go.Proofs.YtcoboobnpmaahaaW.PrintWords Go.Proofs.YtcoboobnpmaahaaW.PrintLast Go.Proofs.Ytcoboobnpmaahaa.Math

theorem FnExactSketchNew : laws_FnExactSketchNew.Pure := ⟨200, by decide +kernel⟩

end Go.Proofs.Ytcoboobnpmaahaa.Pure
