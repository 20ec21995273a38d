/- What the row of the law needs of the printed and the plain texts. -/
import Derived.Test.YtmahoekbedgbcaaZfWWords
import Derived.Test.YtmahoekbedgbcaaZfWMore
set_option linter.unusedVariables false
namespace Go.Proofs.YtmahoekbedgbcaaW.PrintWords
open Go.RowKit
namespace Kd
section
variable {α : Type} {P : Program} {ops : Array Oper} {o : Oper} {rest : List Oper} {a : Act} {Q : Exit → Act → World → Prop}
end
end Kd
end Go.Proofs.YtmahoekbedgbcaaW.PrintWords
