/- What the row of the law needs of the printed and the plain texts. -/
import Derived.Test.YtmahoekbedgbcaaZfWInv
import Derived.Test.YtmahoekbedgbcaaZfWFootNe
namespace Go.Proofs.YtmahoekbedgbcaaW.PrintWords
open Go.RowKit
end Go.Proofs.YtmahoekbedgbcaaW.PrintWords
namespace Go.Proofs.YtmahoekbedgbcaaW.PrintLast
section
variable {ops : Array Oper} {a : Act} {o og : Oper} {g : Nat} {t : Tmp} {u : Bool}
end
end Go.Proofs.YtmahoekbedgbcaaW.PrintLast
