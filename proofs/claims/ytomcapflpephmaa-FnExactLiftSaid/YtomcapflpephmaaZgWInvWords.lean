/- What the row of the law needs of the printed and the plain texts. -/
import Derived.Test.YtomcapflpephmaaZgWInv
import Derived.Test.YtomcapflpephmaaZgWFootNe
namespace Go.Proofs.YtomcapflpephmaaW.PrintWords
open Go.RowKit
end Go.Proofs.YtomcapflpephmaaW.PrintWords
namespace Go.Proofs.YtomcapflpephmaaW.PrintLast
section
variable {ops : Array Oper} {a : Act} {o og : Oper} {g : Nat} {t : Tmp} {u : Bool}
end
end Go.Proofs.YtomcapflpephmaaW.PrintLast
