/- What the row of the law needs of the printed and the plain texts. -/
import Derived.Test.YtmahoekbedgbcaaZdWWords
import Derived.Test.YtmahoekbedgbcaaZdWMore
import Derived.Laws.CopyOwn
set_option linter.unusedVariables false
set_option linter.unusedSimpArgs false
namespace Go.Proofs.YtmahoekbedgbcaaW.PrintWords
open Go.RowKit
namespace Kd
section
variable {α : Type} {enc : α → List Value} {sz : Nat}
end
section
variable {α : Type} {d : Kd α} {enc : α → List Value} {e : Nat} {W : World} {base : Nat} {ok : Nat → Prop} {v : Value} {xs : List α}
end
section
variable {α : Type} {P : Program} {ops : Array Oper} {o : Oper} {rest : List Oper} {a : Act} {Q : Exit → Act → World → Prop}
end
end Kd
end Go.Proofs.YtmahoekbedgbcaaW.PrintWords
