/- Contracts of functions that the law reaches: walked as the kit's print walks them, beside contracts proved by hand. -/
import Derived.Test.YtimkonhlklfocaaProg
import Derived.Below
import Derived.Deep.Draws
import Derived.Deep.AppendLies
import Derived.Maps.AppendAt
import Derived.OwnWalk
import Derived.Laws.BytesArg
import Derived.Laws.MakeOwn
import Derived.Laws.OwnMore
import Derived.Deep.OwnRows
import Derived.Tactics
import Derived.Lib.ConvBytes
import Derived.Laws.Slices
import Derived.WalkKit
import Derived.KernelRfl
import Derived.RowKit3
import Derived.Deep.LoopGhost
import Derived.Deep.QuietTactic
import Derived.BigQuiet
import Derived.WideLaws
import Derived.Deep.DeepCutAuto
import Derived.Deep.CutBlock
import Derived.Deep.RegionHeld3
import Derived.Laws.Rows
import Derived.Lib.AppendStr
import Derived.ArgAppend
import Derived.Laws.IdiomCopy
import Derived.OrdersHeld
import Derived.Laws.BitsLemmas
import Derived.RowKit
import Derived.Test.YtimkonhlklfocaaHW
import Derived.Test.YtimkonhlklfocaaShelf
import Derived.Test.YtimkonhlklfocaaWWords
import Derived.Test.YtimkonhlklfocaaWLast
import Derived.Test.YtimkonhlklfocaaWTab
import Derived.Test.YtimkonhlklfocaaWFour
import Derived.Test.YtimkonhlklfocaaWQPut
import Derived.Test.YtimkonhlklfocaaWApart
import Derived.Test.YtimkonhlklfocaaWArr
import Derived.Test.YtimkonhlklfocaaWZeros
import Derived.Test.YtimkonhlklfocaaWFoot
import Derived.Test.YtimkonhlklfocaaWKept
import Derived.Test.YtimkonhlklfocaaWShare
import Derived.Test.YtimkonhlklfocaaWN
import Derived.Test.YtimkonhlklfocaaWFootNe
import Derived.Test.YtimkonhlklfocaaWAt
import Derived.Test.YtimkonhlklfocaaWEqStruct
import Derived.Test.YtimkonhlklfocaaWRepsOne
import Derived.Test.YtimkonhlklfocaaWInv
import Derived.Test.YtimkonhlklfocaaWInvWords
import Derived.Test.YtimkonhlklfocaaWGuard
import Derived.Test.YtimkonhlklfocaaWNEv
import Derived.Test.YtimkonhlklfocaaWMore
namespace Go.Proofs.Ytimkonhlklfocaa.HFnExactUnhex
open Go.RowKit Go.Proofs.YtimkonhlklfocaaW.PrintWords Go.Proofs.YtimkonhlklfocaaW.PrintLast Go.Proofs.YtimkonhlklfocaaW.PrintMore
attribute [local go_sem] max2_int min2_int max_two min_two max_three min_three max_four min_four   -- for this text's walks alone
set_option linter.unusedVariables false
set_option linter.unusedSimpArgs false



def errW : Option Int → Value
  | none => .nilIface
  | some c => .iface 0 (.int .i64 c)
theorem errW_none : errW none = .nilIface := rfl
theorem errW_some (c : Int) : errW (some c) = .iface 0 (.int .i64 c) := rfl

theorem info5 : (Try.prog.info? 5).map (fun i => (i.zero, i.size, i.bytes)) = some (some (.int .u8 0), 1, 1) := by kernel_rfl
-- the values' own types

end Go.Proofs.Ytimkonhlklfocaa.HFnExactUnhex
