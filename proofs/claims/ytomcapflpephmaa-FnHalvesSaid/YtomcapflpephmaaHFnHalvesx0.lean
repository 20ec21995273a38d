/- Contracts of functions that the law reaches: walked as the kit's print walks them, beside contracts proved by hand. -/
import Derived.Test.YtomcapflpephmaaProg
import Derived.Below
import Derived.Deep.Draws
import Derived.Deep.AppendLies
import Derived.Maps.AppendAt
import Derived.OwnWalk
import Derived.Laws.BytesArg
import Derived.Laws.MakeOwn
import Derived.Laws.OwnMore
import Derived.Deep.OwnRows
import Derived.Tactics
import Derived.Lib.ConvBytes
import Derived.Laws.Slices
import Derived.WalkKit
import Derived.KernelRfl
import Derived.RowKit3
import Derived.Deep.LoopGhost
import Derived.Deep.QuietTactic
import Derived.BigQuiet
import Derived.WideLaws
import Derived.Deep.DeepCutAuto
import Derived.Deep.CutBlock
import Derived.Deep.RegionHeld3
import Derived.Laws.Rows
import Derived.Lib.AppendStr
import Derived.ArgAppend
import Derived.Laws.IdiomCopy
import Derived.OrdersHeld
import Derived.Laws.BitsLemmas
import Derived.RowKit
import Derived.Test.YtomcapflpephmaaHW
import Derived.Test.YtomcapflpephmaaShelf
import Derived.Test.YtomcapflpephmaaWWords
import Derived.Test.YtomcapflpephmaaWLast
import Derived.Test.YtomcapflpephmaaWTab
import Derived.Test.YtomcapflpephmaaWFour
import Derived.Test.YtomcapflpephmaaWQPut
import Derived.Test.YtomcapflpephmaaWApart
import Derived.Test.YtomcapflpephmaaWArr
import Derived.Test.YtomcapflpephmaaWZeros
import Derived.Test.YtomcapflpephmaaWFoot
import Derived.Test.YtomcapflpephmaaWKept
import Derived.Test.YtomcapflpephmaaWShare
import Derived.Test.YtomcapflpephmaaWN
import Derived.Test.YtomcapflpephmaaWFootNe
import Derived.Test.YtomcapflpephmaaWAt
import Derived.Test.YtomcapflpephmaaWEqStruct
import Derived.Test.YtomcapflpephmaaWRepsOne
import Derived.Test.YtomcapflpephmaaWInv
import Derived.Test.YtomcapflpephmaaWInvWords
import Derived.Test.YtomcapflpephmaaWGuard
import Derived.Test.YtomcapflpephmaaWNEv
import Derived.Test.YtomcapflpephmaaWMore
namespace Go.Proofs.Ytomcapflpephmaa.HFnHalves
open Go.RowKit Go.Proofs.YtomcapflpephmaaW.PrintWords Go.Proofs.YtomcapflpephmaaW.PrintLast Go.Proofs.YtomcapflpephmaaW.PrintMore
attribute [local go_sem] max2_int min2_int max_two min_two max_three min_three max_four min_four   -- for this text's walks alone
set_option linter.unusedVariables false
set_option linter.unusedSimpArgs false



def errW : Option Int → Value
  | none => .nilIface
  | some c => .iface 0 (.int .i64 c)
theorem errW_none : errW none = .nilIface := rfl
theorem errW_some (c : Int) : errW (some c) = .iface 0 (.int .i64 c) := rfl

theorem info3 : (Try.prog.info? 3).map (fun i => (i.zero, i.size, i.bytes)) = some (some (.int .i64 0), 1, 8) := by kernel_rfl
theorem info9 : (Try.prog.info? 9).map (fun i => (i.zero, i.size, i.bytes)) = some (some (.string ⟨#[]⟩), 1, 16) := by kernel_rfl
-- the values' own types

end Go.Proofs.Ytomcapflpephmaa.HFnHalves
