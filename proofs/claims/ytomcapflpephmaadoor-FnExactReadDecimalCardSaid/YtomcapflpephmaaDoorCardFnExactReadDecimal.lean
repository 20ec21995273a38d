/- The tied card of the law FnExactReadDecimal: its row, and the given tie of the variables that the row lists. -/
import Derived.Test.YtomcapflpephmaaDoorRowFnExactReadDecimal
import Derived.Test.YtomcapflpephmaaDoorTie
import Derived.Test.YtomcapflpephmaaDoorCards
import Derived.SevenTiedAt
namespace Go.Proofs.YtomcapflpephmaaDoor
open Go
set_option maxRecDepth 100000
theorem fnExactReadDecimal_card : Rows.FnExactReadDecimalCardSaid :=
  Claim7.holds_tied_plain_at .later [] [.data, .data, .data] true (true, "d04e875dea757a204f6ef5f54161b532174885c4bf924a262fb977b9499f3960") false
    fnExactReadDecimal_holds (fun _ h => by cases h) (by kernel_rfl) (fun _ h => by cases h) fnExactReadDecimal_row_tie rfl ⟨rfl, rfl⟩ (by kernel_rfl) rfl
    (fun f fn hf hfn => by
      obtain rfl : f = 4 := Option.some.inj ((show Tryd.prog.funcNamed "loop.example/g00180/laws.FnExactReadDecimal" = some 4 by kernel_rfl).symm.trans hf) |>.symm
      obtain rfl : fn = Tryd.f4 := (Option.some.inj (Tryd.func4.symm.trans hfn)).symm
      exact ⟨by kernel_rfl, fun j t ht => by
        rw [Tryd.params4] at ht
        have h3 : t = 9 := by
          rcases j with _ | j
          · simpa using ht.symm
          · simp at ht
        subst h3
        exact (show Tryd.prog.wantsStandIn 9 = false by kernel_rfl)⟩)
    (by kernel_rfl)
#print axioms fnExactReadDecimal_card
end Go.Proofs.YtomcapflpephmaaDoor
