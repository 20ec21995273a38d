/- The tied card of the law FnExactPartsOf: its row, and the given tie of the variables that the row lists. -/
import Derived.Test.YtomcapflpephmaaDoorRowFnExactPartsOf
import Derived.Test.YtomcapflpephmaaDoorTie
import Derived.Test.YtomcapflpephmaaDoorCards
import Derived.SevenTiedAt
namespace Go.Proofs.YtomcapflpephmaaDoor
open Go
set_option maxRecDepth 100000
theorem fnExactPartsOf_card : Rows.FnExactPartsOfCardSaid :=
  Claim7.holds_tied_plain_at .later [] [.data, .pinned] true (true, "d04e875dea757a204f6ef5f54161b532174885c4bf924a262fb977b9499f3960") false
    fnExactPartsOf_holds (fun _ h => by cases h) (by kernel_rfl) (fun _ h => by cases h) fnExactPartsOf_row_tie rfl ⟨rfl, rfl⟩ (by kernel_rfl) rfl
    (fun f fn hf hfn => by
      obtain rfl : f = 5 := Option.some.inj ((show Tryd.prog.funcNamed "loop.example/g00180/laws.FnExactPartsOf" = some 5 by kernel_rfl).symm.trans hf) |>.symm
      obtain rfl : fn = Tryd.f5 := (Option.some.inj (Tryd.func5.symm.trans hfn)).symm
      exact ⟨by kernel_rfl, fun j t ht => by
        rw [Tryd.params5] at ht
        have h3 : t = 9 := by
          rcases j with _ | j
          · simpa using ht.symm
          · simp at ht
        subst h3
        exact (show Tryd.prog.wantsStandIn 9 = false by kernel_rfl)⟩)
    (by kernel_rfl)
#print axioms fnExactPartsOf_card
end Go.Proofs.YtomcapflpephmaaDoor
