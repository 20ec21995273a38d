/- The tied card of the law FnNumbers: its row, and the given tie of the variables that the row lists. -/
import Derived.Test.YtomcapflpephmaaDoorRowFnNumbers
import Derived.Test.YtomcapflpephmaaDoorTie
import Derived.Test.YtomcapflpephmaaDoorCards
import Derived.SevenTiedAt
namespace Go.Proofs.YtomcapflpephmaaDoor
open Go
set_option maxRecDepth 100000
theorem fnNumbers_card : Rows.FnNumbersCardSaid :=
  Claim7.holds_tied_plain_at .later [] [.data, .data, .data] true (true, "d04e875dea757a204f6ef5f54161b532174885c4bf924a262fb977b9499f3960") false
    fnNumbers_holds (fun _ h => by cases h) (by kernel_rfl) (fun _ h => by cases h) fnNumbers_row_tie rfl ⟨rfl, rfl⟩ (by kernel_rfl) rfl
    (fun f fn hf hfn => by
      obtain rfl : f = 6 := Option.some.inj ((show Tryd.prog.funcNamed "loop.example/g00180/laws.FnNumbers" = some 6 by kernel_rfl).symm.trans hf) |>.symm
      obtain rfl : fn = Tryd.f6 := (Option.some.inj (Tryd.func6.symm.trans hfn)).symm
      exact ⟨by kernel_rfl, fun j t ht => by
        rw [Tryd.params6] at ht
        have h3 : t = 32 := by
          rcases j with _ | j
          · simpa using ht.symm
          · simp at ht
        subst h3
        exact (show Tryd.prog.wantsStandIn 32 = false by kernel_rfl)⟩)
    (by kernel_rfl)
#print axioms fnNumbers_card
end Go.Proofs.YtomcapflpephmaaDoor
