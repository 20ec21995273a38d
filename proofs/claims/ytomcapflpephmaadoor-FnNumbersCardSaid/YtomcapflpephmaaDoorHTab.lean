/- A table of the program, as it lies when the call begins, carried on while nothing below is written. -/
import Derived.Test.YtomcapflpephmaaDoorShelf
import Derived.Test.YtomcapflpephmaaDoorWWords
import Derived.Below
import Derived.Sort.Grow
import Derived.Lib.LaidTab
import Derived.Lib.ItoaNum
set_option linter.unusedVariables false
namespace Go.Proofs.YtomcapflpephmaaDoorW.PrintWords
open Go.RowKit
theorem itoa_below (w : World) (k : Nat) (os : Array Obj) : Below w.heap.size w (Go.Sort.grow (w.drewN k) os) :=
  (pw_below_drewN (Below.refl _ _) k).trans ⟨rfl, rfl, rfl, by simp, fun i hi => by
    show ((w.drewN k).heap ++ os)[i]? = _
    rw [Array.getElem?_append_left (by show i < (w.drewN k).heap.size; exact hi)]⟩
theorem tab_up {P : Program} {w w' : World} {n : String} {k : IntKind} {zs : List Int} (h : Aside0 (Lib.TabIs P w n k zs)) (hb : Below w.heap.size w w') : Aside0 (Lib.TabIs P w' n k zs) := by
  have h := h.out
  refine ⟨?_⟩
  unfold Lib.TabIs World.var? at h ⊢
  cases hg : P.globalNamed n with
  | none => rw [hg] at h; cases h
  | some g =>
    rw [hg] at h
    simp only [Option.bind_some] at h ⊢
    have hlt : g < w.heap.size := by
      rcases Nat.lt_or_ge g w.heap.size with h' | h'
      · exact h'
      · rw [Array.getElem?_eq_none h'] at h; cases h
    rw [hb.block g hlt]
    exact h
end Go.Proofs.YtomcapflpephmaaDoorW.PrintWords
