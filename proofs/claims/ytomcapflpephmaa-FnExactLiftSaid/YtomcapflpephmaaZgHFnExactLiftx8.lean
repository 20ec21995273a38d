/- What the row of the law needs of the printed and the plain texts. -/
import Derived.Test.YtomcapflpephmaaZgHX
import Derived.Test.YtomcapflpephmaaZgHFnExactLiftx0
import Derived.Test.YtomcapflpephmaaZgHFnExactLiftx7
namespace Go.Proofs.Ytomcapflpephmaa.HFnExactLift
open Go.RowKit Go.Proofs.YtomcapflpephmaaW.PrintWords Go.Proofs.YtomcapflpephmaaW.PrintLast Go.Proofs.YtomcapflpephmaaW.PrintMore
attribute [local go_sem] max2_int min2_int max_two min_two max_three min_three max_four min_four
set_option linter.unusedVariables false
set_option linter.unusedSimpArgs false
def laws_heldArena.f (k : Nat) (l0_0 : List (S50)) (a0_1 : Int) (a1 : Int) : Option (Int) := (laws_heldSlotS.f k l0_0 a1).bind fun t240 => (if t240 < 0 then (some (-1)) else (some t240))
set_option maxHeartbeats 8000000 in
set_option maxRecDepth 100000 in
theorem laws_heldArena.calls (k : Nat) (A0_0 : Option Addr) (c0_0 : Nat) (l0_0 : List (S50)) (a0_1 : Int) (a1 : Int) (r : Int) (w : World) (hr0_0 : Kd.C k50 w A0_0 l0_0.length l0_0) (hc0_0 : l0_0.length ≤ c0_0) (h : laws_heldArena.f k l0_0 a0_1 a1 = some r) :
  Calls Try.prog 27 #[.agg #[.slice A0_0 l0_0.length c0_0, .int .i64 a0_1], .int .i64 a1] w fun e w' => e = .returned (.int .i64 r) ∧ Below w.heap.size w w' := by
 have hu42 := Try.underlying42
 have HR0_0 := am hr0_0
 have HC0_0 := am hc0_0
 clear hr0_0 hc0_0
 have HB := am (Below.refl w.heap.size w)
 have H : ((laws_heldSlotS.f k l0_0 a1).bind fun t240 => (if t240 < 0 then (some (-1)) else (some t240))) = some r := h
 clear h
 replace H := Option.bind_eq_some_iff.mp H
 obtain ⟨t240, A30, H⟩ := H
 replace H : (if t240 < 0 then (some (-1)) else (some t240)) = some r := H
 have A3 := am A30
 clear A30
 by_cases c4 : t240 < 0
 ·rw [if_pos c4] at H
  have c4b0 : decide (t240 < 0) = true := decide_eq_true c4
  clear c4
  obtain rfl := Option.some.inj H
  go_enter Try.func27, Try.ntmps27
  go_wp2_with (first | ((with_reducible refine gate_dst (N := 2) rfl ?_); refine xE (N := 2) (cs := #[.slice A0_0 l0_0.length c0_0, .int .i64 a0_1]) (t := 42) (h := ?_); intro gb239 hg w5 hbox hb; have BK239 := am (hbox); have GW239 := am (xS hg HB.out); have GE239 := am (xS hg HB.out); replace HB := am (below_step (xW HB.out) hb); clear hb hbox hg; obtain ⟨hcz6_0, hcz6_1, hfz6_0, hfz6_1⟩ := xT2 (W := w5) BK239.out) | ((with_reducible refine gate_callee (f := 52) rfl ?_); refine xG (some 8) 52 Try.func52 #[.slice A0_0 l0_0.length c0_0, .int .i64 a1] (h := ?_); (with_reducible refine (laws_heldSlotS.calls k _ _ l0_0 a1 t240 _ ?side1 ?side2 A3.out).mono ?_); (case side1 => exact xC (Kd.C_below HR0_0.out HB.out)); (case side2 => exact HC0_0.out); rintro e w7 ⟨rfl, hb⟩; refine ⟨_, rfl, ?_⟩; replace BK239 := am (blk_below (xB BK239.out) hb); replace HB := am (below_step (xW HB.out) hb); (try clear hb); ))
  go_ret
  exact ⟨xV, xW HB.out⟩
 ·rw [if_neg c4] at H
  have c4b0 : decide (t240 < 0) = false := decide_eq_false c4
  clear c4
  obtain rfl := Option.some.inj H
  go_enter Try.func27, Try.ntmps27
  go_wp2_with (first | ((with_reducible refine gate_dst (N := 2) rfl ?_); refine xE (N := 2) (cs := #[.slice A0_0 l0_0.length c0_0, .int .i64 a0_1]) (t := 42) (h := ?_); intro gb239 hg w8 hbox hb; have BK239 := am (hbox); have GW239 := am (xS hg HB.out); have GE239 := am (xS hg HB.out); replace HB := am (below_step (xW HB.out) hb); clear hb hbox hg; obtain ⟨hcz9_0, hcz9_1, hfz9_0, hfz9_1⟩ := xT2 (W := w8) BK239.out) | ((with_reducible refine gate_callee (f := 52) rfl ?_); refine xG (some 8) 52 Try.func52 #[.slice A0_0 l0_0.length c0_0, .int .i64 a1] (h := ?_); (with_reducible refine (laws_heldSlotS.calls k _ _ l0_0 a1 t240 _ ?side1 ?side2 A3.out).mono ?_); (case side1 => exact xC (Kd.C_below HR0_0.out HB.out)); (case side2 => exact HC0_0.out); rintro e w10 ⟨rfl, hb⟩; refine ⟨_, rfl, ?_⟩; replace BK239 := am (blk_below (xB BK239.out) hb); replace HB := am (below_step (xW HB.out) hb); (try clear hb); ))
  go_ret
  exact ⟨xV, xW HB.out⟩
end Go.Proofs.Ytomcapflpephmaa.HFnExactLift
