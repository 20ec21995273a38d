/- What the row of the law needs of the printed and the plain texts. -/
import Derived.Test.YtmahoekbedgbcaaZbHX
import Derived.Test.YtmahoekbedgbcaaZbHFnExactCleanTablex0
import Derived.Test.YtmahoekbedgbcaaZbHFnExactCleanTablex10
import Derived.Test.YtmahoekbedgbcaaZbHFnExactCleanTablex12
import Derived.Test.YtmahoekbedgbcaaZbHFnExactCleanTablex13
namespace Go.Proofs.Ytmahoekbedgbcaa.HFnExactCleanTable
open Go.RowKit Go.Proofs.YtmahoekbedgbcaaW.PrintWords Go.Proofs.YtmahoekbedgbcaaW.PrintLast Go.Proofs.YtmahoekbedgbcaaW.PrintMore
attribute [local go_sem] max2_int min2_int max_two min_two max_three min_three max_four min_four
set_option linter.unusedVariables false
set_option linter.unusedSimpArgs false
def impl_Table_find.f (k : Nat) (l0_0 : List (S57)) (l0_1 : List (S57)) (a0_2 : Int) (a1 : ByteArray) : Option (Int × Bool) := (impl_seek.f k l0_0 a1).bind fun t307 => (if t307 ≥ 0 then (if 0 ≤ t307 then (if t307 < (l0_0.length : Int) then (some ((rd_T57 l0_0 t307).f1, true)) else (none)) else (none)) else ((impl_seek.f k l0_1 a1).bind fun t309 => (if t309 ≥ 0 then (if 0 ≤ t309 then (if t309 < (l0_1.length : Int) then (some ((rd_T57 l0_1 t309).f1, true)) else (none)) else (none)) else (some (0, false)))))
set_option maxHeartbeats 8000000 in
set_option maxRecDepth 100000 in
theorem impl_Table_find.calls (k : Nat) (A0_0 : Option Addr) (c0_0 : Nat) (l0_0 : List (S57)) (A0_1 : Option Addr) (c0_1 : Nat) (l0_1 : List (S57)) (a0_2 : Int) (a1 : ByteArray) (r1 : Int) (r2 : Bool) (w : World) (hr0_0 : Kd.C k57 w A0_0 l0_0.length l0_0) (hc0_0 : l0_0.length ≤ c0_0) (hr0_1 : Kd.C k57 w A0_1 l0_1.length l0_1) (hc0_1 : l0_1.length ≤ c0_1) (h : impl_Table_find.f k l0_0 l0_1 a0_2 a1 = some (r1, r2)) :
  Calls Try.prog 59 #[.agg #[.slice A0_0 l0_0.length c0_0, .slice A0_1 l0_1.length c0_1, .int .i64 a0_2], .string a1] w fun e w' => e = .returned (.tuple #[.int .i64 r1, .bool r2]) ∧ Below w.heap.size w w' := by
 have hu26 := Try.underlying26
 have HR0_0 := am hr0_0
 have HC0_0 := am hc0_0
 clear hr0_0 hc0_0
 have HR0_1 := am hr0_1
 have HC0_1 := am hc0_1
 clear hr0_1 hc0_1
 have HB := am (Below.refl w.heap.size w)
 have H : ((impl_seek.f k l0_0 a1).bind fun t307 => (if t307 ≥ 0 then (if 0 ≤ t307 then (if t307 < (l0_0.length : Int) then (some ((rd_T57 l0_0 t307).f1, true)) else (none)) else (none)) else ((impl_seek.f k l0_1 a1).bind fun t309 => (if t309 ≥ 0 then (if 0 ≤ t309 then (if t309 < (l0_1.length : Int) then (some ((rd_T57 l0_1 t309).f1, true)) else (none)) else (none)) else (some (0, false)))))) = some (r1, r2) := h
 clear h
 replace H := Option.bind_eq_some_iff.mp H
 obtain ⟨t307, A30, H⟩ := H
 replace H : (if t307 ≥ 0 then (if 0 ≤ t307 then (if t307 < (l0_0.length : Int) then (some ((rd_T57 l0_0 t307).f1, true)) else (none)) else (none)) else ((impl_seek.f k l0_1 a1).bind fun t309 => (if t309 ≥ 0 then (if 0 ≤ t309 then (if t309 < (l0_1.length : Int) then (some ((rd_T57 l0_1 t309).f1, true)) else (none)) else (none)) else (some (0, false))))) = some (r1, r2) := H
 have A3 := am A30
 clear A30
 by_cases c4 : t307 ≥ 0
 ·rw [if_pos c4] at H
  have c4b0 : decide (0 ≤ t307) = true := decide_eq_true c4
  clear c4
  by_cases c5 : 0 ≤ t307
  ·rw [if_pos c5] at H
   have c5b0 : decide (0 ≤ t307) = true := decide_eq_true c5
   clear c5
   by_cases c6 : t307 < (l0_0.length : Int)
   ·rw [if_pos c6] at H
    have c6b0 : decide (t307 < (l0_0.length : Int)) = true := decide_eq_true c6
    clear c6
    simp only [Option.some.injEq, Prod.mk.injEq] at H
    obtain ⟨rfl, rfl⟩ := H
    go_enter Try.func59, Try.ntmps59
    go_wp2_with (first | ((with_reducible refine gate_dst (N := 2) rfl ?_); refine xE (N := 2) (cs := #[.slice A0_0 l0_0.length c0_0, .slice A0_1 l0_1.length c0_1, .int .i64 a0_2]) (t := 26) (h := ?_); intro gb306 hg w7 hbox hb; have n0_ := am (below_step (xW HB.out) hb); have n1_ := am (hbox); have n2_ := am (xS hg HB.out); have n3_ := am (xS hg HB.out); clear HB; have HB := n0_; have BK306 := n1_; have GW306 := n2_; have GE306 := n3_; clear n0_ n1_ n2_ n3_; clear hb hbox hg; obtain ⟨hcz8_0, hcz8_1, hcz8_2, hfz8_0, hfz8_1, hfz8_2⟩ := xT3 (W := w7) BK306.out) | ((with_reducible refine gate_callee (f := 80) rfl ?_); refine xG (some 11) 80 Try.func80 #[.slice A0_0 l0_0.length c0_0, .string a1] (h := ?_); (with_reducible refine (impl_seek.calls k _ _ l0_0 a1 t307 _ ?side1 ?side2 A3.out).mono ?_); (case side1 => exact xC (Kd.C_below HR0_0.out HB.out)); (case side2 => exact HC0_0.out); rintro e w9 ⟨rfl, hb⟩; refine ⟨_, rfl, ?_⟩; have n0_ := am (blk_below (xB BK306.out) hb); have n1_ := am (below_step (xW HB.out) hb); clear BK306; clear HB; have BK306 := n0_; have HB := n1_; clear n0_ n1_; (try clear hb); (try clear hb2); (try clear hk); (try clear hi); obtain ⟨hcz10_0, hcz10_1, hcz10_2, hfz10_0, hfz10_1, hfz10_2⟩ := xT3 (W := w9) BK306.out; have p308 : 0 ≤ (t307 : Int) := of_decide_eq_true (by assumption); have q308 : t307 < (l0_0.length : Int) := of_decide_eq_true (by assumption); obtain ⟨ad308, e308, hx308_0, hx308_1⟩ := at_T57 HR0_0.out t307 p308 q308; cases e308; replace hx308_0 := (HB.out.cell (World.block_lt_of_cell? w _ hx308_0)).trans hx308_0; replace hx308_1 := (HB.out.cell (World.block_lt_of_cell? w _ hx308_1)).trans hx308_1; replace p308 := eq_true p308; replace q308 := eq_true q308))
    go_ret2
    exact ⟨xV, xW HB.out⟩
   ·rw [if_neg c6] at H
    exact absurd H (by simp)
  ·rw [if_neg c5] at H
   exact absurd H (by simp)
 ·rw [if_neg c4] at H
  have c4b0 : decide (0 ≤ t307) = false := decide_eq_false c4
  clear c4
  replace H := Option.bind_eq_some_iff.mp H
  obtain ⟨t309, A110, H⟩ := H
  replace H : (if t309 ≥ 0 then (if 0 ≤ t309 then (if t309 < (l0_1.length : Int) then (some ((rd_T57 l0_1 t309).f1, true)) else (none)) else (none)) else (some (0, false))) = some (r1, r2) := H
  have A11 := am A110
  clear A110
  by_cases c12 : t309 ≥ 0
  ·rw [if_pos c12] at H
   have c12b0 : decide (0 ≤ t309) = true := decide_eq_true c12
   clear c12
   by_cases c13 : 0 ≤ t309
   ·rw [if_pos c13] at H
    have c13b0 : decide (0 ≤ t309) = true := decide_eq_true c13
    clear c13
    by_cases c14 : t309 < (l0_1.length : Int)
    ·rw [if_pos c14] at H
     have c14b0 : decide (t309 < (l0_1.length : Int)) = true := decide_eq_true c14
     clear c14
     simp only [Option.some.injEq, Prod.mk.injEq] at H
     obtain ⟨rfl, rfl⟩ := H
     go_enter Try.func59, Try.ntmps59
     go_wp2_with (first | ((with_reducible refine gate_dst (N := 2) rfl ?_); refine xE (N := 2) (cs := #[.slice A0_0 l0_0.length c0_0, .slice A0_1 l0_1.length c0_1, .int .i64 a0_2]) (t := 26) (h := ?_); intro gb306 hg w15 hbox hb; have n0_ := am (below_step (xW HB.out) hb); have n1_ := am (hbox); have n2_ := am (xS hg HB.out); have n3_ := am (xS hg HB.out); clear HB; have HB := n0_; have BK306 := n1_; have GW306 := n2_; have GE306 := n3_; clear n0_ n1_ n2_ n3_; clear hb hbox hg; obtain ⟨hcz16_0, hcz16_1, hcz16_2, hfz16_0, hfz16_1, hfz16_2⟩ := xT3 (W := w15) BK306.out) | ((with_reducible refine gate_callee (f := 80) rfl ?_); refine xG (some 11) 80 Try.func80 #[.slice A0_0 l0_0.length c0_0, .string a1] (h := ?_); (with_reducible refine (impl_seek.calls k _ _ l0_0 a1 t307 _ ?side1 ?side2 A3.out).mono ?_); (case side1 => exact xC (Kd.C_below HR0_0.out HB.out)); (case side2 => exact HC0_0.out); rintro e w17 ⟨rfl, hb⟩; refine ⟨_, rfl, ?_⟩; have n0_ := am (blk_below (xB BK306.out) hb); have n1_ := am (below_step (xW HB.out) hb); clear BK306; clear HB; have BK306 := n0_; have HB := n1_; clear n0_ n1_; (try clear hb); (try clear hb2); (try clear hk); (try clear hi); obtain ⟨hcz18_0, hcz18_1, hcz18_2, hfz18_0, hfz18_1, hfz18_2⟩ := xT3 (W := w17) BK306.out) | ((with_reducible refine gate_callee (f := 80) rfl ?_); refine xG (some 23) 80 Try.func80 #[.slice A0_1 l0_1.length c0_1, .string a1] (h := ?_); (with_reducible refine (impl_seek.calls k _ _ l0_1 a1 t309 _ ?side1 ?side2 A11.out).mono ?_); (case side1 => exact xC (Kd.C_below HR0_1.out HB.out)); (case side2 => exact HC0_1.out); rintro e w19 ⟨rfl, hb⟩; refine ⟨_, rfl, ?_⟩; have n0_ := am (blk_below (xB BK306.out) hb); have n1_ := am (below_step (xW HB.out) hb); clear BK306; clear HB; have BK306 := n0_; have HB := n1_; clear n0_ n1_; (try clear hb); (try clear hb2); (try clear hk); (try clear hi); obtain ⟨hcz20_0, hcz20_1, hcz20_2, hfz20_0, hfz20_1, hfz20_2⟩ := xT3 (W := w19) BK306.out; have p310 : 0 ≤ (t309 : Int) := of_decide_eq_true (by assumption); have q310 : t309 < (l0_1.length : Int) := of_decide_eq_true (by assumption); obtain ⟨ad310, e310, hx310_0, hx310_1⟩ := at_T57 HR0_1.out t309 p310 q310; cases e310; replace hx310_0 := (HB.out.cell (World.block_lt_of_cell? w _ hx310_0)).trans hx310_0; replace hx310_1 := (HB.out.cell (World.block_lt_of_cell? w _ hx310_1)).trans hx310_1; replace p310 := eq_true p310; replace q310 := eq_true q310))
     go_ret2
     exact ⟨xV, xW HB.out⟩
    ·rw [if_neg c14] at H
     exact absurd H (by simp)
   ·rw [if_neg c13] at H
    exact absurd H (by simp)
  ·rw [if_neg c12] at H
   have c12b0 : decide (0 ≤ t309) = false := decide_eq_false c12
   clear c12
   simp only [Option.some.injEq, Prod.mk.injEq] at H
   obtain ⟨rfl, rfl⟩ := H
   go_enter Try.func59, Try.ntmps59
   go_wp2_with (first | ((with_reducible refine gate_dst (N := 2) rfl ?_); refine xE (N := 2) (cs := #[.slice A0_0 l0_0.length c0_0, .slice A0_1 l0_1.length c0_1, .int .i64 a0_2]) (t := 26) (h := ?_); intro gb306 hg w21 hbox hb; have n0_ := am (below_step (xW HB.out) hb); have n1_ := am (hbox); have n2_ := am (xS hg HB.out); have n3_ := am (xS hg HB.out); clear HB; have HB := n0_; have BK306 := n1_; have GW306 := n2_; have GE306 := n3_; clear n0_ n1_ n2_ n3_; clear hb hbox hg; obtain ⟨hcz22_0, hcz22_1, hcz22_2, hfz22_0, hfz22_1, hfz22_2⟩ := xT3 (W := w21) BK306.out) | ((with_reducible refine gate_callee (f := 80) rfl ?_); refine xG (some 11) 80 Try.func80 #[.slice A0_0 l0_0.length c0_0, .string a1] (h := ?_); (with_reducible refine (impl_seek.calls k _ _ l0_0 a1 t307 _ ?side1 ?side2 A3.out).mono ?_); (case side1 => exact xC (Kd.C_below HR0_0.out HB.out)); (case side2 => exact HC0_0.out); rintro e w23 ⟨rfl, hb⟩; refine ⟨_, rfl, ?_⟩; have n0_ := am (blk_below (xB BK306.out) hb); have n1_ := am (below_step (xW HB.out) hb); clear BK306; clear HB; have BK306 := n0_; have HB := n1_; clear n0_ n1_; (try clear hb); (try clear hb2); (try clear hk); (try clear hi); obtain ⟨hcz24_0, hcz24_1, hcz24_2, hfz24_0, hfz24_1, hfz24_2⟩ := xT3 (W := w23) BK306.out) | ((with_reducible refine gate_callee (f := 80) rfl ?_); refine xG (some 23) 80 Try.func80 #[.slice A0_1 l0_1.length c0_1, .string a1] (h := ?_); (with_reducible refine (impl_seek.calls k _ _ l0_1 a1 t309 _ ?side1 ?side2 A11.out).mono ?_); (case side1 => exact xC (Kd.C_below HR0_1.out HB.out)); (case side2 => exact HC0_1.out); rintro e w25 ⟨rfl, hb⟩; refine ⟨_, rfl, ?_⟩; have n0_ := am (blk_below (xB BK306.out) hb); have n1_ := am (below_step (xW HB.out) hb); clear BK306; clear HB; have BK306 := n0_; have HB := n1_; clear n0_ n1_; (try clear hb); (try clear hb2); (try clear hk); (try clear hi)))
   go_ret2
   exact ⟨xV, xW HB.out⟩
def impl_Table_cleaned.l0 : Nat → List ByteArray → Int → Int → List (S57) → List (S57) → Int → List (S57) → Int → Option ((List (S57)) × (List (S57)) × Int × Bool)
 | 0, _, _, _, _, _, _, _, _ => none
 | k + 1, x15, x16, x17, x312000, x312001, x312002, x317000, x317002 => if x17 < x16 then (if 0 ≤ x17 then (if x17 < (x15.length : Int) then ((impl_Table_find.f k x312000 x312001 x312002 (rdOf ByteArray.empty x15 x17)).bind fun bt321 => ((impl_Table_put.f k x317000 ([] : List (S57)) x317002 (rdOf ByteArray.empty x15 x17) bt321.1).bind fun bt323 => (if bt323.1 = true then (impl_Table_cleaned.l0 k x15 x16 (wrap64 (x17 + 1)) x312000 x312001 x312002 bt323.2.1 x317002) else (some (([] : List (S57)), ([] : List (S57)), 0, false))))) else (none)) else (none)) else (some (x317000, ([] : List (S57)), x317002, true))
def impl_Table_cleaned.f (k : Nat) (l0_0 : List (S57)) (l0_1 : List (S57)) (a0_2 : Int) : Option ((List (S57)) × (List (S57)) × Int × Bool) := (impl_newCells.f (l0_0.length : Int)).bind fun t313 => ((impl_Table_keys.f k l0_0 l0_1 a0_2).bind fun t317 => (impl_Table_cleaned.l0 k t317 (t317.length : Int) 0 l0_0 l0_1 a0_2 t313 0))
set_option maxHeartbeats 8000000 in
set_option maxRecDepth 100000 in
theorem impl_Table_cleaned.calls (k : Nat) (A0_0 : Option Addr) (c0_0 : Nat) (l0_0 : List (S57)) (A0_1 : Option Addr) (c0_1 : Nat) (l0_1 : List (S57)) (a0_2 : Int) (r1 : List (S57)) (r2 : List (S57)) (r3 : Int) (r4 : Bool) (w : World) (hr0_0 : Kd.C k57 w A0_0 l0_0.length l0_0) (hc0_0 : l0_0.length ≤ c0_0) (hr0_1 : Kd.C k57 w A0_1 l0_1.length l0_1) (hc0_1 : l0_1.length ≤ c0_1) (h : impl_Table_cleaned.f k l0_0 l0_1 a0_2 = some (r1, r2, r3, r4)) :
  Calls Try.prog 75 #[.agg #[.slice A0_0 l0_0.length c0_0, .slice A0_1 l0_1.length c0_1, .int .i64 a0_2]] w fun e w' => ∃ v0_ v1_ : Value, e = .returned (.tuple #[.agg #[v0_, v1_, .int .i64 r3], .bool r4]) ∧ Kd.R k57 57 w' w.heap.size (fun k_ => some k_ ≠ (v1_ : Value).ownBlock) v0_ r1 ∧ Kd.R k57 57 w' w.heap.size (fun k_ => some k_ ≠ (v0_ : Value).ownBlock) v1_ r2 ∧ Below w.heap.size w w' := by
 have hu26 := Try.underlying26
 have HR0_0 := am hr0_0
 have HC0_0 := am hc0_0
 clear hr0_0 hc0_0
 have HR0_1 := am hr0_1
 have HC0_1 := am hc0_1
 clear hr0_1 hc0_1
 have HB := am (Below.refl w.heap.size w)
 have H : ((impl_newCells.f (l0_0.length : Int)).bind fun t313 => ((impl_Table_keys.f k l0_0 l0_1 a0_2).bind fun t317 => (impl_Table_cleaned.l0 k t317 (t317.length : Int) 0 l0_0 l0_1 a0_2 t313 0))) = some (r1, r2, r3, r4) := h
 clear h
 replace H := Option.bind_eq_some_iff.mp H
 obtain ⟨t313, A20, H⟩ := H
 replace H : ((impl_Table_keys.f k l0_0 l0_1 a0_2).bind fun t317 => (impl_Table_cleaned.l0 k t317 (t317.length : Int) 0 l0_0 l0_1 a0_2 t313 0)) = some (r1, r2, r3, r4) := H
 have A2 := am A20
 clear A20
 replace H := Option.bind_eq_some_iff.mp H
 obtain ⟨t317, A30, H⟩ := H
 replace H : (impl_Table_cleaned.l0 k t317 (t317.length : Int) 0 l0_0 l0_1 a0_2 t313 0) = some (r1, r2, r3, r4) := H
 have A3 := am A30
 clear A30
 have H' := am H
 clear H
 go_enter Try.func75, Try.ntmps75
 go_wp2_with (first | ((with_reducible refine gate_dst (N := 1) rfl ?_); refine xE (N := 1) (cs := #[.slice A0_0 l0_0.length c0_0, .slice A0_1 l0_1.length c0_1, .int .i64 a0_2]) (t := 26) (h := ?_); intro gb311 hg w4 hbox hb; have n0_ := am (below_step (xW HB.out) hb); have n1_ := am (hbox); have n2_ := am (xS hg HB.out); have n3_ := am (xS hg HB.out); clear HB; have HB := n0_; have BK311 := n1_; have GW311 := n2_; have GE311 := n3_; clear n0_ n1_ n2_ n3_; clear hb hbox hg) | ((with_reducible refine gate_dst (N := 2) rfl ?_); refine xE (N := 2) (cs := #[.slice none 0 0, .slice none 0 0, .int .i64 0]) (t := 26) (h := ?_); intro gb312 hg w5 hbox hb; have n0_ := am (blk_below (xB BK311.out) hb); have n1_ := am (below_step (xW HB.out) hb); have n2_ := am (hbox); have n3_ := am (xS hg HB.out); have n4_ := am (xS hg HB.out); have n5_ := am (xN hg BK311.out); have n6_ := am (xM hg BK311.out); clear BK311; clear HB; have BK311 := n0_; have HB := n1_; have BK312 := n2_; have GW312 := n3_; have GE312 := n4_; have NB311_312 := n5_; have NB312_311 := n6_; clear n0_ n1_ n2_ n3_ n4_ n5_ n6_; clear hb hbox hg; have hnb6 := NB311_312.out; have hnc6 := NB312_311.out; obtain ⟨hcz7_0, hcz7_1, hcz7_2, hfz7_0, hfz7_1, hfz7_2⟩ := xT3 (W := w5) BK311.out) | ((with_reducible refine gate_callee (f := 49) rfl ?_); refine xG (some 12) 49 Try.func49 #[.int .i64 (l0_0.length : Int)] (h := ?_); (with_reducible refine (impl_newCells.calls (l0_0.length : Int) t313 _ A2.out).mono ?_); rintro e w8 ⟨v314, rfl, ho0, hb⟩; refine ⟨_, rfl, ?_⟩; have n0_ := am (Kd.R_lower ho0 (below_size (xW HB.out))); have n1_ := am (blk_below (xB BK311.out) hb); have n2_ := am (blk_below (xB BK312.out) hb); have n3_ := am (below_step (xW HB.out) hb); clear BK311; clear BK312; clear HB; have HO315 := n0_; have BK311 := n1_; have BK312 := n2_; have HB := n3_; clear n0_ n1_ n2_ n3_; (try clear hb); (try clear hb2); (try clear hk); (try clear hi); (try clear ho0); obtain ⟨Ao9, co9, eo9⟩ := Kd.R_slice HO315.out; subst eo9) | ((with_reducible refine gate_dst (N := 4) rfl ?_); refine xE (N := 4) (cs := #[.slice none 0 0, .slice none 0 0, .int .i64 0]) (t := 26) (h := ?_); intro gb316 hg w10 hbox hb; have n0_ := am (Kd.R_below (xR HO315.out) hb); have n1_ := am (blk_below (xB BK311.out) hb); have n2_ := am (blk_below (xB BK312.out) hb); have n3_ := am (below_step (xW HB.out) hb); have n4_ := am (hbox); have n5_ := am (xS hg HB.out); have n6_ := am (xS hg HB.out); have n7_ := am (xN hg BK311.out); have n8_ := am (xM hg BK311.out); have n9_ := am (xN hg BK312.out); have n10_ := am (xM hg BK312.out); clear HO315; clear BK311; clear BK312; clear HB; have HO315 := n0_; have BK311 := n1_; have BK312 := n2_; have HB := n3_; have BK316 := n4_; have GW316 := n5_; have GE316 := n6_; have NB311_316 := n7_; have NB316_311 := n8_; have NB312_316 := n9_; have NB316_312 := n10_; clear n0_ n1_ n2_ n3_ n4_ n5_ n6_ n7_ n8_ n9_ n10_; clear hb hbox hg; have hnb11 := NB316_311.out; have hnc11 := NB311_316.out; have hnb12 := NB316_312.out; have hnc12 := NB312_316.out; obtain ⟨hcz13_0, hcz13_1, hcz13_2, hfz13_0, hfz13_1, hfz13_2⟩ := xT3 (W := w10) BK316.out) | ((with_reducible refine gate_store (t := 26) (p := 4) rfl ?_); refine store_event (t := 26) (p := 4) (v := ?vo_w14) (w1 := (((w10.setCell ⟨gb316, 0, none⟩ (.slice Ao9 t313.length co9)).setCell ⟨gb316, 1, none⟩ (.slice none 0 0)).setCell ⟨gb316, 2, none⟩ (.int .i64 0))) ?hg ?ho ?hn ?hr ?_; (case ho => rfl); (case hg => rfl); (case hn => rfl); (case hr => first | (go_simp; done) | (go_simp; rfl)); intro w14 hw; have n0_ : Aside0 (Kd.R k57 57 w14 w.heap.size (fun _ => True) (.slice Ao9 t313.length co9) t313) := ⟨(by rw [hw]; exact (by (with_reducible repeat (first | apply Kd.R_alloc | apply Kd.R_drewN | apply Kd.R_drew)); exact Kd.R_mono (Kd.R_far (p := ⟨gb316, 2, none⟩) (Kd.R_far (p := ⟨gb316, 1, none⟩) (Kd.R_far (p := ⟨gb316, 0, none⟩) (Kd.R_types HO315.out BK316.out (by decide)) (fun _ hk => hk.2) (.slice Ao9 t313.length co9)) (fun _ hk => hk.2) (.slice none 0 0)) (fun _ hk => hk.2) (.int .i64 0)) (fun _ hk => trivial)))⟩; have n1_ : Aside0 (w14.heap[gb311]? = some (.cells #[.slice A0_0 l0_0.length c0_0, .slice A0_1 l0_1.length c0_1, .int .i64 a0_2] 26 (0, 0))) := ⟨(by rw [hw]; exact (xB BK311.out))⟩; have n2_ : Aside0 (w14.heap[gb312]? = some (.cells #[.slice none 0 0, .slice none 0 0, .int .i64 0] 26 (0, 0))) := ⟨(by rw [hw]; exact (xB BK312.out))⟩; have n3_ : Aside0 (w14.heap[gb316]? = some (.cells #[.slice Ao9 t313.length co9, .slice none 0 0, .int .i64 0] 26 (0, 0))) := ⟨(by rw [hw]; exact (xP BK316.out))⟩; have n4_ : Aside0 (Below w.heap.size w w14) := ⟨(by rw [hw]; exact (xW HB.out))⟩; clear hw; clear HO315; clear BK311; clear BK312; clear BK316; clear HB; have HO315 := n0_; have BK311 := n1_; have BK312 := n2_; have BK316 := n3_; have HB := n4_; clear n0_ n1_ n2_ n3_ n4_; obtain ⟨hcz15_0, hcz15_1, hcz15_2, hfz15_0, hfz15_1, hfz15_2⟩ := xT3 (W := w14) BK311.out) | ((with_reducible refine gate_callee (f := 53) rfl ?_); refine xG (some 15) 53 Try.func53 #[.agg #[.slice A0_0 l0_0.length c0_0, .slice A0_1 l0_1.length c0_1, .int .i64 a0_2]] (h := ?_); (with_reducible refine (impl_Table_keys.calls k (fun k_ => k_ < w.heap.size) _ _ l0_0 (fun k_ => k_ < w.heap.size) _ _ l0_1 a0_2 t317 _ ?side1 ?side2 A3.out).mono ?_); (case side1 => exact Kd.V_mk HC0_0.out (Kd.F_below (Kd.C_F k57_heap HR0_0.out) (xW HB.out))); (case side2 => exact Kd.V_mk HC0_1.out (Kd.F_below (Kd.C_F k57_heap HR0_1.out) (xW HB.out))); rintro e w16 ⟨v318, rfl, ho0, hb⟩; refine ⟨_, rfl, ?_⟩; have n0_ := am (Kd.R_below (xR HO315.out) hb); have n1_ := am (Kd.R_lower (Kd.R_mono (ok' := fun k_ => True) ho0 (fun _ hk_ => trivial)) (below_size (xW HB.out))); have n2_ := am (blk_below (xB BK311.out) hb); have n3_ := am (blk_below (xB BK312.out) hb); have n4_ := am (blk_below (xB BK316.out) hb); have n5_ := am (below_step (xW HB.out) hb); clear HO315; clear BK311; clear BK312; clear BK316; clear HB; have HO315 := n0_; have HO319 := n1_; have BK311 := n2_; have BK312 := n3_; have BK316 := n4_; have HB := n5_; clear n0_ n1_ n2_ n3_ n4_ n5_; (try clear hb); (try clear hb2); (try clear hk); (try clear hi); (try clear ho0); obtain ⟨Ao17, co17, eo17⟩ := Kd.R_slice HO319.out; subst eo17))
 go_loopg [17] k (fun kq v17 w' => ∃ (x17_1 : Int) (x313002_1 : Int) (x317000_1 : List (S57)) (u317000 : Value), v17 = .int .i64 x17_1 ∧ Aside0 (impl_Table_cleaned.l0 kq t317 (t317.length : Int) x17_1 l0_0 l0_1 a0_2 x317000_1 0 = some (r1, r2, r3, r4)) ∧ Aside0 (kq ≤ k) ∧ Aside0 (Kd.R Kd.string 9 w' w.heap.size (fun _ => True) (.slice Ao17 t317.length co17) t317) ∧ Aside0 (Kd.R k57 57 w' w.heap.size (fun _ => True) u317000 x317000_1) ∧ Aside0 (w'.heap[gb311]? = some (.cells #[(.slice A0_0 l0_0.length c0_0), (.slice A0_1 l0_1.length c0_1), .int .i64 a0_2] 26 (0, 0))) ∧ Aside0 (w'.heap[gb312]? = some (.cells #[(.slice none 0 0), (.slice none 0 0), .int .i64 x313002_1] 26 (0, 0))) ∧ Aside0 (w'.heap[gb316]? = some (.cells #[u317000, (.slice none 0 0), .int .i64 0] 26 (0, 0))) ∧ Aside0 (Below w.heap.size w w'))
 case atStart => exact ⟨(0), (0), (t313), (.slice Ao9 t313.length co9), (xQ), H', ⟨Nat.le_refl _⟩, ⟨xR HO319.out⟩, ⟨xR HO315.out⟩, ⟨xB BK311.out⟩, ⟨xB BK312.out⟩, ⟨xB BK316.out⟩, ⟨xW HB.out⟩⟩
 case round =>
  clear H'
  try clear c1
  try clear p2
  try clear c4
  try clear c5
  try clear c6
  try clear c7
  try clear c11
  try clear c12
  try clear hcz13_0
  try clear hcz13_1
  try clear hcz13_2
  try clear hcz15_0
  try clear hcz15_1
  try clear hcz15_2
  try clear hcz7_0
  try clear hcz7_1
  try clear hcz7_2
  try clear hfz13_0
  try clear hfz13_1
  try clear hfz13_2
  try clear hfz15_0
  try clear hfz15_1
  try clear hfz15_2
  try clear hfz7_0
  try clear hfz7_1
  try clear hfz7_2
  obtain ⟨x17_1, x313002_1, x317000_1, u317000, rfl, HA, HK1, HO_15, HO_317000, BK311, BK312, BK316, HB⟩ := hrel
  cases gk with
  | zero => exact absurd HA.out (by simp [impl_Table_cleaned.l0])
  | succ k1 =>
   have H := HA.out
   clear HA
   simp only [impl_Table_cleaned.l0] at H
   by_cases c18 : x17_1 < (t317.length : Int)
   ·rw [if_pos c18] at H
    have c18b0 : decide (x17_1 < (t317.length : Int)) = true := decide_eq_true c18
    clear c18
    by_cases c19 : 0 ≤ x17_1
    ·rw [if_pos c19] at H
     have c19b0 : decide (0 ≤ x17_1) = true := decide_eq_true c19
     clear c19
     by_cases c20 : x17_1 < (t317.length : Int)
     ·rw [if_pos c20] at H
      have c20b0 : decide (x17_1 < (t317.length : Int)) = true := decide_eq_true c20
      clear c20
      replace H := Option.bind_eq_some_iff.mp H
      obtain ⟨⟨t321, t322⟩, A210, H⟩ := H
      replace H : ((impl_Table_put.f k1 x317000_1 ([] : List (S57)) 0 (rdOf ByteArray.empty t317 x17_1) t321).bind fun bt323 => (if bt323.1 = true then (impl_Table_cleaned.l0 k1 t317 (t317.length : Int) (wrap64 (x17_1 + 1)) l0_0 l0_1 a0_2 bt323.2.1 0) else (some (([] : List (S57)), ([] : List (S57)), 0, false)))) = some (r1, r2, r3, r4) := H
      have A21 := am A210
      clear A210
      replace H := Option.bind_eq_some_iff.mp H
      obtain ⟨⟨t323, t324, t325⟩, A220, H⟩ := H
      replace H : (if t323 = true then (impl_Table_cleaned.l0 k1 t317 (t317.length : Int) (wrap64 (x17_1 + 1)) l0_0 l0_1 a0_2 t324 0) else (some (([] : List (S57)), ([] : List (S57)), 0, false))) = some (r1, r2, r3, r4) := H
      have A22 := am A220
      clear A220
      by_cases c23 : t323 = true
      ·subst c23
       have H1 : (impl_Table_cleaned.l0 k1 t317 (t317.length : Int) (wrap64 (x17_1 + 1)) l0_0 l0_1 a0_2 t324 0) = some (r1, r2, r3, r4) := by rw [if_pos rfl] at H; exact H
       clear H
       have H := H1
       clear H1
       have H' := am H
       clear H
       have p320 : 0 ≤ (x17_1 : Int) := of_decide_eq_true (by assumption)
       have q320 : x17_1 < (t317.length : Int) := of_decide_eq_true (by assumption)
       obtain ⟨ad320, e320, hx320_0⟩ := Kd.at_string (Kd.R_reads' HO_15.out).2.2 x17_1 p320 q320
       cases e320
       replace p320 := eq_true p320
       replace q320 := eq_true q320
       have hnb24 := NB311_312.out
       have hnc24 := NB312_311.out
       have hnb25 := NB311_316.out
       have hnc25 := NB316_311.out
       obtain ⟨hcz26_0, hcz26_1, hcz26_2, hfz26_0, hfz26_1, hfz26_2⟩ := xT3 (W := wr) BK311.out
       go_wp2_with (first | ((with_reducible refine gate_callee (f := 59) rfl ?_); refine xG (some 24) 59 Try.func59 #[.agg #[.slice A0_0 l0_0.length c0_0, .slice A0_1 l0_1.length c0_1, .int .i64 a0_2], .string (rdOf ByteArray.empty t317 x17_1)] (h := ?_); (with_reducible refine (impl_Table_find.calls k1 _ _ l0_0 _ _ l0_1 a0_2 (rdOf ByteArray.empty t317 x17_1) t321 t322 _ ?side1 ?side2 ?side3 ?side4 A21.out).mono ?_); (case side1 => exact xC (Kd.C_below HR0_0.out HB.out)); (case side2 => exact HC0_0.out); (case side3 => exact xC (Kd.C_below HR0_1.out HB.out)); (case side4 => exact HC0_1.out); rintro e w27 ⟨rfl, hb⟩; refine ⟨_, rfl, ?_⟩; have n0_ := am (Kd.R_below (xR HO_15.out) hb); have n1_ := am (Kd.R_below (xR HO_317000.out) hb); have n2_ := am (blk_below (xB BK311.out) hb); have n3_ := am (blk_below (xB BK312.out) hb); have n4_ := am (blk_below (xB BK316.out) hb); have n5_ := am (below_step (xW HB.out) hb); clear HO_15; clear HO_317000; clear BK311; clear BK312; clear BK316; clear HB; have HO_15 := n0_; have HO_317000 := n1_; have BK311 := n2_; have BK312 := n3_; have BK316 := n4_; have HB := n5_; clear n0_ n1_ n2_ n3_ n4_ n5_; (try clear hb); (try clear hb2); (try clear hk); (try clear hi); have hnb28 := NB316_312.out; have hnc28 := NB312_316.out; obtain ⟨hcz29_0, hcz29_1, hcz29_2, hfz29_0, hfz29_1, hfz29_2⟩ := xT3 (W := w27) BK316.out; obtain ⟨Ao30, co30, eo30⟩ := Kd.R_slice HO_317000.out; subst eo30) | ((with_reducible refine gate_callee (f := 48) rfl ?_); refine xG (some 29) 48 Try.func48 #[.pointer (some ⟨gb316, 0, none⟩), .string (rdOf ByteArray.empty t317 x17_1), .int .i64 t321] (h := ?_); (refine (impl_Table_put.calls k1 (fun k_ => some k_ = (.slice Ao30 x317000_1.length co30 : Value).ownBlock) (.slice Ao30 x317000_1.length co30) x317000_1 (fun k_ => some k_ = (.slice none 0 0 : Value).ownBlock) (.slice none 0 0) ([] : List (S57)) 0 (rdOf ByteArray.empty t317 x17_1) t321 true t324 t325 w _ ?side1 ?side2 ?side3 ?side4 ?side5 A22.out gb316 (xB BK316.out) GE316.out).mono ?_); (case side1 => repeat (first | (with_reducible first | exact HB.out | apply below_alloc | apply pw_below_drewN | apply below_drew1 | refine below_set ?_ GE311.out | refine below_set ?_ GE312.out | refine below_set ?_ GE316.out) | exact HB.out)); (case side2 => exact Kd.R_tight rfl HO_317000.out); (case side3 => intro k_ e_ e2_; simp [Value.ownBlock] at e_ e2_); (case side4 => exact Kd.R_nil _ _ _ _ _); (case side5 => intro k_ e_ e2_; simp [Value.ownBlock] at e_ e2_); rintro e w31 ⟨rfl, hy0, hy1, hb, hkp⟩; refine ⟨_, rfl, ?_⟩; have n0_ := am (Kd.R_mono (ok' := fun k_ => True) (Kd.R_keptB ((Kd.R_apart' HO_15.out (Kd.R_typed HO_317000.out) (by decide))) hkp (fun k_ hk_ hs_ => Or.elim hs_ (fun e_ => (hk_.2) e_) (fun e_ => (fun e_ => by simp [Value.ownBlock] at e_) e_))) (fun k_ hk_ => trivial)); have n1_ := am (Kd.R_reok rfl hy0 (fun k_ e_ => HO_317000.out.1 k_ e_)); have n2_ := am (blk_kept (xB BK311.out) hkp (fun hs_ => Or.elim hs_ (fun e_ => (fun e_ => (Kd.R_ne HO_317000.out BK311.out (by decide)) e_) e_) (fun e_ => (fun e_ => by simp [Value.ownBlock] at e_) e_))); have n3_ := am (blk_kept (xB BK312.out) hkp (fun hs_ => Or.elim hs_ (fun e_ => (fun e_ => (Kd.R_ne HO_317000.out BK312.out (by decide)) e_) e_) (fun e_ => (fun e_ => by simp [Value.ownBlock] at e_) e_))); have n4_ := am (blk_kept (xB BK316.out) hkp (fun hs_ => Or.elim hs_ (fun e_ => (fun e_ => (Kd.R_ne HO_317000.out BK316.out (by decide)) e_) e_) (fun e_ => (fun e_ => by simp [Value.ownBlock] at e_) e_))); have n5_ := am (hb); clear HO_15; clear HO_317000; clear BK311; clear BK312; clear BK316; clear HB; have HO_15 := n0_; have HO_317000 := n1_; have BK311 := n2_; have BK312 := n3_; have BK316 := n4_; have HB := n5_; clear n0_ n1_ n2_ n3_ n4_ n5_; (try clear hb); (try clear hkp); (try clear hy0); (try clear hy1)))
       go_roundg k1
       case measure => have := HK1.out; omega
       case rel => exact ⟨(wrap64 (x17_1 + 1)), (x313002_1), (t324), (.slice Ao30 x317000_1.length co30), (xQ), H', ⟨by have := HK1.out; omega⟩, ⟨xR HO_15.out⟩, ⟨xR HO_317000.out⟩, ⟨xB BK311.out⟩, ⟨xB BK312.out⟩, ⟨xB BK316.out⟩, ⟨xW HB.out⟩⟩
      ·replace c23 := Bool.eq_false_iff.mpr c23
       subst c23
       have H1 : (some (([] : List (S57)), ([] : List (S57)), 0, false)) = some (r1, r2, r3, r4) := by rw [if_neg (show ¬ (false = true) by decide)] at H; exact H
       clear H
       have H := H1
       clear H1
       simp only [Option.some.injEq, Prod.mk.injEq] at H
       obtain ⟨rfl, rfl, rfl, rfl⟩ := H
       have p320 : 0 ≤ (x17_1 : Int) := of_decide_eq_true (by assumption)
       have q320 : x17_1 < (t317.length : Int) := of_decide_eq_true (by assumption)
       obtain ⟨ad320, e320, hx320_0⟩ := Kd.at_string (Kd.R_reads' HO_15.out).2.2 x17_1 p320 q320
       cases e320
       replace p320 := eq_true p320
       replace q320 := eq_true q320
       have hnb32 := NB311_312.out
       have hnc32 := NB312_311.out
       have hnb33 := NB311_316.out
       have hnc33 := NB316_311.out
       obtain ⟨hcz34_0, hcz34_1, hcz34_2, hfz34_0, hfz34_1, hfz34_2⟩ := xT3 (W := wr) BK311.out
       go_wp2_with (first | ((with_reducible refine gate_callee (f := 59) rfl ?_); refine xG (some 24) 59 Try.func59 #[.agg #[.slice A0_0 l0_0.length c0_0, .slice A0_1 l0_1.length c0_1, .int .i64 a0_2], .string (rdOf ByteArray.empty t317 x17_1)] (h := ?_); (with_reducible refine (impl_Table_find.calls k1 _ _ l0_0 _ _ l0_1 a0_2 (rdOf ByteArray.empty t317 x17_1) t321 t322 _ ?side1 ?side2 ?side3 ?side4 A21.out).mono ?_); (case side1 => exact xC (Kd.C_below HR0_0.out HB.out)); (case side2 => exact HC0_0.out); (case side3 => exact xC (Kd.C_below HR0_1.out HB.out)); (case side4 => exact HC0_1.out); rintro e w35 ⟨rfl, hb⟩; refine ⟨_, rfl, ?_⟩; have n0_ := am (Kd.R_below (xR HO_15.out) hb); have n1_ := am (Kd.R_below (xR HO_317000.out) hb); have n2_ := am (blk_below (xB BK311.out) hb); have n3_ := am (blk_below (xB BK312.out) hb); have n4_ := am (blk_below (xB BK316.out) hb); have n5_ := am (below_step (xW HB.out) hb); clear HO_15; clear HO_317000; clear BK311; clear BK312; clear BK316; clear HB; have HO_15 := n0_; have HO_317000 := n1_; have BK311 := n2_; have BK312 := n3_; have BK316 := n4_; have HB := n5_; clear n0_ n1_ n2_ n3_ n4_ n5_; (try clear hb); (try clear hb2); (try clear hk); (try clear hi); have hnb36 := NB316_312.out; have hnc36 := NB312_316.out; obtain ⟨hcz37_0, hcz37_1, hcz37_2, hfz37_0, hfz37_1, hfz37_2⟩ := xT3 (W := w35) BK316.out; obtain ⟨Ao38, co38, eo38⟩ := Kd.R_slice HO_317000.out; subst eo38) | ((with_reducible refine gate_callee (f := 48) rfl ?_); refine xG (some 29) 48 Try.func48 #[.pointer (some ⟨gb316, 0, none⟩), .string (rdOf ByteArray.empty t317 x17_1), .int .i64 t321] (h := ?_); (refine (impl_Table_put.calls k1 (fun k_ => some k_ = (.slice Ao38 x317000_1.length co38 : Value).ownBlock) (.slice Ao38 x317000_1.length co38) x317000_1 (fun k_ => some k_ = (.slice none 0 0 : Value).ownBlock) (.slice none 0 0) ([] : List (S57)) 0 (rdOf ByteArray.empty t317 x17_1) t321 false t324 t325 w _ ?side1 ?side2 ?side3 ?side4 ?side5 A22.out gb316 (xB BK316.out) GE316.out).mono ?_); (case side1 => repeat (first | (with_reducible first | exact HB.out | apply below_alloc | apply pw_below_drewN | apply below_drew1 | refine below_set ?_ GE311.out | refine below_set ?_ GE312.out | refine below_set ?_ GE316.out) | exact HB.out)); (case side2 => exact Kd.R_tight rfl HO_317000.out); (case side3 => intro k_ e_ e2_; simp [Value.ownBlock] at e_ e2_); (case side4 => exact Kd.R_nil _ _ _ _ _); (case side5 => intro k_ e_ e2_; simp [Value.ownBlock] at e_ e2_); rintro e w39 ⟨rfl, hy0, hy1, hb, hkp⟩; refine ⟨_, rfl, ?_⟩; have n0_ := am (Kd.R_mono (ok' := fun k_ => True) (Kd.R_keptB ((Kd.R_apart' HO_15.out (Kd.R_typed HO_317000.out) (by decide))) hkp (fun k_ hk_ hs_ => Or.elim hs_ (fun e_ => (hk_.2) e_) (fun e_ => (fun e_ => by simp [Value.ownBlock] at e_) e_))) (fun k_ hk_ => trivial)); have n1_ := am (Kd.R_reok rfl hy0 (fun k_ e_ => HO_317000.out.1 k_ e_)); have n2_ := am (blk_kept (xB BK311.out) hkp (fun hs_ => Or.elim hs_ (fun e_ => (fun e_ => (Kd.R_ne HO_317000.out BK311.out (by decide)) e_) e_) (fun e_ => (fun e_ => by simp [Value.ownBlock] at e_) e_))); have n3_ := am (blk_kept (xB BK312.out) hkp (fun hs_ => Or.elim hs_ (fun e_ => (fun e_ => (Kd.R_ne HO_317000.out BK312.out (by decide)) e_) e_) (fun e_ => (fun e_ => by simp [Value.ownBlock] at e_) e_))); have n4_ := am (blk_kept (xB BK316.out) hkp (fun hs_ => Or.elim hs_ (fun e_ => (fun e_ => (Kd.R_ne HO_317000.out BK316.out (by decide)) e_) e_) (fun e_ => (fun e_ => by simp [Value.ownBlock] at e_) e_))); have n5_ := am (hb); clear HO_15; clear HO_317000; clear BK311; clear BK312; clear BK316; clear HB; have HO_15 := n0_; have HO_317000 := n1_; have BK311 := n2_; have BK312 := n3_; have BK316 := n4_; have HB := n5_; clear n0_ n1_ n2_ n3_ n4_ n5_; (try clear hb); (try clear hkp); (try clear hy0); (try clear hy1); obtain ⟨hcz40_0, hcz40_1, hcz40_2, hfz40_0, hfz40_1, hfz40_2⟩ := xT3 (W := w39) BK312.out))
       refine bodyPost_ret (results_ct rfl _ _ gb312 26 #[.slice none 0 0, .slice none 0 0, .int .i64 0] (0, 0) _ rfl (xP BK312.out) Try.underlying26 rfl (by kernel_rfl)) rfl ?_
       exact ⟨_, _, xV, by first | exact Kd.R_nil _ _ _ _ _ | exact Kd.N_nil _ _ _ _ _ | exact Kd.V_nil _ _ _ _ _ | exact Kd.Q_nil _ _ _ _ _ | exact Kd.S_nil _ _ _ _ _, by first | exact Kd.R_nil _ _ _ _ _ | exact Kd.N_nil _ _ _ _ _ | exact Kd.V_nil _ _ _ _ _ | exact Kd.Q_nil _ _ _ _ _ | exact Kd.S_nil _ _ _ _ _, xW HB.out⟩
     ·rw [if_neg c20] at H
      exact absurd H (by simp)
    ·rw [if_neg c19] at H
     exact absurd H (by simp)
   ·rw [if_neg c18] at H
    have c18b0 : decide (x17_1 < (t317.length : Int)) = false := decide_eq_false c18
    clear c18
    simp only [Option.some.injEq, Prod.mk.injEq] at H
    obtain ⟨rfl, rfl, rfl, rfl⟩ := H
    have hnb41 := NB316_311.out
    have hnc41 := NB311_316.out
    have hnb42 := NB316_312.out
    have hnc42 := NB312_316.out
    obtain ⟨hcz43_0, hcz43_1, hcz43_2, hfz43_0, hfz43_1, hfz43_2⟩ := xT3 (W := wr) BK316.out
    obtain ⟨Ao44, co44, eo44⟩ := Kd.R_slice HO_317000.out
    subst eo44
    have hnb45 := NB312_311.out
    have hnc45 := NB311_312.out
    obtain ⟨hcz46_0, hcz46_1, hcz46_2, hfz46_0, hfz46_1, hfz46_2⟩ := xT3 (W := wr) BK312.out
    go_wp2
    refine bodyPost_ret (results_ct rfl _ _ gb312 26 #[.slice Ao44 x317000_1.length co44, .slice none 0 0, .int .i64 0] (0, 0) _ rfl (xP BK312.out) Try.underlying26 rfl (by kernel_rfl)) rfl ?_
    exact ⟨_, _, xV, by (with_reducible repeat (first | apply Kd.R_alloc | apply Kd.R_drewN | apply Kd.R_drew)); exact Kd.R_mono (Kd.R_far (p := ⟨gb312, 2, none⟩) (Kd.R_far (p := ⟨gb312, 1, none⟩) (Kd.R_far (p := ⟨gb312, 0, none⟩) (Kd.R_types HO_317000.out BK312.out (by decide)) (fun _ hk => hk.2) (.slice Ao44 x317000_1.length co44)) (fun _ hk => hk.2) (.slice none 0 0)) (fun _ hk => hk.2) (.int .i64 0)) (fun _ hk => (by simp [Value.ownBlock])), by first | exact Kd.R_nil _ _ _ _ _ | exact Kd.N_nil _ _ _ _ _ | exact Kd.V_nil _ _ _ _ _ | exact Kd.Q_nil _ _ _ _ _ | exact Kd.S_nil _ _ _ _ _, xW HB.out⟩
def impl_CleanTable.f (k : Nat) (l0_0 : List (S57)) (l0_1 : List (S57)) (a0_2 : Int) : Option ((List (S57)) × (List (S57)) × Int × Bool) := (impl_TableOk.f k l0_0 l0_1 a0_2).bind fun t328 => (if t328 = true then ((impl_Table_cleaned.f k l0_0 l0_1 a0_2).bind fun bt329 => (some (bt329.1, bt329.2.1, bt329.2.2.1, bt329.2.2.2))) else (some (([] : List (S57)), ([] : List (S57)), 0, false)))
set_option maxHeartbeats 8000000 in
set_option maxRecDepth 100000 in
theorem impl_CleanTable.calls (k : Nat) (A0_0 : Option Addr) (c0_0 : Nat) (l0_0 : List (S57)) (A0_1 : Option Addr) (c0_1 : Nat) (l0_1 : List (S57)) (a0_2 : Int) (r1 : List (S57)) (r2 : List (S57)) (r3 : Int) (r4 : Bool) (w : World) (hr0_0 : Kd.C k57 w A0_0 l0_0.length l0_0) (hc0_0 : l0_0.length ≤ c0_0) (hr0_1 : Kd.C k57 w A0_1 l0_1.length l0_1) (hc0_1 : l0_1.length ≤ c0_1) (h : impl_CleanTable.f k l0_0 l0_1 a0_2 = some (r1, r2, r3, r4)) :
  Calls Try.prog 43 #[.agg #[.slice A0_0 l0_0.length c0_0, .slice A0_1 l0_1.length c0_1, .int .i64 a0_2]] w fun e w' => ∃ v0_ v1_ : Value, e = .returned (.tuple #[.agg #[v0_, v1_, .int .i64 r3], .bool r4]) ∧ Kd.R k57 57 w' w.heap.size (fun k_ => some k_ ≠ (v1_ : Value).ownBlock) v0_ r1 ∧ Kd.R k57 57 w' w.heap.size (fun k_ => some k_ ≠ (v0_ : Value).ownBlock) v1_ r2 ∧ Below w.heap.size w w' := by
 have hu26 := Try.underlying26
 have HR0_0 := am hr0_0
 have HC0_0 := am hc0_0
 clear hr0_0 hc0_0
 have HR0_1 := am hr0_1
 have HC0_1 := am hc0_1
 clear hr0_1 hc0_1
 have HB := am (Below.refl w.heap.size w)
 have H : ((impl_TableOk.f k l0_0 l0_1 a0_2).bind fun t328 => (if t328 = true then ((impl_Table_cleaned.f k l0_0 l0_1 a0_2).bind fun bt329 => (some (bt329.1, bt329.2.1, bt329.2.2.1, bt329.2.2.2))) else (some (([] : List (S57)), ([] : List (S57)), 0, false)))) = some (r1, r2, r3, r4) := h
 clear h
 replace H := Option.bind_eq_some_iff.mp H
 obtain ⟨t328, A20, H⟩ := H
 replace H : (if t328 = true then ((impl_Table_cleaned.f k l0_0 l0_1 a0_2).bind fun bt329 => (some (bt329.1, bt329.2.1, bt329.2.2.1, bt329.2.2.2))) else (some (([] : List (S57)), ([] : List (S57)), 0, false))) = some (r1, r2, r3, r4) := H
 have A2 := am A20
 clear A20
 by_cases c3 : t328 = true
 ·subst c3
  have H1 : ((impl_Table_cleaned.f k l0_0 l0_1 a0_2).bind fun bt329 => (some (bt329.1, bt329.2.1, bt329.2.2.1, bt329.2.2.2))) = some (r1, r2, r3, r4) := by rw [if_pos rfl] at H; exact H
  clear H
  have H := H1
  clear H1
  replace H := Option.bind_eq_some_iff.mp H
  obtain ⟨⟨t329, t332, t335, t336⟩, A40, H⟩ := H
  replace H : (some (t329, t332, t335, t336)) = some (r1, r2, r3, r4) := H
  have A4 := am A40
  clear A40
  simp only [Option.some.injEq, Prod.mk.injEq] at H
  obtain ⟨rfl, rfl, rfl, rfl⟩ := H
  go_enter Try.func43, Try.ntmps43
  go_wp2_with (first | ((with_reducible refine gate_dst (N := 1) rfl ?_); refine xE (N := 1) (cs := #[.slice A0_0 l0_0.length c0_0, .slice A0_1 l0_1.length c0_1, .int .i64 a0_2]) (t := 26) (h := ?_); intro gb326 hg w5 hbox hb; have n0_ := am (below_step (xW HB.out) hb); have n1_ := am (hbox); have n2_ := am (xS hg HB.out); have n3_ := am (xS hg HB.out); clear HB; have HB := n0_; have BK326 := n1_; have GW326 := n2_; have GE326 := n3_; clear n0_ n1_ n2_ n3_; clear hb hbox hg) | ((with_reducible refine gate_dst (N := 2) rfl ?_); refine xE (N := 2) (cs := #[.slice none 0 0, .slice none 0 0, .int .i64 0]) (t := 26) (h := ?_); intro gb327 hg w6 hbox hb; have n0_ := am (blk_below (xB BK326.out) hb); have n1_ := am (below_step (xW HB.out) hb); have n2_ := am (hbox); have n3_ := am (xS hg HB.out); have n4_ := am (xS hg HB.out); have n5_ := am (xN hg BK326.out); have n6_ := am (xM hg BK326.out); clear BK326; clear HB; have BK326 := n0_; have HB := n1_; have BK327 := n2_; have GW327 := n3_; have GE327 := n4_; have NB326_327 := n5_; have NB327_326 := n6_; clear n0_ n1_ n2_ n3_ n4_ n5_ n6_; clear hb hbox hg; have hnb7 := NB326_327.out; have hnc7 := NB327_326.out; obtain ⟨hcz8_0, hcz8_1, hcz8_2, hfz8_0, hfz8_1, hfz8_2⟩ := xT3 (W := w6) BK326.out) | ((with_reducible refine gate_callee (f := 18) rfl ?_); refine xG (some 5) 18 Try.func18 #[.agg #[.slice A0_0 l0_0.length c0_0, .slice A0_1 l0_1.length c0_1, .int .i64 a0_2]] (h := ?_); (with_reducible refine (impl_TableOk.calls k _ _ l0_0 _ _ l0_1 a0_2 true _ ?side1 ?side2 ?side3 ?side4 A2.out).mono ?_); (case side1 => exact xC (Kd.C_below HR0_0.out HB.out)); (case side2 => exact HC0_0.out); (case side3 => exact xC (Kd.C_below HR0_1.out HB.out)); (case side4 => exact HC0_1.out); rintro e w9 ⟨rfl, hb⟩; refine ⟨_, rfl, ?_⟩; have n0_ := am (blk_below (xB BK326.out) hb); have n1_ := am (blk_below (xB BK327.out) hb); have n2_ := am (below_step (xW HB.out) hb); clear BK326; clear BK327; clear HB; have BK326 := n0_; have BK327 := n1_; have HB := n2_; clear n0_ n1_ n2_; (try clear hb); (try clear hb2); (try clear hk); (try clear hi); obtain ⟨hcz10_0, hcz10_1, hcz10_2, hfz10_0, hfz10_1, hfz10_2⟩ := xT3 (W := w9) BK326.out) | ((with_reducible refine gate_callee (f := 75) rfl ?_); refine xG (some 9) 75 Try.func75 #[.agg #[.slice A0_0 l0_0.length c0_0, .slice A0_1 l0_1.length c0_1, .int .i64 a0_2]] (h := ?_); (with_reducible refine (impl_Table_cleaned.calls k _ _ l0_0 _ _ l0_1 a0_2 t329 t332 t335 t336 _ ?side1 ?side2 ?side3 ?side4 A4.out).mono ?_); (case side1 => exact xC (Kd.C_below HR0_0.out HB.out)); (case side2 => exact HC0_0.out); (case side3 => exact xC (Kd.C_below HR0_1.out HB.out)); (case side4 => exact HC0_1.out); rintro e w11 ⟨v330, v333, rfl, ho0, ho1, hb⟩; refine ⟨_, rfl, ?_⟩; have n0_ := am (Kd.R_lower ho0 (below_size (xW HB.out))); have n1_ := am (Kd.R_lower ho1 (below_size (xW HB.out))); have n2_ := am (blk_below (xB BK326.out) hb); have n3_ := am (blk_below (xB BK327.out) hb); have n4_ := am (below_step (xW HB.out) hb); clear BK326; clear BK327; clear HB; have HO331 := n0_; have HO334 := n1_; have BK326 := n2_; have BK327 := n3_; have HB := n4_; clear n0_ n1_ n2_ n3_ n4_; (try clear hb); (try clear hb2); (try clear hk); (try clear hi); (try clear ho0); (try clear ho1); obtain ⟨Ao12, co12, eo12⟩ := Kd.R_slice HO331.out; subst eo12; obtain ⟨hcz13_0, hcz13_1, hcz13_2, hfz13_0, hfz13_1, hfz13_2⟩ := xT3 (W := w11) BK327.out; obtain ⟨Ao14, co14, eo14⟩ := Kd.R_slice HO334.out; subst eo14))
  refine bodyPost_ret (results_ct rfl _ _ gb327 26 #[.slice Ao12 t329.length co12, .slice Ao14 t332.length co14, .int .i64 t335] (0, 0) _ rfl (xP BK327.out) Try.underlying26 rfl (by kernel_rfl)) rfl ?_
  exact ⟨_, _, xV, xR HO331.out, xR HO334.out, xW HB.out⟩
 ·replace c3 := Bool.eq_false_iff.mpr c3
  subst c3
  have H1 : (some (([] : List (S57)), ([] : List (S57)), 0, false)) = some (r1, r2, r3, r4) := by rw [if_neg (show ¬ (false = true) by decide)] at H; exact H
  clear H
  have H := H1
  clear H1
  simp only [Option.some.injEq, Prod.mk.injEq] at H
  obtain ⟨rfl, rfl, rfl, rfl⟩ := H
  go_enter Try.func43, Try.ntmps43
  go_wp2_with (first | ((with_reducible refine gate_dst (N := 1) rfl ?_); refine xE (N := 1) (cs := #[.slice A0_0 l0_0.length c0_0, .slice A0_1 l0_1.length c0_1, .int .i64 a0_2]) (t := 26) (h := ?_); intro gb326 hg w15 hbox hb; have n0_ := am (below_step (xW HB.out) hb); have n1_ := am (hbox); have n2_ := am (xS hg HB.out); have n3_ := am (xS hg HB.out); clear HB; have HB := n0_; have BK326 := n1_; have GW326 := n2_; have GE326 := n3_; clear n0_ n1_ n2_ n3_; clear hb hbox hg) | ((with_reducible refine gate_dst (N := 2) rfl ?_); refine xE (N := 2) (cs := #[.slice none 0 0, .slice none 0 0, .int .i64 0]) (t := 26) (h := ?_); intro gb327 hg w16 hbox hb; have n0_ := am (blk_below (xB BK326.out) hb); have n1_ := am (below_step (xW HB.out) hb); have n2_ := am (hbox); have n3_ := am (xS hg HB.out); have n4_ := am (xS hg HB.out); have n5_ := am (xN hg BK326.out); have n6_ := am (xM hg BK326.out); clear BK326; clear HB; have BK326 := n0_; have HB := n1_; have BK327 := n2_; have GW327 := n3_; have GE327 := n4_; have NB326_327 := n5_; have NB327_326 := n6_; clear n0_ n1_ n2_ n3_ n4_ n5_ n6_; clear hb hbox hg; have hnb17 := NB326_327.out; have hnc17 := NB327_326.out; obtain ⟨hcz18_0, hcz18_1, hcz18_2, hfz18_0, hfz18_1, hfz18_2⟩ := xT3 (W := w16) BK326.out) | ((with_reducible refine gate_callee (f := 18) rfl ?_); refine xG (some 5) 18 Try.func18 #[.agg #[.slice A0_0 l0_0.length c0_0, .slice A0_1 l0_1.length c0_1, .int .i64 a0_2]] (h := ?_); (with_reducible refine (impl_TableOk.calls k _ _ l0_0 _ _ l0_1 a0_2 false _ ?side1 ?side2 ?side3 ?side4 A2.out).mono ?_); (case side1 => exact xC (Kd.C_below HR0_0.out HB.out)); (case side2 => exact HC0_0.out); (case side3 => exact xC (Kd.C_below HR0_1.out HB.out)); (case side4 => exact HC0_1.out); rintro e w19 ⟨rfl, hb⟩; refine ⟨_, rfl, ?_⟩; have n0_ := am (blk_below (xB BK326.out) hb); have n1_ := am (blk_below (xB BK327.out) hb); have n2_ := am (below_step (xW HB.out) hb); clear BK326; clear BK327; clear HB; have BK326 := n0_; have BK327 := n1_; have HB := n2_; clear n0_ n1_ n2_; (try clear hb); (try clear hb2); (try clear hk); (try clear hi); obtain ⟨hcz20_0, hcz20_1, hcz20_2, hfz20_0, hfz20_1, hfz20_2⟩ := xT3 (W := w19) BK327.out))
  refine bodyPost_ret (results_ct rfl _ _ gb327 26 #[.slice none 0 0, .slice none 0 0, .int .i64 0] (0, 0) _ rfl (xP BK327.out) Try.underlying26 rfl (by kernel_rfl)) rfl ?_
  exact ⟨_, _, xV, by first | exact Kd.R_nil _ _ _ _ _ | exact Kd.N_nil _ _ _ _ _ | exact Kd.V_nil _ _ _ _ _ | exact Kd.Q_nil _ _ _ _ _ | exact Kd.S_nil _ _ _ _ _, by first | exact Kd.R_nil _ _ _ _ _ | exact Kd.N_nil _ _ _ _ _ | exact Kd.V_nil _ _ _ _ _ | exact Kd.Q_nil _ _ _ _ _ | exact Kd.S_nil _ _ _ _ _, xW HB.out⟩
end Go.Proofs.Ytmahoekbedgbcaa.HFnExactCleanTable
