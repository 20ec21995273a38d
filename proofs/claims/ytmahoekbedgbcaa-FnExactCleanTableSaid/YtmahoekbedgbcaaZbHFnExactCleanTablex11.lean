/- What the row of the law needs of the printed and the plain texts. -/
import Derived.Test.YtmahoekbedgbcaaZbHX
import Derived.Test.YtmahoekbedgbcaaZbHFnExactCleanTablex0
import Derived.Test.YtmahoekbedgbcaaZbHFnExactCleanTablex10
namespace Go.Proofs.Ytmahoekbedgbcaa.HFnExactCleanTable
open Go.RowKit Go.Proofs.YtmahoekbedgbcaaW.PrintWords Go.Proofs.YtmahoekbedgbcaaW.PrintLast Go.Proofs.YtmahoekbedgbcaaW.PrintMore
attribute [local go_sem] max2_int min2_int max_two min_two max_three min_three max_four min_four
set_option linter.unusedVariables false
set_option linter.unusedSimpArgs false
def impl_cellsOk.l0 : Nat → List (S57) → List (S57) → Int → Int → Option (Bool)
 | 0, _, _, _, _ => none
 | k + 1, x0, x5, x6, x7 => if x7 < x6 then (if 0 ≤ x7 then (if x7 < (x5.length : Int) then (if ((rd_T57 x5 x7).f0).toList = ([] : List UInt8) then (if ((rd_T57 x5 x7).f1) = (-1) then (impl_cellsOk.l0 k x0 x5 x6 (wrap64 (x7 + 1))) else (if ((rd_T57 x5 x7).f1) = (-2) then (impl_cellsOk.l0 k x0 x5 x6 (wrap64 (x7 + 1))) else (some false))) else ((impl_isKey.f ((rd_T57 x5 x7).f0)).bind fun t266 => (if t266 = true then (if ((rd_T57 x5 x7).f1) < 0 then (some false) else ((impl_seek.f k x0 ((rd_T57 x5 x7).f0)).bind fun t267 => (if t267 = x7 then (impl_cellsOk.l0 k x0 x5 x6 (wrap64 (x7 + 1))) else (some false)))) else (some false)))) else (none)) else (none)) else (some true)
def impl_cellsOk.f (k : Nat) (l0 : List (S57)) : Option (Bool) := impl_cellsOk.l0 k l0 l0 (l0.length : Int) 0
set_option maxHeartbeats 8000000 in
set_option maxRecDepth 100000 in
theorem impl_cellsOk.calls (k : Nat) (A0 : Option Addr) (c0 : Nat) (l0 : List (S57)) (r : Bool) (w : World) (hr0 : Kd.C k57 w A0 l0.length l0) (hc0 : l0.length ≤ c0) (h : impl_cellsOk.f k l0 = some r) :
  Calls Try.prog 54 #[.slice A0 l0.length c0] w fun e w' => e = .returned (.bool r) ∧ Below w.heap.size w w' := by
 have hu57 := Try.underlying57
 have HR0 := am hr0
 have HC0 := am hc0
 clear hr0 hc0
 have HB := am (Below.refl w.heap.size w)
 have H : (impl_cellsOk.l0 k l0 l0 (l0.length : Int) 0) = some r := h
 clear h
 have H' := am H
 clear H
 go_enter Try.func54, Try.ntmps54
 go_wp2
 go_loopg [7] k (fun kq v7 w' => ∃ (x7_1 : Int), v7 = .int .i64 x7_1 ∧ Aside0 (impl_cellsOk.l0 kq l0 l0 (l0.length : Int) x7_1 = some r) ∧ Aside0 (kq ≤ k) ∧ Aside0 (Below w.heap.size w w'))
 case atStart => exact ⟨(0), (xQ), H', ⟨Nat.le_refl _⟩, ⟨xW HB.out⟩⟩
 case round =>
  clear H'
  obtain ⟨x7_1, rfl, HA, HK1, HB⟩ := hrel
  cases gk with
  | zero => exact absurd HA.out (by simp [impl_cellsOk.l0])
  | succ k1 =>
   have H := HA.out
   clear HA
   simp only [impl_cellsOk.l0] at H
   by_cases c2 : x7_1 < (l0.length : Int)
   ·rw [if_pos c2] at H
    have c2b0 : decide (x7_1 < (l0.length : Int)) = true := decide_eq_true c2
    clear c2
    by_cases c3 : 0 ≤ x7_1
    ·rw [if_pos c3] at H
     have c3b0 : decide (0 ≤ x7_1) = true := decide_eq_true c3
     clear c3
     by_cases c4 : x7_1 < (l0.length : Int)
     ·rw [if_pos c4] at H
      have c4b0 : decide (x7_1 < (l0.length : Int)) = true := decide_eq_true c4
      clear c4
      by_cases c5 : ((rd_T57 l0 x7_1).f0).toList = ([] : List UInt8)
      ·rw [if_pos c5] at H
       have c5b0 : (((rd_T57 l0 x7_1).f0).toList == ([] : List UInt8)) = true := beq_iff_eq.mpr c5
       have c5b1 : (((rd_T57 l0 x7_1).f0).toList != ([] : List UInt8)) = false := bne_eq_false_iff_eq.mpr c5
       clear c5
       by_cases c6 : ((rd_T57 l0 x7_1).f1) = (-1)
       ·rw [if_pos c6] at H
        have c6b0 : (((rd_T57 l0 x7_1).f1) == (-1)) = true := beq_iff_eq.mpr c6
        have c6b1 : (((rd_T57 l0 x7_1).f1) != (-1)) = false := bne_eq_false_iff_eq.mpr c6
        clear c6
        have H' := am H
        clear H
        have p264 : 0 ≤ (x7_1 : Int) := of_decide_eq_true (by assumption)
        have q264 : x7_1 < (l0.length : Int) := of_decide_eq_true (by assumption)
        obtain ⟨ad264, e264, hx264_0, hx264_1⟩ := at_T57 HR0.out x7_1 p264 q264
        cases e264
        replace hx264_0 := (HB.out.cell (World.block_lt_of_cell? w _ hx264_0)).trans hx264_0
        replace hx264_1 := (HB.out.cell (World.block_lt_of_cell? w _ hx264_1)).trans hx264_1
        replace p264 := eq_true p264
        replace q264 := eq_true q264
        go_wp2_with (first | ((with_reducible refine gate_dst (N := 4) rfl ?_); refine xE (N := 4) (cs := #[.string (⟨#[]⟩ : ByteArray), .int .i64 0]) (t := 57) (h := ?_); intro gb265 hg w7 hbox hb; have n0_ := am (below_step (xW HB.out) hb); have n1_ := am (hbox); have n2_ := am (xS hg HB.out); have n3_ := am (xS hg HB.out); clear HB; have HB := n0_; have BK265 := n1_; have GW265 := n2_; have GE265 := n3_; clear n0_ n1_ n2_ n3_; clear hb hbox hg; obtain ⟨hcz8_0, hcz8_1, hfz8_0, hfz8_1⟩ := xT2 (W := w7) BK265.out))
        go_roundg k1
        case measure => have := HK1.out; omega
        case rel => exact ⟨(wrap64 (x7_1 + 1)), (xQ), H', ⟨by have := HK1.out; omega⟩, ⟨xW HB.out⟩⟩
       ·rw [if_neg c6] at H
        have c6b0 : (((rd_T57 l0 x7_1).f1) == (-1)) = false := beq_eq_false_iff_ne.mpr c6
        have c6b1 : (((rd_T57 l0 x7_1).f1) != (-1)) = true := bne_iff_ne.mpr c6
        by_cases c9 : ((rd_T57 l0 x7_1).f1) = (-2)
        ·rw [if_pos c9] at H
         have c9b0 : (((rd_T57 l0 x7_1).f1) == (-2)) = true := beq_iff_eq.mpr c9
         have c9b1 : (((rd_T57 l0 x7_1).f1) != (-2)) = false := bne_eq_false_iff_eq.mpr c9
         clear c9
         have H' := am H
         clear H
         have p264 : 0 ≤ (x7_1 : Int) := of_decide_eq_true (by assumption)
         have q264 : x7_1 < (l0.length : Int) := of_decide_eq_true (by assumption)
         obtain ⟨ad264, e264, hx264_0, hx264_1⟩ := at_T57 HR0.out x7_1 p264 q264
         cases e264
         replace hx264_0 := (HB.out.cell (World.block_lt_of_cell? w _ hx264_0)).trans hx264_0
         replace hx264_1 := (HB.out.cell (World.block_lt_of_cell? w _ hx264_1)).trans hx264_1
         replace p264 := eq_true p264
         replace q264 := eq_true q264
         go_wp2_with (first | ((with_reducible refine gate_dst (N := 4) rfl ?_); refine xE (N := 4) (cs := #[.string (⟨#[]⟩ : ByteArray), .int .i64 0]) (t := 57) (h := ?_); intro gb265 hg w10 hbox hb; have n0_ := am (below_step (xW HB.out) hb); have n1_ := am (hbox); have n2_ := am (xS hg HB.out); have n3_ := am (xS hg HB.out); clear HB; have HB := n0_; have BK265 := n1_; have GW265 := n2_; have GE265 := n3_; clear n0_ n1_ n2_ n3_; clear hb hbox hg; obtain ⟨hcz11_0, hcz11_1, hfz11_0, hfz11_1⟩ := xT2 (W := w10) BK265.out))
         go_roundg k1
         case measure => have := HK1.out; omega
         case rel => exact ⟨(wrap64 (x7_1 + 1)), (xQ), H', ⟨by have := HK1.out; omega⟩, ⟨xW HB.out⟩⟩
        ·rw [if_neg c9] at H
         have c9b0 : (((rd_T57 l0 x7_1).f1) == (-2)) = false := beq_eq_false_iff_ne.mpr c9
         have c9b1 : (((rd_T57 l0 x7_1).f1) != (-2)) = true := bne_iff_ne.mpr c9
         obtain rfl := Option.some.inj H
         have p264 : 0 ≤ (x7_1 : Int) := of_decide_eq_true (by assumption)
         have q264 : x7_1 < (l0.length : Int) := of_decide_eq_true (by assumption)
         obtain ⟨ad264, e264, hx264_0, hx264_1⟩ := at_T57 HR0.out x7_1 p264 q264
         cases e264
         replace hx264_0 := (HB.out.cell (World.block_lt_of_cell? w _ hx264_0)).trans hx264_0
         replace hx264_1 := (HB.out.cell (World.block_lt_of_cell? w _ hx264_1)).trans hx264_1
         replace p264 := eq_true p264
         replace q264 := eq_true q264
         go_wp2_with (first | ((with_reducible refine gate_dst (N := 4) rfl ?_); refine xE (N := 4) (cs := #[.string (⟨#[]⟩ : ByteArray), .int .i64 0]) (t := 57) (h := ?_); intro gb265 hg w12 hbox hb; have n0_ := am (below_step (xW HB.out) hb); have n1_ := am (hbox); have n2_ := am (xS hg HB.out); have n3_ := am (xS hg HB.out); clear HB; have HB := n0_; have BK265 := n1_; have GW265 := n2_; have GE265 := n3_; clear n0_ n1_ n2_ n3_; clear hb hbox hg; obtain ⟨hcz13_0, hcz13_1, hfz13_0, hfz13_1⟩ := xT2 (W := w12) BK265.out))
         go_ret
         exact ⟨xV, xW HB.out⟩
      ·rw [if_neg c5] at H
       have c5b0 : (((rd_T57 l0 x7_1).f0).toList == ([] : List UInt8)) = false := beq_eq_false_iff_ne.mpr c5
       have c5b1 : (((rd_T57 l0 x7_1).f0).toList != ([] : List UInt8)) = true := bne_iff_ne.mpr c5
       replace H := Option.bind_eq_some_iff.mp H
       obtain ⟨t266, A140, H⟩ := H
       replace H : (if t266 = true then (if ((rd_T57 l0 x7_1).f1) < 0 then (some false) else ((impl_seek.f k1 l0 ((rd_T57 l0 x7_1).f0)).bind fun t267 => (if t267 = x7_1 then (impl_cellsOk.l0 k1 l0 l0 (l0.length : Int) (wrap64 (x7_1 + 1))) else (some false)))) else (some false)) = some r := H
       have A14 := am A140
       clear A140
       by_cases c15 : t266 = true
       ·subst c15
        have H1 : (if ((rd_T57 l0 x7_1).f1) < 0 then (some false) else ((impl_seek.f k1 l0 ((rd_T57 l0 x7_1).f0)).bind fun t267 => (if t267 = x7_1 then (impl_cellsOk.l0 k1 l0 l0 (l0.length : Int) (wrap64 (x7_1 + 1))) else (some false)))) = some r := by rw [if_pos rfl] at H; exact H
        clear H
        have H := H1
        clear H1
        by_cases c16 : ((rd_T57 l0 x7_1).f1) < 0
        ·rw [if_pos c16] at H
         have c16b0 : decide (((rd_T57 l0 x7_1).f1) < 0) = true := decide_eq_true c16
         clear c16
         obtain rfl := Option.some.inj H
         have p264 : 0 ≤ (x7_1 : Int) := of_decide_eq_true (by assumption)
         have q264 : x7_1 < (l0.length : Int) := of_decide_eq_true (by assumption)
         obtain ⟨ad264, e264, hx264_0, hx264_1⟩ := at_T57 HR0.out x7_1 p264 q264
         cases e264
         replace hx264_0 := (HB.out.cell (World.block_lt_of_cell? w _ hx264_0)).trans hx264_0
         replace hx264_1 := (HB.out.cell (World.block_lt_of_cell? w _ hx264_1)).trans hx264_1
         replace p264 := eq_true p264
         replace q264 := eq_true q264
         go_wp2_with (first | ((with_reducible refine gate_dst (N := 4) rfl ?_); refine xE (N := 4) (cs := #[.string (⟨#[]⟩ : ByteArray), .int .i64 0]) (t := 57) (h := ?_); intro gb265 hg w17 hbox hb; have n0_ := am (below_step (xW HB.out) hb); have n1_ := am (hbox); have n2_ := am (xS hg HB.out); have n3_ := am (xS hg HB.out); clear HB; have HB := n0_; have BK265 := n1_; have GW265 := n2_; have GE265 := n3_; clear n0_ n1_ n2_ n3_; clear hb hbox hg; obtain ⟨hcz18_0, hcz18_1, hfz18_0, hfz18_1⟩ := xT2 (W := w17) BK265.out) | ((with_reducible refine gate_callee (f := 74) rfl ?_); refine xG (some 25) 74 Try.func74 #[.string ((rd_T57 l0 x7_1).f0)] (h := ?_); (with_reducible refine (impl_isKey.calls ((rd_T57 l0 x7_1).f0) true _ A14.out).mono ?_); rintro e w' ⟨rfl, ⟨nd, rfl⟩⟩; refine ⟨_, rfl, ?_⟩))
         go_ret
         exact ⟨xV, xW HB.out⟩
        ·rw [if_neg c16] at H
         have c16b0 : decide (((rd_T57 l0 x7_1).f1) < 0) = false := decide_eq_false c16
         clear c16
         replace H := Option.bind_eq_some_iff.mp H
         obtain ⟨t267, A190, H⟩ := H
         replace H : (if t267 = x7_1 then (impl_cellsOk.l0 k1 l0 l0 (l0.length : Int) (wrap64 (x7_1 + 1))) else (some false)) = some r := H
         have A19 := am A190
         clear A190
         by_cases c20 : t267 = x7_1
         ·rw [if_pos c20] at H
          have c20b0 : (t267 == x7_1) = true := beq_iff_eq.mpr c20
          have c20b1 : (t267 != x7_1) = false := bne_eq_false_iff_eq.mpr c20
          clear c20
          have H' := am H
          clear H
          have p264 : 0 ≤ (x7_1 : Int) := of_decide_eq_true (by assumption)
          have q264 : x7_1 < (l0.length : Int) := of_decide_eq_true (by assumption)
          obtain ⟨ad264, e264, hx264_0, hx264_1⟩ := at_T57 HR0.out x7_1 p264 q264
          cases e264
          replace hx264_0 := (HB.out.cell (World.block_lt_of_cell? w _ hx264_0)).trans hx264_0
          replace hx264_1 := (HB.out.cell (World.block_lt_of_cell? w _ hx264_1)).trans hx264_1
          replace p264 := eq_true p264
          replace q264 := eq_true q264
          go_wp2_with (first | ((with_reducible refine gate_dst (N := 4) rfl ?_); refine xE (N := 4) (cs := #[.string (⟨#[]⟩ : ByteArray), .int .i64 0]) (t := 57) (h := ?_); intro gb265 hg w21 hbox hb; have n0_ := am (below_step (xW HB.out) hb); have n1_ := am (hbox); have n2_ := am (xS hg HB.out); have n3_ := am (xS hg HB.out); clear HB; have HB := n0_; have BK265 := n1_; have GW265 := n2_; have GE265 := n3_; clear n0_ n1_ n2_ n3_; clear hb hbox hg; obtain ⟨hcz22_0, hcz22_1, hfz22_0, hfz22_1⟩ := xT2 (W := w21) BK265.out) | ((with_reducible refine gate_callee (f := 74) rfl ?_); refine xG (some 25) 74 Try.func74 #[.string ((rd_T57 l0 x7_1).f0)] (h := ?_); (with_reducible refine (impl_isKey.calls ((rd_T57 l0 x7_1).f0) true _ A14.out).mono ?_); rintro e w' ⟨rfl, ⟨nd, rfl⟩⟩; refine ⟨_, rfl, ?_⟩) | (go_at_call 80; (with_reducible refine (impl_seek.calls k1 _ _ l0 ((rd_T57 l0 x7_1).f0) t267 _ ?side1 ?side2 A19.out).mono ?_); (case side1 => exact Kd.C_below HR0.out (xW HB.out)); (case side2 => exact HC0.out); rintro e w23 ⟨rfl, hb⟩; have n0_ := am (blk_below (xP BK265.out) hb); have n1_ := am (below_step (xW HB.out) hb); clear BK265; clear HB; have BK265 := n0_; have HB := n1_; clear n0_ n1_; (try clear hb); (try clear hb2); (try clear hk); (try clear hi)))
          go_roundg k1
          case measure => have := HK1.out; omega
          case rel => exact ⟨(wrap64 (x7_1 + 1)), (xQ), H', ⟨by have := HK1.out; omega⟩, ⟨xW HB.out⟩⟩
         ·rw [if_neg c20] at H
          have c20b0 : (t267 == x7_1) = false := beq_eq_false_iff_ne.mpr c20
          have c20b1 : (t267 != x7_1) = true := bne_iff_ne.mpr c20
          obtain rfl := Option.some.inj H
          have p264 : 0 ≤ (x7_1 : Int) := of_decide_eq_true (by assumption)
          have q264 : x7_1 < (l0.length : Int) := of_decide_eq_true (by assumption)
          obtain ⟨ad264, e264, hx264_0, hx264_1⟩ := at_T57 HR0.out x7_1 p264 q264
          cases e264
          replace hx264_0 := (HB.out.cell (World.block_lt_of_cell? w _ hx264_0)).trans hx264_0
          replace hx264_1 := (HB.out.cell (World.block_lt_of_cell? w _ hx264_1)).trans hx264_1
          replace p264 := eq_true p264
          replace q264 := eq_true q264
          go_wp2_with (first | ((with_reducible refine gate_dst (N := 4) rfl ?_); refine xE (N := 4) (cs := #[.string (⟨#[]⟩ : ByteArray), .int .i64 0]) (t := 57) (h := ?_); intro gb265 hg w24 hbox hb; have n0_ := am (below_step (xW HB.out) hb); have n1_ := am (hbox); have n2_ := am (xS hg HB.out); have n3_ := am (xS hg HB.out); clear HB; have HB := n0_; have BK265 := n1_; have GW265 := n2_; have GE265 := n3_; clear n0_ n1_ n2_ n3_; clear hb hbox hg; obtain ⟨hcz25_0, hcz25_1, hfz25_0, hfz25_1⟩ := xT2 (W := w24) BK265.out) | ((with_reducible refine gate_callee (f := 74) rfl ?_); refine xG (some 25) 74 Try.func74 #[.string ((rd_T57 l0 x7_1).f0)] (h := ?_); (with_reducible refine (impl_isKey.calls ((rd_T57 l0 x7_1).f0) true _ A14.out).mono ?_); rintro e w' ⟨rfl, ⟨nd, rfl⟩⟩; refine ⟨_, rfl, ?_⟩) | (go_at_call 80; (with_reducible refine (impl_seek.calls k1 _ _ l0 ((rd_T57 l0 x7_1).f0) t267 _ ?side1 ?side2 A19.out).mono ?_); (case side1 => exact Kd.C_below HR0.out (xW HB.out)); (case side2 => exact HC0.out); rintro e w26 ⟨rfl, hb⟩; have n0_ := am (blk_below (xP BK265.out) hb); have n1_ := am (below_step (xW HB.out) hb); clear BK265; clear HB; have BK265 := n0_; have HB := n1_; clear n0_ n1_; (try clear hb); (try clear hb2); (try clear hk); (try clear hi)))
          go_ret
          exact ⟨xV, xW HB.out⟩
       ·replace c15 := Bool.eq_false_iff.mpr c15
        subst c15
        have H1 : (some false) = some r := by rw [if_neg (show ¬ (false = true) by decide)] at H; exact H
        clear H
        have H := H1
        clear H1
        obtain rfl := Option.some.inj H
        have p264 : 0 ≤ (x7_1 : Int) := of_decide_eq_true (by assumption)
        have q264 : x7_1 < (l0.length : Int) := of_decide_eq_true (by assumption)
        obtain ⟨ad264, e264, hx264_0, hx264_1⟩ := at_T57 HR0.out x7_1 p264 q264
        cases e264
        replace hx264_0 := (HB.out.cell (World.block_lt_of_cell? w _ hx264_0)).trans hx264_0
        replace hx264_1 := (HB.out.cell (World.block_lt_of_cell? w _ hx264_1)).trans hx264_1
        replace p264 := eq_true p264
        replace q264 := eq_true q264
        go_wp2_with (first | ((with_reducible refine gate_dst (N := 4) rfl ?_); refine xE (N := 4) (cs := #[.string (⟨#[]⟩ : ByteArray), .int .i64 0]) (t := 57) (h := ?_); intro gb265 hg w27 hbox hb; have n0_ := am (below_step (xW HB.out) hb); have n1_ := am (hbox); have n2_ := am (xS hg HB.out); have n3_ := am (xS hg HB.out); clear HB; have HB := n0_; have BK265 := n1_; have GW265 := n2_; have GE265 := n3_; clear n0_ n1_ n2_ n3_; clear hb hbox hg; obtain ⟨hcz28_0, hcz28_1, hfz28_0, hfz28_1⟩ := xT2 (W := w27) BK265.out) | ((with_reducible refine gate_callee (f := 74) rfl ?_); refine xG (some 25) 74 Try.func74 #[.string ((rd_T57 l0 x7_1).f0)] (h := ?_); (with_reducible refine (impl_isKey.calls ((rd_T57 l0 x7_1).f0) false _ A14.out).mono ?_); rintro e w' ⟨rfl, ⟨nd, rfl⟩⟩; refine ⟨_, rfl, ?_⟩))
        go_ret
        exact ⟨xV, xW HB.out⟩
     ·rw [if_neg c4] at H
      exact absurd H (by simp)
    ·rw [if_neg c3] at H
     exact absurd H (by simp)
   ·rw [if_neg c2] at H
    have c2b0 : decide (x7_1 < (l0.length : Int)) = false := decide_eq_false c2
    clear c2
    obtain rfl := Option.some.inj H
    go_wp2
    go_ret
    exact ⟨xV, xW HB.out⟩
def impl_nones.l0 : Nat → Int → List (S57) → Int → Int → Option (Int)
 | 0, _, _, _, _ => none
 | k + 1, x3, x6, x7, x8 => if x8 < x7 then (if 0 ≤ x8 then (if x8 < (x6.length : Int) then (if ((rd_T57 x6 x8).f0).toList = ([] : List UInt8) then (if ((rd_T57 x6 x8).f1) = (-1) then (impl_nones.l0 k (wrap64 (x3 + 1)) x6 x7 (wrap64 (x8 + 1))) else (impl_nones.l0 k x3 x6 x7 (wrap64 (x8 + 1)))) else (impl_nones.l0 k x3 x6 x7 (wrap64 (x8 + 1)))) else (none)) else (none)) else (some x3)
def impl_nones.f (k : Nat) (l0 : List (S57)) : Option (Int) := impl_nones.l0 k 0 l0 (l0.length : Int) 0
set_option maxHeartbeats 8000000 in
set_option maxRecDepth 100000 in
theorem impl_nones.calls (k : Nat) (A0 : Option Addr) (c0 : Nat) (l0 : List (S57)) (r : Int) (w : World) (hr0 : Kd.C k57 w A0 l0.length l0) (hc0 : l0.length ≤ c0) (h : impl_nones.f k l0 = some r) :
  Calls Try.prog 55 #[.slice A0 l0.length c0] w fun e w' => e = .returned (.int .i64 r) ∧ Below w.heap.size w w' := by
 have hu57 := Try.underlying57
 have HR0 := am hr0
 have HC0 := am hc0
 clear hr0 hc0
 have HB := am (Below.refl w.heap.size w)
 have H : (impl_nones.l0 k 0 l0 (l0.length : Int) 0) = some r := h
 clear h
 have H' := am H
 clear H
 go_enter Try.func55, Try.ntmps55
 go_wp2
 go_loopg [3, 8] k (fun kq v3 v8 w' => ∃ (x3_1 : Int) (x8_1 : Int), v3 = .int .i64 x3_1 ∧ v8 = .int .i64 x8_1 ∧ Aside0 (impl_nones.l0 kq x3_1 l0 (l0.length : Int) x8_1 = some r) ∧ Aside0 (kq ≤ k) ∧ Aside0 (Below w.heap.size w w'))
 case atStart => exact ⟨(0), (0), (by first | rfl | (simp; done) | (simp [*]; done)), (xQ), H', ⟨Nat.le_refl _⟩, ⟨xW HB.out⟩⟩
 case round =>
  clear H'
  obtain ⟨x3_1, x8_1, rfl, rfl, HA, HK1, HB⟩ := hrel
  cases gk with
  | zero => exact absurd HA.out (by simp [impl_nones.l0])
  | succ k1 =>
   have H := HA.out
   clear HA
   simp only [impl_nones.l0] at H
   by_cases c2 : x8_1 < (l0.length : Int)
   ·rw [if_pos c2] at H
    have c2b0 : decide (x8_1 < (l0.length : Int)) = true := decide_eq_true c2
    clear c2
    by_cases c3 : 0 ≤ x8_1
    ·rw [if_pos c3] at H
     have c3b0 : decide (0 ≤ x8_1) = true := decide_eq_true c3
     clear c3
     by_cases c4 : x8_1 < (l0.length : Int)
     ·rw [if_pos c4] at H
      have c4b0 : decide (x8_1 < (l0.length : Int)) = true := decide_eq_true c4
      clear c4
      by_cases c5 : ((rd_T57 l0 x8_1).f0).toList = ([] : List UInt8)
      ·rw [if_pos c5] at H
       have c5b0 : (((rd_T57 l0 x8_1).f0).toList == ([] : List UInt8)) = true := beq_iff_eq.mpr c5
       have c5b1 : (((rd_T57 l0 x8_1).f0).toList != ([] : List UInt8)) = false := bne_eq_false_iff_eq.mpr c5
       clear c5
       by_cases c6 : ((rd_T57 l0 x8_1).f1) = (-1)
       ·rw [if_pos c6] at H
        have c6b0 : (((rd_T57 l0 x8_1).f1) == (-1)) = true := beq_iff_eq.mpr c6
        have c6b1 : (((rd_T57 l0 x8_1).f1) != (-1)) = false := bne_eq_false_iff_eq.mpr c6
        clear c6
        have H' := am H
        clear H
        have p268 : 0 ≤ (x8_1 : Int) := of_decide_eq_true (by assumption)
        have q268 : x8_1 < (l0.length : Int) := of_decide_eq_true (by assumption)
        obtain ⟨ad268, e268, hx268_0, hx268_1⟩ := at_T57 HR0.out x8_1 p268 q268
        cases e268
        replace hx268_0 := (HB.out.cell (World.block_lt_of_cell? w _ hx268_0)).trans hx268_0
        replace hx268_1 := (HB.out.cell (World.block_lt_of_cell? w _ hx268_1)).trans hx268_1
        replace p268 := eq_true p268
        replace q268 := eq_true q268
        go_wp2_with (first | ((with_reducible refine gate_dst (N := 5) rfl ?_); refine xE (N := 5) (cs := #[.string (⟨#[]⟩ : ByteArray), .int .i64 0]) (t := 57) (h := ?_); intro gb269 hg w7 hbox hb; have n0_ := am (below_step (xW HB.out) hb); have n1_ := am (hbox); have n2_ := am (xS hg HB.out); have n3_ := am (xS hg HB.out); clear HB; have HB := n0_; have BK269 := n1_; have GW269 := n2_; have GE269 := n3_; clear n0_ n1_ n2_ n3_; clear hb hbox hg; obtain ⟨hcz8_0, hcz8_1, hfz8_0, hfz8_1⟩ := xT2 (W := w7) BK269.out))
        go_roundg k1
        case measure => have := HK1.out; omega
        case rel => exact ⟨(wrap64 (x3_1 + 1)), (wrap64 (x8_1 + 1)), (by first | rfl | (simp; done) | (simp [*]; done)), (xQ), H', ⟨by have := HK1.out; omega⟩, ⟨xW HB.out⟩⟩
       ·rw [if_neg c6] at H
        have c6b0 : (((rd_T57 l0 x8_1).f1) == (-1)) = false := beq_eq_false_iff_ne.mpr c6
        have c6b1 : (((rd_T57 l0 x8_1).f1) != (-1)) = true := bne_iff_ne.mpr c6
        have H' := am H
        clear H
        have p268 : 0 ≤ (x8_1 : Int) := of_decide_eq_true (by assumption)
        have q268 : x8_1 < (l0.length : Int) := of_decide_eq_true (by assumption)
        obtain ⟨ad268, e268, hx268_0, hx268_1⟩ := at_T57 HR0.out x8_1 p268 q268
        cases e268
        replace hx268_0 := (HB.out.cell (World.block_lt_of_cell? w _ hx268_0)).trans hx268_0
        replace hx268_1 := (HB.out.cell (World.block_lt_of_cell? w _ hx268_1)).trans hx268_1
        replace p268 := eq_true p268
        replace q268 := eq_true q268
        go_wp2_with (first | ((with_reducible refine gate_dst (N := 5) rfl ?_); refine xE (N := 5) (cs := #[.string (⟨#[]⟩ : ByteArray), .int .i64 0]) (t := 57) (h := ?_); intro gb269 hg w9 hbox hb; have n0_ := am (below_step (xW HB.out) hb); have n1_ := am (hbox); have n2_ := am (xS hg HB.out); have n3_ := am (xS hg HB.out); clear HB; have HB := n0_; have BK269 := n1_; have GW269 := n2_; have GE269 := n3_; clear n0_ n1_ n2_ n3_; clear hb hbox hg; obtain ⟨hcz10_0, hcz10_1, hfz10_0, hfz10_1⟩ := xT2 (W := w9) BK269.out))
        go_roundg k1
        case measure => have := HK1.out; omega
        case rel => exact ⟨(x3_1), (wrap64 (x8_1 + 1)), (by first | rfl | (simp; done) | (simp [*]; done)), (xQ), H', ⟨by have := HK1.out; omega⟩, ⟨xW HB.out⟩⟩
      ·rw [if_neg c5] at H
       have c5b0 : (((rd_T57 l0 x8_1).f0).toList == ([] : List UInt8)) = false := beq_eq_false_iff_ne.mpr c5
       have c5b1 : (((rd_T57 l0 x8_1).f0).toList != ([] : List UInt8)) = true := bne_iff_ne.mpr c5
       have H' := am H
       clear H
       have p268 : 0 ≤ (x8_1 : Int) := of_decide_eq_true (by assumption)
       have q268 : x8_1 < (l0.length : Int) := of_decide_eq_true (by assumption)
       obtain ⟨ad268, e268, hx268_0, hx268_1⟩ := at_T57 HR0.out x8_1 p268 q268
       cases e268
       replace hx268_0 := (HB.out.cell (World.block_lt_of_cell? w _ hx268_0)).trans hx268_0
       replace hx268_1 := (HB.out.cell (World.block_lt_of_cell? w _ hx268_1)).trans hx268_1
       replace p268 := eq_true p268
       replace q268 := eq_true q268
       go_wp2_with (first | ((with_reducible refine gate_dst (N := 5) rfl ?_); refine xE (N := 5) (cs := #[.string (⟨#[]⟩ : ByteArray), .int .i64 0]) (t := 57) (h := ?_); intro gb269 hg w11 hbox hb; have n0_ := am (below_step (xW HB.out) hb); have n1_ := am (hbox); have n2_ := am (xS hg HB.out); have n3_ := am (xS hg HB.out); clear HB; have HB := n0_; have BK269 := n1_; have GW269 := n2_; have GE269 := n3_; clear n0_ n1_ n2_ n3_; clear hb hbox hg; obtain ⟨hcz12_0, hcz12_1, hfz12_0, hfz12_1⟩ := xT2 (W := w11) BK269.out))
       go_roundg k1
       case measure => have := HK1.out; omega
       case rel => exact ⟨(x3_1), (wrap64 (x8_1 + 1)), (by first | rfl | (simp; done) | (simp [*]; done)), (xQ), H', ⟨by have := HK1.out; omega⟩, ⟨xW HB.out⟩⟩
     ·rw [if_neg c4] at H
      exact absurd H (by simp)
    ·rw [if_neg c3] at H
     exact absurd H (by simp)
   ·rw [if_neg c2] at H
    have c2b0 : decide (x8_1 < (l0.length : Int)) = false := decide_eq_false c2
    clear c2
    obtain rfl := Option.some.inj H
    go_wp2
    go_ret
    exact ⟨xV, xW HB.out⟩
end Go.Proofs.Ytmahoekbedgbcaa.HFnExactCleanTable
