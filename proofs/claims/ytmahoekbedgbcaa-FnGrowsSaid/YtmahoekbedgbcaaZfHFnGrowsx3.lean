/- What the row of the law needs of the printed and the plain texts. -/
import Derived.Test.YtmahoekbedgbcaaZfHX
import Derived.Test.YtmahoekbedgbcaaZfHFnGrowsx0
import Derived.Test.YtmahoekbedgbcaaZfHFnGrowsx2
namespace Go.Proofs.Ytmahoekbedgbcaa.HFnGrows
open Go.RowKit Go.Proofs.YtmahoekbedgbcaaW.PrintWords Go.Proofs.YtmahoekbedgbcaaW.PrintLast Go.Proofs.YtmahoekbedgbcaaW.PrintMore
attribute [local go_sem] max2_int min2_int max_two min_two max_three min_three max_four min_four
set_option linter.unusedVariables false
set_option linter.unusedSimpArgs false
def spec_l01In.f (a0 : Int) (a1 : Int) (a2 : Int) : Option (Bool) := if a0 ≥ a1 then (some (decide (a0 ≤ a2))) else (some false)
set_option maxHeartbeats 8000000 in
set_option maxRecDepth 100000 in
theorem spec_l01In.calls (a0 : Int) (a1 : Int) (a2 : Int) (r : Bool) (w : World) (h : spec_l01In.f a0 a1 a2 = some r) :
  Calls Try.prog 62 #[.int .i64 a0, .int .i64 a1, .int .i64 a2] w fun e w' => e = .returned (.bool r) ∧ Drawn0 w w' := by
 have H : (if a0 ≥ a1 then (some (decide (a0 ≤ a2))) else (some false)) = some r := h
 clear h
 by_cases c4 : a0 ≥ a1
 ·rw [if_pos c4] at H
  have c4b0 : decide (a1 ≤ a0) = true := decide_eq_true c4
  clear c4
  obtain rfl := Option.some.inj H
  go_enter Try.func62, Try.ntmps62
  go_wp2
  go_ret
  exact ⟨by first | rfl | (simp; done) | (simp [*]; done), by repeat (first | exact Drawn0.refl _ | apply Drawn0.step)⟩
 ·rw [if_neg c4] at H
  have c4b0 : decide (a1 ≤ a0) = false := decide_eq_false c4
  clear c4
  obtain rfl := Option.some.inj H
  go_enter Try.func62, Try.ntmps62
  go_wp2
  go_ret
  exact ⟨by first | rfl | (simp; done) | (simp [*]; done), by repeat (first | exact Drawn0.refl _ | apply Drawn0.step)⟩
mutual
def spec_l04Right.l0 : Nat → List (S57) → Bool → Int → Option (Bool)
 | 0, _, _, _ => none
 | k + 1, x0, x5, x6 => if x6 < (x0.length : Int) then (if 0 ≤ x6 then (if ((rd_T57 x0 x6).f0).toList = ([] : List UInt8) then (if ((rd_T57 x0 x6).f1) = (-1) then (spec_l04Right.j1 k x0 x5 x6 false ((rd_T57 x0 x6).f0) ((rd_T57 x0 x6).f1)) else (spec_l04Right.j1 k x0 x5 x6 (((rd_T57 x0 x6).f1) != (-2)) ((rd_T57 x0 x6).f0) ((rd_T57 x0 x6).f1))) else (if (((rd_T57 x0 x6).f0).size : Int) > 12 then (some false) else (if ((rd_T57 x0 x6).f1) < 0 then (some false) else ((spec_l04Seek.f k x0 ((rd_T57 x0 x6).f0)).bind fun t111 => (if t111 = x6 then (spec_l04Right.l0 k x0 x5 (wrap64 (x6 + 1))) else (some false)))))) else (none)) else (some x5)
def spec_l04Right.j1 : Nat → List (S57) → Bool → Int → Bool → ByteArray → Int → Option (Bool)
 | 0, _, _, _, _, _, _ => none
 | k + 1, x0, x5, x6, x30, x111000, x111001 => if x30 = true then (some false) else (if x5 = true then (spec_l04Right.l0 k x0 true (wrap64 (x6 + 1))) else (spec_l04Right.l0 k x0 (x111001 == (-1)) (wrap64 (x6 + 1))))
end
def spec_l04Right.f (k : Nat) (l0 : List (S57)) (a1 : Bool) : Option (Bool) := spec_l04Right.l0 k l0 (!a1) 0
set_option maxHeartbeats 8000000 in
set_option maxRecDepth 100000 in
theorem spec_l04Right.calls (k : Nat) (A0 : Option Addr) (c0 : Nat) (l0 : List (S57)) (a1 : Bool) (r : Bool) (w : World) (hr0 : Kd.C k57 w A0 l0.length l0) (hc0 : l0.length ≤ c0) (h : spec_l04Right.f k l0 a1 = some r) :
  Calls Try.prog 63 #[.slice A0 l0.length c0, .bool a1] w fun e w' => e = .returned (.bool r) ∧ Below w.heap.size w w' := by
 have hu57 := Try.underlying57
 have HR0 := am hr0
 have HC0 := am hc0
 clear hr0 hc0
 have HB := am (Below.refl w.heap.size w)
 have H : (spec_l04Right.l0 k l0 (!a1) 0) = some r := h
 clear h
 have H' := am H
 clear H
 go_enter Try.func63, Try.ntmps63
 go_wp2
 go_loopg [5, 6] k (fun kq v5 v6 w' => ∃ (x5_1 : Bool) (x6_1 : Int), v5 = .bool x5_1 ∧ v6 = .int .i64 x6_1 ∧ Aside0 (spec_l04Right.l0 kq l0 x5_1 x6_1 = some r) ∧ Aside0 (kq ≤ k) ∧ Aside0 (Below w.heap.size w w'))
 case atStart => exact ⟨(!a1), (0), (by first | rfl | (simp; done) | (simp [*]; done)), (xQ), H', ⟨Nat.le_refl _⟩, ⟨xW HB.out⟩⟩
 case round =>
  clear H'
  try clear p2
  obtain ⟨x5_1, x6_1, rfl, rfl, HA, HK1, HB⟩ := hrel
  cases gk with
  | zero => exact absurd HA.out (by simp [spec_l04Right.l0])
  | succ k1 =>
   have H := HA.out
   clear HA
   simp only [spec_l04Right.l0] at H
   by_cases c3 : x6_1 < (l0.length : Int)
   ·rw [if_pos c3] at H
    have c3b0 : decide (x6_1 < (l0.length : Int)) = true := decide_eq_true c3
    clear c3
    by_cases c4 : 0 ≤ x6_1
    ·rw [if_pos c4] at H
     have c4b0 : decide (0 ≤ x6_1) = true := decide_eq_true c4
     clear c4
     by_cases c5 : ((rd_T57 l0 x6_1).f0).toList = ([] : List UInt8)
     ·rw [if_pos c5] at H
      have c5b0 : (((rd_T57 l0 x6_1).f0).toList == ([] : List UInt8)) = true := beq_iff_eq.mpr c5
      have c5b1 : (((rd_T57 l0 x6_1).f0).toList != ([] : List UInt8)) = false := bne_eq_false_iff_eq.mpr c5
      clear c5
      have HC6 := am H
      clear H
      have p109 : 0 ≤ (x6_1 : Int) := of_decide_eq_true (by assumption)
      have q109 : x6_1 < (l0.length : Int) := of_decide_eq_true (by assumption)
      obtain ⟨ad109, e109, hx109_0, hx109_1⟩ := at_T57 HR0.out x6_1 p109 q109
      cases e109
      replace hx109_0 := (HB.out.cell (World.block_lt_of_cell? w _ hx109_0)).trans hx109_0
      replace hx109_1 := (HB.out.cell (World.block_lt_of_cell? w _ hx109_1)).trans hx109_1
      replace p109 := eq_true p109
      replace q109 := eq_true q109
      go_upto_region 7 with (first | ((with_reducible refine gate_dst (N := 7) rfl ?_); refine xE (N := 7) (cs := #[.string (⟨#[]⟩ : ByteArray), .int .i64 0]) (t := 57) (h := ?_); intro gb110 hg w7 hbox hb; have BK110 := am (hbox); have GW110 := am (xS hg HB.out); have GE110 := am (xS hg HB.out); replace HB := am (below_step (xW HB.out) hb); clear hb hbox hg; obtain ⟨hcz8_0, hcz8_1, hfz8_0, hfz8_1⟩ := xT2 (W := w7) BK110.out))
      (try simp only [Act.put, List.setIfInBounds_toArray, List.set_cons_zero, List.set_cons_succ])
      go_cut [30] (fun v30 wc => ∃ (kq : Nat) (x30_5 : Bool), v30 = .bool x30_5 ∧ Aside0 (spec_l04Right.j1 kq l0 x5_1 x6_1 x30_5 ((rd_T57 l0 x6_1).f0) ((rd_T57 l0 x6_1).f1) = some r) ∧ Aside0 (kq ≤ k1) ∧ Aside0 (wc.heap[gb110]? = some (.cells #[.string ((rd_T57 l0 x6_1).f0), .int .i64 ((rd_T57 l0 x6_1).f1)] 57 (0, 0))) ∧ Aside0 (Below w.heap.size w wc))
      case first =>
       have H := HC6.out
       clear HC6
       by_cases c9 : ((rd_T57 l0 x6_1).f1) = (-1)
       ·rw [if_pos c9] at H
        have c9b0 : (((rd_T57 l0 x6_1).f1) == (-1)) = true := beq_iff_eq.mpr c9
        have c9b1 : (((rd_T57 l0 x6_1).f1) != (-1)) = false := bne_eq_false_iff_eq.mpr c9
        clear c9
        (first | rw [c9b0] | (simp only [i64_w, i32_w]; rw [c9b0]) | skip)
        have H' := am H
        clear H
        obtain ⟨hcz10_0, hcz10_1, hfz10_0, hfz10_1⟩ := xT2 (W := w7) BK110.out
        go_wp2
        go_meet
        case rel => exact ⟨_, (false), (xQ), H', ⟨by have := HK1.out; first | omega | exact Nat.le_refl _⟩, ⟨xP BK110.out⟩, ⟨xW HB.out⟩⟩
       ·rw [if_neg c9] at H
        have c9b0 : (((rd_T57 l0 x6_1).f1) == (-1)) = false := beq_eq_false_iff_ne.mpr c9
        have c9b1 : (((rd_T57 l0 x6_1).f1) != (-1)) = true := bne_iff_ne.mpr c9
        (first | rw [c9b0] | (simp only [i64_w, i32_w]; rw [c9b0]) | skip)
        have H' := am H
        clear H
        obtain ⟨hcz11_0, hcz11_1, hfz11_0, hfz11_1⟩ := xT2 (W := w7) BK110.out
        go_wp2
        go_meet
        case rel => exact ⟨_, ((((rd_T57 l0 x6_1).f1) != (-2))), (xQ), H', ⟨by have := HK1.out; first | omega | exact Nat.le_refl _⟩, ⟨xP BK110.out⟩, ⟨xW HB.out⟩⟩
      case rest =>
       clear HC6
       try clear p1
       try clear q1
       try clear hx1
       try clear p2
       try clear c3
       try clear c3b0
       try clear c4
       try clear c4b0
       try clear c5
       try clear c5b0
       try clear c5b1
       try clear c6
       try clear c9
       try clear c9b0
       try clear c9b1
       try clear p10
       try clear q10
       try clear hx10
       try clear hcz10_0
       try clear hcz10_1
       try clear hcz11_0
       try clear hcz11_1
       try clear hcz8_0
       try clear hcz8_1
       try clear hfz10_0
       try clear hfz10_1
       try clear hfz11_0
       try clear hfz11_1
       try clear hfz8_0
       try clear hfz8_1
       try clear hx109_0
       try clear hx109_1
       try clear p109
       try clear p2
       try clear q109
       obtain ⟨kq, x30_5, rfl, HA, HJ5, BK110, HB⟩ := hcut
       cases kq with
       | zero => exact absurd HA.out (by simp [spec_l04Right.j1])
       | succ kj5 =>
        have H := HA.out
        clear HA
        simp only [spec_l04Right.j1] at H
        by_cases c12 : x30_5 = true
        ·subst c12
         have H1 : (some false) = some r := by rw [if_pos rfl] at H; exact H
         clear H
         have H := H1
         clear H1
         obtain rfl := Option.some.inj H
         go_wp2
         go_ret
         exact ⟨xV, xW HB.out⟩
        ·replace c12 := Bool.eq_false_iff.mpr c12
         subst c12
         have H1 : (if x5_1 = true then (spec_l04Right.l0 kj5 l0 true (wrap64 (x6_1 + 1))) else (spec_l04Right.l0 kj5 l0 (((rd_T57 l0 x6_1).f1) == (-1)) (wrap64 (x6_1 + 1)))) = some r := by rw [if_neg (show ¬ (false = true) by decide)] at H; exact H
         clear H
         have H := H1
         clear H1
         by_cases c13 : x5_1 = true
         ·subst c13
          have H1 : (spec_l04Right.l0 kj5 l0 true (wrap64 (x6_1 + 1))) = some r := by rw [if_pos rfl] at H; exact H
          clear H
          have H := H1
          clear H1
          have H' := am H
          clear H
          go_wp2
          go_roundg kj5
          case measure => have := HK1.out; have := HJ5.out; omega
          case rel => exact ⟨(true), (wrap64 (x6_1 + 1)), (by first | rfl | (simp; done) | (simp [*]; done)), (xQ), H', ⟨by have := HK1.out; have := HJ5.out; omega⟩, ⟨xW HB.out⟩⟩
         ·replace c13 := Bool.eq_false_iff.mpr c13
          subst c13
          have H1 : (spec_l04Right.l0 kj5 l0 (((rd_T57 l0 x6_1).f1) == (-1)) (wrap64 (x6_1 + 1))) = some r := by rw [if_neg (show ¬ (false = true) by decide)] at H; exact H
          clear H
          have H := H1
          clear H1
          have H' := am H
          clear H
          obtain ⟨hcz14_0, hcz14_1, hfz14_0, hfz14_1⟩ := xT2 (W := wc) BK110.out
          go_wp2
          go_roundg kj5
          case measure => have := HK1.out; have := HJ5.out; omega
          case rel => exact ⟨((((rd_T57 l0 x6_1).f1) == (-1))), (wrap64 (x6_1 + 1)), (by first | rfl | (simp; done) | (simp [*]; done)), (xQ), H', ⟨by have := HK1.out; have := HJ5.out; omega⟩, ⟨xW HB.out⟩⟩
     ·rw [if_neg c5] at H
      have c5b0 : (((rd_T57 l0 x6_1).f0).toList == ([] : List UInt8)) = false := beq_eq_false_iff_ne.mpr c5
      have c5b1 : (((rd_T57 l0 x6_1).f0).toList != ([] : List UInt8)) = true := bne_iff_ne.mpr c5
      by_cases c15 : (((rd_T57 l0 x6_1).f0).size : Int) > 12
      ·rw [if_pos c15] at H
       have c15b0 : decide (12 < (((rd_T57 l0 x6_1).f0).size : Int)) = true := decide_eq_true c15
       have c15b1 : decide (12 < ((rd_T57 l0 x6_1).f0).size) = true := decide_eq_true (by omega)
       clear c15
       obtain rfl := Option.some.inj H
       have p109 : 0 ≤ (x6_1 : Int) := of_decide_eq_true (by assumption)
       have q109 : x6_1 < (l0.length : Int) := of_decide_eq_true (by assumption)
       obtain ⟨ad109, e109, hx109_0, hx109_1⟩ := at_T57 HR0.out x6_1 p109 q109
       cases e109
       replace hx109_0 := (HB.out.cell (World.block_lt_of_cell? w _ hx109_0)).trans hx109_0
       replace hx109_1 := (HB.out.cell (World.block_lt_of_cell? w _ hx109_1)).trans hx109_1
       replace p109 := eq_true p109
       replace q109 := eq_true q109
       go_wp2_with (first | ((with_reducible refine gate_dst (N := 7) rfl ?_); refine xE (N := 7) (cs := #[.string (⟨#[]⟩ : ByteArray), .int .i64 0]) (t := 57) (h := ?_); intro gb110 hg w16 hbox hb; have BK110 := am (hbox); have GW110 := am (xS hg HB.out); have GE110 := am (xS hg HB.out); replace HB := am (below_step (xW HB.out) hb); clear hb hbox hg; obtain ⟨hcz17_0, hcz17_1, hfz17_0, hfz17_1⟩ := xT2 (W := w16) BK110.out))
       go_ret
       exact ⟨xV, xW HB.out⟩
      ·rw [if_neg c15] at H
       have c15b0 : decide (12 < (((rd_T57 l0 x6_1).f0).size : Int)) = false := decide_eq_false c15
       have c15b1 : decide (12 < ((rd_T57 l0 x6_1).f0).size) = false := decide_eq_false (by omega)
       clear c15
       by_cases c18 : ((rd_T57 l0 x6_1).f1) < 0
       ·rw [if_pos c18] at H
        have c18b0 : decide (((rd_T57 l0 x6_1).f1) < 0) = true := decide_eq_true c18
        clear c18
        obtain rfl := Option.some.inj H
        have p109 : 0 ≤ (x6_1 : Int) := of_decide_eq_true (by assumption)
        have q109 : x6_1 < (l0.length : Int) := of_decide_eq_true (by assumption)
        obtain ⟨ad109, e109, hx109_0, hx109_1⟩ := at_T57 HR0.out x6_1 p109 q109
        cases e109
        replace hx109_0 := (HB.out.cell (World.block_lt_of_cell? w _ hx109_0)).trans hx109_0
        replace hx109_1 := (HB.out.cell (World.block_lt_of_cell? w _ hx109_1)).trans hx109_1
        replace p109 := eq_true p109
        replace q109 := eq_true q109
        go_wp2_with (first | ((with_reducible refine gate_dst (N := 7) rfl ?_); refine xE (N := 7) (cs := #[.string (⟨#[]⟩ : ByteArray), .int .i64 0]) (t := 57) (h := ?_); intro gb110 hg w19 hbox hb; have BK110 := am (hbox); have GW110 := am (xS hg HB.out); have GE110 := am (xS hg HB.out); replace HB := am (below_step (xW HB.out) hb); clear hb hbox hg; obtain ⟨hcz20_0, hcz20_1, hfz20_0, hfz20_1⟩ := xT2 (W := w19) BK110.out))
        go_ret
        exact ⟨xV, xW HB.out⟩
       ·rw [if_neg c18] at H
        have c18b0 : decide (((rd_T57 l0 x6_1).f1) < 0) = false := decide_eq_false c18
        clear c18
        replace H := Option.bind_eq_some_iff.mp H
        obtain ⟨t111, A210, H⟩ := H
        try dsimp only at H
        have A21 := am A210
        clear A210
        by_cases c22 : t111 = x6_1
        ·rw [if_pos c22] at H
         have c22b0 : (t111 == x6_1) = true := beq_iff_eq.mpr c22
         have c22b1 : (t111 != x6_1) = false := bne_eq_false_iff_eq.mpr c22
         clear c22
         have H' := am H
         clear H
         have p109 : 0 ≤ (x6_1 : Int) := of_decide_eq_true (by assumption)
         have q109 : x6_1 < (l0.length : Int) := of_decide_eq_true (by assumption)
         obtain ⟨ad109, e109, hx109_0, hx109_1⟩ := at_T57 HR0.out x6_1 p109 q109
         cases e109
         replace hx109_0 := (HB.out.cell (World.block_lt_of_cell? w _ hx109_0)).trans hx109_0
         replace hx109_1 := (HB.out.cell (World.block_lt_of_cell? w _ hx109_1)).trans hx109_1
         replace p109 := eq_true p109
         replace q109 := eq_true q109
         go_wp2_with (first | ((with_reducible refine gate_dst (N := 7) rfl ?_); refine xE (N := 7) (cs := #[.string (⟨#[]⟩ : ByteArray), .int .i64 0]) (t := 57) (h := ?_); intro gb110 hg w23 hbox hb; have BK110 := am (hbox); have GW110 := am (xS hg HB.out); have GE110 := am (xS hg HB.out); replace HB := am (below_step (xW HB.out) hb); clear hb hbox hg; obtain ⟨hcz24_0, hcz24_1, hfz24_0, hfz24_1⟩ := xT2 (W := w23) BK110.out) | (go_at_call 58; (with_reducible refine (spec_l04Seek.calls k1 _ _ l0 ((rd_T57 l0 x6_1).f0) t111 _ ?side1 ?side2 A21.out).mono ?_); (case side1 => exact Kd.C_below HR0.out (xW HB.out)); (case side2 => exact HC0.out); rintro e w25 ⟨rfl, hb⟩; replace BK110 := am (blk_below (xP BK110.out) hb); replace HB := am (below_step (xW HB.out) hb); (try clear hb); ))
         go_roundg k1
         case measure => have := HK1.out; omega
         case rel => exact ⟨(x5_1), (wrap64 (x6_1 + 1)), (by first | rfl | (simp; done) | (simp [*]; done)), (xQ), H', ⟨by have := HK1.out; omega⟩, ⟨xW HB.out⟩⟩
        ·rw [if_neg c22] at H
         have c22b0 : (t111 == x6_1) = false := beq_eq_false_iff_ne.mpr c22
         have c22b1 : (t111 != x6_1) = true := bne_iff_ne.mpr c22
         obtain rfl := Option.some.inj H
         have p109 : 0 ≤ (x6_1 : Int) := of_decide_eq_true (by assumption)
         have q109 : x6_1 < (l0.length : Int) := of_decide_eq_true (by assumption)
         obtain ⟨ad109, e109, hx109_0, hx109_1⟩ := at_T57 HR0.out x6_1 p109 q109
         cases e109
         replace hx109_0 := (HB.out.cell (World.block_lt_of_cell? w _ hx109_0)).trans hx109_0
         replace hx109_1 := (HB.out.cell (World.block_lt_of_cell? w _ hx109_1)).trans hx109_1
         replace p109 := eq_true p109
         replace q109 := eq_true q109
         go_wp2_with (first | ((with_reducible refine gate_dst (N := 7) rfl ?_); refine xE (N := 7) (cs := #[.string (⟨#[]⟩ : ByteArray), .int .i64 0]) (t := 57) (h := ?_); intro gb110 hg w26 hbox hb; have BK110 := am (hbox); have GW110 := am (xS hg HB.out); have GE110 := am (xS hg HB.out); replace HB := am (below_step (xW HB.out) hb); clear hb hbox hg; obtain ⟨hcz27_0, hcz27_1, hfz27_0, hfz27_1⟩ := xT2 (W := w26) BK110.out) | (go_at_call 58; (with_reducible refine (spec_l04Seek.calls k1 _ _ l0 ((rd_T57 l0 x6_1).f0) t111 _ ?side1 ?side2 A21.out).mono ?_); (case side1 => exact Kd.C_below HR0.out (xW HB.out)); (case side2 => exact HC0.out); rintro e w28 ⟨rfl, hb⟩; replace BK110 := am (blk_below (xP BK110.out) hb); replace HB := am (below_step (xW HB.out) hb); (try clear hb); ))
         go_ret
         exact ⟨xV, xW HB.out⟩
    ·rw [if_neg c4] at H
     exact absurd H (by simp)
   ·rw [if_neg c3] at H
    have c3b0 : decide (x6_1 < (l0.length : Int)) = false := decide_eq_false c3
    clear c3
    obtain rfl := Option.some.inj H
    go_wp2
    go_ret
    exact ⟨xV, xW HB.out⟩
end Go.Proofs.Ytmahoekbedgbcaa.HFnGrows
