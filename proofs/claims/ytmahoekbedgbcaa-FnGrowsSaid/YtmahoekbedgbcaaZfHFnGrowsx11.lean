/- What the row of the law needs of the printed and the plain texts. -/
import Derived.Test.YtmahoekbedgbcaaZfHX
import Derived.Test.YtmahoekbedgbcaaZfHFnGrowsx0
import Derived.Test.YtmahoekbedgbcaaZfHFnGrowsx10
namespace Go.Proofs.Ytmahoekbedgbcaa.HFnGrows
open Go.RowKit Go.Proofs.YtmahoekbedgbcaaW.PrintWords Go.Proofs.YtmahoekbedgbcaaW.PrintLast Go.Proofs.YtmahoekbedgbcaaW.PrintMore
attribute [local go_sem] max2_int min2_int max_two min_two max_three min_three max_four min_four
set_option linter.unusedVariables false
set_option linter.unusedSimpArgs false
mutual
def impl_seek.l0 : Nat → List (S57) → ByteArray → Int → Int → Int → Option (Int)
 | 0, _, _, _, _, _ => none
 | k + 1, x0, x1, x5, x16, x17 => if x17 < x16 then (if 0 ≤ x5 then (if x5 < (x0.length : Int) then (if ((rd_T57 x0 x5).f0).toList = x1.toList then (impl_seek.j1 k x0 x1 x5 x16 x17 (x1.toList != ([] : List UInt8)) ((rd_T57 x0 x5).f0) ((rd_T57 x0 x5).f1)) else (impl_seek.j1 k x0 x1 x5 x16 x17 false ((rd_T57 x0 x5).f0) ((rd_T57 x0 x5).f1))) else (none)) else (none)) else (some (-1))
def impl_seek.j1 : Nat → List (S57) → ByteArray → Int → Int → Int → Bool → ByteArray → Int → Option (Int)
 | 0, _, _, _, _, _, _, _, _ => none
 | k + 1, x0, x1, x5, x16, x17, x23, x364000, x364001 => if x23 = true then (some x5) else (if x364000.toList = ([] : List UInt8) then (if x364001 = (-1) then (some (-1)) else (if (x0.length : Int) = 0 then (none) else (impl_seek.l0 k x0 x1 (Int.tmod (wrap64 (x5 + 1)) (x0.length : Int)) x16 (wrap64 (x17 + 1))))) else (if (x0.length : Int) = 0 then (none) else (impl_seek.l0 k x0 x1 (Int.tmod (wrap64 (x5 + 1)) (x0.length : Int)) x16 (wrap64 (x17 + 1)))))
end
def impl_seek.f (k : Nat) (l0 : List (S57)) (a1 : ByteArray) : Option (Int) := if (l0.length : Int) = 0 then (some (-1)) else ((impl_HashOf.f k a1 0).bind fun t361 => (impl_seek.l0 k l0 a1 (Int.tmod t361 (l0.length : Int)) (l0.length : Int) 0))
set_option maxHeartbeats 8000000 in
set_option maxRecDepth 100000 in
theorem impl_seek.calls (k : Nat) (A0 : Option Addr) (c0 : Nat) (l0 : List (S57)) (a1 : ByteArray) (r : Int) (w : World) (hr0 : Kd.C k57 w A0 l0.length l0) (hc0 : l0.length ≤ c0) (h : impl_seek.f k l0 a1 = some r) :
  Calls Try.prog 80 #[.slice A0 l0.length c0, .string a1] w fun e w' => e = .returned (.int .i64 r) ∧ Below w.heap.size w w' := by
 have hu57 := Try.underlying57
 have HR0 := am hr0
 have HC0 := am hc0
 clear hr0 hc0
 have HB := am (Below.refl w.heap.size w)
 have H : (if (l0.length : Int) = 0 then (some (-1)) else ((impl_HashOf.f k a1 0).bind fun t361 => (impl_seek.l0 k l0 a1 (Int.tmod t361 (l0.length : Int)) (l0.length : Int) 0))) = some r := h
 clear h
 by_cases c3 : (l0.length : Int) = 0
 ·rw [if_pos c3] at H
  have c3b0 : ((l0.length : Int) == 0) = true := beq_iff_eq.mpr c3
  have c3b1 : ((l0.length : Int) != 0) = false := bne_eq_false_iff_eq.mpr c3
  clear c3
  obtain rfl := Option.some.inj H
  go_enter Try.func80, Try.ntmps80
  go_wp2
  go_ret
  exact ⟨xV, xW HB.out⟩
 ·rw [if_neg c3] at H
  have c3b0 : ((l0.length : Int) == 0) = false := beq_eq_false_iff_ne.mpr c3
  have c3b1 : ((l0.length : Int) != 0) = true := bne_iff_ne.mpr c3
  have c3b2 : ¬ (l0 = []) := fun h_ => c3 (by rw [h_]; rfl)
  replace H := Option.bind_eq_some_iff.mp H
  obtain ⟨t361, A40, H⟩ := H
  try dsimp only at H
  have A4 := am A40
  clear A40
  have H' := am H
  clear H
  go_enter Try.func80, Try.ntmps80
  go_wp2_with (first | ((with_reducible refine gate_callee (f := 81) rfl ?_); refine xG (some 11) 81 Try.func81 #[.string a1, .int .i64 0] (h := ?_); (with_reducible refine (impl_HashOf.calls k a1 0 t361 _ A4.out).mono ?_); rintro e w5 ⟨rfl, hb⟩; refine ⟨_, rfl, ?_⟩; replace HB := am (below_step (xW HB.out) hb); (try clear hb); ))
  go_loopg [5, 17] k (fun kq v5 v17 w' => ∃ (x5_1 : Int) (x17_1 : Int), v5 = .int .i64 x5_1 ∧ v17 = .int .i64 x17_1 ∧ Aside0 (impl_seek.l0 kq l0 a1 x5_1 (l0.length : Int) x17_1 = some r) ∧ Aside0 (kq ≤ k) ∧ Aside0 (Below w.heap.size w w'))
  case atStart => exact ⟨(Int.tmod t361 (l0.length : Int)), (0), (by first | rfl | (simp; done) | (simp [*]; done)), (xQ), H', ⟨Nat.le_refl _⟩, ⟨xW HB.out⟩⟩
  case round =>
   clear H'
   try clear p2
   try clear c3
   try clear c3b0
   try clear c3b1
   try clear c3b2
   obtain ⟨x5_1, x17_1, rfl, rfl, HA, HK1, HB⟩ := hrel
   cases gk with
   | zero => exact absurd HA.out (by simp [impl_seek.l0])
   | succ k1 =>
    have H := HA.out
    clear HA
    simp only [impl_seek.l0] at H
    by_cases c6 : x17_1 < (l0.length : Int)
    ·rw [if_pos c6] at H
     have c6b0 : decide (x17_1 < (l0.length : Int)) = true := decide_eq_true c6
     clear c6
     by_cases c7 : 0 ≤ x5_1
     ·rw [if_pos c7] at H
      have c7b0 : decide (0 ≤ x5_1) = true := decide_eq_true c7
      clear c7
      by_cases c8 : x5_1 < (l0.length : Int)
      ·rw [if_pos c8] at H
       have c8b0 : decide (x5_1 < (l0.length : Int)) = true := decide_eq_true c8
       clear c8
       have HC9 := am H
       clear H
       have p362 : 0 ≤ (x5_1 : Int) := of_decide_eq_true (by assumption)
       have q362 : x5_1 < (l0.length : Int) := of_decide_eq_true (by assumption)
       obtain ⟨ad362, e362, hx362_0, hx362_1⟩ := at_T57 HR0.out x5_1 p362 q362
       cases e362
       replace hx362_0 := (HB.out.cell (World.block_lt_of_cell? w _ hx362_0)).trans hx362_0
       replace hx362_1 := (HB.out.cell (World.block_lt_of_cell? w _ hx362_1)).trans hx362_1
       replace p362 := eq_true p362
       replace q362 := eq_true q362
       go_upto_region 7 with (first | ((with_reducible refine gate_dst (N := 6) rfl ?_); refine xE (N := 6) (cs := #[.string (⟨#[]⟩ : ByteArray), .int .i64 0]) (t := 57) (h := ?_); intro gb363 hg w10 hbox hb; have BK363 := am (hbox); have GW363 := am (xS hg HB.out); have GE363 := am (xS hg HB.out); replace HB := am (below_step (xW HB.out) hb); clear hb hbox hg; obtain ⟨hcz11_0, hcz11_1, hfz11_0, hfz11_1⟩ := xT2 (W := w10) BK363.out))
       (try simp only [Act.put, List.setIfInBounds_toArray, List.set_cons_zero, List.set_cons_succ])
       go_cut [23] (fun v23 wc => ∃ (kq : Nat) (x23_8 : Bool), v23 = .bool x23_8 ∧ Aside0 (impl_seek.j1 kq l0 a1 x5_1 (l0.length : Int) x17_1 x23_8 ((rd_T57 l0 x5_1).f0) ((rd_T57 l0 x5_1).f1) = some r) ∧ Aside0 (kq ≤ k1) ∧ Aside0 (wc.heap[gb363]? = some (.cells #[.string ((rd_T57 l0 x5_1).f0), .int .i64 ((rd_T57 l0 x5_1).f1)] 57 (0, 0))) ∧ Aside0 (Below w.heap.size w wc))
       case first =>
        have H := HC9.out
        clear HC9
        by_cases c12 : ((rd_T57 l0 x5_1).f0).toList = a1.toList
        ·rw [if_pos c12] at H
         have c12b0 : (((rd_T57 l0 x5_1).f0).toList == a1.toList) = true := beq_iff_eq.mpr c12
         have c12b1 : (((rd_T57 l0 x5_1).f0).toList != a1.toList) = false := bne_eq_false_iff_eq.mpr c12
         clear c12
         (first | rw [c12b0] | (simp only [i64_w, i32_w]; rw [c12b0]) | skip)
         have H' := am H
         clear H
         obtain ⟨hcz13_0, hcz13_1, hfz13_0, hfz13_1⟩ := xT2 (W := w10) BK363.out
         go_wp2
         go_meet
         case rel => exact ⟨_, ((a1.toList != ([] : List UInt8))), (xQ), H', ⟨by have := HK1.out; first | omega | exact Nat.le_refl _⟩, ⟨xP BK363.out⟩, ⟨xW HB.out⟩⟩
        ·rw [if_neg c12] at H
         have c12b0 : (((rd_T57 l0 x5_1).f0).toList == a1.toList) = false := beq_eq_false_iff_ne.mpr c12
         have c12b1 : (((rd_T57 l0 x5_1).f0).toList != a1.toList) = true := bne_iff_ne.mpr c12
         (first | rw [c12b0] | (simp only [i64_w, i32_w]; rw [c12b0]) | skip)
         have H' := am H
         clear H
         obtain ⟨hcz14_0, hcz14_1, hfz14_0, hfz14_1⟩ := xT2 (W := w10) BK363.out
         go_wp2
         go_meet
         case rel => exact ⟨_, (false), (xQ), H', ⟨by have := HK1.out; first | omega | exact Nat.le_refl _⟩, ⟨xP BK363.out⟩, ⟨xW HB.out⟩⟩
       case rest =>
        clear HC9
        try clear c1
        try clear p2
        try clear c3
        try clear c3b0
        try clear c3b1
        try clear c3b2
        try clear p3
        try clear q3
        try clear hx3
        try clear c6
        try clear c6b0
        try clear c7
        try clear c7b0
        try clear c8
        try clear c8b0
        try clear c12
        try clear c12b0
        try clear c12b1
        try clear hcz11_0
        try clear hcz11_1
        try clear hcz13_0
        try clear hcz13_1
        try clear hcz14_0
        try clear hcz14_1
        try clear hfz11_0
        try clear hfz11_1
        try clear hfz13_0
        try clear hfz13_1
        try clear hfz14_0
        try clear hfz14_1
        try clear hx362_0
        try clear hx362_1
        try clear p2
        try clear p362
        try clear q362
        obtain ⟨kq, x23_8, rfl, HA, HJ8, BK363, HB⟩ := hcut
        cases kq with
        | zero => exact absurd HA.out (by simp [impl_seek.j1])
        | succ kj8 =>
         have H := HA.out
         clear HA
         simp only [impl_seek.j1] at H
         by_cases c15 : x23_8 = true
         ·subst c15
          have H1 : (some x5_1) = some r := by rw [if_pos rfl] at H; exact H
          clear H
          have H := H1
          clear H1
          obtain rfl := Option.some.inj H
          go_wp2
          go_ret
          exact ⟨xV, xW HB.out⟩
         ·replace c15 := Bool.eq_false_iff.mpr c15
          subst c15
          have H1 : (if ((rd_T57 l0 x5_1).f0).toList = ([] : List UInt8) then (if ((rd_T57 l0 x5_1).f1) = (-1) then (some (-1)) else (if (l0.length : Int) = 0 then (none) else (impl_seek.l0 kj8 l0 a1 (Int.tmod (wrap64 (x5_1 + 1)) (l0.length : Int)) (l0.length : Int) (wrap64 (x17_1 + 1))))) else (if (l0.length : Int) = 0 then (none) else (impl_seek.l0 kj8 l0 a1 (Int.tmod (wrap64 (x5_1 + 1)) (l0.length : Int)) (l0.length : Int) (wrap64 (x17_1 + 1))))) = some r := by rw [if_neg (show ¬ (false = true) by decide)] at H; exact H
          clear H
          have H := H1
          clear H1
          by_cases c16 : ((rd_T57 l0 x5_1).f0).toList = ([] : List UInt8)
          ·rw [if_pos c16] at H
           have c16b0 : (((rd_T57 l0 x5_1).f0).toList == ([] : List UInt8)) = true := beq_iff_eq.mpr c16
           have c16b1 : (((rd_T57 l0 x5_1).f0).toList != ([] : List UInt8)) = false := bne_eq_false_iff_eq.mpr c16
           clear c16
           by_cases c17 : ((rd_T57 l0 x5_1).f1) = (-1)
           ·rw [if_pos c17] at H
            have c17b0 : (((rd_T57 l0 x5_1).f1) == (-1)) = true := beq_iff_eq.mpr c17
            have c17b1 : (((rd_T57 l0 x5_1).f1) != (-1)) = false := bne_eq_false_iff_eq.mpr c17
            clear c17
            obtain rfl := Option.some.inj H
            obtain ⟨hcz18_0, hcz18_1, hfz18_0, hfz18_1⟩ := xT2 (W := wc) BK363.out
            go_wp2
            go_ret
            exact ⟨xV, xW HB.out⟩
           ·rw [if_neg c17] at H
            have c17b0 : (((rd_T57 l0 x5_1).f1) == (-1)) = false := beq_eq_false_iff_ne.mpr c17
            have c17b1 : (((rd_T57 l0 x5_1).f1) != (-1)) = true := bne_iff_ne.mpr c17
            by_cases c19 : (l0.length : Int) = 0
            ·rw [if_pos c19] at H
             exact absurd H (by simp)
            ·rw [if_neg c19] at H
             have c19b0 : ((l0.length : Int) == 0) = false := beq_eq_false_iff_ne.mpr c19
             have c19b1 : ((l0.length : Int) != 0) = true := bne_iff_ne.mpr c19
             have c19b2 : ¬ (l0 = []) := fun h_ => c19 (by rw [h_]; rfl)
             have H' := am H
             clear H
             obtain ⟨hcz20_0, hcz20_1, hfz20_0, hfz20_1⟩ := xT2 (W := wc) BK363.out
             go_wp2
             go_roundg kj8
             case measure => have := HK1.out; have := HJ8.out; omega
             case rel => exact ⟨(Int.tmod (wrap64 (x5_1 + 1)) (l0.length : Int)), (wrap64 (x17_1 + 1)), (by first | rfl | (simp; done) | (simp [*]; done)), (xQ), H', ⟨by have := HK1.out; have := HJ8.out; omega⟩, ⟨xW HB.out⟩⟩
          ·rw [if_neg c16] at H
           have c16b0 : (((rd_T57 l0 x5_1).f0).toList == ([] : List UInt8)) = false := beq_eq_false_iff_ne.mpr c16
           have c16b1 : (((rd_T57 l0 x5_1).f0).toList != ([] : List UInt8)) = true := bne_iff_ne.mpr c16
           by_cases c21 : (l0.length : Int) = 0
           ·rw [if_pos c21] at H
            exact absurd H (by simp)
           ·rw [if_neg c21] at H
            have c21b0 : ((l0.length : Int) == 0) = false := beq_eq_false_iff_ne.mpr c21
            have c21b1 : ((l0.length : Int) != 0) = true := bne_iff_ne.mpr c21
            have c21b2 : ¬ (l0 = []) := fun h_ => c21 (by rw [h_]; rfl)
            have H' := am H
            clear H
            obtain ⟨hcz22_0, hcz22_1, hfz22_0, hfz22_1⟩ := xT2 (W := wc) BK363.out
            go_wp2
            go_roundg kj8
            case measure => have := HK1.out; have := HJ8.out; omega
            case rel => exact ⟨(Int.tmod (wrap64 (x5_1 + 1)) (l0.length : Int)), (wrap64 (x17_1 + 1)), (by first | rfl | (simp; done) | (simp [*]; done)), (xQ), H', ⟨by have := HK1.out; have := HJ8.out; omega⟩, ⟨xW HB.out⟩⟩
      ·rw [if_neg c8] at H
       exact absurd H (by simp)
     ·rw [if_neg c7] at H
      exact absurd H (by simp)
    ·rw [if_neg c6] at H
     have c6b0 : decide (x17_1 < (l0.length : Int)) = false := decide_eq_false c6
     clear c6
     obtain rfl := Option.some.inj H
     go_wp2
     go_ret
     exact ⟨xV, xW HB.out⟩
def impl_cellsOk.l0 : Nat → List (S57) → List (S57) → Int → Int → Option (Bool)
 | 0, _, _, _, _ => none
 | k + 1, x0, x5, x6, x7 => if x7 < x6 then (if 0 ≤ x7 then (if x7 < (x5.length : Int) then (if ((rd_T57 x5 x7).f0).toList = ([] : List UInt8) then (if ((rd_T57 x5 x7).f1) = (-1) then (impl_cellsOk.l0 k x0 x5 x6 (wrap64 (x7 + 1))) else (if ((rd_T57 x5 x7).f1) = (-2) then (impl_cellsOk.l0 k x0 x5 x6 (wrap64 (x7 + 1))) else (some false))) else ((impl_isKey.f ((rd_T57 x5 x7).f0)).bind fun t366 => (if t366 = true then (if ((rd_T57 x5 x7).f1) < 0 then (some false) else ((impl_seek.f k x0 ((rd_T57 x5 x7).f0)).bind fun t367 => (if t367 = x7 then (impl_cellsOk.l0 k x0 x5 x6 (wrap64 (x7 + 1))) else (some false)))) else (some false)))) else (none)) else (none)) else (some true)
def impl_cellsOk.f (k : Nat) (l0 : List (S57)) : Option (Bool) := impl_cellsOk.l0 k l0 l0 (l0.length : Int) 0
set_option maxHeartbeats 8000000 in
set_option maxRecDepth 100000 in
theorem impl_cellsOk.calls (k : Nat) (A0 : Option Addr) (c0 : Nat) (l0 : List (S57)) (r : Bool) (w : World) (hr0 : Kd.C k57 w A0 l0.length l0) (hc0 : l0.length ≤ c0) (h : impl_cellsOk.f k l0 = some r) :
  Calls Try.prog 54 #[.slice A0 l0.length c0] w fun e w' => e = .returned (.bool r) ∧ Below w.heap.size w w' := by
 have hu57 := Try.underlying57
 have HR0 := am hr0
 have HC0 := am hc0
 clear hr0 hc0
 have HB := am (Below.refl w.heap.size w)
 have H : (impl_cellsOk.l0 k l0 l0 (l0.length : Int) 0) = some r := h
 clear h
 have H' := am H
 clear H
 go_enter Try.func54, Try.ntmps54
 go_wp2
 go_loopg [7] k (fun kq v7 w' => ∃ (x7_1 : Int), v7 = .int .i64 x7_1 ∧ Aside0 (impl_cellsOk.l0 kq l0 l0 (l0.length : Int) x7_1 = some r) ∧ Aside0 (kq ≤ k) ∧ Aside0 (Below w.heap.size w w'))
 case atStart => exact ⟨(0), (xQ), H', ⟨Nat.le_refl _⟩, ⟨xW HB.out⟩⟩
 case round =>
  clear H'
  obtain ⟨x7_1, rfl, HA, HK1, HB⟩ := hrel
  cases gk with
  | zero => exact absurd HA.out (by simp [impl_cellsOk.l0])
  | succ k1 =>
   have H := HA.out
   clear HA
   simp only [impl_cellsOk.l0] at H
   by_cases c2 : x7_1 < (l0.length : Int)
   ·rw [if_pos c2] at H
    have c2b0 : decide (x7_1 < (l0.length : Int)) = true := decide_eq_true c2
    clear c2
    by_cases c3 : 0 ≤ x7_1
    ·rw [if_pos c3] at H
     have c3b0 : decide (0 ≤ x7_1) = true := decide_eq_true c3
     clear c3
     by_cases c4 : x7_1 < (l0.length : Int)
     ·rw [if_pos c4] at H
      have c4b0 : decide (x7_1 < (l0.length : Int)) = true := decide_eq_true c4
      clear c4
      by_cases c5 : ((rd_T57 l0 x7_1).f0).toList = ([] : List UInt8)
      ·rw [if_pos c5] at H
       have c5b0 : (((rd_T57 l0 x7_1).f0).toList == ([] : List UInt8)) = true := beq_iff_eq.mpr c5
       have c5b1 : (((rd_T57 l0 x7_1).f0).toList != ([] : List UInt8)) = false := bne_eq_false_iff_eq.mpr c5
       clear c5
       by_cases c6 : ((rd_T57 l0 x7_1).f1) = (-1)
       ·rw [if_pos c6] at H
        have c6b0 : (((rd_T57 l0 x7_1).f1) == (-1)) = true := beq_iff_eq.mpr c6
        have c6b1 : (((rd_T57 l0 x7_1).f1) != (-1)) = false := bne_eq_false_iff_eq.mpr c6
        clear c6
        have H' := am H
        clear H
        have p364 : 0 ≤ (x7_1 : Int) := of_decide_eq_true (by assumption)
        have q364 : x7_1 < (l0.length : Int) := of_decide_eq_true (by assumption)
        obtain ⟨ad364, e364, hx364_0, hx364_1⟩ := at_T57 HR0.out x7_1 p364 q364
        cases e364
        replace hx364_0 := (HB.out.cell (World.block_lt_of_cell? w _ hx364_0)).trans hx364_0
        replace hx364_1 := (HB.out.cell (World.block_lt_of_cell? w _ hx364_1)).trans hx364_1
        replace p364 := eq_true p364
        replace q364 := eq_true q364
        go_wp2_with (first | ((with_reducible refine gate_dst (N := 4) rfl ?_); refine xE (N := 4) (cs := #[.string (⟨#[]⟩ : ByteArray), .int .i64 0]) (t := 57) (h := ?_); intro gb365 hg w7 hbox hb; have BK365 := am (hbox); have GW365 := am (xS hg HB.out); have GE365 := am (xS hg HB.out); replace HB := am (below_step (xW HB.out) hb); clear hb hbox hg; obtain ⟨hcz8_0, hcz8_1, hfz8_0, hfz8_1⟩ := xT2 (W := w7) BK365.out))
        go_roundg k1
        case measure => have := HK1.out; omega
        case rel => exact ⟨(wrap64 (x7_1 + 1)), (xQ), H', ⟨by have := HK1.out; omega⟩, ⟨xW HB.out⟩⟩
       ·rw [if_neg c6] at H
        have c6b0 : (((rd_T57 l0 x7_1).f1) == (-1)) = false := beq_eq_false_iff_ne.mpr c6
        have c6b1 : (((rd_T57 l0 x7_1).f1) != (-1)) = true := bne_iff_ne.mpr c6
        by_cases c9 : ((rd_T57 l0 x7_1).f1) = (-2)
        ·rw [if_pos c9] at H
         have c9b0 : (((rd_T57 l0 x7_1).f1) == (-2)) = true := beq_iff_eq.mpr c9
         have c9b1 : (((rd_T57 l0 x7_1).f1) != (-2)) = false := bne_eq_false_iff_eq.mpr c9
         clear c9
         have H' := am H
         clear H
         have p364 : 0 ≤ (x7_1 : Int) := of_decide_eq_true (by assumption)
         have q364 : x7_1 < (l0.length : Int) := of_decide_eq_true (by assumption)
         obtain ⟨ad364, e364, hx364_0, hx364_1⟩ := at_T57 HR0.out x7_1 p364 q364
         cases e364
         replace hx364_0 := (HB.out.cell (World.block_lt_of_cell? w _ hx364_0)).trans hx364_0
         replace hx364_1 := (HB.out.cell (World.block_lt_of_cell? w _ hx364_1)).trans hx364_1
         replace p364 := eq_true p364
         replace q364 := eq_true q364
         go_wp2_with (first | ((with_reducible refine gate_dst (N := 4) rfl ?_); refine xE (N := 4) (cs := #[.string (⟨#[]⟩ : ByteArray), .int .i64 0]) (t := 57) (h := ?_); intro gb365 hg w10 hbox hb; have BK365 := am (hbox); have GW365 := am (xS hg HB.out); have GE365 := am (xS hg HB.out); replace HB := am (below_step (xW HB.out) hb); clear hb hbox hg; obtain ⟨hcz11_0, hcz11_1, hfz11_0, hfz11_1⟩ := xT2 (W := w10) BK365.out))
         go_roundg k1
         case measure => have := HK1.out; omega
         case rel => exact ⟨(wrap64 (x7_1 + 1)), (xQ), H', ⟨by have := HK1.out; omega⟩, ⟨xW HB.out⟩⟩
        ·rw [if_neg c9] at H
         have c9b0 : (((rd_T57 l0 x7_1).f1) == (-2)) = false := beq_eq_false_iff_ne.mpr c9
         have c9b1 : (((rd_T57 l0 x7_1).f1) != (-2)) = true := bne_iff_ne.mpr c9
         obtain rfl := Option.some.inj H
         have p364 : 0 ≤ (x7_1 : Int) := of_decide_eq_true (by assumption)
         have q364 : x7_1 < (l0.length : Int) := of_decide_eq_true (by assumption)
         obtain ⟨ad364, e364, hx364_0, hx364_1⟩ := at_T57 HR0.out x7_1 p364 q364
         cases e364
         replace hx364_0 := (HB.out.cell (World.block_lt_of_cell? w _ hx364_0)).trans hx364_0
         replace hx364_1 := (HB.out.cell (World.block_lt_of_cell? w _ hx364_1)).trans hx364_1
         replace p364 := eq_true p364
         replace q364 := eq_true q364
         go_wp2_with (first | ((with_reducible refine gate_dst (N := 4) rfl ?_); refine xE (N := 4) (cs := #[.string (⟨#[]⟩ : ByteArray), .int .i64 0]) (t := 57) (h := ?_); intro gb365 hg w12 hbox hb; have BK365 := am (hbox); have GW365 := am (xS hg HB.out); have GE365 := am (xS hg HB.out); replace HB := am (below_step (xW HB.out) hb); clear hb hbox hg; obtain ⟨hcz13_0, hcz13_1, hfz13_0, hfz13_1⟩ := xT2 (W := w12) BK365.out))
         go_ret
         exact ⟨xV, xW HB.out⟩
      ·rw [if_neg c5] at H
       have c5b0 : (((rd_T57 l0 x7_1).f0).toList == ([] : List UInt8)) = false := beq_eq_false_iff_ne.mpr c5
       have c5b1 : (((rd_T57 l0 x7_1).f0).toList != ([] : List UInt8)) = true := bne_iff_ne.mpr c5
       replace H := Option.bind_eq_some_iff.mp H
       obtain ⟨t366, A140, H⟩ := H
       try dsimp only at H
       have A14 := am A140
       clear A140
       by_cases c15 : t366 = true
       ·subst c15
        have H1 : (if ((rd_T57 l0 x7_1).f1) < 0 then (some false) else ((impl_seek.f k1 l0 ((rd_T57 l0 x7_1).f0)).bind fun t367 => (if t367 = x7_1 then (impl_cellsOk.l0 k1 l0 l0 (l0.length : Int) (wrap64 (x7_1 + 1))) else (some false)))) = some r := by rw [if_pos rfl] at H; exact H
        clear H
        have H := H1
        clear H1
        by_cases c16 : ((rd_T57 l0 x7_1).f1) < 0
        ·rw [if_pos c16] at H
         have c16b0 : decide (((rd_T57 l0 x7_1).f1) < 0) = true := decide_eq_true c16
         clear c16
         obtain rfl := Option.some.inj H
         have p364 : 0 ≤ (x7_1 : Int) := of_decide_eq_true (by assumption)
         have q364 : x7_1 < (l0.length : Int) := of_decide_eq_true (by assumption)
         obtain ⟨ad364, e364, hx364_0, hx364_1⟩ := at_T57 HR0.out x7_1 p364 q364
         cases e364
         replace hx364_0 := (HB.out.cell (World.block_lt_of_cell? w _ hx364_0)).trans hx364_0
         replace hx364_1 := (HB.out.cell (World.block_lt_of_cell? w _ hx364_1)).trans hx364_1
         replace p364 := eq_true p364
         replace q364 := eq_true q364
         go_wp2_with (first | ((with_reducible refine gate_dst (N := 4) rfl ?_); refine xE (N := 4) (cs := #[.string (⟨#[]⟩ : ByteArray), .int .i64 0]) (t := 57) (h := ?_); intro gb365 hg w17 hbox hb; have BK365 := am (hbox); have GW365 := am (xS hg HB.out); have GE365 := am (xS hg HB.out); replace HB := am (below_step (xW HB.out) hb); clear hb hbox hg; obtain ⟨hcz18_0, hcz18_1, hfz18_0, hfz18_1⟩ := xT2 (W := w17) BK365.out) | ((with_reducible refine gate_callee (f := 74) rfl ?_); refine xG (some 25) 74 Try.func74 #[.string ((rd_T57 l0 x7_1).f0)] (h := ?_); (with_reducible refine (impl_isKey.calls ((rd_T57 l0 x7_1).f0) true _ A14.out).mono ?_); rintro e w' ⟨rfl, ⟨nd, rfl⟩⟩; refine ⟨_, rfl, ?_⟩))
         go_ret
         exact ⟨xV, xW HB.out⟩
        ·rw [if_neg c16] at H
         have c16b0 : decide (((rd_T57 l0 x7_1).f1) < 0) = false := decide_eq_false c16
         clear c16
         replace H := Option.bind_eq_some_iff.mp H
         obtain ⟨t367, A190, H⟩ := H
         try dsimp only at H
         have A19 := am A190
         clear A190
         by_cases c20 : t367 = x7_1
         ·rw [if_pos c20] at H
          have c20b0 : (t367 == x7_1) = true := beq_iff_eq.mpr c20
          have c20b1 : (t367 != x7_1) = false := bne_eq_false_iff_eq.mpr c20
          clear c20
          have H' := am H
          clear H
          have p364 : 0 ≤ (x7_1 : Int) := of_decide_eq_true (by assumption)
          have q364 : x7_1 < (l0.length : Int) := of_decide_eq_true (by assumption)
          obtain ⟨ad364, e364, hx364_0, hx364_1⟩ := at_T57 HR0.out x7_1 p364 q364
          cases e364
          replace hx364_0 := (HB.out.cell (World.block_lt_of_cell? w _ hx364_0)).trans hx364_0
          replace hx364_1 := (HB.out.cell (World.block_lt_of_cell? w _ hx364_1)).trans hx364_1
          replace p364 := eq_true p364
          replace q364 := eq_true q364
          go_wp2_with (first | ((with_reducible refine gate_dst (N := 4) rfl ?_); refine xE (N := 4) (cs := #[.string (⟨#[]⟩ : ByteArray), .int .i64 0]) (t := 57) (h := ?_); intro gb365 hg w21 hbox hb; have BK365 := am (hbox); have GW365 := am (xS hg HB.out); have GE365 := am (xS hg HB.out); replace HB := am (below_step (xW HB.out) hb); clear hb hbox hg; obtain ⟨hcz22_0, hcz22_1, hfz22_0, hfz22_1⟩ := xT2 (W := w21) BK365.out) | ((with_reducible refine gate_callee (f := 74) rfl ?_); refine xG (some 25) 74 Try.func74 #[.string ((rd_T57 l0 x7_1).f0)] (h := ?_); (with_reducible refine (impl_isKey.calls ((rd_T57 l0 x7_1).f0) true _ A14.out).mono ?_); rintro e w' ⟨rfl, ⟨nd, rfl⟩⟩; refine ⟨_, rfl, ?_⟩) | (go_at_call 80; (with_reducible refine (impl_seek.calls k1 _ _ l0 ((rd_T57 l0 x7_1).f0) t367 _ ?side1 ?side2 A19.out).mono ?_); (case side1 => exact Kd.C_below HR0.out (xW HB.out)); (case side2 => exact HC0.out); rintro e w23 ⟨rfl, hb⟩; replace BK365 := am (blk_below (xP BK365.out) hb); replace HB := am (below_step (xW HB.out) hb); (try clear hb); ))
          go_roundg k1
          case measure => have := HK1.out; omega
          case rel => exact ⟨(wrap64 (x7_1 + 1)), (xQ), H', ⟨by have := HK1.out; omega⟩, ⟨xW HB.out⟩⟩
         ·rw [if_neg c20] at H
          have c20b0 : (t367 == x7_1) = false := beq_eq_false_iff_ne.mpr c20
          have c20b1 : (t367 != x7_1) = true := bne_iff_ne.mpr c20
          obtain rfl := Option.some.inj H
          have p364 : 0 ≤ (x7_1 : Int) := of_decide_eq_true (by assumption)
          have q364 : x7_1 < (l0.length : Int) := of_decide_eq_true (by assumption)
          obtain ⟨ad364, e364, hx364_0, hx364_1⟩ := at_T57 HR0.out x7_1 p364 q364
          cases e364
          replace hx364_0 := (HB.out.cell (World.block_lt_of_cell? w _ hx364_0)).trans hx364_0
          replace hx364_1 := (HB.out.cell (World.block_lt_of_cell? w _ hx364_1)).trans hx364_1
          replace p364 := eq_true p364
          replace q364 := eq_true q364
          go_wp2_with (first | ((with_reducible refine gate_dst (N := 4) rfl ?_); refine xE (N := 4) (cs := #[.string (⟨#[]⟩ : ByteArray), .int .i64 0]) (t := 57) (h := ?_); intro gb365 hg w24 hbox hb; have BK365 := am (hbox); have GW365 := am (xS hg HB.out); have GE365 := am (xS hg HB.out); replace HB := am (below_step (xW HB.out) hb); clear hb hbox hg; obtain ⟨hcz25_0, hcz25_1, hfz25_0, hfz25_1⟩ := xT2 (W := w24) BK365.out) | ((with_reducible refine gate_callee (f := 74) rfl ?_); refine xG (some 25) 74 Try.func74 #[.string ((rd_T57 l0 x7_1).f0)] (h := ?_); (with_reducible refine (impl_isKey.calls ((rd_T57 l0 x7_1).f0) true _ A14.out).mono ?_); rintro e w' ⟨rfl, ⟨nd, rfl⟩⟩; refine ⟨_, rfl, ?_⟩) | (go_at_call 80; (with_reducible refine (impl_seek.calls k1 _ _ l0 ((rd_T57 l0 x7_1).f0) t367 _ ?side1 ?side2 A19.out).mono ?_); (case side1 => exact Kd.C_below HR0.out (xW HB.out)); (case side2 => exact HC0.out); rintro e w26 ⟨rfl, hb⟩; replace BK365 := am (blk_below (xP BK365.out) hb); replace HB := am (below_step (xW HB.out) hb); (try clear hb); ))
          go_ret
          exact ⟨xV, xW HB.out⟩
       ·replace c15 := Bool.eq_false_iff.mpr c15
        subst c15
        have H1 : (some false) = some r := by rw [if_neg (show ¬ (false = true) by decide)] at H; exact H
        clear H
        have H := H1
        clear H1
        obtain rfl := Option.some.inj H
        have p364 : 0 ≤ (x7_1 : Int) := of_decide_eq_true (by assumption)
        have q364 : x7_1 < (l0.length : Int) := of_decide_eq_true (by assumption)
        obtain ⟨ad364, e364, hx364_0, hx364_1⟩ := at_T57 HR0.out x7_1 p364 q364
        cases e364
        replace hx364_0 := (HB.out.cell (World.block_lt_of_cell? w _ hx364_0)).trans hx364_0
        replace hx364_1 := (HB.out.cell (World.block_lt_of_cell? w _ hx364_1)).trans hx364_1
        replace p364 := eq_true p364
        replace q364 := eq_true q364
        go_wp2_with (first | ((with_reducible refine gate_dst (N := 4) rfl ?_); refine xE (N := 4) (cs := #[.string (⟨#[]⟩ : ByteArray), .int .i64 0]) (t := 57) (h := ?_); intro gb365 hg w27 hbox hb; have BK365 := am (hbox); have GW365 := am (xS hg HB.out); have GE365 := am (xS hg HB.out); replace HB := am (below_step (xW HB.out) hb); clear hb hbox hg; obtain ⟨hcz28_0, hcz28_1, hfz28_0, hfz28_1⟩ := xT2 (W := w27) BK365.out) | ((with_reducible refine gate_callee (f := 74) rfl ?_); refine xG (some 25) 74 Try.func74 #[.string ((rd_T57 l0 x7_1).f0)] (h := ?_); (with_reducible refine (impl_isKey.calls ((rd_T57 l0 x7_1).f0) false _ A14.out).mono ?_); rintro e w' ⟨rfl, ⟨nd, rfl⟩⟩; refine ⟨_, rfl, ?_⟩))
        go_ret
        exact ⟨xV, xW HB.out⟩
     ·rw [if_neg c4] at H
      exact absurd H (by simp)
    ·rw [if_neg c3] at H
     exact absurd H (by simp)
   ·rw [if_neg c2] at H
    have c2b0 : decide (x7_1 < (l0.length : Int)) = false := decide_eq_false c2
    clear c2
    obtain rfl := Option.some.inj H
    go_wp2
    go_ret
    exact ⟨xV, xW HB.out⟩
def impl_nones.l0 : Nat → Int → List (S57) → Int → Int → Option (Int)
 | 0, _, _, _, _ => none
 | k + 1, x3, x6, x7, x8 => if x8 < x7 then (if 0 ≤ x8 then (if x8 < (x6.length : Int) then (if ((rd_T57 x6 x8).f0).toList = ([] : List UInt8) then (if ((rd_T57 x6 x8).f1) = (-1) then (impl_nones.l0 k (wrap64 (x3 + 1)) x6 x7 (wrap64 (x8 + 1))) else (impl_nones.l0 k x3 x6 x7 (wrap64 (x8 + 1)))) else (impl_nones.l0 k x3 x6 x7 (wrap64 (x8 + 1)))) else (none)) else (none)) else (some x3)
def impl_nones.f (k : Nat) (l0 : List (S57)) : Option (Int) := impl_nones.l0 k 0 l0 (l0.length : Int) 0
set_option maxHeartbeats 8000000 in
set_option maxRecDepth 100000 in
theorem impl_nones.calls (k : Nat) (A0 : Option Addr) (c0 : Nat) (l0 : List (S57)) (r : Int) (w : World) (hr0 : Kd.C k57 w A0 l0.length l0) (hc0 : l0.length ≤ c0) (h : impl_nones.f k l0 = some r) :
  Calls Try.prog 55 #[.slice A0 l0.length c0] w fun e w' => e = .returned (.int .i64 r) ∧ Below w.heap.size w w' := by
 have hu57 := Try.underlying57
 have HR0 := am hr0
 have HC0 := am hc0
 clear hr0 hc0
 have HB := am (Below.refl w.heap.size w)
 have H : (impl_nones.l0 k 0 l0 (l0.length : Int) 0) = some r := h
 clear h
 have H' := am H
 clear H
 go_enter Try.func55, Try.ntmps55
 go_wp2
 go_loopg [3, 8] k (fun kq v3 v8 w' => ∃ (x3_1 : Int) (x8_1 : Int), v3 = .int .i64 x3_1 ∧ v8 = .int .i64 x8_1 ∧ Aside0 (impl_nones.l0 kq x3_1 l0 (l0.length : Int) x8_1 = some r) ∧ Aside0 (kq ≤ k) ∧ Aside0 (Below w.heap.size w w'))
 case atStart => exact ⟨(0), (0), (by first | rfl | (simp; done) | (simp [*]; done)), (xQ), H', ⟨Nat.le_refl _⟩, ⟨xW HB.out⟩⟩
 case round =>
  clear H'
  obtain ⟨x3_1, x8_1, rfl, rfl, HA, HK1, HB⟩ := hrel
  cases gk with
  | zero => exact absurd HA.out (by simp [impl_nones.l0])
  | succ k1 =>
   have H := HA.out
   clear HA
   simp only [impl_nones.l0] at H
   by_cases c2 : x8_1 < (l0.length : Int)
   ·rw [if_pos c2] at H
    have c2b0 : decide (x8_1 < (l0.length : Int)) = true := decide_eq_true c2
    clear c2
    by_cases c3 : 0 ≤ x8_1
    ·rw [if_pos c3] at H
     have c3b0 : decide (0 ≤ x8_1) = true := decide_eq_true c3
     clear c3
     by_cases c4 : x8_1 < (l0.length : Int)
     ·rw [if_pos c4] at H
      have c4b0 : decide (x8_1 < (l0.length : Int)) = true := decide_eq_true c4
      clear c4
      by_cases c5 : ((rd_T57 l0 x8_1).f0).toList = ([] : List UInt8)
      ·rw [if_pos c5] at H
       have c5b0 : (((rd_T57 l0 x8_1).f0).toList == ([] : List UInt8)) = true := beq_iff_eq.mpr c5
       have c5b1 : (((rd_T57 l0 x8_1).f0).toList != ([] : List UInt8)) = false := bne_eq_false_iff_eq.mpr c5
       clear c5
       by_cases c6 : ((rd_T57 l0 x8_1).f1) = (-1)
       ·rw [if_pos c6] at H
        have c6b0 : (((rd_T57 l0 x8_1).f1) == (-1)) = true := beq_iff_eq.mpr c6
        have c6b1 : (((rd_T57 l0 x8_1).f1) != (-1)) = false := bne_eq_false_iff_eq.mpr c6
        clear c6
        have H' := am H
        clear H
        have p368 : 0 ≤ (x8_1 : Int) := of_decide_eq_true (by assumption)
        have q368 : x8_1 < (l0.length : Int) := of_decide_eq_true (by assumption)
        obtain ⟨ad368, e368, hx368_0, hx368_1⟩ := at_T57 HR0.out x8_1 p368 q368
        cases e368
        replace hx368_0 := (HB.out.cell (World.block_lt_of_cell? w _ hx368_0)).trans hx368_0
        replace hx368_1 := (HB.out.cell (World.block_lt_of_cell? w _ hx368_1)).trans hx368_1
        replace p368 := eq_true p368
        replace q368 := eq_true q368
        go_wp2_with (first | ((with_reducible refine gate_dst (N := 5) rfl ?_); refine xE (N := 5) (cs := #[.string (⟨#[]⟩ : ByteArray), .int .i64 0]) (t := 57) (h := ?_); intro gb369 hg w7 hbox hb; have BK369 := am (hbox); have GW369 := am (xS hg HB.out); have GE369 := am (xS hg HB.out); replace HB := am (below_step (xW HB.out) hb); clear hb hbox hg; obtain ⟨hcz8_0, hcz8_1, hfz8_0, hfz8_1⟩ := xT2 (W := w7) BK369.out))
        go_roundg k1
        case measure => have := HK1.out; omega
        case rel => exact ⟨(wrap64 (x3_1 + 1)), (wrap64 (x8_1 + 1)), (by first | rfl | (simp; done) | (simp [*]; done)), (xQ), H', ⟨by have := HK1.out; omega⟩, ⟨xW HB.out⟩⟩
       ·rw [if_neg c6] at H
        have c6b0 : (((rd_T57 l0 x8_1).f1) == (-1)) = false := beq_eq_false_iff_ne.mpr c6
        have c6b1 : (((rd_T57 l0 x8_1).f1) != (-1)) = true := bne_iff_ne.mpr c6
        have H' := am H
        clear H
        have p368 : 0 ≤ (x8_1 : Int) := of_decide_eq_true (by assumption)
        have q368 : x8_1 < (l0.length : Int) := of_decide_eq_true (by assumption)
        obtain ⟨ad368, e368, hx368_0, hx368_1⟩ := at_T57 HR0.out x8_1 p368 q368
        cases e368
        replace hx368_0 := (HB.out.cell (World.block_lt_of_cell? w _ hx368_0)).trans hx368_0
        replace hx368_1 := (HB.out.cell (World.block_lt_of_cell? w _ hx368_1)).trans hx368_1
        replace p368 := eq_true p368
        replace q368 := eq_true q368
        go_wp2_with (first | ((with_reducible refine gate_dst (N := 5) rfl ?_); refine xE (N := 5) (cs := #[.string (⟨#[]⟩ : ByteArray), .int .i64 0]) (t := 57) (h := ?_); intro gb369 hg w9 hbox hb; have BK369 := am (hbox); have GW369 := am (xS hg HB.out); have GE369 := am (xS hg HB.out); replace HB := am (below_step (xW HB.out) hb); clear hb hbox hg; obtain ⟨hcz10_0, hcz10_1, hfz10_0, hfz10_1⟩ := xT2 (W := w9) BK369.out))
        go_roundg k1
        case measure => have := HK1.out; omega
        case rel => exact ⟨(x3_1), (wrap64 (x8_1 + 1)), (by first | rfl | (simp; done) | (simp [*]; done)), (xQ), H', ⟨by have := HK1.out; omega⟩, ⟨xW HB.out⟩⟩
      ·rw [if_neg c5] at H
       have c5b0 : (((rd_T57 l0 x8_1).f0).toList == ([] : List UInt8)) = false := beq_eq_false_iff_ne.mpr c5
       have c5b1 : (((rd_T57 l0 x8_1).f0).toList != ([] : List UInt8)) = true := bne_iff_ne.mpr c5
       have H' := am H
       clear H
       have p368 : 0 ≤ (x8_1 : Int) := of_decide_eq_true (by assumption)
       have q368 : x8_1 < (l0.length : Int) := of_decide_eq_true (by assumption)
       obtain ⟨ad368, e368, hx368_0, hx368_1⟩ := at_T57 HR0.out x8_1 p368 q368
       cases e368
       replace hx368_0 := (HB.out.cell (World.block_lt_of_cell? w _ hx368_0)).trans hx368_0
       replace hx368_1 := (HB.out.cell (World.block_lt_of_cell? w _ hx368_1)).trans hx368_1
       replace p368 := eq_true p368
       replace q368 := eq_true q368
       go_wp2_with (first | ((with_reducible refine gate_dst (N := 5) rfl ?_); refine xE (N := 5) (cs := #[.string (⟨#[]⟩ : ByteArray), .int .i64 0]) (t := 57) (h := ?_); intro gb369 hg w11 hbox hb; have BK369 := am (hbox); have GW369 := am (xS hg HB.out); have GE369 := am (xS hg HB.out); replace HB := am (below_step (xW HB.out) hb); clear hb hbox hg; obtain ⟨hcz12_0, hcz12_1, hfz12_0, hfz12_1⟩ := xT2 (W := w11) BK369.out))
       go_roundg k1
       case measure => have := HK1.out; omega
       case rel => exact ⟨(x3_1), (wrap64 (x8_1 + 1)), (by first | rfl | (simp; done) | (simp [*]; done)), (xQ), H', ⟨by have := HK1.out; omega⟩, ⟨xW HB.out⟩⟩
     ·rw [if_neg c4] at H
      exact absurd H (by simp)
    ·rw [if_neg c3] at H
     exact absurd H (by simp)
   ·rw [if_neg c2] at H
    have c2b0 : decide (x8_1 < (l0.length : Int)) = false := decide_eq_false c2
    clear c2
    obtain rfl := Option.some.inj H
    go_wp2
    go_ret
    exact ⟨xV, xW HB.out⟩
end Go.Proofs.Ytmahoekbedgbcaa.HFnGrows
