/- What the row of the law needs of the printed and the plain texts. -/
import Derived.Test.YtmahoekbedgbcaaZfHX
import Derived.Test.YtmahoekbedgbcaaZfHFnGrowsx0
import Derived.Test.YtmahoekbedgbcaaZfHFnGrowsx2
import Derived.Test.YtmahoekbedgbcaaZfHFnGrowsx4
import Derived.Test.YtmahoekbedgbcaaZfHFnGrowsx11
import Derived.Test.YtmahoekbedgbcaaZfHFnGrowsx12
namespace Go.Proofs.Ytmahoekbedgbcaa.HFnGrows
open Go.RowKit Go.Proofs.YtmahoekbedgbcaaW.PrintWords Go.Proofs.YtmahoekbedgbcaaW.PrintLast Go.Proofs.YtmahoekbedgbcaaW.PrintMore
attribute [local go_sem] max2_int min2_int max_two min_two max_three min_three max_four min_four
set_option linter.unusedVariables false
set_option linter.unusedSimpArgs false
def spec_SeekKey.j0 : Nat → ByteArray → Bool → List (S57) → List (S57) → Int → Option (Int × Bool)
 | 0, _, _, _, _, _ => none
 | k + 1, x1, x13, x471000, x471001, x471002 => if x13 = true then (some (0, false)) else ((spec_l04Seek.f k x471000 x1).bind fun t472 => (if t472 ≥ 0 then (if 0 ≤ t472 then (if t472 < (x471000.length : Int) then (some ((rd_T57 x471000 t472).f1, true)) else (none)) else (none)) else ((spec_l04Seek.f k x471001 x1).bind fun t474 => (if t474 ≥ 0 then (if 0 ≤ t474 then (if t474 < (x471001.length : Int) then (some ((rd_T57 x471001 t474).f1, true)) else (none)) else (none)) else (some (0, false))))))
def spec_SeekKey.f (k : Nat) (l0_0 : List (S57)) (l0_1 : List (S57)) (a0_2 : Int) (a1 : ByteArray) : Option (Int × Bool) := (spec_TableOk.f k l0_0 l0_1 a0_2).bind fun t471 => (if t471 = true then (spec_SeekKey.j0 k a1 (a1.toList == ([] : List UInt8)) l0_0 l0_1 a0_2) else (spec_SeekKey.j0 k a1 true l0_0 l0_1 a0_2))
set_option maxHeartbeats 8000000 in
set_option maxRecDepth 100000 in
theorem spec_SeekKey.calls (k : Nat) (A0_0 : Option Addr) (c0_0 : Nat) (l0_0 : List (S57)) (A0_1 : Option Addr) (c0_1 : Nat) (l0_1 : List (S57)) (a0_2 : Int) (a1 : ByteArray) (r1 : Int) (r2 : Bool) (w : World) (hr0_0 : Kd.C k57 w A0_0 l0_0.length l0_0) (hc0_0 : l0_0.length ≤ c0_0) (hr0_1 : Kd.C k57 w A0_1 l0_1.length l0_1) (hc0_1 : l0_1.length ≤ c0_1) (h : spec_SeekKey.f k l0_0 l0_1 a0_2 a1 = some (r1, r2)) :
  Calls Try.prog 22 #[.agg #[.slice A0_0 l0_0.length c0_0, .slice A0_1 l0_1.length c0_1, .int .i64 a0_2], .string a1] w fun e w' => e = .returned (.tuple #[.int .i64 r1, .bool r2]) ∧ Below w.heap.size w w' := by
 have hu26 := Try.underlying26
 have HR0_0 := am hr0_0
 have HC0_0 := am hc0_0
 clear hr0_0 hc0_0
 have HR0_1 := am hr0_1
 have HC0_1 := am hc0_1
 clear hr0_1 hc0_1
 have HB := am (Below.refl w.heap.size w)
 have H : ((spec_TableOk.f k l0_0 l0_1 a0_2).bind fun t471 => (if t471 = true then (spec_SeekKey.j0 k a1 (a1.toList == ([] : List UInt8)) l0_0 l0_1 a0_2) else (spec_SeekKey.j0 k a1 true l0_0 l0_1 a0_2))) = some (r1, r2) := h
 clear h
 have HC3 := am H
 clear H
 go_enter Try.func22, Try.ntmps22
 go_upto_region 1 with (first | ((with_reducible refine gate_dst (N := 2) rfl ?_); refine xE (N := 2) (cs := #[.slice A0_0 l0_0.length c0_0, .slice A0_1 l0_1.length c0_1, .int .i64 a0_2]) (t := 26) (h := ?_); intro gb470 hg w4 hbox hb; have BK470 := am (hbox); have GW470 := am (xS hg HB.out); have GE470 := am (xS hg HB.out); replace HB := am (below_step (xW HB.out) hb); clear hb hbox hg))
 (try simp only [Act.put, List.setIfInBounds_toArray, List.set_cons_zero, List.set_cons_succ])
 go_cut [13] (fun v13 wc => ∃ (kq : Nat) (x13_2 : Bool), v13 = .bool x13_2 ∧ Aside0 (spec_SeekKey.j0 kq a1 x13_2 l0_0 l0_1 a0_2 = some (r1, r2)) ∧ Aside0 (kq ≤ k) ∧ Aside0 (wc.heap[gb470]? = some (.cells #[(.slice A0_0 l0_0.length c0_0), (.slice A0_1 l0_1.length c0_1), .int .i64 a0_2] 26 (0, 0))) ∧ Aside0 (Below w.heap.size w wc))
 case first =>
  have H := HC3.out
  clear HC3
  replace H := Option.bind_eq_some_iff.mp H
  obtain ⟨t471, A50, H⟩ := H
  try dsimp only at H
  have A5 := am A50
  clear A50
  by_cases c6 : t471 = true
  ·subst c6
   have H1 : (spec_SeekKey.j0 k a1 (a1.toList == ([] : List UInt8)) l0_0 l0_1 a0_2) = some (r1, r2) := by rw [if_pos rfl] at H; exact H
   clear H
   have H := H1
   clear H1
   have H' := am H
   clear H
   obtain ⟨hcz7_0, hcz7_1, hcz7_2, hfz7_0, hfz7_1, hfz7_2⟩ := xT3 (W := w4) BK470.out
   go_wp2_with (first | ((with_reducible refine gate_callee (f := 25) rfl ?_); refine xG (some 8) 25 Try.func25 #[.agg #[.slice A0_0 l0_0.length c0_0, .slice A0_1 l0_1.length c0_1, .int .i64 a0_2]] (h := ?_); (with_reducible refine (spec_TableOk.calls k _ _ l0_0 _ _ l0_1 a0_2 true _ ?side1 ?side2 ?side3 ?side4 A5.out).mono ?_); (case side1 => exact xC (Kd.C_below HR0_0.out HB.out)); (case side2 => exact HC0_0.out); (case side3 => exact xC (Kd.C_below HR0_1.out HB.out)); (case side4 => exact HC0_1.out); rintro e w8 ⟨rfl, hb⟩; refine ⟨_, rfl, ?_⟩; replace BK470 := am (blk_below (xB BK470.out) hb); replace HB := am (below_step (xW HB.out) hb); (try clear hb); ))
   go_meet
   case rel => exact ⟨_, ((a1.toList == ([] : List UInt8))), (xQ), H', ⟨by first | omega | exact Nat.le_refl _⟩, ⟨xB BK470.out⟩, ⟨xW HB.out⟩⟩
  ·replace c6 := Bool.eq_false_iff.mpr c6
   subst c6
   have H1 : (spec_SeekKey.j0 k a1 true l0_0 l0_1 a0_2) = some (r1, r2) := by rw [if_neg (show ¬ (false = true) by decide)] at H; exact H
   clear H
   have H := H1
   clear H1
   have H' := am H
   clear H
   obtain ⟨hcz9_0, hcz9_1, hcz9_2, hfz9_0, hfz9_1, hfz9_2⟩ := xT3 (W := w4) BK470.out
   go_wp2_with (first | ((with_reducible refine gate_callee (f := 25) rfl ?_); refine xG (some 8) 25 Try.func25 #[.agg #[.slice A0_0 l0_0.length c0_0, .slice A0_1 l0_1.length c0_1, .int .i64 a0_2]] (h := ?_); (with_reducible refine (spec_TableOk.calls k _ _ l0_0 _ _ l0_1 a0_2 false _ ?side1 ?side2 ?side3 ?side4 A5.out).mono ?_); (case side1 => exact xC (Kd.C_below HR0_0.out HB.out)); (case side2 => exact HC0_0.out); (case side3 => exact xC (Kd.C_below HR0_1.out HB.out)); (case side4 => exact HC0_1.out); rintro e w10 ⟨rfl, hb⟩; refine ⟨_, rfl, ?_⟩; replace BK470 := am (blk_below (xB BK470.out) hb); replace HB := am (below_step (xW HB.out) hb); (try clear hb); ))
   go_meet
   case rel => exact ⟨_, (true), (xQ), H', ⟨by first | omega | exact Nat.le_refl _⟩, ⟨xB BK470.out⟩, ⟨xW HB.out⟩⟩
 case rest =>
  clear HC3
  try clear c2
  try clear p2
  try clear c6
  try clear hcz7_0
  try clear hcz7_1
  try clear hcz7_2
  try clear hcz9_0
  try clear hcz9_1
  try clear hcz9_2
  try clear hfz7_0
  try clear hfz7_1
  try clear hfz7_2
  try clear hfz9_0
  try clear hfz9_1
  try clear hfz9_2
  obtain ⟨kq, x13_2, rfl, HA, HJ2, BK470, HB⟩ := hcut
  cases kq with
  | zero => exact absurd HA.out (by simp [spec_SeekKey.j0])
  | succ kj2 =>
   have H := HA.out
   clear HA
   simp only [spec_SeekKey.j0] at H
   by_cases c11 : x13_2 = true
   ·subst c11
    have H1 : (some (0, false)) = some (r1, r2) := by rw [if_pos rfl] at H; exact H
    clear H
    have H := H1
    clear H1
    simp only [Option.some.injEq, Prod.mk.injEq] at H
    obtain ⟨rfl, rfl⟩ := H
    go_wp2
    go_ret2
    exact ⟨xV, xW HB.out⟩
   ·replace c11 := Bool.eq_false_iff.mpr c11
    subst c11
    have H1 : ((spec_l04Seek.f kj2 l0_0 a1).bind fun t472 => (if t472 ≥ 0 then (if 0 ≤ t472 then (if t472 < (l0_0.length : Int) then (some ((rd_T57 l0_0 t472).f1, true)) else (none)) else (none)) else ((spec_l04Seek.f kj2 l0_1 a1).bind fun t474 => (if t474 ≥ 0 then (if 0 ≤ t474 then (if t474 < (l0_1.length : Int) then (some ((rd_T57 l0_1 t474).f1, true)) else (none)) else (none)) else (some (0, false)))))) = some (r1, r2) := by rw [if_neg (show ¬ (false = true) by decide)] at H; exact H
    clear H
    have H := H1
    clear H1
    replace H := Option.bind_eq_some_iff.mp H
    obtain ⟨t472, A120, H⟩ := H
    try dsimp only at H
    have A12 := am A120
    clear A120
    by_cases c13 : t472 ≥ 0
    ·rw [if_pos c13] at H
     have c13b0 : decide (0 ≤ t472) = true := decide_eq_true c13
     clear c13
     by_cases c14 : 0 ≤ t472
     ·rw [if_pos c14] at H
      have c14b0 : decide (0 ≤ t472) = true := decide_eq_true c14
      clear c14
      by_cases c15 : t472 < (l0_0.length : Int)
      ·rw [if_pos c15] at H
       have c15b0 : decide (t472 < (l0_0.length : Int)) = true := decide_eq_true c15
       clear c15
       simp only [Option.some.injEq, Prod.mk.injEq] at H
       obtain ⟨rfl, rfl⟩ := H
       obtain ⟨hcz16_0, hcz16_1, hcz16_2, hfz16_0, hfz16_1, hfz16_2⟩ := xT3 (W := wc) BK470.out
       go_wp2_with (first | ((with_reducible refine gate_callee (f := 58) rfl ?_); refine xG (some 17) 58 Try.func58 #[.slice A0_0 l0_0.length c0_0, .string a1] (h := ?_); (with_reducible refine (spec_l04Seek.calls kj2 _ _ l0_0 a1 t472 _ ?side1 ?side2 A12.out).mono ?_); (case side1 => exact xC (Kd.C_below HR0_0.out HB.out)); (case side2 => exact HC0_0.out); rintro e w17 ⟨rfl, hb⟩; refine ⟨_, rfl, ?_⟩; replace BK470 := am (blk_below (xB BK470.out) hb); replace HB := am (below_step (xW HB.out) hb); (try clear hb); obtain ⟨hcz18_0, hcz18_1, hcz18_2, hfz18_0, hfz18_1, hfz18_2⟩ := xT3 (W := w17) BK470.out; have p473 : 0 ≤ (t472 : Int) := of_decide_eq_true (by assumption); have q473 : t472 < (l0_0.length : Int) := of_decide_eq_true (by assumption); obtain ⟨ad473, e473, hx473_0, hx473_1⟩ := at_T57 HR0_0.out t472 p473 q473; cases e473; replace hx473_0 := (HB.out.cell (World.block_lt_of_cell? w _ hx473_0)).trans hx473_0; replace hx473_1 := (HB.out.cell (World.block_lt_of_cell? w _ hx473_1)).trans hx473_1; replace p473 := eq_true p473; replace q473 := eq_true q473))
       go_ret2
       exact ⟨xV, xW HB.out⟩
      ·rw [if_neg c15] at H
       exact absurd H (by simp)
     ·rw [if_neg c14] at H
      exact absurd H (by simp)
    ·rw [if_neg c13] at H
     have c13b0 : decide (0 ≤ t472) = false := decide_eq_false c13
     clear c13
     replace H := Option.bind_eq_some_iff.mp H
     obtain ⟨t474, A190, H⟩ := H
     try dsimp only at H
     have A19 := am A190
     clear A190
     by_cases c20 : t474 ≥ 0
     ·rw [if_pos c20] at H
      have c20b0 : decide (0 ≤ t474) = true := decide_eq_true c20
      clear c20
      by_cases c21 : 0 ≤ t474
      ·rw [if_pos c21] at H
       have c21b0 : decide (0 ≤ t474) = true := decide_eq_true c21
       clear c21
       by_cases c22 : t474 < (l0_1.length : Int)
       ·rw [if_pos c22] at H
        have c22b0 : decide (t474 < (l0_1.length : Int)) = true := decide_eq_true c22
        clear c22
        simp only [Option.some.injEq, Prod.mk.injEq] at H
        obtain ⟨rfl, rfl⟩ := H
        obtain ⟨hcz23_0, hcz23_1, hcz23_2, hfz23_0, hfz23_1, hfz23_2⟩ := xT3 (W := wc) BK470.out
        go_wp2_with (first | ((with_reducible refine gate_callee (f := 58) rfl ?_); refine xG (some 17) 58 Try.func58 #[.slice A0_0 l0_0.length c0_0, .string a1] (h := ?_); (with_reducible refine (spec_l04Seek.calls kj2 _ _ l0_0 a1 t472 _ ?side1 ?side2 A12.out).mono ?_); (case side1 => exact xC (Kd.C_below HR0_0.out HB.out)); (case side2 => exact HC0_0.out); rintro e w24 ⟨rfl, hb⟩; refine ⟨_, rfl, ?_⟩; replace BK470 := am (blk_below (xB BK470.out) hb); replace HB := am (below_step (xW HB.out) hb); (try clear hb); obtain ⟨hcz25_0, hcz25_1, hcz25_2, hfz25_0, hfz25_1, hfz25_2⟩ := xT3 (W := w24) BK470.out) | ((with_reducible refine gate_callee (f := 58) rfl ?_); refine xG (some 29) 58 Try.func58 #[.slice A0_1 l0_1.length c0_1, .string a1] (h := ?_); (with_reducible refine (spec_l04Seek.calls kj2 _ _ l0_1 a1 t474 _ ?side1 ?side2 A19.out).mono ?_); (case side1 => exact xC (Kd.C_below HR0_1.out HB.out)); (case side2 => exact HC0_1.out); rintro e w26 ⟨rfl, hb⟩; refine ⟨_, rfl, ?_⟩; replace BK470 := am (blk_below (xB BK470.out) hb); replace HB := am (below_step (xW HB.out) hb); (try clear hb); obtain ⟨hcz27_0, hcz27_1, hcz27_2, hfz27_0, hfz27_1, hfz27_2⟩ := xT3 (W := w26) BK470.out; have p475 : 0 ≤ (t474 : Int) := of_decide_eq_true (by assumption); have q475 : t474 < (l0_1.length : Int) := of_decide_eq_true (by assumption); obtain ⟨ad475, e475, hx475_0, hx475_1⟩ := at_T57 HR0_1.out t474 p475 q475; cases e475; replace hx475_0 := (HB.out.cell (World.block_lt_of_cell? w _ hx475_0)).trans hx475_0; replace hx475_1 := (HB.out.cell (World.block_lt_of_cell? w _ hx475_1)).trans hx475_1; replace p475 := eq_true p475; replace q475 := eq_true q475))
        go_ret2
        exact ⟨xV, xW HB.out⟩
       ·rw [if_neg c22] at H
        exact absurd H (by simp)
      ·rw [if_neg c21] at H
       exact absurd H (by simp)
     ·rw [if_neg c20] at H
      have c20b0 : decide (0 ≤ t474) = false := decide_eq_false c20
      clear c20
      simp only [Option.some.injEq, Prod.mk.injEq] at H
      obtain ⟨rfl, rfl⟩ := H
      obtain ⟨hcz28_0, hcz28_1, hcz28_2, hfz28_0, hfz28_1, hfz28_2⟩ := xT3 (W := wc) BK470.out
      go_wp2_with (first | ((with_reducible refine gate_callee (f := 58) rfl ?_); refine xG (some 17) 58 Try.func58 #[.slice A0_0 l0_0.length c0_0, .string a1] (h := ?_); (with_reducible refine (spec_l04Seek.calls kj2 _ _ l0_0 a1 t472 _ ?side1 ?side2 A12.out).mono ?_); (case side1 => exact xC (Kd.C_below HR0_0.out HB.out)); (case side2 => exact HC0_0.out); rintro e w29 ⟨rfl, hb⟩; refine ⟨_, rfl, ?_⟩; replace BK470 := am (blk_below (xB BK470.out) hb); replace HB := am (below_step (xW HB.out) hb); (try clear hb); obtain ⟨hcz30_0, hcz30_1, hcz30_2, hfz30_0, hfz30_1, hfz30_2⟩ := xT3 (W := w29) BK470.out) | ((with_reducible refine gate_callee (f := 58) rfl ?_); refine xG (some 29) 58 Try.func58 #[.slice A0_1 l0_1.length c0_1, .string a1] (h := ?_); (with_reducible refine (spec_l04Seek.calls kj2 _ _ l0_1 a1 t474 _ ?side1 ?side2 A19.out).mono ?_); (case side1 => exact xC (Kd.C_below HR0_1.out HB.out)); (case side2 => exact HC0_1.out); rintro e w31 ⟨rfl, hb⟩; refine ⟨_, rfl, ?_⟩; replace BK470 := am (blk_below (xB BK470.out) hb); replace HB := am (below_step (xW HB.out) hb); (try clear hb); ))
      go_ret2
      exact ⟨xV, xW HB.out⟩
def impl_Table_find.f (k : Nat) (l0_0 : List (S57)) (l0_1 : List (S57)) (a0_2 : Int) (a1 : ByteArray) : Option (Int × Bool) := (impl_seek.f k l0_0 a1).bind fun t477 => (if t477 ≥ 0 then (if 0 ≤ t477 then (if t477 < (l0_0.length : Int) then (some ((rd_T57 l0_0 t477).f1, true)) else (none)) else (none)) else ((impl_seek.f k l0_1 a1).bind fun t479 => (if t479 ≥ 0 then (if 0 ≤ t479 then (if t479 < (l0_1.length : Int) then (some ((rd_T57 l0_1 t479).f1, true)) else (none)) else (none)) else (some (0, false)))))
set_option maxHeartbeats 8000000 in
set_option maxRecDepth 100000 in
theorem impl_Table_find.calls (k : Nat) (A0_0 : Option Addr) (c0_0 : Nat) (l0_0 : List (S57)) (A0_1 : Option Addr) (c0_1 : Nat) (l0_1 : List (S57)) (a0_2 : Int) (a1 : ByteArray) (r1 : Int) (r2 : Bool) (w : World) (hr0_0 : Kd.C k57 w A0_0 l0_0.length l0_0) (hc0_0 : l0_0.length ≤ c0_0) (hr0_1 : Kd.C k57 w A0_1 l0_1.length l0_1) (hc0_1 : l0_1.length ≤ c0_1) (h : impl_Table_find.f k l0_0 l0_1 a0_2 a1 = some (r1, r2)) :
  Calls Try.prog 59 #[.agg #[.slice A0_0 l0_0.length c0_0, .slice A0_1 l0_1.length c0_1, .int .i64 a0_2], .string a1] w fun e w' => e = .returned (.tuple #[.int .i64 r1, .bool r2]) ∧ Below w.heap.size w w' := by
 have hu26 := Try.underlying26
 have HR0_0 := am hr0_0
 have HC0_0 := am hc0_0
 clear hr0_0 hc0_0
 have HR0_1 := am hr0_1
 have HC0_1 := am hc0_1
 clear hr0_1 hc0_1
 have HB := am (Below.refl w.heap.size w)
 have H : ((impl_seek.f k l0_0 a1).bind fun t477 => (if t477 ≥ 0 then (if 0 ≤ t477 then (if t477 < (l0_0.length : Int) then (some ((rd_T57 l0_0 t477).f1, true)) else (none)) else (none)) else ((impl_seek.f k l0_1 a1).bind fun t479 => (if t479 ≥ 0 then (if 0 ≤ t479 then (if t479 < (l0_1.length : Int) then (some ((rd_T57 l0_1 t479).f1, true)) else (none)) else (none)) else (some (0, false)))))) = some (r1, r2) := h
 clear h
 replace H := Option.bind_eq_some_iff.mp H
 obtain ⟨t477, A30, H⟩ := H
 try dsimp only at H
 have A3 := am A30
 clear A30
 by_cases c4 : t477 ≥ 0
 ·rw [if_pos c4] at H
  have c4b0 : decide (0 ≤ t477) = true := decide_eq_true c4
  clear c4
  by_cases c5 : 0 ≤ t477
  ·rw [if_pos c5] at H
   have c5b0 : decide (0 ≤ t477) = true := decide_eq_true c5
   clear c5
   by_cases c6 : t477 < (l0_0.length : Int)
   ·rw [if_pos c6] at H
    have c6b0 : decide (t477 < (l0_0.length : Int)) = true := decide_eq_true c6
    clear c6
    simp only [Option.some.injEq, Prod.mk.injEq] at H
    obtain ⟨rfl, rfl⟩ := H
    go_enter Try.func59, Try.ntmps59
    go_wp2_with (first | ((with_reducible refine gate_dst (N := 2) rfl ?_); refine xE (N := 2) (cs := #[.slice A0_0 l0_0.length c0_0, .slice A0_1 l0_1.length c0_1, .int .i64 a0_2]) (t := 26) (h := ?_); intro gb476 hg w7 hbox hb; have BK476 := am (hbox); have GW476 := am (xS hg HB.out); have GE476 := am (xS hg HB.out); replace HB := am (below_step (xW HB.out) hb); clear hb hbox hg; obtain ⟨hcz8_0, hcz8_1, hcz8_2, hfz8_0, hfz8_1, hfz8_2⟩ := xT3 (W := w7) BK476.out) | ((with_reducible refine gate_callee (f := 80) rfl ?_); refine xG (some 11) 80 Try.func80 #[.slice A0_0 l0_0.length c0_0, .string a1] (h := ?_); (with_reducible refine (impl_seek.calls k _ _ l0_0 a1 t477 _ ?side1 ?side2 A3.out).mono ?_); (case side1 => exact xC (Kd.C_below HR0_0.out HB.out)); (case side2 => exact HC0_0.out); rintro e w9 ⟨rfl, hb⟩; refine ⟨_, rfl, ?_⟩; replace BK476 := am (blk_below (xB BK476.out) hb); replace HB := am (below_step (xW HB.out) hb); (try clear hb); obtain ⟨hcz10_0, hcz10_1, hcz10_2, hfz10_0, hfz10_1, hfz10_2⟩ := xT3 (W := w9) BK476.out; have p478 : 0 ≤ (t477 : Int) := of_decide_eq_true (by assumption); have q478 : t477 < (l0_0.length : Int) := of_decide_eq_true (by assumption); obtain ⟨ad478, e478, hx478_0, hx478_1⟩ := at_T57 HR0_0.out t477 p478 q478; cases e478; replace hx478_0 := (HB.out.cell (World.block_lt_of_cell? w _ hx478_0)).trans hx478_0; replace hx478_1 := (HB.out.cell (World.block_lt_of_cell? w _ hx478_1)).trans hx478_1; replace p478 := eq_true p478; replace q478 := eq_true q478))
    go_ret2
    exact ⟨xV, xW HB.out⟩
   ·rw [if_neg c6] at H
    exact absurd H (by simp)
  ·rw [if_neg c5] at H
   exact absurd H (by simp)
 ·rw [if_neg c4] at H
  have c4b0 : decide (0 ≤ t477) = false := decide_eq_false c4
  clear c4
  replace H := Option.bind_eq_some_iff.mp H
  obtain ⟨t479, A110, H⟩ := H
  try dsimp only at H
  have A11 := am A110
  clear A110
  by_cases c12 : t479 ≥ 0
  ·rw [if_pos c12] at H
   have c12b0 : decide (0 ≤ t479) = true := decide_eq_true c12
   clear c12
   by_cases c13 : 0 ≤ t479
   ·rw [if_pos c13] at H
    have c13b0 : decide (0 ≤ t479) = true := decide_eq_true c13
    clear c13
    by_cases c14 : t479 < (l0_1.length : Int)
    ·rw [if_pos c14] at H
     have c14b0 : decide (t479 < (l0_1.length : Int)) = true := decide_eq_true c14
     clear c14
     simp only [Option.some.injEq, Prod.mk.injEq] at H
     obtain ⟨rfl, rfl⟩ := H
     go_enter Try.func59, Try.ntmps59
     go_wp2_with (first | ((with_reducible refine gate_dst (N := 2) rfl ?_); refine xE (N := 2) (cs := #[.slice A0_0 l0_0.length c0_0, .slice A0_1 l0_1.length c0_1, .int .i64 a0_2]) (t := 26) (h := ?_); intro gb476 hg w15 hbox hb; have BK476 := am (hbox); have GW476 := am (xS hg HB.out); have GE476 := am (xS hg HB.out); replace HB := am (below_step (xW HB.out) hb); clear hb hbox hg; obtain ⟨hcz16_0, hcz16_1, hcz16_2, hfz16_0, hfz16_1, hfz16_2⟩ := xT3 (W := w15) BK476.out) | ((with_reducible refine gate_callee (f := 80) rfl ?_); refine xG (some 11) 80 Try.func80 #[.slice A0_0 l0_0.length c0_0, .string a1] (h := ?_); (with_reducible refine (impl_seek.calls k _ _ l0_0 a1 t477 _ ?side1 ?side2 A3.out).mono ?_); (case side1 => exact xC (Kd.C_below HR0_0.out HB.out)); (case side2 => exact HC0_0.out); rintro e w17 ⟨rfl, hb⟩; refine ⟨_, rfl, ?_⟩; replace BK476 := am (blk_below (xB BK476.out) hb); replace HB := am (below_step (xW HB.out) hb); (try clear hb); obtain ⟨hcz18_0, hcz18_1, hcz18_2, hfz18_0, hfz18_1, hfz18_2⟩ := xT3 (W := w17) BK476.out) | ((with_reducible refine gate_callee (f := 80) rfl ?_); refine xG (some 23) 80 Try.func80 #[.slice A0_1 l0_1.length c0_1, .string a1] (h := ?_); (with_reducible refine (impl_seek.calls k _ _ l0_1 a1 t479 _ ?side1 ?side2 A11.out).mono ?_); (case side1 => exact xC (Kd.C_below HR0_1.out HB.out)); (case side2 => exact HC0_1.out); rintro e w19 ⟨rfl, hb⟩; refine ⟨_, rfl, ?_⟩; replace BK476 := am (blk_below (xB BK476.out) hb); replace HB := am (below_step (xW HB.out) hb); (try clear hb); obtain ⟨hcz20_0, hcz20_1, hcz20_2, hfz20_0, hfz20_1, hfz20_2⟩ := xT3 (W := w19) BK476.out; have p480 : 0 ≤ (t479 : Int) := of_decide_eq_true (by assumption); have q480 : t479 < (l0_1.length : Int) := of_decide_eq_true (by assumption); obtain ⟨ad480, e480, hx480_0, hx480_1⟩ := at_T57 HR0_1.out t479 p480 q480; cases e480; replace hx480_0 := (HB.out.cell (World.block_lt_of_cell? w _ hx480_0)).trans hx480_0; replace hx480_1 := (HB.out.cell (World.block_lt_of_cell? w _ hx480_1)).trans hx480_1; replace p480 := eq_true p480; replace q480 := eq_true q480))
     go_ret2
     exact ⟨xV, xW HB.out⟩
    ·rw [if_neg c14] at H
     exact absurd H (by simp)
   ·rw [if_neg c13] at H
    exact absurd H (by simp)
  ·rw [if_neg c12] at H
   have c12b0 : decide (0 ≤ t479) = false := decide_eq_false c12
   clear c12
   simp only [Option.some.injEq, Prod.mk.injEq] at H
   obtain ⟨rfl, rfl⟩ := H
   go_enter Try.func59, Try.ntmps59
   go_wp2_with (first | ((with_reducible refine gate_dst (N := 2) rfl ?_); refine xE (N := 2) (cs := #[.slice A0_0 l0_0.length c0_0, .slice A0_1 l0_1.length c0_1, .int .i64 a0_2]) (t := 26) (h := ?_); intro gb476 hg w21 hbox hb; have BK476 := am (hbox); have GW476 := am (xS hg HB.out); have GE476 := am (xS hg HB.out); replace HB := am (below_step (xW HB.out) hb); clear hb hbox hg; obtain ⟨hcz22_0, hcz22_1, hcz22_2, hfz22_0, hfz22_1, hfz22_2⟩ := xT3 (W := w21) BK476.out) | ((with_reducible refine gate_callee (f := 80) rfl ?_); refine xG (some 11) 80 Try.func80 #[.slice A0_0 l0_0.length c0_0, .string a1] (h := ?_); (with_reducible refine (impl_seek.calls k _ _ l0_0 a1 t477 _ ?side1 ?side2 A3.out).mono ?_); (case side1 => exact xC (Kd.C_below HR0_0.out HB.out)); (case side2 => exact HC0_0.out); rintro e w23 ⟨rfl, hb⟩; refine ⟨_, rfl, ?_⟩; replace BK476 := am (blk_below (xB BK476.out) hb); replace HB := am (below_step (xW HB.out) hb); (try clear hb); obtain ⟨hcz24_0, hcz24_1, hcz24_2, hfz24_0, hfz24_1, hfz24_2⟩ := xT3 (W := w23) BK476.out) | ((with_reducible refine gate_callee (f := 80) rfl ?_); refine xG (some 23) 80 Try.func80 #[.slice A0_1 l0_1.length c0_1, .string a1] (h := ?_); (with_reducible refine (impl_seek.calls k _ _ l0_1 a1 t479 _ ?side1 ?side2 A11.out).mono ?_); (case side1 => exact xC (Kd.C_below HR0_1.out HB.out)); (case side2 => exact HC0_1.out); rintro e w25 ⟨rfl, hb⟩; refine ⟨_, rfl, ?_⟩; replace BK476 := am (blk_below (xB BK476.out) hb); replace HB := am (below_step (xW HB.out) hb); (try clear hb); ))
   go_ret2
   exact ⟨xV, xW HB.out⟩
def impl_SeekKey.f (k : Nat) (l0_0 : List (S57)) (l0_1 : List (S57)) (a0_2 : Int) (a1 : ByteArray) : Option (Int × Bool) := (impl_TableOk.f k l0_0 l0_1 a0_2).bind fun t482 => (if t482 = true then ((impl_Table_find.f k l0_0 l0_1 a0_2 a1).bind fun bt483 => (some (bt483.1, bt483.2))) else (some (0, false)))
set_option maxHeartbeats 8000000 in
set_option maxRecDepth 100000 in
theorem impl_SeekKey.calls (k : Nat) (A0_0 : Option Addr) (c0_0 : Nat) (l0_0 : List (S57)) (A0_1 : Option Addr) (c0_1 : Nat) (l0_1 : List (S57)) (a0_2 : Int) (a1 : ByteArray) (r1 : Int) (r2 : Bool) (w : World) (hr0_0 : Kd.C k57 w A0_0 l0_0.length l0_0) (hc0_0 : l0_0.length ≤ c0_0) (hr0_1 : Kd.C k57 w A0_1 l0_1.length l0_1) (hc0_1 : l0_1.length ≤ c0_1) (h : impl_SeekKey.f k l0_0 l0_1 a0_2 a1 = some (r1, r2)) :
  Calls Try.prog 23 #[.agg #[.slice A0_0 l0_0.length c0_0, .slice A0_1 l0_1.length c0_1, .int .i64 a0_2], .string a1] w fun e w' => e = .returned (.tuple #[.int .i64 r1, .bool r2]) ∧ Below w.heap.size w w' := by
 have hu26 := Try.underlying26
 have HR0_0 := am hr0_0
 have HC0_0 := am hc0_0
 clear hr0_0 hc0_0
 have HR0_1 := am hr0_1
 have HC0_1 := am hc0_1
 clear hr0_1 hc0_1
 have HB := am (Below.refl w.heap.size w)
 have H : ((impl_TableOk.f k l0_0 l0_1 a0_2).bind fun t482 => (if t482 = true then ((impl_Table_find.f k l0_0 l0_1 a0_2 a1).bind fun bt483 => (some (bt483.1, bt483.2))) else (some (0, false)))) = some (r1, r2) := h
 clear h
 replace H := Option.bind_eq_some_iff.mp H
 obtain ⟨t482, A30, H⟩ := H
 try dsimp only at H
 have A3 := am A30
 clear A30
 by_cases c4 : t482 = true
 ·subst c4
  have H1 : ((impl_Table_find.f k l0_0 l0_1 a0_2 a1).bind fun bt483 => (some (bt483.1, bt483.2))) = some (r1, r2) := by rw [if_pos rfl] at H; exact H
  clear H
  have H := H1
  clear H1
  replace H := Option.bind_eq_some_iff.mp H
  obtain ⟨⟨t483, t484⟩, A50, H⟩ := H
  replace H : (some (t483, t484)) = some (r1, r2) := H
  have A5 := am A50
  clear A50
  simp only [Option.some.injEq, Prod.mk.injEq] at H
  obtain ⟨rfl, rfl⟩ := H
  go_enter Try.func23, Try.ntmps23
  go_wp2_with (first | ((with_reducible refine gate_dst (N := 2) rfl ?_); refine xE (N := 2) (cs := #[.slice A0_0 l0_0.length c0_0, .slice A0_1 l0_1.length c0_1, .int .i64 a0_2]) (t := 26) (h := ?_); intro gb481 hg w6 hbox hb; have BK481 := am (hbox); have GW481 := am (xS hg HB.out); have GE481 := am (xS hg HB.out); replace HB := am (below_step (xW HB.out) hb); clear hb hbox hg; obtain ⟨hcz7_0, hcz7_1, hcz7_2, hfz7_0, hfz7_1, hfz7_2⟩ := xT3 (W := w6) BK481.out) | ((with_reducible refine gate_callee (f := 18) rfl ?_); refine xG (some 7) 18 Try.func18 #[.agg #[.slice A0_0 l0_0.length c0_0, .slice A0_1 l0_1.length c0_1, .int .i64 a0_2]] (h := ?_); (with_reducible refine (impl_TableOk.calls k _ _ l0_0 _ _ l0_1 a0_2 true _ ?side1 ?side2 ?side3 ?side4 A3.out).mono ?_); (case side1 => exact xC (Kd.C_below HR0_0.out HB.out)); (case side2 => exact HC0_0.out); (case side3 => exact xC (Kd.C_below HR0_1.out HB.out)); (case side4 => exact HC0_1.out); rintro e w8 ⟨rfl, hb⟩; refine ⟨_, rfl, ?_⟩; replace BK481 := am (blk_below (xB BK481.out) hb); replace HB := am (below_step (xW HB.out) hb); (try clear hb); obtain ⟨hcz9_0, hcz9_1, hcz9_2, hfz9_0, hfz9_1, hfz9_2⟩ := xT3 (W := w8) BK481.out) | ((with_reducible refine gate_callee (f := 59) rfl ?_); refine xG (some 11) 59 Try.func59 #[.agg #[.slice A0_0 l0_0.length c0_0, .slice A0_1 l0_1.length c0_1, .int .i64 a0_2], .string a1] (h := ?_); (with_reducible refine (impl_Table_find.calls k _ _ l0_0 _ _ l0_1 a0_2 a1 t483 t484 _ ?side1 ?side2 ?side3 ?side4 A5.out).mono ?_); (case side1 => exact xC (Kd.C_below HR0_0.out HB.out)); (case side2 => exact HC0_0.out); (case side3 => exact xC (Kd.C_below HR0_1.out HB.out)); (case side4 => exact HC0_1.out); rintro e w10 ⟨rfl, hb⟩; refine ⟨_, rfl, ?_⟩; replace BK481 := am (blk_below (xB BK481.out) hb); replace HB := am (below_step (xW HB.out) hb); (try clear hb); ))
  go_ret2
  exact ⟨xV, xW HB.out⟩
 ·replace c4 := Bool.eq_false_iff.mpr c4
  subst c4
  have H1 : (some (0, false)) = some (r1, r2) := by rw [if_neg (show ¬ (false = true) by decide)] at H; exact H
  clear H
  have H := H1
  clear H1
  simp only [Option.some.injEq, Prod.mk.injEq] at H
  obtain ⟨rfl, rfl⟩ := H
  go_enter Try.func23, Try.ntmps23
  go_wp2_with (first | ((with_reducible refine gate_dst (N := 2) rfl ?_); refine xE (N := 2) (cs := #[.slice A0_0 l0_0.length c0_0, .slice A0_1 l0_1.length c0_1, .int .i64 a0_2]) (t := 26) (h := ?_); intro gb481 hg w11 hbox hb; have BK481 := am (hbox); have GW481 := am (xS hg HB.out); have GE481 := am (xS hg HB.out); replace HB := am (below_step (xW HB.out) hb); clear hb hbox hg; obtain ⟨hcz12_0, hcz12_1, hcz12_2, hfz12_0, hfz12_1, hfz12_2⟩ := xT3 (W := w11) BK481.out) | ((with_reducible refine gate_callee (f := 18) rfl ?_); refine xG (some 7) 18 Try.func18 #[.agg #[.slice A0_0 l0_0.length c0_0, .slice A0_1 l0_1.length c0_1, .int .i64 a0_2]] (h := ?_); (with_reducible refine (impl_TableOk.calls k _ _ l0_0 _ _ l0_1 a0_2 false _ ?side1 ?side2 ?side3 ?side4 A3.out).mono ?_); (case side1 => exact xC (Kd.C_below HR0_0.out HB.out)); (case side2 => exact HC0_0.out); (case side3 => exact xC (Kd.C_below HR0_1.out HB.out)); (case side4 => exact HC0_1.out); rintro e w13 ⟨rfl, hb⟩; refine ⟨_, rfl, ?_⟩; replace BK481 := am (blk_below (xB BK481.out) hb); replace HB := am (below_step (xW HB.out) hb); (try clear hb); ))
  go_ret2
  exact ⟨xV, xW HB.out⟩
end Go.Proofs.Ytmahoekbedgbcaa.HFnGrows
