/- What the row of the law needs of the printed and the plain texts. -/
import Derived.Test.YtmahoekbedgbcaaZdHX
import Derived.Test.YtmahoekbedgbcaaZdHFnPutsx0
import Derived.Test.YtmahoekbedgbcaaZdHFnPutsx2
import Derived.Test.YtmahoekbedgbcaaZdHFnPutsx4
import Derived.Test.YtmahoekbedgbcaaZdHFnPutsx11
import Derived.Test.YtmahoekbedgbcaaZdHFnPutsx12
namespace Go.Proofs.Ytmahoekbedgbcaa.HFnPuts
open Go.RowKit Go.Proofs.YtmahoekbedgbcaaW.PrintWords Go.Proofs.YtmahoekbedgbcaaW.PrintLast Go.Proofs.YtmahoekbedgbcaaW.PrintMore
attribute [local go_sem] max2_int min2_int max_two min_two max_three min_three max_four min_four
set_option linter.unusedVariables false
set_option linter.unusedSimpArgs false
def spec_SeekKey.j0 : Nat → ByteArray → Bool → List (S57) → List (S57) → Int → Option (Int × Bool)
 | 0, _, _, _, _, _ => none
 | k + 1, x1, x13, x389000, x389001, x389002 => if x13 = true then (some (0, false)) else ((spec_l04Seek.f k x389000 x1).bind fun t390 => (if t390 ≥ 0 then (if 0 ≤ t390 then (if t390 < (x389000.length : Int) then (some ((rd_T57 x389000 t390).f1, true)) else (none)) else (none)) else ((spec_l04Seek.f k x389001 x1).bind fun t392 => (if t392 ≥ 0 then (if 0 ≤ t392 then (if t392 < (x389001.length : Int) then (some ((rd_T57 x389001 t392).f1, true)) else (none)) else (none)) else (some (0, false))))))
def spec_SeekKey.f (k : Nat) (l0_0 : List (S57)) (l0_1 : List (S57)) (a0_2 : Int) (a1 : ByteArray) : Option (Int × Bool) := (spec_TableOk.f k l0_0 l0_1 a0_2).bind fun t389 => (if t389 = true then (spec_SeekKey.j0 k a1 (a1.toList == ([] : List UInt8)) l0_0 l0_1 a0_2) else (spec_SeekKey.j0 k a1 true l0_0 l0_1 a0_2))
set_option maxHeartbeats 8000000 in
set_option maxRecDepth 100000 in
theorem spec_SeekKey.calls (k : Nat) (A0_0 : Option Addr) (c0_0 : Nat) (l0_0 : List (S57)) (A0_1 : Option Addr) (c0_1 : Nat) (l0_1 : List (S57)) (a0_2 : Int) (a1 : ByteArray) (r1 : Int) (r2 : Bool) (w : World) (hr0_0 : Kd.C k57 w A0_0 l0_0.length l0_0) (hc0_0 : l0_0.length ≤ c0_0) (hr0_1 : Kd.C k57 w A0_1 l0_1.length l0_1) (hc0_1 : l0_1.length ≤ c0_1) (h : spec_SeekKey.f k l0_0 l0_1 a0_2 a1 = some (r1, r2)) :
  Calls Try.prog 22 #[.agg #[.slice A0_0 l0_0.length c0_0, .slice A0_1 l0_1.length c0_1, .int .i64 a0_2], .string a1] w fun e w' => e = .returned (.tuple #[.int .i64 r1, .bool r2]) ∧ Below w.heap.size w w' := by
 have hu26 := Try.underlying26
 have HR0_0 := am hr0_0
 have HC0_0 := am hc0_0
 clear hr0_0 hc0_0
 have HR0_1 := am hr0_1
 have HC0_1 := am hc0_1
 clear hr0_1 hc0_1
 have HB := am (Below.refl w.heap.size w)
 have H : ((spec_TableOk.f k l0_0 l0_1 a0_2).bind fun t389 => (if t389 = true then (spec_SeekKey.j0 k a1 (a1.toList == ([] : List UInt8)) l0_0 l0_1 a0_2) else (spec_SeekKey.j0 k a1 true l0_0 l0_1 a0_2))) = some (r1, r2) := h
 clear h
 have HC3 := am H
 clear H
 go_enter Try.func22, Try.ntmps22
 go_upto_region 1 with (first | ((with_reducible refine gate_dst (N := 2) rfl ?_); refine xE (N := 2) (cs := #[.slice A0_0 l0_0.length c0_0, .slice A0_1 l0_1.length c0_1, .int .i64 a0_2]) (t := 26) (h := ?_); intro gb388 hg w4 hbox hb; have BK388 := am (hbox); have GW388 := am (xS hg HB.out); have GE388 := am (xS hg HB.out); replace HB := am (below_step (xW HB.out) hb); clear hb hbox hg))
 (try simp only [Act.put, List.setIfInBounds_toArray, List.set_cons_zero, List.set_cons_succ])
 go_cut [13] (fun v13 wc => ∃ (kq : Nat) (x13_2 : Bool), v13 = .bool x13_2 ∧ Aside0 (spec_SeekKey.j0 kq a1 x13_2 l0_0 l0_1 a0_2 = some (r1, r2)) ∧ Aside0 (kq ≤ k) ∧ Aside0 (wc.heap[gb388]? = some (.cells #[(.slice A0_0 l0_0.length c0_0), (.slice A0_1 l0_1.length c0_1), .int .i64 a0_2] 26 (0, 0))) ∧ Aside0 (Below w.heap.size w wc))
 case first =>
  have H := HC3.out
  clear HC3
  replace H := Option.bind_eq_some_iff.mp H
  obtain ⟨t389, A50, H⟩ := H
  try dsimp only at H
  have A5 := am A50
  clear A50
  by_cases c6 : t389 = true
  ·subst c6
   have H1 : (spec_SeekKey.j0 k a1 (a1.toList == ([] : List UInt8)) l0_0 l0_1 a0_2) = some (r1, r2) := by rw [if_pos rfl] at H; exact H
   clear H
   have H := H1
   clear H1
   have H' := am H
   clear H
   obtain ⟨hcz7_0, hcz7_1, hcz7_2, hfz7_0, hfz7_1, hfz7_2⟩ := xT3 (W := w4) BK388.out
   go_wp2_with (first | ((with_reducible refine gate_callee (f := 25) rfl ?_); refine xG (some 8) 25 Try.func25 #[.agg #[.slice A0_0 l0_0.length c0_0, .slice A0_1 l0_1.length c0_1, .int .i64 a0_2]] (h := ?_); (with_reducible refine (spec_TableOk.calls k _ _ l0_0 _ _ l0_1 a0_2 true _ ?side1 ?side2 ?side3 ?side4 A5.out).mono ?_); (case side1 => exact xC (Kd.C_below HR0_0.out HB.out)); (case side2 => exact HC0_0.out); (case side3 => exact xC (Kd.C_below HR0_1.out HB.out)); (case side4 => exact HC0_1.out); rintro e w8 ⟨rfl, hb⟩; refine ⟨_, rfl, ?_⟩; replace BK388 := am (blk_below (xB BK388.out) hb); replace HB := am (below_step (xW HB.out) hb); (try clear hb); ))
   go_meet
   case rel => exact ⟨_, ((a1.toList == ([] : List UInt8))), (xQ), H', ⟨by first | omega | exact Nat.le_refl _⟩, ⟨xB BK388.out⟩, ⟨xW HB.out⟩⟩
  ·replace c6 := Bool.eq_false_iff.mpr c6
   subst c6
   have H1 : (spec_SeekKey.j0 k a1 true l0_0 l0_1 a0_2) = some (r1, r2) := by rw [if_neg (show ¬ (false = true) by decide)] at H; exact H
   clear H
   have H := H1
   clear H1
   have H' := am H
   clear H
   obtain ⟨hcz9_0, hcz9_1, hcz9_2, hfz9_0, hfz9_1, hfz9_2⟩ := xT3 (W := w4) BK388.out
   go_wp2_with (first | ((with_reducible refine gate_callee (f := 25) rfl ?_); refine xG (some 8) 25 Try.func25 #[.agg #[.slice A0_0 l0_0.length c0_0, .slice A0_1 l0_1.length c0_1, .int .i64 a0_2]] (h := ?_); (with_reducible refine (spec_TableOk.calls k _ _ l0_0 _ _ l0_1 a0_2 false _ ?side1 ?side2 ?side3 ?side4 A5.out).mono ?_); (case side1 => exact xC (Kd.C_below HR0_0.out HB.out)); (case side2 => exact HC0_0.out); (case side3 => exact xC (Kd.C_below HR0_1.out HB.out)); (case side4 => exact HC0_1.out); rintro e w10 ⟨rfl, hb⟩; refine ⟨_, rfl, ?_⟩; replace BK388 := am (blk_below (xB BK388.out) hb); replace HB := am (below_step (xW HB.out) hb); (try clear hb); ))
   go_meet
   case rel => exact ⟨_, (true), (xQ), H', ⟨by first | omega | exact Nat.le_refl _⟩, ⟨xB BK388.out⟩, ⟨xW HB.out⟩⟩
 case rest =>
  clear HC3
  try clear c2
  try clear p2
  try clear c6
  try clear hcz7_0
  try clear hcz7_1
  try clear hcz7_2
  try clear hcz9_0
  try clear hcz9_1
  try clear hcz9_2
  try clear hfz7_0
  try clear hfz7_1
  try clear hfz7_2
  try clear hfz9_0
  try clear hfz9_1
  try clear hfz9_2
  obtain ⟨kq, x13_2, rfl, HA, HJ2, BK388, HB⟩ := hcut
  cases kq with
  | zero => exact absurd HA.out (by simp [spec_SeekKey.j0])
  | succ kj2 =>
   have H := HA.out
   clear HA
   simp only [spec_SeekKey.j0] at H
   by_cases c11 : x13_2 = true
   ·subst c11
    have H1 : (some (0, false)) = some (r1, r2) := by rw [if_pos rfl] at H; exact H
    clear H
    have H := H1
    clear H1
    simp only [Option.some.injEq, Prod.mk.injEq] at H
    obtain ⟨rfl, rfl⟩ := H
    go_wp2
    go_ret2
    exact ⟨xV, xW HB.out⟩
   ·replace c11 := Bool.eq_false_iff.mpr c11
    subst c11
    have H1 : ((spec_l04Seek.f kj2 l0_0 a1).bind fun t390 => (if t390 ≥ 0 then (if 0 ≤ t390 then (if t390 < (l0_0.length : Int) then (some ((rd_T57 l0_0 t390).f1, true)) else (none)) else (none)) else ((spec_l04Seek.f kj2 l0_1 a1).bind fun t392 => (if t392 ≥ 0 then (if 0 ≤ t392 then (if t392 < (l0_1.length : Int) then (some ((rd_T57 l0_1 t392).f1, true)) else (none)) else (none)) else (some (0, false)))))) = some (r1, r2) := by rw [if_neg (show ¬ (false = true) by decide)] at H; exact H
    clear H
    have H := H1
    clear H1
    replace H := Option.bind_eq_some_iff.mp H
    obtain ⟨t390, A120, H⟩ := H
    try dsimp only at H
    have A12 := am A120
    clear A120
    by_cases c13 : t390 ≥ 0
    ·rw [if_pos c13] at H
     have c13b0 : decide (0 ≤ t390) = true := decide_eq_true c13
     clear c13
     by_cases c14 : 0 ≤ t390
     ·rw [if_pos c14] at H
      have c14b0 : decide (0 ≤ t390) = true := decide_eq_true c14
      clear c14
      by_cases c15 : t390 < (l0_0.length : Int)
      ·rw [if_pos c15] at H
       have c15b0 : decide (t390 < (l0_0.length : Int)) = true := decide_eq_true c15
       clear c15
       simp only [Option.some.injEq, Prod.mk.injEq] at H
       obtain ⟨rfl, rfl⟩ := H
       obtain ⟨hcz16_0, hcz16_1, hcz16_2, hfz16_0, hfz16_1, hfz16_2⟩ := xT3 (W := wc) BK388.out
       go_wp2_with (first | ((with_reducible refine gate_callee (f := 58) rfl ?_); refine xG (some 17) 58 Try.func58 #[.slice A0_0 l0_0.length c0_0, .string a1] (h := ?_); (with_reducible refine (spec_l04Seek.calls kj2 _ _ l0_0 a1 t390 _ ?side1 ?side2 A12.out).mono ?_); (case side1 => exact xC (Kd.C_below HR0_0.out HB.out)); (case side2 => exact HC0_0.out); rintro e w17 ⟨rfl, hb⟩; refine ⟨_, rfl, ?_⟩; replace BK388 := am (blk_below (xB BK388.out) hb); replace HB := am (below_step (xW HB.out) hb); (try clear hb); obtain ⟨hcz18_0, hcz18_1, hcz18_2, hfz18_0, hfz18_1, hfz18_2⟩ := xT3 (W := w17) BK388.out; have p391 : 0 ≤ (t390 : Int) := of_decide_eq_true (by assumption); have q391 : t390 < (l0_0.length : Int) := of_decide_eq_true (by assumption); obtain ⟨ad391, e391, hx391_0, hx391_1⟩ := at_T57 HR0_0.out t390 p391 q391; cases e391; replace hx391_0 := (HB.out.cell (World.block_lt_of_cell? w _ hx391_0)).trans hx391_0; replace hx391_1 := (HB.out.cell (World.block_lt_of_cell? w _ hx391_1)).trans hx391_1; replace p391 := eq_true p391; replace q391 := eq_true q391))
       go_ret2
       exact ⟨xV, xW HB.out⟩
      ·rw [if_neg c15] at H
       exact absurd H (by simp)
     ·rw [if_neg c14] at H
      exact absurd H (by simp)
    ·rw [if_neg c13] at H
     have c13b0 : decide (0 ≤ t390) = false := decide_eq_false c13
     clear c13
     replace H := Option.bind_eq_some_iff.mp H
     obtain ⟨t392, A190, H⟩ := H
     try dsimp only at H
     have A19 := am A190
     clear A190
     by_cases c20 : t392 ≥ 0
     ·rw [if_pos c20] at H
      have c20b0 : decide (0 ≤ t392) = true := decide_eq_true c20
      clear c20
      by_cases c21 : 0 ≤ t392
      ·rw [if_pos c21] at H
       have c21b0 : decide (0 ≤ t392) = true := decide_eq_true c21
       clear c21
       by_cases c22 : t392 < (l0_1.length : Int)
       ·rw [if_pos c22] at H
        have c22b0 : decide (t392 < (l0_1.length : Int)) = true := decide_eq_true c22
        clear c22
        simp only [Option.some.injEq, Prod.mk.injEq] at H
        obtain ⟨rfl, rfl⟩ := H
        obtain ⟨hcz23_0, hcz23_1, hcz23_2, hfz23_0, hfz23_1, hfz23_2⟩ := xT3 (W := wc) BK388.out
        go_wp2_with (first | ((with_reducible refine gate_callee (f := 58) rfl ?_); refine xG (some 17) 58 Try.func58 #[.slice A0_0 l0_0.length c0_0, .string a1] (h := ?_); (with_reducible refine (spec_l04Seek.calls kj2 _ _ l0_0 a1 t390 _ ?side1 ?side2 A12.out).mono ?_); (case side1 => exact xC (Kd.C_below HR0_0.out HB.out)); (case side2 => exact HC0_0.out); rintro e w24 ⟨rfl, hb⟩; refine ⟨_, rfl, ?_⟩; replace BK388 := am (blk_below (xB BK388.out) hb); replace HB := am (below_step (xW HB.out) hb); (try clear hb); obtain ⟨hcz25_0, hcz25_1, hcz25_2, hfz25_0, hfz25_1, hfz25_2⟩ := xT3 (W := w24) BK388.out) | ((with_reducible refine gate_callee (f := 58) rfl ?_); refine xG (some 29) 58 Try.func58 #[.slice A0_1 l0_1.length c0_1, .string a1] (h := ?_); (with_reducible refine (spec_l04Seek.calls kj2 _ _ l0_1 a1 t392 _ ?side1 ?side2 A19.out).mono ?_); (case side1 => exact xC (Kd.C_below HR0_1.out HB.out)); (case side2 => exact HC0_1.out); rintro e w26 ⟨rfl, hb⟩; refine ⟨_, rfl, ?_⟩; replace BK388 := am (blk_below (xB BK388.out) hb); replace HB := am (below_step (xW HB.out) hb); (try clear hb); obtain ⟨hcz27_0, hcz27_1, hcz27_2, hfz27_0, hfz27_1, hfz27_2⟩ := xT3 (W := w26) BK388.out; have p393 : 0 ≤ (t392 : Int) := of_decide_eq_true (by assumption); have q393 : t392 < (l0_1.length : Int) := of_decide_eq_true (by assumption); obtain ⟨ad393, e393, hx393_0, hx393_1⟩ := at_T57 HR0_1.out t392 p393 q393; cases e393; replace hx393_0 := (HB.out.cell (World.block_lt_of_cell? w _ hx393_0)).trans hx393_0; replace hx393_1 := (HB.out.cell (World.block_lt_of_cell? w _ hx393_1)).trans hx393_1; replace p393 := eq_true p393; replace q393 := eq_true q393))
        go_ret2
        exact ⟨xV, xW HB.out⟩
       ·rw [if_neg c22] at H
        exact absurd H (by simp)
      ·rw [if_neg c21] at H
       exact absurd H (by simp)
     ·rw [if_neg c20] at H
      have c20b0 : decide (0 ≤ t392) = false := decide_eq_false c20
      clear c20
      simp only [Option.some.injEq, Prod.mk.injEq] at H
      obtain ⟨rfl, rfl⟩ := H
      obtain ⟨hcz28_0, hcz28_1, hcz28_2, hfz28_0, hfz28_1, hfz28_2⟩ := xT3 (W := wc) BK388.out
      go_wp2_with (first | ((with_reducible refine gate_callee (f := 58) rfl ?_); refine xG (some 17) 58 Try.func58 #[.slice A0_0 l0_0.length c0_0, .string a1] (h := ?_); (with_reducible refine (spec_l04Seek.calls kj2 _ _ l0_0 a1 t390 _ ?side1 ?side2 A12.out).mono ?_); (case side1 => exact xC (Kd.C_below HR0_0.out HB.out)); (case side2 => exact HC0_0.out); rintro e w29 ⟨rfl, hb⟩; refine ⟨_, rfl, ?_⟩; replace BK388 := am (blk_below (xB BK388.out) hb); replace HB := am (below_step (xW HB.out) hb); (try clear hb); obtain ⟨hcz30_0, hcz30_1, hcz30_2, hfz30_0, hfz30_1, hfz30_2⟩ := xT3 (W := w29) BK388.out) | ((with_reducible refine gate_callee (f := 58) rfl ?_); refine xG (some 29) 58 Try.func58 #[.slice A0_1 l0_1.length c0_1, .string a1] (h := ?_); (with_reducible refine (spec_l04Seek.calls kj2 _ _ l0_1 a1 t392 _ ?side1 ?side2 A19.out).mono ?_); (case side1 => exact xC (Kd.C_below HR0_1.out HB.out)); (case side2 => exact HC0_1.out); rintro e w31 ⟨rfl, hb⟩; refine ⟨_, rfl, ?_⟩; replace BK388 := am (blk_below (xB BK388.out) hb); replace HB := am (below_step (xW HB.out) hb); (try clear hb); ))
      go_ret2
      exact ⟨xV, xW HB.out⟩
def impl_Table_find.f (k : Nat) (l0_0 : List (S57)) (l0_1 : List (S57)) (a0_2 : Int) (a1 : ByteArray) : Option (Int × Bool) := (impl_seek.f k l0_0 a1).bind fun t395 => (if t395 ≥ 0 then (if 0 ≤ t395 then (if t395 < (l0_0.length : Int) then (some ((rd_T57 l0_0 t395).f1, true)) else (none)) else (none)) else ((impl_seek.f k l0_1 a1).bind fun t397 => (if t397 ≥ 0 then (if 0 ≤ t397 then (if t397 < (l0_1.length : Int) then (some ((rd_T57 l0_1 t397).f1, true)) else (none)) else (none)) else (some (0, false)))))
set_option maxHeartbeats 8000000 in
set_option maxRecDepth 100000 in
theorem impl_Table_find.calls (k : Nat) (A0_0 : Option Addr) (c0_0 : Nat) (l0_0 : List (S57)) (A0_1 : Option Addr) (c0_1 : Nat) (l0_1 : List (S57)) (a0_2 : Int) (a1 : ByteArray) (r1 : Int) (r2 : Bool) (w : World) (hr0_0 : Kd.C k57 w A0_0 l0_0.length l0_0) (hc0_0 : l0_0.length ≤ c0_0) (hr0_1 : Kd.C k57 w A0_1 l0_1.length l0_1) (hc0_1 : l0_1.length ≤ c0_1) (h : impl_Table_find.f k l0_0 l0_1 a0_2 a1 = some (r1, r2)) :
  Calls Try.prog 59 #[.agg #[.slice A0_0 l0_0.length c0_0, .slice A0_1 l0_1.length c0_1, .int .i64 a0_2], .string a1] w fun e w' => e = .returned (.tuple #[.int .i64 r1, .bool r2]) ∧ Below w.heap.size w w' := by
 have hu26 := Try.underlying26
 have HR0_0 := am hr0_0
 have HC0_0 := am hc0_0
 clear hr0_0 hc0_0
 have HR0_1 := am hr0_1
 have HC0_1 := am hc0_1
 clear hr0_1 hc0_1
 have HB := am (Below.refl w.heap.size w)
 have H : ((impl_seek.f k l0_0 a1).bind fun t395 => (if t395 ≥ 0 then (if 0 ≤ t395 then (if t395 < (l0_0.length : Int) then (some ((rd_T57 l0_0 t395).f1, true)) else (none)) else (none)) else ((impl_seek.f k l0_1 a1).bind fun t397 => (if t397 ≥ 0 then (if 0 ≤ t397 then (if t397 < (l0_1.length : Int) then (some ((rd_T57 l0_1 t397).f1, true)) else (none)) else (none)) else (some (0, false)))))) = some (r1, r2) := h
 clear h
 replace H := Option.bind_eq_some_iff.mp H
 obtain ⟨t395, A30, H⟩ := H
 try dsimp only at H
 have A3 := am A30
 clear A30
 by_cases c4 : t395 ≥ 0
 ·rw [if_pos c4] at H
  have c4b0 : decide (0 ≤ t395) = true := decide_eq_true c4
  clear c4
  by_cases c5 : 0 ≤ t395
  ·rw [if_pos c5] at H
   have c5b0 : decide (0 ≤ t395) = true := decide_eq_true c5
   clear c5
   by_cases c6 : t395 < (l0_0.length : Int)
   ·rw [if_pos c6] at H
    have c6b0 : decide (t395 < (l0_0.length : Int)) = true := decide_eq_true c6
    clear c6
    simp only [Option.some.injEq, Prod.mk.injEq] at H
    obtain ⟨rfl, rfl⟩ := H
    go_enter Try.func59, Try.ntmps59
    go_wp2_with (first | ((with_reducible refine gate_dst (N := 2) rfl ?_); refine xE (N := 2) (cs := #[.slice A0_0 l0_0.length c0_0, .slice A0_1 l0_1.length c0_1, .int .i64 a0_2]) (t := 26) (h := ?_); intro gb394 hg w7 hbox hb; have BK394 := am (hbox); have GW394 := am (xS hg HB.out); have GE394 := am (xS hg HB.out); replace HB := am (below_step (xW HB.out) hb); clear hb hbox hg; obtain ⟨hcz8_0, hcz8_1, hcz8_2, hfz8_0, hfz8_1, hfz8_2⟩ := xT3 (W := w7) BK394.out) | ((with_reducible refine gate_callee (f := 80) rfl ?_); refine xG (some 11) 80 Try.func80 #[.slice A0_0 l0_0.length c0_0, .string a1] (h := ?_); (with_reducible refine (impl_seek.calls k _ _ l0_0 a1 t395 _ ?side1 ?side2 A3.out).mono ?_); (case side1 => exact xC (Kd.C_below HR0_0.out HB.out)); (case side2 => exact HC0_0.out); rintro e w9 ⟨rfl, hb⟩; refine ⟨_, rfl, ?_⟩; replace BK394 := am (blk_below (xB BK394.out) hb); replace HB := am (below_step (xW HB.out) hb); (try clear hb); obtain ⟨hcz10_0, hcz10_1, hcz10_2, hfz10_0, hfz10_1, hfz10_2⟩ := xT3 (W := w9) BK394.out; have p396 : 0 ≤ (t395 : Int) := of_decide_eq_true (by assumption); have q396 : t395 < (l0_0.length : Int) := of_decide_eq_true (by assumption); obtain ⟨ad396, e396, hx396_0, hx396_1⟩ := at_T57 HR0_0.out t395 p396 q396; cases e396; replace hx396_0 := (HB.out.cell (World.block_lt_of_cell? w _ hx396_0)).trans hx396_0; replace hx396_1 := (HB.out.cell (World.block_lt_of_cell? w _ hx396_1)).trans hx396_1; replace p396 := eq_true p396; replace q396 := eq_true q396))
    go_ret2
    exact ⟨xV, xW HB.out⟩
   ·rw [if_neg c6] at H
    exact absurd H (by simp)
  ·rw [if_neg c5] at H
   exact absurd H (by simp)
 ·rw [if_neg c4] at H
  have c4b0 : decide (0 ≤ t395) = false := decide_eq_false c4
  clear c4
  replace H := Option.bind_eq_some_iff.mp H
  obtain ⟨t397, A110, H⟩ := H
  try dsimp only at H
  have A11 := am A110
  clear A110
  by_cases c12 : t397 ≥ 0
  ·rw [if_pos c12] at H
   have c12b0 : decide (0 ≤ t397) = true := decide_eq_true c12
   clear c12
   by_cases c13 : 0 ≤ t397
   ·rw [if_pos c13] at H
    have c13b0 : decide (0 ≤ t397) = true := decide_eq_true c13
    clear c13
    by_cases c14 : t397 < (l0_1.length : Int)
    ·rw [if_pos c14] at H
     have c14b0 : decide (t397 < (l0_1.length : Int)) = true := decide_eq_true c14
     clear c14
     simp only [Option.some.injEq, Prod.mk.injEq] at H
     obtain ⟨rfl, rfl⟩ := H
     go_enter Try.func59, Try.ntmps59
     go_wp2_with (first | ((with_reducible refine gate_dst (N := 2) rfl ?_); refine xE (N := 2) (cs := #[.slice A0_0 l0_0.length c0_0, .slice A0_1 l0_1.length c0_1, .int .i64 a0_2]) (t := 26) (h := ?_); intro gb394 hg w15 hbox hb; have BK394 := am (hbox); have GW394 := am (xS hg HB.out); have GE394 := am (xS hg HB.out); replace HB := am (below_step (xW HB.out) hb); clear hb hbox hg; obtain ⟨hcz16_0, hcz16_1, hcz16_2, hfz16_0, hfz16_1, hfz16_2⟩ := xT3 (W := w15) BK394.out) | ((with_reducible refine gate_callee (f := 80) rfl ?_); refine xG (some 11) 80 Try.func80 #[.slice A0_0 l0_0.length c0_0, .string a1] (h := ?_); (with_reducible refine (impl_seek.calls k _ _ l0_0 a1 t395 _ ?side1 ?side2 A3.out).mono ?_); (case side1 => exact xC (Kd.C_below HR0_0.out HB.out)); (case side2 => exact HC0_0.out); rintro e w17 ⟨rfl, hb⟩; refine ⟨_, rfl, ?_⟩; replace BK394 := am (blk_below (xB BK394.out) hb); replace HB := am (below_step (xW HB.out) hb); (try clear hb); obtain ⟨hcz18_0, hcz18_1, hcz18_2, hfz18_0, hfz18_1, hfz18_2⟩ := xT3 (W := w17) BK394.out) | ((with_reducible refine gate_callee (f := 80) rfl ?_); refine xG (some 23) 80 Try.func80 #[.slice A0_1 l0_1.length c0_1, .string a1] (h := ?_); (with_reducible refine (impl_seek.calls k _ _ l0_1 a1 t397 _ ?side1 ?side2 A11.out).mono ?_); (case side1 => exact xC (Kd.C_below HR0_1.out HB.out)); (case side2 => exact HC0_1.out); rintro e w19 ⟨rfl, hb⟩; refine ⟨_, rfl, ?_⟩; replace BK394 := am (blk_below (xB BK394.out) hb); replace HB := am (below_step (xW HB.out) hb); (try clear hb); obtain ⟨hcz20_0, hcz20_1, hcz20_2, hfz20_0, hfz20_1, hfz20_2⟩ := xT3 (W := w19) BK394.out; have p398 : 0 ≤ (t397 : Int) := of_decide_eq_true (by assumption); have q398 : t397 < (l0_1.length : Int) := of_decide_eq_true (by assumption); obtain ⟨ad398, e398, hx398_0, hx398_1⟩ := at_T57 HR0_1.out t397 p398 q398; cases e398; replace hx398_0 := (HB.out.cell (World.block_lt_of_cell? w _ hx398_0)).trans hx398_0; replace hx398_1 := (HB.out.cell (World.block_lt_of_cell? w _ hx398_1)).trans hx398_1; replace p398 := eq_true p398; replace q398 := eq_true q398))
     go_ret2
     exact ⟨xV, xW HB.out⟩
    ·rw [if_neg c14] at H
     exact absurd H (by simp)
   ·rw [if_neg c13] at H
    exact absurd H (by simp)
  ·rw [if_neg c12] at H
   have c12b0 : decide (0 ≤ t397) = false := decide_eq_false c12
   clear c12
   simp only [Option.some.injEq, Prod.mk.injEq] at H
   obtain ⟨rfl, rfl⟩ := H
   go_enter Try.func59, Try.ntmps59
   go_wp2_with (first | ((with_reducible refine gate_dst (N := 2) rfl ?_); refine xE (N := 2) (cs := #[.slice A0_0 l0_0.length c0_0, .slice A0_1 l0_1.length c0_1, .int .i64 a0_2]) (t := 26) (h := ?_); intro gb394 hg w21 hbox hb; have BK394 := am (hbox); have GW394 := am (xS hg HB.out); have GE394 := am (xS hg HB.out); replace HB := am (below_step (xW HB.out) hb); clear hb hbox hg; obtain ⟨hcz22_0, hcz22_1, hcz22_2, hfz22_0, hfz22_1, hfz22_2⟩ := xT3 (W := w21) BK394.out) | ((with_reducible refine gate_callee (f := 80) rfl ?_); refine xG (some 11) 80 Try.func80 #[.slice A0_0 l0_0.length c0_0, .string a1] (h := ?_); (with_reducible refine (impl_seek.calls k _ _ l0_0 a1 t395 _ ?side1 ?side2 A3.out).mono ?_); (case side1 => exact xC (Kd.C_below HR0_0.out HB.out)); (case side2 => exact HC0_0.out); rintro e w23 ⟨rfl, hb⟩; refine ⟨_, rfl, ?_⟩; replace BK394 := am (blk_below (xB BK394.out) hb); replace HB := am (below_step (xW HB.out) hb); (try clear hb); obtain ⟨hcz24_0, hcz24_1, hcz24_2, hfz24_0, hfz24_1, hfz24_2⟩ := xT3 (W := w23) BK394.out) | ((with_reducible refine gate_callee (f := 80) rfl ?_); refine xG (some 23) 80 Try.func80 #[.slice A0_1 l0_1.length c0_1, .string a1] (h := ?_); (with_reducible refine (impl_seek.calls k _ _ l0_1 a1 t397 _ ?side1 ?side2 A11.out).mono ?_); (case side1 => exact xC (Kd.C_below HR0_1.out HB.out)); (case side2 => exact HC0_1.out); rintro e w25 ⟨rfl, hb⟩; refine ⟨_, rfl, ?_⟩; replace BK394 := am (blk_below (xB BK394.out) hb); replace HB := am (below_step (xW HB.out) hb); (try clear hb); ))
   go_ret2
   exact ⟨xV, xW HB.out⟩
def impl_SeekKey.f (k : Nat) (l0_0 : List (S57)) (l0_1 : List (S57)) (a0_2 : Int) (a1 : ByteArray) : Option (Int × Bool) := (impl_TableOk.f k l0_0 l0_1 a0_2).bind fun t400 => (if t400 = true then ((impl_Table_find.f k l0_0 l0_1 a0_2 a1).bind fun bt401 => (some (bt401.1, bt401.2))) else (some (0, false)))
set_option maxHeartbeats 8000000 in
set_option maxRecDepth 100000 in
theorem impl_SeekKey.calls (k : Nat) (A0_0 : Option Addr) (c0_0 : Nat) (l0_0 : List (S57)) (A0_1 : Option Addr) (c0_1 : Nat) (l0_1 : List (S57)) (a0_2 : Int) (a1 : ByteArray) (r1 : Int) (r2 : Bool) (w : World) (hr0_0 : Kd.C k57 w A0_0 l0_0.length l0_0) (hc0_0 : l0_0.length ≤ c0_0) (hr0_1 : Kd.C k57 w A0_1 l0_1.length l0_1) (hc0_1 : l0_1.length ≤ c0_1) (h : impl_SeekKey.f k l0_0 l0_1 a0_2 a1 = some (r1, r2)) :
  Calls Try.prog 23 #[.agg #[.slice A0_0 l0_0.length c0_0, .slice A0_1 l0_1.length c0_1, .int .i64 a0_2], .string a1] w fun e w' => e = .returned (.tuple #[.int .i64 r1, .bool r2]) ∧ Below w.heap.size w w' := by
 have hu26 := Try.underlying26
 have HR0_0 := am hr0_0
 have HC0_0 := am hc0_0
 clear hr0_0 hc0_0
 have HR0_1 := am hr0_1
 have HC0_1 := am hc0_1
 clear hr0_1 hc0_1
 have HB := am (Below.refl w.heap.size w)
 have H : ((impl_TableOk.f k l0_0 l0_1 a0_2).bind fun t400 => (if t400 = true then ((impl_Table_find.f k l0_0 l0_1 a0_2 a1).bind fun bt401 => (some (bt401.1, bt401.2))) else (some (0, false)))) = some (r1, r2) := h
 clear h
 replace H := Option.bind_eq_some_iff.mp H
 obtain ⟨t400, A30, H⟩ := H
 try dsimp only at H
 have A3 := am A30
 clear A30
 by_cases c4 : t400 = true
 ·subst c4
  have H1 : ((impl_Table_find.f k l0_0 l0_1 a0_2 a1).bind fun bt401 => (some (bt401.1, bt401.2))) = some (r1, r2) := by rw [if_pos rfl] at H; exact H
  clear H
  have H := H1
  clear H1
  replace H := Option.bind_eq_some_iff.mp H
  obtain ⟨⟨t401, t402⟩, A50, H⟩ := H
  replace H : (some (t401, t402)) = some (r1, r2) := H
  have A5 := am A50
  clear A50
  simp only [Option.some.injEq, Prod.mk.injEq] at H
  obtain ⟨rfl, rfl⟩ := H
  go_enter Try.func23, Try.ntmps23
  go_wp2_with (first | ((with_reducible refine gate_dst (N := 2) rfl ?_); refine xE (N := 2) (cs := #[.slice A0_0 l0_0.length c0_0, .slice A0_1 l0_1.length c0_1, .int .i64 a0_2]) (t := 26) (h := ?_); intro gb399 hg w6 hbox hb; have BK399 := am (hbox); have GW399 := am (xS hg HB.out); have GE399 := am (xS hg HB.out); replace HB := am (below_step (xW HB.out) hb); clear hb hbox hg; obtain ⟨hcz7_0, hcz7_1, hcz7_2, hfz7_0, hfz7_1, hfz7_2⟩ := xT3 (W := w6) BK399.out) | ((with_reducible refine gate_callee (f := 18) rfl ?_); refine xG (some 7) 18 Try.func18 #[.agg #[.slice A0_0 l0_0.length c0_0, .slice A0_1 l0_1.length c0_1, .int .i64 a0_2]] (h := ?_); (with_reducible refine (impl_TableOk.calls k _ _ l0_0 _ _ l0_1 a0_2 true _ ?side1 ?side2 ?side3 ?side4 A3.out).mono ?_); (case side1 => exact xC (Kd.C_below HR0_0.out HB.out)); (case side2 => exact HC0_0.out); (case side3 => exact xC (Kd.C_below HR0_1.out HB.out)); (case side4 => exact HC0_1.out); rintro e w8 ⟨rfl, hb⟩; refine ⟨_, rfl, ?_⟩; replace BK399 := am (blk_below (xB BK399.out) hb); replace HB := am (below_step (xW HB.out) hb); (try clear hb); obtain ⟨hcz9_0, hcz9_1, hcz9_2, hfz9_0, hfz9_1, hfz9_2⟩ := xT3 (W := w8) BK399.out) | ((with_reducible refine gate_callee (f := 59) rfl ?_); refine xG (some 11) 59 Try.func59 #[.agg #[.slice A0_0 l0_0.length c0_0, .slice A0_1 l0_1.length c0_1, .int .i64 a0_2], .string a1] (h := ?_); (with_reducible refine (impl_Table_find.calls k _ _ l0_0 _ _ l0_1 a0_2 a1 t401 t402 _ ?side1 ?side2 ?side3 ?side4 A5.out).mono ?_); (case side1 => exact xC (Kd.C_below HR0_0.out HB.out)); (case side2 => exact HC0_0.out); (case side3 => exact xC (Kd.C_below HR0_1.out HB.out)); (case side4 => exact HC0_1.out); rintro e w10 ⟨rfl, hb⟩; refine ⟨_, rfl, ?_⟩; replace BK399 := am (blk_below (xB BK399.out) hb); replace HB := am (below_step (xW HB.out) hb); (try clear hb); ))
  go_ret2
  exact ⟨xV, xW HB.out⟩
 ·replace c4 := Bool.eq_false_iff.mpr c4
  subst c4
  have H1 : (some (0, false)) = some (r1, r2) := by rw [if_neg (show ¬ (false = true) by decide)] at H; exact H
  clear H
  have H := H1
  clear H1
  simp only [Option.some.injEq, Prod.mk.injEq] at H
  obtain ⟨rfl, rfl⟩ := H
  go_enter Try.func23, Try.ntmps23
  go_wp2_with (first | ((with_reducible refine gate_dst (N := 2) rfl ?_); refine xE (N := 2) (cs := #[.slice A0_0 l0_0.length c0_0, .slice A0_1 l0_1.length c0_1, .int .i64 a0_2]) (t := 26) (h := ?_); intro gb399 hg w11 hbox hb; have BK399 := am (hbox); have GW399 := am (xS hg HB.out); have GE399 := am (xS hg HB.out); replace HB := am (below_step (xW HB.out) hb); clear hb hbox hg; obtain ⟨hcz12_0, hcz12_1, hcz12_2, hfz12_0, hfz12_1, hfz12_2⟩ := xT3 (W := w11) BK399.out) | ((with_reducible refine gate_callee (f := 18) rfl ?_); refine xG (some 7) 18 Try.func18 #[.agg #[.slice A0_0 l0_0.length c0_0, .slice A0_1 l0_1.length c0_1, .int .i64 a0_2]] (h := ?_); (with_reducible refine (impl_TableOk.calls k _ _ l0_0 _ _ l0_1 a0_2 false _ ?side1 ?side2 ?side3 ?side4 A3.out).mono ?_); (case side1 => exact xC (Kd.C_below HR0_0.out HB.out)); (case side2 => exact HC0_0.out); (case side3 => exact xC (Kd.C_below HR0_1.out HB.out)); (case side4 => exact HC0_1.out); rintro e w13 ⟨rfl, hb⟩; refine ⟨_, rfl, ?_⟩; replace BK399 := am (blk_below (xB BK399.out) hb); replace HB := am (below_step (xW HB.out) hb); (try clear hb); ))
  go_ret2
  exact ⟨xV, xW HB.out⟩
def impl_Cell_50.f (l0 : List (S57)) : Option ((List (S57))) := (some (([] : List (S57)) : List (S57))).bind fun y403 => (if y403.length + l0.length < 5864062014805 then (some (y403 ++ l0)) else (none))
set_option maxHeartbeats 8000000 in
set_option maxRecDepth 100000 in
theorem impl_Cell_50.calls (A0 : Option Addr) (c0 : Nat) (l0 : List (S57)) (r : List (S57)) (w : World) (hr0 : Kd.C k57 w A0 l0.length l0) (hc0 : l0.length ≤ c0) (h : impl_Cell_50.f l0 = some r) :
  Calls Try.prog 50 #[.slice A0 l0.length c0] w fun e w' => ∃ v0_ : Value, e = .returned (v0_) ∧ Kd.R k57 57 w' w.heap.size (fun _ => True) v0_ r ∧ Below w.heap.size w w' := by
 have HR0 := am hr0
 have HC0 := am hc0
 clear hr0 hc0
 have HB := am (Below.refl w.heap.size w)
 have H : ((some (([] : List (S57)) : List (S57))).bind fun y403 => (if y403.length + l0.length < 5864062014805 then (some (y403 ++ l0)) else (none))) = some r := h
 clear h
 obtain ⟨y403, hy403⟩ : ∃ y_ : List (S57), y_ = (([] : List (S57))) := ⟨_, rfl⟩
 replace H : (if y403.length + l0.length < 5864062014805 then (some (y403 ++ l0)) else (none)) = some r := by first | (rw [hy403]; with_reducible exact H) | (have H2_ := (Option.bind_some _ _).symm.trans H; rw [hy403]; with_reducible exact H2_) | (have H2_ := (Option.bind_some _ _).symm.trans H; with_reducible exact H2_) | with_reducible exact H | (rw [hy403]; exact H) | exact H
 have Ny403 := am hy403
 clear hy403
 by_cases c2 : y403.length + l0.length < 5864062014805
 ·rw [if_pos c2] at H
  have LMc2 := am c2
  clear c2
  obtain ⟨y406, hy406⟩ : ∃ y_ : List (S57), y_ = (y403 ++ l0) := ⟨_, rfl⟩
  replace H : (some y406) = some r := by first | (rw [hy406]; with_reducible exact H) | (have H2_ := (Option.bind_some _ _).symm.trans H; rw [hy406]; with_reducible exact H2_) | (have H2_ := (Option.bind_some _ _).symm.trans H; with_reducible exact H2_) | with_reducible exact H | (rw [hy406]; exact H) | exact H
  have Ny406 := am hy406
  clear hy406
  obtain rfl := Option.some.inj H
  have q24_ : ∀ (w : World) (a : Option Addr) (n c n' c' : Nat), (binOp .eql 24 (.slice a n c) (.slice none n' c')).run Try.prog w = .ok (.bool a.isNone) w := fun w a n c n' c' => Lib.run_eql_slice_nil w _ _ a n c n' c' Try.underlying24
  rcases A0 with _ | ad0_
  ·have hl0_ : l0 = [] := by
    rcases Nat.eq_zero_or_pos l0.length with h_ | h_
    ·exact List.eq_nil_of_length_eq_zero h_
    ·obtain ⟨ad_, e_, _⟩ := HR0.out.2.2 h_
     cases e_
   have hr0_ : y406 = [] := by rw [Ny406.out, Ny403.out, hl0_]; rfl
   clear Ny406 Ny403 HR0 HC0 LMc2
   subst hl0_ hr0_
   go_enter Try.func50, Try.ntmps50
   go_wp2
   go_ret
   exact ⟨_, rfl, Kd.R_nil _ _ _ _ _, Below.refl _ _⟩
  ·go_enter Try.func50, Try.ntmps50
   go_wp2_with (first | ((with_reducible refine gate_dst (N := 5) rfl ?_); refine Kd.R_lit k57 _ 57 ?hg (N := 5) ?hd (xs := ([] : List (S57))) (inner := []) (ok := fun _ => True) (okp := fun _ => True) ?hr ?hp (fun _ hk => hk) trivial (Below.refl _ _) (Nat.le_refl _) (by simp) ?_; (case hd => rfl); (case hg => rfl); (case hr => first | (go_simp; done) | (go_simp; rfl)); (case hp => exact (Reps.none _ _)); intro v404 w3 ho4 hb hg_ hnew_; clear hg_ hnew_; (first | rw [← Ny403.out] at ho4 | (simp only [Int.reduceToNat] at ho4; rw [← Ny403.out] at ho4)); have HO405 := am (Kd.R_lower ho4 (below_size (xW HB.out))); replace HB := am (below_step (xW HB.out) hb); clear hb ho4) | ((with_reducible refine gate_builtin (b := .append) (xs := #[.tmp 5, .tmp 6]) rfl ?_); at_builtin; refine Kd.R_append_rows k57 (w0 := w) w.heap.size rfl (.tmp 5) (.tmp 6) 24 57 (.agg #[(.string ⟨#[]⟩), (.int .i64 0)]) 24 rfl Try.underlying24 info57 rfl (by decide) (by omega) v404 y403 l0 _ _ _ (fun _ => True) (fun _ => False) rfl rfl ?aO ?aR (fun _ _ h => h) (fun _ h => h.elim) ?aF ?aB ?aS ?aL ?_; (case aR => repeat (first | exact (Kd.C_below HR0.out HB.out) | (with_reducible refine Kd.C_alloc ?_ _) | (with_reducible refine Kd.C_drewN ?_ _) | (with_reducible refine Kd.C_drew ?_))); (case aB => exact (xW HB.out)); (case aF => exact (fun _ _ => trivial)); (case aO => exact (xR HO405.out)); (case aS => exact (below_size (xW HB.out))); (case aL => have := LMc2.out; omega); intro v407 w5 ho hb hg hat; rw [← Ny406.out] at ho; replace HB := am (hb); have HO408 := am (ho); clear HO405; clear ho hb hg hat))
   go_ret
   exact ⟨_, xV, xR HO408.out, xW HB.out⟩
 ·rw [if_neg c2] at H
  exact absurd H (by simp)
def impl_copyTable.f (l0_0 : List (S57)) (l0_1 : List (S57)) (a0_2 : Int) : Option ((List (S57)) × (List (S57)) × Int) := (impl_Cell_50.f l0_0).bind fun t411 => ((impl_Cell_50.f l0_1).bind fun t414 => (some (t411, t414, a0_2)))
def impl_copyTable.T1 : Bool × List (List Nat × List Nat) := (true, [([], []), ([0], [0]), ([1], [1]), ([], []), ([3], [3]), ([4, 2], [4]), ([0, 1, 2, 3, 4], []), ([6, 2, 5, 0, 1, 2, 3, 4], [2, 6]), ([0, 1, 2, 3, 4, 5, 6, 7], []), ([8, 5, 7, 0, 1, 2, 3, 4, 5, 6, 7], [5, 8])])
def impl_copyTable.B1 : List Nat := [0, 1, 3, 0, 8, 31, 31, 127, 255, 511]
theorem impl_copyTable.tab1 : rtab .any (opsOf Try.f47 1) = impl_copyTable.T1 := by kernel_rfl
theorem impl_copyTable.bits1 : waitsOk impl_copyTable.T1.2 impl_copyTable.B1 = true := by kernel_rfl
set_option maxHeartbeats 8000000 in
set_option maxRecDepth 100000 in
theorem impl_copyTable.calls (A0_0 : Option Addr) (c0_0 : Nat) (l0_0 : List (S57)) (A0_1 : Option Addr) (c0_1 : Nat) (l0_1 : List (S57)) (a0_2 : Int) (r1 : List (S57)) (r2 : List (S57)) (r3 : Int) (w : World) (hr0_0 : Kd.C k57 w A0_0 l0_0.length l0_0) (hc0_0 : l0_0.length ≤ c0_0) (hr0_1 : Kd.C k57 w A0_1 l0_1.length l0_1) (hc0_1 : l0_1.length ≤ c0_1) (h : impl_copyTable.f l0_0 l0_1 a0_2 = some (r1, r2, r3)) :
  Calls Try.prog 47 #[.agg #[.slice A0_0 l0_0.length c0_0, .slice A0_1 l0_1.length c0_1, .int .i64 a0_2]] w fun e w' => ∃ v0_ v1_ : Value, e = .returned (.agg #[v0_, v1_, .int .i64 r3]) ∧ Kd.R k57 57 w' w.heap.size (fun k_ => some k_ ≠ (v1_ : Value).ownBlock) v0_ r1 ∧ Kd.R k57 57 w' w.heap.size (fun k_ => some k_ ≠ (v0_ : Value).ownBlock) v1_ r2 ∧ Below w.heap.size w w' := by
 have hu26 := Try.underlying26
 have HR0_0 := am hr0_0
 have HC0_0 := am hc0_0
 clear hr0_0 hc0_0
 have HR0_1 := am hr0_1
 have HC0_1 := am hc0_1
 clear hr0_1 hc0_1
 have HB := am (Below.refl w.heap.size w)
 have H : ((impl_Cell_50.f l0_0).bind fun t411 => ((impl_Cell_50.f l0_1).bind fun t414 => (some (t411, t414, a0_2)))) = some (r1, r2, r3) := h
 clear h
 replace H := Option.bind_eq_some_iff.mp H
 obtain ⟨t411, A20, H⟩ := H
 try dsimp only at H
 have A2 := am A20
 clear A20
 replace H := Option.bind_eq_some_iff.mp H
 obtain ⟨t414, A30, H⟩ := H
 replace H : (some (t411, t414, a0_2)) = some (r1, r2, r3) := H
 have A3 := am A30
 clear A30
 simp only [Option.some.injEq, Prod.mk.injEq] at H
 obtain ⟨rfl, rfl, rfl⟩ := H
 go_enter Try.func47, Try.ntmps47
 try go_wp2_with (first | ((with_reducible refine gate_dst (N := 1) rfl ?_); refine xE (N := 1) (cs := #[.slice A0_0 l0_0.length c0_0, .slice A0_1 l0_1.length c0_1, .int .i64 a0_2]) (t := 26) (h := ?_); intro gb409 hg w4 hbox hb; have BK409 := am (hbox); have GW409 := am (xS hg HB.out); have GE409 := am (xS hg HB.out); replace HB := am (below_step (xW HB.out) hb); clear hb hbox hg) | ((with_reducible refine gate_dst (N := 2) rfl ?_); refine xE (N := 2) (cs := #[.slice none 0 0, .slice none 0 0, .int .i64 0]) (t := 26) (h := ?_); intro gb410 hg w5 hbox hb; have BK410 := am (hbox); have GW410 := am (xS hg HB.out); have GE410 := am (xS hg HB.out); replace HB := am (below_step (xW HB.out) hb); have NB409_410 := am (xN hg BK409.out); have NB410_409 := am (xM hg BK409.out); replace BK409 := am (blk_below (xB BK409.out) hb); clear hb hbox hg))
 replace BK409 := am (blk_drew BK409.out)
 replace BK410 := am (blk_drew BK410.out)
 replace HB := am (below_drew1 HB.out)
 refine start_ (n := 10) (S := fun w' => w'.cell? ⟨gb409, 0, none⟩ = some (.slice A0_0 l0_0.length c0_0) ∧ w'.cell? ⟨gb409, 1, none⟩ = some (.slice A0_1 l0_1.length c0_1) ∧ w'.cell? ⟨gb409, 2, none⟩ = some (.int .i64 a0_2)) (ds := [7, 9]) #[false, false, false, false, false, false, false, false, false, false] (by kernel_rfl) rfl rfl (xC3 BK409.out) (fun hHeld => ?_); refine with_tabW impl_copyTable.tab1 impl_copyTable.bits1 (fun HT_ HW_ => ?_)
 generalize w5.drew = w6 at BK409 BK410 HB hHeld ⊢
 refine xP1 (i := 0) (N := some 3) #[true, false, false, false, false, false, false, false, false, false] (any_of HT_.out (by kernel_rfl)) (h := ?_)
 refine xP1 (i := 3) (N := some 6) #[true, false, false, true, false, false, false, false, false, false] (any_of HT_.out (by kernel_rfl)) (h := ?_)
 refine take_ (i := 1) (N := some 4) (v := ?_) (a' := ?_) #[true, true, false, true, false, false, false, false, false, false] rfl rfl (take_ofW HT_.out HW_.out (by kernel_rfl)) (fun _ _ _ h => h) (Or.inl ⟨by rfl, ?_⟩) hHeld ?_ ?_
 rotate_left
 ·rintro w' ⟨s0, s1, s2⟩
  go_simp
  with_reducible rfl
 rotate_left
 ·simp only [Act.put, List.setIfInBounds_toArray, List.set_cons_zero, List.set_cons_succ, i64_w, i32_w]
  rfl
 refine take_ (i := 4) (N := some 7) (v := ?_) (a' := ?_) #[true, true, false, true, true, false, false, false, false, false] rfl rfl (take_ofW HT_.out HW_.out (by kernel_rfl)) (fun _ _ _ h => h) (Or.inl ⟨by rfl, ?_⟩) hHeld ?_ ?_
 rotate_left
 ·rintro w' ⟨s0, s1, s2⟩
  go_simp
  with_reducible rfl
 rotate_left
 ·simp only [Act.put, List.setIfInBounds_toArray, List.set_cons_zero, List.set_cons_succ, i64_w, i32_w]
  rfl
 refine one_ (i := 2) (N := some 5) #[true, true, true, true, true, false, false, false, false, false] rfl rfl (one_of HT_.out (by kernel_rfl)) (by decide) (fun K hK => ?_)
 refine xG1 50 Try.func50 #[.slice A0_0 l0_0.length c0_0] (h := ?_)
 with_reducible refine (impl_Cell_50.calls _ _ l0_0 t411 _ ?side1 ?side2 A2.out).mono ?_
 (case side1 => exact xC (Kd.C_below HR0_0.out HB.out))
 (case side2 => exact HC0_0.out)
 rintro e w7 ⟨v412, rfl, ho0, hb⟩
 refine ⟨_, rfl, ?_⟩
 have HO413 := am (Kd.R_lower ho0 (below_size (xW HB.out)))
 replace BK409 := am (blk_below (xB BK409.out) hb)
 replace BK410 := am (blk_below (xB BK410.out) hb)
 replace HB := am (below_step (xW HB.out) hb)
 (try clear hb)
 (try clear ho0)
 refine hK.out _ _ (xC3 BK409.out) (fun hHeld => ?_)
 clear hK K
 refine xN1 (h := ?_)
 refine xP1 (i := 6) (N := some 9) #[true, true, true, true, true, false, true, false, false, false] (any_of HT_.out (by kernel_rfl)) (h := ?_)
 refine one_ (i := 5) (N := some 8) #[true, true, true, true, true, true, true, false, false, false] rfl rfl (one_of HT_.out (by kernel_rfl)) (by decide) (fun K hK => ?_)
 refine xG1 50 Try.func50 #[.slice A0_1 l0_1.length c0_1] (h := ?_)
 with_reducible refine (impl_Cell_50.calls _ _ l0_1 t414 _ ?side1 ?side2 A3.out).mono ?_
 (case side1 => exact xC (Kd.C_below HR0_1.out HB.out))
 (case side2 => exact HC0_1.out)
 rintro e w8 ⟨v415, rfl, ho0, hb⟩
 refine ⟨_, rfl, ?_⟩
 have HO416 := am (Kd.R_lower (Kd.R_new' ho0 (Kd.R_lt (xR HO413.out))) (below_size (xW HB.out)))
 replace HO413 := am (Kd.R_elder' (xR HO413.out) (Kd.R_base ho0) hb)
 replace BK409 := am (blk_below (xB BK409.out) hb)
 replace BK410 := am (blk_below (xB BK410.out) hb)
 replace HB := am (below_step (xW HB.out) hb)
 (try clear hb)
 (try clear ho0)
 obtain ⟨Ao9, co9, eo9⟩ := Kd.R_slice HO413.out
 (first | subst eo9 | (injection eo9 with f1_ f2_ f3_; have f4_ := f1_.symm; have f5_ := f3_.symm; clear f1_ f2_ f3_; subst f4_; subst f5_))
 obtain ⟨Ao11, co11, eo11⟩ := Kd.R_slice HO416.out
 (first | subst eo11 | (injection eo11 with f1_ f2_ f3_; have f4_ := f1_.symm; have f5_ := f3_.symm; clear f1_ f2_ f3_; subst f4_; subst f5_))
 refine hK.out _ _ (xC3 BK409.out) (fun hHeld => ?_)
 clear hK K
 refine xN1 (h := ?_)
 refine last_ (i := 7) (N := none) #[true, true, true, true, true, true, true, true, false, false] rfl rfl (one_of HT_.out (by kernel_rfl)) (by decide) (fun K hK => ?_)
 have hs10 : w8.cell? ⟨gb409, 0, none⟩ = some (.slice A0_0 l0_0.length c0_0) := (blk_cell BK409.out 0).trans rfl
 have hfs10 := blk_frozen BK409.out 0
 have hns10_1 := NB410_409.out
 have hms10_1 := NB409_410.out
 refine skip_ (w1 := ?_) (by rfl) rfl ?_ ?_
 rotate_left
 ·go_simp
  rfl
 refine hK.out _ _ ?_
 clear hK K
 refine xP1 (i := 8) (N := some 10) #[true, true, true, true, true, true, true, true, true, false] (any_of HT_.out (by kernel_rfl)) (h := ?_)
 refine last_ (i := 9) (N := none) #[true, true, true, true, true, true, true, true, true, true] rfl rfl (one_of HT_.out (by kernel_rfl)) (by decide) (fun K hK => ?_)
 have hs12 : w8.cell? ⟨gb409, 1, none⟩ = some (.slice A0_1 l0_1.length c0_1) := (blk_cell BK409.out 1).trans rfl
 have hfs12 := blk_frozen BK409.out 1
 have hns12_1 := NB410_409.out
 have hms12_1 := NB409_410.out
 refine skip_ (w1 := ?_) (by rfl) rfl ?_ ?_
 rotate_left
 ·go_simp
  rfl
 refine hK.out _ _ ?_
 clear hK K
 refine done_ (done_of HT_.out (by kernel_rfl)) ?_
 have hnb13 := NB409_410.out
 have hnc13 := NB410_409.out
 obtain ⟨hcz14_0, hcz14_1, hcz14_2, hfz14_0, hfz14_1, hfz14_2⟩ := xT3 (W := w8) BK409.out
 obtain ⟨hcz15_0, hcz15_1, hcz15_2, hfz15_0, hfz15_1, hfz15_2⟩ := xT3 (W := w8) BK410.out
 try go_wp2
 refine bodyPost_ret (results_cell_row rfl _ _ gb410 26 #[.slice Ao9 t411.length co9, .slice Ao11 t414.length co11, .int .i64 a0_2] (0, 0) _ rfl (xP BK410.out) Try.underlying26 rfl (by kernel_rfl)) rfl ?_
 exact ⟨_, _, xV, Kd.R_mono (xR HO413.out) (fun _ hk => hk.2), Kd.R_mono (xR HO416.out) (fun _ hk => hk.2), xW HB.out⟩
def impl_Table_take.f (k : Nat) (l0_0 : List (S57)) (l0_1 : List (S57)) (a0_2 : Int) (a1 : ByteArray) : Option (Bool × (List (S57)) × (List (S57))) := (impl_seek.f k l0_0 a1).bind fun t418 => (if t418 ≥ 0 then (if 0 ≤ t418 then (if t418 < (l0_0.length : Int) then (some (true, (l0_0.set (t418 : Int).toNat (⟨(⟨#[]⟩ : ByteArray), (-2)⟩ : S57)), l0_1)) else (none)) else (none)) else ((impl_seek.f k l0_1 a1).bind fun t420 => (if t420 ≥ 0 then (if 0 ≤ t420 then (if t420 < (l0_1.length : Int) then (some (true, l0_0, (l0_1.set (t420 : Int).toNat (⟨(⟨#[]⟩ : ByteArray), (-2)⟩ : S57)))) else (none)) else (none)) else (some (false, l0_0, l0_1)))))
set_option maxHeartbeats 8000000 in
set_option maxRecDepth 100000 in
theorem impl_Table_take.calls (k : Nat) (P0_0_ : Nat → Prop) (u9000_ : Value) (l0_0 : List (S57)) (P0_1_ : Nat → Prop) (u9001_ : Value) (l0_1 : List (S57)) (a0_2 : Int) (a1 : ByteArray) (r1 : Bool) (r2 : List (S57)) (r3 : List (S57)) (w0 w : World) (hB : Below w0.heap.size w0 w) (ho0_0 : Kd.R k57 57 w w0.heap.size P0_0_ u9000_ l0_0) (hp0_0_0_1 : ∀ k_, P0_0_ k_ → ¬ P0_1_ k_) (ho0_1 : Kd.R k57 57 w w0.heap.size P0_1_ u9001_ l0_1) (hp0_1_0_0 : ∀ k_, P0_1_ k_ → ¬ P0_0_ k_) (h : impl_Table_take.f k l0_0 l0_1 a0_2 a1 = some (r1, r2, r3)) (gb0_ : Nat) (hg0_ : w.heap[gb0_]? = some (.cells #[u9000_, u9001_, .int .i64 a0_2] 26 (0, 0))) (hge0_ : w0.heap.size ≤ gb0_) :
  Calls Try.prog 70 #[.pointer (some ⟨gb0_, 0, none⟩), .string a1] w fun e w' => e = .returned (.bool r1) ∧ Kd.R k57 57 w' w0.heap.size (fun k_ => ((P0_0_ k_ ∨ P0_1_ k_) ∨ w.heap.size ≤ k_)) u9000_ r2 ∧ Kd.R k57 57 w' w0.heap.size (fun k_ => ((P0_0_ k_ ∨ P0_1_ k_) ∨ w.heap.size ≤ k_)) u9001_ r3 ∧ Below w0.heap.size w0 w' ∧ Kept w w' (fun k_ => P0_0_ k_ ∨ P0_1_ k_) := by
 have hu26 := Try.underlying26
 have hu57 := Try.underlying57
 have HO0_0 := am (show Kd.R k57 57 w w0.heap.size (fun k_ => ((P0_0_ k_ ∨ P0_1_ k_) ∨ w.heap.size ≤ k_) ∧ some k_ ≠ (u9001_ : Value).ownBlock) u9000_ l0_0 from Kd.R_mono ho0_0 (fun k_ hk => ⟨(.inl (.inl hk)), fun e_ => hp0_0_0_1 k_ hk (ho0_1.1 k_ e_.symm)⟩))
 have HO0_1 := am (show Kd.R k57 57 w w0.heap.size (fun k_ => ((P0_0_ k_ ∨ P0_1_ k_) ∨ w.heap.size ≤ k_) ∧ some k_ ≠ (u9000_ : Value).ownBlock) u9001_ l0_1 from Kd.R_mono ho0_1 (fun k_ hk => ⟨(.inl (.inr hk)), fun e_ => hp0_1_0_0 k_ hk (ho0_0.1 k_ e_.symm)⟩))
 have HK := am (Kept.refl w (fun k_ => P0_0_ k_ ∨ P0_1_ k_))
 have HW0 := am hB.size
 have HB := am hB
 clear hB
 have H : ((impl_seek.f k l0_0 a1).bind fun t418 => (if t418 ≥ 0 then (if 0 ≤ t418 then (if t418 < (l0_0.length : Int) then (some (true, (l0_0.set (t418 : Int).toNat (⟨(⟨#[]⟩ : ByteArray), (-2)⟩ : S57)), l0_1)) else (none)) else (none)) else ((impl_seek.f k l0_1 a1).bind fun t420 => (if t420 ≥ 0 then (if 0 ≤ t420 then (if t420 < (l0_1.length : Int) then (some (true, l0_0, (l0_1.set (t420 : Int).toNat (⟨(⟨#[]⟩ : ByteArray), (-2)⟩ : S57)))) else (none)) else (none)) else (some (false, l0_0, l0_1)))))) = some (r1, r2, r3) := h
 clear h
 replace H := Option.bind_eq_some_iff.mp H
 obtain ⟨t418, A30, H⟩ := H
 try dsimp only at H
 have A3 := am A30
 clear A30
 by_cases c4 : t418 ≥ 0
 ·rw [if_pos c4] at H
  have c4b0 : decide (0 ≤ t418) = true := decide_eq_true c4
  clear c4
  by_cases c5 : 0 ≤ t418
  ·rw [if_pos c5] at H
   have c5b0 : decide (0 ≤ t418) = true := decide_eq_true c5
   clear c5
   by_cases c6 : t418 < (l0_0.length : Int)
   ·rw [if_pos c6] at H
    have c6b0 : decide (t418 < (l0_0.length : Int)) = true := decide_eq_true c6
    clear c6
    obtain ⟨y419, hy419⟩ : ∃ y_ : List (S57), y_ = (l0_0.set (t418 : Int).toNat (⟨(⟨#[]⟩ : ByteArray), (-2)⟩ : S57)) := ⟨_, rfl⟩
    replace H : (some (true, y419, l0_1)) = some (r1, r2, r3) := by first | (rw [hy419]; with_reducible exact H) | (have H2_ := (Option.bind_some _ _).symm.trans H; rw [hy419]; with_reducible exact H2_) | (have H2_ := (Option.bind_some _ _).symm.trans H; with_reducible exact H2_) | with_reducible exact H | (rw [hy419]; exact H) | exact H
    have Ny419 := am hy419
    clear hy419
    simp only [Option.some.injEq, Prod.mk.injEq] at H
    obtain ⟨rfl, rfl, rfl⟩ := H
    obtain ⟨Ao8, co8, eo8⟩ := Kd.R_slice HO0_0.out
    subst eo8
    obtain ⟨Ao9, co9, eo9⟩ := Kd.R_slice HO0_1.out
    subst eo9
    have BK417 := am hg0_
    have GE417 := am hge0_
    obtain ⟨hcz11_0, hcz11_1, hcz11_2, hfz11_0, hfz11_1, hfz11_2⟩ := xT3 (W := w) BK417.out
    go_enter Try.func70, Try.ntmps70
    go_wp2_with (first | ((with_reducible refine gate_callee (f := 80) rfl ?_); refine xG (some 12) 80 Try.func80 #[.slice Ao8 l0_0.length co8, .string a1] (h := ?_); (with_reducible refine (impl_seek.calls k _ _ l0_0 a1 t418 _ ?side1 ?side2 A3.out).mono ?_); (case side1 => exact xC ((Kd.R_reads' HO0_0.out).2.2)); (case side2 => exact (Kd.R_reads' HO0_0.out).2.1); rintro e w12 ⟨rfl, hb⟩; refine ⟨_, rfl, ?_⟩; replace HO0_0 := am (Kd.R_below (xR HO0_0.out) hb); replace HO0_1 := am (Kd.R_below (xR HO0_1.out) hb); replace BK417 := am (blk_below (xB BK417.out) hb); replace HK := am (Kept.below (S := (fun k_ => P0_0_ k_ ∨ P0_1_ k_)) (xJ HK.out) hb); replace HB := am (below_step (xW HB.out) hb); (try clear hb); obtain ⟨hcz13_0, hcz13_1, hcz13_2, hfz13_0, hfz13_1, hfz13_2⟩ := xT3 (W := w12) BK417.out; have p7 : 0 ≤ (t418 : Int) := of_decide_eq_true (by assumption); have q7 : (t418 : Int) < ((l0_0.length : Int) : Int) := of_decide_eq_true (by assumption); obtain ⟨go7, co7, eo7, gb7, gl7, cl7, HG7⟩ := Kd.R_form HO0_0.out (by omega); (first | cases eo7 | (injection eo7 with ea_ en_ ec_; (first | subst ea_ | (injection ea_ with ea_; subst ea_)); subst ec_; clear en_)); have GB7 := am gb7; have GG7 := am HG7; clear gb7 gl7 HG7; have HMgo7 := am (show ((P0_0_ go7 ∨ P0_1_ go7) ∨ w.heap.size ≤ go7) from (HO0_0.out.1 _ rfl).1); obtain ⟨ce7, hcl7, hM7, hcc7, hfr7⟩ := Kd.R_elem HO0_0.out z57 (t418 : Int) p7 q7; obtain rfl := k57_openM hM7; have hx7_0 : w12.cell? ⟨go7, (t418 : Int).toNat * 2, none⟩ = some (.string ((rd_T57 l0_0 t418).f0)) := hcc7 0 _ rfl; have hx7_1 : w12.cell? ⟨go7, (t418 : Int).toNat * 2 + 1, none⟩ = some (.int .i64 ((rd_T57 l0_0 t418).f1)) := hcc7 1 _ rfl; have hf7_0 : w12.frozen? ⟨go7, (t418 : Int).toNat * 2, none⟩ = false := hfr7 0; have hf7_1 : w12.frozen? ⟨go7, (t418 : Int).toNat * 2 + 1, none⟩ = false := hfr7 1; clear hcl7 hcc7 hfr7 hM7; replace p7 := eq_true p7; replace q7 := eq_true q7; have HX14 := am (show Kd.R k57 57 w12 w0.heap.size (fun k_ => ((P0_0_ k_ ∨ P0_1_ k_) ∨ w.heap.size ≤ k_) ∧ some k_ ≠ (.slice Ao9 l0_1.length co9 : Value).ownBlock) (.slice (some ⟨go7, 0, none⟩) l0_0.length co8) l0_0 from (xR HO0_0.out)); obtain ⟨ce14, hcl14, hM14, hcc14, hfr14⟩ := Kd.R_elem HX14.out z57 (t418 : Int) (of_decide_eq_true (by assumption)) (by have h_ : (t418 : Int) < ((l0_0.length : Int) : Int) := of_decide_eq_true (by assumption); first | exact h_ | (have e_ := (Kd.R_reads' HO0_0.out).1; omega) | simpa using h_); obtain rfl := k57_openM hM14; have HP14 := Kd.R_seg HX14.out (t418 : Int) (of_decide_eq_true (by assumption)) (by have h_ : (t418 : Int) < ((l0_0.length : Int) : Int) := of_decide_eq_true (by assumption); first | exact h_ | (have e_ := (Kd.R_reads' HO0_0.out).1; omega) | simpa using h_) (seg := [.string (⟨#[]⟩ : ByteArray), .int .i64 (-2)]) (j := 0) hcl14 hcc14 (show 2 ≤ 2 from by decide) (x' := (⟨(⟨#[]⟩ : ByteArray), (-2)⟩ : S57)) (k57_mkM _ _ _ (⟨(⟨#[]⟩ : ByteArray), (-2)⟩ : S57) ) (fun _ hk => hk); have hx14_0 := hcc14 0 _ rfl; (try simp only [show (k57).sz = 2 from rfl, Nat.mul_one, Nat.add_zero] at hx14_0); have hf14_0 := hfr14 0; (try simp only [show (k57).sz = 2 from rfl, Nat.mul_one, Nat.add_zero] at hf14_0); have hx14_1 := hcc14 1 _ rfl; (try simp only [show (k57).sz = 2 from rfl, Nat.mul_one, Nat.add_zero] at hx14_1); have hf14_1 := hfr14 1; (try simp only [show (k57).sz = 2 from rfl, Nat.mul_one, Nat.add_zero] at hf14_1); clear hcl14 hcc14 hfr14 hM14) | ((with_reducible refine gate_store (t := 57) (p := 21) rfl ?_); refine store_event (t := 57) (p := 21) (v := ?vo_w15) (w1 := ((w12.setCell ⟨go7, (t418 : Int).toNat * 2, none⟩ (.string (⟨#[]⟩ : ByteArray))).setCell ⟨go7, (t418 : Int).toNat * 2 + 1, none⟩ (.int .i64 (-2)))) ?hg ?ho ?hn ?hr ?_; (case ho => rfl); (case hg => rfl); (case hn => rfl); (case hr => first | (go_simp; done) | (go_simp; rfl)); intro w15 hw; have hg : w12.grownBy w15 (some go7) := (by rw [hw]; exact HP14.2); have hp_ : Kd.R k57 57 w15 w0.heap.size (fun k_ => ((P0_0_ k_ ∨ P0_1_ k_) ∨ w.heap.size ≤ k_) ∧ some k_ ≠ (.slice Ao9 l0_1.length co9 : Value).ownBlock) (.slice (some ⟨go7, 0, none⟩) l0_0.length co8) y419 := (by rw [hw, Ny419.out]; exact HP14.1); clear HP14; replace HO0_1 := am (Kd.R_after (v := (.slice (some ⟨go7, 0, none⟩) l0_0.length co8)) (v1 := (.slice (some ⟨go7, 0, none⟩) l0_0.length co8)) (ok := (fun k_ => ((P0_0_ k_ ∨ P0_1_ k_) ∨ w.heap.size ≤ k_))) (xR HO0_1.out) hg (.inl rfl)); replace BK417 := am (blk_grown (g := gb0_) (o := .cells #[.slice (some ⟨go7, 0, none⟩) l0_0.length co8, .slice Ao9 l0_1.length co9, .int .i64 a0_2] 26 (0, 0)) (xB BK417.out) hg (Kd.R_ne HO0_0.out BK417.out (by decide))); replace HB := am ((by rw [hw]; exact below_set (below_set (HB.out) GB7.out) GB7.out : Below w0.heap.size w0 w15)); replace HK := am (Kept.of_grown (S := (fun k_ => P0_0_ k_ ∨ P0_1_ k_)) hg (xJ HK.out) (fun k_ e_ => (HO0_0.out.1 k_ e_).1)); replace HO0_0 := am (hp_); clear hg hw hp_))
    go_ret
    exact ⟨xV, Kd.R_mono (xR HO0_0.out) (fun _ hk => hk.1), Kd.R_mono (xR HO0_1.out) (fun _ hk => hk.1), xW HB.out, xJ HK.out⟩
   ·rw [if_neg c6] at H
    exact absurd H (by simp)
  ·rw [if_neg c5] at H
   exact absurd H (by simp)
 ·rw [if_neg c4] at H
  have c4b0 : decide (0 ≤ t418) = false := decide_eq_false c4
  clear c4
  replace H := Option.bind_eq_some_iff.mp H
  obtain ⟨t420, A160, H⟩ := H
  try dsimp only at H
  have A16 := am A160
  clear A160
  by_cases c17 : t420 ≥ 0
  ·rw [if_pos c17] at H
   have c17b0 : decide (0 ≤ t420) = true := decide_eq_true c17
   clear c17
   by_cases c18 : 0 ≤ t420
   ·rw [if_pos c18] at H
    have c18b0 : decide (0 ≤ t420) = true := decide_eq_true c18
    clear c18
    by_cases c19 : t420 < (l0_1.length : Int)
    ·rw [if_pos c19] at H
     have c19b0 : decide (t420 < (l0_1.length : Int)) = true := decide_eq_true c19
     clear c19
     obtain ⟨y421, hy421⟩ : ∃ y_ : List (S57), y_ = (l0_1.set (t420 : Int).toNat (⟨(⟨#[]⟩ : ByteArray), (-2)⟩ : S57)) := ⟨_, rfl⟩
     replace H : (some (true, l0_0, y421)) = some (r1, r2, r3) := by first | (rw [hy421]; with_reducible exact H) | (have H2_ := (Option.bind_some _ _).symm.trans H; rw [hy421]; with_reducible exact H2_) | (have H2_ := (Option.bind_some _ _).symm.trans H; with_reducible exact H2_) | with_reducible exact H | (rw [hy421]; exact H) | exact H
     have Ny421 := am hy421
     clear hy421
     simp only [Option.some.injEq, Prod.mk.injEq] at H
     obtain ⟨rfl, rfl, rfl⟩ := H
     obtain ⟨Ao21, co21, eo21⟩ := Kd.R_slice HO0_0.out
     subst eo21
     obtain ⟨Ao22, co22, eo22⟩ := Kd.R_slice HO0_1.out
     subst eo22
     have BK417 := am hg0_
     have GE417 := am hge0_
     obtain ⟨hcz24_0, hcz24_1, hcz24_2, hfz24_0, hfz24_1, hfz24_2⟩ := xT3 (W := w) BK417.out
     go_enter Try.func70, Try.ntmps70
     go_wp2_with (first | ((with_reducible refine gate_callee (f := 80) rfl ?_); refine xG (some 12) 80 Try.func80 #[.slice Ao21 l0_0.length co21, .string a1] (h := ?_); (with_reducible refine (impl_seek.calls k _ _ l0_0 a1 t418 _ ?side1 ?side2 A3.out).mono ?_); (case side1 => exact xC ((Kd.R_reads' HO0_0.out).2.2)); (case side2 => exact (Kd.R_reads' HO0_0.out).2.1); rintro e w25 ⟨rfl, hb⟩; refine ⟨_, rfl, ?_⟩; replace HO0_0 := am (Kd.R_below (xR HO0_0.out) hb); replace HO0_1 := am (Kd.R_below (xR HO0_1.out) hb); replace BK417 := am (blk_below (xB BK417.out) hb); replace HK := am (Kept.below (S := (fun k_ => P0_0_ k_ ∨ P0_1_ k_)) (xJ HK.out) hb); replace HB := am (below_step (xW HB.out) hb); (try clear hb); obtain ⟨hcz26_0, hcz26_1, hcz26_2, hfz26_0, hfz26_1, hfz26_2⟩ := xT3 (W := w25) BK417.out) | ((with_reducible refine gate_callee (f := 80) rfl ?_); refine xG (some 27) 80 Try.func80 #[.slice Ao22 l0_1.length co22, .string a1] (h := ?_); (with_reducible refine (impl_seek.calls k _ _ l0_1 a1 t420 _ ?side1 ?side2 A16.out).mono ?_); (case side1 => exact xC ((Kd.R_reads' HO0_1.out).2.2)); (case side2 => exact (Kd.R_reads' HO0_1.out).2.1); rintro e w27 ⟨rfl, hb⟩; refine ⟨_, rfl, ?_⟩; replace HO0_0 := am (Kd.R_below (xR HO0_0.out) hb); replace HO0_1 := am (Kd.R_below (xR HO0_1.out) hb); replace BK417 := am (blk_below (xB BK417.out) hb); replace HK := am (Kept.below (S := (fun k_ => P0_0_ k_ ∨ P0_1_ k_)) (xJ HK.out) hb); replace HB := am (below_step (xW HB.out) hb); (try clear hb); obtain ⟨hcz28_0, hcz28_1, hcz28_2, hfz28_0, hfz28_1, hfz28_2⟩ := xT3 (W := w27) BK417.out; have p20 : 0 ≤ (t420 : Int) := of_decide_eq_true (by assumption); have q20 : (t420 : Int) < ((l0_1.length : Int) : Int) := of_decide_eq_true (by assumption); obtain ⟨go20, co20, eo20, gb20, gl20, cl20, HG20⟩ := Kd.R_form HO0_1.out (by omega); (first | cases eo20 | (injection eo20 with ea_ en_ ec_; (first | subst ea_ | (injection ea_ with ea_; subst ea_)); subst ec_; clear en_)); have GB20 := am gb20; have GG20 := am HG20; clear gb20 gl20 HG20; have HMgo20 := am (show ((P0_0_ go20 ∨ P0_1_ go20) ∨ w.heap.size ≤ go20) from (HO0_1.out.1 _ rfl).1); obtain ⟨ce20, hcl20, hM20, hcc20, hfr20⟩ := Kd.R_elem HO0_1.out z57 (t420 : Int) p20 q20; obtain rfl := k57_openM hM20; have hx20_0 : w27.cell? ⟨go20, (t420 : Int).toNat * 2, none⟩ = some (.string ((rd_T57 l0_1 t420).f0)) := hcc20 0 _ rfl; have hx20_1 : w27.cell? ⟨go20, (t420 : Int).toNat * 2 + 1, none⟩ = some (.int .i64 ((rd_T57 l0_1 t420).f1)) := hcc20 1 _ rfl; have hf20_0 : w27.frozen? ⟨go20, (t420 : Int).toNat * 2, none⟩ = false := hfr20 0; have hf20_1 : w27.frozen? ⟨go20, (t420 : Int).toNat * 2 + 1, none⟩ = false := hfr20 1; clear hcl20 hcc20 hfr20 hM20; replace p20 := eq_true p20; replace q20 := eq_true q20; have HX29 := am (show Kd.R k57 57 w27 w0.heap.size (fun k_ => ((P0_0_ k_ ∨ P0_1_ k_) ∨ w.heap.size ≤ k_) ∧ some k_ ≠ (.slice Ao21 l0_0.length co21 : Value).ownBlock) (.slice (some ⟨go20, 0, none⟩) l0_1.length co22) l0_1 from (xR HO0_1.out)); obtain ⟨ce29, hcl29, hM29, hcc29, hfr29⟩ := Kd.R_elem HX29.out z57 (t420 : Int) (of_decide_eq_true (by assumption)) (by have h_ : (t420 : Int) < ((l0_1.length : Int) : Int) := of_decide_eq_true (by assumption); first | exact h_ | (have e_ := (Kd.R_reads' HO0_1.out).1; omega) | simpa using h_); obtain rfl := k57_openM hM29; have HP29 := Kd.R_seg HX29.out (t420 : Int) (of_decide_eq_true (by assumption)) (by have h_ : (t420 : Int) < ((l0_1.length : Int) : Int) := of_decide_eq_true (by assumption); first | exact h_ | (have e_ := (Kd.R_reads' HO0_1.out).1; omega) | simpa using h_) (seg := [.string (⟨#[]⟩ : ByteArray), .int .i64 (-2)]) (j := 0) hcl29 hcc29 (show 2 ≤ 2 from by decide) (x' := (⟨(⟨#[]⟩ : ByteArray), (-2)⟩ : S57)) (k57_mkM _ _ _ (⟨(⟨#[]⟩ : ByteArray), (-2)⟩ : S57) ) (fun _ hk => hk); have hx29_0 := hcc29 0 _ rfl; (try simp only [show (k57).sz = 2 from rfl, Nat.mul_one, Nat.add_zero] at hx29_0); have hf29_0 := hfr29 0; (try simp only [show (k57).sz = 2 from rfl, Nat.mul_one, Nat.add_zero] at hf29_0); have hx29_1 := hcc29 1 _ rfl; (try simp only [show (k57).sz = 2 from rfl, Nat.mul_one, Nat.add_zero] at hx29_1); have hf29_1 := hfr29 1; (try simp only [show (k57).sz = 2 from rfl, Nat.mul_one, Nat.add_zero] at hf29_1); clear hcl29 hcc29 hfr29 hM29) | ((with_reducible refine gate_store (t := 57) (p := 36) rfl ?_); refine store_event (t := 57) (p := 36) (v := ?vo_w30) (w1 := ((w27.setCell ⟨go20, (t420 : Int).toNat * 2, none⟩ (.string (⟨#[]⟩ : ByteArray))).setCell ⟨go20, (t420 : Int).toNat * 2 + 1, none⟩ (.int .i64 (-2)))) ?hg ?ho ?hn ?hr ?_; (case ho => rfl); (case hg => rfl); (case hn => rfl); (case hr => first | (go_simp; done) | (go_simp; rfl)); intro w30 hw; have hg : w27.grownBy w30 (some go20) := (by rw [hw]; exact HP29.2); have hp_ : Kd.R k57 57 w30 w0.heap.size (fun k_ => ((P0_0_ k_ ∨ P0_1_ k_) ∨ w.heap.size ≤ k_) ∧ some k_ ≠ (.slice Ao21 l0_0.length co21 : Value).ownBlock) (.slice (some ⟨go20, 0, none⟩) l0_1.length co22) y421 := (by rw [hw, Ny421.out]; exact HP29.1); clear HP29; replace HO0_0 := am (Kd.R_after (v := (.slice (some ⟨go20, 0, none⟩) l0_1.length co22)) (v1 := (.slice (some ⟨go20, 0, none⟩) l0_1.length co22)) (ok := (fun k_ => ((P0_0_ k_ ∨ P0_1_ k_) ∨ w.heap.size ≤ k_))) (xR HO0_0.out) hg (.inl rfl)); replace BK417 := am (blk_grown (g := gb0_) (o := .cells #[.slice Ao21 l0_0.length co21, .slice (some ⟨go20, 0, none⟩) l0_1.length co22, .int .i64 a0_2] 26 (0, 0)) (xB BK417.out) hg (Kd.R_ne HO0_1.out BK417.out (by decide))); replace HB := am ((by rw [hw]; exact below_set (below_set (HB.out) GB20.out) GB20.out : Below w0.heap.size w0 w30)); replace HK := am (Kept.of_grown (S := (fun k_ => P0_0_ k_ ∨ P0_1_ k_)) hg (xJ HK.out) (fun k_ e_ => (HO0_1.out.1 k_ e_).1)); replace HO0_1 := am (hp_); clear hg hw hp_))
     go_ret
     exact ⟨xV, Kd.R_mono (xR HO0_0.out) (fun _ hk => hk.1), Kd.R_mono (xR HO0_1.out) (fun _ hk => hk.1), xW HB.out, xJ HK.out⟩
    ·rw [if_neg c19] at H
     exact absurd H (by simp)
   ·rw [if_neg c18] at H
    exact absurd H (by simp)
  ·rw [if_neg c17] at H
   have c17b0 : decide (0 ≤ t420) = false := decide_eq_false c17
   clear c17
   simp only [Option.some.injEq, Prod.mk.injEq] at H
   obtain ⟨rfl, rfl, rfl⟩ := H
   obtain ⟨Ao31, co31, eo31⟩ := Kd.R_slice HO0_0.out
   subst eo31
   obtain ⟨Ao32, co32, eo32⟩ := Kd.R_slice HO0_1.out
   subst eo32
   have BK417 := am hg0_
   have GE417 := am hge0_
   obtain ⟨hcz34_0, hcz34_1, hcz34_2, hfz34_0, hfz34_1, hfz34_2⟩ := xT3 (W := w) BK417.out
   go_enter Try.func70, Try.ntmps70
   go_wp2_with (first | ((with_reducible refine gate_callee (f := 80) rfl ?_); refine xG (some 12) 80 Try.func80 #[.slice Ao31 l0_0.length co31, .string a1] (h := ?_); (with_reducible refine (impl_seek.calls k _ _ l0_0 a1 t418 _ ?side1 ?side2 A3.out).mono ?_); (case side1 => exact xC ((Kd.R_reads' HO0_0.out).2.2)); (case side2 => exact (Kd.R_reads' HO0_0.out).2.1); rintro e w35 ⟨rfl, hb⟩; refine ⟨_, rfl, ?_⟩; replace HO0_0 := am (Kd.R_below (xR HO0_0.out) hb); replace HO0_1 := am (Kd.R_below (xR HO0_1.out) hb); replace BK417 := am (blk_below (xB BK417.out) hb); replace HK := am (Kept.below (S := (fun k_ => P0_0_ k_ ∨ P0_1_ k_)) (xJ HK.out) hb); replace HB := am (below_step (xW HB.out) hb); (try clear hb); obtain ⟨hcz36_0, hcz36_1, hcz36_2, hfz36_0, hfz36_1, hfz36_2⟩ := xT3 (W := w35) BK417.out) | ((with_reducible refine gate_callee (f := 80) rfl ?_); refine xG (some 27) 80 Try.func80 #[.slice Ao32 l0_1.length co32, .string a1] (h := ?_); (with_reducible refine (impl_seek.calls k _ _ l0_1 a1 t420 _ ?side1 ?side2 A16.out).mono ?_); (case side1 => exact xC ((Kd.R_reads' HO0_1.out).2.2)); (case side2 => exact (Kd.R_reads' HO0_1.out).2.1); rintro e w37 ⟨rfl, hb⟩; refine ⟨_, rfl, ?_⟩; replace HO0_0 := am (Kd.R_below (xR HO0_0.out) hb); replace HO0_1 := am (Kd.R_below (xR HO0_1.out) hb); replace BK417 := am (blk_below (xB BK417.out) hb); replace HK := am (Kept.below (S := (fun k_ => P0_0_ k_ ∨ P0_1_ k_)) (xJ HK.out) hb); replace HB := am (below_step (xW HB.out) hb); (try clear hb); ))
   go_ret
   exact ⟨xV, Kd.R_mono (xR HO0_0.out) (fun _ hk => hk.1), Kd.R_mono (xR HO0_1.out) (fun _ hk => hk.1), xW HB.out, xJ HK.out⟩
def impl_TakeKey.f (k : Nat) (l0_0 : List (S57)) (l0_1 : List (S57)) (a0_2 : Int) (a1 : ByteArray) : Option ((List (S57)) × (List (S57)) × Int × Bool) := (impl_copyTable.f l0_0 l0_1 a0_2).bind fun bt424 => ((impl_TableOk.f k l0_0 l0_1 a0_2).bind fun t432 => (if t432 = true then ((impl_Table_take.f k bt424.1 bt424.2.1 bt424.2.2 a1).bind fun bt433 => (if bt433.1 = true then (some (bt433.2.1, bt433.2.2, bt424.2.2, true)) else (some (([] : List (S57)), ([] : List (S57)), 0, false)))) else (some (([] : List (S57)), ([] : List (S57)), 0, false))))
set_option maxHeartbeats 8000000 in
set_option maxRecDepth 100000 in
theorem impl_TakeKey.calls (k : Nat) (A0_0 : Option Addr) (c0_0 : Nat) (l0_0 : List (S57)) (A0_1 : Option Addr) (c0_1 : Nat) (l0_1 : List (S57)) (a0_2 : Int) (a1 : ByteArray) (r1 : List (S57)) (r2 : List (S57)) (r3 : Int) (r4 : Bool) (w : World) (hr0_0 : Kd.C k57 w A0_0 l0_0.length l0_0) (hc0_0 : l0_0.length ≤ c0_0) (hr0_1 : Kd.C k57 w A0_1 l0_1.length l0_1) (hc0_1 : l0_1.length ≤ c0_1) (h : impl_TakeKey.f k l0_0 l0_1 a0_2 a1 = some (r1, r2, r3, r4)) :
  Calls Try.prog 34 #[.agg #[.slice A0_0 l0_0.length c0_0, .slice A0_1 l0_1.length c0_1, .int .i64 a0_2], .string a1] w fun e w' => ∃ v0_ v1_ : Value, e = .returned (.tuple #[.agg #[v0_, v1_, .int .i64 r3], .bool r4]) ∧ Kd.R k57 57 w' w.heap.size (fun k_ => some k_ ≠ (v1_ : Value).ownBlock) v0_ r1 ∧ Kd.R k57 57 w' w.heap.size (fun k_ => some k_ ≠ (v0_ : Value).ownBlock) v1_ r2 ∧ Below w.heap.size w w' := by
 have hu26 := Try.underlying26
 have HR0_0 := am hr0_0
 have HC0_0 := am hc0_0
 clear hr0_0 hc0_0
 have HR0_1 := am hr0_1
 have HC0_1 := am hc0_1
 clear hr0_1 hc0_1
 have HB := am (Below.refl w.heap.size w)
 have H : ((impl_copyTable.f l0_0 l0_1 a0_2).bind fun bt424 => ((impl_TableOk.f k l0_0 l0_1 a0_2).bind fun t432 => (if t432 = true then ((impl_Table_take.f k bt424.1 bt424.2.1 bt424.2.2 a1).bind fun bt433 => (if bt433.1 = true then (some (bt433.2.1, bt433.2.2, bt424.2.2, true)) else (some (([] : List (S57)), ([] : List (S57)), 0, false)))) else (some (([] : List (S57)), ([] : List (S57)), 0, false))))) = some (r1, r2, r3, r4) := h
 clear h
 replace H := Option.bind_eq_some_iff.mp H
 obtain ⟨⟨t424, t427, t430⟩, A30, H⟩ := H
 try dsimp only at H
 have A3 := am A30
 clear A30
 replace H := Option.bind_eq_some_iff.mp H
 obtain ⟨t432, A40, H⟩ := H
 try dsimp only at H
 have A4 := am A40
 clear A40
 by_cases c5 : t432 = true
 ·subst c5
  have H1 : ((impl_Table_take.f k t424 t427 t430 a1).bind fun bt433 => (if bt433.1 = true then (some (bt433.2.1, bt433.2.2, t430, true)) else (some (([] : List (S57)), ([] : List (S57)), 0, false)))) = some (r1, r2, r3, r4) := by rw [if_pos rfl] at H; exact H
  clear H
  have H := H1
  clear H1
  replace H := Option.bind_eq_some_iff.mp H
  obtain ⟨⟨t433, t434, t435⟩, A60, H⟩ := H
  try dsimp only at H
  have A6 := am A60
  clear A60
  by_cases c7 : t433 = true
  ·subst c7
   have H1 : (some (t434, t435, t430, true)) = some (r1, r2, r3, r4) := by rw [if_pos rfl] at H; exact H
   clear H
   have H := H1
   clear H1
   simp only [Option.some.injEq, Prod.mk.injEq] at H
   obtain ⟨rfl, rfl, rfl, rfl⟩ := H
   go_enter Try.func34, Try.ntmps34
   go_wp2_with (first | ((with_reducible refine gate_dst (N := 2) rfl ?_); refine xE (N := 2) (cs := #[.slice A0_0 l0_0.length c0_0, .slice A0_1 l0_1.length c0_1, .int .i64 a0_2]) (t := 26) (h := ?_); intro gb422 hg w8 hbox hb; have BK422 := am (hbox); have GW422 := am (xS hg HB.out); have GE422 := am (xS hg HB.out); replace HB := am (below_step (xW HB.out) hb); clear hb hbox hg) | ((with_reducible refine gate_dst (N := 4) rfl ?_); refine xE (N := 4) (cs := #[.slice none 0 0, .slice none 0 0, .int .i64 0]) (t := 26) (h := ?_); intro gb423 hg w9 hbox hb; have BK423 := am (hbox); have GW423 := am (xS hg HB.out); have GE423 := am (xS hg HB.out); replace HB := am (below_step (xW HB.out) hb); have NB422_423 := am (xN hg BK422.out); have NB423_422 := am (xM hg BK422.out); replace BK422 := am (blk_below (xB BK422.out) hb); clear hb hbox hg; have hnb10 := NB422_423.out; have hnc10 := NB423_422.out; obtain ⟨hcz11_0, hcz11_1, hcz11_2, hfz11_0, hfz11_1, hfz11_2⟩ := xT3 (W := w9) BK422.out) | ((with_reducible refine gate_callee (f := 47) rfl ?_); refine xG (some 8) 47 Try.func47 #[.agg #[.slice A0_0 l0_0.length c0_0, .slice A0_1 l0_1.length c0_1, .int .i64 a0_2]] (h := ?_); (with_reducible refine (impl_copyTable.calls _ _ l0_0 _ _ l0_1 a0_2 t424 t427 t430 _ ?side1 ?side2 ?side3 ?side4 A3.out).mono ?_); (case side1 => exact xC (Kd.C_below HR0_0.out HB.out)); (case side2 => exact HC0_0.out); (case side3 => exact xC (Kd.C_below HR0_1.out HB.out)); (case side4 => exact HC0_1.out); rintro e w12 ⟨v425, v428, rfl, ho0, ho1, hb⟩; refine ⟨_, rfl, ?_⟩; have HO426 := am (Kd.R_lower ho0 (below_size (xW HB.out))); have HO429 := am (Kd.R_lower ho1 (below_size (xW HB.out))); replace BK422 := am (blk_below (xB BK422.out) hb); replace BK423 := am (blk_below (xB BK423.out) hb); replace HB := am (below_step (xW HB.out) hb); (try clear hb); (try clear ho0); (try clear ho1)) | ((with_reducible refine gate_dst (N := 6) rfl ?_); refine xE (N := 6) (cs := #[.slice none 0 0, .slice none 0 0, .int .i64 0]) (t := 26) (h := ?_); intro gb431 hg w13 hbox hb; replace HO426 := am (Kd.R_below (xR HO426.out) hb); replace HO429 := am (Kd.R_below (xR HO429.out) hb); have BK431 := am (hbox); have GW431 := am (xS hg HB.out); have GE431 := am (xS hg HB.out); replace HB := am (below_step (xW HB.out) hb); have NB422_431 := am (xN hg BK422.out); have NB431_422 := am (xM hg BK422.out); replace BK422 := am (blk_below (xB BK422.out) hb); have NB423_431 := am (xN hg BK423.out); have NB431_423 := am (xM hg BK423.out); replace BK423 := am (blk_below (xB BK423.out) hb); clear hb hbox hg; obtain ⟨Ao14, co14, eo14⟩ := Kd.R_slice HO426.out; subst eo14; have hnb15 := NB431_422.out; have hnc15 := NB422_431.out; have hnb16 := NB431_423.out; have hnc16 := NB423_431.out; obtain ⟨hcz17_0, hcz17_1, hcz17_2, hfz17_0, hfz17_1, hfz17_2⟩ := xT3 (W := w13) BK431.out; obtain ⟨Ao18, co18, eo18⟩ := Kd.R_slice HO429.out; subst eo18; obtain ⟨hcz19_0, hcz19_1, hcz19_2, hfz19_0, hfz19_1, hfz19_2⟩ := xT3 (W := w13) BK422.out) | ((with_reducible refine gate_callee (f := 18) rfl ?_); refine xG (some 10) 18 Try.func18 #[.agg #[.slice A0_0 l0_0.length c0_0, .slice A0_1 l0_1.length c0_1, .int .i64 a0_2]] (h := ?_); (with_reducible refine (impl_TableOk.calls k _ _ l0_0 _ _ l0_1 a0_2 true _ ?side1 ?side2 ?side3 ?side4 A4.out).mono ?_); (case side1 => exact Kd.C_below HR0_0.out (xW HB.out)); (case side2 => exact HC0_0.out); (case side3 => exact Kd.C_below HR0_1.out (xW HB.out)); (case side4 => exact HC0_1.out); rintro e w20 ⟨rfl, hb⟩; refine ⟨_, rfl, ?_⟩; replace HO426 := am (Kd.R_below (xR HO426.out) hb); replace HO429 := am (Kd.R_below (xR HO429.out) hb); replace BK422 := am (blk_below (xB BK422.out) hb); replace BK423 := am (blk_below (xB BK423.out) hb); replace BK431 := am (blk_below (xP BK431.out) hb); replace HB := am (below_step (xW HB.out) hb); (try clear hb); obtain ⟨hcz21_0, hcz21_1, hcz21_2, hfz21_0, hfz21_1, hfz21_2⟩ := xT3 (W := w20) BK431.out) | (go_at_call 70; (with_reducible refine (impl_Table_take.calls k (fun k_ => some k_ = (.slice Ao14 t424.length co14 : Value).ownBlock) (.slice Ao14 t424.length co14) t424 (fun k_ => some k_ = (.slice Ao18 t427.length co18 : Value).ownBlock) (.slice Ao18 t427.length co18) t427 t430 a1 true t434 t435 w _ ?side1 ?side2 ?side3 ?side4 ?side5 A6.out gb431 (xB BK431.out) GE431.out).mono ?_); (case side1 => exact xW HB.out); (case side2 => exact Kd.R_tight rfl HO426.out); (case side3 => exact fun k_ e_ => (HO426.out.1 k_ e_.symm)); (case side4 => exact Kd.R_tight rfl HO429.out); (case side5 => exact fun k_ e_ => (HO429.out.1 k_ e_.symm)); rintro e w22 ⟨rfl, hy0, hy1, hb, hkp⟩; replace BK422 := am (blk_kept (xB BK422.out) hkp (fun hs_ => Or.elim hs_ (fun e_ => (fun e_ => (Kd.R_ne HO426.out BK422.out (by decide)) e_) e_) (fun e_ => (fun e_ => (Kd.R_ne HO429.out BK422.out (by decide)) e_) e_))); replace BK423 := am (blk_kept (xB BK423.out) hkp (fun hs_ => Or.elim hs_ (fun e_ => (fun e_ => (Kd.R_ne HO426.out BK423.out (by decide)) e_) e_) (fun e_ => (fun e_ => (Kd.R_ne HO429.out BK423.out (by decide)) e_) e_))); replace BK431 := am (blk_kept (xB BK431.out) hkp (fun hs_ => Or.elim hs_ (fun e_ => (fun e_ => (Kd.R_ne HO426.out BK431.out (by decide)) e_) e_) (fun e_ => (fun e_ => (Kd.R_ne HO429.out BK431.out (by decide)) e_) e_))); replace HO426 := am (Kd.R_reok rfl hy0 (fun k_ e_ => HO426.out.1 k_ e_)); replace HO429 := am (Kd.R_reok rfl hy1 (fun k_ e_ => HO429.out.1 k_ e_)); replace HB := am (hb); (try clear hb); (try clear hkp); (try clear hy0); (try clear hy1); obtain ⟨hcz23_0, hcz23_1, hcz23_2, hfz23_0, hfz23_1, hfz23_2⟩ := xT3 (W := w22) BK431.out; obtain ⟨hcz24_0, hcz24_1, hcz24_2, hfz24_0, hfz24_1, hfz24_2⟩ := xT3 (W := w22) BK423.out))
   refine bodyPost_ret (results_ct rfl _ _ gb423 26 #[.slice Ao14 t424.length co14, .slice Ao18 t427.length co18, .int .i64 t430] (0, 0) _ rfl (xP BK423.out) Try.underlying26 rfl (by kernel_rfl)) rfl ?_
   exact ⟨_, _, xV, xR HO426.out, xR HO429.out, xW HB.out⟩
  ·replace c7 := Bool.eq_false_iff.mpr c7
   subst c7
   have H1 : (some (([] : List (S57)), ([] : List (S57)), 0, false)) = some (r1, r2, r3, r4) := by rw [if_neg (show ¬ (false = true) by decide)] at H; exact H
   clear H
   have H := H1
   clear H1
   simp only [Option.some.injEq, Prod.mk.injEq] at H
   obtain ⟨rfl, rfl, rfl, rfl⟩ := H
   go_enter Try.func34, Try.ntmps34
   go_wp2_with (first | ((with_reducible refine gate_dst (N := 2) rfl ?_); refine xE (N := 2) (cs := #[.slice A0_0 l0_0.length c0_0, .slice A0_1 l0_1.length c0_1, .int .i64 a0_2]) (t := 26) (h := ?_); intro gb422 hg w25 hbox hb; have BK422 := am (hbox); have GW422 := am (xS hg HB.out); have GE422 := am (xS hg HB.out); replace HB := am (below_step (xW HB.out) hb); clear hb hbox hg) | ((with_reducible refine gate_dst (N := 4) rfl ?_); refine xE (N := 4) (cs := #[.slice none 0 0, .slice none 0 0, .int .i64 0]) (t := 26) (h := ?_); intro gb423 hg w26 hbox hb; have BK423 := am (hbox); have GW423 := am (xS hg HB.out); have GE423 := am (xS hg HB.out); replace HB := am (below_step (xW HB.out) hb); have NB422_423 := am (xN hg BK422.out); have NB423_422 := am (xM hg BK422.out); replace BK422 := am (blk_below (xB BK422.out) hb); clear hb hbox hg; have hnb27 := NB422_423.out; have hnc27 := NB423_422.out; obtain ⟨hcz28_0, hcz28_1, hcz28_2, hfz28_0, hfz28_1, hfz28_2⟩ := xT3 (W := w26) BK422.out) | ((with_reducible refine gate_callee (f := 47) rfl ?_); refine xG (some 8) 47 Try.func47 #[.agg #[.slice A0_0 l0_0.length c0_0, .slice A0_1 l0_1.length c0_1, .int .i64 a0_2]] (h := ?_); (with_reducible refine (impl_copyTable.calls _ _ l0_0 _ _ l0_1 a0_2 t424 t427 t430 _ ?side1 ?side2 ?side3 ?side4 A3.out).mono ?_); (case side1 => exact xC (Kd.C_below HR0_0.out HB.out)); (case side2 => exact HC0_0.out); (case side3 => exact xC (Kd.C_below HR0_1.out HB.out)); (case side4 => exact HC0_1.out); rintro e w29 ⟨v425, v428, rfl, ho0, ho1, hb⟩; refine ⟨_, rfl, ?_⟩; have HO426 := am (Kd.R_lower ho0 (below_size (xW HB.out))); have HO429 := am (Kd.R_lower ho1 (below_size (xW HB.out))); replace BK422 := am (blk_below (xB BK422.out) hb); replace BK423 := am (blk_below (xB BK423.out) hb); replace HB := am (below_step (xW HB.out) hb); (try clear hb); (try clear ho0); (try clear ho1)) | ((with_reducible refine gate_dst (N := 6) rfl ?_); refine xE (N := 6) (cs := #[.slice none 0 0, .slice none 0 0, .int .i64 0]) (t := 26) (h := ?_); intro gb431 hg w30 hbox hb; replace HO426 := am (Kd.R_below (xR HO426.out) hb); replace HO429 := am (Kd.R_below (xR HO429.out) hb); have BK431 := am (hbox); have GW431 := am (xS hg HB.out); have GE431 := am (xS hg HB.out); replace HB := am (below_step (xW HB.out) hb); have NB422_431 := am (xN hg BK422.out); have NB431_422 := am (xM hg BK422.out); replace BK422 := am (blk_below (xB BK422.out) hb); have NB423_431 := am (xN hg BK423.out); have NB431_423 := am (xM hg BK423.out); replace BK423 := am (blk_below (xB BK423.out) hb); clear hb hbox hg; obtain ⟨Ao31, co31, eo31⟩ := Kd.R_slice HO426.out; subst eo31; have hnb32 := NB431_422.out; have hnc32 := NB422_431.out; have hnb33 := NB431_423.out; have hnc33 := NB423_431.out; obtain ⟨hcz34_0, hcz34_1, hcz34_2, hfz34_0, hfz34_1, hfz34_2⟩ := xT3 (W := w30) BK431.out; obtain ⟨Ao35, co35, eo35⟩ := Kd.R_slice HO429.out; subst eo35; obtain ⟨hcz36_0, hcz36_1, hcz36_2, hfz36_0, hfz36_1, hfz36_2⟩ := xT3 (W := w30) BK422.out) | ((with_reducible refine gate_callee (f := 18) rfl ?_); refine xG (some 10) 18 Try.func18 #[.agg #[.slice A0_0 l0_0.length c0_0, .slice A0_1 l0_1.length c0_1, .int .i64 a0_2]] (h := ?_); (with_reducible refine (impl_TableOk.calls k _ _ l0_0 _ _ l0_1 a0_2 true _ ?side1 ?side2 ?side3 ?side4 A4.out).mono ?_); (case side1 => exact Kd.C_below HR0_0.out (xW HB.out)); (case side2 => exact HC0_0.out); (case side3 => exact Kd.C_below HR0_1.out (xW HB.out)); (case side4 => exact HC0_1.out); rintro e w37 ⟨rfl, hb⟩; refine ⟨_, rfl, ?_⟩; replace HO426 := am (Kd.R_below (xR HO426.out) hb); replace HO429 := am (Kd.R_below (xR HO429.out) hb); replace BK422 := am (blk_below (xB BK422.out) hb); replace BK423 := am (blk_below (xB BK423.out) hb); replace BK431 := am (blk_below (xP BK431.out) hb); replace HB := am (below_step (xW HB.out) hb); (try clear hb); obtain ⟨hcz38_0, hcz38_1, hcz38_2, hfz38_0, hfz38_1, hfz38_2⟩ := xT3 (W := w37) BK431.out) | (go_at_call 70; (with_reducible refine (impl_Table_take.calls k (fun k_ => some k_ = (.slice Ao31 t424.length co31 : Value).ownBlock) (.slice Ao31 t424.length co31) t424 (fun k_ => some k_ = (.slice Ao35 t427.length co35 : Value).ownBlock) (.slice Ao35 t427.length co35) t427 t430 a1 false t434 t435 w _ ?side1 ?side2 ?side3 ?side4 ?side5 A6.out gb431 (xB BK431.out) GE431.out).mono ?_); (case side1 => exact xW HB.out); (case side2 => exact Kd.R_tight rfl HO426.out); (case side3 => exact fun k_ e_ => (HO426.out.1 k_ e_.symm)); (case side4 => exact Kd.R_tight rfl HO429.out); (case side5 => exact fun k_ e_ => (HO429.out.1 k_ e_.symm)); rintro e w39 ⟨rfl, hy0, hy1, hb, hkp⟩; replace BK422 := am (blk_kept (xB BK422.out) hkp (fun hs_ => Or.elim hs_ (fun e_ => (fun e_ => (Kd.R_ne HO426.out BK422.out (by decide)) e_) e_) (fun e_ => (fun e_ => (Kd.R_ne HO429.out BK422.out (by decide)) e_) e_))); replace BK423 := am (blk_kept (xB BK423.out) hkp (fun hs_ => Or.elim hs_ (fun e_ => (fun e_ => (Kd.R_ne HO426.out BK423.out (by decide)) e_) e_) (fun e_ => (fun e_ => (Kd.R_ne HO429.out BK423.out (by decide)) e_) e_))); replace BK431 := am (blk_kept (xB BK431.out) hkp (fun hs_ => Or.elim hs_ (fun e_ => (fun e_ => (Kd.R_ne HO426.out BK431.out (by decide)) e_) e_) (fun e_ => (fun e_ => (Kd.R_ne HO429.out BK431.out (by decide)) e_) e_))); replace HO426 := am (Kd.R_reok rfl hy0 (fun k_ e_ => HO426.out.1 k_ e_)); replace HO429 := am (Kd.R_reok rfl hy1 (fun k_ e_ => HO429.out.1 k_ e_)); replace HB := am (hb); (try clear hb); (try clear hkp); (try clear hy0); (try clear hy1); obtain ⟨hcz40_0, hcz40_1, hcz40_2, hfz40_0, hfz40_1, hfz40_2⟩ := xT3 (W := w39) BK423.out))
   refine bodyPost_ret (results_ct rfl _ _ gb423 26 #[.slice none 0 0, .slice none 0 0, .int .i64 0] (0, 0) _ rfl (xP BK423.out) Try.underlying26 rfl (by kernel_rfl)) rfl ?_
   exact ⟨_, _, xV, by first | exact Kd.R_nil _ _ _ _ _ | exact Kd.N_nil _ _ _ _ _ | exact Kd.V_nil _ _ _ _ _ | exact Kd.Q_nil _ _ _ _ _ | exact Kd.S_nil _ _ _ _ _, by first | exact Kd.R_nil _ _ _ _ _ | exact Kd.N_nil _ _ _ _ _ | exact Kd.V_nil _ _ _ _ _ | exact Kd.Q_nil _ _ _ _ _ | exact Kd.S_nil _ _ _ _ _, xW HB.out⟩
 ·replace c5 := Bool.eq_false_iff.mpr c5
  subst c5
  have H1 : (some (([] : List (S57)), ([] : List (S57)), 0, false)) = some (r1, r2, r3, r4) := by rw [if_neg (show ¬ (false = true) by decide)] at H; exact H
  clear H
  have H := H1
  clear H1
  simp only [Option.some.injEq, Prod.mk.injEq] at H
  obtain ⟨rfl, rfl, rfl, rfl⟩ := H
  go_enter Try.func34, Try.ntmps34
  go_wp2_with (first | ((with_reducible refine gate_dst (N := 2) rfl ?_); refine xE (N := 2) (cs := #[.slice A0_0 l0_0.length c0_0, .slice A0_1 l0_1.length c0_1, .int .i64 a0_2]) (t := 26) (h := ?_); intro gb422 hg w41 hbox hb; have BK422 := am (hbox); have GW422 := am (xS hg HB.out); have GE422 := am (xS hg HB.out); replace HB := am (below_step (xW HB.out) hb); clear hb hbox hg) | ((with_reducible refine gate_dst (N := 4) rfl ?_); refine xE (N := 4) (cs := #[.slice none 0 0, .slice none 0 0, .int .i64 0]) (t := 26) (h := ?_); intro gb423 hg w42 hbox hb; have BK423 := am (hbox); have GW423 := am (xS hg HB.out); have GE423 := am (xS hg HB.out); replace HB := am (below_step (xW HB.out) hb); have NB422_423 := am (xN hg BK422.out); have NB423_422 := am (xM hg BK422.out); replace BK422 := am (blk_below (xB BK422.out) hb); clear hb hbox hg; have hnb43 := NB422_423.out; have hnc43 := NB423_422.out; obtain ⟨hcz44_0, hcz44_1, hcz44_2, hfz44_0, hfz44_1, hfz44_2⟩ := xT3 (W := w42) BK422.out) | ((with_reducible refine gate_callee (f := 47) rfl ?_); refine xG (some 8) 47 Try.func47 #[.agg #[.slice A0_0 l0_0.length c0_0, .slice A0_1 l0_1.length c0_1, .int .i64 a0_2]] (h := ?_); (with_reducible refine (impl_copyTable.calls _ _ l0_0 _ _ l0_1 a0_2 t424 t427 t430 _ ?side1 ?side2 ?side3 ?side4 A3.out).mono ?_); (case side1 => exact xC (Kd.C_below HR0_0.out HB.out)); (case side2 => exact HC0_0.out); (case side3 => exact xC (Kd.C_below HR0_1.out HB.out)); (case side4 => exact HC0_1.out); rintro e w45 ⟨v425, v428, rfl, ho0, ho1, hb⟩; refine ⟨_, rfl, ?_⟩; have HO426 := am (Kd.R_lower ho0 (below_size (xW HB.out))); have HO429 := am (Kd.R_lower ho1 (below_size (xW HB.out))); replace BK422 := am (blk_below (xB BK422.out) hb); replace BK423 := am (blk_below (xB BK423.out) hb); replace HB := am (below_step (xW HB.out) hb); (try clear hb); (try clear ho0); (try clear ho1)) | ((with_reducible refine gate_dst (N := 6) rfl ?_); refine xE (N := 6) (cs := #[.slice none 0 0, .slice none 0 0, .int .i64 0]) (t := 26) (h := ?_); intro gb431 hg w46 hbox hb; replace HO426 := am (Kd.R_below (xR HO426.out) hb); replace HO429 := am (Kd.R_below (xR HO429.out) hb); have BK431 := am (hbox); have GW431 := am (xS hg HB.out); have GE431 := am (xS hg HB.out); replace HB := am (below_step (xW HB.out) hb); have NB422_431 := am (xN hg BK422.out); have NB431_422 := am (xM hg BK422.out); replace BK422 := am (blk_below (xB BK422.out) hb); have NB423_431 := am (xN hg BK423.out); have NB431_423 := am (xM hg BK423.out); replace BK423 := am (blk_below (xB BK423.out) hb); clear hb hbox hg; obtain ⟨Ao47, co47, eo47⟩ := Kd.R_slice HO426.out; subst eo47; have hnb48 := NB431_422.out; have hnc48 := NB422_431.out; have hnb49 := NB431_423.out; have hnc49 := NB423_431.out; obtain ⟨hcz50_0, hcz50_1, hcz50_2, hfz50_0, hfz50_1, hfz50_2⟩ := xT3 (W := w46) BK431.out; obtain ⟨Ao51, co51, eo51⟩ := Kd.R_slice HO429.out; subst eo51; obtain ⟨hcz52_0, hcz52_1, hcz52_2, hfz52_0, hfz52_1, hfz52_2⟩ := xT3 (W := w46) BK422.out) | ((with_reducible refine gate_callee (f := 18) rfl ?_); refine xG (some 10) 18 Try.func18 #[.agg #[.slice A0_0 l0_0.length c0_0, .slice A0_1 l0_1.length c0_1, .int .i64 a0_2]] (h := ?_); (with_reducible refine (impl_TableOk.calls k _ _ l0_0 _ _ l0_1 a0_2 false _ ?side1 ?side2 ?side3 ?side4 A4.out).mono ?_); (case side1 => exact Kd.C_below HR0_0.out (xW HB.out)); (case side2 => exact HC0_0.out); (case side3 => exact Kd.C_below HR0_1.out (xW HB.out)); (case side4 => exact HC0_1.out); rintro e w53 ⟨rfl, hb⟩; refine ⟨_, rfl, ?_⟩; replace HO426 := am (Kd.R_below (xR HO426.out) hb); replace HO429 := am (Kd.R_below (xR HO429.out) hb); replace BK422 := am (blk_below (xB BK422.out) hb); replace BK423 := am (blk_below (xB BK423.out) hb); replace BK431 := am (blk_below (xP BK431.out) hb); replace HB := am (below_step (xW HB.out) hb); (try clear hb); obtain ⟨hcz54_0, hcz54_1, hcz54_2, hfz54_0, hfz54_1, hfz54_2⟩ := xT3 (W := w53) BK423.out))
  refine bodyPost_ret (results_ct rfl _ _ gb423 26 #[.slice none 0 0, .slice none 0 0, .int .i64 0] (0, 0) _ rfl (xP BK423.out) Try.underlying26 rfl (by kernel_rfl)) rfl ?_
  exact ⟨_, _, xV, by first | exact Kd.R_nil _ _ _ _ _ | exact Kd.N_nil _ _ _ _ _ | exact Kd.V_nil _ _ _ _ _ | exact Kd.Q_nil _ _ _ _ _ | exact Kd.S_nil _ _ _ _ _, by first | exact Kd.R_nil _ _ _ _ _ | exact Kd.N_nil _ _ _ _ _ | exact Kd.V_nil _ _ _ _ _ | exact Kd.Q_nil _ _ _ _ _ | exact Kd.S_nil _ _ _ _ _, xW HB.out⟩
end Go.Proofs.Ytmahoekbedgbcaa.HFnPuts
