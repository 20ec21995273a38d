/- What the row of the law needs of the printed and the plain texts. -/
import Derived.Test.YtmahoekbedgbcaaZeHX
import Derived.Test.YtmahoekbedgbcaaZeHFnCleansx0
import Derived.Test.YtmahoekbedgbcaaZeHFnCleansx4
import Derived.Test.YtmahoekbedgbcaaZeHFnCleansx13
namespace Go.Proofs.Ytmahoekbedgbcaa.HFnCleans
open Go.RowKit Go.Proofs.YtmahoekbedgbcaaW.PrintWords Go.Proofs.YtmahoekbedgbcaaW.PrintLast Go.Proofs.YtmahoekbedgbcaaW.PrintMore
attribute [local go_sem] max2_int min2_int max_two min_two max_three min_three max_four min_four
set_option linter.unusedVariables false
set_option linter.unusedSimpArgs false
mutual
def spec_KeysOf.l0 : Nat → List ByteArray → Int → List (S57) → List (S57) → Int → Option (List ByteArray)
 | 0, _, _, _, _, _ => none
 | k + 1, x3, x4, x427000, x427001, x427002 => if x4 < (x427000.length : Int) then (if 0 ≤ x4 then (if ((rd_T57 x427000 x4).f0).toList = ([] : List UInt8) then (spec_KeysOf.l0 k x3 (wrap64 (x4 + 1)) x427000 x427001 x427002) else ((spec_l04Insert.f k x3 ((rd_T57 x427000 x4).f0)).bind fun t433 => (spec_KeysOf.l0 k t433 (wrap64 (x4 + 1)) x427000 x427001 x427002))) else (none)) else (spec_KeysOf.l1 k x3 0 x427000 x427001 x427002)
def spec_KeysOf.l1 : Nat → List ByteArray → Int → List (S57) → List (S57) → Int → Option (List ByteArray)
 | 0, _, _, _, _, _ => none
 | k + 1, x3, x5, x427000, x427001, x427002 => if x5 < (x427001.length : Int) then (if 0 ≤ x5 then (if ((rd_T57 x427001 x5).f0).toList = ([] : List UInt8) then (spec_KeysOf.l1 k x3 (wrap64 (x5 + 1)) x427000 x427001 x427002) else ((spec_l04Insert.f k x3 ((rd_T57 x427001 x5).f0)).bind fun t438 => (spec_KeysOf.l1 k t438 (wrap64 (x5 + 1)) x427000 x427001 x427002))) else (none)) else (some x3)
end
def spec_KeysOf.f (k : Nat) (l0_0 : List (S57)) (l0_1 : List (S57)) (a0_2 : Int) : Option (List ByteArray) := (some (([] : List ByteArray) : List ByteArray)).bind fun y427 => ((spec_TableOk.f k l0_0 l0_1 a0_2).bind fun t430 => (if t430 = true then (spec_KeysOf.l0 k y427 0 l0_0 l0_1 a0_2) else (some y427)))
set_option maxHeartbeats 8000000 in
set_option maxRecDepth 100000 in
theorem spec_KeysOf.calls (k : Nat) (A0_0 : Option Addr) (c0_0 : Nat) (l0_0 : List (S57)) (A0_1 : Option Addr) (c0_1 : Nat) (l0_1 : List (S57)) (a0_2 : Int) (r : List ByteArray) (w : World) (hr0_0 : Kd.C k57 w A0_0 l0_0.length l0_0) (hc0_0 : l0_0.length ≤ c0_0) (hr0_1 : Kd.C k57 w A0_1 l0_1.length l0_1) (hc0_1 : l0_1.length ≤ c0_1) (h : spec_KeysOf.f k l0_0 l0_1 a0_2 = some r) :
  Calls Try.prog 28 #[.agg #[.slice A0_0 l0_0.length c0_0, .slice A0_1 l0_1.length c0_1, .int .i64 a0_2]] w fun e w' => ∃ v0_ : Value, e = .returned (v0_) ∧ Kd.R Kd.string 9 w' w.heap.size (fun _ => True) v0_ r ∧ Below w.heap.size w w' := by
 have hu26 := Try.underlying26
 have HR0_0 := am hr0_0
 have HC0_0 := am hc0_0
 clear hr0_0 hc0_0
 have HR0_1 := am hr0_1
 have HC0_1 := am hc0_1
 clear hr0_1 hc0_1
 have HB := am (Below.refl w.heap.size w)
 have H : ((some (([] : List ByteArray) : List ByteArray)).bind fun y427 => ((spec_TableOk.f k l0_0 l0_1 a0_2).bind fun t430 => (if t430 = true then (spec_KeysOf.l0 k y427 0 l0_0 l0_1 a0_2) else (some y427)))) = some r := h
 clear h
 obtain ⟨y427, hy427⟩ : ∃ y_ : List ByteArray, y_ = (([] : List ByteArray)) := ⟨_, rfl⟩
 replace H : ((spec_TableOk.f k l0_0 l0_1 a0_2).bind fun t430 => (if t430 = true then (spec_KeysOf.l0 k y427 0 l0_0 l0_1 a0_2) else (some y427))) = some r := by first | (rw [hy427]; with_reducible exact H) | (have H2_ := (Option.bind_some _ _).symm.trans H; rw [hy427]; with_reducible exact H2_) | (have H2_ := (Option.bind_some _ _).symm.trans H; with_reducible exact H2_) | with_reducible exact H | (rw [hy427]; exact H) | exact H
 have Ny427 := am hy427
 clear hy427
 replace H := Option.bind_eq_some_iff.mp H
 obtain ⟨t430, A20, H⟩ := H
 try dsimp only at H
 have A2 := am A20
 clear A20
 by_cases c3 : t430 = true
 ·subst c3
  have H1 : (spec_KeysOf.l0 k y427 0 l0_0 l0_1 a0_2) = some r := by rw [if_pos rfl] at H; exact H
  clear H
  have H := H1
  clear H1
  have H' := am H
  clear H
  go_enter Try.func28, Try.ntmps28
  go_wp2_with (first | ((with_reducible refine gate_dst (N := 1) rfl ?_); refine xE (N := 1) (cs := #[.slice A0_0 l0_0.length c0_0, .slice A0_1 l0_1.length c0_1, .int .i64 a0_2]) (t := 26) (h := ?_); intro gb426 hg w4 hbox hb; have BK426 := am (hbox); have GW426 := am (xS hg HB.out); have GE426 := am (xS hg HB.out); replace HB := am (below_step (xW HB.out) hb); clear hb hbox hg) | ((with_reducible refine gate_dst (N := 6) rfl ?_); refine Kd.R_lit Kd.string _ 9 ?hg (N := 6) ?hd (xs := ([] : List ByteArray)) (inner := []) (ok := fun _ => True) (okp := fun _ => True) ?hr ?hp (fun _ hk => hk) trivial (Below.refl _ _) (Nat.le_refl _) (by simp) ?_; (case hd => rfl); (case hg => rfl); (case hr => first | (go_simp; done) | (go_simp; rfl)); (case hp => exact (Reps.none _ _)); intro v428 w5 ho6 hb hg_ hnew_; clear hg_ hnew_; (first | rw [← Ny427.out] at ho6 | (simp only [Int.reduceToNat] at ho6; rw [← Ny427.out] at ho6)); have HO429 := am (Kd.R_lower ho6 (below_size (xW HB.out))); replace BK426 := am (blk_below (xB BK426.out) hb); replace HB := am (below_step (xW HB.out) hb); clear hb ho6; obtain ⟨hcz7_0, hcz7_1, hcz7_2, hfz7_0, hfz7_1, hfz7_2⟩ := xT3 (W := w5) BK426.out) | ((with_reducible refine gate_callee (f := 25) rfl ?_); refine xG (some 8) 25 Try.func25 #[.agg #[.slice A0_0 l0_0.length c0_0, .slice A0_1 l0_1.length c0_1, .int .i64 a0_2]] (h := ?_); (with_reducible refine (spec_TableOk.calls k _ _ l0_0 _ _ l0_1 a0_2 true _ ?side1 ?side2 ?side3 ?side4 A2.out).mono ?_); (case side1 => exact xC (Kd.C_below HR0_0.out HB.out)); (case side2 => exact HC0_0.out); (case side3 => exact xC (Kd.C_below HR0_1.out HB.out)); (case side4 => exact HC0_1.out); rintro e w8 ⟨rfl, hb⟩; refine ⟨_, rfl, ?_⟩; replace HO429 := am (Kd.R_below (xR HO429.out) hb); replace BK426 := am (blk_below (xB BK426.out) hb); replace HB := am (below_step (xW HB.out) hb); (try clear hb); ))
  go_loopg [3, 4] k (fun kq v3 v4 w' => ∃ (x3_1 : List ByteArray) (x4_1 : Int), v4 = .int .i64 x4_1 ∧ Aside0 (spec_KeysOf.l0 kq x3_1 x4_1 l0_0 l0_1 a0_2 = some r) ∧ Aside0 (kq ≤ k) ∧ Aside0 (Kd.R Kd.string 9 w' w.heap.size (fun _ => True) v3 x3_1) ∧ Aside0 (w'.heap[gb426]? = some (.cells #[(.slice A0_0 l0_0.length c0_0), (.slice A0_1 l0_1.length c0_1), .int .i64 a0_2] 26 (0, 0))) ∧ Aside0 (Below w.heap.size w w'))
  case atStart => exact ⟨(y427), (0), (xQ), H', ⟨Nat.le_refl _⟩, ⟨xR HO429.out⟩, ⟨xB BK426.out⟩, ⟨xW HB.out⟩⟩
  case round =>
   clear H'
   try clear c2
   try clear p2
   try clear c3
   try clear hcz7_0
   try clear hcz7_1
   try clear hcz7_2
   try clear hfz7_0
   try clear hfz7_1
   try clear hfz7_2
   obtain ⟨x3_1, x4_1, rfl, HA, HK1, HO_3, BK426, HB⟩ := hrel
   cases gk with
   | zero => exact absurd HA.out (by simp [spec_KeysOf.l0])
   | succ k1 =>
    have H := HA.out
    clear HA
    simp only [spec_KeysOf.l0] at H
    by_cases c9 : x4_1 < (l0_0.length : Int)
    ·rw [if_pos c9] at H
     have c9b0 : decide (x4_1 < (l0_0.length : Int)) = true := decide_eq_true c9
     clear c9
     by_cases c10 : 0 ≤ x4_1
     ·rw [if_pos c10] at H
      have c10b0 : decide (0 ≤ x4_1) = true := decide_eq_true c10
      clear c10
      by_cases c11 : ((rd_T57 l0_0 x4_1).f0).toList = ([] : List UInt8)
      ·rw [if_pos c11] at H
       have c11b0 : (((rd_T57 l0_0 x4_1).f0).toList == ([] : List UInt8)) = true := beq_iff_eq.mpr c11
       have c11b1 : (((rd_T57 l0_0 x4_1).f0).toList != ([] : List UInt8)) = false := bne_eq_false_iff_eq.mpr c11
       clear c11
       have H' := am H
       clear H
       obtain ⟨hcz12_0, hcz12_1, hcz12_2, hfz12_0, hfz12_1, hfz12_2⟩ := xT3 (W := wr) BK426.out
       have p431 : 0 ≤ (x4_1 : Int) := of_decide_eq_true (by assumption)
       have q431 : x4_1 < (l0_0.length : Int) := of_decide_eq_true (by assumption)
       obtain ⟨ad431, e431, hx431_0, hx431_1⟩ := at_T57 HR0_0.out x4_1 p431 q431
       cases e431
       replace hx431_0 := (HB.out.cell (World.block_lt_of_cell? w _ hx431_0)).trans hx431_0
       replace hx431_1 := (HB.out.cell (World.block_lt_of_cell? w _ hx431_1)).trans hx431_1
       replace p431 := eq_true p431
       replace q431 := eq_true q431
       go_wp2
       go_roundg k1
       case measure => have := HK1.out; omega
       case rel => exact ⟨(x3_1), (wrap64 (x4_1 + 1)), (xQ), H', ⟨by have := HK1.out; omega⟩, ⟨xR HO_3.out⟩, ⟨xB BK426.out⟩, ⟨xW HB.out⟩⟩
      ·rw [if_neg c11] at H
       have c11b0 : (((rd_T57 l0_0 x4_1).f0).toList == ([] : List UInt8)) = false := beq_eq_false_iff_ne.mpr c11
       have c11b1 : (((rd_T57 l0_0 x4_1).f0).toList != ([] : List UInt8)) = true := bne_iff_ne.mpr c11
       replace H := Option.bind_eq_some_iff.mp H
       obtain ⟨t433, A130, H⟩ := H
       try dsimp only at H
       have A13 := am A130
       clear A130
       have H' := am H
       clear H
       obtain ⟨hcz14_0, hcz14_1, hcz14_2, hfz14_0, hfz14_1, hfz14_2⟩ := xT3 (W := wr) BK426.out
       have p431 : 0 ≤ (x4_1 : Int) := of_decide_eq_true (by assumption)
       have q431 : x4_1 < (l0_0.length : Int) := of_decide_eq_true (by assumption)
       obtain ⟨ad431, e431, hx431_0, hx431_1⟩ := at_T57 HR0_0.out x4_1 p431 q431
       cases e431
       replace hx431_0 := (HB.out.cell (World.block_lt_of_cell? w _ hx431_0)).trans hx431_0
       replace hx431_1 := (HB.out.cell (World.block_lt_of_cell? w _ hx431_1)).trans hx431_1
       replace p431 := eq_true p431
       replace q431 := eq_true q431
       have p432 : 0 ≤ (x4_1 : Int) := of_decide_eq_true (by assumption)
       have q432 : x4_1 < (l0_0.length : Int) := of_decide_eq_true (by assumption)
       obtain ⟨ad432, e432, hx432_0, hx432_1⟩ := at_T57 HR0_0.out x4_1 p432 q432
       obtain rfl : ad431 = ad432 := (by injection e432)
       replace hx432_0 := (HB.out.cell (World.block_lt_of_cell? w _ hx432_0)).trans hx432_0
       replace hx432_1 := (HB.out.cell (World.block_lt_of_cell? w _ hx432_1)).trans hx432_1
       replace p432 := eq_true p432
       replace q432 := eq_true q432
       obtain ⟨Ao15, co15, eo15⟩ := Kd.R_slice HO_3.out
       subst eo15
       go_wp2_with (first | ((with_reducible refine gate_callee (f := 66) rfl ?_); refine xG (some 32) 66 Try.func66 #[.slice Ao15 x3_1.length co15, .string ((rd_T57 l0_0 x4_1).f0)] (h := ?_); (with_reducible refine (spec_l04Insert.calls k1 _ _ x3_1 ((rd_T57 l0_0 x4_1).f0) t433 _ ?side1 ?side2 A13.out).mono ?_); (case side1 => exact xC ((Kd.R_reads' HO_3.out).2.2)); (case side2 => exact (Kd.R_reads' HO_3.out).2.1); rintro e w16 ⟨v434, rfl, ho0, hb⟩; refine ⟨_, rfl, ?_⟩; have HO435 := am (Kd.R_lower (Kd.R_new' ho0 (Kd.R_lt (xR HO_3.out))) (below_size (xW HB.out))); replace HO_3 := am (Kd.R_elder' (xR HO_3.out) (Kd.R_base ho0) hb); replace BK426 := am (blk_below (xB BK426.out) hb); replace HB := am (below_step (xW HB.out) hb); (try clear hb); (try clear ho0)))
       go_roundg k1
       case measure => have := HK1.out; omega
       case rel => exact ⟨(t433), (wrap64 (x4_1 + 1)), (xQ), H', ⟨by have := HK1.out; omega⟩, ⟨Kd.R_mono (xR HO435.out) (fun _ hk => trivial)⟩, ⟨xB BK426.out⟩, ⟨xW HB.out⟩⟩
     ·rw [if_neg c10] at H
      exact absurd H (by simp)
    ·rw [if_neg c9] at H
     have c9b0 : decide (x4_1 < (l0_0.length : Int)) = false := decide_eq_false c9
     clear c9
     have H' := am H
     clear H
     obtain ⟨hcz17_0, hcz17_1, hcz17_2, hfz17_0, hfz17_1, hfz17_2⟩ := xT3 (W := wr) BK426.out
     go_wp2
     go_loopg [3, 5] k1 (fun kq v3 v5 w' => ∃ (x3_2 : List ByteArray) (x5_2 : Int), v5 = .int .i64 x5_2 ∧ Aside0 (spec_KeysOf.l1 kq x3_2 x5_2 l0_0 l0_1 a0_2 = some r) ∧ Aside0 (kq ≤ k1) ∧ Aside0 (Kd.R Kd.string 9 w' w.heap.size (fun _ => True) v3 x3_2) ∧ Aside0 (w'.heap[gb426]? = some (.cells #[(.slice A0_0 l0_0.length c0_0), (.slice A0_1 l0_1.length c0_1), .int .i64 a0_2] 26 (0, 0))) ∧ Aside0 (Below w.heap.size w w'))
     case atStart => exact ⟨(x3_1), (0), (xQ), H', ⟨Nat.le_refl _⟩, ⟨xR HO_3.out⟩, ⟨xB BK426.out⟩, ⟨xW HB.out⟩⟩
     case round =>
      clear H'
      try clear c1
      try clear c2
      try clear p2
      try clear c3
      try clear p4
      try clear q4
      try clear hx4
      try clear c6
      try clear p6
      try clear c9
      try clear c9b0
      try clear c10
      try clear c10b0
      try clear c11
      try clear c11b0
      try clear c11b1
      try clear hcz12_0
      try clear hcz12_1
      try clear hcz12_2
      try clear hcz14_0
      try clear hcz14_1
      try clear hcz14_2
      try clear hcz17_0
      try clear hcz17_1
      try clear hcz17_2
      try clear hcz7_0
      try clear hcz7_1
      try clear hcz7_2
      try clear hfz12_0
      try clear hfz12_1
      try clear hfz12_2
      try clear hfz14_0
      try clear hfz14_1
      try clear hfz14_2
      try clear hfz17_0
      try clear hfz17_1
      try clear hfz17_2
      try clear hfz7_0
      try clear hfz7_1
      try clear hfz7_2
      try clear hx431_0
      try clear hx431_1
      try clear hx432_0
      try clear hx432_1
      try clear p2
      try clear p431
      try clear p432
      try clear q431
      try clear q432
      obtain ⟨x3_2, x5_2, rfl, HA, HK2, HO_3, BK426, HB⟩ := hrel
      cases gk with
      | zero => exact absurd HA.out (by simp [spec_KeysOf.l1])
      | succ k2 =>
       have H := HA.out
       clear HA
       simp only [spec_KeysOf.l1] at H
       by_cases c18 : x5_2 < (l0_1.length : Int)
       ·rw [if_pos c18] at H
        have c18b0 : decide (x5_2 < (l0_1.length : Int)) = true := decide_eq_true c18
        clear c18
        by_cases c19 : 0 ≤ x5_2
        ·rw [if_pos c19] at H
         have c19b0 : decide (0 ≤ x5_2) = true := decide_eq_true c19
         clear c19
         by_cases c20 : ((rd_T57 l0_1 x5_2).f0).toList = ([] : List UInt8)
         ·rw [if_pos c20] at H
          have c20b0 : (((rd_T57 l0_1 x5_2).f0).toList == ([] : List UInt8)) = true := beq_iff_eq.mpr c20
          have c20b1 : (((rd_T57 l0_1 x5_2).f0).toList != ([] : List UInt8)) = false := bne_eq_false_iff_eq.mpr c20
          clear c20
          have H' := am H
          clear H
          obtain ⟨hcz21_0, hcz21_1, hcz21_2, hfz21_0, hfz21_1, hfz21_2⟩ := xT3 (W := wr) BK426.out
          have p436 : 0 ≤ (x5_2 : Int) := of_decide_eq_true (by assumption)
          have q436 : x5_2 < (l0_1.length : Int) := of_decide_eq_true (by assumption)
          obtain ⟨ad436, e436, hx436_0, hx436_1⟩ := at_T57 HR0_1.out x5_2 p436 q436
          cases e436
          replace hx436_0 := (HB.out.cell (World.block_lt_of_cell? w _ hx436_0)).trans hx436_0
          replace hx436_1 := (HB.out.cell (World.block_lt_of_cell? w _ hx436_1)).trans hx436_1
          replace p436 := eq_true p436
          replace q436 := eq_true q436
          go_wp2
          go_roundg k2
          case measure => have := HK1.out; have := HK2.out; omega
          case rel => exact ⟨(x3_2), (wrap64 (x5_2 + 1)), (xQ), H', ⟨by have := HK1.out; have := HK2.out; omega⟩, ⟨xR HO_3.out⟩, ⟨xB BK426.out⟩, ⟨xW HB.out⟩⟩
         ·rw [if_neg c20] at H
          have c20b0 : (((rd_T57 l0_1 x5_2).f0).toList == ([] : List UInt8)) = false := beq_eq_false_iff_ne.mpr c20
          have c20b1 : (((rd_T57 l0_1 x5_2).f0).toList != ([] : List UInt8)) = true := bne_iff_ne.mpr c20
          replace H := Option.bind_eq_some_iff.mp H
          obtain ⟨t438, A220, H⟩ := H
          try dsimp only at H
          have A22 := am A220
          clear A220
          have H' := am H
          clear H
          obtain ⟨hcz23_0, hcz23_1, hcz23_2, hfz23_0, hfz23_1, hfz23_2⟩ := xT3 (W := wr) BK426.out
          have p436 : 0 ≤ (x5_2 : Int) := of_decide_eq_true (by assumption)
          have q436 : x5_2 < (l0_1.length : Int) := of_decide_eq_true (by assumption)
          obtain ⟨ad436, e436, hx436_0, hx436_1⟩ := at_T57 HR0_1.out x5_2 p436 q436
          cases e436
          replace hx436_0 := (HB.out.cell (World.block_lt_of_cell? w _ hx436_0)).trans hx436_0
          replace hx436_1 := (HB.out.cell (World.block_lt_of_cell? w _ hx436_1)).trans hx436_1
          replace p436 := eq_true p436
          replace q436 := eq_true q436
          have p437 : 0 ≤ (x5_2 : Int) := of_decide_eq_true (by assumption)
          have q437 : x5_2 < (l0_1.length : Int) := of_decide_eq_true (by assumption)
          obtain ⟨ad437, e437, hx437_0, hx437_1⟩ := at_T57 HR0_1.out x5_2 p437 q437
          obtain rfl : ad436 = ad437 := (by injection e437)
          replace hx437_0 := (HB.out.cell (World.block_lt_of_cell? w _ hx437_0)).trans hx437_0
          replace hx437_1 := (HB.out.cell (World.block_lt_of_cell? w _ hx437_1)).trans hx437_1
          replace p437 := eq_true p437
          replace q437 := eq_true q437
          obtain ⟨Ao24, co24, eo24⟩ := Kd.R_slice HO_3.out
          subst eo24
          go_wp2_with (first | ((with_reducible refine gate_callee (f := 66) rfl ?_); refine xG (some 54) 66 Try.func66 #[.slice Ao24 x3_2.length co24, .string ((rd_T57 l0_1 x5_2).f0)] (h := ?_); (with_reducible refine (spec_l04Insert.calls k2 _ _ x3_2 ((rd_T57 l0_1 x5_2).f0) t438 _ ?side1 ?side2 A22.out).mono ?_); (case side1 => exact xC ((Kd.R_reads' HO_3.out).2.2)); (case side2 => exact (Kd.R_reads' HO_3.out).2.1); rintro e w25 ⟨v439, rfl, ho0, hb⟩; refine ⟨_, rfl, ?_⟩; have HO440 := am (Kd.R_lower (Kd.R_new' ho0 (Kd.R_lt (xR HO_3.out))) (below_size (xW HB.out))); replace HO_3 := am (Kd.R_elder' (xR HO_3.out) (Kd.R_base ho0) hb); replace BK426 := am (blk_below (xB BK426.out) hb); replace HB := am (below_step (xW HB.out) hb); (try clear hb); (try clear ho0)))
          go_roundg k2
          case measure => have := HK1.out; have := HK2.out; omega
          case rel => exact ⟨(t438), (wrap64 (x5_2 + 1)), (xQ), H', ⟨by have := HK1.out; have := HK2.out; omega⟩, ⟨Kd.R_mono (xR HO440.out) (fun _ hk => trivial)⟩, ⟨xB BK426.out⟩, ⟨xW HB.out⟩⟩
        ·rw [if_neg c19] at H
         exact absurd H (by simp)
       ·rw [if_neg c18] at H
        have c18b0 : decide (x5_2 < (l0_1.length : Int)) = false := decide_eq_false c18
        clear c18
        obtain rfl := Option.some.inj H
        obtain ⟨hcz26_0, hcz26_1, hcz26_2, hfz26_0, hfz26_1, hfz26_2⟩ := xT3 (W := wr) BK426.out
        go_wp2
        go_ret
        exact ⟨_, xV, xR HO_3.out, xW HB.out⟩
 ·replace c3 := Bool.eq_false_iff.mpr c3
  subst c3
  have H1 : (some y427) = some r := by rw [if_neg (show ¬ (false = true) by decide)] at H; exact H
  clear H
  have H := H1
  clear H1
  obtain rfl := Option.some.inj H
  go_enter Try.func28, Try.ntmps28
  go_wp2_with (first | ((with_reducible refine gate_dst (N := 1) rfl ?_); refine xE (N := 1) (cs := #[.slice A0_0 l0_0.length c0_0, .slice A0_1 l0_1.length c0_1, .int .i64 a0_2]) (t := 26) (h := ?_); intro gb426 hg w27 hbox hb; have BK426 := am (hbox); have GW426 := am (xS hg HB.out); have GE426 := am (xS hg HB.out); replace HB := am (below_step (xW HB.out) hb); clear hb hbox hg) | ((with_reducible refine gate_dst (N := 6) rfl ?_); refine Kd.R_lit Kd.string _ 9 ?hg (N := 6) ?hd (xs := ([] : List ByteArray)) (inner := []) (ok := fun _ => True) (okp := fun _ => True) ?hr ?hp (fun _ hk => hk) trivial (Below.refl _ _) (Nat.le_refl _) (by simp) ?_; (case hd => rfl); (case hg => rfl); (case hr => first | (go_simp; done) | (go_simp; rfl)); (case hp => exact (Reps.none _ _)); intro v428 w28 ho29 hb hg_ hnew_; clear hg_ hnew_; (first | rw [← Ny427.out] at ho29 | (simp only [Int.reduceToNat] at ho29; rw [← Ny427.out] at ho29)); have HO429 := am (Kd.R_lower ho29 (below_size (xW HB.out))); replace BK426 := am (blk_below (xB BK426.out) hb); replace HB := am (below_step (xW HB.out) hb); clear hb ho29; obtain ⟨hcz30_0, hcz30_1, hcz30_2, hfz30_0, hfz30_1, hfz30_2⟩ := xT3 (W := w28) BK426.out) | ((with_reducible refine gate_callee (f := 25) rfl ?_); refine xG (some 8) 25 Try.func25 #[.agg #[.slice A0_0 l0_0.length c0_0, .slice A0_1 l0_1.length c0_1, .int .i64 a0_2]] (h := ?_); (with_reducible refine (spec_TableOk.calls k _ _ l0_0 _ _ l0_1 a0_2 false _ ?side1 ?side2 ?side3 ?side4 A2.out).mono ?_); (case side1 => exact xC (Kd.C_below HR0_0.out HB.out)); (case side2 => exact HC0_0.out); (case side3 => exact xC (Kd.C_below HR0_1.out HB.out)); (case side4 => exact HC0_1.out); rintro e w31 ⟨rfl, hb⟩; refine ⟨_, rfl, ?_⟩; replace HO429 := am (Kd.R_below (xR HO429.out) hb); replace BK426 := am (blk_below (xB BK426.out) hb); replace HB := am (below_step (xW HB.out) hb); (try clear hb); ))
  go_ret
  exact ⟨_, xV, xR HO429.out, xW HB.out⟩
end Go.Proofs.Ytmahoekbedgbcaa.HFnCleans
