/- What the row of the law needs of the printed and the plain texts. -/
import Derived.Test.YtmahoekbedgbcaaZfHX
import Derived.Test.YtmahoekbedgbcaaZfHFnGrowsx0
import Derived.Test.YtmahoekbedgbcaaZfHFnGrowsx2
import Derived.Test.YtmahoekbedgbcaaZfHFnGrowsx3
namespace Go.Proofs.Ytmahoekbedgbcaa.HFnGrows
open Go.RowKit Go.Proofs.YtmahoekbedgbcaaW.PrintWords Go.Proofs.YtmahoekbedgbcaaW.PrintLast Go.Proofs.YtmahoekbedgbcaaW.PrintMore
attribute [local go_sem] max2_int min2_int max_two min_two max_three min_three max_four min_four
set_option linter.unusedVariables false
set_option linter.unusedSimpArgs false
mutual
def spec_TableOk.j0 : Nat → Bool → List (S57) → List (S57) → Int → Option (Bool)
 | 0, _, _, _, _ => none
 | k + 1, x46, x113000, x113001, x113002 => if x46 = true then (some false) else (spec_TableOk.l0 k 0 x113000 x113001 x113002)
def spec_TableOk.l0 : Nat → Int → List (S57) → List (S57) → Int → Option (Bool)
 | 0, _, _, _, _ => none
 | k + 1, x3, x113000, x113001, x113002 => if x3 < (x113001.length : Int) then (if 0 ≤ x3 then (if x3 < x113002 then (if ((rd_T57 x113001 x3).f0).toList = ([] : List UInt8) then (if ((rd_T57 x113001 x3).f1) = (-2) then (spec_TableOk.l0 k (wrap64 (x3 + 1)) x113000 x113001 x113002) else (some false)) else (some false)) else (if ((rd_T57 x113001 x3).f0).toList = ([] : List UInt8) then (spec_TableOk.l0 k (wrap64 (x3 + 1)) x113000 x113001 x113002) else ((spec_l04Seek.f k x113000 ((rd_T57 x113001 x3).f0)).bind fun t122 => (if t122 ≥ 0 then (some false) else (spec_TableOk.l0 k (wrap64 (x3 + 1)) x113000 x113001 x113002))))) else (none)) else (some true)
end
def spec_TableOk.f (k : Nat) (l0_0 : List (S57)) (l0_1 : List (S57)) (a0_2 : Int) : Option (Bool) := (spec_l04Size.f (l0_0.length : Int)).bind fun t113 => (if t113 = true then (if (l0_1.length : Int) = 0 then ((spec_l01In.f a0_2 0 (l0_1.length : Int)).bind fun t114 => (if t114 = true then ((spec_l04Right.f k l0_0 true).bind fun t115 => (if t115 = true then ((spec_l04Right.f k l0_1 false).bind fun t116 => (spec_TableOk.j0 k (!t116) l0_0 l0_1 a0_2)) else (spec_TableOk.j0 k true l0_0 l0_1 a0_2))) else (spec_TableOk.j0 k true l0_0 l0_1 a0_2))) else (if (wrap64 (2 * (l0_1.length : Int))) = (l0_0.length : Int) then ((spec_l01In.f a0_2 0 (l0_1.length : Int)).bind fun t117 => (if t117 = true then ((spec_l04Right.f k l0_0 true).bind fun t118 => (if t118 = true then ((spec_l04Right.f k l0_1 false).bind fun t119 => (spec_TableOk.j0 k (!t119) l0_0 l0_1 a0_2)) else (spec_TableOk.j0 k true l0_0 l0_1 a0_2))) else (spec_TableOk.j0 k true l0_0 l0_1 a0_2))) else (spec_TableOk.j0 k true l0_0 l0_1 a0_2))) else (spec_TableOk.j0 k true l0_0 l0_1 a0_2))
set_option maxHeartbeats 8000000 in
set_option maxRecDepth 100000 in
theorem spec_TableOk.calls (k : Nat) (A0_0 : Option Addr) (c0_0 : Nat) (l0_0 : List (S57)) (A0_1 : Option Addr) (c0_1 : Nat) (l0_1 : List (S57)) (a0_2 : Int) (r : Bool) (w : World) (hr0_0 : Kd.C k57 w A0_0 l0_0.length l0_0) (hc0_0 : l0_0.length ≤ c0_0) (hr0_1 : Kd.C k57 w A0_1 l0_1.length l0_1) (hc0_1 : l0_1.length ≤ c0_1) (h : spec_TableOk.f k l0_0 l0_1 a0_2 = some r) :
  Calls Try.prog 25 #[.agg #[.slice A0_0 l0_0.length c0_0, .slice A0_1 l0_1.length c0_1, .int .i64 a0_2]] w fun e w' => e = .returned (.bool r) ∧ Below w.heap.size w w' := by
 have hu26 := Try.underlying26
 have hu57 := Try.underlying57
 have HR0_0 := am hr0_0
 have HC0_0 := am hc0_0
 clear hr0_0 hc0_0
 have HR0_1 := am hr0_1
 have HC0_1 := am hc0_1
 clear hr0_1 hc0_1
 have HB := am (Below.refl w.heap.size w)
 have H : ((spec_l04Size.f (l0_0.length : Int)).bind fun t113 => (if t113 = true then (if (l0_1.length : Int) = 0 then ((spec_l01In.f a0_2 0 (l0_1.length : Int)).bind fun t114 => (if t114 = true then ((spec_l04Right.f k l0_0 true).bind fun t115 => (if t115 = true then ((spec_l04Right.f k l0_1 false).bind fun t116 => (spec_TableOk.j0 k (!t116) l0_0 l0_1 a0_2)) else (spec_TableOk.j0 k true l0_0 l0_1 a0_2))) else (spec_TableOk.j0 k true l0_0 l0_1 a0_2))) else (if (wrap64 (2 * (l0_1.length : Int))) = (l0_0.length : Int) then ((spec_l01In.f a0_2 0 (l0_1.length : Int)).bind fun t117 => (if t117 = true then ((spec_l04Right.f k l0_0 true).bind fun t118 => (if t118 = true then ((spec_l04Right.f k l0_1 false).bind fun t119 => (spec_TableOk.j0 k (!t119) l0_0 l0_1 a0_2)) else (spec_TableOk.j0 k true l0_0 l0_1 a0_2))) else (spec_TableOk.j0 k true l0_0 l0_1 a0_2))) else (spec_TableOk.j0 k true l0_0 l0_1 a0_2))) else (spec_TableOk.j0 k true l0_0 l0_1 a0_2))) = some r := h
 clear h
 have HC2 := am H
 clear H
 go_enter Try.func25, Try.ntmps25
 go_upto_region 1 with (first | ((with_reducible refine gate_dst (N := 1) rfl ?_); (try (refine gate_guard (by rfl) ?_; dsimp only)); refine xE (N := 1) (cs := #[.slice A0_0 l0_0.length c0_0, .slice A0_1 l0_1.length c0_1, .int .i64 a0_2]) (t := 26) (h := ?_); intro gb112 hg w3 hbox hb; have BK112 := am (hbox); have GW112 := am (xS hg HB.out); have GE112 := am (xS hg HB.out); replace HB := am (below_step (xW HB.out) hb); clear hb hbox hg))
 (try simp only [Act.put, List.setIfInBounds_toArray, List.set_cons_zero, List.set_cons_succ])
 go_cut [46] (fun v46 wc => ∃ (kq : Nat) (x46_1 : Bool), v46 = .bool x46_1 ∧ Aside0 (spec_TableOk.j0 kq x46_1 l0_0 l0_1 a0_2 = some r) ∧ Aside0 (kq ≤ k) ∧ Aside0 (wc.heap[gb112]? = some (.cells #[(.slice A0_0 l0_0.length c0_0), (.slice A0_1 l0_1.length c0_1), .int .i64 a0_2] 26 (0, 0))) ∧ Aside0 (Below w.heap.size w wc))
 case first =>
  have H := HC2.out
  clear HC2
  replace H := Option.bind_eq_some_iff.mp H
  obtain ⟨t113, A40, H⟩ := H
  try dsimp only at H
  have A4 := am A40
  clear A40
  by_cases c5 : t113 = true
  ·subst c5
   have H1 : (if (l0_1.length : Int) = 0 then ((spec_l01In.f a0_2 0 (l0_1.length : Int)).bind fun t114 => (if t114 = true then ((spec_l04Right.f k l0_0 true).bind fun t115 => (if t115 = true then ((spec_l04Right.f k l0_1 false).bind fun t116 => (spec_TableOk.j0 k (!t116) l0_0 l0_1 a0_2)) else (spec_TableOk.j0 k true l0_0 l0_1 a0_2))) else (spec_TableOk.j0 k true l0_0 l0_1 a0_2))) else (if (wrap64 (2 * (l0_1.length : Int))) = (l0_0.length : Int) then ((spec_l01In.f a0_2 0 (l0_1.length : Int)).bind fun t117 => (if t117 = true then ((spec_l04Right.f k l0_0 true).bind fun t118 => (if t118 = true then ((spec_l04Right.f k l0_1 false).bind fun t119 => (spec_TableOk.j0 k (!t119) l0_0 l0_1 a0_2)) else (spec_TableOk.j0 k true l0_0 l0_1 a0_2))) else (spec_TableOk.j0 k true l0_0 l0_1 a0_2))) else (spec_TableOk.j0 k true l0_0 l0_1 a0_2))) = some r := by rw [if_pos rfl] at H; exact H
   clear H
   have H := H1
   clear H1
   by_cases c6 : (l0_1.length : Int) = 0
   ·rw [if_pos c6] at H
    have c6b0 : ((l0_1.length : Int) == 0) = true := beq_iff_eq.mpr c6
    have c6b1 : ((l0_1.length : Int) != 0) = false := bne_eq_false_iff_eq.mpr c6
    clear c6
    (first | rw [c6b0] | (simp only [i64_w, i32_w]; rw [c6b0]) | skip)
    replace H := Option.bind_eq_some_iff.mp H
    obtain ⟨t114, A70, H⟩ := H
    try dsimp only at H
    have A7 := am A70
    clear A70
    by_cases c8 : t114 = true
    ·subst c8
     have H1 : ((spec_l04Right.f k l0_0 true).bind fun t115 => (if t115 = true then ((spec_l04Right.f k l0_1 false).bind fun t116 => (spec_TableOk.j0 k (!t116) l0_0 l0_1 a0_2)) else (spec_TableOk.j0 k true l0_0 l0_1 a0_2))) = some r := by rw [if_pos rfl] at H; exact H
     clear H
     have H := H1
     clear H1
     replace H := Option.bind_eq_some_iff.mp H
     obtain ⟨t115, A90, H⟩ := H
     try dsimp only at H
     have A9 := am A90
     clear A90
     by_cases c10 : t115 = true
     ·subst c10
      have H1 : ((spec_l04Right.f k l0_1 false).bind fun t116 => (spec_TableOk.j0 k (!t116) l0_0 l0_1 a0_2)) = some r := by rw [if_pos rfl] at H; exact H
      clear H
      have H := H1
      clear H1
      replace H := Option.bind_eq_some_iff.mp H
      obtain ⟨t116, A110, H⟩ := H
      replace H : (spec_TableOk.j0 k (!t116) l0_0 l0_1 a0_2) = some r := H
      have A11 := am A110
      clear A110
      have H' := am H
      clear H
      obtain ⟨hcz12_0, hcz12_1, hcz12_2, hfz12_0, hfz12_1, hfz12_2⟩ := xT3 (W := w3) BK112.out
      go_wp2_with (first | ((with_reducible refine gate_callee (f := 61) rfl ?_); refine xG (some 8) 61 Try.func61 #[.int .i64 (l0_0.length : Int)] (h := ?_); (with_reducible refine (spec_l04Size.calls (l0_0.length : Int) true _ A4.out).mono ?_); rintro e w' ⟨rfl, ⟨nd, rfl⟩⟩; refine ⟨_, rfl, ?_⟩) | (go_at_call 62; (with_reducible refine (spec_l01In.calls a0_2 0 (l0_1.length : Int) true _ A7.out).mono ?_); rintro e w' ⟨rfl, ⟨nd, rfl⟩⟩) | (go_at_call 63; (with_reducible refine (spec_l04Right.calls k _ _ l0_0 true true _ ?side1 ?side2 A9.out).mono ?_); (case side1 => exact xC (Kd.C_below HR0_0.out (xW HB.out))); (case side2 => exact HC0_0.out); rintro e w13 ⟨rfl, hb⟩; replace BK112 := am (blk_below (xB BK112.out) hb); replace HB := am (below_step (xW HB.out) hb); (try clear hb); obtain ⟨hcz14_0, hcz14_1, hcz14_2, hfz14_0, hfz14_1, hfz14_2⟩ := xT3 (W := w13) BK112.out) | (go_at_call 63; (with_reducible refine (spec_l04Right.calls k _ _ l0_1 false t116 _ ?side1 ?side2 A11.out).mono ?_); (case side1 => exact xC (Kd.C_below HR0_1.out HB.out)); (case side2 => exact HC0_1.out); rintro e w15 ⟨rfl, hb⟩; replace BK112 := am (blk_below (xB BK112.out) hb); replace HB := am (below_step (xW HB.out) hb); (try clear hb); ))
      go_meet
      case rel => exact ⟨_, (!t116), (xQ), H', ⟨by first | omega | exact Nat.le_refl _⟩, ⟨xB BK112.out⟩, ⟨xW HB.out⟩⟩
     ·replace c10 := Bool.eq_false_iff.mpr c10
      subst c10
      have H1 : (spec_TableOk.j0 k true l0_0 l0_1 a0_2) = some r := by rw [if_neg (show ¬ (false = true) by decide)] at H; exact H
      clear H
      have H := H1
      clear H1
      have H' := am H
      clear H
      obtain ⟨hcz16_0, hcz16_1, hcz16_2, hfz16_0, hfz16_1, hfz16_2⟩ := xT3 (W := w3) BK112.out
      go_wp2_with (first | ((with_reducible refine gate_callee (f := 61) rfl ?_); refine xG (some 8) 61 Try.func61 #[.int .i64 (l0_0.length : Int)] (h := ?_); (with_reducible refine (spec_l04Size.calls (l0_0.length : Int) true _ A4.out).mono ?_); rintro e w' ⟨rfl, ⟨nd, rfl⟩⟩; refine ⟨_, rfl, ?_⟩) | (go_at_call 62; (with_reducible refine (spec_l01In.calls a0_2 0 (l0_1.length : Int) true _ A7.out).mono ?_); rintro e w' ⟨rfl, ⟨nd, rfl⟩⟩) | (go_at_call 63; (with_reducible refine (spec_l04Right.calls k _ _ l0_0 true false _ ?side1 ?side2 A9.out).mono ?_); (case side1 => exact xC (Kd.C_below HR0_0.out (xW HB.out))); (case side2 => exact HC0_0.out); rintro e w17 ⟨rfl, hb⟩; replace BK112 := am (blk_below (xB BK112.out) hb); replace HB := am (below_step (xW HB.out) hb); (try clear hb); ))
      go_meet
      case rel => exact ⟨_, (true), (xQ), H', ⟨by first | omega | exact Nat.le_refl _⟩, ⟨xB BK112.out⟩, ⟨xW HB.out⟩⟩
    ·replace c8 := Bool.eq_false_iff.mpr c8
     subst c8
     have H1 : (spec_TableOk.j0 k true l0_0 l0_1 a0_2) = some r := by rw [if_neg (show ¬ (false = true) by decide)] at H; exact H
     clear H
     have H := H1
     clear H1
     have H' := am H
     clear H
     obtain ⟨hcz18_0, hcz18_1, hcz18_2, hfz18_0, hfz18_1, hfz18_2⟩ := xT3 (W := w3) BK112.out
     go_wp2_with (first | ((with_reducible refine gate_callee (f := 61) rfl ?_); refine xG (some 8) 61 Try.func61 #[.int .i64 (l0_0.length : Int)] (h := ?_); (with_reducible refine (spec_l04Size.calls (l0_0.length : Int) true _ A4.out).mono ?_); rintro e w' ⟨rfl, ⟨nd, rfl⟩⟩; refine ⟨_, rfl, ?_⟩) | (go_at_call 62; (with_reducible refine (spec_l01In.calls a0_2 0 (l0_1.length : Int) false _ A7.out).mono ?_); rintro e w' ⟨rfl, ⟨nd, rfl⟩⟩))
     go_meet
     case rel => exact ⟨_, (true), (xQ), H', ⟨by first | omega | exact Nat.le_refl _⟩, ⟨xB BK112.out⟩, ⟨xW HB.out⟩⟩
   ·rw [if_neg c6] at H
    have c6b0 : ((l0_1.length : Int) == 0) = false := beq_eq_false_iff_ne.mpr c6
    have c6b1 : ((l0_1.length : Int) != 0) = true := bne_iff_ne.mpr c6
    have c6b2 : ¬ (l0_1 = []) := fun h_ => c6 (by rw [h_]; rfl)
    (first | rw [c6b0] | (simp only [i64_w, i32_w]; rw [c6b0]) | skip)
    by_cases c19 : (wrap64 (2 * (l0_1.length : Int))) = (l0_0.length : Int)
    ·rw [if_pos c19] at H
     have c19b0 : ((wrap64 (2 * (l0_1.length : Int))) == (l0_0.length : Int)) = true := beq_iff_eq.mpr c19
     have c19b1 : ((wrap64 (2 * (l0_1.length : Int))) != (l0_0.length : Int)) = false := bne_eq_false_iff_eq.mpr c19
     clear c19
     replace H := Option.bind_eq_some_iff.mp H
     obtain ⟨t117, A200, H⟩ := H
     try dsimp only at H
     have A20 := am A200
     clear A200
     by_cases c21 : t117 = true
     ·subst c21
      have H1 : ((spec_l04Right.f k l0_0 true).bind fun t118 => (if t118 = true then ((spec_l04Right.f k l0_1 false).bind fun t119 => (spec_TableOk.j0 k (!t119) l0_0 l0_1 a0_2)) else (spec_TableOk.j0 k true l0_0 l0_1 a0_2))) = some r := by rw [if_pos rfl] at H; exact H
      clear H
      have H := H1
      clear H1
      replace H := Option.bind_eq_some_iff.mp H
      obtain ⟨t118, A220, H⟩ := H
      try dsimp only at H
      have A22 := am A220
      clear A220
      by_cases c23 : t118 = true
      ·subst c23
       have H1 : ((spec_l04Right.f k l0_1 false).bind fun t119 => (spec_TableOk.j0 k (!t119) l0_0 l0_1 a0_2)) = some r := by rw [if_pos rfl] at H; exact H
       clear H
       have H := H1
       clear H1
       replace H := Option.bind_eq_some_iff.mp H
       obtain ⟨t119, A240, H⟩ := H
       replace H : (spec_TableOk.j0 k (!t119) l0_0 l0_1 a0_2) = some r := H
       have A24 := am A240
       clear A240
       have H' := am H
       clear H
       obtain ⟨hcz25_0, hcz25_1, hcz25_2, hfz25_0, hfz25_1, hfz25_2⟩ := xT3 (W := w3) BK112.out
       go_wp2_with (first | ((with_reducible refine gate_callee (f := 61) rfl ?_); refine xG (some 8) 61 Try.func61 #[.int .i64 (l0_0.length : Int)] (h := ?_); (with_reducible refine (spec_l04Size.calls (l0_0.length : Int) true _ A4.out).mono ?_); rintro e w' ⟨rfl, ⟨nd, rfl⟩⟩; refine ⟨_, rfl, ?_⟩) | (go_at_call 62; (with_reducible refine (spec_l01In.calls a0_2 0 (l0_1.length : Int) true _ A20.out).mono ?_); rintro e w' ⟨rfl, ⟨nd, rfl⟩⟩) | (go_at_call 63; (with_reducible refine (spec_l04Right.calls k _ _ l0_0 true true _ ?side1 ?side2 A22.out).mono ?_); (case side1 => exact xC (Kd.C_below HR0_0.out (xW HB.out))); (case side2 => exact HC0_0.out); rintro e w26 ⟨rfl, hb⟩; replace BK112 := am (blk_below (xB BK112.out) hb); replace HB := am (below_step (xW HB.out) hb); (try clear hb); obtain ⟨hcz27_0, hcz27_1, hcz27_2, hfz27_0, hfz27_1, hfz27_2⟩ := xT3 (W := w26) BK112.out) | (go_at_call 63; (with_reducible refine (spec_l04Right.calls k _ _ l0_1 false t119 _ ?side1 ?side2 A24.out).mono ?_); (case side1 => exact xC (Kd.C_below HR0_1.out HB.out)); (case side2 => exact HC0_1.out); rintro e w28 ⟨rfl, hb⟩; replace BK112 := am (blk_below (xB BK112.out) hb); replace HB := am (below_step (xW HB.out) hb); (try clear hb); ))
       go_meet
       case rel => exact ⟨_, (!t119), (xQ), H', ⟨by first | omega | exact Nat.le_refl _⟩, ⟨xB BK112.out⟩, ⟨xW HB.out⟩⟩
      ·replace c23 := Bool.eq_false_iff.mpr c23
       subst c23
       have H1 : (spec_TableOk.j0 k true l0_0 l0_1 a0_2) = some r := by rw [if_neg (show ¬ (false = true) by decide)] at H; exact H
       clear H
       have H := H1
       clear H1
       have H' := am H
       clear H
       obtain ⟨hcz29_0, hcz29_1, hcz29_2, hfz29_0, hfz29_1, hfz29_2⟩ := xT3 (W := w3) BK112.out
       go_wp2_with (first | ((with_reducible refine gate_callee (f := 61) rfl ?_); refine xG (some 8) 61 Try.func61 #[.int .i64 (l0_0.length : Int)] (h := ?_); (with_reducible refine (spec_l04Size.calls (l0_0.length : Int) true _ A4.out).mono ?_); rintro e w' ⟨rfl, ⟨nd, rfl⟩⟩; refine ⟨_, rfl, ?_⟩) | (go_at_call 62; (with_reducible refine (spec_l01In.calls a0_2 0 (l0_1.length : Int) true _ A20.out).mono ?_); rintro e w' ⟨rfl, ⟨nd, rfl⟩⟩) | (go_at_call 63; (with_reducible refine (spec_l04Right.calls k _ _ l0_0 true false _ ?side1 ?side2 A22.out).mono ?_); (case side1 => exact xC (Kd.C_below HR0_0.out (xW HB.out))); (case side2 => exact HC0_0.out); rintro e w30 ⟨rfl, hb⟩; replace BK112 := am (blk_below (xB BK112.out) hb); replace HB := am (below_step (xW HB.out) hb); (try clear hb); ))
       go_meet
       case rel => exact ⟨_, (true), (xQ), H', ⟨by first | omega | exact Nat.le_refl _⟩, ⟨xB BK112.out⟩, ⟨xW HB.out⟩⟩
     ·replace c21 := Bool.eq_false_iff.mpr c21
      subst c21
      have H1 : (spec_TableOk.j0 k true l0_0 l0_1 a0_2) = some r := by rw [if_neg (show ¬ (false = true) by decide)] at H; exact H
      clear H
      have H := H1
      clear H1
      have H' := am H
      clear H
      obtain ⟨hcz31_0, hcz31_1, hcz31_2, hfz31_0, hfz31_1, hfz31_2⟩ := xT3 (W := w3) BK112.out
      go_wp2_with (first | ((with_reducible refine gate_callee (f := 61) rfl ?_); refine xG (some 8) 61 Try.func61 #[.int .i64 (l0_0.length : Int)] (h := ?_); (with_reducible refine (spec_l04Size.calls (l0_0.length : Int) true _ A4.out).mono ?_); rintro e w' ⟨rfl, ⟨nd, rfl⟩⟩; refine ⟨_, rfl, ?_⟩) | (go_at_call 62; (with_reducible refine (spec_l01In.calls a0_2 0 (l0_1.length : Int) false _ A20.out).mono ?_); rintro e w' ⟨rfl, ⟨nd, rfl⟩⟩))
      go_meet
      case rel => exact ⟨_, (true), (xQ), H', ⟨by first | omega | exact Nat.le_refl _⟩, ⟨xB BK112.out⟩, ⟨xW HB.out⟩⟩
    ·rw [if_neg c19] at H
     have c19b0 : ((wrap64 (2 * (l0_1.length : Int))) == (l0_0.length : Int)) = false := beq_eq_false_iff_ne.mpr c19
     have c19b1 : ((wrap64 (2 * (l0_1.length : Int))) != (l0_0.length : Int)) = true := bne_iff_ne.mpr c19
     have H' := am H
     clear H
     obtain ⟨hcz32_0, hcz32_1, hcz32_2, hfz32_0, hfz32_1, hfz32_2⟩ := xT3 (W := w3) BK112.out
     go_wp2_with (first | ((with_reducible refine gate_callee (f := 61) rfl ?_); refine xG (some 8) 61 Try.func61 #[.int .i64 (l0_0.length : Int)] (h := ?_); (with_reducible refine (spec_l04Size.calls (l0_0.length : Int) true _ A4.out).mono ?_); rintro e w' ⟨rfl, ⟨nd, rfl⟩⟩; refine ⟨_, rfl, ?_⟩))
     go_meet
     case rel => exact ⟨_, (true), (xQ), H', ⟨by first | omega | exact Nat.le_refl _⟩, ⟨xB BK112.out⟩, ⟨xW HB.out⟩⟩
  ·replace c5 := Bool.eq_false_iff.mpr c5
   subst c5
   have H1 : (spec_TableOk.j0 k true l0_0 l0_1 a0_2) = some r := by rw [if_neg (show ¬ (false = true) by decide)] at H; exact H
   clear H
   have H := H1
   clear H1
   have H' := am H
   clear H
   obtain ⟨hcz33_0, hcz33_1, hcz33_2, hfz33_0, hfz33_1, hfz33_2⟩ := xT3 (W := w3) BK112.out
   go_wp2_with (first | ((with_reducible refine gate_callee (f := 61) rfl ?_); refine xG (some 8) 61 Try.func61 #[.int .i64 (l0_0.length : Int)] (h := ?_); (with_reducible refine (spec_l04Size.calls (l0_0.length : Int) false _ A4.out).mono ?_); rintro e w' ⟨rfl, ⟨nd, rfl⟩⟩; refine ⟨_, rfl, ?_⟩))
   go_meet
   case rel => exact ⟨_, (true), (xQ), H', ⟨by first | omega | exact Nat.le_refl _⟩, ⟨xB BK112.out⟩, ⟨xW HB.out⟩⟩
 case rest =>
  clear HC2
  try clear c1
  try clear c2
  try clear p2
  try clear c5
  try clear c6
  try clear c6b0
  try clear c6b1
  try clear c6b2
  try clear p6
  try clear c8
  try clear c10
  try clear c19
  try clear c19b0
  try clear c19b1
  try clear c21
  try clear c23
  try clear c25
  try clear hcz12_0
  try clear hcz12_1
  try clear hcz12_2
  try clear hcz14_0
  try clear hcz14_1
  try clear hcz14_2
  try clear hcz16_0
  try clear hcz16_1
  try clear hcz16_2
  try clear hcz18_0
  try clear hcz18_1
  try clear hcz18_2
  try clear hcz25_0
  try clear hcz25_1
  try clear hcz25_2
  try clear hcz27_0
  try clear hcz27_1
  try clear hcz27_2
  try clear hcz29_0
  try clear hcz29_1
  try clear hcz29_2
  try clear hcz31_0
  try clear hcz31_1
  try clear hcz31_2
  try clear hcz32_0
  try clear hcz32_1
  try clear hcz32_2
  try clear hcz33_0
  try clear hcz33_1
  try clear hcz33_2
  try clear hfz12_0
  try clear hfz12_1
  try clear hfz12_2
  try clear hfz14_0
  try clear hfz14_1
  try clear hfz14_2
  try clear hfz16_0
  try clear hfz16_1
  try clear hfz16_2
  try clear hfz18_0
  try clear hfz18_1
  try clear hfz18_2
  try clear hfz25_0
  try clear hfz25_1
  try clear hfz25_2
  try clear hfz27_0
  try clear hfz27_1
  try clear hfz27_2
  try clear hfz29_0
  try clear hfz29_1
  try clear hfz29_2
  try clear hfz31_0
  try clear hfz31_1
  try clear hfz31_2
  try clear hfz32_0
  try clear hfz32_1
  try clear hfz32_2
  try clear hfz33_0
  try clear hfz33_1
  try clear hfz33_2
  obtain ⟨kq, x46_1, rfl, HA, HJ1, BK112, HB⟩ := hcut
  cases kq with
  | zero => exact absurd HA.out (by simp [spec_TableOk.j0])
  | succ kj1 =>
   have H := HA.out
   clear HA
   simp only [spec_TableOk.j0] at H
   by_cases c34 : x46_1 = true
   ·subst c34
    have H1 : (some false) = some r := by rw [if_pos rfl] at H; exact H
    clear H
    have H := H1
    clear H1
    obtain rfl := Option.some.inj H
    go_wp2
    go_ret
    exact ⟨xV, xW HB.out⟩
   ·replace c34 := Bool.eq_false_iff.mpr c34
    subst c34
    have H1 : (spec_TableOk.l0 kj1 0 l0_0 l0_1 a0_2) = some r := by rw [if_neg (show ¬ (false = true) by decide)] at H; exact H
    clear H
    have H := H1
    clear H1
    have H' := am H
    clear H
    go_wp2
    go_loopg [3] kj1 (fun kq v3 w' => ∃ (x3_2 : Int), v3 = .int .i64 x3_2 ∧ Aside0 (spec_TableOk.l0 kq x3_2 l0_0 l0_1 a0_2 = some r) ∧ Aside0 (kq ≤ kj1) ∧ Aside0 (w'.heap[gb112]? = some (.cells #[(.slice A0_0 l0_0.length c0_0), (.slice A0_1 l0_1.length c0_1), .int .i64 a0_2] 26 (0, 0))) ∧ Aside0 (Below w.heap.size w w'))
    case atStart => exact ⟨(0), (xQ), H', ⟨Nat.le_refl _⟩, ⟨xB BK112.out⟩, ⟨xW HB.out⟩⟩
    case round =>
     clear H'
     try clear c1
     try clear c2
     try clear p2
     try clear c3
     try clear c5
     try clear c6
     try clear c6b0
     try clear c6b1
     try clear c6b2
     try clear p6
     try clear c8
     try clear c10
     try clear c19
     try clear c19b0
     try clear c19b1
     try clear c21
     try clear c23
     try clear c25
     try clear c34
     try clear hcz12_0
     try clear hcz12_1
     try clear hcz12_2
     try clear hcz14_0
     try clear hcz14_1
     try clear hcz14_2
     try clear hcz16_0
     try clear hcz16_1
     try clear hcz16_2
     try clear hcz18_0
     try clear hcz18_1
     try clear hcz18_2
     try clear hcz25_0
     try clear hcz25_1
     try clear hcz25_2
     try clear hcz27_0
     try clear hcz27_1
     try clear hcz27_2
     try clear hcz29_0
     try clear hcz29_1
     try clear hcz29_2
     try clear hcz31_0
     try clear hcz31_1
     try clear hcz31_2
     try clear hcz32_0
     try clear hcz32_1
     try clear hcz32_2
     try clear hcz33_0
     try clear hcz33_1
     try clear hcz33_2
     try clear hfz12_0
     try clear hfz12_1
     try clear hfz12_2
     try clear hfz14_0
     try clear hfz14_1
     try clear hfz14_2
     try clear hfz16_0
     try clear hfz16_1
     try clear hfz16_2
     try clear hfz18_0
     try clear hfz18_1
     try clear hfz18_2
     try clear hfz25_0
     try clear hfz25_1
     try clear hfz25_2
     try clear hfz27_0
     try clear hfz27_1
     try clear hfz27_2
     try clear hfz29_0
     try clear hfz29_1
     try clear hfz29_2
     try clear hfz31_0
     try clear hfz31_1
     try clear hfz31_2
     try clear hfz32_0
     try clear hfz32_1
     try clear hfz32_2
     try clear hfz33_0
     try clear hfz33_1
     try clear hfz33_2
     try clear p2
     try clear p6
     obtain ⟨x3_2, rfl, HA, HK2, BK112, HB⟩ := hrel
     cases gk with
     | zero => exact absurd HA.out (by simp [spec_TableOk.l0])
     | succ k2 =>
      have H := HA.out
      clear HA
      simp only [spec_TableOk.l0] at H
      by_cases c35 : x3_2 < (l0_1.length : Int)
      ·rw [if_pos c35] at H
       have c35b0 : decide (x3_2 < (l0_1.length : Int)) = true := decide_eq_true c35
       clear c35
       by_cases c36 : 0 ≤ x3_2
       ·rw [if_pos c36] at H
        have c36b0 : decide (0 ≤ x3_2) = true := decide_eq_true c36
        clear c36
        by_cases c37 : x3_2 < a0_2
        ·rw [if_pos c37] at H
         have c37b0 : decide (x3_2 < a0_2) = true := decide_eq_true c37
         clear c37
         by_cases c38 : ((rd_T57 l0_1 x3_2).f0).toList = ([] : List UInt8)
         ·rw [if_pos c38] at H
          have c38b0 : (((rd_T57 l0_1 x3_2).f0).toList == ([] : List UInt8)) = true := beq_iff_eq.mpr c38
          have c38b1 : (((rd_T57 l0_1 x3_2).f0).toList != ([] : List UInt8)) = false := bne_eq_false_iff_eq.mpr c38
          clear c38
          by_cases c39 : ((rd_T57 l0_1 x3_2).f1) = (-2)
          ·rw [if_pos c39] at H
           have c39b0 : (((rd_T57 l0_1 x3_2).f1) == (-2)) = true := beq_iff_eq.mpr c39
           have c39b1 : (((rd_T57 l0_1 x3_2).f1) != (-2)) = false := bne_eq_false_iff_eq.mpr c39
           clear c39
           have H' := am H
           clear H
           obtain ⟨hcz40_0, hcz40_1, hcz40_2, hfz40_0, hfz40_1, hfz40_2⟩ := xT3 (W := wr) BK112.out
           have p120 : 0 ≤ (x3_2 : Int) := of_decide_eq_true (by assumption)
           have q120 : x3_2 < (l0_1.length : Int) := of_decide_eq_true (by assumption)
           obtain ⟨ad120, e120, hx120_0, hx120_1⟩ := at_T57 HR0_1.out x3_2 p120 q120
           cases e120
           replace hx120_0 := (HB.out.cell (World.block_lt_of_cell? w _ hx120_0)).trans hx120_0
           replace hx120_1 := (HB.out.cell (World.block_lt_of_cell? w _ hx120_1)).trans hx120_1
           replace p120 := eq_true p120
           replace q120 := eq_true q120
           go_wp2_with (first | ((with_reducible refine gate_dst (N := 4) rfl ?_); (try (refine gate_guard (by rfl) ?_; dsimp only)); refine xE (N := 4) (cs := #[.string (⟨#[]⟩ : ByteArray), .int .i64 0]) (t := 57) (h := ?_); intro gb121 hg w41 hbox hb; have BK121 := am (hbox); have GW121 := am (xS hg HB.out); have GE121 := am (xS hg HB.out); replace HB := am (below_step (xW HB.out) hb); have NB112_121 := am (xN hg BK112.out); have NB121_112 := am (xM hg BK112.out); replace BK112 := am (blk_below (xB BK112.out) hb); clear hb hbox hg; have hnb42 := NB121_112.out; have hnc42 := NB112_121.out; obtain ⟨hcz43_0, hcz43_1, hfz43_0, hfz43_1⟩ := xT2 (W := w41) BK121.out; obtain ⟨hcz44_0, hcz44_1, hcz44_2, hfz44_0, hfz44_1, hfz44_2⟩ := xT3 (W := w41) BK112.out))
           go_roundg k2
           case measure => have := HJ1.out; have := HK2.out; omega
           case rel => exact ⟨(wrap64 (x3_2 + 1)), (xQ), H', ⟨by have := HJ1.out; have := HK2.out; omega⟩, ⟨xB BK112.out⟩, ⟨xW HB.out⟩⟩
          ·rw [if_neg c39] at H
           have c39b0 : (((rd_T57 l0_1 x3_2).f1) == (-2)) = false := beq_eq_false_iff_ne.mpr c39
           have c39b1 : (((rd_T57 l0_1 x3_2).f1) != (-2)) = true := bne_iff_ne.mpr c39
           obtain rfl := Option.some.inj H
           obtain ⟨hcz45_0, hcz45_1, hcz45_2, hfz45_0, hfz45_1, hfz45_2⟩ := xT3 (W := wr) BK112.out
           have p120 : 0 ≤ (x3_2 : Int) := of_decide_eq_true (by assumption)
           have q120 : x3_2 < (l0_1.length : Int) := of_decide_eq_true (by assumption)
           obtain ⟨ad120, e120, hx120_0, hx120_1⟩ := at_T57 HR0_1.out x3_2 p120 q120
           cases e120
           replace hx120_0 := (HB.out.cell (World.block_lt_of_cell? w _ hx120_0)).trans hx120_0
           replace hx120_1 := (HB.out.cell (World.block_lt_of_cell? w _ hx120_1)).trans hx120_1
           replace p120 := eq_true p120
           replace q120 := eq_true q120
           go_wp2_with (first | ((with_reducible refine gate_dst (N := 4) rfl ?_); (try (refine gate_guard (by rfl) ?_; dsimp only)); refine xE (N := 4) (cs := #[.string (⟨#[]⟩ : ByteArray), .int .i64 0]) (t := 57) (h := ?_); intro gb121 hg w46 hbox hb; have BK121 := am (hbox); have GW121 := am (xS hg HB.out); have GE121 := am (xS hg HB.out); replace HB := am (below_step (xW HB.out) hb); have NB112_121 := am (xN hg BK112.out); have NB121_112 := am (xM hg BK112.out); replace BK112 := am (blk_below (xB BK112.out) hb); clear hb hbox hg; have hnb47 := NB121_112.out; have hnc47 := NB112_121.out; obtain ⟨hcz48_0, hcz48_1, hfz48_0, hfz48_1⟩ := xT2 (W := w46) BK121.out; obtain ⟨hcz49_0, hcz49_1, hcz49_2, hfz49_0, hfz49_1, hfz49_2⟩ := xT3 (W := w46) BK112.out))
           go_ret
           exact ⟨xV, xW HB.out⟩
         ·rw [if_neg c38] at H
          have c38b0 : (((rd_T57 l0_1 x3_2).f0).toList == ([] : List UInt8)) = false := beq_eq_false_iff_ne.mpr c38
          have c38b1 : (((rd_T57 l0_1 x3_2).f0).toList != ([] : List UInt8)) = true := bne_iff_ne.mpr c38
          obtain rfl := Option.some.inj H
          obtain ⟨hcz50_0, hcz50_1, hcz50_2, hfz50_0, hfz50_1, hfz50_2⟩ := xT3 (W := wr) BK112.out
          have p120 : 0 ≤ (x3_2 : Int) := of_decide_eq_true (by assumption)
          have q120 : x3_2 < (l0_1.length : Int) := of_decide_eq_true (by assumption)
          obtain ⟨ad120, e120, hx120_0, hx120_1⟩ := at_T57 HR0_1.out x3_2 p120 q120
          cases e120
          replace hx120_0 := (HB.out.cell (World.block_lt_of_cell? w _ hx120_0)).trans hx120_0
          replace hx120_1 := (HB.out.cell (World.block_lt_of_cell? w _ hx120_1)).trans hx120_1
          replace p120 := eq_true p120
          replace q120 := eq_true q120
          go_wp2_with (first | ((with_reducible refine gate_dst (N := 4) rfl ?_); (try (refine gate_guard (by rfl) ?_; dsimp only)); refine xE (N := 4) (cs := #[.string (⟨#[]⟩ : ByteArray), .int .i64 0]) (t := 57) (h := ?_); intro gb121 hg w51 hbox hb; have BK121 := am (hbox); have GW121 := am (xS hg HB.out); have GE121 := am (xS hg HB.out); replace HB := am (below_step (xW HB.out) hb); have NB112_121 := am (xN hg BK112.out); have NB121_112 := am (xM hg BK112.out); replace BK112 := am (blk_below (xB BK112.out) hb); clear hb hbox hg; have hnb52 := NB121_112.out; have hnc52 := NB112_121.out; obtain ⟨hcz53_0, hcz53_1, hfz53_0, hfz53_1⟩ := xT2 (W := w51) BK121.out; obtain ⟨hcz54_0, hcz54_1, hcz54_2, hfz54_0, hfz54_1, hfz54_2⟩ := xT3 (W := w51) BK112.out))
          go_ret
          exact ⟨xV, xW HB.out⟩
        ·rw [if_neg c37] at H
         have c37b0 : decide (x3_2 < a0_2) = false := decide_eq_false c37
         clear c37
         by_cases c55 : ((rd_T57 l0_1 x3_2).f0).toList = ([] : List UInt8)
         ·rw [if_pos c55] at H
          have c55b0 : (((rd_T57 l0_1 x3_2).f0).toList == ([] : List UInt8)) = true := beq_iff_eq.mpr c55
          have c55b1 : (((rd_T57 l0_1 x3_2).f0).toList != ([] : List UInt8)) = false := bne_eq_false_iff_eq.mpr c55
          clear c55
          have H' := am H
          clear H
          obtain ⟨hcz56_0, hcz56_1, hcz56_2, hfz56_0, hfz56_1, hfz56_2⟩ := xT3 (W := wr) BK112.out
          have p120 : 0 ≤ (x3_2 : Int) := of_decide_eq_true (by assumption)
          have q120 : x3_2 < (l0_1.length : Int) := of_decide_eq_true (by assumption)
          obtain ⟨ad120, e120, hx120_0, hx120_1⟩ := at_T57 HR0_1.out x3_2 p120 q120
          cases e120
          replace hx120_0 := (HB.out.cell (World.block_lt_of_cell? w _ hx120_0)).trans hx120_0
          replace hx120_1 := (HB.out.cell (World.block_lt_of_cell? w _ hx120_1)).trans hx120_1
          replace p120 := eq_true p120
          replace q120 := eq_true q120
          go_wp2_with (first | ((with_reducible refine gate_dst (N := 4) rfl ?_); (try (refine gate_guard (by rfl) ?_; dsimp only)); refine xE (N := 4) (cs := #[.string (⟨#[]⟩ : ByteArray), .int .i64 0]) (t := 57) (h := ?_); intro gb121 hg w57 hbox hb; have BK121 := am (hbox); have GW121 := am (xS hg HB.out); have GE121 := am (xS hg HB.out); replace HB := am (below_step (xW HB.out) hb); have NB112_121 := am (xN hg BK112.out); have NB121_112 := am (xM hg BK112.out); replace BK112 := am (blk_below (xB BK112.out) hb); clear hb hbox hg; have hnb58 := NB121_112.out; have hnc58 := NB112_121.out; obtain ⟨hcz59_0, hcz59_1, hfz59_0, hfz59_1⟩ := xT2 (W := w57) BK121.out; obtain ⟨hcz60_0, hcz60_1, hcz60_2, hfz60_0, hfz60_1, hfz60_2⟩ := xT3 (W := w57) BK112.out))
          go_roundg k2
          case measure => have := HJ1.out; have := HK2.out; omega
          case rel => exact ⟨(wrap64 (x3_2 + 1)), (xQ), H', ⟨by have := HJ1.out; have := HK2.out; omega⟩, ⟨xB BK112.out⟩, ⟨xW HB.out⟩⟩
         ·rw [if_neg c55] at H
          have c55b0 : (((rd_T57 l0_1 x3_2).f0).toList == ([] : List UInt8)) = false := beq_eq_false_iff_ne.mpr c55
          have c55b1 : (((rd_T57 l0_1 x3_2).f0).toList != ([] : List UInt8)) = true := bne_iff_ne.mpr c55
          replace H := Option.bind_eq_some_iff.mp H
          obtain ⟨t122, A610, H⟩ := H
          try dsimp only at H
          have A61 := am A610
          clear A610
          by_cases c62 : t122 ≥ 0
          ·rw [if_pos c62] at H
           have c62b0 : decide (0 ≤ t122) = true := decide_eq_true c62
           clear c62
           obtain rfl := Option.some.inj H
           obtain ⟨hcz63_0, hcz63_1, hcz63_2, hfz63_0, hfz63_1, hfz63_2⟩ := xT3 (W := wr) BK112.out
           have p120 : 0 ≤ (x3_2 : Int) := of_decide_eq_true (by assumption)
           have q120 : x3_2 < (l0_1.length : Int) := of_decide_eq_true (by assumption)
           obtain ⟨ad120, e120, hx120_0, hx120_1⟩ := at_T57 HR0_1.out x3_2 p120 q120
           cases e120
           replace hx120_0 := (HB.out.cell (World.block_lt_of_cell? w _ hx120_0)).trans hx120_0
           replace hx120_1 := (HB.out.cell (World.block_lt_of_cell? w _ hx120_1)).trans hx120_1
           replace p120 := eq_true p120
           replace q120 := eq_true q120
           go_wp2_with (first | ((with_reducible refine gate_dst (N := 4) rfl ?_); (try (refine gate_guard (by rfl) ?_; dsimp only)); refine xE (N := 4) (cs := #[.string (⟨#[]⟩ : ByteArray), .int .i64 0]) (t := 57) (h := ?_); intro gb121 hg w64 hbox hb; have BK121 := am (hbox); have GW121 := am (xS hg HB.out); have GE121 := am (xS hg HB.out); replace HB := am (below_step (xW HB.out) hb); have NB112_121 := am (xN hg BK112.out); have NB121_112 := am (xM hg BK112.out); replace BK112 := am (blk_below (xB BK112.out) hb); clear hb hbox hg; have hnb65 := NB121_112.out; have hnc65 := NB112_121.out; obtain ⟨hcz66_0, hcz66_1, hfz66_0, hfz66_1⟩ := xT2 (W := w64) BK121.out; obtain ⟨hcz67_0, hcz67_1, hcz67_2, hfz67_0, hfz67_1, hfz67_2⟩ := xT3 (W := w64) BK112.out) | (go_at_call 58; (with_reducible refine (spec_l04Seek.calls k2 _ _ l0_0 ((rd_T57 l0_1 x3_2).f0) t122 _ ?side1 ?side2 A61.out).mono ?_); (case side1 => exact Kd.C_below HR0_0.out (xW HB.out)); (case side2 => exact HC0_0.out); rintro e w68 ⟨rfl, hb⟩; replace BK112 := am (blk_below (xB BK112.out) hb); replace BK121 := am (blk_below (xP BK121.out) hb); replace HB := am (below_step (xW HB.out) hb); (try clear hb); ))
           go_ret
           exact ⟨xV, xW HB.out⟩
          ·rw [if_neg c62] at H
           have c62b0 : decide (0 ≤ t122) = false := decide_eq_false c62
           clear c62
           have H' := am H
           clear H
           obtain ⟨hcz69_0, hcz69_1, hcz69_2, hfz69_0, hfz69_1, hfz69_2⟩ := xT3 (W := wr) BK112.out
           have p120 : 0 ≤ (x3_2 : Int) := of_decide_eq_true (by assumption)
           have q120 : x3_2 < (l0_1.length : Int) := of_decide_eq_true (by assumption)
           obtain ⟨ad120, e120, hx120_0, hx120_1⟩ := at_T57 HR0_1.out x3_2 p120 q120
           cases e120
           replace hx120_0 := (HB.out.cell (World.block_lt_of_cell? w _ hx120_0)).trans hx120_0
           replace hx120_1 := (HB.out.cell (World.block_lt_of_cell? w _ hx120_1)).trans hx120_1
           replace p120 := eq_true p120
           replace q120 := eq_true q120
           go_wp2_with (first | ((with_reducible refine gate_dst (N := 4) rfl ?_); (try (refine gate_guard (by rfl) ?_; dsimp only)); refine xE (N := 4) (cs := #[.string (⟨#[]⟩ : ByteArray), .int .i64 0]) (t := 57) (h := ?_); intro gb121 hg w70 hbox hb; have BK121 := am (hbox); have GW121 := am (xS hg HB.out); have GE121 := am (xS hg HB.out); replace HB := am (below_step (xW HB.out) hb); have NB112_121 := am (xN hg BK112.out); have NB121_112 := am (xM hg BK112.out); replace BK112 := am (blk_below (xB BK112.out) hb); clear hb hbox hg; have hnb71 := NB121_112.out; have hnc71 := NB112_121.out; obtain ⟨hcz72_0, hcz72_1, hfz72_0, hfz72_1⟩ := xT2 (W := w70) BK121.out; obtain ⟨hcz73_0, hcz73_1, hcz73_2, hfz73_0, hfz73_1, hfz73_2⟩ := xT3 (W := w70) BK112.out) | (go_at_call 58; (with_reducible refine (spec_l04Seek.calls k2 _ _ l0_0 ((rd_T57 l0_1 x3_2).f0) t122 _ ?side1 ?side2 A61.out).mono ?_); (case side1 => exact Kd.C_below HR0_0.out (xW HB.out)); (case side2 => exact HC0_0.out); rintro e w74 ⟨rfl, hb⟩; replace BK112 := am (blk_below (xB BK112.out) hb); replace BK121 := am (blk_below (xP BK121.out) hb); replace HB := am (below_step (xW HB.out) hb); (try clear hb); ))
           go_roundg k2
           case measure => have := HJ1.out; have := HK2.out; omega
           case rel => exact ⟨(wrap64 (x3_2 + 1)), (xQ), H', ⟨by have := HJ1.out; have := HK2.out; omega⟩, ⟨xB BK112.out⟩, ⟨xW HB.out⟩⟩
       ·rw [if_neg c36] at H
        exact absurd H (by simp)
      ·rw [if_neg c35] at H
       have c35b0 : decide (x3_2 < (l0_1.length : Int)) = false := decide_eq_false c35
       clear c35
       obtain rfl := Option.some.inj H
       obtain ⟨hcz75_0, hcz75_1, hcz75_2, hfz75_0, hfz75_1, hfz75_2⟩ := xT3 (W := wr) BK112.out
       go_wp2
       go_ret
       exact ⟨xV, xW HB.out⟩
end Go.Proofs.Ytmahoekbedgbcaa.HFnGrows
