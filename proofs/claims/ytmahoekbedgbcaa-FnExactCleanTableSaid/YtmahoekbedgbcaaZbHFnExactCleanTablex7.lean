/- What the row of the law needs of the printed and the plain texts. -/
import Derived.Test.YtmahoekbedgbcaaZbHX
import Derived.Test.YtmahoekbedgbcaaZbHFnExactCleanTablex0
import Derived.Test.YtmahoekbedgbcaaZbHFnExactCleanTablex4
import Derived.Test.YtmahoekbedgbcaaZbHFnExactCleanTablex6
namespace Go.Proofs.Ytmahoekbedgbcaa.HFnExactCleanTable
open Go.RowKit Go.Proofs.YtmahoekbedgbcaaW.PrintWords Go.Proofs.YtmahoekbedgbcaaW.PrintLast Go.Proofs.YtmahoekbedgbcaaW.PrintMore
attribute [local go_sem] max2_int min2_int max_two min_two max_three min_three max_four min_four
set_option linter.unusedVariables false
set_option linter.unusedSimpArgs false
theorem geq_text7 (t : TypeId) (a b : ByteArray) : binOp .geq t (.string a) (.string b) = pure (.bool !(Op.bytesLess a.toList b.toList)) := by simp [binOp, Op.stringOp]
attribute [local go_sem] geq_text7
def spec_SeekKey.j0 : Nat → ByteArray → Bool → List (S57) → List (S57) → Int → Option (Int × Bool)
 | 0, _, _, _, _, _ => none
 | k + 1, x1, x13, x172000, x172001, x172002 => if x13 = true then (some (0, false)) else ((spec_l04Seek.f k x172000 x1).bind fun t173 => (if t173 ≥ 0 then (if 0 ≤ t173 then (if t173 < (x172000.length : Int) then (some ((rd_T57 x172000 t173).f1, true)) else (none)) else (none)) else ((spec_l04Seek.f k x172001 x1).bind fun t175 => (if t175 ≥ 0 then (if 0 ≤ t175 then (if t175 < (x172001.length : Int) then (some ((rd_T57 x172001 t175).f1, true)) else (none)) else (none)) else (some (0, false))))))
def spec_SeekKey.f (k : Nat) (l0_0 : List (S57)) (l0_1 : List (S57)) (a0_2 : Int) (a1 : ByteArray) : Option (Int × Bool) := (spec_TableOk.f k l0_0 l0_1 a0_2).bind fun t172 => (if t172 = true then (spec_SeekKey.j0 k a1 (a1.toList == ([] : List UInt8)) l0_0 l0_1 a0_2) else (spec_SeekKey.j0 k a1 true l0_0 l0_1 a0_2))
set_option maxHeartbeats 8000000 in
set_option maxRecDepth 100000 in
theorem spec_SeekKey.calls (k : Nat) (A0_0 : Option Addr) (c0_0 : Nat) (l0_0 : List (S57)) (A0_1 : Option Addr) (c0_1 : Nat) (l0_1 : List (S57)) (a0_2 : Int) (a1 : ByteArray) (r1 : Int) (r2 : Bool) (w : World) (hr0_0 : Kd.C k57 w A0_0 l0_0.length l0_0) (hc0_0 : l0_0.length ≤ c0_0) (hr0_1 : Kd.C k57 w A0_1 l0_1.length l0_1) (hc0_1 : l0_1.length ≤ c0_1) (h : spec_SeekKey.f k l0_0 l0_1 a0_2 a1 = some (r1, r2)) :
  Calls Try.prog 22 #[.agg #[.slice A0_0 l0_0.length c0_0, .slice A0_1 l0_1.length c0_1, .int .i64 a0_2], .string a1] w fun e w' => e = .returned (.tuple #[.int .i64 r1, .bool r2]) ∧ Below w.heap.size w w' := by
 have hu26 := Try.underlying26
 have HR0_0 := am hr0_0
 have HC0_0 := am hc0_0
 clear hr0_0 hc0_0
 have HR0_1 := am hr0_1
 have HC0_1 := am hc0_1
 clear hr0_1 hc0_1
 have HB := am (Below.refl w.heap.size w)
 have H : ((spec_TableOk.f k l0_0 l0_1 a0_2).bind fun t172 => (if t172 = true then (spec_SeekKey.j0 k a1 (a1.toList == ([] : List UInt8)) l0_0 l0_1 a0_2) else (spec_SeekKey.j0 k a1 true l0_0 l0_1 a0_2))) = some (r1, r2) := h
 clear h
 have HC3 := am H
 clear H
 go_enter Try.func22, Try.ntmps22
 go_upto_region 1 with (first | ((with_reducible refine gate_dst (N := 2) rfl ?_); refine xE (N := 2) (cs := #[.slice A0_0 l0_0.length c0_0, .slice A0_1 l0_1.length c0_1, .int .i64 a0_2]) (t := 26) (h := ?_); intro gb171 hg w4 hbox hb; have n0_ := am (below_step (xW HB.out) hb); have n1_ := am (hbox); have n2_ := am (xS hg HB.out); have n3_ := am (xS hg HB.out); clear HB; have HB := n0_; have BK171 := n1_; have GW171 := n2_; have GE171 := n3_; clear n0_ n1_ n2_ n3_; clear hb hbox hg))
 (try simp only [Act.put, List.setIfInBounds_toArray, List.set_cons_zero, List.set_cons_succ])
 go_cut [13] (fun v13 wc => ∃ (kq : Nat) (x13_2 : Bool), v13 = .bool x13_2 ∧ Aside0 (spec_SeekKey.j0 kq a1 x13_2 l0_0 l0_1 a0_2 = some (r1, r2)) ∧ Aside0 (kq ≤ k) ∧ Aside0 (wc.heap[gb171]? = some (.cells #[(.slice A0_0 l0_0.length c0_0), (.slice A0_1 l0_1.length c0_1), .int .i64 a0_2] 26 (0, 0))) ∧ Aside0 (Below w.heap.size w wc))
 case first =>
  have H := HC3.out
  clear HC3
  replace H := Option.bind_eq_some_iff.mp H
  obtain ⟨t172, A50, H⟩ := H
  replace H : (if t172 = true then (spec_SeekKey.j0 k a1 (a1.toList == ([] : List UInt8)) l0_0 l0_1 a0_2) else (spec_SeekKey.j0 k a1 true l0_0 l0_1 a0_2)) = some (r1, r2) := H
  have A5 := am A50
  clear A50
  by_cases c6 : t172 = true
  ·subst c6
   have H1 : (spec_SeekKey.j0 k a1 (a1.toList == ([] : List UInt8)) l0_0 l0_1 a0_2) = some (r1, r2) := by rw [if_pos rfl] at H; exact H
   clear H
   have H := H1
   clear H1
   have H' := am H
   clear H
   obtain ⟨hcz7_0, hcz7_1, hcz7_2, hfz7_0, hfz7_1, hfz7_2⟩ := xT3 (W := w4) BK171.out
   go_wp2_with (first | ((with_reducible refine gate_callee (f := 25) rfl ?_); refine xG (some 8) 25 Try.func25 #[.agg #[.slice A0_0 l0_0.length c0_0, .slice A0_1 l0_1.length c0_1, .int .i64 a0_2]] (h := ?_); (with_reducible refine (spec_TableOk.calls k _ _ l0_0 _ _ l0_1 a0_2 true _ ?side1 ?side2 ?side3 ?side4 A5.out).mono ?_); (case side1 => exact xC (Kd.C_below HR0_0.out HB.out)); (case side2 => exact HC0_0.out); (case side3 => exact xC (Kd.C_below HR0_1.out HB.out)); (case side4 => exact HC0_1.out); rintro e w8 ⟨rfl, hb⟩; refine ⟨_, rfl, ?_⟩; have n0_ := am (blk_below (xB BK171.out) hb); have n1_ := am (below_step (xW HB.out) hb); clear BK171; clear HB; have BK171 := n0_; have HB := n1_; clear n0_ n1_; (try clear hb); (try clear hb2); (try clear hk); (try clear hi)))
   go_meet
   case rel => exact ⟨_, ((a1.toList == ([] : List UInt8))), (xQ), H', ⟨by first | omega | exact Nat.le_refl _⟩, ⟨xB BK171.out⟩, ⟨xW HB.out⟩⟩
  ·replace c6 := Bool.eq_false_iff.mpr c6
   subst c6
   have H1 : (spec_SeekKey.j0 k a1 true l0_0 l0_1 a0_2) = some (r1, r2) := by rw [if_neg (show ¬ (false = true) by decide)] at H; exact H
   clear H
   have H := H1
   clear H1
   have H' := am H
   clear H
   obtain ⟨hcz9_0, hcz9_1, hcz9_2, hfz9_0, hfz9_1, hfz9_2⟩ := xT3 (W := w4) BK171.out
   go_wp2_with (first | ((with_reducible refine gate_callee (f := 25) rfl ?_); refine xG (some 8) 25 Try.func25 #[.agg #[.slice A0_0 l0_0.length c0_0, .slice A0_1 l0_1.length c0_1, .int .i64 a0_2]] (h := ?_); (with_reducible refine (spec_TableOk.calls k _ _ l0_0 _ _ l0_1 a0_2 false _ ?side1 ?side2 ?side3 ?side4 A5.out).mono ?_); (case side1 => exact xC (Kd.C_below HR0_0.out HB.out)); (case side2 => exact HC0_0.out); (case side3 => exact xC (Kd.C_below HR0_1.out HB.out)); (case side4 => exact HC0_1.out); rintro e w10 ⟨rfl, hb⟩; refine ⟨_, rfl, ?_⟩; have n0_ := am (blk_below (xB BK171.out) hb); have n1_ := am (below_step (xW HB.out) hb); clear BK171; clear HB; have BK171 := n0_; have HB := n1_; clear n0_ n1_; (try clear hb); (try clear hb2); (try clear hk); (try clear hi)))
   go_meet
   case rel => exact ⟨_, (true), (xQ), H', ⟨by first | omega | exact Nat.le_refl _⟩, ⟨xB BK171.out⟩, ⟨xW HB.out⟩⟩
 case rest =>
  clear HC3
  try clear c2
  try clear p2
  try clear c6
  try clear hcz7_0
  try clear hcz7_1
  try clear hcz7_2
  try clear hcz9_0
  try clear hcz9_1
  try clear hcz9_2
  try clear hfz7_0
  try clear hfz7_1
  try clear hfz7_2
  try clear hfz9_0
  try clear hfz9_1
  try clear hfz9_2
  obtain ⟨kq, x13_2, rfl, HA, HJ2, BK171, HB⟩ := hcut
  cases kq with
  | zero => exact absurd HA.out (by simp [spec_SeekKey.j0])
  | succ kj2 =>
   have H := HA.out
   clear HA
   simp only [spec_SeekKey.j0] at H
   by_cases c11 : x13_2 = true
   ·subst c11
    have H1 : (some (0, false)) = some (r1, r2) := by rw [if_pos rfl] at H; exact H
    clear H
    have H := H1
    clear H1
    simp only [Option.some.injEq, Prod.mk.injEq] at H
    obtain ⟨rfl, rfl⟩ := H
    go_wp2
    go_ret2
    exact ⟨xV, xW HB.out⟩
   ·replace c11 := Bool.eq_false_iff.mpr c11
    subst c11
    have H1 : ((spec_l04Seek.f kj2 l0_0 a1).bind fun t173 => (if t173 ≥ 0 then (if 0 ≤ t173 then (if t173 < (l0_0.length : Int) then (some ((rd_T57 l0_0 t173).f1, true)) else (none)) else (none)) else ((spec_l04Seek.f kj2 l0_1 a1).bind fun t175 => (if t175 ≥ 0 then (if 0 ≤ t175 then (if t175 < (l0_1.length : Int) then (some ((rd_T57 l0_1 t175).f1, true)) else (none)) else (none)) else (some (0, false)))))) = some (r1, r2) := by rw [if_neg (show ¬ (false = true) by decide)] at H; exact H
    clear H
    have H := H1
    clear H1
    replace H := Option.bind_eq_some_iff.mp H
    obtain ⟨t173, A120, H⟩ := H
    replace H : (if t173 ≥ 0 then (if 0 ≤ t173 then (if t173 < (l0_0.length : Int) then (some ((rd_T57 l0_0 t173).f1, true)) else (none)) else (none)) else ((spec_l04Seek.f kj2 l0_1 a1).bind fun t175 => (if t175 ≥ 0 then (if 0 ≤ t175 then (if t175 < (l0_1.length : Int) then (some ((rd_T57 l0_1 t175).f1, true)) else (none)) else (none)) else (some (0, false))))) = some (r1, r2) := H
    have A12 := am A120
    clear A120
    by_cases c13 : t173 ≥ 0
    ·rw [if_pos c13] at H
     have c13b0 : decide (0 ≤ t173) = true := decide_eq_true c13
     clear c13
     by_cases c14 : 0 ≤ t173
     ·rw [if_pos c14] at H
      have c14b0 : decide (0 ≤ t173) = true := decide_eq_true c14
      clear c14
      by_cases c15 : t173 < (l0_0.length : Int)
      ·rw [if_pos c15] at H
       have c15b0 : decide (t173 < (l0_0.length : Int)) = true := decide_eq_true c15
       clear c15
       simp only [Option.some.injEq, Prod.mk.injEq] at H
       obtain ⟨rfl, rfl⟩ := H
       obtain ⟨hcz16_0, hcz16_1, hcz16_2, hfz16_0, hfz16_1, hfz16_2⟩ := xT3 (W := wc) BK171.out
       go_wp2_with (first | ((with_reducible refine gate_callee (f := 58) rfl ?_); refine xG (some 17) 58 Try.func58 #[.slice A0_0 l0_0.length c0_0, .string a1] (h := ?_); (with_reducible refine (spec_l04Seek.calls kj2 _ _ l0_0 a1 t173 _ ?side1 ?side2 A12.out).mono ?_); (case side1 => exact xC (Kd.C_below HR0_0.out HB.out)); (case side2 => exact HC0_0.out); rintro e w17 ⟨rfl, hb⟩; refine ⟨_, rfl, ?_⟩; have n0_ := am (blk_below (xB BK171.out) hb); have n1_ := am (below_step (xW HB.out) hb); clear BK171; clear HB; have BK171 := n0_; have HB := n1_; clear n0_ n1_; (try clear hb); (try clear hb2); (try clear hk); (try clear hi); obtain ⟨hcz18_0, hcz18_1, hcz18_2, hfz18_0, hfz18_1, hfz18_2⟩ := xT3 (W := w17) BK171.out; have p174 : 0 ≤ (t173 : Int) := of_decide_eq_true (by assumption); have q174 : t173 < (l0_0.length : Int) := of_decide_eq_true (by assumption); obtain ⟨ad174, e174, hx174_0, hx174_1⟩ := at_T57 HR0_0.out t173 p174 q174; cases e174; replace hx174_0 := (HB.out.cell (World.block_lt_of_cell? w _ hx174_0)).trans hx174_0; replace hx174_1 := (HB.out.cell (World.block_lt_of_cell? w _ hx174_1)).trans hx174_1; replace p174 := eq_true p174; replace q174 := eq_true q174))
       go_ret2
       exact ⟨xV, xW HB.out⟩
      ·rw [if_neg c15] at H
       exact absurd H (by simp)
     ·rw [if_neg c14] at H
      exact absurd H (by simp)
    ·rw [if_neg c13] at H
     have c13b0 : decide (0 ≤ t173) = false := decide_eq_false c13
     clear c13
     replace H := Option.bind_eq_some_iff.mp H
     obtain ⟨t175, A190, H⟩ := H
     replace H : (if t175 ≥ 0 then (if 0 ≤ t175 then (if t175 < (l0_1.length : Int) then (some ((rd_T57 l0_1 t175).f1, true)) else (none)) else (none)) else (some (0, false))) = some (r1, r2) := H
     have A19 := am A190
     clear A190
     by_cases c20 : t175 ≥ 0
     ·rw [if_pos c20] at H
      have c20b0 : decide (0 ≤ t175) = true := decide_eq_true c20
      clear c20
      by_cases c21 : 0 ≤ t175
      ·rw [if_pos c21] at H
       have c21b0 : decide (0 ≤ t175) = true := decide_eq_true c21
       clear c21
       by_cases c22 : t175 < (l0_1.length : Int)
       ·rw [if_pos c22] at H
        have c22b0 : decide (t175 < (l0_1.length : Int)) = true := decide_eq_true c22
        clear c22
        simp only [Option.some.injEq, Prod.mk.injEq] at H
        obtain ⟨rfl, rfl⟩ := H
        obtain ⟨hcz23_0, hcz23_1, hcz23_2, hfz23_0, hfz23_1, hfz23_2⟩ := xT3 (W := wc) BK171.out
        go_wp2_with (first | ((with_reducible refine gate_callee (f := 58) rfl ?_); refine xG (some 17) 58 Try.func58 #[.slice A0_0 l0_0.length c0_0, .string a1] (h := ?_); (with_reducible refine (spec_l04Seek.calls kj2 _ _ l0_0 a1 t173 _ ?side1 ?side2 A12.out).mono ?_); (case side1 => exact xC (Kd.C_below HR0_0.out HB.out)); (case side2 => exact HC0_0.out); rintro e w24 ⟨rfl, hb⟩; refine ⟨_, rfl, ?_⟩; have n0_ := am (blk_below (xB BK171.out) hb); have n1_ := am (below_step (xW HB.out) hb); clear BK171; clear HB; have BK171 := n0_; have HB := n1_; clear n0_ n1_; (try clear hb); (try clear hb2); (try clear hk); (try clear hi); obtain ⟨hcz25_0, hcz25_1, hcz25_2, hfz25_0, hfz25_1, hfz25_2⟩ := xT3 (W := w24) BK171.out) | ((with_reducible refine gate_callee (f := 58) rfl ?_); refine xG (some 29) 58 Try.func58 #[.slice A0_1 l0_1.length c0_1, .string a1] (h := ?_); (with_reducible refine (spec_l04Seek.calls kj2 _ _ l0_1 a1 t175 _ ?side1 ?side2 A19.out).mono ?_); (case side1 => exact xC (Kd.C_below HR0_1.out HB.out)); (case side2 => exact HC0_1.out); rintro e w26 ⟨rfl, hb⟩; refine ⟨_, rfl, ?_⟩; have n0_ := am (blk_below (xB BK171.out) hb); have n1_ := am (below_step (xW HB.out) hb); clear BK171; clear HB; have BK171 := n0_; have HB := n1_; clear n0_ n1_; (try clear hb); (try clear hb2); (try clear hk); (try clear hi); obtain ⟨hcz27_0, hcz27_1, hcz27_2, hfz27_0, hfz27_1, hfz27_2⟩ := xT3 (W := w26) BK171.out; have p176 : 0 ≤ (t175 : Int) := of_decide_eq_true (by assumption); have q176 : t175 < (l0_1.length : Int) := of_decide_eq_true (by assumption); obtain ⟨ad176, e176, hx176_0, hx176_1⟩ := at_T57 HR0_1.out t175 p176 q176; cases e176; replace hx176_0 := (HB.out.cell (World.block_lt_of_cell? w _ hx176_0)).trans hx176_0; replace hx176_1 := (HB.out.cell (World.block_lt_of_cell? w _ hx176_1)).trans hx176_1; replace p176 := eq_true p176; replace q176 := eq_true q176))
        go_ret2
        exact ⟨xV, xW HB.out⟩
       ·rw [if_neg c22] at H
        exact absurd H (by simp)
      ·rw [if_neg c21] at H
       exact absurd H (by simp)
     ·rw [if_neg c20] at H
      have c20b0 : decide (0 ≤ t175) = false := decide_eq_false c20
      clear c20
      simp only [Option.some.injEq, Prod.mk.injEq] at H
      obtain ⟨rfl, rfl⟩ := H
      obtain ⟨hcz28_0, hcz28_1, hcz28_2, hfz28_0, hfz28_1, hfz28_2⟩ := xT3 (W := wc) BK171.out
      go_wp2_with (first | ((with_reducible refine gate_callee (f := 58) rfl ?_); refine xG (some 17) 58 Try.func58 #[.slice A0_0 l0_0.length c0_0, .string a1] (h := ?_); (with_reducible refine (spec_l04Seek.calls kj2 _ _ l0_0 a1 t173 _ ?side1 ?side2 A12.out).mono ?_); (case side1 => exact xC (Kd.C_below HR0_0.out HB.out)); (case side2 => exact HC0_0.out); rintro e w29 ⟨rfl, hb⟩; refine ⟨_, rfl, ?_⟩; have n0_ := am (blk_below (xB BK171.out) hb); have n1_ := am (below_step (xW HB.out) hb); clear BK171; clear HB; have BK171 := n0_; have HB := n1_; clear n0_ n1_; (try clear hb); (try clear hb2); (try clear hk); (try clear hi); obtain ⟨hcz30_0, hcz30_1, hcz30_2, hfz30_0, hfz30_1, hfz30_2⟩ := xT3 (W := w29) BK171.out) | ((with_reducible refine gate_callee (f := 58) rfl ?_); refine xG (some 29) 58 Try.func58 #[.slice A0_1 l0_1.length c0_1, .string a1] (h := ?_); (with_reducible refine (spec_l04Seek.calls kj2 _ _ l0_1 a1 t175 _ ?side1 ?side2 A19.out).mono ?_); (case side1 => exact xC (Kd.C_below HR0_1.out HB.out)); (case side2 => exact HC0_1.out); rintro e w31 ⟨rfl, hb⟩; refine ⟨_, rfl, ?_⟩; have n0_ := am (blk_below (xB BK171.out) hb); have n1_ := am (below_step (xW HB.out) hb); clear BK171; clear HB; have BK171 := n0_; have HB := n1_; clear n0_ n1_; (try clear hb); (try clear hb2); (try clear hk); (try clear hi)))
      go_ret2
      exact ⟨xV, xW HB.out⟩
mutual
def spec_l04Insert.l0 : Nat → List ByteArray → ByteArray → List ByteArray → Int → Option (List ByteArray)
 | 0, _, _, _, _ => none
 | k + 1, x0, x1, x5, x6 => if x6 < (x0.length : Int) then (if 0 ≤ x6 then (if (Op.bytesLess ((rdOf ByteArray.empty x0 x6).toList) x1.toList) = true then (if x5.length < 8796093022208 then (spec_l04Insert.l0 k x0 x1 (x5 ++ [rdOf ByteArray.empty x0 x6]) (wrap64 (x6 + 1))) else (none)) else (spec_l04Insert.l0 k x0 x1 x5 (wrap64 (x6 + 1)))) else (none)) else (if x5.length < 8796093022208 then (spec_l04Insert.l1 k x0 x1 (x5 ++ [x1]) 0) else (none))
def spec_l04Insert.l1 : Nat → List ByteArray → ByteArray → List ByteArray → Int → Option (List ByteArray)
 | 0, _, _, _, _ => none
 | k + 1, x0, x1, x5, x7 => if x7 < (x0.length : Int) then (if 0 ≤ x7 then (if ((Op.bytesLess ((rdOf ByteArray.empty x0 x7).toList) x1.toList) = true) then (spec_l04Insert.l1 k x0 x1 x5 (wrap64 (x7 + 1))) else (if x5.length < 8796093022208 then (spec_l04Insert.l1 k x0 x1 (x5 ++ [rdOf ByteArray.empty x0 x7]) (wrap64 (x7 + 1))) else (none))) else (none)) else (some x5)
end
def spec_l04Insert.f (k : Nat) (l0 : List ByteArray) (a1 : ByteArray) : Option (List ByteArray) := spec_l04Insert.l0 k l0 a1 (([] : List ByteArray)) 0
set_option maxHeartbeats 8000000 in
set_option maxRecDepth 100000 in
theorem spec_l04Insert.calls (k : Nat) (A0 : Option Addr) (c0 : Nat) (l0 : List ByteArray) (a1 : ByteArray) (r : List ByteArray) (w : World) (hr0 : Kd.C Kd.string w A0 l0.length l0) (hc0 : l0.length ≤ c0) (h : spec_l04Insert.f k l0 a1 = some r) :
  Calls Try.prog 66 #[.slice A0 l0.length c0, .string a1] w fun e w' => ∃ v0_ : Value, e = .returned (v0_) ∧ Kd.R Kd.string 9 w' w.heap.size (fun _ => True) v0_ r ∧ Below w.heap.size w w' := by
 have HR0 := am hr0
 have HC0 := am hc0
 clear hr0 hc0
 have HB := am (Below.refl w.heap.size w)
 have H : (spec_l04Insert.l0 k l0 a1 (([] : List ByteArray)) 0) = some r := h
 clear h
 obtain ⟨y177, hy177⟩ : ∃ y_ : List ByteArray, y_ = (([] : List ByteArray)) := ⟨_, rfl⟩
 replace H : (spec_l04Insert.l0 k l0 a1 y177 0) = some r := by first | (rw [hy177]; with_reducible exact H) | (have H2_ := (Option.bind_some _ _).symm.trans H; rw [hy177]; with_reducible exact H2_) | (have H2_ := (Option.bind_some _ _).symm.trans H; with_reducible exact H2_) | with_reducible exact H | (rw [hy177]; exact H) | exact H
 have Ny177 := am hy177
 clear hy177
 have H' := am H
 clear H
 go_enter Try.func66, Try.ntmps66
 go_wp2_with (first | ((with_reducible refine gate_dst (N := 8) rfl ?_); refine Kd.R_lit Kd.string _ 9 ?hg (N := 8) ?hd (xs := ([] : List ByteArray)) (inner := []) (ok := fun _ => True) (okp := fun _ => True) ?hr ?hp (fun _ hk => hk) trivial (Below.refl _ _) (Nat.le_refl _) (by simp) ?_; (case hd => rfl); (case hg => rfl); (case hr => first | (go_simp; done) | (go_simp; rfl)); (case hp => exact (Reps.none _ _)); intro v178 w3 ho4 hb hg_ hnew_; clear hg_ hnew_; (first | rw [← Ny177.out] at ho4 | (simp only [Int.reduceToNat] at ho4; rw [← Ny177.out] at ho4)); have n0_ := am (Kd.R_lower ho4 (below_size (xW HB.out))); have n1_ := am (below_step (xW HB.out) hb); clear HB; have HO179 := n0_; have HB := n1_; clear n0_ n1_; clear hb ho4))
 go_loopg [5, 6] k (fun kq v5 v6 w' => ∃ (x5_1 : List ByteArray) (x6_1 : Int), v6 = .int .i64 x6_1 ∧ Aside0 (spec_l04Insert.l0 kq l0 a1 x5_1 x6_1 = some r) ∧ Aside0 (kq ≤ k) ∧ Aside0 (Kd.R Kd.string 9 w' w.heap.size (fun _ => True) v5 x5_1) ∧ Aside0 (Below w.heap.size w w'))
 case atStart => exact ⟨(y177), (0), (xQ), H', ⟨Nat.le_refl _⟩, ⟨xR HO179.out⟩, ⟨xW HB.out⟩⟩
 case round =>
  clear H'
  try clear p2
  obtain ⟨x5_1, x6_1, rfl, HA, HK1, HO_5, HB⟩ := hrel
  cases gk with
  | zero => exact absurd HA.out (by simp [spec_l04Insert.l0])
  | succ k1 =>
   have H := HA.out
   clear HA
   simp only [spec_l04Insert.l0] at H
   by_cases c5 : x6_1 < (l0.length : Int)
   ·rw [if_pos c5] at H
    have c5b0 : decide (x6_1 < (l0.length : Int)) = true := decide_eq_true c5
    clear c5
    by_cases c6 : 0 ≤ x6_1
    ·rw [if_pos c6] at H
     have c6b0 : decide (0 ≤ x6_1) = true := decide_eq_true c6
     clear c6
     by_cases c7 : (Op.bytesLess ((rdOf ByteArray.empty l0 x6_1).toList) a1.toList) = true
     ·rw [if_pos c7] at H
      have c7b0 : (Op.bytesLess ((rdOf ByteArray.empty l0 x6_1).toList) a1.toList) = true := c7
      clear c7
      by_cases c8 : x5_1.length < 8796093022208
      ·rw [if_pos c8] at H
       have LMc8 := am c8
       clear c8
       obtain ⟨y182, hy182⟩ : ∃ y_ : List ByteArray, y_ = (x5_1 ++ [rdOf ByteArray.empty l0 x6_1]) := ⟨_, rfl⟩
       replace H : (spec_l04Insert.l0 k1 l0 a1 y182 (wrap64 (x6_1 + 1))) = some r := by first | (rw [hy182]; with_reducible exact H) | (have H2_ := (Option.bind_some _ _).symm.trans H; rw [hy182]; with_reducible exact H2_) | (have H2_ := (Option.bind_some _ _).symm.trans H; with_reducible exact H2_) | with_reducible exact H | (rw [hy182]; exact H) | exact H
       have Ny182 := am hy182
       clear hy182
       have H' := am H
       clear H
       have p180 : 0 ≤ (x6_1 : Int) := of_decide_eq_true (by assumption)
       have q180 : x6_1 < (l0.length : Int) := of_decide_eq_true (by assumption)
       obtain ⟨ad180, e180, hx180_0⟩ := Kd.at_string HR0.out x6_1 p180 q180
       cases e180
       replace hx180_0 := (HB.out.cell (World.block_lt_of_cell? w _ hx180_0)).trans hx180_0
       replace p180 := eq_true p180
       replace q180 := eq_true q180
       have p181 : 0 ≤ (x6_1 : Int) := of_decide_eq_true (by assumption)
       have q181 : x6_1 < (l0.length : Int) := of_decide_eq_true (by assumption)
       obtain ⟨ad181, e181, hx181_0⟩ := Kd.at_string HR0.out x6_1 p181 q181
       obtain rfl : ad180 = ad181 := (by injection e181)
       replace hx181_0 := (HB.out.cell (World.block_lt_of_cell? w _ hx181_0)).trans hx181_0
       replace p181 := eq_true p181
       replace q181 := eq_true q181
       go_wp2_with (first | ((with_reducible refine gate_builtin (b := .append) (xs := #[.tmp 21, .tmp 26]) rfl ?_); at_builtin; refine Kd.R_append Kd.string (w0 := w) w.heap.size rfl (.tmp 21) (.tmp 26) 35 9 (.string ⟨#[]⟩) 16 rfl Try.underlying35 info9 rfl (by decide) (by omega) u5 x5_1 (rdOf ByteArray.empty l0 x6_1) [.string (rdOf ByteArray.empty l0 x6_1)] (fun _ => True) (fun _ => False) rfl rfl ?aP (fun _ hk => hk.elim) ?aF ?aO ?aB ?aS ?aL ?_; (case aP => exact rfl); (case aB => exact (xW HB.out)); (case aF => exact (fun _ _ => trivial)); (case aO => exact (xR HO_5.out)); (case aS => exact (below_size (xW HB.out))); (case aL => have := LMc8.out; omega); intro v183 w9 ho hb hg hat; rw [← Ny182.out] at ho; have n0_ := am (hb); have n1_ := am (ho); clear HB; clear HO_5; have HB := n0_; have HO184 := n1_; clear n0_ n1_; clear ho hb hg hat))
       go_roundg k1
       case measure => have := HK1.out; omega
       case rel => exact ⟨(y182), (wrap64 (x6_1 + 1)), (xQ), H', ⟨by have := HK1.out; omega⟩, ⟨xR HO184.out⟩, ⟨xW HB.out⟩⟩
      ·rw [if_neg c8] at H
       exact absurd H (by simp)
     ·rw [if_neg c7] at H
      have c7b0 : (Op.bytesLess ((rdOf ByteArray.empty l0 x6_1).toList) a1.toList) = false := by simpa using c7
      clear c7
      have H' := am H
      clear H
      have p180 : 0 ≤ (x6_1 : Int) := of_decide_eq_true (by assumption)
      have q180 : x6_1 < (l0.length : Int) := of_decide_eq_true (by assumption)
      obtain ⟨ad180, e180, hx180_0⟩ := Kd.at_string HR0.out x6_1 p180 q180
      cases e180
      replace hx180_0 := (HB.out.cell (World.block_lt_of_cell? w _ hx180_0)).trans hx180_0
      replace p180 := eq_true p180
      replace q180 := eq_true q180
      go_wp2
      go_roundg k1
      case measure => have := HK1.out; omega
      case rel => exact ⟨(x5_1), (wrap64 (x6_1 + 1)), (xQ), H', ⟨by have := HK1.out; omega⟩, ⟨xR HO_5.out⟩, ⟨xW HB.out⟩⟩
    ·rw [if_neg c6] at H
     exact absurd H (by simp)
   ·rw [if_neg c5] at H
    have c5b0 : decide (x6_1 < (l0.length : Int)) = false := decide_eq_false c5
    clear c5
    by_cases c10 : x5_1.length < 8796093022208
    ·rw [if_pos c10] at H
     have LMc10 := am c10
     clear c10
     obtain ⟨y185, hy185⟩ : ∃ y_ : List ByteArray, y_ = (x5_1 ++ [a1]) := ⟨_, rfl⟩
     replace H : (spec_l04Insert.l1 k1 l0 a1 y185 0) = some r := by first | (rw [hy185]; with_reducible exact H) | (have H2_ := (Option.bind_some _ _).symm.trans H; rw [hy185]; with_reducible exact H2_) | (have H2_ := (Option.bind_some _ _).symm.trans H; with_reducible exact H2_) | with_reducible exact H | (rw [hy185]; exact H) | exact H
     have Ny185 := am hy185
     clear hy185
     have H' := am H
     clear H
     go_wp2_with (first | ((with_reducible refine gate_builtin (b := .append) (xs := #[.tmp 28, .tmp 30]) rfl ?_); at_builtin; refine Kd.R_append Kd.string (w0 := w) w.heap.size rfl (.tmp 28) (.tmp 30) 35 9 (.string ⟨#[]⟩) 16 rfl Try.underlying35 info9 rfl (by decide) (by omega) u5 x5_1 a1 [.string a1] (fun _ => True) (fun _ => False) rfl rfl ?aP (fun _ hk => hk.elim) ?aF ?aO ?aB ?aS ?aL ?_; (case aP => exact rfl); (case aB => exact (xW HB.out)); (case aF => exact (fun _ _ => trivial)); (case aO => exact (xR HO_5.out)); (case aS => exact (below_size (xW HB.out))); (case aL => have := LMc10.out; omega); intro v186 w11 ho hb hg hat; rw [← Ny185.out] at ho; have n0_ := am (hb); have n1_ := am (ho); clear HB; clear HO_5; have HB := n0_; have HO187 := n1_; clear n0_ n1_; clear ho hb hg hat))
     go_loopg [5, 7] k1 (fun kq v5 v7 w' => ∃ (x5_2 : List ByteArray) (x7_2 : Int), v7 = .int .i64 x7_2 ∧ Aside0 (spec_l04Insert.l1 kq l0 a1 x5_2 x7_2 = some r) ∧ Aside0 (kq ≤ k1) ∧ Aside0 (Kd.R Kd.string 9 w' w.heap.size (fun _ => True) v5 x5_2) ∧ Aside0 (Below w.heap.size w w'))
     case atStart => exact ⟨(y185), (0), (xQ), H', ⟨Nat.le_refl _⟩, ⟨xR HO187.out⟩, ⟨xW HB.out⟩⟩
     case round =>
      clear H'
      try clear c1
      try clear p1
      try clear q1
      try clear hx1
      try clear p2
      try clear c5
      try clear c5b0
      try clear c6
      try clear c6b0
      try clear p6
      try clear c7
      try clear c7b0
      try clear c8
      try clear c10
      try clear hx180_0
      try clear hx181_0
      try clear p180
      try clear p181
      try clear p2
      try clear q180
      try clear q181
      obtain ⟨x5_2, x7_2, rfl, HA, HK2, HO_5, HB⟩ := hrel
      cases gk with
      | zero => exact absurd HA.out (by simp [spec_l04Insert.l1])
      | succ k2 =>
       have H := HA.out
       clear HA
       simp only [spec_l04Insert.l1] at H
       by_cases c12 : x7_2 < (l0.length : Int)
       ·rw [if_pos c12] at H
        have c12b0 : decide (x7_2 < (l0.length : Int)) = true := decide_eq_true c12
        clear c12
        by_cases c13 : 0 ≤ x7_2
        ·rw [if_pos c13] at H
         have c13b0 : decide (0 ≤ x7_2) = true := decide_eq_true c13
         clear c13
         by_cases c14 : ((Op.bytesLess ((rdOf ByteArray.empty l0 x7_2).toList) a1.toList) = true)
         ·rw [if_pos c14] at H
          have c14b0 : (Op.bytesLess ((rdOf ByteArray.empty l0 x7_2).toList) a1.toList) = true := c14
          clear c14
          have H' := am H
          clear H
          have p188 : 0 ≤ (x7_2 : Int) := of_decide_eq_true (by assumption)
          have q188 : x7_2 < (l0.length : Int) := of_decide_eq_true (by assumption)
          obtain ⟨ad188, e188, hx188_0⟩ := Kd.at_string HR0.out x7_2 p188 q188
          cases e188
          replace hx188_0 := (HB.out.cell (World.block_lt_of_cell? w _ hx188_0)).trans hx188_0
          replace p188 := eq_true p188
          replace q188 := eq_true q188
          go_wp2
          go_roundg k2
          case measure => have := HK1.out; have := HK2.out; omega
          case rel => exact ⟨(x5_2), (wrap64 (x7_2 + 1)), (xQ), H', ⟨by have := HK1.out; have := HK2.out; omega⟩, ⟨xR HO_5.out⟩, ⟨xW HB.out⟩⟩
         ·rw [if_neg c14] at H
          have c14b0 : (Op.bytesLess ((rdOf ByteArray.empty l0 x7_2).toList) a1.toList) = false := by simpa using c14
          clear c14
          by_cases c15 : x5_2.length < 8796093022208
          ·rw [if_pos c15] at H
           have LMc15 := am c15
           clear c15
           obtain ⟨y190, hy190⟩ : ∃ y_ : List ByteArray, y_ = (x5_2 ++ [rdOf ByteArray.empty l0 x7_2]) := ⟨_, rfl⟩
           replace H : (spec_l04Insert.l1 k2 l0 a1 y190 (wrap64 (x7_2 + 1))) = some r := by first | (rw [hy190]; with_reducible exact H) | (have H2_ := (Option.bind_some _ _).symm.trans H; rw [hy190]; with_reducible exact H2_) | (have H2_ := (Option.bind_some _ _).symm.trans H; with_reducible exact H2_) | with_reducible exact H | (rw [hy190]; exact H) | exact H
           have Ny190 := am hy190
           clear hy190
           have H' := am H
           clear H
           have p188 : 0 ≤ (x7_2 : Int) := of_decide_eq_true (by assumption)
           have q188 : x7_2 < (l0.length : Int) := of_decide_eq_true (by assumption)
           obtain ⟨ad188, e188, hx188_0⟩ := Kd.at_string HR0.out x7_2 p188 q188
           cases e188
           replace hx188_0 := (HB.out.cell (World.block_lt_of_cell? w _ hx188_0)).trans hx188_0
           replace p188 := eq_true p188
           replace q188 := eq_true q188
           have p189 : 0 ≤ (x7_2 : Int) := of_decide_eq_true (by assumption)
           have q189 : x7_2 < (l0.length : Int) := of_decide_eq_true (by assumption)
           obtain ⟨ad189, e189, hx189_0⟩ := Kd.at_string HR0.out x7_2 p189 q189
           obtain rfl : ad188 = ad189 := (by injection e189)
           replace hx189_0 := (HB.out.cell (World.block_lt_of_cell? w _ hx189_0)).trans hx189_0
           replace p189 := eq_true p189
           replace q189 := eq_true q189
           go_wp2_with (first | ((with_reducible refine gate_builtin (b := .append) (xs := #[.tmp 44, .tmp 49]) rfl ?_); at_builtin; refine Kd.R_append Kd.string (w0 := w) w.heap.size rfl (.tmp 44) (.tmp 49) 35 9 (.string ⟨#[]⟩) 16 rfl Try.underlying35 info9 rfl (by decide) (by omega) u5 x5_2 (rdOf ByteArray.empty l0 x7_2) [.string (rdOf ByteArray.empty l0 x7_2)] (fun _ => True) (fun _ => False) rfl rfl ?aP (fun _ hk => hk.elim) ?aF ?aO ?aB ?aS ?aL ?_; (case aP => exact rfl); (case aB => exact (xW HB.out)); (case aF => exact (fun _ _ => trivial)); (case aO => exact (xR HO_5.out)); (case aS => exact (below_size (xW HB.out))); (case aL => have := LMc15.out; omega); intro v191 w16 ho hb hg hat; rw [← Ny190.out] at ho; have n0_ := am (hb); have n1_ := am (ho); clear HB; clear HO_5; have HB := n0_; have HO192 := n1_; clear n0_ n1_; clear ho hb hg hat))
           go_roundg k2
           case measure => have := HK1.out; have := HK2.out; omega
           case rel => exact ⟨(y190), (wrap64 (x7_2 + 1)), (xQ), H', ⟨by have := HK1.out; have := HK2.out; omega⟩, ⟨xR HO192.out⟩, ⟨xW HB.out⟩⟩
          ·rw [if_neg c15] at H
           exact absurd H (by simp)
        ·rw [if_neg c13] at H
         exact absurd H (by simp)
       ·rw [if_neg c12] at H
        have c12b0 : decide (x7_2 < (l0.length : Int)) = false := decide_eq_false c12
        clear c12
        obtain rfl := Option.some.inj H
        go_wp2
        go_ret
        exact ⟨_, xV, xR HO_5.out, xW HB.out⟩
    ·rw [if_neg c10] at H
     exact absurd H (by simp)
mutual
def spec_KeysOf.l0 : Nat → List ByteArray → Int → List (S57) → List (S57) → Int → Option (List ByteArray)
 | 0, _, _, _, _, _ => none
 | k + 1, x3, x4, x194000, x194001, x194002 => if x4 < (x194000.length : Int) then (if 0 ≤ x4 then (if ((rd_T57 x194000 x4).f0).toList = ([] : List UInt8) then (spec_KeysOf.l0 k x3 (wrap64 (x4 + 1)) x194000 x194001 x194002) else ((spec_l04Insert.f k x3 ((rd_T57 x194000 x4).f0)).bind fun t200 => (spec_KeysOf.l0 k t200 (wrap64 (x4 + 1)) x194000 x194001 x194002))) else (none)) else (spec_KeysOf.l1 k x3 0 x194000 x194001 x194002)
def spec_KeysOf.l1 : Nat → List ByteArray → Int → List (S57) → List (S57) → Int → Option (List ByteArray)
 | 0, _, _, _, _, _ => none
 | k + 1, x3, x5, x194000, x194001, x194002 => if x5 < (x194001.length : Int) then (if 0 ≤ x5 then (if ((rd_T57 x194001 x5).f0).toList = ([] : List UInt8) then (spec_KeysOf.l1 k x3 (wrap64 (x5 + 1)) x194000 x194001 x194002) else ((spec_l04Insert.f k x3 ((rd_T57 x194001 x5).f0)).bind fun t205 => (spec_KeysOf.l1 k t205 (wrap64 (x5 + 1)) x194000 x194001 x194002))) else (none)) else (some x3)
end
def spec_KeysOf.f (k : Nat) (l0_0 : List (S57)) (l0_1 : List (S57)) (a0_2 : Int) : Option (List ByteArray) := (some (([] : List ByteArray) : List ByteArray)).bind fun y194 => ((spec_TableOk.f k l0_0 l0_1 a0_2).bind fun t197 => (if t197 = true then (spec_KeysOf.l0 k y194 0 l0_0 l0_1 a0_2) else (some y194)))
set_option maxHeartbeats 8000000 in
set_option maxRecDepth 100000 in
theorem spec_KeysOf.calls (k : Nat) (A0_0 : Option Addr) (c0_0 : Nat) (l0_0 : List (S57)) (A0_1 : Option Addr) (c0_1 : Nat) (l0_1 : List (S57)) (a0_2 : Int) (r : List ByteArray) (w : World) (hr0_0 : Kd.C k57 w A0_0 l0_0.length l0_0) (hc0_0 : l0_0.length ≤ c0_0) (hr0_1 : Kd.C k57 w A0_1 l0_1.length l0_1) (hc0_1 : l0_1.length ≤ c0_1) (h : spec_KeysOf.f k l0_0 l0_1 a0_2 = some r) :
  Calls Try.prog 28 #[.agg #[.slice A0_0 l0_0.length c0_0, .slice A0_1 l0_1.length c0_1, .int .i64 a0_2]] w fun e w' => ∃ v0_ : Value, e = .returned (v0_) ∧ Kd.R Kd.string 9 w' w.heap.size (fun _ => True) v0_ r ∧ Below w.heap.size w w' := by
 have hu26 := Try.underlying26
 have HR0_0 := am hr0_0
 have HC0_0 := am hc0_0
 clear hr0_0 hc0_0
 have HR0_1 := am hr0_1
 have HC0_1 := am hc0_1
 clear hr0_1 hc0_1
 have HB := am (Below.refl w.heap.size w)
 have H : ((some (([] : List ByteArray) : List ByteArray)).bind fun y194 => ((spec_TableOk.f k l0_0 l0_1 a0_2).bind fun t197 => (if t197 = true then (spec_KeysOf.l0 k y194 0 l0_0 l0_1 a0_2) else (some y194)))) = some r := h
 clear h
 obtain ⟨y194, hy194⟩ : ∃ y_ : List ByteArray, y_ = (([] : List ByteArray)) := ⟨_, rfl⟩
 replace H : ((spec_TableOk.f k l0_0 l0_1 a0_2).bind fun t197 => (if t197 = true then (spec_KeysOf.l0 k y194 0 l0_0 l0_1 a0_2) else (some y194))) = some r := by first | (rw [hy194]; with_reducible exact H) | (have H2_ := (Option.bind_some _ _).symm.trans H; rw [hy194]; with_reducible exact H2_) | (have H2_ := (Option.bind_some _ _).symm.trans H; with_reducible exact H2_) | with_reducible exact H | (rw [hy194]; exact H) | exact H
 have Ny194 := am hy194
 clear hy194
 replace H := Option.bind_eq_some_iff.mp H
 obtain ⟨t197, A20, H⟩ := H
 replace H : (if t197 = true then (spec_KeysOf.l0 k y194 0 l0_0 l0_1 a0_2) else (some y194)) = some r := H
 have A2 := am A20
 clear A20
 by_cases c3 : t197 = true
 ·subst c3
  have H1 : (spec_KeysOf.l0 k y194 0 l0_0 l0_1 a0_2) = some r := by rw [if_pos rfl] at H; exact H
  clear H
  have H := H1
  clear H1
  have H' := am H
  clear H
  go_enter Try.func28, Try.ntmps28
  go_wp2_with (first | ((with_reducible refine gate_dst (N := 1) rfl ?_); refine xE (N := 1) (cs := #[.slice A0_0 l0_0.length c0_0, .slice A0_1 l0_1.length c0_1, .int .i64 a0_2]) (t := 26) (h := ?_); intro gb193 hg w4 hbox hb; have n0_ := am (below_step (xW HB.out) hb); have n1_ := am (hbox); have n2_ := am (xS hg HB.out); have n3_ := am (xS hg HB.out); clear HB; have HB := n0_; have BK193 := n1_; have GW193 := n2_; have GE193 := n3_; clear n0_ n1_ n2_ n3_; clear hb hbox hg) | ((with_reducible refine gate_dst (N := 6) rfl ?_); refine Kd.R_lit Kd.string _ 9 ?hg (N := 6) ?hd (xs := ([] : List ByteArray)) (inner := []) (ok := fun _ => True) (okp := fun _ => True) ?hr ?hp (fun _ hk => hk) trivial (Below.refl _ _) (Nat.le_refl _) (by simp) ?_; (case hd => rfl); (case hg => rfl); (case hr => first | (go_simp; done) | (go_simp; rfl)); (case hp => exact (Reps.none _ _)); intro v195 w5 ho6 hb hg_ hnew_; clear hg_ hnew_; (first | rw [← Ny194.out] at ho6 | (simp only [Int.reduceToNat] at ho6; rw [← Ny194.out] at ho6)); have n0_ := am (Kd.R_lower ho6 (below_size (xW HB.out))); have n1_ := am (blk_below (xB BK193.out) hb); have n2_ := am (below_step (xW HB.out) hb); clear BK193; clear HB; have HO196 := n0_; have BK193 := n1_; have HB := n2_; clear n0_ n1_ n2_; clear hb ho6; obtain ⟨hcz7_0, hcz7_1, hcz7_2, hfz7_0, hfz7_1, hfz7_2⟩ := xT3 (W := w5) BK193.out) | ((with_reducible refine gate_callee (f := 25) rfl ?_); refine xG (some 8) 25 Try.func25 #[.agg #[.slice A0_0 l0_0.length c0_0, .slice A0_1 l0_1.length c0_1, .int .i64 a0_2]] (h := ?_); (with_reducible refine (spec_TableOk.calls k _ _ l0_0 _ _ l0_1 a0_2 true _ ?side1 ?side2 ?side3 ?side4 A2.out).mono ?_); (case side1 => exact xC (Kd.C_below HR0_0.out HB.out)); (case side2 => exact HC0_0.out); (case side3 => exact xC (Kd.C_below HR0_1.out HB.out)); (case side4 => exact HC0_1.out); rintro e w8 ⟨rfl, hb⟩; refine ⟨_, rfl, ?_⟩; have n0_ := am (Kd.R_below (xR HO196.out) hb); have n1_ := am (blk_below (xB BK193.out) hb); have n2_ := am (below_step (xW HB.out) hb); clear HO196; clear BK193; clear HB; have HO196 := n0_; have BK193 := n1_; have HB := n2_; clear n0_ n1_ n2_; (try clear hb); (try clear hb2); (try clear hk); (try clear hi)))
  go_loopg [3, 4] k (fun kq v3 v4 w' => ∃ (x3_1 : List ByteArray) (x4_1 : Int), v4 = .int .i64 x4_1 ∧ Aside0 (spec_KeysOf.l0 kq x3_1 x4_1 l0_0 l0_1 a0_2 = some r) ∧ Aside0 (kq ≤ k) ∧ Aside0 (Kd.R Kd.string 9 w' w.heap.size (fun _ => True) v3 x3_1) ∧ Aside0 (w'.heap[gb193]? = some (.cells #[(.slice A0_0 l0_0.length c0_0), (.slice A0_1 l0_1.length c0_1), .int .i64 a0_2] 26 (0, 0))) ∧ Aside0 (Below w.heap.size w w'))
  case atStart => exact ⟨(y194), (0), (xQ), H', ⟨Nat.le_refl _⟩, ⟨xR HO196.out⟩, ⟨xB BK193.out⟩, ⟨xW HB.out⟩⟩
  case round =>
   clear H'
   try clear c2
   try clear p2
   try clear c3
   try clear hcz7_0
   try clear hcz7_1
   try clear hcz7_2
   try clear hfz7_0
   try clear hfz7_1
   try clear hfz7_2
   obtain ⟨x3_1, x4_1, rfl, HA, HK1, HO_3, BK193, HB⟩ := hrel
   cases gk with
   | zero => exact absurd HA.out (by simp [spec_KeysOf.l0])
   | succ k1 =>
    have H := HA.out
    clear HA
    simp only [spec_KeysOf.l0] at H
    by_cases c9 : x4_1 < (l0_0.length : Int)
    ·rw [if_pos c9] at H
     have c9b0 : decide (x4_1 < (l0_0.length : Int)) = true := decide_eq_true c9
     clear c9
     by_cases c10 : 0 ≤ x4_1
     ·rw [if_pos c10] at H
      have c10b0 : decide (0 ≤ x4_1) = true := decide_eq_true c10
      clear c10
      by_cases c11 : ((rd_T57 l0_0 x4_1).f0).toList = ([] : List UInt8)
      ·rw [if_pos c11] at H
       have c11b0 : (((rd_T57 l0_0 x4_1).f0).toList == ([] : List UInt8)) = true := beq_iff_eq.mpr c11
       have c11b1 : (((rd_T57 l0_0 x4_1).f0).toList != ([] : List UInt8)) = false := bne_eq_false_iff_eq.mpr c11
       clear c11
       have H' := am H
       clear H
       obtain ⟨hcz12_0, hcz12_1, hcz12_2, hfz12_0, hfz12_1, hfz12_2⟩ := xT3 (W := wr) BK193.out
       have p198 : 0 ≤ (x4_1 : Int) := of_decide_eq_true (by assumption)
       have q198 : x4_1 < (l0_0.length : Int) := of_decide_eq_true (by assumption)
       obtain ⟨ad198, e198, hx198_0, hx198_1⟩ := at_T57 HR0_0.out x4_1 p198 q198
       cases e198
       replace hx198_0 := (HB.out.cell (World.block_lt_of_cell? w _ hx198_0)).trans hx198_0
       replace hx198_1 := (HB.out.cell (World.block_lt_of_cell? w _ hx198_1)).trans hx198_1
       replace p198 := eq_true p198
       replace q198 := eq_true q198
       go_wp2
       go_roundg k1
       case measure => have := HK1.out; omega
       case rel => exact ⟨(x3_1), (wrap64 (x4_1 + 1)), (xQ), H', ⟨by have := HK1.out; omega⟩, ⟨xR HO_3.out⟩, ⟨xB BK193.out⟩, ⟨xW HB.out⟩⟩
      ·rw [if_neg c11] at H
       have c11b0 : (((rd_T57 l0_0 x4_1).f0).toList == ([] : List UInt8)) = false := beq_eq_false_iff_ne.mpr c11
       have c11b1 : (((rd_T57 l0_0 x4_1).f0).toList != ([] : List UInt8)) = true := bne_iff_ne.mpr c11
       replace H := Option.bind_eq_some_iff.mp H
       obtain ⟨t200, A130, H⟩ := H
       replace H : (spec_KeysOf.l0 k1 t200 (wrap64 (x4_1 + 1)) l0_0 l0_1 a0_2) = some r := H
       have A13 := am A130
       clear A130
       have H' := am H
       clear H
       obtain ⟨hcz14_0, hcz14_1, hcz14_2, hfz14_0, hfz14_1, hfz14_2⟩ := xT3 (W := wr) BK193.out
       have p198 : 0 ≤ (x4_1 : Int) := of_decide_eq_true (by assumption)
       have q198 : x4_1 < (l0_0.length : Int) := of_decide_eq_true (by assumption)
       obtain ⟨ad198, e198, hx198_0, hx198_1⟩ := at_T57 HR0_0.out x4_1 p198 q198
       cases e198
       replace hx198_0 := (HB.out.cell (World.block_lt_of_cell? w _ hx198_0)).trans hx198_0
       replace hx198_1 := (HB.out.cell (World.block_lt_of_cell? w _ hx198_1)).trans hx198_1
       replace p198 := eq_true p198
       replace q198 := eq_true q198
       have p199 : 0 ≤ (x4_1 : Int) := of_decide_eq_true (by assumption)
       have q199 : x4_1 < (l0_0.length : Int) := of_decide_eq_true (by assumption)
       obtain ⟨ad199, e199, hx199_0, hx199_1⟩ := at_T57 HR0_0.out x4_1 p199 q199
       obtain rfl : ad198 = ad199 := (by injection e199)
       replace hx199_0 := (HB.out.cell (World.block_lt_of_cell? w _ hx199_0)).trans hx199_0
       replace hx199_1 := (HB.out.cell (World.block_lt_of_cell? w _ hx199_1)).trans hx199_1
       replace p199 := eq_true p199
       replace q199 := eq_true q199
       obtain ⟨Ao15, co15, eo15⟩ := Kd.R_slice HO_3.out
       subst eo15
       go_wp2_with (first | ((with_reducible refine gate_callee (f := 66) rfl ?_); refine xG (some 32) 66 Try.func66 #[.slice Ao15 x3_1.length co15, .string ((rd_T57 l0_0 x4_1).f0)] (h := ?_); (with_reducible refine (spec_l04Insert.calls k1 _ _ x3_1 ((rd_T57 l0_0 x4_1).f0) t200 _ ?side1 ?side2 A13.out).mono ?_); (case side1 => exact xC ((Kd.R_reads' HO_3.out).2.2)); (case side2 => exact (Kd.R_reads' HO_3.out).2.1); rintro e w16 ⟨v201, rfl, ho0, hb⟩; refine ⟨_, rfl, ?_⟩; have n0_ := am (Kd.R_elder' (xR HO_3.out) (Kd.R_base ho0) hb); have n1_ := am (Kd.R_lower (Kd.R_new' ho0 (Kd.R_lt (xR HO_3.out))) (below_size (xW HB.out))); have n2_ := am (blk_below (xB BK193.out) hb); have n3_ := am (below_step (xW HB.out) hb); clear HO_3; clear BK193; clear HB; have HO_3 := n0_; have HO202 := n1_; have BK193 := n2_; have HB := n3_; clear n0_ n1_ n2_ n3_; (try clear hb); (try clear hb2); (try clear hk); (try clear hi); (try clear ho0)))
       go_roundg k1
       case measure => have := HK1.out; omega
       case rel => exact ⟨(t200), (wrap64 (x4_1 + 1)), (xQ), H', ⟨by have := HK1.out; omega⟩, ⟨Kd.R_mono (xR HO202.out) (fun _ hk => trivial)⟩, ⟨xB BK193.out⟩, ⟨xW HB.out⟩⟩
     ·rw [if_neg c10] at H
      exact absurd H (by simp)
    ·rw [if_neg c9] at H
     have c9b0 : decide (x4_1 < (l0_0.length : Int)) = false := decide_eq_false c9
     clear c9
     have H' := am H
     clear H
     obtain ⟨hcz17_0, hcz17_1, hcz17_2, hfz17_0, hfz17_1, hfz17_2⟩ := xT3 (W := wr) BK193.out
     go_wp2
     go_loopg [3, 5] k1 (fun kq v3 v5 w' => ∃ (x3_2 : List ByteArray) (x5_2 : Int), v5 = .int .i64 x5_2 ∧ Aside0 (spec_KeysOf.l1 kq x3_2 x5_2 l0_0 l0_1 a0_2 = some r) ∧ Aside0 (kq ≤ k1) ∧ Aside0 (Kd.R Kd.string 9 w' w.heap.size (fun _ => True) v3 x3_2) ∧ Aside0 (w'.heap[gb193]? = some (.cells #[(.slice A0_0 l0_0.length c0_0), (.slice A0_1 l0_1.length c0_1), .int .i64 a0_2] 26 (0, 0))) ∧ Aside0 (Below w.heap.size w w'))
     case atStart => exact ⟨(x3_1), (0), (xQ), H', ⟨Nat.le_refl _⟩, ⟨xR HO_3.out⟩, ⟨xB BK193.out⟩, ⟨xW HB.out⟩⟩
     case round =>
      clear H'
      try clear c1
      try clear p1
      try clear q1
      try clear hx1
      try clear c2
      try clear p2
      try clear c3
      try clear c6
      try clear p6
      try clear c9
      try clear c9b0
      try clear c10
      try clear c10b0
      try clear c11
      try clear c11b0
      try clear c11b1
      try clear hcz12_0
      try clear hcz12_1
      try clear hcz12_2
      try clear hcz14_0
      try clear hcz14_1
      try clear hcz14_2
      try clear hcz17_0
      try clear hcz17_1
      try clear hcz17_2
      try clear hcz7_0
      try clear hcz7_1
      try clear hcz7_2
      try clear hfz12_0
      try clear hfz12_1
      try clear hfz12_2
      try clear hfz14_0
      try clear hfz14_1
      try clear hfz14_2
      try clear hfz17_0
      try clear hfz17_1
      try clear hfz17_2
      try clear hfz7_0
      try clear hfz7_1
      try clear hfz7_2
      try clear hx198_0
      try clear hx198_1
      try clear hx199_0
      try clear hx199_1
      try clear p198
      try clear p199
      try clear p2
      try clear q198
      try clear q199
      obtain ⟨x3_2, x5_2, rfl, HA, HK2, HO_3, BK193, HB⟩ := hrel
      cases gk with
      | zero => exact absurd HA.out (by simp [spec_KeysOf.l1])
      | succ k2 =>
       have H := HA.out
       clear HA
       simp only [spec_KeysOf.l1] at H
       by_cases c18 : x5_2 < (l0_1.length : Int)
       ·rw [if_pos c18] at H
        have c18b0 : decide (x5_2 < (l0_1.length : Int)) = true := decide_eq_true c18
        clear c18
        by_cases c19 : 0 ≤ x5_2
        ·rw [if_pos c19] at H
         have c19b0 : decide (0 ≤ x5_2) = true := decide_eq_true c19
         clear c19
         by_cases c20 : ((rd_T57 l0_1 x5_2).f0).toList = ([] : List UInt8)
         ·rw [if_pos c20] at H
          have c20b0 : (((rd_T57 l0_1 x5_2).f0).toList == ([] : List UInt8)) = true := beq_iff_eq.mpr c20
          have c20b1 : (((rd_T57 l0_1 x5_2).f0).toList != ([] : List UInt8)) = false := bne_eq_false_iff_eq.mpr c20
          clear c20
          have H' := am H
          clear H
          obtain ⟨hcz21_0, hcz21_1, hcz21_2, hfz21_0, hfz21_1, hfz21_2⟩ := xT3 (W := wr) BK193.out
          have p203 : 0 ≤ (x5_2 : Int) := of_decide_eq_true (by assumption)
          have q203 : x5_2 < (l0_1.length : Int) := of_decide_eq_true (by assumption)
          obtain ⟨ad203, e203, hx203_0, hx203_1⟩ := at_T57 HR0_1.out x5_2 p203 q203
          cases e203
          replace hx203_0 := (HB.out.cell (World.block_lt_of_cell? w _ hx203_0)).trans hx203_0
          replace hx203_1 := (HB.out.cell (World.block_lt_of_cell? w _ hx203_1)).trans hx203_1
          replace p203 := eq_true p203
          replace q203 := eq_true q203
          go_wp2
          go_roundg k2
          case measure => have := HK1.out; have := HK2.out; omega
          case rel => exact ⟨(x3_2), (wrap64 (x5_2 + 1)), (xQ), H', ⟨by have := HK1.out; have := HK2.out; omega⟩, ⟨xR HO_3.out⟩, ⟨xB BK193.out⟩, ⟨xW HB.out⟩⟩
         ·rw [if_neg c20] at H
          have c20b0 : (((rd_T57 l0_1 x5_2).f0).toList == ([] : List UInt8)) = false := beq_eq_false_iff_ne.mpr c20
          have c20b1 : (((rd_T57 l0_1 x5_2).f0).toList != ([] : List UInt8)) = true := bne_iff_ne.mpr c20
          replace H := Option.bind_eq_some_iff.mp H
          obtain ⟨t205, A220, H⟩ := H
          replace H : (spec_KeysOf.l1 k2 t205 (wrap64 (x5_2 + 1)) l0_0 l0_1 a0_2) = some r := H
          have A22 := am A220
          clear A220
          have H' := am H
          clear H
          obtain ⟨hcz23_0, hcz23_1, hcz23_2, hfz23_0, hfz23_1, hfz23_2⟩ := xT3 (W := wr) BK193.out
          have p203 : 0 ≤ (x5_2 : Int) := of_decide_eq_true (by assumption)
          have q203 : x5_2 < (l0_1.length : Int) := of_decide_eq_true (by assumption)
          obtain ⟨ad203, e203, hx203_0, hx203_1⟩ := at_T57 HR0_1.out x5_2 p203 q203
          cases e203
          replace hx203_0 := (HB.out.cell (World.block_lt_of_cell? w _ hx203_0)).trans hx203_0
          replace hx203_1 := (HB.out.cell (World.block_lt_of_cell? w _ hx203_1)).trans hx203_1
          replace p203 := eq_true p203
          replace q203 := eq_true q203
          have p204 : 0 ≤ (x5_2 : Int) := of_decide_eq_true (by assumption)
          have q204 : x5_2 < (l0_1.length : Int) := of_decide_eq_true (by assumption)
          obtain ⟨ad204, e204, hx204_0, hx204_1⟩ := at_T57 HR0_1.out x5_2 p204 q204
          obtain rfl : ad203 = ad204 := (by injection e204)
          replace hx204_0 := (HB.out.cell (World.block_lt_of_cell? w _ hx204_0)).trans hx204_0
          replace hx204_1 := (HB.out.cell (World.block_lt_of_cell? w _ hx204_1)).trans hx204_1
          replace p204 := eq_true p204
          replace q204 := eq_true q204
          obtain ⟨Ao24, co24, eo24⟩ := Kd.R_slice HO_3.out
          subst eo24
          go_wp2_with (first | ((with_reducible refine gate_callee (f := 66) rfl ?_); refine xG (some 54) 66 Try.func66 #[.slice Ao24 x3_2.length co24, .string ((rd_T57 l0_1 x5_2).f0)] (h := ?_); (with_reducible refine (spec_l04Insert.calls k2 _ _ x3_2 ((rd_T57 l0_1 x5_2).f0) t205 _ ?side1 ?side2 A22.out).mono ?_); (case side1 => exact xC ((Kd.R_reads' HO_3.out).2.2)); (case side2 => exact (Kd.R_reads' HO_3.out).2.1); rintro e w25 ⟨v206, rfl, ho0, hb⟩; refine ⟨_, rfl, ?_⟩; have n0_ := am (Kd.R_elder' (xR HO_3.out) (Kd.R_base ho0) hb); have n1_ := am (Kd.R_lower (Kd.R_new' ho0 (Kd.R_lt (xR HO_3.out))) (below_size (xW HB.out))); have n2_ := am (blk_below (xB BK193.out) hb); have n3_ := am (below_step (xW HB.out) hb); clear HO_3; clear BK193; clear HB; have HO_3 := n0_; have HO207 := n1_; have BK193 := n2_; have HB := n3_; clear n0_ n1_ n2_ n3_; (try clear hb); (try clear hb2); (try clear hk); (try clear hi); (try clear ho0)))
          go_roundg k2
          case measure => have := HK1.out; have := HK2.out; omega
          case rel => exact ⟨(t205), (wrap64 (x5_2 + 1)), (xQ), H', ⟨by have := HK1.out; have := HK2.out; omega⟩, ⟨Kd.R_mono (xR HO207.out) (fun _ hk => trivial)⟩, ⟨xB BK193.out⟩, ⟨xW HB.out⟩⟩
        ·rw [if_neg c19] at H
         exact absurd H (by simp)
       ·rw [if_neg c18] at H
        have c18b0 : decide (x5_2 < (l0_1.length : Int)) = false := decide_eq_false c18
        clear c18
        obtain rfl := Option.some.inj H
        obtain ⟨hcz26_0, hcz26_1, hcz26_2, hfz26_0, hfz26_1, hfz26_2⟩ := xT3 (W := wr) BK193.out
        go_wp2
        go_ret
        exact ⟨_, xV, xR HO_3.out, xW HB.out⟩
 ·replace c3 := Bool.eq_false_iff.mpr c3
  subst c3
  have H1 : (some y194) = some r := by rw [if_neg (show ¬ (false = true) by decide)] at H; exact H
  clear H
  have H := H1
  clear H1
  obtain rfl := Option.some.inj H
  go_enter Try.func28, Try.ntmps28
  go_wp2_with (first | ((with_reducible refine gate_dst (N := 1) rfl ?_); refine xE (N := 1) (cs := #[.slice A0_0 l0_0.length c0_0, .slice A0_1 l0_1.length c0_1, .int .i64 a0_2]) (t := 26) (h := ?_); intro gb193 hg w27 hbox hb; have n0_ := am (below_step (xW HB.out) hb); have n1_ := am (hbox); have n2_ := am (xS hg HB.out); have n3_ := am (xS hg HB.out); clear HB; have HB := n0_; have BK193 := n1_; have GW193 := n2_; have GE193 := n3_; clear n0_ n1_ n2_ n3_; clear hb hbox hg) | ((with_reducible refine gate_dst (N := 6) rfl ?_); refine Kd.R_lit Kd.string _ 9 ?hg (N := 6) ?hd (xs := ([] : List ByteArray)) (inner := []) (ok := fun _ => True) (okp := fun _ => True) ?hr ?hp (fun _ hk => hk) trivial (Below.refl _ _) (Nat.le_refl _) (by simp) ?_; (case hd => rfl); (case hg => rfl); (case hr => first | (go_simp; done) | (go_simp; rfl)); (case hp => exact (Reps.none _ _)); intro v195 w28 ho29 hb hg_ hnew_; clear hg_ hnew_; (first | rw [← Ny194.out] at ho29 | (simp only [Int.reduceToNat] at ho29; rw [← Ny194.out] at ho29)); have n0_ := am (Kd.R_lower ho29 (below_size (xW HB.out))); have n1_ := am (blk_below (xB BK193.out) hb); have n2_ := am (below_step (xW HB.out) hb); clear BK193; clear HB; have HO196 := n0_; have BK193 := n1_; have HB := n2_; clear n0_ n1_ n2_; clear hb ho29; obtain ⟨hcz30_0, hcz30_1, hcz30_2, hfz30_0, hfz30_1, hfz30_2⟩ := xT3 (W := w28) BK193.out) | ((with_reducible refine gate_callee (f := 25) rfl ?_); refine xG (some 8) 25 Try.func25 #[.agg #[.slice A0_0 l0_0.length c0_0, .slice A0_1 l0_1.length c0_1, .int .i64 a0_2]] (h := ?_); (with_reducible refine (spec_TableOk.calls k _ _ l0_0 _ _ l0_1 a0_2 false _ ?side1 ?side2 ?side3 ?side4 A2.out).mono ?_); (case side1 => exact xC (Kd.C_below HR0_0.out HB.out)); (case side2 => exact HC0_0.out); (case side3 => exact xC (Kd.C_below HR0_1.out HB.out)); (case side4 => exact HC0_1.out); rintro e w31 ⟨rfl, hb⟩; refine ⟨_, rfl, ?_⟩; have n0_ := am (Kd.R_below (xR HO196.out) hb); have n1_ := am (blk_below (xB BK193.out) hb); have n2_ := am (below_step (xW HB.out) hb); clear HO196; clear BK193; clear HB; have HO196 := n0_; have BK193 := n1_; have HB := n2_; clear n0_ n1_ n2_; (try clear hb); (try clear hb2); (try clear hk); (try clear hi)))
  go_ret
  exact ⟨_, xV, xR HO196.out, xW HB.out⟩
end Go.Proofs.Ytmahoekbedgbcaa.HFnExactCleanTable
