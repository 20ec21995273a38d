/- What the row of the law needs of the printed and the plain texts. -/
import Derived.Test.YtmahoekbedgbcaaZfHX
import Derived.Test.YtmahoekbedgbcaaZfHFnGrowsx0
import Derived.Test.YtmahoekbedgbcaaZfHFnGrowsx2
import Derived.Test.YtmahoekbedgbcaaZfHFnGrowsx4
import Derived.Test.YtmahoekbedgbcaaZfHFnGrowsx5
namespace Go.Proofs.Ytmahoekbedgbcaa.HFnGrows
open Go.RowKit Go.Proofs.YtmahoekbedgbcaaW.PrintWords Go.Proofs.YtmahoekbedgbcaaW.PrintLast Go.Proofs.YtmahoekbedgbcaaW.PrintMore
attribute [local go_sem] max2_int min2_int max_two min_two max_three min_three max_four min_four
set_option linter.unusedVariables false
set_option linter.unusedSimpArgs false
def spec_GrowTable.f (k : Nat) (l0_0 : List (S57)) (l0_1 : List (S57)) (a0_2 : Int) : Option ((List (S57)) × (List (S57)) × Int × Bool) := (spec_TableOk.f k l0_0 l0_1 a0_2).bind fun t160 => (if t160 = true then (if (l0_1.length : Int) > 0 then (some (([] : List (S57)), ([] : List (S57)), 0, false)) else (if (wrap64 (2 * (l0_0.length : Int))) > 64 then (some (([] : List (S57)), ([] : List (S57)), 0, false)) else ((spec_l04Cells.f k (wrap64 (2 * (l0_0.length : Int)))).bind fun t161 => ((some (([] : List (S57)) : List (S57))).bind fun y164 => (if y164.length + l0_0.length < 5864062014805 then (some (t161, (y164 ++ l0_0), 0, true)) else (none)))))) else (some (([] : List (S57)), ([] : List (S57)), 0, false)))
def spec_GrowTable.T3 : Bool × List (List Nat × List Nat) := (true, [([], []), ([0], [0]), ([1], [1]), ([2], [2]), ([3], [3]), ([], []), ([], []), ([6], [6]), ([5, 7, 4], [5, 7]), ([4, 8], [4, 8]), ([9, 8, 0, 1, 2, 3, 4, 5, 6, 7, 8, 9], [9]), ([10, 0, 1, 2, 3, 4, 5, 6, 7, 8, 9, 10], [])])
def spec_GrowTable.B3 : List Nat := [0, 1, 3, 7, 15, 0, 0, 64, 255, 511, 1023, 2047]
theorem spec_GrowTable.tab3 : rtab .any (opsOf Try.f36 3) = spec_GrowTable.T3 := by kernel_rfl
theorem spec_GrowTable.bits3 : waitsOk spec_GrowTable.T3.2 spec_GrowTable.B3 = true := by kernel_rfl
set_option maxHeartbeats 8000000 in
set_option maxRecDepth 100000 in
theorem spec_GrowTable.calls (k : Nat) (A0_0 : Option Addr) (c0_0 : Nat) (l0_0 : List (S57)) (A0_1 : Option Addr) (c0_1 : Nat) (l0_1 : List (S57)) (a0_2 : Int) (r1 : List (S57)) (r2 : List (S57)) (r3 : Int) (r4 : Bool) (w : World) (hr0_0 : Kd.C k57 w A0_0 l0_0.length l0_0) (hc0_0 : l0_0.length ≤ c0_0) (hr0_1 : Kd.C k57 w A0_1 l0_1.length l0_1) (hc0_1 : l0_1.length ≤ c0_1) (h : spec_GrowTable.f k l0_0 l0_1 a0_2 = some (r1, r2, r3, r4)) :
  Calls Try.prog 36 #[.agg #[.slice A0_0 l0_0.length c0_0, .slice A0_1 l0_1.length c0_1, .int .i64 a0_2]] w fun e w' => ∃ v0_ v1_ : Value, e = .returned (.tuple #[.agg #[v0_, v1_, .int .i64 r3], .bool r4]) ∧ Kd.R k57 57 w' w.heap.size (fun k_ => some k_ ≠ (v1_ : Value).ownBlock) v0_ r1 ∧ Kd.R k57 57 w' w.heap.size (fun k_ => some k_ ≠ (v0_ : Value).ownBlock) v1_ r2 ∧ Below w.heap.size w w' := by
 have hu26 := Try.underlying26
 have HR0_0 := am hr0_0
 have HC0_0 := am hc0_0
 clear hr0_0 hc0_0
 have HR0_1 := am hr0_1
 have HC0_1 := am hc0_1
 clear hr0_1 hc0_1
 have HB := am (Below.refl w.heap.size w)
 have H : ((spec_TableOk.f k l0_0 l0_1 a0_2).bind fun t160 => (if t160 = true then (if (l0_1.length : Int) > 0 then (some (([] : List (S57)), ([] : List (S57)), 0, false)) else (if (wrap64 (2 * (l0_0.length : Int))) > 64 then (some (([] : List (S57)), ([] : List (S57)), 0, false)) else ((spec_l04Cells.f k (wrap64 (2 * (l0_0.length : Int)))).bind fun t161 => ((some (([] : List (S57)) : List (S57))).bind fun y164 => (if y164.length + l0_0.length < 5864062014805 then (some (t161, (y164 ++ l0_0), 0, true)) else (none)))))) else (some (([] : List (S57)), ([] : List (S57)), 0, false)))) = some (r1, r2, r3, r4) := h
 clear h
 replace H := Option.bind_eq_some_iff.mp H
 obtain ⟨t160, A20, H⟩ := H
 try dsimp only at H
 have A2 := am A20
 clear A20
 by_cases c3 : t160 = true
 ·subst c3
  have H1 : (if (l0_1.length : Int) > 0 then (some (([] : List (S57)), ([] : List (S57)), 0, false)) else (if (wrap64 (2 * (l0_0.length : Int))) > 64 then (some (([] : List (S57)), ([] : List (S57)), 0, false)) else ((spec_l04Cells.f k (wrap64 (2 * (l0_0.length : Int)))).bind fun t161 => ((some (([] : List (S57)) : List (S57))).bind fun y164 => (if y164.length + l0_0.length < 5864062014805 then (some (t161, (y164 ++ l0_0), 0, true)) else (none)))))) = some (r1, r2, r3, r4) := by rw [if_pos rfl] at H; exact H
  clear H
  have H := H1
  clear H1
  by_cases c4 : (l0_1.length : Int) > 0
  ·rw [if_pos c4] at H
   have c4b0 : decide (0 < (l0_1.length : Int)) = true := decide_eq_true c4
   have c4b1 : decide (0 < l0_1.length) = true := decide_eq_true (by omega)
   clear c4
   simp only [Option.some.injEq, Prod.mk.injEq] at H
   obtain ⟨rfl, rfl, rfl, rfl⟩ := H
   go_enter Try.func36, Try.ntmps36
   go_wp2_with (first | ((with_reducible refine gate_dst (N := 1) rfl ?_); (try (refine gate_guard (by rfl) ?_; dsimp only)); refine xE (N := 1) (cs := #[.slice A0_0 l0_0.length c0_0, .slice A0_1 l0_1.length c0_1, .int .i64 a0_2]) (t := 26) (h := ?_); intro gb158 hg w5 hbox hb; have BK158 := am (hbox); have GW158 := am (xS hg HB.out); have GE158 := am (xS hg HB.out); replace HB := am (below_step (xW HB.out) hb); clear hb hbox hg) | ((with_reducible refine gate_dst (N := 2) rfl ?_); (try (refine gate_guard (by rfl) ?_; dsimp only)); refine xE (N := 2) (cs := #[.slice none 0 0, .slice none 0 0, .int .i64 0]) (t := 26) (h := ?_); intro gb159 hg w6 hbox hb; have BK159 := am (hbox); have GW159 := am (xS hg HB.out); have GE159 := am (xS hg HB.out); replace HB := am (below_step (xW HB.out) hb); have NB158_159 := am (xN hg BK158.out); have NB159_158 := am (xM hg BK158.out); replace BK158 := am (blk_below (xB BK158.out) hb); clear hb hbox hg; have hnb7 := NB158_159.out; have hnc7 := NB159_158.out; obtain ⟨hcz8_0, hcz8_1, hcz8_2, hfz8_0, hfz8_1, hfz8_2⟩ := xT3 (W := w6) BK158.out) | ((with_reducible refine gate_callee (f := 25) rfl ?_); refine xG (some 5) 25 Try.func25 #[.agg #[.slice A0_0 l0_0.length c0_0, .slice A0_1 l0_1.length c0_1, .int .i64 a0_2]] (h := ?_); (with_reducible refine (spec_TableOk.calls k _ _ l0_0 _ _ l0_1 a0_2 true _ ?side1 ?side2 ?side3 ?side4 A2.out).mono ?_); (case side1 => exact xC (Kd.C_below HR0_0.out HB.out)); (case side2 => exact HC0_0.out); (case side3 => exact xC (Kd.C_below HR0_1.out HB.out)); (case side4 => exact HC0_1.out); rintro e w9 ⟨rfl, hb⟩; refine ⟨_, rfl, ?_⟩; replace BK158 := am (blk_below (xB BK158.out) hb); replace BK159 := am (blk_below (xB BK159.out) hb); replace HB := am (below_step (xW HB.out) hb); (try clear hb); obtain ⟨hcz10_0, hcz10_1, hcz10_2, hfz10_0, hfz10_1, hfz10_2⟩ := xT3 (W := w9) BK158.out; obtain ⟨hcz11_0, hcz11_1, hcz11_2, hfz11_0, hfz11_1, hfz11_2⟩ := xT3 (W := w9) BK159.out))
   refine bodyPost_ret (results_ct rfl _ _ gb159 26 #[.slice none 0 0, .slice none 0 0, .int .i64 0] (0, 0) _ rfl (xP BK159.out) Try.underlying26 rfl (by kernel_rfl)) rfl ?_
   exact ⟨_, _, xV, by first | exact Kd.R_nil _ _ _ _ _ | exact Kd.N_nil _ _ _ _ _ | exact Kd.V_nil _ _ _ _ _ | exact Kd.Q_nil _ _ _ _ _ | exact Kd.S_nil _ _ _ _ _, by first | exact Kd.R_nil _ _ _ _ _ | exact Kd.N_nil _ _ _ _ _ | exact Kd.V_nil _ _ _ _ _ | exact Kd.Q_nil _ _ _ _ _ | exact Kd.S_nil _ _ _ _ _, xW HB.out⟩
  ·rw [if_neg c4] at H
   have c4b0 : decide (0 < (l0_1.length : Int)) = false := decide_eq_false c4
   have c4b1 : decide (0 < l0_1.length) = false := decide_eq_false (by omega)
   clear c4
   by_cases c12 : (wrap64 (2 * (l0_0.length : Int))) > 64
   ·rw [if_pos c12] at H
    have c12b0 : decide (64 < (wrap64 (2 * (l0_0.length : Int)))) = true := decide_eq_true c12
    clear c12
    simp only [Option.some.injEq, Prod.mk.injEq] at H
    obtain ⟨rfl, rfl, rfl, rfl⟩ := H
    go_enter Try.func36, Try.ntmps36
    go_wp2_with (first | ((with_reducible refine gate_dst (N := 1) rfl ?_); (try (refine gate_guard (by rfl) ?_; dsimp only)); refine xE (N := 1) (cs := #[.slice A0_0 l0_0.length c0_0, .slice A0_1 l0_1.length c0_1, .int .i64 a0_2]) (t := 26) (h := ?_); intro gb158 hg w13 hbox hb; have BK158 := am (hbox); have GW158 := am (xS hg HB.out); have GE158 := am (xS hg HB.out); replace HB := am (below_step (xW HB.out) hb); clear hb hbox hg) | ((with_reducible refine gate_dst (N := 2) rfl ?_); (try (refine gate_guard (by rfl) ?_; dsimp only)); refine xE (N := 2) (cs := #[.slice none 0 0, .slice none 0 0, .int .i64 0]) (t := 26) (h := ?_); intro gb159 hg w14 hbox hb; have BK159 := am (hbox); have GW159 := am (xS hg HB.out); have GE159 := am (xS hg HB.out); replace HB := am (below_step (xW HB.out) hb); have NB158_159 := am (xN hg BK158.out); have NB159_158 := am (xM hg BK158.out); replace BK158 := am (blk_below (xB BK158.out) hb); clear hb hbox hg; have hnb15 := NB158_159.out; have hnc15 := NB159_158.out; obtain ⟨hcz16_0, hcz16_1, hcz16_2, hfz16_0, hfz16_1, hfz16_2⟩ := xT3 (W := w14) BK158.out) | ((with_reducible refine gate_callee (f := 25) rfl ?_); refine xG (some 5) 25 Try.func25 #[.agg #[.slice A0_0 l0_0.length c0_0, .slice A0_1 l0_1.length c0_1, .int .i64 a0_2]] (h := ?_); (with_reducible refine (spec_TableOk.calls k _ _ l0_0 _ _ l0_1 a0_2 true _ ?side1 ?side2 ?side3 ?side4 A2.out).mono ?_); (case side1 => exact xC (Kd.C_below HR0_0.out HB.out)); (case side2 => exact HC0_0.out); (case side3 => exact xC (Kd.C_below HR0_1.out HB.out)); (case side4 => exact HC0_1.out); rintro e w17 ⟨rfl, hb⟩; refine ⟨_, rfl, ?_⟩; replace BK158 := am (blk_below (xB BK158.out) hb); replace BK159 := am (blk_below (xB BK159.out) hb); replace HB := am (below_step (xW HB.out) hb); (try clear hb); obtain ⟨hcz18_0, hcz18_1, hcz18_2, hfz18_0, hfz18_1, hfz18_2⟩ := xT3 (W := w17) BK158.out; obtain ⟨hcz19_0, hcz19_1, hcz19_2, hfz19_0, hfz19_1, hfz19_2⟩ := xT3 (W := w17) BK159.out))
    refine bodyPost_ret (results_ct rfl _ _ gb159 26 #[.slice none 0 0, .slice none 0 0, .int .i64 0] (0, 0) _ rfl (xP BK159.out) Try.underlying26 rfl (by kernel_rfl)) rfl ?_
    exact ⟨_, _, xV, by first | exact Kd.R_nil _ _ _ _ _ | exact Kd.N_nil _ _ _ _ _ | exact Kd.V_nil _ _ _ _ _ | exact Kd.Q_nil _ _ _ _ _ | exact Kd.S_nil _ _ _ _ _, by first | exact Kd.R_nil _ _ _ _ _ | exact Kd.N_nil _ _ _ _ _ | exact Kd.V_nil _ _ _ _ _ | exact Kd.Q_nil _ _ _ _ _ | exact Kd.S_nil _ _ _ _ _, xW HB.out⟩
   ·rw [if_neg c12] at H
    have c12b0 : decide (64 < (wrap64 (2 * (l0_0.length : Int)))) = false := decide_eq_false c12
    clear c12
    replace H := Option.bind_eq_some_iff.mp H
    obtain ⟨t161, A200, H⟩ := H
    try dsimp only at H
    have A20 := am A200
    clear A200
    obtain ⟨y164, hy164⟩ : ∃ y_ : List (S57), y_ = (([] : List (S57))) := ⟨_, rfl⟩
    replace H : (if y164.length + l0_0.length < 5864062014805 then (some (t161, (y164 ++ l0_0), 0, true)) else (none)) = some (r1, r2, r3, r4) := by first | (rw [hy164]; with_reducible exact H) | (have H2_ := (Option.bind_some _ _).symm.trans H; rw [hy164]; with_reducible exact H2_) | (have H2_ := (Option.bind_some _ _).symm.trans H; with_reducible exact H2_) | with_reducible exact H | (rw [hy164]; exact H) | exact H
    have Ny164 := am hy164
    clear hy164
    by_cases c21 : y164.length + l0_0.length < 5864062014805
    ·rw [if_pos c21] at H
     have LMc21 := am c21
     clear c21
     obtain ⟨y167, hy167⟩ : ∃ y_ : List (S57), y_ = (y164 ++ l0_0) := ⟨_, rfl⟩
     replace H : (some (t161, y167, 0, true)) = some (r1, r2, r3, r4) := by first | (rw [hy167]; with_reducible exact H) | (have H2_ := (Option.bind_some _ _).symm.trans H; rw [hy167]; with_reducible exact H2_) | (have H2_ := (Option.bind_some _ _).symm.trans H; with_reducible exact H2_) | with_reducible exact H | (rw [hy167]; exact H) | exact H
     have Ny167 := am hy167
     clear hy167
     simp only [Option.some.injEq, Prod.mk.injEq] at H
     obtain ⟨rfl, rfl, rfl, rfl⟩ := H
     go_enter Try.func36, Try.ntmps36
     try go_wp2_with (first | ((with_reducible refine gate_dst (N := 1) rfl ?_); (try (refine gate_guard (by rfl) ?_; dsimp only)); refine xE (N := 1) (cs := #[.slice A0_0 l0_0.length c0_0, .slice A0_1 l0_1.length c0_1, .int .i64 a0_2]) (t := 26) (h := ?_); intro gb158 hg w22 hbox hb; have BK158 := am (hbox); have GW158 := am (xS hg HB.out); have GE158 := am (xS hg HB.out); replace HB := am (below_step (xW HB.out) hb); clear hb hbox hg) | ((with_reducible refine gate_dst (N := 2) rfl ?_); (try (refine gate_guard (by rfl) ?_; dsimp only)); refine xE (N := 2) (cs := #[.slice none 0 0, .slice none 0 0, .int .i64 0]) (t := 26) (h := ?_); intro gb159 hg w23 hbox hb; have BK159 := am (hbox); have GW159 := am (xS hg HB.out); have GE159 := am (xS hg HB.out); replace HB := am (below_step (xW HB.out) hb); have NB158_159 := am (xN hg BK158.out); have NB159_158 := am (xM hg BK158.out); replace BK158 := am (blk_below (xB BK158.out) hb); clear hb hbox hg; have hnb24 := NB158_159.out; have hnc24 := NB159_158.out; obtain ⟨hcz25_0, hcz25_1, hcz25_2, hfz25_0, hfz25_1, hfz25_2⟩ := xT3 (W := w23) BK158.out) | ((with_reducible refine gate_callee (f := 25) rfl ?_); refine xG (some 5) 25 Try.func25 #[.agg #[.slice A0_0 l0_0.length c0_0, .slice A0_1 l0_1.length c0_1, .int .i64 a0_2]] (h := ?_); (with_reducible refine (spec_TableOk.calls k _ _ l0_0 _ _ l0_1 a0_2 true _ ?side1 ?side2 ?side3 ?side4 A2.out).mono ?_); (case side1 => exact xC (Kd.C_below HR0_0.out HB.out)); (case side2 => exact HC0_0.out); (case side3 => exact xC (Kd.C_below HR0_1.out HB.out)); (case side4 => exact HC0_1.out); rintro e w26 ⟨rfl, hb⟩; refine ⟨_, rfl, ?_⟩; replace BK158 := am (blk_below (xB BK158.out) hb); replace BK159 := am (blk_below (xB BK159.out) hb); replace HB := am (below_step (xW HB.out) hb); (try clear hb); obtain ⟨hcz27_0, hcz27_1, hcz27_2, hfz27_0, hfz27_1, hfz27_2⟩ := xT3 (W := w26) BK158.out))
     replace BK158 := am (blk_drew BK158.out)
     replace BK159 := am (blk_drew BK159.out)
     replace HB := am (below_drew1 HB.out)
     refine start_ (n := 12) (S := fun w' => w'.cell? ⟨gb158, 0, none⟩ = some (.slice A0_0 l0_0.length c0_0) ∧ w'.cell? ⟨gb158, 1, none⟩ = some (.slice A0_1 l0_1.length c0_1) ∧ w'.cell? ⟨gb158, 2, none⟩ = some (.int .i64 a0_2)) (ds := []) #[false, false, false, false, false, false, false, false, false, false, false, false] (by kernel_rfl) rfl rfl (xC3 BK158.out) (fun hHeld => ?_); refine with_tabW spec_GrowTable.tab3 spec_GrowTable.bits3 (fun HT_ HW_ => ?_)
     generalize w26.drew = w28 at BK158 BK159 HB hHeld ⊢
     refine xP1 (i := 0) (N := some 21) #[true, false, false, false, false, false, false, false, false, false, false, false] (any_of HT_.out (by kernel_rfl)) (h := ?_)
     refine xP1 (i := 6) (N := some 27) #[true, false, false, false, false, false, true, false, false, false, false, false] (any_of HT_.out (by kernel_rfl)) (h := ?_)
     refine take_ (i := 1) (N := some 22) (v := ?_) (a' := ?_) #[true, true, false, false, false, false, true, false, false, false, false, false] rfl rfl (take_ofW HT_.out HW_.out (by kernel_rfl)) (fun _ _ _ h => h) (Or.inl ⟨by rfl, ?_⟩) hHeld ?_ ?_
     rotate_left
     ·rintro w' ⟨s0, s1, s2⟩
      go_simp
      with_reducible rfl
     rotate_left
     ·simp only [Act.put, List.setIfInBounds_toArray, List.set_cons_zero, List.set_cons_succ, i64_w, i32_w]
      rfl
     refine xP1 (i := 2) (N := some 23) #[true, true, true, false, false, false, true, false, false, false, false, false] (any_of HT_.out (by kernel_rfl)) (h := ?_)
     refine xP1 (i := 3) (N := some 24) #[true, true, true, true, false, false, true, false, false, false, false, false] (any_of HT_.out (by kernel_rfl)) (h := ?_)
     refine take_ (i := 7) (N := some 28) (v := ?_) (a' := ?_) #[true, true, true, true, false, false, true, true, false, false, false, false] rfl rfl (take_ofW HT_.out HW_.out (by kernel_rfl)) (fun _ _ _ h => h) (Or.inl ⟨by rfl, ?_⟩) hHeld ?_ ?_
     rotate_left
     ·rintro w' ⟨s0, s1, s2⟩
      go_simp
      with_reducible rfl
     rotate_left
     ·simp only [Act.put, List.setIfInBounds_toArray, List.set_cons_zero, List.set_cons_succ, i64_w, i32_w]
      rfl
     refine join_ (σ := Value × Value) 4 #[true, true, true, true, true, true, true, true, false, false, false, false] (fun s_ => [(25, s_.1), (26, s_.2)]) (fun s_ w' => (w'.cell? ⟨gb158, 0, none⟩ = some (.slice A0_0 l0_0.length c0_0) ∧ w'.cell? ⟨gb158, 1, none⟩ = some (.slice A0_1 l0_1.length c0_1) ∧ w'.cell? ⟨gb158, 2, none⟩ = some (.int .i64 a0_2)) ∧ (Kd.R k57 57 w' w.heap.size (fun k_ => some k_ ≠ (s_.2 : Value).ownBlock) s_.1 t161) ∧ (Kd.R k57 57 w' w.heap.size (fun k_ => some k_ ≠ (s_.1 : Value).ownBlock) s_.2 y164) ∧ (w'.heap[gb158]? = some (.cells #[.slice A0_0 l0_0.length c0_0, .slice A0_1 l0_1.length c0_1, .int .i64 a0_2] 26 (0, 0))) ∧ (w'.heap[gb159]? = some (.cells #[.slice none 0 0, .slice none 0 0, .int .i64 0] 26 (0, 0))) ∧ (Below w.heap.size w w')) ?_ ?_
     rotate_left
     ·intro hCont
      refine two_ (i := 4) (j := 5) (Ni := some 25) (Nj := some 26) #[true, true, true, true, true, false, true, true, false, false, false, false] #[true, true, true, true, false, true, true, true, false, false, false, false] rfl rfl rfl rfl (two_of HT_.out (by kernel_rfl)) (by decide) (by decide) (fun K hK => ?_) (fun K hK => ?_)
      ·skip
       refine xG1 72 Try.func72 #[.int .i64 (wrap64 (2 * (l0_0.length : Int)))] (h := ?_)
       with_reducible refine (spec_l04Cells.calls k (wrap64 (2 * (l0_0.length : Int))) t161 _ A20.out).mono ?_
       rintro e w29 ⟨v162, rfl, ho0, hb⟩
       refine ⟨_, rfl, ?_⟩
       have HO163 := am (Kd.R_lower ho0 (below_size (xW HB.out)))
       replace BK158 := am (blk_below (xB BK158.out) hb)
       replace BK159 := am (blk_below (xB BK159.out) hb)
       replace HB := am (below_step (xW HB.out) hb)
       (try clear hb)
       (try clear ho0)
       refine hK.out _ _ (xC3 BK158.out) (fun hHeld => ?_)
       clear hK K
       refine xN1 (h := ?_)
       refine one_ (i := 5) (N := some 26) #[true, true, true, true, true, true, true, true, false, false, false, false] rfl rfl (one_of HT_.out (by kernel_rfl)) (by decide) (fun K hK => ?_)
       refine Kd.R_lit_step k57 _ 57 ?hg (N := 26) ?hd (xs := ([] : List (S57))) (inner := []) (ok := fun _ => True) (okp := fun _ => True) ?hr ?hp (fun _ hk => hk) trivial (Below.refl _ _) (Nat.le_refl _) (by simp) ?_; (case hd => rfl); (case hg => rfl); (case hr => first | (go_simp; done) | (go_simp; rfl)); (case hp => exact (Reps.none _ _))
       intro v165 w30 ho31 hb hg_ hnew_
       clear hg_ hnew_
       (first | rw [← Ny164.out] at ho31 | (simp only [Int.reduceToNat] at ho31; rw [← Ny164.out] at ho31))
       have HO166 := am (Kd.R_lower (Kd.R_new' ho31 (Kd.R_lt (xR HO163.out))) (below_size (xW HB.out)))
       replace HO163 := am (Kd.R_elder' (xR HO163.out) (Kd.R_base ho31) hb)
       replace BK158 := am (blk_below (xB BK158.out) hb)
       replace BK159 := am (blk_below (xB BK159.out) hb)
       replace HB := am (below_step (xW HB.out) hb)
       clear hb ho31
       refine hK.out _ _ (xC3 BK158.out) (fun hHeld => ?_)
       clear hK K
       refine xN1 (h := ?_)
       exact xN2 (hCont (v162, v165) _ ⟨hHeld, (Kd.R_mono (xR HO163.out) (fun _ hk => hk.2)), (Kd.R_mono (xR HO166.out) (fun _ hk => hk.2)), (xB BK158.out), (xB BK159.out), (xW HB.out)⟩)
      ·skip
       refine Kd.R_lit_step k57 _ 57 ?hg (N := 26) ?hd (xs := ([] : List (S57))) (inner := []) (ok := fun _ => True) (okp := fun _ => True) ?hr ?hp (fun _ hk => hk) trivial (Below.refl _ _) (Nat.le_refl _) (by simp) ?_; (case hd => rfl); (case hg => rfl); (case hr => first | (go_simp; done) | (go_simp; rfl)); (case hp => exact (Reps.none _ _))
       intro v165 w29 ho30 hb hg_ hnew_
       clear hg_ hnew_
       (first | rw [← Ny164.out] at ho30 | (simp only [Int.reduceToNat] at ho30; rw [← Ny164.out] at ho30))
       have HO166 := am (Kd.R_lower ho30 (below_size (xW HB.out)))
       replace BK158 := am (blk_below (xB BK158.out) hb)
       replace BK159 := am (blk_below (xB BK159.out) hb)
       replace HB := am (below_step (xW HB.out) hb)
       clear hb ho30
       refine hK.out _ _ (xC3 BK158.out) (fun hHeld => ?_)
       clear hK K
       refine xN1 (h := ?_)
       refine one_ (i := 4) (N := some 25) #[true, true, true, true, true, true, true, true, false, false, false, false] rfl rfl (one_of HT_.out (by kernel_rfl)) (by decide) (fun K hK => ?_)
       refine xG1 72 Try.func72 #[.int .i64 (wrap64 (2 * (l0_0.length : Int)))] (h := ?_)
       with_reducible refine (spec_l04Cells.calls k (wrap64 (2 * (l0_0.length : Int))) t161 _ A20.out).mono ?_
       rintro e w31 ⟨v162, rfl, ho0, hb⟩
       refine ⟨_, rfl, ?_⟩
       have HO163 := am (Kd.R_lower (Kd.R_new' ho0 (Kd.R_lt (xR HO166.out))) (below_size (xW HB.out)))
       replace HO166 := am (Kd.R_elder' (xR HO166.out) (Kd.R_base ho0) hb)
       replace BK158 := am (blk_below (xB BK158.out) hb)
       replace BK159 := am (blk_below (xB BK159.out) hb)
       replace HB := am (below_step (xW HB.out) hb)
       (try clear hb)
       (try clear ho0)
       refine hK.out _ _ (xC3 BK158.out) (fun hHeld => ?_)
       clear hK K
       refine xN1 (h := ?_)
       exact xN2 (hCont (v162, v165) _ ⟨hHeld, (Kd.R_mono (xR HO163.out) (fun _ hk => hk.2)), (Kd.R_mono (xR HO166.out) (fun _ hk => hk.2)), (xB BK158.out), (xB BK159.out), (xW HB.out)⟩)
     rintro ⟨v162, v165⟩ w32 ⟨hS_, h0_, h1_, h2_, h3_, h4_⟩
     have n0_ : Aside0 (Kd.R k57 57 w32 w.heap.size (fun k_ => some k_ ≠ (v165 : Value).ownBlock) v162 t161) := ⟨h0_⟩
     have n1_ : Aside0 (Kd.R k57 57 w32 w.heap.size (fun k_ => some k_ ≠ (v162 : Value).ownBlock) v165 y164) := ⟨h1_⟩
     have n2_ : Aside0 (w32.heap[gb158]? = some (.cells #[.slice A0_0 l0_0.length c0_0, .slice A0_1 l0_1.length c0_1, .int .i64 a0_2] 26 (0, 0))) := ⟨h2_⟩
     have n3_ : Aside0 (w32.heap[gb159]? = some (.cells #[.slice none 0 0, .slice none 0 0, .int .i64 0] 26 (0, 0))) := ⟨h3_⟩
     have n4_ : Aside0 (Below w.heap.size w w32) := ⟨h4_⟩
     clear BK158
     clear BK159
     clear HB
     clear h0_ h1_ h2_ h3_ h4_
     have HO163 := n0_
     have HO166 := n1_
     have BK158 := n2_
     have BK159 := n3_
     have HB := n4_
     clear n0_ n1_ n2_ n3_ n4_
     have hHeld : w32.cell? ⟨gb158, 0, none⟩ = some (.slice A0_0 l0_0.length c0_0) ∧ w32.cell? ⟨gb158, 1, none⟩ = some (.slice A0_1 l0_1.length c0_1) ∧ w32.cell? ⟨gb158, 2, none⟩ = some (.int .i64 a0_2) := hS_
     refine norm_ (a' := ?_) ?_ ?_
     rotate_left
     ·simp only [putAll, Act.put, List.setIfInBounds_toArray, List.set_cons_zero, List.set_cons_succ]
      rfl
     refine one_ (i := 8) (N := some 29) #[true, true, true, true, true, true, true, true, true, false, false, false] rfl rfl (one_of HT_.out (by kernel_rfl)) (by decide) (fun K hK => ?_)
     refine Kd.R_append_rows_step k57 (w0 := w) w.heap.size (by rfl) (.tmp 26) (.tmp 28) 24 57 (.agg #[(.string ⟨#[]⟩), (.int .i64 0)]) 24 rfl Try.underlying24 info57 rfl (by decide) (by omega) v165 y164 l0_0 _ _ _ (fun k_ => some k_ ≠ (v162 : Value).ownBlock) (fun _ => False) rfl rfl ?aO ?aR (fun _ _ h => h) (fun _ h => h.elim) ?aF ?aB ?aS ?aL ?_
     (case aR => repeat (first | exact (Kd.C_below HR0_0.out HB.out) | (with_reducible refine Kd.C_alloc ?_ _) | (with_reducible refine Kd.C_drewN ?_ _) | (with_reducible refine Kd.C_drew ?_)))
     (case aB => exact (xW HB.out))
     (case aF => exact (fun k_ hk => Kd.fresh' (Kd.R_lt (xR HO163.out)) k_ hk))
     (case aO => exact (xR HO166.out))
     (case aS => exact (below_size (xW HB.out)))
     (case aL => have := LMc21.out; omega)
     intro v168 w33 ho hb hg hat
     rw [← Ny167.out] at ho
     replace BK158 := am (blk_grown (g := gb158) (o := .cells #[.slice A0_0 l0_0.length c0_0, .slice A0_1 l0_1.length c0_1, .int .i64 a0_2] 26 (0, 0)) (xB BK158.out) hg (Kd.R_ne HO166.out BK158.out (by decide)))
     replace BK159 := am (blk_grown (g := gb159) (o := .cells #[.slice none 0 0, .slice none 0 0, .int .i64 0] 26 (0, 0)) (xB BK159.out) hg (Kd.R_ne HO166.out BK159.out (by decide)))
     replace HO163 := am (Kd.R_after (ok := (fun _ => True)) (Kd.R_mono (xR HO163.out) (fun _ hk => ⟨trivial, hk⟩)) hg hat)
     replace HB := am (hb)
     have HO169 := am (ho)
     clear HO166
     clear ho hb hg hat
     obtain ⟨Ao34, co34, eo34⟩ := Kd.R_slice HO169.out
     (first | subst eo34 | (injection eo34 with f1_ f2_ f3_; have f4_ := f1_.symm; have f5_ := f3_.symm; clear f1_ f2_ f3_; subst f4_; subst f5_))
     obtain ⟨Ao35, co35, eo35⟩ := Kd.R_slice HO163.out
     (first | subst eo35 | (injection eo35 with f1_ f2_ f3_; have f4_ := f1_.symm; have f5_ := f3_.symm; clear f1_ f2_ f3_; subst f4_; subst f5_))
     refine hK.out _ _ (xC3 BK158.out) (fun hHeld => ?_)
     clear hK K
     refine xN1 (h := ?_)
     refine xP1 (i := 9) (N := some 30) #[true, true, true, true, true, true, true, true, true, true, false, false] (any_of HT_.out (by kernel_rfl)) (h := ?_)
     refine one_ (i := 10) (N := none) #[true, true, true, true, true, true, true, true, true, true, true, false] rfl rfl (one_of HT_.out (by kernel_rfl)) (by decide) (fun K hK => ?_)
     have hs36 : w33.cell? ⟨gb159, 0, none⟩ = some (.slice none 0 0) := (blk_cell BK159.out 0).trans rfl
     have hfs36 := blk_frozen BK159.out 0
     have hns36_0 := NB158_159.out
     have hms36_0 := NB159_158.out
     have hs37 : w33.cell? ⟨gb159, 1, none⟩ = some (.slice none 0 0) := (blk_cell BK159.out 1).trans rfl
     have hfs37 := blk_frozen BK159.out 1
     have hns37_0 := NB158_159.out
     have hms37_0 := NB159_158.out
     have hs38 : w33.cell? ⟨gb159, 2, none⟩ = some (.int .i64 0) := (blk_cell BK159.out 2).trans rfl
     have hfs38 := blk_frozen BK159.out 2
     have hns38_0 := NB158_159.out
     have hms38_0 := NB159_158.out
     refine skip_ (w1 := ?_) (by rfl) rfl ?_ ?_
     rotate_left
     ·go_simp
      rfl
     refine hK.out _ _ ⟨((cell_far (p := ⟨gb159, _, none⟩) NB158_159.out _).trans (((cell_far (p := ⟨gb159, _, none⟩) NB158_159.out _).trans (((cell_far (p := ⟨gb159, _, none⟩) NB158_159.out _).trans (hHeld.1)))))), ((cell_far (p := ⟨gb159, _, none⟩) NB158_159.out _).trans (((cell_far (p := ⟨gb159, _, none⟩) NB158_159.out _).trans (((cell_far (p := ⟨gb159, _, none⟩) NB158_159.out _).trans (hHeld.2.1)))))), ((cell_far (p := ⟨gb159, _, none⟩) NB158_159.out _).trans (((cell_far (p := ⟨gb159, _, none⟩) NB158_159.out _).trans (((cell_far (p := ⟨gb159, _, none⟩) NB158_159.out _).trans (hHeld.2.2))))))⟩ (fun hHeld => ?_)
     clear hK K
     refine xP1 (i := 11) (N := some 3) #[true, true, true, true, true, true, true, true, true, true, true, true] (any_of HT_.out (by kernel_rfl)) (h := ?_)
     refine done_ (done_of HT_.out (by kernel_rfl)) ?_
     try go_wp2
     refine bodyPost_ret (results_ct rfl _ _ gb159 26 #[.slice Ao35 t161.length co35, .slice Ao34 y167.length co34, .int .i64 0] (0, 0) _ rfl (xP BK159.out) Try.underlying26 rfl (by kernel_rfl)) rfl ?_
     exact ⟨_, _, xV, Kd.R_mono (xR HO163.out) (fun _ hk => hk.2), xR HO169.out, xW HB.out⟩
    ·rw [if_neg c21] at H
     exact absurd H (by simp)
 ·replace c3 := Bool.eq_false_iff.mpr c3
  subst c3
  have H1 : (some (([] : List (S57)), ([] : List (S57)), 0, false)) = some (r1, r2, r3, r4) := by rw [if_neg (show ¬ (false = true) by decide)] at H; exact H
  clear H
  have H := H1
  clear H1
  simp only [Option.some.injEq, Prod.mk.injEq] at H
  obtain ⟨rfl, rfl, rfl, rfl⟩ := H
  go_enter Try.func36, Try.ntmps36
  go_wp2_with (first | ((with_reducible refine gate_dst (N := 1) rfl ?_); (try (refine gate_guard (by rfl) ?_; dsimp only)); refine xE (N := 1) (cs := #[.slice A0_0 l0_0.length c0_0, .slice A0_1 l0_1.length c0_1, .int .i64 a0_2]) (t := 26) (h := ?_); intro gb158 hg w39 hbox hb; have BK158 := am (hbox); have GW158 := am (xS hg HB.out); have GE158 := am (xS hg HB.out); replace HB := am (below_step (xW HB.out) hb); clear hb hbox hg) | ((with_reducible refine gate_dst (N := 2) rfl ?_); (try (refine gate_guard (by rfl) ?_; dsimp only)); refine xE (N := 2) (cs := #[.slice none 0 0, .slice none 0 0, .int .i64 0]) (t := 26) (h := ?_); intro gb159 hg w40 hbox hb; have BK159 := am (hbox); have GW159 := am (xS hg HB.out); have GE159 := am (xS hg HB.out); replace HB := am (below_step (xW HB.out) hb); have NB158_159 := am (xN hg BK158.out); have NB159_158 := am (xM hg BK158.out); replace BK158 := am (blk_below (xB BK158.out) hb); clear hb hbox hg; have hnb41 := NB158_159.out; have hnc41 := NB159_158.out; obtain ⟨hcz42_0, hcz42_1, hcz42_2, hfz42_0, hfz42_1, hfz42_2⟩ := xT3 (W := w40) BK158.out) | ((with_reducible refine gate_callee (f := 25) rfl ?_); refine xG (some 5) 25 Try.func25 #[.agg #[.slice A0_0 l0_0.length c0_0, .slice A0_1 l0_1.length c0_1, .int .i64 a0_2]] (h := ?_); (with_reducible refine (spec_TableOk.calls k _ _ l0_0 _ _ l0_1 a0_2 false _ ?side1 ?side2 ?side3 ?side4 A2.out).mono ?_); (case side1 => exact xC (Kd.C_below HR0_0.out HB.out)); (case side2 => exact HC0_0.out); (case side3 => exact xC (Kd.C_below HR0_1.out HB.out)); (case side4 => exact HC0_1.out); rintro e w43 ⟨rfl, hb⟩; refine ⟨_, rfl, ?_⟩; replace BK158 := am (blk_below (xB BK158.out) hb); replace BK159 := am (blk_below (xB BK159.out) hb); replace HB := am (below_step (xW HB.out) hb); (try clear hb); obtain ⟨hcz44_0, hcz44_1, hcz44_2, hfz44_0, hfz44_1, hfz44_2⟩ := xT3 (W := w43) BK159.out))
  refine bodyPost_ret (results_ct rfl _ _ gb159 26 #[.slice none 0 0, .slice none 0 0, .int .i64 0] (0, 0) _ rfl (xP BK159.out) Try.underlying26 rfl (by kernel_rfl)) rfl ?_
  exact ⟨_, _, xV, by first | exact Kd.R_nil _ _ _ _ _ | exact Kd.N_nil _ _ _ _ _ | exact Kd.V_nil _ _ _ _ _ | exact Kd.Q_nil _ _ _ _ _ | exact Kd.S_nil _ _ _ _ _, by first | exact Kd.R_nil _ _ _ _ _ | exact Kd.N_nil _ _ _ _ _ | exact Kd.V_nil _ _ _ _ _ | exact Kd.Q_nil _ _ _ _ _ | exact Kd.S_nil _ _ _ _ _, xW HB.out⟩
mutual
def spec_l04Free.l0 : Nat → List (S57) → ByteArray → Int → Int → Option (Int × Int)
 | 0, _, _, _, _ => none
 | k + 1, x0, x1, x6, x7 => if x7 < (x0.length : Int) then (if 0 ≤ x7 then (if ((rd_T57 x0 x7).f0).toList = ([] : List UInt8) then (if ((rd_T57 x0 x7).f1) = (-1) then (spec_l04Free.l0 k x0 x1 (wrap64 (x6 + 1)) (wrap64 (x7 + 1))) else (spec_l04Free.l0 k x0 x1 x6 (wrap64 (x7 + 1)))) else (spec_l04Free.l0 k x0 x1 x6 (wrap64 (x7 + 1)))) else (none)) else ((spec_HashOf.f k x1 0).bind fun t172 => (if (x0.length : Int) = 0 then (none) else (spec_l04Free.l1 k x0 x6 (x0.length : Int) (Int.tmod t172 (x0.length : Int)) 0)))
def spec_l04Free.l1 : Nat → List (S57) → Int → Int → Int → Int → Option (Int × Int)
 | 0, _, _, _, _, _ => none
 | k + 1, x0, x6, x8, x9, x10 => if x10 < x8 then (if x8 = 0 then (none) else (if 0 ≤ (Int.tmod (wrap64 (x9 + x10)) x8) then (if (Int.tmod (wrap64 (x9 + x10)) x8) < (x0.length : Int) then (if ((rd_T57 x0 (Int.tmod (wrap64 (x9 + x10)) x8)).f0).toList = ([] : List UInt8) then (some (Int.tmod (wrap64 (x9 + x10)) x8, x6)) else (spec_l04Free.l1 k x0 x6 x8 x9 (wrap64 (x10 + 1)))) else (none)) else (none))) else (some ((-1), x6))
end
def spec_l04Free.f (k : Nat) (l0 : List (S57)) (a1 : ByteArray) : Option (Int × Int) := spec_l04Free.l0 k l0 a1 0 0
set_option maxHeartbeats 8000000 in
set_option maxRecDepth 100000 in
theorem spec_l04Free.calls (k : Nat) (A0 : Option Addr) (c0 : Nat) (l0 : List (S57)) (a1 : ByteArray) (r1 : Int) (r2 : Int) (w : World) (hr0 : Kd.C k57 w A0 l0.length l0) (hc0 : l0.length ≤ c0) (h : spec_l04Free.f k l0 a1 = some (r1, r2)) :
  Calls Try.prog 89 #[.slice A0 l0.length c0, .string a1] w fun e w' => e = .returned (.tuple #[.int .i64 r1, .int .i64 r2]) ∧ Drawn0 w w' := by
 have HR0 := am hr0
 have HC0 := am hc0
 clear hr0 hc0
 have H : (spec_l04Free.l0 k l0 a1 0 0) = some (r1, r2) := h
 clear h
 have H' := am H
 clear H
 go_enter Try.func89, Try.ntmps89
 go_wp2
 go_loopg [6, 7] k (fun kq v6 v7 w' => ∃ (x6_1 : Int) (x7_1 : Int), v6 = .int .i64 x6_1 ∧ v7 = .int .i64 x7_1 ∧ Aside0 (spec_l04Free.l0 kq l0 a1 x6_1 x7_1 = some (r1, r2)) ∧ Aside0 (kq ≤ k) ∧ Drawn0 w w')
 case atStart => exact ⟨(0), (0), (by first | rfl | (simp; done) | (simp [*]; done)), (xQ), H', ⟨Nat.le_refl _⟩, by repeat (first | exact Drawn0.refl _ | apply Drawn0.step)⟩
 case round =>
  clear H'
  try clear p2
  obtain ⟨x6_1, x7_1, rfl, rfl, HA, HK1, ⟨m1, rfl⟩⟩ := hrel
  cases gk with
  | zero => exact absurd HA.out (by simp [spec_l04Free.l0])
  | succ k1 =>
   have H := HA.out
   clear HA
   simp only [spec_l04Free.l0] at H
   by_cases c3 : x7_1 < (l0.length : Int)
   ·rw [if_pos c3] at H
    have c3b0 : decide (x7_1 < (l0.length : Int)) = true := decide_eq_true c3
    clear c3
    by_cases c4 : 0 ≤ x7_1
    ·rw [if_pos c4] at H
     have c4b0 : decide (0 ≤ x7_1) = true := decide_eq_true c4
     clear c4
     by_cases c5 : ((rd_T57 l0 x7_1).f0).toList = ([] : List UInt8)
     ·rw [if_pos c5] at H
      have c5b0 : (((rd_T57 l0 x7_1).f0).toList == ([] : List UInt8)) = true := beq_iff_eq.mpr c5
      have c5b1 : (((rd_T57 l0 x7_1).f0).toList != ([] : List UInt8)) = false := bne_eq_false_iff_eq.mpr c5
      clear c5
      by_cases c6 : ((rd_T57 l0 x7_1).f1) = (-1)
      ·rw [if_pos c6] at H
       have c6b0 : (((rd_T57 l0 x7_1).f1) == (-1)) = true := beq_iff_eq.mpr c6
       have c6b1 : (((rd_T57 l0 x7_1).f1) != (-1)) = false := bne_eq_false_iff_eq.mpr c6
       clear c6
       have H' := am H
       clear H
       have p170 : 0 ≤ (x7_1 : Int) := of_decide_eq_true (by assumption)
       have q170 : x7_1 < (l0.length : Int) := of_decide_eq_true (by assumption)
       obtain ⟨ad170, e170, hx170_0, hx170_1⟩ := at_T57 HR0.out x7_1 p170 q170
       cases e170
       replace p170 := eq_true p170
       replace q170 := eq_true q170
       have p171 : 0 ≤ (x7_1 : Int) := of_decide_eq_true (by assumption)
       have q171 : x7_1 < (l0.length : Int) := of_decide_eq_true (by assumption)
       obtain ⟨ad171, e171, hx171_0, hx171_1⟩ := at_T57 HR0.out x7_1 p171 q171
       obtain rfl : ad170 = ad171 := (by injection e171)
       replace p171 := eq_true p171
       replace q171 := eq_true q171
       go_wp2
       go_roundg k1
       case measure => have := HK1.out; omega
       case rel => exact ⟨(wrap64 (x6_1 + 1)), (wrap64 (x7_1 + 1)), (by first | rfl | (simp; done) | (simp [*]; done)), (xQ), H', ⟨by have := HK1.out; omega⟩, by repeat (first | exact Drawn0.refl _ | apply Drawn0.step)⟩
      ·rw [if_neg c6] at H
       have c6b0 : (((rd_T57 l0 x7_1).f1) == (-1)) = false := beq_eq_false_iff_ne.mpr c6
       have c6b1 : (((rd_T57 l0 x7_1).f1) != (-1)) = true := bne_iff_ne.mpr c6
       have H' := am H
       clear H
       have p170 : 0 ≤ (x7_1 : Int) := of_decide_eq_true (by assumption)
       have q170 : x7_1 < (l0.length : Int) := of_decide_eq_true (by assumption)
       obtain ⟨ad170, e170, hx170_0, hx170_1⟩ := at_T57 HR0.out x7_1 p170 q170
       cases e170
       replace p170 := eq_true p170
       replace q170 := eq_true q170
       have p171 : 0 ≤ (x7_1 : Int) := of_decide_eq_true (by assumption)
       have q171 : x7_1 < (l0.length : Int) := of_decide_eq_true (by assumption)
       obtain ⟨ad171, e171, hx171_0, hx171_1⟩ := at_T57 HR0.out x7_1 p171 q171
       obtain rfl : ad170 = ad171 := (by injection e171)
       replace p171 := eq_true p171
       replace q171 := eq_true q171
       go_wp2
       go_roundg k1
       case measure => have := HK1.out; omega
       case rel => exact ⟨(x6_1), (wrap64 (x7_1 + 1)), (by first | rfl | (simp; done) | (simp [*]; done)), (xQ), H', ⟨by have := HK1.out; omega⟩, by repeat (first | exact Drawn0.refl _ | apply Drawn0.step)⟩
     ·rw [if_neg c5] at H
      have c5b0 : (((rd_T57 l0 x7_1).f0).toList == ([] : List UInt8)) = false := beq_eq_false_iff_ne.mpr c5
      have c5b1 : (((rd_T57 l0 x7_1).f0).toList != ([] : List UInt8)) = true := bne_iff_ne.mpr c5
      have H' := am H
      clear H
      have p170 : 0 ≤ (x7_1 : Int) := of_decide_eq_true (by assumption)
      have q170 : x7_1 < (l0.length : Int) := of_decide_eq_true (by assumption)
      obtain ⟨ad170, e170, hx170_0, hx170_1⟩ := at_T57 HR0.out x7_1 p170 q170
      cases e170
      replace p170 := eq_true p170
      replace q170 := eq_true q170
      go_wp2
      go_roundg k1
      case measure => have := HK1.out; omega
      case rel => exact ⟨(x6_1), (wrap64 (x7_1 + 1)), (by first | rfl | (simp; done) | (simp [*]; done)), (xQ), H', ⟨by have := HK1.out; omega⟩, by repeat (first | exact Drawn0.refl _ | apply Drawn0.step)⟩
    ·rw [if_neg c4] at H
     exact absurd H (by simp)
   ·rw [if_neg c3] at H
    have c3b0 : decide (x7_1 < (l0.length : Int)) = false := decide_eq_false c3
    clear c3
    replace H := Option.bind_eq_some_iff.mp H
    obtain ⟨t172, A70, H⟩ := H
    try dsimp only at H
    have A7 := am A70
    clear A70
    by_cases c8 : (l0.length : Int) = 0
    ·rw [if_pos c8] at H
     exact absurd H (by simp)
    ·rw [if_neg c8] at H
     have c8b0 : ((l0.length : Int) == 0) = false := beq_eq_false_iff_ne.mpr c8
     have c8b1 : ((l0.length : Int) != 0) = true := bne_iff_ne.mpr c8
     have c8b2 : ¬ (l0 = []) := fun h_ => c8 (by rw [h_]; rfl)
     have H' := am H
     clear H
     go_wp2_with (first | ((with_reducible refine gate_callee (f := 85) rfl ?_); refine xG (some 36) 85 Try.func85 #[.string a1, .int .i64 0] (h := ?_); (with_reducible refine (spec_HashOf.calls k1 a1 0 t172 _ A7.out).mono ?_); rintro e w' ⟨rfl, ⟨nd, rfl⟩⟩; refine ⟨_, rfl, ?_⟩))
     go_loopg [10] k1 (fun kq v10 w' => ∃ (x10_2 : Int), v10 = .int .i64 x10_2 ∧ Aside0 (spec_l04Free.l1 kq l0 x6_1 (l0.length : Int) (Int.tmod t172 (l0.length : Int)) x10_2 = some (r1, r2)) ∧ Aside0 (kq ≤ k1) ∧ Drawn0 w w')
     case atStart => exact ⟨(0), (xQ), H', ⟨Nat.le_refl _⟩, by repeat (first | exact Drawn0.refl _ | apply Drawn0.step)⟩
     case round =>
      clear H'
      try clear p1
      try clear q1
      try clear hx1
      try clear p2
      try clear c3
      try clear c3b0
      try clear c4
      try clear c4b0
      try clear c5
      try clear c5b0
      try clear c5b1
      try clear c6
      try clear c6b0
      try clear c6b1
      try clear p6
      try clear c8
      try clear c8b0
      try clear c8b1
      try clear c8b2
      try clear hx170_0
      try clear hx170_1
      try clear hx171_0
      try clear hx171_1
      try clear p170
      try clear p171
      try clear p2
      try clear q170
      try clear q171
      obtain ⟨x10_2, rfl, HA, HK2, ⟨m2, rfl⟩⟩ := hrel
      cases gk with
      | zero => exact absurd HA.out (by simp [spec_l04Free.l1])
      | succ k2 =>
       have H := HA.out
       clear HA
       simp only [spec_l04Free.l1] at H
       by_cases c9 : x10_2 < (l0.length : Int)
       ·rw [if_pos c9] at H
        have c9b0 : decide (x10_2 < (l0.length : Int)) = true := decide_eq_true c9
        clear c9
        by_cases c10 : (l0.length : Int) = 0
        ·rw [if_pos c10] at H
         exact absurd H (by simp)
        ·rw [if_neg c10] at H
         have c10b0 : ((l0.length : Int) == 0) = false := beq_eq_false_iff_ne.mpr c10
         have c10b1 : ((l0.length : Int) != 0) = true := bne_iff_ne.mpr c10
         have c10b2 : ¬ (l0 = []) := fun h_ => c10 (by rw [h_]; rfl)
         obtain ⟨ji11, hji11⟩ : ∃ j_ : Int, (Int.tmod (wrap64 ((Int.tmod t172 (l0.length : Int)) + x10_2)) (l0.length : Int)) = j_ := ⟨_, rfl⟩
         replace H : (if 0 ≤ (ji11) then (if (ji11) < (l0.length : Int) then (if ((rd_T57 l0 (ji11)).f0).toList = ([] : List UInt8) then (some (ji11, x6_1)) else (spec_l04Free.l1 k2 l0 x6_1 (l0.length : Int) (Int.tmod t172 (l0.length : Int)) (wrap64 (x10_2 + 1)))) else (none)) else (none)) = some (r1, r2) := by first | (rw [hji11] at H; exact H) | (simp only [hji11] at H ⊢; exact H)
         by_cases c12 : 0 ≤ (ji11)
         ·rw [if_pos c12] at H
          have c12b0 : decide (0 ≤ (ji11)) = true := decide_eq_true c12
          clear c12
          by_cases c13 : (ji11) < (l0.length : Int)
          ·rw [if_pos c13] at H
           have c13b0 : decide ((ji11) < (l0.length : Int)) = true := decide_eq_true c13
           clear c13
           by_cases c14 : ((rd_T57 l0 (ji11)).f0).toList = ([] : List UInt8)
           ·rw [if_pos c14] at H
            have c14b0 : (((rd_T57 l0 (ji11)).f0).toList == ([] : List UInt8)) = true := beq_iff_eq.mpr c14
            have c14b1 : (((rd_T57 l0 (ji11)).f0).toList != ([] : List UInt8)) = false := bne_eq_false_iff_eq.mpr c14
            clear c14
            simp only [Option.some.injEq, Prod.mk.injEq] at H
            obtain ⟨rfl, rfl⟩ := H
            have p173 : 0 ≤ ((ji11) : Int) := of_decide_eq_true (by assumption)
            have q173 : (ji11) < (l0.length : Int) := of_decide_eq_true (by assumption)
            obtain ⟨ad173, e173, hx173_0, hx173_1⟩ := at_T57 HR0.out (ji11) p173 q173
            cases e173
            replace p173 := eq_true p173
            replace q173 := eq_true q173
            go_wp2
            go_ret2
            exact ⟨by first | rfl | (simp; done) | (simp only [← hji11] <;> (first | rfl | simp)) | (simp [*]; done), by repeat (first | exact Drawn0.refl _ | apply Drawn0.step)⟩
           ·rw [if_neg c14] at H
            have c14b0 : (((rd_T57 l0 (ji11)).f0).toList == ([] : List UInt8)) = false := beq_eq_false_iff_ne.mpr c14
            have c14b1 : (((rd_T57 l0 (ji11)).f0).toList != ([] : List UInt8)) = true := bne_iff_ne.mpr c14
            have H' := am H
            clear H
            have p173 : 0 ≤ ((ji11) : Int) := of_decide_eq_true (by assumption)
            have q173 : (ji11) < (l0.length : Int) := of_decide_eq_true (by assumption)
            obtain ⟨ad173, e173, hx173_0, hx173_1⟩ := at_T57 HR0.out (ji11) p173 q173
            cases e173
            replace p173 := eq_true p173
            replace q173 := eq_true q173
            go_wp2
            go_roundg k2
            case measure => have := HK1.out; have := HK2.out; omega
            case rel => exact ⟨(wrap64 (x10_2 + 1)), (xQ), H', ⟨by have := HK1.out; have := HK2.out; omega⟩, by repeat (first | exact Drawn0.refl _ | apply Drawn0.step)⟩
          ·rw [if_neg c13] at H
           exact absurd H (by simp)
         ·rw [if_neg c12] at H
          exact absurd H (by simp)
       ·rw [if_neg c9] at H
        have c9b0 : decide (x10_2 < (l0.length : Int)) = false := decide_eq_false c9
        clear c9
        simp only [Option.some.injEq, Prod.mk.injEq] at H
        obtain ⟨rfl, rfl⟩ := H
        go_wp2
        go_ret2
        exact ⟨by first | rfl | (simp; done) | (simp [*]; done), by repeat (first | exact Drawn0.refl _ | apply Drawn0.step)⟩
def spec_l04Put.f (k : Nat) (l0 : List (S57)) (a1 : ByteArray) (a2 : Int) : Option (Bool × (List (S57))) := (spec_l04Free.f k l0 a1).bind fun bt174 => (if bt174.1 < 0 then (some (false, l0)) else (if bt174.2 ≤ 1 then (if 0 ≤ bt174.1 then (if bt174.1 < (l0.length : Int) then (if ((rd_T57 l0 bt174.1).f1) = (-1) then (some (false, l0)) else (some (true, (l0.set (bt174.1 : Int).toNat (⟨a1, a2⟩ : S57))))) else (none)) else (none)) else (if 0 ≤ bt174.1 then (if bt174.1 < (l0.length : Int) then (some (true, (l0.set (bt174.1 : Int).toNat (⟨a1, a2⟩ : S57)))) else (none)) else (none))))
set_option maxHeartbeats 8000000 in
set_option maxRecDepth 100000 in
theorem spec_l04Put.calls (k : Nat) (P0_ : Nat → Prop) (u9000_ : Value) (l0 : List (S57)) (a1 : ByteArray) (a2 : Int) (r1 : Bool) (r2 : List (S57)) (w0 w : World) (hB : Below w0.heap.size w0 w) (ho0 : Kd.R k57 57 w w0.heap.size P0_ u9000_ l0) (h : spec_l04Put.f k l0 a1 a2 = some (r1, r2)) :
  Calls Try.prog 73 #[u9000_, .string a1, .int .i64 a2] w fun e w' => e = .returned (.bool r1) ∧ Kd.R k57 57 w' w0.heap.size (fun k_ => (P0_ k_ ∨ w.heap.size ≤ k_)) u9000_ r2 ∧ Below w0.heap.size w0 w' ∧ Kept w w' (fun k_ => P0_ k_) := by
 have hu57 := Try.underlying57
 have HO0 := am (show Kd.R k57 57 w w0.heap.size (fun k_ => (P0_ k_ ∨ w.heap.size ≤ k_)) u9000_ l0 from Kd.R_mono ho0 (fun k_ hk => (.inl hk)))
 have HK := am (Kept.refl w (fun k_ => P0_ k_))
 have HW0 := am hB.size
 have HB := am hB
 clear hB
 have H : ((spec_l04Free.f k l0 a1).bind fun bt174 => (if bt174.1 < 0 then (some (false, l0)) else (if bt174.2 ≤ 1 then (if 0 ≤ bt174.1 then (if bt174.1 < (l0.length : Int) then (if ((rd_T57 l0 bt174.1).f1) = (-1) then (some (false, l0)) else (some (true, (l0.set (bt174.1 : Int).toNat (⟨a1, a2⟩ : S57))))) else (none)) else (none)) else (if 0 ≤ bt174.1 then (if bt174.1 < (l0.length : Int) then (some (true, (l0.set (bt174.1 : Int).toNat (⟨a1, a2⟩ : S57)))) else (none)) else (none))))) = some (r1, r2) := h
 clear h
 replace H := Option.bind_eq_some_iff.mp H
 obtain ⟨⟨t174, t175⟩, A40, H⟩ := H
 try dsimp only at H
 have A4 := am A40
 clear A40
 by_cases c5 : t174 < 0
 ·rw [if_pos c5] at H
  have c5b0 : decide (t174 < 0) = true := decide_eq_true c5
  clear c5
  simp only [Option.some.injEq, Prod.mk.injEq] at H
  obtain ⟨rfl, rfl⟩ := H
  obtain ⟨Ao6, co6, eo6⟩ := Kd.R_slice HO0.out
  subst eo6
  go_enter Try.func73, Try.ntmps73
  go_wp2_with (first | ((with_reducible refine gate_callee (f := 89) rfl ?_); refine xG (some 12) 89 Try.func89 #[.slice Ao6 l0.length co6, .string a1] (h := ?_); (with_reducible refine (spec_l04Free.calls k _ _ l0 a1 t174 t175 _ ?side1 ?side2 A4.out).mono ?_); (case side1 => exact xC ((Kd.R_reads' HO0.out).2.2)); (case side2 => exact (Kd.R_reads' HO0.out).2.1); rintro e w' ⟨rfl, ⟨nd, rfl⟩⟩; refine ⟨_, rfl, ?_⟩))
  go_ret
  exact ⟨xV, xR HO0.out, xW HB.out, xJ HK.out⟩
 ·rw [if_neg c5] at H
  have c5b0 : decide (t174 < 0) = false := decide_eq_false c5
  clear c5
  by_cases c7 : t175 ≤ 1
  ·rw [if_pos c7] at H
   have c7b0 : decide (t175 ≤ 1) = true := decide_eq_true c7
   clear c7
   by_cases c8 : 0 ≤ t174
   ·rw [if_pos c8] at H
    have c8b0 : decide (0 ≤ t174) = true := decide_eq_true c8
    clear c8
    by_cases c9 : t174 < (l0.length : Int)
    ·rw [if_pos c9] at H
     have c9b0 : decide (t174 < (l0.length : Int)) = true := decide_eq_true c9
     clear c9
     by_cases c10 : ((rd_T57 l0 t174).f1) = (-1)
     ·rw [if_pos c10] at H
      have c10b0 : (((rd_T57 l0 t174).f1) == (-1)) = true := beq_iff_eq.mpr c10
      have c10b1 : (((rd_T57 l0 t174).f1) != (-1)) = false := bne_eq_false_iff_eq.mpr c10
      clear c10
      simp only [Option.some.injEq, Prod.mk.injEq] at H
      obtain ⟨rfl, rfl⟩ := H
      obtain ⟨Ao11, co11, eo11⟩ := Kd.R_slice HO0.out
      subst eo11
      go_enter Try.func73, Try.ntmps73
      go_wp2_with (first | ((with_reducible refine gate_callee (f := 89) rfl ?_); refine xG (some 12) 89 Try.func89 #[.slice Ao11 l0.length co11, .string a1] (h := ?_); (with_reducible refine (spec_l04Free.calls k _ _ l0 a1 t174 t175 _ ?side1 ?side2 A4.out).mono ?_); (case side1 => exact xC ((Kd.R_reads' HO0.out).2.2)); (case side2 => exact (Kd.R_reads' HO0.out).2.1); rintro e w' ⟨rfl, ⟨nd, rfl⟩⟩; refine ⟨_, rfl, ?_⟩; have p176 : 0 ≤ (t174 : Int) := of_decide_eq_true (by assumption); have q176 : t174 < (l0.length : Int) := of_decide_eq_true (by assumption); obtain ⟨ad176, e176, hx176_0, hx176_1⟩ := at_T57 (Kd.R_reads' HO0.out).2.2 t174 p176 q176; cases e176; replace p176 := eq_true p176; replace q176 := eq_true q176))
      go_ret
      exact ⟨xV, xR HO0.out, xW HB.out, xJ HK.out⟩
     ·rw [if_neg c10] at H
      have c10b0 : (((rd_T57 l0 t174).f1) == (-1)) = false := beq_eq_false_iff_ne.mpr c10
      have c10b1 : (((rd_T57 l0 t174).f1) != (-1)) = true := bne_iff_ne.mpr c10
      obtain ⟨y177, hy177⟩ : ∃ y_ : List (S57), y_ = (l0.set (t174 : Int).toNat (⟨a1, a2⟩ : S57)) := ⟨_, rfl⟩
      replace H : (some (true, y177)) = some (r1, r2) := by first | (rw [hy177]; with_reducible exact H) | (have H2_ := (Option.bind_some _ _).symm.trans H; rw [hy177]; with_reducible exact H2_) | (have H2_ := (Option.bind_some _ _).symm.trans H; with_reducible exact H2_) | with_reducible exact H | (rw [hy177]; exact H) | exact H
      have Ny177 := am hy177
      clear hy177
      simp only [Option.some.injEq, Prod.mk.injEq] at H
      obtain ⟨rfl, rfl⟩ := H
      obtain ⟨Ao13, co13, eo13⟩ := Kd.R_slice HO0.out
      subst eo13
      go_enter Try.func73, Try.ntmps73
      go_wp2_with (first | ((with_reducible refine gate_callee (f := 89) rfl ?_); refine xG (some 12) 89 Try.func89 #[.slice Ao13 l0.length co13, .string a1] (h := ?_); (with_reducible refine (spec_l04Free.calls k _ _ l0 a1 t174 t175 _ ?side1 ?side2 A4.out).mono ?_); (case side1 => exact xC ((Kd.R_reads' HO0.out).2.2)); (case side2 => exact (Kd.R_reads' HO0.out).2.1); rintro e w' ⟨rfl, ⟨nd, rfl⟩⟩; refine ⟨_, rfl, ?_⟩; (try (rw [drewN_self w]; generalize hq_ : World.drewN w _ = wq_; have n0_ : Aside0 (Kd.R k57 57 wq_ w0.heap.size (fun k_ => (P0_ k_ ∨ w.heap.size ≤ k_)) (.slice Ao13 l0.length co13) l0) := ⟨by rw [← hq_]; exact (xR HO0.out)⟩; have n1_ : Aside0 (Kept w wq_ (fun k_ => P0_ k_)) := ⟨by rw [← hq_]; exact (xJ HK.out)⟩; have n2_ : Aside0 (Below w0.heap.size w0 wq_) := ⟨by rw [← hq_]; exact (xW HB.out)⟩; clear HO0 HK HB hq_; have HO0 := n0_; have HK := n1_; have HB := n2_; clear n0_ n1_ n2_)); have p176 : 0 ≤ (t174 : Int) := of_decide_eq_true (by assumption); have q176 : t174 < (l0.length : Int) := of_decide_eq_true (by assumption); obtain ⟨ad176, e176, hx176_0, hx176_1⟩ := at_T57 (Kd.R_reads' HO0.out).2.2 t174 p176 q176; cases e176; replace p176 := eq_true p176; replace q176 := eq_true q176; have p12 : 0 ≤ (t174 : Int) := of_decide_eq_true (by assumption); have q12 : (t174 : Int) < ((l0.length : Int) : Int) := of_decide_eq_true (by assumption); obtain ⟨go12, co12, eo12, gb12, gl12, cl12, HG12⟩ := Kd.R_form HO0.out (by omega); (first | cases eo12 | (injection eo12 with ea_ en_ ec_; (first | subst ea_ | (injection ea_ with ea_; subst ea_)); subst ec_; clear en_)); have GB12 := am gb12; have GG12 := am HG12; clear gb12 gl12 HG12; have HMgo12 := am (show (P0_ go12 ∨ w.heap.size ≤ go12) from (HO0.out.1 _ rfl)); (first | simp only [add_plain] at hx176_0 | skip); (first | simp only [add_plain] at hx176_1 | skip); obtain ⟨ce12, hcl12, hM12, hcc12, hfr12⟩ := Kd.R_elem HO0.out z57 (t174 : Int) p12 q12; obtain rfl := k57_openM hM12; have hx12_0 : wq_.cell? ⟨go12, (t174 : Int).toNat * 2, none⟩ = some (.string ((rd_T57 l0 t174).f0)) := hcc12 0 _ rfl; have hx12_1 : wq_.cell? ⟨go12, (t174 : Int).toNat * 2 + 1, none⟩ = some (.int .i64 ((rd_T57 l0 t174).f1)) := hcc12 1 _ rfl; have hf12_0 : wq_.frozen? ⟨go12, (t174 : Int).toNat * 2, none⟩ = false := hfr12 0; have hf12_1 : wq_.frozen? ⟨go12, (t174 : Int).toNat * 2 + 1, none⟩ = false := hfr12 1; clear hcl12 hcc12 hfr12 hM12; replace p12 := eq_true p12; replace q12 := eq_true q12; have HX14 := am (show Kd.R k57 57 wq_ w0.heap.size (fun k_ => (P0_ k_ ∨ w.heap.size ≤ k_)) (.slice (some ⟨go12, 0, none⟩) l0.length co13) l0 from (xR HO0.out)); obtain ⟨ce14, hcl14, hM14, hcc14, hfr14⟩ := Kd.R_elem HX14.out z57 (t174 : Int) (of_decide_eq_true (by assumption)) (by have h_ : (t174 : Int) < ((l0.length : Int) : Int) := of_decide_eq_true (by assumption); first | exact h_ | (have e_ := (Kd.R_reads' HO0.out).1; omega) | simpa using h_); obtain rfl := k57_openM hM14; have HP14 := Kd.R_seg HX14.out (t174 : Int) (of_decide_eq_true (by assumption)) (by have h_ : (t174 : Int) < ((l0.length : Int) : Int) := of_decide_eq_true (by assumption); first | exact h_ | (have e_ := (Kd.R_reads' HO0.out).1; omega) | simpa using h_) (seg := [.string a1, .int .i64 a2]) (j := 0) hcl14 hcc14 (show 2 ≤ 2 from by decide) (x' := (⟨a1, a2⟩ : S57)) (k57_mkM _ _ _ (⟨a1, a2⟩ : S57) ) (fun _ hk => hk); have hx14_0 := hcc14 0 _ rfl; (try simp only [show (k57).sz = 2 from rfl, Nat.mul_one, Nat.add_zero] at hx14_0); have hf14_0 := hfr14 0; (try simp only [show (k57).sz = 2 from rfl, Nat.mul_one, Nat.add_zero] at hf14_0); have hx14_1 := hcc14 1 _ rfl; (try simp only [show (k57).sz = 2 from rfl, Nat.mul_one, Nat.add_zero] at hx14_1); have hf14_1 := hfr14 1; (try simp only [show (k57).sz = 2 from rfl, Nat.mul_one, Nat.add_zero] at hf14_1); clear hcl14 hcc14 hfr14 hM14) | ((with_reducible refine gate_store (t := 57) (p := 34) rfl ?_); refine store_event (t := 57) (p := 34) (v := ?vo_w15) (w1 := ((wq_.setCell ⟨go12, (t174 : Int).toNat * 2, none⟩ (.string a1)).setCell ⟨go12, (t174 : Int).toNat * 2 + 1, none⟩ (.int .i64 a2))) ?hg ?ho ?hn ?hr ?_; (case ho => rfl); (case hg => rfl); (case hn => rfl); (case hr => first | (go_simp; done) | (go_simp; rfl)); intro w15 hw; have hg : wq_.grownBy w15 (some go12) := (by rw [hw]; exact HP14.2); have hp_ : Kd.R k57 57 w15 w0.heap.size (fun k_ => (P0_ k_ ∨ w.heap.size ≤ k_)) (.slice (some ⟨go12, 0, none⟩) l0.length co13) y177 := (by rw [hw, Ny177.out]; exact HP14.1); clear HP14; replace HB := am ((by rw [hw]; exact below_set (below_set (HB.out) GB12.out) GB12.out : Below w0.heap.size w0 w15)); replace HK := am (Kept.of_grown (S := (fun k_ => P0_ k_)) hg (xJ HK.out) (fun k_ e_ => (HO0.out.1 k_ e_))); replace HO0 := am (hp_); clear hg hw hp_))
      go_ret
      exact ⟨xV, xR HO0.out, xW HB.out, xJ HK.out⟩
    ·rw [if_neg c9] at H
     exact absurd H (by simp)
   ·rw [if_neg c8] at H
    exact absurd H (by simp)
  ·rw [if_neg c7] at H
   have c7b0 : decide (t175 ≤ 1) = false := decide_eq_false c7
   clear c7
   by_cases c16 : 0 ≤ t174
   ·rw [if_pos c16] at H
    have c16b0 : decide (0 ≤ t174) = true := decide_eq_true c16
    clear c16
    by_cases c17 : t174 < (l0.length : Int)
    ·rw [if_pos c17] at H
     have c17b0 : decide (t174 < (l0.length : Int)) = true := decide_eq_true c17
     clear c17
     obtain ⟨y178, hy178⟩ : ∃ y_ : List (S57), y_ = (l0.set (t174 : Int).toNat (⟨a1, a2⟩ : S57)) := ⟨_, rfl⟩
     replace H : (some (true, y178)) = some (r1, r2) := by first | (rw [hy178]; with_reducible exact H) | (have H2_ := (Option.bind_some _ _).symm.trans H; rw [hy178]; with_reducible exact H2_) | (have H2_ := (Option.bind_some _ _).symm.trans H; with_reducible exact H2_) | with_reducible exact H | (rw [hy178]; exact H) | exact H
     have Ny178 := am hy178
     clear hy178
     simp only [Option.some.injEq, Prod.mk.injEq] at H
     obtain ⟨rfl, rfl⟩ := H
     obtain ⟨Ao19, co19, eo19⟩ := Kd.R_slice HO0.out
     subst eo19
     go_enter Try.func73, Try.ntmps73
     go_wp2_with (first | ((with_reducible refine gate_callee (f := 89) rfl ?_); refine xG (some 12) 89 Try.func89 #[.slice Ao19 l0.length co19, .string a1] (h := ?_); (with_reducible refine (spec_l04Free.calls k _ _ l0 a1 t174 t175 _ ?side1 ?side2 A4.out).mono ?_); (case side1 => exact xC ((Kd.R_reads' HO0.out).2.2)); (case side2 => exact (Kd.R_reads' HO0.out).2.1); rintro e w' ⟨rfl, ⟨nd, rfl⟩⟩; refine ⟨_, rfl, ?_⟩; (try (rw [drewN_self w]; generalize hq_ : World.drewN w _ = wq_; have n0_ : Aside0 (Kd.R k57 57 wq_ w0.heap.size (fun k_ => (P0_ k_ ∨ w.heap.size ≤ k_)) (.slice Ao19 l0.length co19) l0) := ⟨by rw [← hq_]; exact (xR HO0.out)⟩; have n1_ : Aside0 (Kept w wq_ (fun k_ => P0_ k_)) := ⟨by rw [← hq_]; exact (xJ HK.out)⟩; have n2_ : Aside0 (Below w0.heap.size w0 wq_) := ⟨by rw [← hq_]; exact (xW HB.out)⟩; clear HO0 HK HB hq_; have HO0 := n0_; have HK := n1_; have HB := n2_; clear n0_ n1_ n2_)); have p18 : 0 ≤ (t174 : Int) := of_decide_eq_true (by assumption); have q18 : (t174 : Int) < ((l0.length : Int) : Int) := of_decide_eq_true (by assumption); obtain ⟨go18, co18, eo18, gb18, gl18, cl18, HG18⟩ := Kd.R_form HO0.out (by omega); (first | cases eo18 | (injection eo18 with ea_ en_ ec_; (first | subst ea_ | (injection ea_ with ea_; subst ea_)); subst ec_; clear en_)); have GB18 := am gb18; have GG18 := am HG18; clear gb18 gl18 HG18; have HMgo18 := am (show (P0_ go18 ∨ w.heap.size ≤ go18) from (HO0.out.1 _ rfl)); obtain ⟨ce18, hcl18, hM18, hcc18, hfr18⟩ := Kd.R_elem HO0.out z57 (t174 : Int) p18 q18; obtain rfl := k57_openM hM18; have hx18_0 : wq_.cell? ⟨go18, (t174 : Int).toNat * 2, none⟩ = some (.string ((rd_T57 l0 t174).f0)) := hcc18 0 _ rfl; have hx18_1 : wq_.cell? ⟨go18, (t174 : Int).toNat * 2 + 1, none⟩ = some (.int .i64 ((rd_T57 l0 t174).f1)) := hcc18 1 _ rfl; have hf18_0 : wq_.frozen? ⟨go18, (t174 : Int).toNat * 2, none⟩ = false := hfr18 0; have hf18_1 : wq_.frozen? ⟨go18, (t174 : Int).toNat * 2 + 1, none⟩ = false := hfr18 1; clear hcl18 hcc18 hfr18 hM18; replace p18 := eq_true p18; replace q18 := eq_true q18; have HX20 := am (show Kd.R k57 57 wq_ w0.heap.size (fun k_ => (P0_ k_ ∨ w.heap.size ≤ k_)) (.slice (some ⟨go18, 0, none⟩) l0.length co19) l0 from (xR HO0.out)); obtain ⟨ce20, hcl20, hM20, hcc20, hfr20⟩ := Kd.R_elem HX20.out z57 (t174 : Int) (of_decide_eq_true (by assumption)) (by have h_ : (t174 : Int) < ((l0.length : Int) : Int) := of_decide_eq_true (by assumption); first | exact h_ | (have e_ := (Kd.R_reads' HO0.out).1; omega) | simpa using h_); obtain rfl := k57_openM hM20; have HP20 := Kd.R_seg HX20.out (t174 : Int) (of_decide_eq_true (by assumption)) (by have h_ : (t174 : Int) < ((l0.length : Int) : Int) := of_decide_eq_true (by assumption); first | exact h_ | (have e_ := (Kd.R_reads' HO0.out).1; omega) | simpa using h_) (seg := [.string a1, .int .i64 a2]) (j := 0) hcl20 hcc20 (show 2 ≤ 2 from by decide) (x' := (⟨a1, a2⟩ : S57)) (k57_mkM _ _ _ (⟨a1, a2⟩ : S57) ) (fun _ hk => hk); have hx20_0 := hcc20 0 _ rfl; (try simp only [show (k57).sz = 2 from rfl, Nat.mul_one, Nat.add_zero] at hx20_0); have hf20_0 := hfr20 0; (try simp only [show (k57).sz = 2 from rfl, Nat.mul_one, Nat.add_zero] at hf20_0); have hx20_1 := hcc20 1 _ rfl; (try simp only [show (k57).sz = 2 from rfl, Nat.mul_one, Nat.add_zero] at hx20_1); have hf20_1 := hfr20 1; (try simp only [show (k57).sz = 2 from rfl, Nat.mul_one, Nat.add_zero] at hf20_1); clear hcl20 hcc20 hfr20 hM20) | ((with_reducible refine gate_store (t := 57) (p := 34) rfl ?_); refine store_event (t := 57) (p := 34) (v := ?vo_w21) (w1 := ((wq_.setCell ⟨go18, (t174 : Int).toNat * 2, none⟩ (.string a1)).setCell ⟨go18, (t174 : Int).toNat * 2 + 1, none⟩ (.int .i64 a2))) ?hg ?ho ?hn ?hr ?_; (case ho => rfl); (case hg => rfl); (case hn => rfl); (case hr => first | (go_simp; done) | (go_simp; rfl)); intro w21 hw; have hg : wq_.grownBy w21 (some go18) := (by rw [hw]; exact HP20.2); have hp_ : Kd.R k57 57 w21 w0.heap.size (fun k_ => (P0_ k_ ∨ w.heap.size ≤ k_)) (.slice (some ⟨go18, 0, none⟩) l0.length co19) y178 := (by rw [hw, Ny178.out]; exact HP20.1); clear HP20; replace HB := am ((by rw [hw]; exact below_set (below_set (HB.out) GB18.out) GB18.out : Below w0.heap.size w0 w21)); replace HK := am (Kept.of_grown (S := (fun k_ => P0_ k_)) hg (xJ HK.out) (fun k_ e_ => (HO0.out.1 k_ e_))); replace HO0 := am (hp_); clear hg hw hp_))
     go_ret
     exact ⟨xV, xR HO0.out, xW HB.out, xJ HK.out⟩
    ·rw [if_neg c17] at H
     exact absurd H (by simp)
   ·rw [if_neg c16] at H
    exact absurd H (by simp)
end Go.Proofs.Ytmahoekbedgbcaa.HFnGrows
