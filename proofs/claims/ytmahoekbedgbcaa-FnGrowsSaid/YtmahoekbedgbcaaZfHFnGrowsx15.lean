/- What the row of the law needs of the printed and the plain texts. -/
import Derived.Test.YtmahoekbedgbcaaZfHX
import Derived.Test.YtmahoekbedgbcaaZfHFnGrowsx0
import Derived.Test.YtmahoekbedgbcaaZfHFnGrowsx2
import Derived.Test.YtmahoekbedgbcaaZfHFnGrowsx7
import Derived.Test.YtmahoekbedgbcaaZfHFnGrowsx10
import Derived.Test.YtmahoekbedgbcaaZfHFnGrowsx12
import Derived.Test.YtmahoekbedgbcaaZfHFnGrowsx14
namespace Go.Proofs.Ytmahoekbedgbcaa.HFnGrows
open Go.RowKit Go.Proofs.YtmahoekbedgbcaaW.PrintWords Go.Proofs.YtmahoekbedgbcaaW.PrintLast Go.Proofs.YtmahoekbedgbcaaW.PrintMore
attribute [local go_sem] max2_int min2_int max_two min_two max_three min_three max_four min_four
set_option linter.unusedVariables false
set_option linter.unusedSimpArgs false
def impl_GrowTable.j0 : Nat → Bool → List (S57) → List (S57) → Int → Option ((List (S57)) × (List (S57)) × Int × Bool)
 | 0, _, _, _, _ => none
 | k + 1, x19, x439000, x439001, x439002 => if x19 = true then (some (([] : List (S57)), ([] : List (S57)), 0, false)) else ((impl_newCells.f (wrap64 (2 * (x439000.length : Int)))).bind fun t441 => ((impl_Cell_50.f x439000).bind fun t444 => (some (t441, t444, 0, true))))
def impl_GrowTable.f (k : Nat) (l0_0 : List (S57)) (l0_1 : List (S57)) (a0_2 : Int) : Option ((List (S57)) × (List (S57)) × Int × Bool) := if (l0_1.length : Int) > 0 then (impl_GrowTable.j0 k true l0_0 l0_1 a0_2) else (if (wrap64 (2 * (l0_0.length : Int))) > 64 then (impl_GrowTable.j0 k true l0_0 l0_1 a0_2) else ((impl_TableOk.f k l0_0 l0_1 a0_2).bind fun t440 => (impl_GrowTable.j0 k (!t440) l0_0 l0_1 a0_2)))
def impl_GrowTable.T3 : Bool × List (List Nat × List Nat) := (true, [([], []), ([0], [0]), ([1], [1]), ([2], [2]), ([3], [3]), ([], []), ([5], [5]), ([6, 4], [6]), ([4, 7], [4, 7]), ([8, 7, 0, 1, 2, 3, 4, 5, 6, 7, 8], [8]), ([9, 0, 1, 2, 3, 4, 5, 6, 7, 8, 9], [])])
def impl_GrowTable.B3 : List Nat := [0, 1, 3, 7, 15, 0, 32, 127, 255, 511, 1023]
theorem impl_GrowTable.tab3 : rtab .any (opsOf Try.f17 3) = impl_GrowTable.T3 := by kernel_rfl
theorem impl_GrowTable.bits3 : waitsOk impl_GrowTable.T3.2 impl_GrowTable.B3 = true := by kernel_rfl
set_option maxHeartbeats 8000000 in
set_option maxRecDepth 100000 in
theorem impl_GrowTable.calls (k : Nat) (A0_0 : Option Addr) (c0_0 : Nat) (l0_0 : List (S57)) (A0_1 : Option Addr) (c0_1 : Nat) (l0_1 : List (S57)) (a0_2 : Int) (r1 : List (S57)) (r2 : List (S57)) (r3 : Int) (r4 : Bool) (w : World) (hr0_0 : Kd.C k57 w A0_0 l0_0.length l0_0) (hc0_0 : l0_0.length ≤ c0_0) (hr0_1 : Kd.C k57 w A0_1 l0_1.length l0_1) (hc0_1 : l0_1.length ≤ c0_1) (h : impl_GrowTable.f k l0_0 l0_1 a0_2 = some (r1, r2, r3, r4)) :
  Calls Try.prog 17 #[.agg #[.slice A0_0 l0_0.length c0_0, .slice A0_1 l0_1.length c0_1, .int .i64 a0_2]] w fun e w' => ∃ v0_ v1_ : Value, e = .returned (.tuple #[.agg #[v0_, v1_, .int .i64 r3], .bool r4]) ∧ Kd.R k57 57 w' w.heap.size (fun k_ => some k_ ≠ (v1_ : Value).ownBlock) v0_ r1 ∧ Kd.R k57 57 w' w.heap.size (fun k_ => some k_ ≠ (v0_ : Value).ownBlock) v1_ r2 ∧ Below w.heap.size w w' := by
 have hu26 := Try.underlying26
 have HR0_0 := am hr0_0
 have HC0_0 := am hc0_0
 clear hr0_0 hc0_0
 have HR0_1 := am hr0_1
 have HC0_1 := am hc0_1
 clear hr0_1 hc0_1
 have HB := am (Below.refl w.heap.size w)
 have H : (if (l0_1.length : Int) > 0 then (impl_GrowTable.j0 k true l0_0 l0_1 a0_2) else (if (wrap64 (2 * (l0_0.length : Int))) > 64 then (impl_GrowTable.j0 k true l0_0 l0_1 a0_2) else ((impl_TableOk.f k l0_0 l0_1 a0_2).bind fun t440 => (impl_GrowTable.j0 k (!t440) l0_0 l0_1 a0_2)))) = some (r1, r2, r3, r4) := h
 clear h
 have HC2 := am H
 clear H
 go_enter Try.func17, Try.ntmps17
 go_upto_region 1 with (first | ((with_reducible refine gate_dst (N := 1) rfl ?_); (try (refine gate_guard (by rfl) ?_; dsimp only)); refine xE (N := 1) (cs := #[.slice A0_0 l0_0.length c0_0, .slice A0_1 l0_1.length c0_1, .int .i64 a0_2]) (t := 26) (h := ?_); intro gb438 hg w3 hbox hb; have BK438 := am (hbox); have GW438 := am (xS hg HB.out); have GE438 := am (xS hg HB.out); replace HB := am (below_step (xW HB.out) hb); clear hb hbox hg) | ((with_reducible refine gate_dst (N := 2) rfl ?_); (try (refine gate_guard (by rfl) ?_; dsimp only)); refine xE (N := 2) (cs := #[.slice none 0 0, .slice none 0 0, .int .i64 0]) (t := 26) (h := ?_); intro gb439 hg w4 hbox hb; have BK439 := am (hbox); have GW439 := am (xS hg HB.out); have GE439 := am (xS hg HB.out); replace HB := am (below_step (xW HB.out) hb); have NB438_439 := am (xN hg BK438.out); have NB439_438 := am (xM hg BK438.out); replace BK438 := am (blk_below (xB BK438.out) hb); clear hb hbox hg))
 (try simp only [Act.put, List.setIfInBounds_toArray, List.set_cons_zero, List.set_cons_succ])
 go_cut [19] (fun v19 wc => ∃ (kq : Nat) (x19_1 : Bool), v19 = .bool x19_1 ∧ Aside0 (impl_GrowTable.j0 kq x19_1 l0_0 l0_1 a0_2 = some (r1, r2, r3, r4)) ∧ Aside0 (kq ≤ k) ∧ Aside0 (wc.heap[gb438]? = some (.cells #[(.slice A0_0 l0_0.length c0_0), (.slice A0_1 l0_1.length c0_1), .int .i64 a0_2] 26 (0, 0))) ∧ Aside0 (wc.heap[gb439]? = some (.cells #[(.slice none 0 0), (.slice none 0 0), .int .i64 0] 26 (0, 0))) ∧ Aside0 (Below w.heap.size w wc))
 case first =>
  have H := HC2.out
  clear HC2
  by_cases c5 : (l0_1.length : Int) > 0
  ·rw [if_pos c5] at H
   have c5b0 : decide (0 < (l0_1.length : Int)) = true := decide_eq_true c5
   have c5b1 : decide (0 < l0_1.length) = true := decide_eq_true (by omega)
   clear c5
   (first | rw [c5b0] | (simp only [i64_w, i32_w]; rw [c5b0]) | skip)
   have H' := am H
   clear H
   have hnb6 := NB438_439.out
   have hnc6 := NB439_438.out
   obtain ⟨hcz7_0, hcz7_1, hcz7_2, hfz7_0, hfz7_1, hfz7_2⟩ := xT3 (W := w4) BK438.out
   go_wp2
   go_meet
   case rel => exact ⟨_, (true), (xQ), H', ⟨by first | omega | exact Nat.le_refl _⟩, ⟨xB BK438.out⟩, ⟨xB BK439.out⟩, ⟨xW HB.out⟩⟩
  ·rw [if_neg c5] at H
   have c5b0 : decide (0 < (l0_1.length : Int)) = false := decide_eq_false c5
   have c5b1 : decide (0 < l0_1.length) = false := decide_eq_false (by omega)
   clear c5
   (first | rw [c5b0] | (simp only [i64_w, i32_w]; rw [c5b0]) | skip)
   by_cases c8 : (wrap64 (2 * (l0_0.length : Int))) > 64
   ·rw [if_pos c8] at H
    have c8b0 : decide (64 < (wrap64 (2 * (l0_0.length : Int)))) = true := decide_eq_true c8
    clear c8
    have H' := am H
    clear H
    have hnb9 := NB438_439.out
    have hnc9 := NB439_438.out
    obtain ⟨hcz10_0, hcz10_1, hcz10_2, hfz10_0, hfz10_1, hfz10_2⟩ := xT3 (W := w4) BK438.out
    go_wp2
    go_meet
    case rel => exact ⟨_, (true), (xQ), H', ⟨by first | omega | exact Nat.le_refl _⟩, ⟨xB BK438.out⟩, ⟨xB BK439.out⟩, ⟨xW HB.out⟩⟩
   ·rw [if_neg c8] at H
    have c8b0 : decide (64 < (wrap64 (2 * (l0_0.length : Int)))) = false := decide_eq_false c8
    clear c8
    replace H := Option.bind_eq_some_iff.mp H
    obtain ⟨t440, A110, H⟩ := H
    try dsimp only at H
    have A11 := am A110
    clear A110
    have H' := am H
    clear H
    have hnb12 := NB438_439.out
    have hnc12 := NB439_438.out
    obtain ⟨hcz13_0, hcz13_1, hcz13_2, hfz13_0, hfz13_1, hfz13_2⟩ := xT3 (W := w4) BK438.out
    go_wp2_with (first | (go_at_call 18; (with_reducible refine (impl_TableOk.calls k _ _ l0_0 _ _ l0_1 a0_2 t440 _ ?side1 ?side2 ?side3 ?side4 A11.out).mono ?_); (case side1 => exact xC (Kd.C_below HR0_0.out HB.out)); (case side2 => exact HC0_0.out); (case side3 => exact xC (Kd.C_below HR0_1.out HB.out)); (case side4 => exact HC0_1.out); rintro e w14 ⟨rfl, hb⟩; replace BK438 := am (blk_below (xB BK438.out) hb); replace BK439 := am (blk_below (xB BK439.out) hb); replace HB := am (below_step (xW HB.out) hb); (try clear hb); ))
    go_meet
    case rel => exact ⟨_, (!t440), (xQ), H', ⟨by first | omega | exact Nat.le_refl _⟩, ⟨xB BK438.out⟩, ⟨xB BK439.out⟩, ⟨xW HB.out⟩⟩
 case rest =>
  clear HC2
  try clear c1
  try clear p2
  try clear c5
  try clear c5b0
  try clear c5b1
  try clear c6
  try clear p6
  try clear c8
  try clear c8b0
  try clear c9
  try clear c12
  try clear hcz10_0
  try clear hcz10_1
  try clear hcz10_2
  try clear hcz13_0
  try clear hcz13_1
  try clear hcz13_2
  try clear hcz7_0
  try clear hcz7_1
  try clear hcz7_2
  try clear hfz10_0
  try clear hfz10_1
  try clear hfz10_2
  try clear hfz13_0
  try clear hfz13_1
  try clear hfz13_2
  try clear hfz7_0
  try clear hfz7_1
  try clear hfz7_2
  obtain ⟨kq, x19_1, rfl, HA, HJ1, BK438, BK439, HB⟩ := hcut
  cases kq with
  | zero => exact absurd HA.out (by simp [impl_GrowTable.j0])
  | succ kj1 =>
   have H := HA.out
   clear HA
   simp only [impl_GrowTable.j0] at H
   by_cases c15 : x19_1 = true
   ·subst c15
    have H1 : (some (([] : List (S57)), ([] : List (S57)), 0, false)) = some (r1, r2, r3, r4) := by rw [if_pos rfl] at H; exact H
    clear H
    have H := H1
    clear H1
    simp only [Option.some.injEq, Prod.mk.injEq] at H
    obtain ⟨rfl, rfl, rfl, rfl⟩ := H
    have hnb16 := NB439_438.out
    have hnc16 := NB438_439.out
    obtain ⟨hcz17_0, hcz17_1, hcz17_2, hfz17_0, hfz17_1, hfz17_2⟩ := xT3 (W := wc) BK439.out
    go_wp2
    refine bodyPost_ret (results_ct rfl _ _ gb439 26 #[.slice none 0 0, .slice none 0 0, .int .i64 0] (0, 0) _ rfl (xP BK439.out) Try.underlying26 rfl (by kernel_rfl)) rfl ?_
    exact ⟨_, _, xV, by first | exact Kd.R_nil _ _ _ _ _ | exact Kd.N_nil _ _ _ _ _ | exact Kd.V_nil _ _ _ _ _ | exact Kd.Q_nil _ _ _ _ _ | exact Kd.S_nil _ _ _ _ _, by first | exact Kd.R_nil _ _ _ _ _ | exact Kd.N_nil _ _ _ _ _ | exact Kd.V_nil _ _ _ _ _ | exact Kd.Q_nil _ _ _ _ _ | exact Kd.S_nil _ _ _ _ _, xW HB.out⟩
   ·replace c15 := Bool.eq_false_iff.mpr c15
    subst c15
    have H1 : ((impl_newCells.f (wrap64 (2 * (l0_0.length : Int)))).bind fun t441 => ((impl_Cell_50.f l0_0).bind fun t444 => (some (t441, t444, 0, true)))) = some (r1, r2, r3, r4) := by rw [if_neg (show ¬ (false = true) by decide)] at H; exact H
    clear H
    have H := H1
    clear H1
    replace H := Option.bind_eq_some_iff.mp H
    obtain ⟨t441, A180, H⟩ := H
    try dsimp only at H
    have A18 := am A180
    clear A180
    replace H := Option.bind_eq_some_iff.mp H
    obtain ⟨t444, A190, H⟩ := H
    replace H : (some (t441, t444, 0, true)) = some (r1, r2, r3, r4) := H
    have A19 := am A190
    clear A190
    simp only [Option.some.injEq, Prod.mk.injEq] at H
    obtain ⟨rfl, rfl, rfl, rfl⟩ := H
    try go_wp2
    replace BK438 := am (blk_drew BK438.out)
    replace BK439 := am (blk_drew BK439.out)
    replace HB := am (below_drew1 HB.out)
    refine start_ (n := 11) (S := fun w' => w'.cell? ⟨gb438, 0, none⟩ = some (.slice A0_0 l0_0.length c0_0) ∧ w'.cell? ⟨gb438, 1, none⟩ = some (.slice A0_1 l0_1.length c0_1) ∧ w'.cell? ⟨gb438, 2, none⟩ = some (.int .i64 a0_2)) (ds := []) #[false, false, false, false, false, false, false, false, false, false, false] (by kernel_rfl) rfl rfl (xC3 BK438.out) (fun hHeld => ?_); refine with_tabW impl_GrowTable.tab3 impl_GrowTable.bits3 (fun HT_ HW_ => ?_)
    generalize wc.drew = w20 at BK438 BK439 HB hHeld ⊢
    refine xP1 (i := 0) (N := some 21) #[true, false, false, false, false, false, false, false, false, false, false] (any_of HT_.out (by kernel_rfl)) (h := ?_)
    refine xP1 (i := 5) (N := some 26) #[true, false, false, false, false, true, false, false, false, false, false] (any_of HT_.out (by kernel_rfl)) (h := ?_)
    refine take_ (i := 1) (N := some 22) (v := ?_) (a' := ?_) #[true, true, false, false, false, true, false, false, false, false, false] rfl rfl (take_ofW HT_.out HW_.out (by kernel_rfl)) (fun _ _ _ h => h) (Or.inl ⟨by rfl, ?_⟩) hHeld ?_ ?_
    rotate_left
    ·rintro w' ⟨s0, s1, s2⟩
     go_simp
     with_reducible rfl
    rotate_left
    ·simp only [Act.put, List.setIfInBounds_toArray, List.set_cons_zero, List.set_cons_succ, i64_w, i32_w]
     rfl
    refine xP1 (i := 2) (N := some 23) #[true, true, true, false, false, true, false, false, false, false, false] (any_of HT_.out (by kernel_rfl)) (h := ?_)
    refine xP1 (i := 3) (N := some 24) #[true, true, true, true, false, true, false, false, false, false, false] (any_of HT_.out (by kernel_rfl)) (h := ?_)
    refine take_ (i := 6) (N := some 27) (v := ?_) (a' := ?_) #[true, true, true, true, false, true, true, false, false, false, false] rfl rfl (take_ofW HT_.out HW_.out (by kernel_rfl)) (fun _ _ _ h => h) (Or.inl ⟨by rfl, ?_⟩) hHeld ?_ ?_
    rotate_left
    ·rintro w' ⟨s0, s1, s2⟩
     go_simp
     with_reducible rfl
    rotate_left
    ·simp only [Act.put, List.setIfInBounds_toArray, List.set_cons_zero, List.set_cons_succ, i64_w, i32_w]
     rfl
    refine one_ (i := 4) (N := some 25) #[true, true, true, true, true, true, true, false, false, false, false] rfl rfl (one_of HT_.out (by kernel_rfl)) (by decide) (fun K hK => ?_)
    refine xG1 49 Try.func49 #[.int .i64 (wrap64 (2 * (l0_0.length : Int)))] (h := ?_)
    with_reducible refine (impl_newCells.calls (wrap64 (2 * (l0_0.length : Int))) t441 _ A18.out).mono ?_
    rintro e w21 ⟨v442, rfl, ho0, hb⟩
    refine ⟨_, rfl, ?_⟩
    have HO443 := am (Kd.R_lower ho0 (below_size (xW HB.out)))
    replace BK438 := am (blk_below (xB BK438.out) hb)
    replace BK439 := am (blk_below (xB BK439.out) hb)
    replace HB := am (below_step (xW HB.out) hb)
    (try clear hb)
    (try clear ho0)
    refine hK.out _ _ (xC3 BK438.out) (fun hHeld => ?_)
    clear hK K
    refine xN1 (h := ?_)
    refine one_ (i := 7) (N := some 28) #[true, true, true, true, true, true, true, true, false, false, false] rfl rfl (one_of HT_.out (by kernel_rfl)) (by decide) (fun K hK => ?_)
    refine xG1 50 Try.func50 #[.slice A0_0 l0_0.length c0_0] (h := ?_)
    with_reducible refine (impl_Cell_50.calls _ _ l0_0 t444 _ ?side1 ?side2 A19.out).mono ?_
    (case side1 => exact xC (Kd.C_below HR0_0.out HB.out))
    (case side2 => exact HC0_0.out)
    rintro e w22 ⟨v445, rfl, ho0, hb⟩
    refine ⟨_, rfl, ?_⟩
    have HO446 := am (Kd.R_lower (Kd.R_new' ho0 (Kd.R_lt (xR HO443.out))) (below_size (xW HB.out)))
    replace HO443 := am (Kd.R_elder' (xR HO443.out) (Kd.R_base ho0) hb)
    replace BK438 := am (blk_below (xB BK438.out) hb)
    replace BK439 := am (blk_below (xB BK439.out) hb)
    replace HB := am (below_step (xW HB.out) hb)
    (try clear hb)
    (try clear ho0)
    obtain ⟨Ao23, co23, eo23⟩ := Kd.R_slice HO446.out
    (first | subst eo23 | (injection eo23 with f1_ f2_ f3_; have f4_ := f1_.symm; have f5_ := f3_.symm; clear f1_ f2_ f3_; subst f4_; subst f5_))
    obtain ⟨Ao24, co24, eo24⟩ := Kd.R_slice HO443.out
    (first | subst eo24 | (injection eo24 with f1_ f2_ f3_; have f4_ := f1_.symm; have f5_ := f3_.symm; clear f1_ f2_ f3_; subst f4_; subst f5_))
    refine hK.out _ _ (xC3 BK438.out) (fun hHeld => ?_)
    clear hK K
    refine xN1 (h := ?_)
    refine xP1 (i := 8) (N := some 29) #[true, true, true, true, true, true, true, true, true, false, false] (any_of HT_.out (by kernel_rfl)) (h := ?_)
    refine one_ (i := 9) (N := none) #[true, true, true, true, true, true, true, true, true, true, false] rfl rfl (one_of HT_.out (by kernel_rfl)) (by decide) (fun K hK => ?_)
    have hs25 : w22.cell? ⟨gb439, 0, none⟩ = some (.slice none 0 0) := (blk_cell BK439.out 0).trans rfl
    have hfs25 := blk_frozen BK439.out 0
    have hns25_0 := NB438_439.out
    have hms25_0 := NB439_438.out
    have hs26 : w22.cell? ⟨gb439, 1, none⟩ = some (.slice none 0 0) := (blk_cell BK439.out 1).trans rfl
    have hfs26 := blk_frozen BK439.out 1
    have hns26_0 := NB438_439.out
    have hms26_0 := NB439_438.out
    have hs27 : w22.cell? ⟨gb439, 2, none⟩ = some (.int .i64 0) := (blk_cell BK439.out 2).trans rfl
    have hfs27 := blk_frozen BK439.out 2
    have hns27_0 := NB438_439.out
    have hms27_0 := NB439_438.out
    refine skip_ (w1 := ?_) (by rfl) rfl ?_ ?_
    rotate_left
    ·go_simp
     rfl
    refine hK.out _ _ ⟨((cell_far (p := ⟨gb439, _, none⟩) NB438_439.out _).trans (((cell_far (p := ⟨gb439, _, none⟩) NB438_439.out _).trans (((cell_far (p := ⟨gb439, _, none⟩) NB438_439.out _).trans (hHeld.1)))))), ((cell_far (p := ⟨gb439, _, none⟩) NB438_439.out _).trans (((cell_far (p := ⟨gb439, _, none⟩) NB438_439.out _).trans (((cell_far (p := ⟨gb439, _, none⟩) NB438_439.out _).trans (hHeld.2.1)))))), ((cell_far (p := ⟨gb439, _, none⟩) NB438_439.out _).trans (((cell_far (p := ⟨gb439, _, none⟩) NB438_439.out _).trans (((cell_far (p := ⟨gb439, _, none⟩) NB438_439.out _).trans (hHeld.2.2))))))⟩ (fun hHeld => ?_)
    clear hK K
    refine xP1 (i := 10) (N := some 3) #[true, true, true, true, true, true, true, true, true, true, true] (any_of HT_.out (by kernel_rfl)) (h := ?_)
    refine done_ (done_of HT_.out (by kernel_rfl)) ?_
    try go_wp2
    refine bodyPost_ret (results_ct rfl _ _ gb439 26 #[.slice Ao24 t441.length co24, .slice Ao23 t444.length co23, .int .i64 0] (0, 0) _ rfl (xP BK439.out) Try.underlying26 rfl (by kernel_rfl)) rfl ?_
    exact ⟨_, _, xV, Kd.R_mono (xR HO443.out) (fun _ hk => hk.2), Kd.R_mono (xR HO446.out) (fun _ hk => hk.2), xW HB.out⟩
def spec_DrawPlaces.l0 : Nat → List Int → Int → List Int → Int → Int → Option (List Int)
 | 0, _, _, _, _, _ => none
 | k + 1, x4, x5, x451000, x451001, x451002 => if x5 < 12 then ((spec_l01Below.f x451000 x451001 x451002 10000).bind fun bt457 => (if x4.length < 17592186044416 then (spec_DrawPlaces.l0 k (x4 ++ [bt457.1]) (wrap64 (x5 + 1)) x451000 bt457.2.1 bt457.2.2) else (none))) else (some x4)
def spec_DrawPlaces.f (k : Nat) (l0 : List Int) : Option (List Int) := (spec_l01New.f k l0).bind fun bt447 => ((spec_l01Byte.f bt447.1 bt447.2.1 bt447.2.2).bind fun bt451 => (spec_DrawPlaces.l0 k (([] : List Int)) 0 bt447.1 bt451.2.1 bt451.2.2))
set_option maxHeartbeats 8000000 in
set_option maxRecDepth 100000 in
theorem spec_DrawPlaces.calls (k : Nat) (A0 : Option Addr) (c0 : Nat) (l0 : List Int) (r : List Int) (w : World) (hr0 : Kd.C (Kd.int .u8) w A0 l0.length l0) (hc0 : l0.length ≤ c0) (h : spec_DrawPlaces.f k l0 = some r) :
  Calls Try.prog 19 #[.slice A0 l0.length c0] w fun e w' => ∃ v0_ : Value, e = .returned (v0_) ∧ Kd.R (Kd.int .i64) 3 w' w.heap.size (fun _ => True) v0_ r ∧ Below w.heap.size w w' := by
 have HR0 := am hr0
 have HC0 := am hc0
 clear hr0 hc0
 have HB := am (Below.refl w.heap.size w)
 have H : ((spec_l01New.f k l0).bind fun bt447 => ((spec_l01Byte.f bt447.1 bt447.2.1 bt447.2.2).bind fun bt451 => (spec_DrawPlaces.l0 k (([] : List Int)) 0 bt447.1 bt451.2.1 bt451.2.2))) = some r := h
 clear h
 replace H := Option.bind_eq_some_iff.mp H
 obtain ⟨⟨t447, t448, t449⟩, A20, H⟩ := H
 try dsimp only at H
 have A2 := am A20
 clear A20
 replace H := Option.bind_eq_some_iff.mp H
 obtain ⟨⟨t451, t452, t453⟩, A30, H⟩ := H
 try dsimp only at H
 have A3 := am A30
 clear A30
 obtain ⟨y454, hy454⟩ : ∃ y_ : List Int, y_ = (([] : List Int)) := ⟨_, rfl⟩
 replace H : (spec_DrawPlaces.l0 k y454 0 t447 t452 t453) = some r := by first | (rw [hy454]; with_reducible exact H) | (have H2_ := (Option.bind_some _ _).symm.trans H; rw [hy454]; with_reducible exact H2_) | (have H2_ := (Option.bind_some _ _).symm.trans H; with_reducible exact H2_) | with_reducible exact H | (rw [hy454]; exact H) | exact H
 have Ny454 := am hy454
 clear hy454
 have H' := am H
 clear H
 go_enter Try.func19, Try.ntmps19
 go_wp2_with (first | ((with_reducible refine gate_callee (f := 44) rfl ?_); refine xG (some 7) 44 Try.func44 #[.slice A0 l0.length c0] (h := ?_); (with_reducible refine (spec_l01New.calls k _ _ l0 t447 t448 t449 w _ ?side1 ?side2 ?side3 A2.out).mono ?_); (case side1 => exact xW HB.out); (case side2 => exact HR0.out); (case side3 => exact HC0.out); rintro e w4 ⟨g450, rfl, hi, hb, hb2⟩; refine ⟨_, rfl, ?_⟩; replace HB := am (hb); have HI450 := am (hi); (try clear hb); (try clear hb2); (try clear hi)) | ((with_reducible refine gate_callee (f := 56) rfl ?_); refine xG (some 9) 56 Try.func56 #[.pointer (some ⟨g450, 0, none⟩)] (h := ?_); (with_reducible refine (spec_l01Byte.calls g450 t447 t448 t449 t451 t452 t453 w _ ?side1 ?side2 A3.out).mono ?_); (case side1 => exact xH85 HI450.out); (case side2 => exact xWI HB.out (IsS85.ge HI450.out)); rintro e w5 ⟨rfl, hi, hb, hk⟩; refine ⟨_, rfl, ?_⟩; replace HB := am (hb); replace HI450 := am (hi); (try clear hb); (try clear hk); (try clear hi)) | ((with_reducible refine gate_dst (N := 10) rfl ?_); refine Kd.R_lit (Kd.int .i64) _ 3 ?hg (N := 10) ?hd (xs := ([] : List Int)) (inner := []) (ok := fun _ => True) (okp := fun _ => True) ?hr ?hp (fun _ hk => hk) trivial (Below.refl _ _) (Nat.le_refl _) (by simp) ?_; (case hd => rfl); (case hg => rfl); (case hr => first | (go_simp; done) | (go_simp; rfl)); (case hp => exact (Reps.none _ _)); intro v455 w6 ho7 hb hg_ hnew_; clear hg_ hnew_; (first | rw [← Ny454.out] at ho7 | (simp only [Int.reduceToNat] at ho7; rw [← Ny454.out] at ho7)); have HO456 := am (Kd.R_lower ho7 (below_size (xWI HB.out (IsS85.ge HI450.out)))); replace HB := am (below_step (xWI HB.out (IsS85.ge HI450.out)) hb); replace HI450 := am (IsS85.below (xH85 HI450.out) hb); clear hb ho7))
 go_loopg [4, 5] k (fun kq v4 v5 w' => ∃ (x4_1 : List Int) (x5_1 : Int) (x451001_1 : Int) (x451002_1 : Int), v5 = .int .i64 x5_1 ∧ Aside0 (spec_DrawPlaces.l0 kq x4_1 x5_1 t447 x451001_1 x451002_1 = some r) ∧ Aside0 (kq ≤ k) ∧ Aside0 (Kd.R (Kd.int .i64) 3 w' w.heap.size (fun _ => True) v4 x4_1) ∧ Aside0 (IsS85 w w' g450 t447 x451001_1 x451002_1) ∧ Aside0 (Below w.heap.size w w'))
 case atStart => exact ⟨(y454), (0), (t452), (t453), (xQ), H', ⟨Nat.le_refl _⟩, ⟨xR HO456.out⟩, ⟨xH85 HI450.out⟩, ⟨xWI HB.out (IsS85.ge HI450.out)⟩⟩
 case round =>
  clear H'
  try clear c1
  try clear p2
  try clear c4
  try clear c5
  obtain ⟨x4_1, x5_1, x451001_1, x451002_1, rfl, HA, HK1, HO_4, HI450, HB⟩ := hrel
  cases gk with
  | zero => exact absurd HA.out (by simp [spec_DrawPlaces.l0])
  | succ k1 =>
   have H := HA.out
   clear HA
   simp only [spec_DrawPlaces.l0] at H
   by_cases c8 : x5_1 < 12
   ·rw [if_pos c8] at H
    have c8b0 : decide (x5_1 < 12) = true := decide_eq_true c8
    clear c8
    replace H := Option.bind_eq_some_iff.mp H
    obtain ⟨⟨t457, t458, t459⟩, A90, H⟩ := H
    try dsimp only at H
    have A9 := am A90
    clear A90
    by_cases c10 : x4_1.length < 17592186044416
    ·rw [if_pos c10] at H
     have LMc10 := am c10
     clear c10
     obtain ⟨y460, hy460⟩ : ∃ y_ : List Int, y_ = (x4_1 ++ [t457]) := ⟨_, rfl⟩
     replace H : (spec_DrawPlaces.l0 k1 y460 (wrap64 (x5_1 + 1)) t447 t458 t459) = some r := by first | (rw [hy460]; with_reducible exact H) | (have H2_ := (Option.bind_some _ _).symm.trans H; rw [hy460]; with_reducible exact H2_) | (have H2_ := (Option.bind_some _ _).symm.trans H; with_reducible exact H2_) | with_reducible exact H | (rw [hy460]; exact H) | exact H
     have Ny460 := am hy460
     clear hy460
     have H' := am H
     clear H
     go_wp2_with (first | ((with_reducible refine gate_callee (f := 57) rfl ?_); refine xG (some 17) 57 Try.func57 #[.pointer (some ⟨g450, 0, none⟩), .int .i64 10000] (h := ?_); (with_reducible refine (spec_l01Below.calls g450 t447 x451001_1 x451002_1 10000 t457 t458 t459 w _ ?side1 ?side2 A9.out).mono ?_); (case side1 => exact xH85 HI450.out); (case side2 => exact xWI HB.out (IsS85.ge HI450.out)); rintro e w11 ⟨rfl, hi, hb, hk⟩; refine ⟨_, rfl, ?_⟩; replace HO_4 := am (Kd.R_mono (Kd.R_keep (IsS85.apart (show IsS85 w _ g450 t447 x451001_1 x451002_1 from xH85 HI450.out) (xR HO_4.out) (by decide)) hk (fun _ h => h.2)) (fun _ h => h.1)); replace HB := am (hb); replace HI450 := am (hi); (try clear hb); (try clear hk); (try clear hi)) | ((with_reducible refine gate_builtin (b := .append) (xs := #[.tmp 15, .tmp 18]) rfl ?_); at_builtin; refine Kd.R_append (Kd.int .i64) (w0 := w) w.heap.size rfl (.tmp 15) (.tmp 18) 33 3 (.int .i64 0) 8 rfl Try.underlying33 info3 rfl (by decide) (by omega) u4 x4_1 t457 [.int .i64 t457] (fun _ => True) (fun _ => False) rfl rfl ?aP (fun _ hk => hk.elim) ?aF ?aO ?aB ?aS ?aL ?_; (case aP => exact rfl); (case aB => exact (xWI HB.out (IsS85.ge HI450.out))); (case aF => exact (fun _ _ => trivial)); (case aO => exact (xR HO_4.out)); (case aS => exact (below_size (xWI HB.out (IsS85.ge HI450.out)))); (case aL => have := LMc10.out; omega); intro v461 w12 ho hb hg hat; rw [← Ny460.out] at ho; replace HI450 := am (IsS85.grown (xH85 HI450.out) hg (IsS85.own_ne HI450.out HO_4.out (by decide))); replace HB := am (hb); have HO462 := am (ho); clear HO_4; clear ho hb hg hat))
     go_roundg k1
     case measure => have := HK1.out; omega
     case rel => exact ⟨(y460), (wrap64 (x5_1 + 1)), (t458), (t459), (xQ), H', ⟨by have := HK1.out; omega⟩, ⟨xR HO462.out⟩, ⟨xH85 HI450.out⟩, ⟨xWI HB.out (IsS85.ge HI450.out)⟩⟩
    ·rw [if_neg c10] at H
     exact absurd H (by simp)
   ·rw [if_neg c8] at H
    have c8b0 : decide (x5_1 < 12) = false := decide_eq_false c8
    clear c8
    obtain rfl := Option.some.inj H
    go_wp2
    go_ret
    exact ⟨_, xV, xR HO_4.out, xWI HB.out (IsS85.ge HI450.out)⟩
def impl_KeysOf.f (k : Nat) (l0_0 : List (S57)) (l0_1 : List (S57)) (a0_2 : Int) : Option (List ByteArray) := (impl_TableOk.f k l0_0 l0_1 a0_2).bind fun t464 => (if t464 = true then ((impl_Table_keys.f k l0_0 l0_1 a0_2).bind fun t465 => (some t465)) else (some ([] : List ByteArray)))
set_option maxHeartbeats 8000000 in
set_option maxRecDepth 100000 in
theorem impl_KeysOf.calls (k : Nat) (A0_0 : Option Addr) (c0_0 : Nat) (l0_0 : List (S57)) (A0_1 : Option Addr) (c0_1 : Nat) (l0_1 : List (S57)) (a0_2 : Int) (r : List ByteArray) (w : World) (hr0_0 : Kd.C k57 w A0_0 l0_0.length l0_0) (hc0_0 : l0_0.length ≤ c0_0) (hr0_1 : Kd.C k57 w A0_1 l0_1.length l0_1) (hc0_1 : l0_1.length ≤ c0_1) (h : impl_KeysOf.f k l0_0 l0_1 a0_2 = some r) :
  Calls Try.prog 20 #[.agg #[.slice A0_0 l0_0.length c0_0, .slice A0_1 l0_1.length c0_1, .int .i64 a0_2]] w fun e w' => ∃ v0_ : Value, e = .returned (v0_) ∧ Kd.R Kd.string 9 w' w.heap.size (fun _ => True) v0_ r ∧ Below w.heap.size w w' := by
 have hu26 := Try.underlying26
 have HR0_0 := am hr0_0
 have HC0_0 := am hc0_0
 clear hr0_0 hc0_0
 have HR0_1 := am hr0_1
 have HC0_1 := am hc0_1
 clear hr0_1 hc0_1
 have HB := am (Below.refl w.heap.size w)
 have H : ((impl_TableOk.f k l0_0 l0_1 a0_2).bind fun t464 => (if t464 = true then ((impl_Table_keys.f k l0_0 l0_1 a0_2).bind fun t465 => (some t465)) else (some ([] : List ByteArray)))) = some r := h
 clear h
 replace H := Option.bind_eq_some_iff.mp H
 obtain ⟨t464, A20, H⟩ := H
 try dsimp only at H
 have A2 := am A20
 clear A20
 by_cases c3 : t464 = true
 ·subst c3
  have H1 : ((impl_Table_keys.f k l0_0 l0_1 a0_2).bind fun t465 => (some t465)) = some r := by rw [if_pos rfl] at H; exact H
  clear H
  have H := H1
  clear H1
  replace H := Option.bind_eq_some_iff.mp H
  obtain ⟨t465, A40, H⟩ := H
  replace H : (some t465) = some r := H
  have A4 := am A40
  clear A40
  obtain rfl := Option.some.inj H
  go_enter Try.func20, Try.ntmps20
  go_wp2_with (first | ((with_reducible refine gate_dst (N := 1) rfl ?_); refine xE (N := 1) (cs := #[.slice A0_0 l0_0.length c0_0, .slice A0_1 l0_1.length c0_1, .int .i64 a0_2]) (t := 26) (h := ?_); intro gb463 hg w5 hbox hb; have BK463 := am (hbox); have GW463 := am (xS hg HB.out); have GE463 := am (xS hg HB.out); replace HB := am (below_step (xW HB.out) hb); clear hb hbox hg; obtain ⟨hcz6_0, hcz6_1, hcz6_2, hfz6_0, hfz6_1, hfz6_2⟩ := xT3 (W := w5) BK463.out) | ((with_reducible refine gate_callee (f := 18) rfl ?_); refine xG (some 4) 18 Try.func18 #[.agg #[.slice A0_0 l0_0.length c0_0, .slice A0_1 l0_1.length c0_1, .int .i64 a0_2]] (h := ?_); (with_reducible refine (impl_TableOk.calls k _ _ l0_0 _ _ l0_1 a0_2 true _ ?side1 ?side2 ?side3 ?side4 A2.out).mono ?_); (case side1 => exact xC (Kd.C_below HR0_0.out HB.out)); (case side2 => exact HC0_0.out); (case side3 => exact xC (Kd.C_below HR0_1.out HB.out)); (case side4 => exact HC0_1.out); rintro e w7 ⟨rfl, hb⟩; refine ⟨_, rfl, ?_⟩; replace BK463 := am (blk_below (xB BK463.out) hb); replace HB := am (below_step (xW HB.out) hb); (try clear hb); obtain ⟨hcz8_0, hcz8_1, hcz8_2, hfz8_0, hfz8_1, hfz8_2⟩ := xT3 (W := w7) BK463.out) | ((with_reducible refine gate_callee (f := 53) rfl ?_); refine xG (some 7) 53 Try.func53 #[.agg #[.slice A0_0 l0_0.length c0_0, .slice A0_1 l0_1.length c0_1, .int .i64 a0_2]] (h := ?_); (with_reducible refine (impl_Table_keys.calls k (fun k_ => k_ < w.heap.size) _ _ l0_0 (fun k_ => k_ < w.heap.size) _ _ l0_1 a0_2 t465 _ ?side1 ?side2 A4.out).mono ?_); (case side1 => exact Kd.V_mk HC0_0.out (Kd.F_below (Kd.C_F k57_heap HR0_0.out) (xW HB.out))); (case side2 => exact Kd.V_mk HC0_1.out (Kd.F_below (Kd.C_F k57_heap HR0_1.out) (xW HB.out))); rintro e w9 ⟨v466, rfl, ho0, hb⟩; refine ⟨_, rfl, ?_⟩; have HO467 := am (Kd.R_lower (Kd.R_mono (ok' := fun k_ => True) ho0 (fun _ hk_ => trivial)) (below_size (xW HB.out))); replace BK463 := am (blk_below (xB BK463.out) hb); replace HB := am (below_step (xW HB.out) hb); (try clear hb); (try clear ho0)))
  go_ret
  exact ⟨_, xV, xR HO467.out, xW HB.out⟩
 ·replace c3 := Bool.eq_false_iff.mpr c3
  subst c3
  have H1 : (some ([] : List ByteArray)) = some r := by rw [if_neg (show ¬ (false = true) by decide)] at H; exact H
  clear H
  have H := H1
  clear H1
  obtain rfl := Option.some.inj H
  go_enter Try.func20, Try.ntmps20
  go_wp2_with (first | ((with_reducible refine gate_dst (N := 1) rfl ?_); refine xE (N := 1) (cs := #[.slice A0_0 l0_0.length c0_0, .slice A0_1 l0_1.length c0_1, .int .i64 a0_2]) (t := 26) (h := ?_); intro gb463 hg w10 hbox hb; have BK463 := am (hbox); have GW463 := am (xS hg HB.out); have GE463 := am (xS hg HB.out); replace HB := am (below_step (xW HB.out) hb); clear hb hbox hg; obtain ⟨hcz11_0, hcz11_1, hcz11_2, hfz11_0, hfz11_1, hfz11_2⟩ := xT3 (W := w10) BK463.out) | ((with_reducible refine gate_callee (f := 18) rfl ?_); refine xG (some 4) 18 Try.func18 #[.agg #[.slice A0_0 l0_0.length c0_0, .slice A0_1 l0_1.length c0_1, .int .i64 a0_2]] (h := ?_); (with_reducible refine (impl_TableOk.calls k _ _ l0_0 _ _ l0_1 a0_2 false _ ?side1 ?side2 ?side3 ?side4 A2.out).mono ?_); (case side1 => exact xC (Kd.C_below HR0_0.out HB.out)); (case side2 => exact HC0_0.out); (case side3 => exact xC (Kd.C_below HR0_1.out HB.out)); (case side4 => exact HC0_1.out); rintro e w12 ⟨rfl, hb⟩; refine ⟨_, rfl, ?_⟩; replace BK463 := am (blk_below (xB BK463.out) hb); replace HB := am (below_step (xW HB.out) hb); (try clear hb); ))
  go_ret
  exact ⟨_, xV, by first | exact Kd.R_nil _ _ _ _ _ | exact Kd.N_nil _ _ _ _ _ | exact Kd.V_nil _ _ _ _ _ | exact Kd.Q_nil _ _ _ _ _ | exact Kd.S_nil _ _ _ _ _, xW HB.out⟩
def laws_sameTexts.l0 : Nat → List ByteArray → List ByteArray → Int → Option (Bool)
 | 0, _, _, _ => none
 | k + 1, x0, x1, x5 => if x5 < (x0.length : Int) then (if 0 ≤ x5 then (if x5 < (x1.length : Int) then (if (rdOf ByteArray.empty x0 x5).toList = (rdOf ByteArray.empty x1 x5).toList then (laws_sameTexts.l0 k x0 x1 (wrap64 (x5 + 1))) else (some false)) else (none)) else (none)) else (some true)
def laws_sameTexts.f (k : Nat) (l0 : List ByteArray) (l1 : List ByteArray) : Option (Bool) := if (l0.length : Int) = (l1.length : Int) then (laws_sameTexts.l0 k l0 l1 0) else (some false)
set_option maxHeartbeats 8000000 in
set_option maxRecDepth 100000 in
theorem laws_sameTexts.calls (k : Nat) (A0 : Option Addr) (c0 : Nat) (l0 : List ByteArray) (A1 : Option Addr) (c1 : Nat) (l1 : List ByteArray) (r : Bool) (w : World) (hr0 : Kd.C Kd.string w A0 l0.length l0) (hc0 : l0.length ≤ c0) (hr1 : Kd.C Kd.string w A1 l1.length l1) (hc1 : l1.length ≤ c1) (h : laws_sameTexts.f k l0 l1 = some r) :
  Calls Try.prog 21 #[.slice A0 l0.length c0, .slice A1 l1.length c1] w fun e w' => e = .returned (.bool r) ∧ Drawn0 w w' := by
 have HR0 := am hr0
 have HC0 := am hc0
 clear hr0 hc0
 have HR1 := am hr1
 have HC1 := am hc1
 clear hr1 hc1
 have H : (if (l0.length : Int) = (l1.length : Int) then (laws_sameTexts.l0 k l0 l1 0) else (some false)) = some r := h
 clear h
 by_cases c3 : (l0.length : Int) = (l1.length : Int)
 ·rw [if_pos c3] at H
  have c3b0 : ((l0.length : Int) == (l1.length : Int)) = true := beq_iff_eq.mpr c3
  have c3b1 : ((l0.length : Int) != (l1.length : Int)) = false := bne_eq_false_iff_eq.mpr c3
  have c3b2 : (l0.length == l1.length) = true := by first | simpa using c3 | (simp at c3 ⊢; omega)
  clear c3
  have H' := am H
  clear H
  go_enter Try.func21, Try.ntmps21
  go_wp2
  repeat (go_quiet (fail); try go_wp2)
  go_loopg [5] k (fun kq v5 w' => ∃ (x5_1 : Int), v5 = .int .i64 x5_1 ∧ Aside0 (laws_sameTexts.l0 kq l0 l1 x5_1 = some r) ∧ Aside0 (kq ≤ k) ∧ Drawn0 w w')
  case atStart => exact ⟨(0), (xQ), H', ⟨Nat.le_refl _⟩, by repeat (first | exact Drawn0.refl _ | apply Drawn0.step)⟩
  case round =>
   clear H'
   try clear c1
   try clear c2
   try clear p2
   try clear c3
   try clear c3b0
   try clear c3b1
   try clear c3b2
   obtain ⟨x5_1, rfl, HA, HK1, ⟨m1, rfl⟩⟩ := hrel
   cases gk with
   | zero => exact absurd HA.out (by simp [laws_sameTexts.l0])
   | succ k1 =>
    have H := HA.out
    clear HA
    simp only [laws_sameTexts.l0] at H
    by_cases c4 : x5_1 < (l0.length : Int)
    ·rw [if_pos c4] at H
     have c4b0 : decide (x5_1 < (l0.length : Int)) = true := decide_eq_true c4
     clear c4
     by_cases c5 : 0 ≤ x5_1
     ·rw [if_pos c5] at H
      have c5b0 : decide (0 ≤ x5_1) = true := decide_eq_true c5
      clear c5
      by_cases c6 : x5_1 < (l1.length : Int)
      ·rw [if_pos c6] at H
       have c6b0 : decide (x5_1 < (l1.length : Int)) = true := decide_eq_true c6
       clear c6
       by_cases c7 : (rdOf ByteArray.empty l0 x5_1).toList = (rdOf ByteArray.empty l1 x5_1).toList
       ·rw [if_pos c7] at H
        have c7b0 : ((rdOf ByteArray.empty l0 x5_1).toList == (rdOf ByteArray.empty l1 x5_1).toList) = true := beq_iff_eq.mpr c7
        have c7b1 : ((rdOf ByteArray.empty l0 x5_1).toList != (rdOf ByteArray.empty l1 x5_1).toList) = false := bne_eq_false_iff_eq.mpr c7
        clear c7
        have H' := am H
        clear H
        have p468 : 0 ≤ (x5_1 : Int) := of_decide_eq_true (by assumption)
        have q468 : x5_1 < (l0.length : Int) := of_decide_eq_true (by assumption)
        obtain ⟨ad468, e468, hx468_0⟩ := Kd.at_string HR0.out x5_1 p468 q468
        cases e468
        replace p468 := eq_true p468
        replace q468 := eq_true q468
        have p469 : 0 ≤ (x5_1 : Int) := of_decide_eq_true (by assumption)
        have q469 : x5_1 < (l1.length : Int) := of_decide_eq_true (by assumption)
        obtain ⟨ad469, e469, hx469_0⟩ := Kd.at_string HR1.out x5_1 p469 q469
        cases e469
        replace p469 := eq_true p469
        replace q469 := eq_true q469
        go_wp2
        repeat (go_quiet (fail); try go_wp2)
        go_roundg k1
        case measure => have := HK1.out; omega
        case rel => exact ⟨(wrap64 (x5_1 + 1)), (xQ), H', ⟨by have := HK1.out; omega⟩, by repeat (first | exact Drawn0.refl _ | apply Drawn0.step)⟩
       ·rw [if_neg c7] at H
        have c7b0 : ((rdOf ByteArray.empty l0 x5_1).toList == (rdOf ByteArray.empty l1 x5_1).toList) = false := beq_eq_false_iff_ne.mpr c7
        have c7b1 : ((rdOf ByteArray.empty l0 x5_1).toList != (rdOf ByteArray.empty l1 x5_1).toList) = true := bne_iff_ne.mpr c7
        obtain rfl := Option.some.inj H
        have p468 : 0 ≤ (x5_1 : Int) := of_decide_eq_true (by assumption)
        have q468 : x5_1 < (l0.length : Int) := of_decide_eq_true (by assumption)
        obtain ⟨ad468, e468, hx468_0⟩ := Kd.at_string HR0.out x5_1 p468 q468
        cases e468
        replace p468 := eq_true p468
        replace q468 := eq_true q468
        have p469 : 0 ≤ (x5_1 : Int) := of_decide_eq_true (by assumption)
        have q469 : x5_1 < (l1.length : Int) := of_decide_eq_true (by assumption)
        obtain ⟨ad469, e469, hx469_0⟩ := Kd.at_string HR1.out x5_1 p469 q469
        cases e469
        replace p469 := eq_true p469
        replace q469 := eq_true q469
        go_wp2
        repeat (go_quiet (fail); try go_wp2)
        go_ret
        exact ⟨by first | rfl | (simp; done) | (simp [*]; done), by repeat (first | exact Drawn0.refl _ | apply Drawn0.step)⟩
      ·rw [if_neg c6] at H
       exact absurd H (by simp)
     ·rw [if_neg c5] at H
      exact absurd H (by simp)
    ·rw [if_neg c4] at H
     have c4b0 : decide (x5_1 < (l0.length : Int)) = false := decide_eq_false c4
     clear c4
     obtain rfl := Option.some.inj H
     go_wp2
     repeat (go_quiet (fail); try go_wp2)
     go_ret
     exact ⟨by first | rfl | (simp; done) | (simp [*]; done), by repeat (first | exact Drawn0.refl _ | apply Drawn0.step)⟩
 ·rw [if_neg c3] at H
  have c3b0 : ((l0.length : Int) == (l1.length : Int)) = false := beq_eq_false_iff_ne.mpr c3
  have c3b1 : ((l0.length : Int) != (l1.length : Int)) = true := bne_iff_ne.mpr c3
  have c3b2 : (l0.length == l1.length) = false := by first | simpa using c3 | (simp at c3 ⊢; omega)
  obtain rfl := Option.some.inj H
  go_enter Try.func21, Try.ntmps21
  go_wp2
  repeat (go_quiet (fail); try go_wp2)
  go_ret
  exact ⟨by first | rfl | (simp; done) | (simp [*]; done), by repeat (first | exact Drawn0.refl _ | apply Drawn0.step)⟩
end Go.Proofs.Ytmahoekbedgbcaa.HFnGrows
