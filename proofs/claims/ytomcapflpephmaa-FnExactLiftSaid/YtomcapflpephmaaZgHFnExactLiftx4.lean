/- What the row of the law needs of the printed and the plain texts. -/
import Derived.Test.YtomcapflpephmaaZgHX
import Derived.Test.YtomcapflpephmaaZgHFnExactLiftx0
import Derived.Test.YtomcapflpephmaaZgHFnExactLiftx3
namespace Go.Proofs.Ytomcapflpephmaa.HFnExactLift
open Go.RowKit Go.Proofs.YtomcapflpephmaaW.PrintWords Go.Proofs.YtomcapflpephmaaW.PrintLast Go.Proofs.YtomcapflpephmaaW.PrintMore
attribute [local go_sem] max2_int min2_int max_two min_two max_three min_three max_four min_four
set_option linter.unusedVariables false
set_option linter.unusedSimpArgs false
def spec_l03At.j0 : Nat → Int → Bool → List (S50) → Int → Option (Int)
 | 0, _, _, _, _ => none
 | k + 1, x1, x20, x149000, x149001 => if x20 = true then (some (-1)) else (if 0 ≤ (Int.tmod x1 24) then (if (Int.tmod x1 24) < (x149000.length : Int) then (if ((rd_T50 x149000 (Int.tmod x1 24)).f1 = true) then (if ((rd_T50 x149000 (Int.tmod x1 24)).f0) = (wrap64 (Int.tdiv x1 24)) then (some (Int.tmod x1 24)) else (some (-1))) else (some (-1))) else (none)) else (none))
def spec_l03At.f (k : Nat) (l0_0 : List (S50)) (a0_1 : Int) (a1 : Int) : Option (Int) := (spec_ArenaOk.f k l0_0 a0_1).bind fun t149 => (if t149 = true then (if a1 < 0 then (spec_l03At.j0 k a1 true l0_0 a0_1) else (spec_l03At.j0 k a1 (decide ((Int.tmod a1 24) ≥ (l0_0.length : Int))) l0_0 a0_1)) else (spec_l03At.j0 k a1 true l0_0 a0_1))
set_option maxHeartbeats 8000000 in
set_option maxRecDepth 100000 in
theorem spec_l03At.calls (k : Nat) (A0_0 : Option Addr) (c0_0 : Nat) (l0_0 : List (S50)) (a0_1 : Int) (a1 : Int) (r : Int) (w : World) (hr0_0 : Kd.C k50 w A0_0 l0_0.length l0_0) (hc0_0 : l0_0.length ≤ c0_0) (h : spec_l03At.f k l0_0 a0_1 a1 = some r) :
  Calls Try.prog 38 #[.agg #[.slice A0_0 l0_0.length c0_0, .int .i64 a0_1], .int .i64 a1] w fun e w' => e = .returned (.int .i64 r) ∧ Below w.heap.size w w' := by
 have hu42 := Try.underlying42
 have HR0_0 := am hr0_0
 have HC0_0 := am hc0_0
 clear hr0_0 hc0_0
 have HB := am (Below.refl w.heap.size w)
 have H : ((spec_ArenaOk.f k l0_0 a0_1).bind fun t149 => (if t149 = true then (if a1 < 0 then (spec_l03At.j0 k a1 true l0_0 a0_1) else (spec_l03At.j0 k a1 (decide ((Int.tmod a1 24) ≥ (l0_0.length : Int))) l0_0 a0_1)) else (spec_l03At.j0 k a1 true l0_0 a0_1))) = some r := h
 clear h
 have HC3 := am H
 clear H
 go_enter Try.func38, Try.ntmps38
 go_upto_region 1 with (first | ((with_reducible refine gate_dst (N := 2) rfl ?_); (try (refine gate_guard (by rfl) ?_; dsimp only)); refine xE (N := 2) (cs := #[.slice A0_0 l0_0.length c0_0, .int .i64 a0_1]) (t := 42) (h := ?_); intro gb148 hg w4 hbox hb; have BK148 := am (hbox); have GW148 := am (xS hg HB.out); have GE148 := am (xS hg HB.out); replace HB := am (below_step (xW HB.out) hb); clear hb hbox hg))
 (try simp only [Act.put, List.setIfInBounds_toArray, List.set_cons_zero, List.set_cons_succ])
 go_cut [20] (fun v20 wc => ∃ (kq : Nat) (x20_2 : Bool), v20 = .bool x20_2 ∧ Aside0 (spec_l03At.j0 kq a1 x20_2 l0_0 a0_1 = some r) ∧ Aside0 (kq ≤ k) ∧ Aside0 (wc.heap[gb148]? = some (.cells #[(.slice A0_0 l0_0.length c0_0), .int .i64 a0_1] 42 (0, 0))) ∧ Aside0 (Below w.heap.size w wc))
 case first =>
  have H := HC3.out
  clear HC3
  replace H := Option.bind_eq_some_iff.mp H
  obtain ⟨t149, A50, H⟩ := H
  try dsimp only at H
  have A5 := am A50
  clear A50
  by_cases c6 : t149 = true
  ·subst c6
   have H1 : (if a1 < 0 then (spec_l03At.j0 k a1 true l0_0 a0_1) else (spec_l03At.j0 k a1 (decide ((Int.tmod a1 24) ≥ (l0_0.length : Int))) l0_0 a0_1)) = some r := by rw [if_pos rfl] at H; exact H
   clear H
   have H := H1
   clear H1
   by_cases c7 : a1 < 0
   ·rw [if_pos c7] at H
    have c7b0 : decide (a1 < 0) = true := decide_eq_true c7
    clear c7
    (first | rw [c7b0] | (simp only [i64_w, i32_w]; rw [c7b0]) | skip)
    have H' := am H
    clear H
    obtain ⟨hcz8_0, hcz8_1, hfz8_0, hfz8_1⟩ := xT2 (W := w4) BK148.out
    go_wp2_with (first | ((with_reducible refine gate_callee (f := 64) rfl ?_); refine xG (some 7) 64 Try.func64 #[.agg #[.slice A0_0 l0_0.length c0_0, .int .i64 a0_1]] (h := ?_); (with_reducible refine (spec_ArenaOk.calls k _ _ l0_0 a0_1 true _ ?side1 ?side2 A5.out).mono ?_); (case side1 => exact xC (Kd.C_below HR0_0.out HB.out)); (case side2 => exact HC0_0.out); rintro e w9 ⟨rfl, hb⟩; refine ⟨_, rfl, ?_⟩; replace BK148 := am (blk_below (xB BK148.out) hb); replace HB := am (below_step (xW HB.out) hb); (try clear hb); ))
    go_meet
    case rel => exact ⟨_, (true), (xQ), H', ⟨by first | omega | exact Nat.le_refl _⟩, ⟨xB BK148.out⟩, ⟨xW HB.out⟩⟩
   ·rw [if_neg c7] at H
    have c7b0 : decide (a1 < 0) = false := decide_eq_false c7
    clear c7
    (first | rw [c7b0] | (simp only [i64_w, i32_w]; rw [c7b0]) | skip)
    have H' := am H
    clear H
    obtain ⟨hcz10_0, hcz10_1, hfz10_0, hfz10_1⟩ := xT2 (W := w4) BK148.out
    go_wp2_with (first | ((with_reducible refine gate_callee (f := 64) rfl ?_); refine xG (some 7) 64 Try.func64 #[.agg #[.slice A0_0 l0_0.length c0_0, .int .i64 a0_1]] (h := ?_); (with_reducible refine (spec_ArenaOk.calls k _ _ l0_0 a0_1 true _ ?side1 ?side2 A5.out).mono ?_); (case side1 => exact xC (Kd.C_below HR0_0.out HB.out)); (case side2 => exact HC0_0.out); rintro e w11 ⟨rfl, hb⟩; refine ⟨_, rfl, ?_⟩; replace BK148 := am (blk_below (xB BK148.out) hb); replace HB := am (below_step (xW HB.out) hb); (try clear hb); obtain ⟨hcz12_0, hcz12_1, hfz12_0, hfz12_1⟩ := xT2 (W := w11) BK148.out))
    go_meet
    case rel => exact ⟨_, (decide ((Int.tmod a1 24) ≥ (l0_0.length : Int))), (xQ), H', ⟨by first | omega | exact Nat.le_refl _⟩, ⟨xB BK148.out⟩, ⟨xW HB.out⟩⟩
  ·replace c6 := Bool.eq_false_iff.mpr c6
   subst c6
   have H1 : (spec_l03At.j0 k a1 true l0_0 a0_1) = some r := by rw [if_neg (show ¬ (false = true) by decide)] at H; exact H
   clear H
   have H := H1
   clear H1
   have H' := am H
   clear H
   obtain ⟨hcz13_0, hcz13_1, hfz13_0, hfz13_1⟩ := xT2 (W := w4) BK148.out
   go_wp2_with (first | ((with_reducible refine gate_callee (f := 64) rfl ?_); refine xG (some 7) 64 Try.func64 #[.agg #[.slice A0_0 l0_0.length c0_0, .int .i64 a0_1]] (h := ?_); (with_reducible refine (spec_ArenaOk.calls k _ _ l0_0 a0_1 false _ ?side1 ?side2 A5.out).mono ?_); (case side1 => exact xC (Kd.C_below HR0_0.out HB.out)); (case side2 => exact HC0_0.out); rintro e w14 ⟨rfl, hb⟩; refine ⟨_, rfl, ?_⟩; replace BK148 := am (blk_below (xB BK148.out) hb); replace HB := am (below_step (xW HB.out) hb); (try clear hb); ))
   go_meet
   case rel => exact ⟨_, (true), (xQ), H', ⟨by first | omega | exact Nat.le_refl _⟩, ⟨xB BK148.out⟩, ⟨xW HB.out⟩⟩
 case rest =>
  clear HC3
  try clear p2
  try clear c3
  try clear c6
  try clear c7
  try clear c7b0
  try clear hcz10_0
  try clear hcz10_1
  try clear hcz12_0
  try clear hcz12_1
  try clear hcz13_0
  try clear hcz13_1
  try clear hcz8_0
  try clear hcz8_1
  try clear hfz10_0
  try clear hfz10_1
  try clear hfz12_0
  try clear hfz12_1
  try clear hfz13_0
  try clear hfz13_1
  try clear hfz8_0
  try clear hfz8_1
  obtain ⟨kq, x20_2, rfl, HA, HJ2, BK148, HB⟩ := hcut
  cases kq with
  | zero => exact absurd HA.out (by simp [spec_l03At.j0])
  | succ kj2 =>
   have H := HA.out
   clear HA
   simp only [spec_l03At.j0] at H
   by_cases c15 : x20_2 = true
   ·subst c15
    have H1 : (some (-1)) = some r := by rw [if_pos rfl] at H; exact H
    clear H
    have H := H1
    clear H1
    obtain rfl := Option.some.inj H
    go_wp2
    go_ret
    exact ⟨xV, xW HB.out⟩
   ·replace c15 := Bool.eq_false_iff.mpr c15
    subst c15
    have H1 : (if 0 ≤ (Int.tmod a1 24) then (if (Int.tmod a1 24) < (l0_0.length : Int) then (if ((rd_T50 l0_0 (Int.tmod a1 24)).f1 = true) then (if ((rd_T50 l0_0 (Int.tmod a1 24)).f0) = (wrap64 (Int.tdiv a1 24)) then (some (Int.tmod a1 24)) else (some (-1))) else (some (-1))) else (none)) else (none)) = some r := by rw [if_neg (show ¬ (false = true) by decide)] at H; exact H
    clear H
    have H := H1
    clear H1
    obtain ⟨ji16, hji16⟩ : ∃ j_ : Int, (Int.tmod a1 24) = j_ := ⟨_, rfl⟩
    replace H : (if 0 ≤ (ji16) then (if (ji16) < (l0_0.length : Int) then (if ((rd_T50 l0_0 (ji16)).f1 = true) then (if ((rd_T50 l0_0 (ji16)).f0) = (wrap64 (Int.tdiv a1 24)) then (some ji16) else (some (-1))) else (some (-1))) else (none)) else (none)) = some r := by first | (rw [hji16] at H; exact H) | (simp only [hji16] at H ⊢; exact H)
    by_cases c17 : 0 ≤ (ji16)
    ·rw [if_pos c17] at H
     have c17b0 : decide (0 ≤ (ji16)) = true := decide_eq_true c17
     clear c17
     by_cases c18 : (ji16) < (l0_0.length : Int)
     ·rw [if_pos c18] at H
      have c18b0 : decide ((ji16) < (l0_0.length : Int)) = true := decide_eq_true c18
      clear c18
      obtain ⟨bq19, hbq19⟩ : ∃ b_ : Bool, b_ = ((rd_T50 l0_0 (ji16)).f1) := ⟨_, rfl⟩
      replace H : (if (bq19 = true) then (if ((rd_T50 l0_0 (ji16)).f0) = (wrap64 (Int.tdiv a1 24)) then (some ji16) else (some (-1))) else (some (-1))) = some r := by rw [← hbq19] at H; exact H
      have Nbq19 := am hbq19
      clear hbq19
      by_cases c20 : (bq19 = true)
      ·subst c20
       have H1 : (if ((rd_T50 l0_0 (ji16)).f0) = (wrap64 (Int.tdiv a1 24)) then (some ji16) else (some (-1))) = some r := by rw [if_pos rfl] at H; exact H
       clear H
       have H := H1
       clear H1
       by_cases c21 : ((rd_T50 l0_0 (ji16)).f0) = (wrap64 (Int.tdiv a1 24))
       ·rw [if_pos c21] at H
        have c21b0 : (((rd_T50 l0_0 (ji16)).f0) == (wrap64 (Int.tdiv a1 24))) = true := beq_iff_eq.mpr c21
        have c21b1 : (((rd_T50 l0_0 (ji16)).f0) != (wrap64 (Int.tdiv a1 24))) = false := bne_eq_false_iff_eq.mpr c21
        clear c21
        obtain rfl := Option.some.inj H
        obtain ⟨hcz22_0, hcz22_1, hfz22_0, hfz22_1⟩ := xT2 (W := wc) BK148.out
        have p150 : 0 ≤ ((ji16) : Int) := of_decide_eq_true (by assumption)
        have q150 : (ji16) < (l0_0.length : Int) := of_decide_eq_true (by assumption)
        obtain ⟨ad150, e150, hx150_0, hx150_1, hx150_2, hx150_3, hx150_4⟩ := at_T50 HR0_0.out (ji16) p150 q150
        (try rw [← Nbq19.out] at hx150_1)
        cases e150
        replace hx150_0 := (HB.out.cell (World.block_lt_of_cell? w _ hx150_0)).trans hx150_0
        replace hx150_1 := (HB.out.cell (World.block_lt_of_cell? w _ hx150_1)).trans hx150_1
        replace hx150_2 := (HB.out.cell (World.block_lt_of_cell? w _ hx150_2)).trans hx150_2
        replace hx150_3 := (HB.out.cell (World.block_lt_of_cell? w _ hx150_3)).trans hx150_3
        replace hx150_4 := (HB.out.cell (World.block_lt_of_cell? w _ hx150_4)).trans hx150_4
        replace p150 := eq_true p150
        replace q150 := eq_true q150
        have p151 : 0 ≤ ((ji16) : Int) := of_decide_eq_true (by assumption)
        have q151 : (ji16) < (l0_0.length : Int) := of_decide_eq_true (by assumption)
        obtain ⟨ad151, e151, hx151_0, hx151_1, hx151_2, hx151_3, hx151_4⟩ := at_T50 HR0_0.out (ji16) p151 q151
        (try rw [← Nbq19.out] at hx151_1)
        obtain rfl : ad150 = ad151 := (by injection e151)
        replace hx151_0 := (HB.out.cell (World.block_lt_of_cell? w _ hx151_0)).trans hx151_0
        replace hx151_1 := (HB.out.cell (World.block_lt_of_cell? w _ hx151_1)).trans hx151_1
        replace hx151_2 := (HB.out.cell (World.block_lt_of_cell? w _ hx151_2)).trans hx151_2
        replace hx151_3 := (HB.out.cell (World.block_lt_of_cell? w _ hx151_3)).trans hx151_3
        replace hx151_4 := (HB.out.cell (World.block_lt_of_cell? w _ hx151_4)).trans hx151_4
        replace p151 := eq_true p151
        replace q151 := eq_true q151
        go_wp2
        go_ret
        exact ⟨by first | rfl | (simp [errW_none, errW_some] <;> rfl) | (simp only [← hji16]; first | rfl | (simp [errW_none, errW_some] <;> rfl)) | (simp [*, errW_none, errW_some] <;> rfl), xW HB.out⟩
       ·rw [if_neg c21] at H
        have c21b0 : (((rd_T50 l0_0 (ji16)).f0) == (wrap64 (Int.tdiv a1 24))) = false := beq_eq_false_iff_ne.mpr c21
        have c21b1 : (((rd_T50 l0_0 (ji16)).f0) != (wrap64 (Int.tdiv a1 24))) = true := bne_iff_ne.mpr c21
        obtain rfl := Option.some.inj H
        obtain ⟨hcz23_0, hcz23_1, hfz23_0, hfz23_1⟩ := xT2 (W := wc) BK148.out
        have p150 : 0 ≤ ((ji16) : Int) := of_decide_eq_true (by assumption)
        have q150 : (ji16) < (l0_0.length : Int) := of_decide_eq_true (by assumption)
        obtain ⟨ad150, e150, hx150_0, hx150_1, hx150_2, hx150_3, hx150_4⟩ := at_T50 HR0_0.out (ji16) p150 q150
        (try rw [← Nbq19.out] at hx150_1)
        cases e150
        replace hx150_0 := (HB.out.cell (World.block_lt_of_cell? w _ hx150_0)).trans hx150_0
        replace hx150_1 := (HB.out.cell (World.block_lt_of_cell? w _ hx150_1)).trans hx150_1
        replace hx150_2 := (HB.out.cell (World.block_lt_of_cell? w _ hx150_2)).trans hx150_2
        replace hx150_3 := (HB.out.cell (World.block_lt_of_cell? w _ hx150_3)).trans hx150_3
        replace hx150_4 := (HB.out.cell (World.block_lt_of_cell? w _ hx150_4)).trans hx150_4
        replace p150 := eq_true p150
        replace q150 := eq_true q150
        have p151 : 0 ≤ ((ji16) : Int) := of_decide_eq_true (by assumption)
        have q151 : (ji16) < (l0_0.length : Int) := of_decide_eq_true (by assumption)
        obtain ⟨ad151, e151, hx151_0, hx151_1, hx151_2, hx151_3, hx151_4⟩ := at_T50 HR0_0.out (ji16) p151 q151
        (try rw [← Nbq19.out] at hx151_1)
        obtain rfl : ad150 = ad151 := (by injection e151)
        replace hx151_0 := (HB.out.cell (World.block_lt_of_cell? w _ hx151_0)).trans hx151_0
        replace hx151_1 := (HB.out.cell (World.block_lt_of_cell? w _ hx151_1)).trans hx151_1
        replace hx151_2 := (HB.out.cell (World.block_lt_of_cell? w _ hx151_2)).trans hx151_2
        replace hx151_3 := (HB.out.cell (World.block_lt_of_cell? w _ hx151_3)).trans hx151_3
        replace hx151_4 := (HB.out.cell (World.block_lt_of_cell? w _ hx151_4)).trans hx151_4
        replace p151 := eq_true p151
        replace q151 := eq_true q151
        go_wp2
        go_ret
        exact ⟨by first | rfl | (simp [errW_none, errW_some] <;> rfl) | (simp only [← hji16]; first | rfl | (simp [errW_none, errW_some] <;> rfl)) | (simp [*, errW_none, errW_some] <;> rfl), xW HB.out⟩
      ·replace c20 := Bool.eq_false_iff.mpr c20
       subst c20
       have H1 : (some (-1)) = some r := by rw [if_neg (show ¬ (false = true) by decide)] at H; exact H
       clear H
       have H := H1
       clear H1
       obtain rfl := Option.some.inj H
       obtain ⟨hcz24_0, hcz24_1, hfz24_0, hfz24_1⟩ := xT2 (W := wc) BK148.out
       have p150 : 0 ≤ ((ji16) : Int) := of_decide_eq_true (by assumption)
       have q150 : (ji16) < (l0_0.length : Int) := of_decide_eq_true (by assumption)
       obtain ⟨ad150, e150, hx150_0, hx150_1, hx150_2, hx150_3, hx150_4⟩ := at_T50 HR0_0.out (ji16) p150 q150
       (try rw [← Nbq19.out] at hx150_1)
       cases e150
       replace hx150_0 := (HB.out.cell (World.block_lt_of_cell? w _ hx150_0)).trans hx150_0
       replace hx150_1 := (HB.out.cell (World.block_lt_of_cell? w _ hx150_1)).trans hx150_1
       replace hx150_2 := (HB.out.cell (World.block_lt_of_cell? w _ hx150_2)).trans hx150_2
       replace hx150_3 := (HB.out.cell (World.block_lt_of_cell? w _ hx150_3)).trans hx150_3
       replace hx150_4 := (HB.out.cell (World.block_lt_of_cell? w _ hx150_4)).trans hx150_4
       replace p150 := eq_true p150
       replace q150 := eq_true q150
       go_wp2
       go_ret
       exact ⟨by first | rfl | (simp [errW_none, errW_some] <;> rfl) | (simp only [← hji16]; first | rfl | (simp [errW_none, errW_some] <;> rfl)) | (simp [*, errW_none, errW_some] <;> rfl), xW HB.out⟩
     ·rw [if_neg c18] at H
      exact absurd H (by simp)
    ·rw [if_neg c17] at H
     exact absurd H (by simp)
def spec_l03Copy.f (l0_0 : List (S50)) (a0_1 : Int) : Option ((List (S50)) × Int) := (some (([] : List (S50)) : List (S50))).bind fun y154 => (if y154.length + l0_0.length < 2513169434916 then (some ((y154 ++ l0_0), a0_1)) else (none))
def spec_l03Copy.T1 : Bool × List (List Nat × List Nat) := (true, [([], []), ([], []), ([1], [1]), ([0, 2], [0, 2]), ([], []), ([4], [4]), ([3, 5], [3, 5]), ([6, 3, 0, 1, 2, 3, 4, 5, 6], [6])])
def spec_l03Copy.B1 : List Nat := [0, 0, 2, 7, 0, 16, 63, 127]
theorem spec_l03Copy.tab1 : rtab .any (opsOf Try.f48 1) = spec_l03Copy.T1 := by kernel_rfl
theorem spec_l03Copy.bits1 : waitsOk spec_l03Copy.T1.2 spec_l03Copy.B1 = true := by kernel_rfl
set_option maxHeartbeats 8000000 in
set_option maxRecDepth 100000 in
theorem spec_l03Copy.calls (A0_0 : Option Addr) (c0_0 : Nat) (l0_0 : List (S50)) (a0_1 : Int) (r1 : List (S50)) (r2 : Int) (w : World) (hr0_0 : Kd.C k50 w A0_0 l0_0.length l0_0) (hc0_0 : l0_0.length ≤ c0_0) (h : spec_l03Copy.f l0_0 a0_1 = some (r1, r2)) :
  Calls Try.prog 48 #[.agg #[.slice A0_0 l0_0.length c0_0, .int .i64 a0_1]] w fun e w' => ∃ v0_ : Value, e = .returned (.agg #[v0_, .int .i64 r2]) ∧ Kd.R k50 50 w' w.heap.size (fun _ => True) v0_ r1 ∧ Below w.heap.size w w' := by
 have hu42 := Try.underlying42
 have HR0_0 := am hr0_0
 have HC0_0 := am hc0_0
 clear hr0_0 hc0_0
 have HB := am (Below.refl w.heap.size w)
 have H : ((some (([] : List (S50)) : List (S50))).bind fun y154 => (if y154.length + l0_0.length < 2513169434916 then (some ((y154 ++ l0_0), a0_1)) else (none))) = some (r1, r2) := h
 clear h
 obtain ⟨y154, hy154⟩ : ∃ y_ : List (S50), y_ = (([] : List (S50))) := ⟨_, rfl⟩
 replace H : (if y154.length + l0_0.length < 2513169434916 then (some ((y154 ++ l0_0), a0_1)) else (none)) = some (r1, r2) := by first | (rw [hy154]; with_reducible exact H) | (have H2_ := (Option.bind_some _ _).symm.trans H; rw [hy154]; with_reducible exact H2_) | (have H2_ := (Option.bind_some _ _).symm.trans H; with_reducible exact H2_) | with_reducible exact H | (rw [hy154]; exact H) | exact H
 have Ny154 := am hy154
 clear hy154
 by_cases c2 : y154.length + l0_0.length < 2513169434916
 ·rw [if_pos c2] at H
  have LMc2 := am c2
  clear c2
  obtain ⟨y157, hy157⟩ : ∃ y_ : List (S50), y_ = (y154 ++ l0_0) := ⟨_, rfl⟩
  replace H : (some (y157, a0_1)) = some (r1, r2) := by first | (rw [hy157]; with_reducible exact H) | (have H2_ := (Option.bind_some _ _).symm.trans H; rw [hy157]; with_reducible exact H2_) | (have H2_ := (Option.bind_some _ _).symm.trans H; with_reducible exact H2_) | with_reducible exact H | (rw [hy157]; exact H) | exact H
  have Ny157 := am hy157
  clear hy157
  simp only [Option.some.injEq, Prod.mk.injEq] at H
  obtain ⟨rfl, rfl⟩ := H
  go_enter Try.func48, Try.ntmps48
  try go_wp2_with (first | ((with_reducible refine gate_dst (N := 1) rfl ?_); refine xE (N := 1) (cs := #[.slice A0_0 l0_0.length c0_0, .int .i64 a0_1]) (t := 42) (h := ?_); intro gb152 hg w3 hbox hb; have BK152 := am (hbox); have GW152 := am (xS hg HB.out); have GE152 := am (xS hg HB.out); replace HB := am (below_step (xW HB.out) hb); clear hb hbox hg) | ((with_reducible refine gate_dst (N := 2) rfl ?_); refine xE (N := 2) (cs := #[.slice none 0 0, .int .i64 0]) (t := 42) (h := ?_); intro gb153 hg w4 hbox hb; have BK153 := am (hbox); have GW153 := am (xS hg HB.out); have GE153 := am (xS hg HB.out); replace HB := am (below_step (xW HB.out) hb); have NB152_153 := am (xN hg BK152.out); have NB153_152 := am (xM hg BK152.out); replace BK152 := am (blk_below (xB BK152.out) hb); clear hb hbox hg))
  replace BK152 := am (blk_drew BK152.out)
  replace BK153 := am (blk_drew BK153.out)
  replace HB := am (below_drew1 HB.out)
  refine start_ (n := 8) (S := fun w' => w'.cell? ⟨gb152, 0, none⟩ = some (.slice A0_0 l0_0.length c0_0) ∧ w'.cell? ⟨gb152, 1, none⟩ = some (.int .i64 a0_1)) (ds := []) #[false, false, false, false, false, false, false, false] (by kernel_rfl) rfl rfl (xC2 BK152.out) (fun hHeld => ?_); refine with_tabW spec_l03Copy.tab1 spec_l03Copy.bits1 (fun HT_ HW_ => ?_)
  generalize w4.drew = w5 at BK152 BK153 HB hHeld ⊢
  refine xP1 (i := 1) (N := some 4) #[false, true, false, false, false, false, false, false] (any_of HT_.out (by kernel_rfl)) (h := ?_)
  refine xP1 (i := 4) (N := some 7) #[false, true, false, false, true, false, false, false] (any_of HT_.out (by kernel_rfl)) (h := ?_)
  refine take_ (i := 2) (N := some 5) (v := ?_) (a' := ?_) #[false, true, true, false, true, false, false, false] rfl rfl (take_ofW HT_.out HW_.out (by kernel_rfl)) (fun _ _ _ h => h) (Or.inl ⟨by rfl, ?_⟩) hHeld ?_ ?_
  rotate_left
  ·rintro w' ⟨s0, s1⟩
   go_simp
   with_reducible rfl
  rotate_left
  ·simp only [Act.put, List.setIfInBounds_toArray, List.set_cons_zero, List.set_cons_succ, i64_w, i32_w]
   rfl
  refine take_ (i := 5) (N := some 8) (v := ?_) (a' := ?_) #[false, true, true, false, true, true, false, false] rfl rfl (take_ofW HT_.out HW_.out (by kernel_rfl)) (fun _ _ _ h => h) (Or.inl ⟨by rfl, ?_⟩) hHeld ?_ ?_
  rotate_left
  ·rintro w' ⟨s0, s1⟩
   go_simp
   with_reducible rfl
  rotate_left
  ·simp only [Act.put, List.setIfInBounds_toArray, List.set_cons_zero, List.set_cons_succ, i64_w, i32_w]
   rfl
  refine one_ (i := 0) (N := some 3) #[true, true, true, false, true, true, false, false] rfl rfl (one_of HT_.out (by kernel_rfl)) (by decide) (fun K hK => ?_)
  refine Kd.R_lit_step k50 _ 50 ?hg (N := 3) ?hd (xs := ([] : List (S50))) (inner := []) (ok := fun _ => True) (okp := fun _ => True) ?hr ?hp (fun _ hk => hk) trivial (Below.refl _ _) (Nat.le_refl _) (by simp) ?_; (case hd => rfl); (case hg => rfl); (case hr => first | (go_simp; done) | (go_simp; rfl)); (case hp => exact (Reps.none _ _))
  intro v155 w6 ho7 hb hg_ hnew_
  clear hg_ hnew_
  (first | rw [← Ny154.out] at ho7 | (simp only [Int.reduceToNat] at ho7; rw [← Ny154.out] at ho7))
  have HO156 := am (Kd.R_lower ho7 (below_size (xW HB.out)))
  replace BK152 := am (blk_below (xB BK152.out) hb)
  replace BK153 := am (blk_below (xB BK153.out) hb)
  replace HB := am (below_step (xW HB.out) hb)
  clear hb ho7
  refine hK.out _ _ (xC2 BK152.out) (fun hHeld => ?_)
  clear hK K
  refine xN1 (h := ?_)
  refine one_ (i := 3) (N := some 6) #[true, true, true, true, true, true, false, false] rfl rfl (one_of HT_.out (by kernel_rfl)) (by decide) (fun K hK => ?_)
  refine Kd.R_append_rows_step k50 (w0 := w) w.heap.size (by rfl) (.tmp 3) (.tmp 5) 40 50 (.agg #[(.int .i64 0), (.bool false), (.string ⟨#[]⟩), (.string ⟨#[]⟩), (.int .i64 0)]) 56 rfl Try.underlying40 info50 rfl (by decide) (by omega) v155 y154 l0_0 _ _ _ (fun _ => True) (fun _ => False) rfl rfl ?aO ?aR (fun _ _ h => h) (fun _ h => h.elim) ?aF ?aB ?aS ?aL ?_
  (case aR => repeat (first | exact (Kd.C_below HR0_0.out HB.out) | (with_reducible refine Kd.C_alloc ?_ _) | (with_reducible refine Kd.C_drewN ?_ _) | (with_reducible refine Kd.C_drew ?_)))
  (case aB => exact (xW HB.out))
  (case aF => exact (fun _ _ => trivial))
  (case aO => exact (xR HO156.out))
  (case aS => exact (below_size (xW HB.out)))
  (case aL => have := LMc2.out; omega)
  intro v158 w8 ho hb hg hat
  rw [← Ny157.out] at ho
  replace BK152 := am (blk_grown (g := gb152) (o := .cells #[.slice A0_0 l0_0.length c0_0, .int .i64 a0_1] 42 (0, 0)) (xB BK152.out) hg (Kd.R_ne HO156.out BK152.out (by decide)))
  replace BK153 := am (blk_grown (g := gb153) (o := .cells #[.slice none 0 0, .int .i64 0] 42 (0, 0)) (xB BK153.out) hg (Kd.R_ne HO156.out BK153.out (by decide)))
  replace HB := am (hb)
  have HO159 := am (ho)
  clear HO156
  clear ho hb hg hat
  obtain ⟨Ao9, co9, eo9⟩ := Kd.R_slice HO159.out
  (first | subst eo9 | (injection eo9 with f1_ f2_ f3_; have f4_ := f1_.symm; have f5_ := f3_.symm; clear f1_ f2_ f3_; subst f4_; subst f5_))
  refine hK.out _ _ (xC2 BK152.out) (fun hHeld => ?_)
  clear hK K
  refine xN1 (h := ?_)
  refine xP1 (i := 6) (N := some 9) #[true, true, true, true, true, true, true, false] (any_of HT_.out (by kernel_rfl)) (h := ?_)
  refine one_ (i := 7) (N := none) #[true, true, true, true, true, true, true, true] rfl rfl (one_of HT_.out (by kernel_rfl)) (by decide) (fun K hK => ?_)
  have hs10 : w8.cell? ⟨gb153, 0, none⟩ = some (.slice none 0 0) := (blk_cell BK153.out 0).trans rfl
  have hfs10 := blk_frozen BK153.out 0
  have hns10_0 := NB152_153.out
  have hms10_0 := NB153_152.out
  have hs11 : w8.cell? ⟨gb153, 1, none⟩ = some (.int .i64 0) := (blk_cell BK153.out 1).trans rfl
  have hfs11 := blk_frozen BK153.out 1
  have hns11_0 := NB152_153.out
  have hms11_0 := NB153_152.out
  refine skip_ (w1 := ?_) (by rfl) rfl ?_ ?_
  rotate_left
  ·go_simp
   rfl
  refine hK.out _ _ ⟨((cell_far (p := ⟨gb153, _, none⟩) NB152_153.out _).trans (((cell_far (p := ⟨gb153, _, none⟩) NB152_153.out _).trans (hHeld.1)))), ((cell_far (p := ⟨gb153, _, none⟩) NB152_153.out _).trans (((cell_far (p := ⟨gb153, _, none⟩) NB152_153.out _).trans (hHeld.2))))⟩ (fun hHeld => ?_)
  clear hK K
  refine done_ (done_of HT_.out (by kernel_rfl)) ?_
  try go_wp2
  refine bodyPost_ret (results_cell_row rfl _ _ gb153 42 #[.slice Ao9 y157.length co9, .int .i64 a0_1] (0, 0) _ rfl (xP BK153.out) Try.underlying42 rfl (by kernel_rfl)) rfl ?_
  exact ⟨_, xV, by (with_reducible repeat (first | apply Kd.R_alloc | apply Kd.R_drewN | apply Kd.R_drew)); exact Kd.R_mono (Kd.R_far (p := ⟨gb153, 1, none⟩) (Kd.R_far (p := ⟨gb153, 0, none⟩) (Kd.R_types HO159.out BK153.out (by decide)) (fun _ hk => hk.2) (.slice Ao9 y157.length co9)) (fun _ hk => hk.2) (.int .i64 a0_1)) (fun _ hk => trivial), xW HB.out⟩
 ·rw [if_neg c2] at H
  exact absurd H (by simp)
def spec_Lift.f (k : Nat) (l0_0 : List (S50)) (a0_1 : Int) (a1 : Int) : Option ((List (S50)) × Int × Bool) := (spec_l03At.f k l0_0 a0_1 a1).bind fun t162 => (if t162 < 0 then (some (([] : List (S50)), 0, false)) else ((spec_l03Copy.f l0_0 a0_1).bind fun bt163 => (if 0 ≤ t162 then (if t162 < (l0_0.length : Int) then (if (wrap64 (((rd_T50 l0_0 t162).f0) + 1)) > 41666665 then (if t162 < (bt163.1.length : Int) then (some ((bt163.1.set (t162 : Int).toNat (⟨0, false, (⟨#[]⟩ : ByteArray), (⟨#[]⟩ : ByteArray), a0_1⟩ : S50)), t162, true)) else (none)) else (if t162 < (bt163.1.length : Int) then (some ((bt163.1.set (t162 : Int).toNat (⟨wrap64 (((rd_T50 l0_0 t162).f0) + 1), false, (⟨#[]⟩ : ByteArray), (⟨#[]⟩ : ByteArray), a0_1⟩ : S50)), t162, true)) else (none))) else (none)) else (none))))
set_option maxHeartbeats 8000000 in
set_option maxRecDepth 100000 in
theorem spec_Lift.calls (k : Nat) (A0_0 : Option Addr) (c0_0 : Nat) (l0_0 : List (S50)) (a0_1 : Int) (a1 : Int) (r1 : List (S50)) (r2 : Int) (r3 : Bool) (w : World) (hr0_0 : Kd.C k50 w A0_0 l0_0.length l0_0) (hc0_0 : l0_0.length ≤ c0_0) (h : spec_Lift.f k l0_0 a0_1 a1 = some (r1, r2, r3)) :
  Calls Try.prog 24 #[.agg #[.slice A0_0 l0_0.length c0_0, .int .i64 a0_1], .int .i64 a1] w fun e w' => ∃ v0_ : Value, e = .returned (.tuple #[.agg #[v0_, .int .i64 r2], .bool r3]) ∧ Kd.R k50 50 w' w.heap.size (fun _ => True) v0_ r1 ∧ Below w.heap.size w w' := by
 have hu42 := Try.underlying42
 have hu50 := Try.underlying50
 have HR0_0 := am hr0_0
 have HC0_0 := am hc0_0
 clear hr0_0 hc0_0
 have HB := am (Below.refl w.heap.size w)
 have H : ((spec_l03At.f k l0_0 a0_1 a1).bind fun t162 => (if t162 < 0 then (some (([] : List (S50)), 0, false)) else ((spec_l03Copy.f l0_0 a0_1).bind fun bt163 => (if 0 ≤ t162 then (if t162 < (l0_0.length : Int) then (if (wrap64 (((rd_T50 l0_0 t162).f0) + 1)) > 41666665 then (if t162 < (bt163.1.length : Int) then (some ((bt163.1.set (t162 : Int).toNat (⟨0, false, (⟨#[]⟩ : ByteArray), (⟨#[]⟩ : ByteArray), a0_1⟩ : S50)), t162, true)) else (none)) else (if t162 < (bt163.1.length : Int) then (some ((bt163.1.set (t162 : Int).toNat (⟨wrap64 (((rd_T50 l0_0 t162).f0) + 1), false, (⟨#[]⟩ : ByteArray), (⟨#[]⟩ : ByteArray), a0_1⟩ : S50)), t162, true)) else (none))) else (none)) else (none))))) = some (r1, r2, r3) := h
 clear h
 replace H := Option.bind_eq_some_iff.mp H
 obtain ⟨t162, A30, H⟩ := H
 try dsimp only at H
 have A3 := am A30
 clear A30
 by_cases c4 : t162 < 0
 ·rw [if_pos c4] at H
  have c4b0 : decide (t162 < 0) = true := decide_eq_true c4
  clear c4
  simp only [Option.some.injEq, Prod.mk.injEq] at H
  obtain ⟨rfl, rfl, rfl⟩ := H
  go_enter Try.func24, Try.ntmps24
  go_wp2_with (first | ((with_reducible refine gate_dst (N := 2) rfl ?_); refine xE (N := 2) (cs := #[.slice A0_0 l0_0.length c0_0, .int .i64 a0_1]) (t := 42) (h := ?_); intro gb160 hg w5 hbox hb; have BK160 := am (hbox); have GW160 := am (xS hg HB.out); have GE160 := am (xS hg HB.out); replace HB := am (below_step (xW HB.out) hb); clear hb hbox hg) | ((with_reducible refine gate_dst (N := 4) rfl ?_); refine xE (N := 4) (cs := #[.slice none 0 0, .int .i64 0]) (t := 42) (h := ?_); intro gb161 hg w6 hbox hb; have BK161 := am (hbox); have GW161 := am (xS hg HB.out); have GE161 := am (xS hg HB.out); replace HB := am (below_step (xW HB.out) hb); have NB160_161 := am (xN hg BK160.out); have NB161_160 := am (xM hg BK160.out); replace BK160 := am (blk_below (xB BK160.out) hb); clear hb hbox hg; have hnb7 := NB160_161.out; have hnc7 := NB161_160.out; obtain ⟨hcz8_0, hcz8_1, hfz8_0, hfz8_1⟩ := xT2 (W := w6) BK160.out) | ((with_reducible refine gate_callee (f := 38) rfl ?_); refine xG (some 11) 38 Try.func38 #[.agg #[.slice A0_0 l0_0.length c0_0, .int .i64 a0_1], .int .i64 a1] (h := ?_); (with_reducible refine (spec_l03At.calls k _ _ l0_0 a0_1 a1 t162 _ ?side1 ?side2 A3.out).mono ?_); (case side1 => exact xC (Kd.C_below HR0_0.out HB.out)); (case side2 => exact HC0_0.out); rintro e w9 ⟨rfl, hb⟩; refine ⟨_, rfl, ?_⟩; replace BK160 := am (blk_below (xB BK160.out) hb); replace BK161 := am (blk_below (xB BK161.out) hb); replace HB := am (below_step (xW HB.out) hb); (try clear hb); obtain ⟨hcz10_0, hcz10_1, hfz10_0, hfz10_1⟩ := xT2 (W := w9) BK161.out))
  refine bodyPost_ret (results_ct rfl _ _ gb161 42 #[.slice none 0 0, .int .i64 0] (0, 0) _ rfl (xP BK161.out) Try.underlying42 rfl (by kernel_rfl)) rfl ?_
  exact ⟨_, xV, by first | exact Kd.R_nil _ _ _ _ _ | exact Kd.N_nil _ _ _ _ _ | exact Kd.V_nil _ _ _ _ _ | exact Kd.Q_nil _ _ _ _ _ | exact Kd.S_nil _ _ _ _ _, xW HB.out⟩
 ·rw [if_neg c4] at H
  have c4b0 : decide (t162 < 0) = false := decide_eq_false c4
  clear c4
  replace H := Option.bind_eq_some_iff.mp H
  obtain ⟨⟨t163, t166⟩, A110, H⟩ := H
  try dsimp only at H
  have A11 := am A110
  clear A110
  by_cases c12 : 0 ≤ t162
  ·rw [if_pos c12] at H
   have c12b0 : decide (0 ≤ t162) = true := decide_eq_true c12
   clear c12
   by_cases c13 : t162 < (l0_0.length : Int)
   ·rw [if_pos c13] at H
    have c13b0 : decide (t162 < (l0_0.length : Int)) = true := decide_eq_true c13
    clear c13
    by_cases c14 : (wrap64 (((rd_T50 l0_0 t162).f0) + 1)) > 41666665
    ·rw [if_pos c14] at H
     have c14b0 : decide (41666665 < (wrap64 (((rd_T50 l0_0 t162).f0) + 1))) = true := decide_eq_true c14
     clear c14
     by_cases c15 : t162 < (t163.length : Int)
     ·rw [if_pos c15] at H
      have c15b0 : decide (t162 < (t163.length : Int)) = true := decide_eq_true c15
      clear c15
      obtain ⟨y169, hy169⟩ : ∃ y_ : List (S50), y_ = (t163.set (t162 : Int).toNat (⟨0, false, (⟨#[]⟩ : ByteArray), (⟨#[]⟩ : ByteArray), a0_1⟩ : S50)) := ⟨_, rfl⟩
      replace H : (some (y169, t162, true)) = some (r1, r2, r3) := by first | (rw [hy169]; with_reducible exact H) | (have H2_ := (Option.bind_some _ _).symm.trans H; rw [hy169]; with_reducible exact H2_) | (have H2_ := (Option.bind_some _ _).symm.trans H; with_reducible exact H2_) | with_reducible exact H | (rw [hy169]; exact H) | exact H
      have Ny169 := am hy169
      clear hy169
      simp only [Option.some.injEq, Prod.mk.injEq] at H
      obtain ⟨rfl, rfl, rfl⟩ := H
      go_enter Try.func24, Try.ntmps24
      go_wp2_with (first | ((with_reducible refine gate_dst (N := 2) rfl ?_); refine xE (N := 2) (cs := #[.slice A0_0 l0_0.length c0_0, .int .i64 a0_1]) (t := 42) (h := ?_); intro gb160 hg w17 hbox hb; have BK160 := am (hbox); have GW160 := am (xS hg HB.out); have GE160 := am (xS hg HB.out); replace HB := am (below_step (xW HB.out) hb); clear hb hbox hg) | ((with_reducible refine gate_dst (N := 4) rfl ?_); refine xE (N := 4) (cs := #[.slice none 0 0, .int .i64 0]) (t := 42) (h := ?_); intro gb161 hg w18 hbox hb; have BK161 := am (hbox); have GW161 := am (xS hg HB.out); have GE161 := am (xS hg HB.out); replace HB := am (below_step (xW HB.out) hb); have NB160_161 := am (xN hg BK160.out); have NB161_160 := am (xM hg BK160.out); replace BK160 := am (blk_below (xB BK160.out) hb); clear hb hbox hg; have hnb19 := NB160_161.out; have hnc19 := NB161_160.out; obtain ⟨hcz20_0, hcz20_1, hfz20_0, hfz20_1⟩ := xT2 (W := w18) BK160.out) | ((with_reducible refine gate_callee (f := 38) rfl ?_); refine xG (some 11) 38 Try.func38 #[.agg #[.slice A0_0 l0_0.length c0_0, .int .i64 a0_1], .int .i64 a1] (h := ?_); (with_reducible refine (spec_l03At.calls k _ _ l0_0 a0_1 a1 t162 _ ?side1 ?side2 A3.out).mono ?_); (case side1 => exact xC (Kd.C_below HR0_0.out HB.out)); (case side2 => exact HC0_0.out); rintro e w21 ⟨rfl, hb⟩; refine ⟨_, rfl, ?_⟩; replace BK160 := am (blk_below (xB BK160.out) hb); replace BK161 := am (blk_below (xB BK161.out) hb); replace HB := am (below_step (xW HB.out) hb); (try clear hb); obtain ⟨hcz22_0, hcz22_1, hfz22_0, hfz22_1⟩ := xT2 (W := w21) BK160.out) | ((with_reducible refine gate_callee (f := 48) rfl ?_); refine xG (some 16) 48 Try.func48 #[.agg #[.slice A0_0 l0_0.length c0_0, .int .i64 a0_1]] (h := ?_); (with_reducible refine (spec_l03Copy.calls _ _ l0_0 a0_1 t163 t166 _ ?side1 ?side2 A11.out).mono ?_); (case side1 => exact xC (Kd.C_below HR0_0.out HB.out)); (case side2 => exact HC0_0.out); rintro e w23 ⟨v164, rfl, ho0, hb⟩; refine ⟨_, rfl, ?_⟩; have HO165 := am (Kd.R_lower ho0 (below_size (xW HB.out))); replace BK160 := am (blk_below (xB BK160.out) hb); replace BK161 := am (blk_below (xB BK161.out) hb); replace HB := am (below_step (xW HB.out) hb); (try clear hb); (try clear ho0)) | ((with_reducible refine gate_dst (N := 7) rfl ?_); refine xE (N := 7) (cs := #[.slice none 0 0, .int .i64 0]) (t := 42) (h := ?_); intro gb167 hg w24 hbox hb; replace HO165 := am (Kd.R_below (xR HO165.out) hb); have BK167 := am (hbox); have GW167 := am (xS hg HB.out); have GE167 := am (xS hg HB.out); replace HB := am (below_step (xW HB.out) hb); have NB160_167 := am (xN hg BK160.out); have NB167_160 := am (xM hg BK160.out); replace BK160 := am (blk_below (xB BK160.out) hb); have NB161_167 := am (xN hg BK161.out); have NB167_161 := am (xM hg BK161.out); replace BK161 := am (blk_below (xB BK161.out) hb); clear hb hbox hg; obtain ⟨Ao25, co25, eo25⟩ := Kd.R_slice HO165.out; subst eo25; have hnb26 := NB167_160.out; have hnc26 := NB160_167.out; have hnb27 := NB167_161.out; have hnc27 := NB161_167.out; obtain ⟨hcz28_0, hcz28_1, hfz28_0, hfz28_1⟩ := xT2 (W := w24) BK167.out) | ((with_reducible refine gate_store (t := 42) (p := 7) rfl ?_); refine store_event (t := 42) (p := 7) (v := ?vo_w29) (w1 := ((w24.setCell ⟨gb167, 0, none⟩ (.slice Ao25 t163.length co25)).setCell ⟨gb167, 1, none⟩ (.int .i64 t166))) ?hg ?ho ?hn ?hr ?_; (case ho => rfl); (case hg => rfl); (case hn => rfl); (case hr => first | (go_simp; done) | (go_simp; rfl)); intro w29 hw; have n0_ : Aside0 (Kd.R k50 50 w29 w.heap.size (fun _ => True) (.slice Ao25 t163.length co25) t163) := ⟨(by rw [hw]; exact (by (with_reducible repeat (first | apply Kd.R_alloc | apply Kd.R_drewN | apply Kd.R_drew)); exact Kd.R_mono (Kd.R_far (p := ⟨gb167, 1, none⟩) (Kd.R_far (p := ⟨gb167, 0, none⟩) (Kd.R_types HO165.out BK167.out (by decide)) (fun _ hk => hk.2) (.slice Ao25 t163.length co25)) (fun _ hk => hk.2) (.int .i64 t166)) (fun _ hk => trivial)))⟩; have n1_ : Aside0 (w29.heap[gb160]? = some (.cells #[.slice A0_0 l0_0.length c0_0, .int .i64 a0_1] 42 (0, 0))) := ⟨(by rw [hw]; exact (xB BK160.out))⟩; have n2_ : Aside0 (w29.heap[gb161]? = some (.cells #[.slice none 0 0, .int .i64 0] 42 (0, 0))) := ⟨(by rw [hw]; exact (xB BK161.out))⟩; have n3_ : Aside0 (w29.heap[gb167]? = some (.cells #[.slice Ao25 t163.length co25, .int .i64 t166] 42 (0, 0))) := ⟨(by rw [hw]; exact (xP BK167.out))⟩; have n4_ : Aside0 (Below w.heap.size w w29) := ⟨(by rw [hw]; exact (xW HB.out))⟩; clear hw; clear HO165; clear BK160; clear BK161; clear BK167; clear HB; have HO165 := n0_; have BK160 := n1_; have BK161 := n2_; have BK167 := n3_; have HB := n4_; clear n0_ n1_ n2_ n3_ n4_; obtain ⟨hcz30_0, hcz30_1, hfz30_0, hfz30_1⟩ := xT2 (W := w29) BK160.out; have p168 : 0 ≤ (t162 : Int) := of_decide_eq_true (by assumption); have q168 : t162 < (l0_0.length : Int) := of_decide_eq_true (by assumption); obtain ⟨ad168, e168, hx168_0, hx168_1, hx168_2, hx168_3, hx168_4⟩ := at_T50 HR0_0.out t162 p168 q168; cases e168; replace hx168_0 := (HB.out.cell (World.block_lt_of_cell? w _ hx168_0)).trans hx168_0; replace hx168_1 := (HB.out.cell (World.block_lt_of_cell? w _ hx168_1)).trans hx168_1; replace hx168_2 := (HB.out.cell (World.block_lt_of_cell? w _ hx168_2)).trans hx168_2; replace hx168_3 := (HB.out.cell (World.block_lt_of_cell? w _ hx168_3)).trans hx168_3; replace hx168_4 := (HB.out.cell (World.block_lt_of_cell? w _ hx168_4)).trans hx168_4; replace p168 := eq_true p168; replace q168 := eq_true q168; obtain ⟨hcz31_0, hcz31_1, hfz31_0, hfz31_1⟩ := xT2 (W := w29) BK167.out; have p16 : 0 ≤ (t162 : Int) := of_decide_eq_true (by assumption); have q16 : (t162 : Int) < ((t163.length : Int) : Int) := of_decide_eq_true (by assumption); obtain ⟨go16, co16, eo16, gb16, gl16, cl16, HG16⟩ := Kd.R_form HO165.out (by omega); (first | cases eo16 | (injection eo16 with ea_ en_ ec_; (first | subst ea_ | (injection ea_ with ea_; subst ea_)); subst ec_; clear en_)); have GB16 := am gb16; have GG16 := am HG16; clear gb16 gl16 HG16; obtain ⟨ce16, hcl16, hM16, hcc16, hfr16⟩ := Kd.R_elem HO165.out z50 (t162 : Int) p16 q16; obtain rfl := k50_openM hM16; have hx16_0 : w29.cell? ⟨go16, (t162 : Int).toNat * 5, none⟩ = some (.int .i64 ((rd_T50 t163 t162).f0)) := hcc16 0 _ rfl; have hx16_1 : w29.cell? ⟨go16, (t162 : Int).toNat * 5 + 1, none⟩ = some (.bool ((rd_T50 t163 t162).f1)) := hcc16 1 _ rfl; have hx16_2 : w29.cell? ⟨go16, (t162 : Int).toNat * 5 + 2, none⟩ = some (.string ((rd_T50 t163 t162).f2)) := hcc16 2 _ rfl; have hx16_3 : w29.cell? ⟨go16, (t162 : Int).toNat * 5 + 3, none⟩ = some (.string ((rd_T50 t163 t162).f3)) := hcc16 3 _ rfl; have hx16_4 : w29.cell? ⟨go16, (t162 : Int).toNat * 5 + 4, none⟩ = some (.int .i64 ((rd_T50 t163 t162).f4)) := hcc16 4 _ rfl; have hf16_0 : w29.frozen? ⟨go16, (t162 : Int).toNat * 5, none⟩ = false := hfr16 0; have hf16_1 : w29.frozen? ⟨go16, (t162 : Int).toNat * 5 + 1, none⟩ = false := hfr16 1; have hf16_2 : w29.frozen? ⟨go16, (t162 : Int).toNat * 5 + 2, none⟩ = false := hfr16 2; have hf16_3 : w29.frozen? ⟨go16, (t162 : Int).toNat * 5 + 3, none⟩ = false := hfr16 3; have hf16_4 : w29.frozen? ⟨go16, (t162 : Int).toNat * 5 + 4, none⟩ = false := hfr16 4; clear hcl16 hcc16 hfr16 hM16; replace p16 := eq_true p16; replace q16 := eq_true q16; have HX32 := am (show Kd.R k50 50 w29 w.heap.size (fun _ => True) (.slice (some ⟨go16, 0, none⟩) t163.length co25) t163 from (xR HO165.out)); obtain ⟨ce32, hcl32, hM32, hcc32, hfr32⟩ := Kd.R_elem HX32.out z50 (t162 : Int) (of_decide_eq_true (by assumption)) (by have h_ : (t162 : Int) < ((t163.length : Int) : Int) := of_decide_eq_true (by assumption); first | exact h_ | (have e_ := (Kd.R_reads' HO165.out).1; omega) | simpa using h_); obtain rfl := k50_openM hM32; have HP32 := Kd.R_seg HX32.out (t162 : Int) (of_decide_eq_true (by assumption)) (by have h_ : (t162 : Int) < ((t163.length : Int) : Int) := of_decide_eq_true (by assumption); first | exact h_ | (have e_ := (Kd.R_reads' HO165.out).1; omega) | simpa using h_) (seg := [.int .i64 0, .bool false, .string (⟨#[]⟩ : ByteArray), .string (⟨#[]⟩ : ByteArray), .int .i64 a0_1]) (j := 0) hcl32 hcc32 (show 5 ≤ 5 from by decide) (x' := (⟨0, false, (⟨#[]⟩ : ByteArray), (⟨#[]⟩ : ByteArray), a0_1⟩ : S50)) (k50_mkM _ _ _ (⟨0, false, (⟨#[]⟩ : ByteArray), (⟨#[]⟩ : ByteArray), a0_1⟩ : S50) ) (fun _ hk => hk); have hx32_0 := hcc32 0 _ rfl; (try simp only [show (k50).sz = 5 from rfl, Nat.mul_one, Nat.add_zero] at hx32_0); have hf32_0 := hfr32 0; (try simp only [show (k50).sz = 5 from rfl, Nat.mul_one, Nat.add_zero] at hf32_0); have hx32_1 := hcc32 1 _ rfl; (try simp only [show (k50).sz = 5 from rfl, Nat.mul_one, Nat.add_zero] at hx32_1); have hf32_1 := hfr32 1; (try simp only [show (k50).sz = 5 from rfl, Nat.mul_one, Nat.add_zero] at hf32_1); have hx32_2 := hcc32 2 _ rfl; (try simp only [show (k50).sz = 5 from rfl, Nat.mul_one, Nat.add_zero] at hx32_2); have hf32_2 := hfr32 2; (try simp only [show (k50).sz = 5 from rfl, Nat.mul_one, Nat.add_zero] at hf32_2); have hx32_3 := hcc32 3 _ rfl; (try simp only [show (k50).sz = 5 from rfl, Nat.mul_one, Nat.add_zero] at hx32_3); have hf32_3 := hfr32 3; (try simp only [show (k50).sz = 5 from rfl, Nat.mul_one, Nat.add_zero] at hf32_3); have hx32_4 := hcc32 4 _ rfl; (try simp only [show (k50).sz = 5 from rfl, Nat.mul_one, Nat.add_zero] at hx32_4); have hf32_4 := hfr32 4; (try simp only [show (k50).sz = 5 from rfl, Nat.mul_one, Nat.add_zero] at hf32_4); clear hcl32 hcc32 hfr32 hM32) | ((with_reducible refine gate_store (t := 50) (p := 33) rfl ?_); refine store_event (t := 50) (p := 33) (v := ?vo_w33) (w1 := (((((w29.setCell ⟨go16, (t162 : Int).toNat * 5, none⟩ (.int .i64 0)).setCell ⟨go16, (t162 : Int).toNat * 5 + 1, none⟩ (.bool false)).setCell ⟨go16, (t162 : Int).toNat * 5 + 2, none⟩ (.string (⟨#[]⟩ : ByteArray))).setCell ⟨go16, (t162 : Int).toNat * 5 + 3, none⟩ (.string (⟨#[]⟩ : ByteArray))).setCell ⟨go16, (t162 : Int).toNat * 5 + 4, none⟩ (.int .i64 a0_1))) ?hg ?ho ?hn ?hr ?_; (case ho => rfl); (case hg => rfl); (case hn => rfl); (case hr => first | (go_simp; done) | (go_simp; rfl)); intro w33 hw; have hg : w29.grownBy w33 (some go16) := (by rw [hw]; exact HP32.2); have hp_ : Kd.R k50 50 w33 w.heap.size (fun _ => True) (.slice (some ⟨go16, 0, none⟩) t163.length co25) y169 := (by rw [hw, Ny169.out]; exact HP32.1); clear HP32; replace BK160 := am (blk_grown (g := gb160) (o := .cells #[.slice (some ad168) l0_0.length c0_0, .int .i64 a0_1] 42 (0, 0)) (xB BK160.out) hg (Kd.R_ne HO165.out BK160.out (by decide))); replace BK161 := am (blk_grown (g := gb161) (o := .cells #[.slice none 0 0, .int .i64 0] 42 (0, 0)) (xB BK161.out) hg (Kd.R_ne HO165.out BK161.out (by decide))); replace BK167 := am (blk_grown (g := gb167) (o := .cells #[.slice (some ⟨go16, 0, none⟩) t163.length co25, .int .i64 t166] 42 (0, 0)) (xB BK167.out) hg (Kd.R_ne HO165.out BK167.out (by decide))); replace HO165 := am (hp_); replace HB := am ((by rw [hw]; exact below_set (below_set (below_set (below_set (below_set (HB.out) GB16.out) GB16.out) GB16.out) GB16.out) GB16.out : Below w.heap.size w w33)); clear hg hw hp_; obtain ⟨hcz34_0, hcz34_1, hfz34_0, hfz34_1⟩ := xT2 (W := w33) BK167.out; obtain ⟨hcz35_0, hcz35_1, hfz35_0, hfz35_1⟩ := xT2 (W := w33) BK161.out))
      refine bodyPost_ret (results_ct rfl _ _ gb161 42 #[.slice (some ⟨go16, 0, none⟩) t163.length co25, .int .i64 t162] (0, 0) _ rfl (xP BK161.out) Try.underlying42 rfl (by kernel_rfl)) rfl ?_
      exact ⟨_, xV, by (with_reducible repeat (first | apply Kd.R_alloc | apply Kd.R_drewN | apply Kd.R_drew)); exact Kd.R_mono (Kd.R_far (p := ⟨gb161, 1, none⟩) (Kd.R_far (p := ⟨gb161, 0, none⟩) (Kd.R_far (p := ⟨gb167, 1, none⟩) (Kd.R_types (Kd.R_types HO165.out BK167.out (by decide)) BK161.out (by decide)) (fun _ hk => hk.1.2) (.int .i64 t162)) (fun _ hk => hk.2) (.slice (some ⟨go16, 0, none⟩) t163.length co25)) (fun _ hk => hk.2) (.int .i64 t162)) (fun _ hk => trivial), xW HB.out⟩
     ·rw [if_neg c15] at H
      exact absurd H (by simp)
    ·rw [if_neg c14] at H
     have c14b0 : decide (41666665 < (wrap64 (((rd_T50 l0_0 t162).f0) + 1))) = false := decide_eq_false c14
     clear c14
     by_cases c36 : t162 < (t163.length : Int)
     ·rw [if_pos c36] at H
      have c36b0 : decide (t162 < (t163.length : Int)) = true := decide_eq_true c36
      clear c36
      obtain ⟨y170, hy170⟩ : ∃ y_ : List (S50), y_ = (t163.set (t162 : Int).toNat (⟨wrap64 (((rd_T50 l0_0 t162).f0) + 1), false, (⟨#[]⟩ : ByteArray), (⟨#[]⟩ : ByteArray), a0_1⟩ : S50)) := ⟨_, rfl⟩
      replace H : (some (y170, t162, true)) = some (r1, r2, r3) := by first | (rw [hy170]; with_reducible exact H) | (have H2_ := (Option.bind_some _ _).symm.trans H; rw [hy170]; with_reducible exact H2_) | (have H2_ := (Option.bind_some _ _).symm.trans H; with_reducible exact H2_) | with_reducible exact H | (rw [hy170]; exact H) | exact H
      have Ny170 := am hy170
      clear hy170
      simp only [Option.some.injEq, Prod.mk.injEq] at H
      obtain ⟨rfl, rfl, rfl⟩ := H
      go_enter Try.func24, Try.ntmps24
      go_wp2_with (first | ((with_reducible refine gate_dst (N := 2) rfl ?_); refine xE (N := 2) (cs := #[.slice A0_0 l0_0.length c0_0, .int .i64 a0_1]) (t := 42) (h := ?_); intro gb160 hg w38 hbox hb; have BK160 := am (hbox); have GW160 := am (xS hg HB.out); have GE160 := am (xS hg HB.out); replace HB := am (below_step (xW HB.out) hb); clear hb hbox hg) | ((with_reducible refine gate_dst (N := 4) rfl ?_); refine xE (N := 4) (cs := #[.slice none 0 0, .int .i64 0]) (t := 42) (h := ?_); intro gb161 hg w39 hbox hb; have BK161 := am (hbox); have GW161 := am (xS hg HB.out); have GE161 := am (xS hg HB.out); replace HB := am (below_step (xW HB.out) hb); have NB160_161 := am (xN hg BK160.out); have NB161_160 := am (xM hg BK160.out); replace BK160 := am (blk_below (xB BK160.out) hb); clear hb hbox hg; have hnb40 := NB160_161.out; have hnc40 := NB161_160.out; obtain ⟨hcz41_0, hcz41_1, hfz41_0, hfz41_1⟩ := xT2 (W := w39) BK160.out) | ((with_reducible refine gate_callee (f := 38) rfl ?_); refine xG (some 11) 38 Try.func38 #[.agg #[.slice A0_0 l0_0.length c0_0, .int .i64 a0_1], .int .i64 a1] (h := ?_); (with_reducible refine (spec_l03At.calls k _ _ l0_0 a0_1 a1 t162 _ ?side1 ?side2 A3.out).mono ?_); (case side1 => exact xC (Kd.C_below HR0_0.out HB.out)); (case side2 => exact HC0_0.out); rintro e w42 ⟨rfl, hb⟩; refine ⟨_, rfl, ?_⟩; replace BK160 := am (blk_below (xB BK160.out) hb); replace BK161 := am (blk_below (xB BK161.out) hb); replace HB := am (below_step (xW HB.out) hb); (try clear hb); obtain ⟨hcz43_0, hcz43_1, hfz43_0, hfz43_1⟩ := xT2 (W := w42) BK160.out) | ((with_reducible refine gate_callee (f := 48) rfl ?_); refine xG (some 16) 48 Try.func48 #[.agg #[.slice A0_0 l0_0.length c0_0, .int .i64 a0_1]] (h := ?_); (with_reducible refine (spec_l03Copy.calls _ _ l0_0 a0_1 t163 t166 _ ?side1 ?side2 A11.out).mono ?_); (case side1 => exact xC (Kd.C_below HR0_0.out HB.out)); (case side2 => exact HC0_0.out); rintro e w44 ⟨v164, rfl, ho0, hb⟩; refine ⟨_, rfl, ?_⟩; have HO165 := am (Kd.R_lower ho0 (below_size (xW HB.out))); replace BK160 := am (blk_below (xB BK160.out) hb); replace BK161 := am (blk_below (xB BK161.out) hb); replace HB := am (below_step (xW HB.out) hb); (try clear hb); (try clear ho0)) | ((with_reducible refine gate_dst (N := 7) rfl ?_); refine xE (N := 7) (cs := #[.slice none 0 0, .int .i64 0]) (t := 42) (h := ?_); intro gb167 hg w45 hbox hb; replace HO165 := am (Kd.R_below (xR HO165.out) hb); have BK167 := am (hbox); have GW167 := am (xS hg HB.out); have GE167 := am (xS hg HB.out); replace HB := am (below_step (xW HB.out) hb); have NB160_167 := am (xN hg BK160.out); have NB167_160 := am (xM hg BK160.out); replace BK160 := am (blk_below (xB BK160.out) hb); have NB161_167 := am (xN hg BK161.out); have NB167_161 := am (xM hg BK161.out); replace BK161 := am (blk_below (xB BK161.out) hb); clear hb hbox hg; obtain ⟨Ao46, co46, eo46⟩ := Kd.R_slice HO165.out; subst eo46; have hnb47 := NB167_160.out; have hnc47 := NB160_167.out; have hnb48 := NB167_161.out; have hnc48 := NB161_167.out; obtain ⟨hcz49_0, hcz49_1, hfz49_0, hfz49_1⟩ := xT2 (W := w45) BK167.out) | ((with_reducible refine gate_store (t := 42) (p := 7) rfl ?_); refine store_event (t := 42) (p := 7) (v := ?vo_w50) (w1 := ((w45.setCell ⟨gb167, 0, none⟩ (.slice Ao46 t163.length co46)).setCell ⟨gb167, 1, none⟩ (.int .i64 t166))) ?hg ?ho ?hn ?hr ?_; (case ho => rfl); (case hg => rfl); (case hn => rfl); (case hr => first | (go_simp; done) | (go_simp; rfl)); intro w50 hw; have n0_ : Aside0 (Kd.R k50 50 w50 w.heap.size (fun _ => True) (.slice Ao46 t163.length co46) t163) := ⟨(by rw [hw]; exact (by (with_reducible repeat (first | apply Kd.R_alloc | apply Kd.R_drewN | apply Kd.R_drew)); exact Kd.R_mono (Kd.R_far (p := ⟨gb167, 1, none⟩) (Kd.R_far (p := ⟨gb167, 0, none⟩) (Kd.R_types HO165.out BK167.out (by decide)) (fun _ hk => hk.2) (.slice Ao46 t163.length co46)) (fun _ hk => hk.2) (.int .i64 t166)) (fun _ hk => trivial)))⟩; have n1_ : Aside0 (w50.heap[gb160]? = some (.cells #[.slice A0_0 l0_0.length c0_0, .int .i64 a0_1] 42 (0, 0))) := ⟨(by rw [hw]; exact (xB BK160.out))⟩; have n2_ : Aside0 (w50.heap[gb161]? = some (.cells #[.slice none 0 0, .int .i64 0] 42 (0, 0))) := ⟨(by rw [hw]; exact (xB BK161.out))⟩; have n3_ : Aside0 (w50.heap[gb167]? = some (.cells #[.slice Ao46 t163.length co46, .int .i64 t166] 42 (0, 0))) := ⟨(by rw [hw]; exact (xP BK167.out))⟩; have n4_ : Aside0 (Below w.heap.size w w50) := ⟨(by rw [hw]; exact (xW HB.out))⟩; clear hw; clear HO165; clear BK160; clear BK161; clear BK167; clear HB; have HO165 := n0_; have BK160 := n1_; have BK161 := n2_; have BK167 := n3_; have HB := n4_; clear n0_ n1_ n2_ n3_ n4_; obtain ⟨hcz51_0, hcz51_1, hfz51_0, hfz51_1⟩ := xT2 (W := w50) BK160.out; have p168 : 0 ≤ (t162 : Int) := of_decide_eq_true (by assumption); have q168 : t162 < (l0_0.length : Int) := of_decide_eq_true (by assumption); obtain ⟨ad168, e168, hx168_0, hx168_1, hx168_2, hx168_3, hx168_4⟩ := at_T50 HR0_0.out t162 p168 q168; cases e168; replace hx168_0 := (HB.out.cell (World.block_lt_of_cell? w _ hx168_0)).trans hx168_0; replace hx168_1 := (HB.out.cell (World.block_lt_of_cell? w _ hx168_1)).trans hx168_1; replace hx168_2 := (HB.out.cell (World.block_lt_of_cell? w _ hx168_2)).trans hx168_2; replace hx168_3 := (HB.out.cell (World.block_lt_of_cell? w _ hx168_3)).trans hx168_3; replace hx168_4 := (HB.out.cell (World.block_lt_of_cell? w _ hx168_4)).trans hx168_4; replace p168 := eq_true p168; replace q168 := eq_true q168; obtain ⟨hcz52_0, hcz52_1, hfz52_0, hfz52_1⟩ := xT2 (W := w50) BK167.out; have p37 : 0 ≤ (t162 : Int) := of_decide_eq_true (by assumption); have q37 : (t162 : Int) < ((t163.length : Int) : Int) := of_decide_eq_true (by assumption); obtain ⟨go37, co37, eo37, gb37, gl37, cl37, HG37⟩ := Kd.R_form HO165.out (by omega); (first | cases eo37 | (injection eo37 with ea_ en_ ec_; (first | subst ea_ | (injection ea_ with ea_; subst ea_)); subst ec_; clear en_)); have GB37 := am gb37; have GG37 := am HG37; clear gb37 gl37 HG37; obtain ⟨ce37, hcl37, hM37, hcc37, hfr37⟩ := Kd.R_elem HO165.out z50 (t162 : Int) p37 q37; obtain rfl := k50_openM hM37; have hx37_0 : w50.cell? ⟨go37, (t162 : Int).toNat * 5, none⟩ = some (.int .i64 ((rd_T50 t163 t162).f0)) := hcc37 0 _ rfl; have hx37_1 : w50.cell? ⟨go37, (t162 : Int).toNat * 5 + 1, none⟩ = some (.bool ((rd_T50 t163 t162).f1)) := hcc37 1 _ rfl; have hx37_2 : w50.cell? ⟨go37, (t162 : Int).toNat * 5 + 2, none⟩ = some (.string ((rd_T50 t163 t162).f2)) := hcc37 2 _ rfl; have hx37_3 : w50.cell? ⟨go37, (t162 : Int).toNat * 5 + 3, none⟩ = some (.string ((rd_T50 t163 t162).f3)) := hcc37 3 _ rfl; have hx37_4 : w50.cell? ⟨go37, (t162 : Int).toNat * 5 + 4, none⟩ = some (.int .i64 ((rd_T50 t163 t162).f4)) := hcc37 4 _ rfl; have hf37_0 : w50.frozen? ⟨go37, (t162 : Int).toNat * 5, none⟩ = false := hfr37 0; have hf37_1 : w50.frozen? ⟨go37, (t162 : Int).toNat * 5 + 1, none⟩ = false := hfr37 1; have hf37_2 : w50.frozen? ⟨go37, (t162 : Int).toNat * 5 + 2, none⟩ = false := hfr37 2; have hf37_3 : w50.frozen? ⟨go37, (t162 : Int).toNat * 5 + 3, none⟩ = false := hfr37 3; have hf37_4 : w50.frozen? ⟨go37, (t162 : Int).toNat * 5 + 4, none⟩ = false := hfr37 4; clear hcl37 hcc37 hfr37 hM37; replace p37 := eq_true p37; replace q37 := eq_true q37; have HX53 := am (show Kd.R k50 50 w50 w.heap.size (fun _ => True) (.slice (some ⟨go37, 0, none⟩) t163.length co46) t163 from (xR HO165.out)); obtain ⟨ce53, hcl53, hM53, hcc53, hfr53⟩ := Kd.R_elem HX53.out z50 (t162 : Int) (of_decide_eq_true (by assumption)) (by have h_ : (t162 : Int) < ((t163.length : Int) : Int) := of_decide_eq_true (by assumption); first | exact h_ | (have e_ := (Kd.R_reads' HO165.out).1; omega) | simpa using h_); obtain rfl := k50_openM hM53; have HP53 := Kd.R_seg HX53.out (t162 : Int) (of_decide_eq_true (by assumption)) (by have h_ : (t162 : Int) < ((t163.length : Int) : Int) := of_decide_eq_true (by assumption); first | exact h_ | (have e_ := (Kd.R_reads' HO165.out).1; omega) | simpa using h_) (seg := [.int .i64 (wrap64 (((rd_T50 l0_0 t162).f0) + 1)), .bool false, .string (⟨#[]⟩ : ByteArray), .string (⟨#[]⟩ : ByteArray), .int .i64 a0_1]) (j := 0) hcl53 hcc53 (show 5 ≤ 5 from by decide) (x' := (⟨wrap64 (((rd_T50 l0_0 t162).f0) + 1), false, (⟨#[]⟩ : ByteArray), (⟨#[]⟩ : ByteArray), a0_1⟩ : S50)) (k50_mkM _ _ _ (⟨wrap64 (((rd_T50 l0_0 t162).f0) + 1), false, (⟨#[]⟩ : ByteArray), (⟨#[]⟩ : ByteArray), a0_1⟩ : S50) ) (fun _ hk => hk); have hx53_0 := hcc53 0 _ rfl; (try simp only [show (k50).sz = 5 from rfl, Nat.mul_one, Nat.add_zero] at hx53_0); have hf53_0 := hfr53 0; (try simp only [show (k50).sz = 5 from rfl, Nat.mul_one, Nat.add_zero] at hf53_0); have hx53_1 := hcc53 1 _ rfl; (try simp only [show (k50).sz = 5 from rfl, Nat.mul_one, Nat.add_zero] at hx53_1); have hf53_1 := hfr53 1; (try simp only [show (k50).sz = 5 from rfl, Nat.mul_one, Nat.add_zero] at hf53_1); have hx53_2 := hcc53 2 _ rfl; (try simp only [show (k50).sz = 5 from rfl, Nat.mul_one, Nat.add_zero] at hx53_2); have hf53_2 := hfr53 2; (try simp only [show (k50).sz = 5 from rfl, Nat.mul_one, Nat.add_zero] at hf53_2); have hx53_3 := hcc53 3 _ rfl; (try simp only [show (k50).sz = 5 from rfl, Nat.mul_one, Nat.add_zero] at hx53_3); have hf53_3 := hfr53 3; (try simp only [show (k50).sz = 5 from rfl, Nat.mul_one, Nat.add_zero] at hf53_3); have hx53_4 := hcc53 4 _ rfl; (try simp only [show (k50).sz = 5 from rfl, Nat.mul_one, Nat.add_zero] at hx53_4); have hf53_4 := hfr53 4; (try simp only [show (k50).sz = 5 from rfl, Nat.mul_one, Nat.add_zero] at hf53_4); clear hcl53 hcc53 hfr53 hM53) | ((with_reducible refine gate_store (t := 50) (p := 33) rfl ?_); refine store_event (t := 50) (p := 33) (v := ?vo_w54) (w1 := (((((w50.setCell ⟨go37, (t162 : Int).toNat * 5, none⟩ (.int .i64 (wrap64 (((rd_T50 l0_0 t162).f0) + 1)))).setCell ⟨go37, (t162 : Int).toNat * 5 + 1, none⟩ (.bool false)).setCell ⟨go37, (t162 : Int).toNat * 5 + 2, none⟩ (.string (⟨#[]⟩ : ByteArray))).setCell ⟨go37, (t162 : Int).toNat * 5 + 3, none⟩ (.string (⟨#[]⟩ : ByteArray))).setCell ⟨go37, (t162 : Int).toNat * 5 + 4, none⟩ (.int .i64 a0_1))) ?hg ?ho ?hn ?hr ?_; (case ho => rfl); (case hg => rfl); (case hn => rfl); (case hr => first | (go_simp; done) | (go_simp; rfl)); intro w54 hw; have hg : w50.grownBy w54 (some go37) := (by rw [hw]; exact HP53.2); have hp_ : Kd.R k50 50 w54 w.heap.size (fun _ => True) (.slice (some ⟨go37, 0, none⟩) t163.length co46) y170 := (by rw [hw, Ny170.out]; exact HP53.1); clear HP53; replace BK160 := am (blk_grown (g := gb160) (o := .cells #[.slice (some ad168) l0_0.length c0_0, .int .i64 a0_1] 42 (0, 0)) (xB BK160.out) hg (Kd.R_ne HO165.out BK160.out (by decide))); replace BK161 := am (blk_grown (g := gb161) (o := .cells #[.slice none 0 0, .int .i64 0] 42 (0, 0)) (xB BK161.out) hg (Kd.R_ne HO165.out BK161.out (by decide))); replace BK167 := am (blk_grown (g := gb167) (o := .cells #[.slice (some ⟨go37, 0, none⟩) t163.length co46, .int .i64 t166] 42 (0, 0)) (xB BK167.out) hg (Kd.R_ne HO165.out BK167.out (by decide))); replace HO165 := am (hp_); replace HB := am ((by rw [hw]; exact below_set (below_set (below_set (below_set (below_set (HB.out) GB37.out) GB37.out) GB37.out) GB37.out) GB37.out : Below w.heap.size w w54)); clear hg hw hp_; obtain ⟨hcz55_0, hcz55_1, hfz55_0, hfz55_1⟩ := xT2 (W := w54) BK167.out; obtain ⟨hcz56_0, hcz56_1, hfz56_0, hfz56_1⟩ := xT2 (W := w54) BK161.out))
      refine bodyPost_ret (results_ct rfl _ _ gb161 42 #[.slice (some ⟨go37, 0, none⟩) t163.length co46, .int .i64 t162] (0, 0) _ rfl (xP BK161.out) Try.underlying42 rfl (by kernel_rfl)) rfl ?_
      exact ⟨_, xV, by (with_reducible repeat (first | apply Kd.R_alloc | apply Kd.R_drewN | apply Kd.R_drew)); exact Kd.R_mono (Kd.R_far (p := ⟨gb161, 1, none⟩) (Kd.R_far (p := ⟨gb161, 0, none⟩) (Kd.R_far (p := ⟨gb167, 1, none⟩) (Kd.R_types (Kd.R_types HO165.out BK167.out (by decide)) BK161.out (by decide)) (fun _ hk => hk.1.2) (.int .i64 t162)) (fun _ hk => hk.2) (.slice (some ⟨go37, 0, none⟩) t163.length co46)) (fun _ hk => hk.2) (.int .i64 t162)) (fun _ hk => trivial), xW HB.out⟩
     ·rw [if_neg c36] at H
      exact absurd H (by simp)
   ·rw [if_neg c13] at H
    exact absurd H (by simp)
  ·rw [if_neg c12] at H
   exact absurd H (by simp)
def impl_inRange.f (a0 : Int) (a1 : Int) (a2 : Int) : Option (Bool) := if a0 ≥ a1 then (some (decide (a0 ≤ a2))) else (some false)
set_option maxHeartbeats 8000000 in
set_option maxRecDepth 100000 in
theorem impl_inRange.calls (a0 : Int) (a1 : Int) (a2 : Int) (r : Bool) (w : World) (h : impl_inRange.f a0 a1 a2 = some r) :
  Calls Try.prog 36 #[.int .i64 a0, .int .i64 a1, .int .i64 a2] w fun e w' => e = .returned (.bool r) ∧ Drawn0 w w' := by
 have H : (if a0 ≥ a1 then (some (decide (a0 ≤ a2))) else (some false)) = some r := h
 clear h
 by_cases c4 : a0 ≥ a1
 ·rw [if_pos c4] at H
  have c4b0 : decide (a1 ≤ a0) = true := decide_eq_true c4
  clear c4
  obtain rfl := Option.some.inj H
  go_enter Try.func36, Try.ntmps36
  go_wp2
  go_ret
  exact ⟨by first | rfl | (simp; done) | (simp [*]; done), by repeat (first | exact Drawn0.refl _ | apply Drawn0.step)⟩
 ·rw [if_neg c4] at H
  have c4b0 : decide (a1 ≤ a0) = false := decide_eq_false c4
  clear c4
  obtain rfl := Option.some.inj H
  go_enter Try.func36, Try.ntmps36
  go_wp2
  go_ret
  exact ⟨by first | rfl | (simp; done) | (simp [*]; done), by repeat (first | exact Drawn0.refl _ | apply Drawn0.step)⟩
def impl_Arena_used.l0 : Nat → Int → List (S50) → Int → Int → Option (Int)
 | 0, _, _, _, _ => none
 | k + 1, x3, x7, x8, x9 => if x9 < x8 then (if 0 ≤ x9 then (if x9 < (x7.length : Int) then (if (rd_T50 x7 x9).f1 = true then (impl_Arena_used.l0 k (wrap64 (x3 + 1)) x7 x8 (wrap64 (x9 + 1))) else (impl_Arena_used.l0 k x3 x7 x8 (wrap64 (x9 + 1)))) else (none)) else (none)) else (some x3)
def impl_Arena_used.f (k : Nat) (l0_0 : List (S50)) (a0_1 : Int) : Option (Int) := impl_Arena_used.l0 k 0 l0_0 (l0_0.length : Int) 0
set_option maxHeartbeats 8000000 in
set_option maxRecDepth 100000 in
theorem impl_Arena_used.calls (k : Nat) (A0_0 : Option Addr) (c0_0 : Nat) (l0_0 : List (S50)) (a0_1 : Int) (r : Int) (w : World) (hr0_0 : Kd.C k50 w A0_0 l0_0.length l0_0) (hc0_0 : l0_0.length ≤ c0_0) (h : impl_Arena_used.f k l0_0 a0_1 = some r) :
  Calls Try.prog 45 #[.agg #[.slice A0_0 l0_0.length c0_0, .int .i64 a0_1]] w fun e w' => e = .returned (.int .i64 r) ∧ Below w.heap.size w w' := by
 have hu42 := Try.underlying42
 have hu50 := Try.underlying50
 have HR0_0 := am hr0_0
 have HC0_0 := am hc0_0
 clear hr0_0 hc0_0
 have HB := am (Below.refl w.heap.size w)
 have H : (impl_Arena_used.l0 k 0 l0_0 (l0_0.length : Int) 0) = some r := h
 clear h
 have H' := am H
 clear H
 go_enter Try.func45, Try.ntmps45
 go_wp2_with (first | ((with_reducible refine gate_dst (N := 1) rfl ?_); refine xE (N := 1) (cs := #[.slice A0_0 l0_0.length c0_0, .int .i64 a0_1]) (t := 42) (h := ?_); intro gb171 hg w2 hbox hb; have BK171 := am (hbox); have GW171 := am (xS hg HB.out); have GE171 := am (xS hg HB.out); replace HB := am (below_step (xW HB.out) hb); clear hb hbox hg; obtain ⟨hcz3_0, hcz3_1, hfz3_0, hfz3_1⟩ := xT2 (W := w2) BK171.out))
 go_loopg [3, 9] k (fun kq v3 v9 w' => ∃ (x3_1 : Int) (x9_1 : Int), v3 = .int .i64 x3_1 ∧ v9 = .int .i64 x9_1 ∧ Aside0 (impl_Arena_used.l0 kq x3_1 l0_0 (l0_0.length : Int) x9_1 = some r) ∧ Aside0 (kq ≤ k) ∧ Aside0 (w'.heap[gb171]? = some (.cells #[(.slice A0_0 l0_0.length c0_0), .int .i64 a0_1] 42 (0, 0))) ∧ Aside0 (Below w.heap.size w w'))
 case atStart => exact ⟨(0), (0), (by first | rfl | (simp; done) | (simp [*]; done)), (xQ), H', ⟨Nat.le_refl _⟩, ⟨xB BK171.out⟩, ⟨xW HB.out⟩⟩
 case round =>
  clear H'
  try clear p2
  try clear hcz3_0
  try clear hcz3_1
  try clear hfz3_0
  try clear hfz3_1
  obtain ⟨x3_1, x9_1, rfl, rfl, HA, HK1, BK171, HB⟩ := hrel
  cases gk with
  | zero => exact absurd HA.out (by simp [impl_Arena_used.l0])
  | succ k1 =>
   have H := HA.out
   clear HA
   simp only [impl_Arena_used.l0] at H
   by_cases c4 : x9_1 < (l0_0.length : Int)
   ·rw [if_pos c4] at H
    have c4b0 : decide (x9_1 < (l0_0.length : Int)) = true := decide_eq_true c4
    clear c4
    by_cases c5 : 0 ≤ x9_1
    ·rw [if_pos c5] at H
     have c5b0 : decide (0 ≤ x9_1) = true := decide_eq_true c5
     clear c5
     by_cases c6 : x9_1 < (l0_0.length : Int)
     ·rw [if_pos c6] at H
      have c6b0 : decide (x9_1 < (l0_0.length : Int)) = true := decide_eq_true c6
      clear c6
      obtain ⟨bq7, hbq7⟩ : ∃ b_ : Bool, b_ = ((rd_T50 l0_0 x9_1).f1) := ⟨_, rfl⟩
      replace H : (if bq7 = true then (impl_Arena_used.l0 k1 (wrap64 (x3_1 + 1)) l0_0 (l0_0.length : Int) (wrap64 (x9_1 + 1))) else (impl_Arena_used.l0 k1 x3_1 l0_0 (l0_0.length : Int) (wrap64 (x9_1 + 1)))) = some r := by rw [← hbq7] at H; exact H
      have Nbq7 := am hbq7
      clear hbq7
      by_cases c8 : bq7 = true
      ·subst c8
       have H1 : (impl_Arena_used.l0 k1 (wrap64 (x3_1 + 1)) l0_0 (l0_0.length : Int) (wrap64 (x9_1 + 1))) = some r := by rw [if_pos rfl] at H; exact H
       clear H
       have H := H1
       clear H1
       have H' := am H
       clear H
       have p172 : 0 ≤ (x9_1 : Int) := of_decide_eq_true (by assumption)
       have q172 : x9_1 < (l0_0.length : Int) := of_decide_eq_true (by assumption)
       obtain ⟨ad172, e172, hx172_0, hx172_1, hx172_2, hx172_3, hx172_4⟩ := at_T50 HR0_0.out x9_1 p172 q172
       (try rw [← Nbq7.out] at hx172_1)
       cases e172
       replace hx172_0 := (HB.out.cell (World.block_lt_of_cell? w _ hx172_0)).trans hx172_0
       replace hx172_1 := (HB.out.cell (World.block_lt_of_cell? w _ hx172_1)).trans hx172_1
       replace hx172_2 := (HB.out.cell (World.block_lt_of_cell? w _ hx172_2)).trans hx172_2
       replace hx172_3 := (HB.out.cell (World.block_lt_of_cell? w _ hx172_3)).trans hx172_3
       replace hx172_4 := (HB.out.cell (World.block_lt_of_cell? w _ hx172_4)).trans hx172_4
       replace p172 := eq_true p172
       replace q172 := eq_true q172
       go_wp2_with (first | ((with_reducible refine gate_dst (N := 5) rfl ?_); refine xE (N := 5) (cs := #[.int .i64 0, .bool false, .string (⟨#[]⟩ : ByteArray), .string (⟨#[]⟩ : ByteArray), .int .i64 0]) (t := 50) (h := ?_); intro gb173 hg w9 hbox hb; have BK173 := am (hbox); have GW173 := am (xS hg HB.out); have GE173 := am (xS hg HB.out); replace HB := am (below_step (xW HB.out) hb); have NB171_173 := am (xN hg BK171.out); have NB173_171 := am (xM hg BK171.out); replace BK171 := am (blk_below (xB BK171.out) hb); clear hb hbox hg; have hnb10 := NB173_171.out; have hnc10 := NB171_173.out; have hcz11_0 : w9.cell? ⟨gb173, 0, none⟩ = some (.int .i64 0) := (blk_cell BK173.out 0).trans rfl; have hcz11_1 : w9.cell? ⟨gb173, 1, none⟩ = some (.bool false) := (blk_cell BK173.out 1).trans rfl; have hcz11_2 : w9.cell? ⟨gb173, 2, none⟩ = some (.string (⟨#[]⟩ : ByteArray)) := (blk_cell BK173.out 2).trans rfl; have hcz11_3 : w9.cell? ⟨gb173, 3, none⟩ = some (.string (⟨#[]⟩ : ByteArray)) := (blk_cell BK173.out 3).trans rfl; have hcz11_4 : w9.cell? ⟨gb173, 4, none⟩ = some (.int .i64 0) := (blk_cell BK173.out 4).trans rfl; have hfz11_0 := blk_frozen BK173.out 0; have hfz11_1 := blk_frozen BK173.out 1; have hfz11_2 := blk_frozen BK173.out 2; have hfz11_3 := blk_frozen BK173.out 3; have hfz11_4 := blk_frozen BK173.out 4))
       go_roundg k1
       case measure => have := HK1.out; omega
       case rel => exact ⟨(wrap64 (x3_1 + 1)), (wrap64 (x9_1 + 1)), (by first | rfl | (simp; done) | (simp [*]; done)), (xQ), H', ⟨by have := HK1.out; omega⟩, ⟨xB BK171.out⟩, ⟨xW HB.out⟩⟩
      ·replace c8 := Bool.eq_false_iff.mpr c8
       subst c8
       have H1 : (impl_Arena_used.l0 k1 x3_1 l0_0 (l0_0.length : Int) (wrap64 (x9_1 + 1))) = some r := by rw [if_neg (show ¬ (false = true) by decide)] at H; exact H
       clear H
       have H := H1
       clear H1
       have H' := am H
       clear H
       have p172 : 0 ≤ (x9_1 : Int) := of_decide_eq_true (by assumption)
       have q172 : x9_1 < (l0_0.length : Int) := of_decide_eq_true (by assumption)
       obtain ⟨ad172, e172, hx172_0, hx172_1, hx172_2, hx172_3, hx172_4⟩ := at_T50 HR0_0.out x9_1 p172 q172
       (try rw [← Nbq7.out] at hx172_1)
       cases e172
       replace hx172_0 := (HB.out.cell (World.block_lt_of_cell? w _ hx172_0)).trans hx172_0
       replace hx172_1 := (HB.out.cell (World.block_lt_of_cell? w _ hx172_1)).trans hx172_1
       replace hx172_2 := (HB.out.cell (World.block_lt_of_cell? w _ hx172_2)).trans hx172_2
       replace hx172_3 := (HB.out.cell (World.block_lt_of_cell? w _ hx172_3)).trans hx172_3
       replace hx172_4 := (HB.out.cell (World.block_lt_of_cell? w _ hx172_4)).trans hx172_4
       replace p172 := eq_true p172
       replace q172 := eq_true q172
       go_wp2_with (first | ((with_reducible refine gate_dst (N := 5) rfl ?_); refine xE (N := 5) (cs := #[.int .i64 0, .bool false, .string (⟨#[]⟩ : ByteArray), .string (⟨#[]⟩ : ByteArray), .int .i64 0]) (t := 50) (h := ?_); intro gb173 hg w12 hbox hb; have BK173 := am (hbox); have GW173 := am (xS hg HB.out); have GE173 := am (xS hg HB.out); replace HB := am (below_step (xW HB.out) hb); have NB171_173 := am (xN hg BK171.out); have NB173_171 := am (xM hg BK171.out); replace BK171 := am (blk_below (xB BK171.out) hb); clear hb hbox hg; have hnb13 := NB173_171.out; have hnc13 := NB171_173.out; have hcz14_0 : w12.cell? ⟨gb173, 0, none⟩ = some (.int .i64 0) := (blk_cell BK173.out 0).trans rfl; have hcz14_1 : w12.cell? ⟨gb173, 1, none⟩ = some (.bool false) := (blk_cell BK173.out 1).trans rfl; have hcz14_2 : w12.cell? ⟨gb173, 2, none⟩ = some (.string (⟨#[]⟩ : ByteArray)) := (blk_cell BK173.out 2).trans rfl; have hcz14_3 : w12.cell? ⟨gb173, 3, none⟩ = some (.string (⟨#[]⟩ : ByteArray)) := (blk_cell BK173.out 3).trans rfl; have hcz14_4 : w12.cell? ⟨gb173, 4, none⟩ = some (.int .i64 0) := (blk_cell BK173.out 4).trans rfl; have hfz14_0 := blk_frozen BK173.out 0; have hfz14_1 := blk_frozen BK173.out 1; have hfz14_2 := blk_frozen BK173.out 2; have hfz14_3 := blk_frozen BK173.out 3; have hfz14_4 := blk_frozen BK173.out 4))
       go_roundg k1
       case measure => have := HK1.out; omega
       case rel => exact ⟨(x3_1), (wrap64 (x9_1 + 1)), (by first | rfl | (simp; done) | (simp [*]; done)), (xQ), H', ⟨by have := HK1.out; omega⟩, ⟨xB BK171.out⟩, ⟨xW HB.out⟩⟩
     ·rw [if_neg c6] at H
      exact absurd H (by simp)
    ·rw [if_neg c5] at H
     exact absurd H (by simp)
   ·rw [if_neg c4] at H
    have c4b0 : decide (x9_1 < (l0_0.length : Int)) = false := decide_eq_false c4
    clear c4
    obtain rfl := Option.some.inj H
    go_wp2
    go_ret
    exact ⟨xV, xW HB.out⟩
def impl_isKey.f (a0 : ByteArray) : Option (Bool) := (impl_inRange.f (a0.size : Int) 1 12).bind fun t174 => (some t174)
set_option maxHeartbeats 8000000 in
set_option maxRecDepth 100000 in
theorem impl_isKey.calls (a0 : ByteArray) (r : Bool) (w : World) (h : impl_isKey.f a0 = some r) :
  Calls Try.prog 70 #[.string a0] w fun e w' => e = .returned (.bool r) ∧ Drawn0 w w' := by
 have H : ((impl_inRange.f (a0.size : Int) 1 12).bind fun t174 => (some t174)) = some r := h
 clear h
 replace H := Option.bind_eq_some_iff.mp H
 obtain ⟨t174, A20, H⟩ := H
 replace H : (some t174) = some r := H
 have A2 := am A20
 clear A20
 obtain rfl := Option.some.inj H
 go_enter Try.func70, Try.ntmps70
 go_wp2_with (first | ((with_reducible refine gate_callee (f := 36) rfl ?_); refine xG (some 5) 36 Try.func36 #[.int .i64 (a0.size : Int), .int .i64 1, .int .i64 12] (h := ?_); (with_reducible refine (impl_inRange.calls (a0.size : Int) 1 12 t174 _ A2.out).mono ?_); rintro e w' ⟨rfl, ⟨nd, rfl⟩⟩; refine ⟨_, rfl, ?_⟩))
 go_ret
 exact ⟨by first | rfl | (simp; done) | (simp [*]; done), by repeat (first | exact Drawn0.refl _ | apply Drawn0.step)⟩
def impl_slotOk.f (a0_0 : Int) (a0_1 : Bool) (a0_2 : ByteArray) (a0_3 : ByteArray) (a0_4 : Int) : Option (Bool) := (impl_inRange.f a0_0 0 41666665).bind fun t176 => (if t176 = true then (if a0_1 = true then ((impl_isKey.f a0_2).bind fun t177 => (if t177 = true then (if (a0_3.size : Int) ≤ 20 then (some (a0_4 == 0)) else (some false)) else (some false))) else (if a0_2.toList = ([] : List UInt8) then (some (a0_3.toList == ([] : List UInt8))) else (some false))) else (some false))
set_option maxHeartbeats 8000000 in
set_option maxRecDepth 100000 in
theorem impl_slotOk.calls (a0_0 : Int) (a0_1 : Bool) (a0_2 : ByteArray) (a0_3 : ByteArray) (a0_4 : Int) (r : Bool) (w : World) (h : impl_slotOk.f a0_0 a0_1 a0_2 a0_3 a0_4 = some r) :
  Calls Try.prog 46 #[.agg #[.int .i64 a0_0, .bool a0_1, .string a0_2, .string a0_3, .int .i64 a0_4]] w fun e w' => e = .returned (.bool r) ∧ Below w.heap.size w w' := by
 have hu50 := Try.underlying50
 have HB := am (Below.refl w.heap.size w)
 have H : ((impl_inRange.f a0_0 0 41666665).bind fun t176 => (if t176 = true then (if a0_1 = true then ((impl_isKey.f a0_2).bind fun t177 => (if t177 = true then (if (a0_3.size : Int) ≤ 20 then (some (a0_4 == 0)) else (some false)) else (some false))) else (if a0_2.toList = ([] : List UInt8) then (some (a0_3.toList == ([] : List UInt8))) else (some false))) else (some false))) = some r := h
 clear h
 replace H := Option.bind_eq_some_iff.mp H
 obtain ⟨t176, A20, H⟩ := H
 try dsimp only at H
 have A2 := am A20
 clear A20
 by_cases c3 : t176 = true
 ·subst c3
  have H1 : (if a0_1 = true then ((impl_isKey.f a0_2).bind fun t177 => (if t177 = true then (if (a0_3.size : Int) ≤ 20 then (some (a0_4 == 0)) else (some false)) else (some false))) else (if a0_2.toList = ([] : List UInt8) then (some (a0_3.toList == ([] : List UInt8))) else (some false))) = some r := by rw [if_pos rfl] at H; exact H
  clear H
  have H := H1
  clear H1
  by_cases c4 : a0_1 = true
  ·subst c4
   have H1 : ((impl_isKey.f a0_2).bind fun t177 => (if t177 = true then (if (a0_3.size : Int) ≤ 20 then (some (a0_4 == 0)) else (some false)) else (some false))) = some r := by rw [if_pos rfl] at H; exact H
   clear H
   have H := H1
   clear H1
   replace H := Option.bind_eq_some_iff.mp H
   obtain ⟨t177, A50, H⟩ := H
   try dsimp only at H
   have A5 := am A50
   clear A50
   by_cases c6 : t177 = true
   ·subst c6
    have H1 : (if (a0_3.size : Int) ≤ 20 then (some (a0_4 == 0)) else (some false)) = some r := by rw [if_pos rfl] at H; exact H
    clear H
    have H := H1
    clear H1
    by_cases c7 : (a0_3.size : Int) ≤ 20
    ·rw [if_pos c7] at H
     have c7b0 : decide ((a0_3.size : Int) ≤ 20) = true := decide_eq_true c7
     have c7b1 : decide (a0_3.size ≤ 20) = true := decide_eq_true (by omega)
     clear c7
     obtain rfl := Option.some.inj H
     go_enter Try.func46, Try.ntmps46
     go_wp2_with (first | ((with_reducible refine gate_dst (N := 1) rfl ?_); (try (refine gate_guard (by rfl) ?_; dsimp only)); refine xE (N := 1) (cs := #[.int .i64 a0_0, .bool true, .string a0_2, .string a0_3, .int .i64 a0_4]) (t := 50) (h := ?_); intro gb175 hg w8 hbox hb; have BK175 := am (hbox); have GW175 := am (xS hg HB.out); have GE175 := am (xS hg HB.out); replace HB := am (below_step (xW HB.out) hb); clear hb hbox hg; have hcz9_0 : w8.cell? ⟨gb175, 0, none⟩ = some (.int .i64 a0_0) := (blk_cell BK175.out 0).trans rfl; have hcz9_1 : w8.cell? ⟨gb175, 1, none⟩ = some (.bool true) := (blk_cell BK175.out 1).trans rfl; have hcz9_2 : w8.cell? ⟨gb175, 2, none⟩ = some (.string a0_2) := (blk_cell BK175.out 2).trans rfl; have hcz9_3 : w8.cell? ⟨gb175, 3, none⟩ = some (.string a0_3) := (blk_cell BK175.out 3).trans rfl; have hcz9_4 : w8.cell? ⟨gb175, 4, none⟩ = some (.int .i64 a0_4) := (blk_cell BK175.out 4).trans rfl; have hfz9_0 := blk_frozen BK175.out 0; have hfz9_1 := blk_frozen BK175.out 1; have hfz9_2 := blk_frozen BK175.out 2; have hfz9_3 := blk_frozen BK175.out 3; have hfz9_4 := blk_frozen BK175.out 4) | ((with_reducible refine gate_callee (f := 36) rfl ?_); refine xG (some 5) 36 Try.func36 #[.int .i64 a0_0, .int .i64 0, .int .i64 41666665] (h := ?_); (with_reducible refine (impl_inRange.calls a0_0 0 41666665 true _ A2.out).mono ?_); rintro e w' ⟨rfl, ⟨nd, rfl⟩⟩; refine ⟨_, rfl, ?_⟩) | ((with_reducible refine gate_callee (f := 70) rfl ?_); refine xG (some 11) 70 Try.func70 #[.string a0_2] (h := ?_); (with_reducible refine (impl_isKey.calls a0_2 true _ A5.out).mono ?_); rintro e w' ⟨rfl, ⟨nd, rfl⟩⟩; refine ⟨_, rfl, ?_⟩))
     go_ret
     exact ⟨xV, xW HB.out⟩
    ·rw [if_neg c7] at H
     have c7b0 : decide ((a0_3.size : Int) ≤ 20) = false := decide_eq_false c7
     have c7b1 : decide (a0_3.size ≤ 20) = false := decide_eq_false (by omega)
     clear c7
     obtain rfl := Option.some.inj H
     go_enter Try.func46, Try.ntmps46
     go_wp2_with (first | ((with_reducible refine gate_dst (N := 1) rfl ?_); (try (refine gate_guard (by rfl) ?_; dsimp only)); refine xE (N := 1) (cs := #[.int .i64 a0_0, .bool true, .string a0_2, .string a0_3, .int .i64 a0_4]) (t := 50) (h := ?_); intro gb175 hg w10 hbox hb; have BK175 := am (hbox); have GW175 := am (xS hg HB.out); have GE175 := am (xS hg HB.out); replace HB := am (below_step (xW HB.out) hb); clear hb hbox hg; have hcz11_0 : w10.cell? ⟨gb175, 0, none⟩ = some (.int .i64 a0_0) := (blk_cell BK175.out 0).trans rfl; have hcz11_1 : w10.cell? ⟨gb175, 1, none⟩ = some (.bool true) := (blk_cell BK175.out 1).trans rfl; have hcz11_2 : w10.cell? ⟨gb175, 2, none⟩ = some (.string a0_2) := (blk_cell BK175.out 2).trans rfl; have hcz11_3 : w10.cell? ⟨gb175, 3, none⟩ = some (.string a0_3) := (blk_cell BK175.out 3).trans rfl; have hcz11_4 : w10.cell? ⟨gb175, 4, none⟩ = some (.int .i64 a0_4) := (blk_cell BK175.out 4).trans rfl; have hfz11_0 := blk_frozen BK175.out 0; have hfz11_1 := blk_frozen BK175.out 1; have hfz11_2 := blk_frozen BK175.out 2; have hfz11_3 := blk_frozen BK175.out 3; have hfz11_4 := blk_frozen BK175.out 4) | ((with_reducible refine gate_callee (f := 36) rfl ?_); refine xG (some 5) 36 Try.func36 #[.int .i64 a0_0, .int .i64 0, .int .i64 41666665] (h := ?_); (with_reducible refine (impl_inRange.calls a0_0 0 41666665 true _ A2.out).mono ?_); rintro e w' ⟨rfl, ⟨nd, rfl⟩⟩; refine ⟨_, rfl, ?_⟩) | ((with_reducible refine gate_callee (f := 70) rfl ?_); refine xG (some 11) 70 Try.func70 #[.string a0_2] (h := ?_); (with_reducible refine (impl_isKey.calls a0_2 true _ A5.out).mono ?_); rintro e w' ⟨rfl, ⟨nd, rfl⟩⟩; refine ⟨_, rfl, ?_⟩))
     go_ret
     exact ⟨xV, xW HB.out⟩
   ·replace c6 := Bool.eq_false_iff.mpr c6
    subst c6
    have H1 : (some false) = some r := by rw [if_neg (show ¬ (false = true) by decide)] at H; exact H
    clear H
    have H := H1
    clear H1
    obtain rfl := Option.some.inj H
    go_enter Try.func46, Try.ntmps46
    go_wp2_with (first | ((with_reducible refine gate_dst (N := 1) rfl ?_); (try (refine gate_guard (by rfl) ?_; dsimp only)); refine xE (N := 1) (cs := #[.int .i64 a0_0, .bool true, .string a0_2, .string a0_3, .int .i64 a0_4]) (t := 50) (h := ?_); intro gb175 hg w12 hbox hb; have BK175 := am (hbox); have GW175 := am (xS hg HB.out); have GE175 := am (xS hg HB.out); replace HB := am (below_step (xW HB.out) hb); clear hb hbox hg; have hcz13_0 : w12.cell? ⟨gb175, 0, none⟩ = some (.int .i64 a0_0) := (blk_cell BK175.out 0).trans rfl; have hcz13_1 : w12.cell? ⟨gb175, 1, none⟩ = some (.bool true) := (blk_cell BK175.out 1).trans rfl; have hcz13_2 : w12.cell? ⟨gb175, 2, none⟩ = some (.string a0_2) := (blk_cell BK175.out 2).trans rfl; have hcz13_3 : w12.cell? ⟨gb175, 3, none⟩ = some (.string a0_3) := (blk_cell BK175.out 3).trans rfl; have hcz13_4 : w12.cell? ⟨gb175, 4, none⟩ = some (.int .i64 a0_4) := (blk_cell BK175.out 4).trans rfl; have hfz13_0 := blk_frozen BK175.out 0; have hfz13_1 := blk_frozen BK175.out 1; have hfz13_2 := blk_frozen BK175.out 2; have hfz13_3 := blk_frozen BK175.out 3; have hfz13_4 := blk_frozen BK175.out 4) | ((with_reducible refine gate_callee (f := 36) rfl ?_); refine xG (some 5) 36 Try.func36 #[.int .i64 a0_0, .int .i64 0, .int .i64 41666665] (h := ?_); (with_reducible refine (impl_inRange.calls a0_0 0 41666665 true _ A2.out).mono ?_); rintro e w' ⟨rfl, ⟨nd, rfl⟩⟩; refine ⟨_, rfl, ?_⟩) | ((with_reducible refine gate_callee (f := 70) rfl ?_); refine xG (some 11) 70 Try.func70 #[.string a0_2] (h := ?_); (with_reducible refine (impl_isKey.calls a0_2 false _ A5.out).mono ?_); rintro e w' ⟨rfl, ⟨nd, rfl⟩⟩; refine ⟨_, rfl, ?_⟩))
    go_ret
    exact ⟨xV, xW HB.out⟩
  ·replace c4 := Bool.eq_false_iff.mpr c4
   subst c4
   have H1 : (if a0_2.toList = ([] : List UInt8) then (some (a0_3.toList == ([] : List UInt8))) else (some false)) = some r := by rw [if_neg (show ¬ (false = true) by decide)] at H; exact H
   clear H
   have H := H1
   clear H1
   by_cases c14 : a0_2.toList = ([] : List UInt8)
   ·rw [if_pos c14] at H
    have c14b0 : (a0_2.toList == ([] : List UInt8)) = true := beq_iff_eq.mpr c14
    have c14b1 : (a0_2.toList != ([] : List UInt8)) = false := bne_eq_false_iff_eq.mpr c14
    clear c14
    obtain rfl := Option.some.inj H
    go_enter Try.func46, Try.ntmps46
    go_wp2_with (first | ((with_reducible refine gate_dst (N := 1) rfl ?_); (try (refine gate_guard (by rfl) ?_; dsimp only)); refine xE (N := 1) (cs := #[.int .i64 a0_0, .bool false, .string a0_2, .string a0_3, .int .i64 a0_4]) (t := 50) (h := ?_); intro gb175 hg w15 hbox hb; have BK175 := am (hbox); have GW175 := am (xS hg HB.out); have GE175 := am (xS hg HB.out); replace HB := am (below_step (xW HB.out) hb); clear hb hbox hg; have hcz16_0 : w15.cell? ⟨gb175, 0, none⟩ = some (.int .i64 a0_0) := (blk_cell BK175.out 0).trans rfl; have hcz16_1 : w15.cell? ⟨gb175, 1, none⟩ = some (.bool false) := (blk_cell BK175.out 1).trans rfl; have hcz16_2 : w15.cell? ⟨gb175, 2, none⟩ = some (.string a0_2) := (blk_cell BK175.out 2).trans rfl; have hcz16_3 : w15.cell? ⟨gb175, 3, none⟩ = some (.string a0_3) := (blk_cell BK175.out 3).trans rfl; have hcz16_4 : w15.cell? ⟨gb175, 4, none⟩ = some (.int .i64 a0_4) := (blk_cell BK175.out 4).trans rfl; have hfz16_0 := blk_frozen BK175.out 0; have hfz16_1 := blk_frozen BK175.out 1; have hfz16_2 := blk_frozen BK175.out 2; have hfz16_3 := blk_frozen BK175.out 3; have hfz16_4 := blk_frozen BK175.out 4) | ((with_reducible refine gate_callee (f := 36) rfl ?_); refine xG (some 5) 36 Try.func36 #[.int .i64 a0_0, .int .i64 0, .int .i64 41666665] (h := ?_); (with_reducible refine (impl_inRange.calls a0_0 0 41666665 true _ A2.out).mono ?_); rintro e w' ⟨rfl, ⟨nd, rfl⟩⟩; refine ⟨_, rfl, ?_⟩))
    go_ret
    exact ⟨xV, xW HB.out⟩
   ·rw [if_neg c14] at H
    have c14b0 : (a0_2.toList == ([] : List UInt8)) = false := beq_eq_false_iff_ne.mpr c14
    have c14b1 : (a0_2.toList != ([] : List UInt8)) = true := bne_iff_ne.mpr c14
    obtain rfl := Option.some.inj H
    go_enter Try.func46, Try.ntmps46
    go_wp2_with (first | ((with_reducible refine gate_dst (N := 1) rfl ?_); (try (refine gate_guard (by rfl) ?_; dsimp only)); refine xE (N := 1) (cs := #[.int .i64 a0_0, .bool false, .string a0_2, .string a0_3, .int .i64 a0_4]) (t := 50) (h := ?_); intro gb175 hg w17 hbox hb; have BK175 := am (hbox); have GW175 := am (xS hg HB.out); have GE175 := am (xS hg HB.out); replace HB := am (below_step (xW HB.out) hb); clear hb hbox hg; have hcz18_0 : w17.cell? ⟨gb175, 0, none⟩ = some (.int .i64 a0_0) := (blk_cell BK175.out 0).trans rfl; have hcz18_1 : w17.cell? ⟨gb175, 1, none⟩ = some (.bool false) := (blk_cell BK175.out 1).trans rfl; have hcz18_2 : w17.cell? ⟨gb175, 2, none⟩ = some (.string a0_2) := (blk_cell BK175.out 2).trans rfl; have hcz18_3 : w17.cell? ⟨gb175, 3, none⟩ = some (.string a0_3) := (blk_cell BK175.out 3).trans rfl; have hcz18_4 : w17.cell? ⟨gb175, 4, none⟩ = some (.int .i64 a0_4) := (blk_cell BK175.out 4).trans rfl; have hfz18_0 := blk_frozen BK175.out 0; have hfz18_1 := blk_frozen BK175.out 1; have hfz18_2 := blk_frozen BK175.out 2; have hfz18_3 := blk_frozen BK175.out 3; have hfz18_4 := blk_frozen BK175.out 4) | ((with_reducible refine gate_callee (f := 36) rfl ?_); refine xG (some 5) 36 Try.func36 #[.int .i64 a0_0, .int .i64 0, .int .i64 41666665] (h := ?_); (with_reducible refine (impl_inRange.calls a0_0 0 41666665 true _ A2.out).mono ?_); rintro e w' ⟨rfl, ⟨nd, rfl⟩⟩; refine ⟨_, rfl, ?_⟩))
    go_ret
    exact ⟨xV, xW HB.out⟩
 ·replace c3 := Bool.eq_false_iff.mpr c3
  subst c3
  have H1 : (some false) = some r := by rw [if_neg (show ¬ (false = true) by decide)] at H; exact H
  clear H
  have H := H1
  clear H1
  obtain rfl := Option.some.inj H
  go_enter Try.func46, Try.ntmps46
  go_wp2_with (first | ((with_reducible refine gate_dst (N := 1) rfl ?_); (try (refine gate_guard (by rfl) ?_; dsimp only)); refine xE (N := 1) (cs := #[.int .i64 a0_0, .bool a0_1, .string a0_2, .string a0_3, .int .i64 a0_4]) (t := 50) (h := ?_); intro gb175 hg w19 hbox hb; have BK175 := am (hbox); have GW175 := am (xS hg HB.out); have GE175 := am (xS hg HB.out); replace HB := am (below_step (xW HB.out) hb); clear hb hbox hg; have hcz20_0 : w19.cell? ⟨gb175, 0, none⟩ = some (.int .i64 a0_0) := (blk_cell BK175.out 0).trans rfl; have hcz20_1 : w19.cell? ⟨gb175, 1, none⟩ = some (.bool a0_1) := (blk_cell BK175.out 1).trans rfl; have hcz20_2 : w19.cell? ⟨gb175, 2, none⟩ = some (.string a0_2) := (blk_cell BK175.out 2).trans rfl; have hcz20_3 : w19.cell? ⟨gb175, 3, none⟩ = some (.string a0_3) := (blk_cell BK175.out 3).trans rfl; have hcz20_4 : w19.cell? ⟨gb175, 4, none⟩ = some (.int .i64 a0_4) := (blk_cell BK175.out 4).trans rfl; have hfz20_0 := blk_frozen BK175.out 0; have hfz20_1 := blk_frozen BK175.out 1; have hfz20_2 := blk_frozen BK175.out 2; have hfz20_3 := blk_frozen BK175.out 3; have hfz20_4 := blk_frozen BK175.out 4) | ((with_reducible refine gate_callee (f := 36) rfl ?_); refine xG (some 5) 36 Try.func36 #[.int .i64 a0_0, .int .i64 0, .int .i64 41666665] (h := ?_); (with_reducible refine (impl_inRange.calls a0_0 0 41666665 false _ A2.out).mono ?_); rintro e w' ⟨rfl, ⟨nd, rfl⟩⟩; refine ⟨_, rfl, ?_⟩))
  go_ret
  exact ⟨xV, xW HB.out⟩
end Go.Proofs.Ytomcapflpephmaa.HFnExactLift
