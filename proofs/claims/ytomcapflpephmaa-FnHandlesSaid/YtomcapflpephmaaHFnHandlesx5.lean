/- Contracts of functions that the law reaches: walked as the kit's print walks them, beside contracts proved by hand. -/
import Derived.Test.YtomcapflpephmaaHX
import Derived.Test.YtomcapflpephmaaHFnHandlesx0
import Derived.Test.YtomcapflpephmaaHFnHandlesx2
import Derived.Test.YtomcapflpephmaaHFnHandlesx3
import Derived.Test.YtomcapflpephmaaHFnHandlesx4
namespace Go.Proofs.Ytomcapflpephmaa.HFnHandles
open Go.RowKit Go.Proofs.YtomcapflpephmaaW.PrintWords Go.Proofs.YtomcapflpephmaaW.PrintLast Go.Proofs.YtomcapflpephmaaW.PrintMore
attribute [local go_sem] max2_int min2_int max_two min_two max_three min_three max_four min_four   -- for this text's walks alone
set_option linter.unusedVariables false
set_option linter.unusedSimpArgs false

/-! ### spec_l03At: function 38 -/
def spec_l03At.j0 : Nat → Int → Bool → List (S50) → Int → Option (Int)
  | 0, _, _, _, _ => none
  | k + 1, x1, x20, x174000, x174001 => if x20 = true then (some (-1)) else (if 0 ≤ (Int.tmod x1 24) then (if (Int.tmod x1 24) < (x174000.length : Int) then (if ((rd_T50 x174000 (Int.tmod x1 24)).f1 = true) then (if ((rd_T50 x174000 (Int.tmod x1 24)).f0) = (wrap64 (Int.tdiv x1 24)) then (some (Int.tmod x1 24)) else (some (-1))) else (some (-1))) else (none)) else (none))
def spec_l03At.f (k : Nat) (l0_0 : List (S50)) (a0_1 : Int) (a1 : Int) : Option (Int) := (spec_ArenaOk.f k l0_0 a0_1).bind fun t174 => (if t174 = true then (if a1 < 0 then (spec_l03At.j0 k a1 true l0_0 a0_1) else (spec_l03At.j0 k a1 (decide ((Int.tmod a1 24) ≥ (l0_0.length : Int))) l0_0 a0_1)) else (spec_l03At.j0 k a1 true l0_0 a0_1))
theorem spec_l03At.mono_l : ∀ k, (∀ y0 y1 y2 y3, LeO (spec_l03At.j0 k y0 y1 y2 y3) (spec_l03At.j0 (k + 1) y0 y1 y2 y3))
  | 0 => fun _ _ _ _ r h => by simp [spec_l03At.j0] at h
  | k + 1 => by
    have ih0 := spec_l03At.mono_l k
    · intro y0 y1 y2 y3
      unfold spec_l03At.j0
      repeat' first | (with_reducible first | apply ih0 | apply spec_ArenaOk.mono | exact LeO.refl _ | exact LeO.none _ | refine LeO.ite ?_ ?_ | refine LeO.bind ?_ (fun _ => ?_))
theorem spec_l03At.mono : ∀ a0 a1 a2 k, LeO (spec_l03At.f k a0 a1 a2) (spec_l03At.f (k + 1) a0 a1 a2) := by
  intro a0 a1 a2 k
  have ih0 := spec_l03At.mono_l k
  unfold spec_l03At.f
  repeat' first | (with_reducible first | apply ih0 | apply spec_ArenaOk.mono | exact LeO.refl _ | exact LeO.none _ | refine LeO.ite ?_ ?_ | refine LeO.bind ?_ (fun _ => ?_))
set_option maxHeartbeats 8000000 in
set_option maxRecDepth 100000 in
theorem spec_l03At.calls (k : Nat) (A0_0 : Option Addr) (c0_0 : Nat) (l0_0 : List (S50)) (a0_1 : Int) (a1 : Int) (r : Int) (w : World) (hr0_0 : Kd.C k50 w A0_0 l0_0.length l0_0) (hc0_0 : l0_0.length ≤ c0_0) (h : spec_l03At.f k l0_0 a0_1 a1 = some r) :
    Calls Try.prog 38 #[.agg #[.slice A0_0 l0_0.length c0_0, .int .i64 a0_1], .int .i64 a1] w fun e w' => e = .returned (.int .i64 r) ∧ Below w.heap.size w w' := by
  have hu42 := Try.underlying42
  have HR0_0 := am hr0_0
  have HC0_0 := am hc0_0
  clear hr0_0 hc0_0
  have HB := am (Below.refl w.heap.size w)
  have H : ((spec_ArenaOk.f k l0_0 a0_1).bind fun t174 => (if t174 = true then (if a1 < 0 then (spec_l03At.j0 k a1 true l0_0 a0_1) else (spec_l03At.j0 k a1 (decide ((Int.tmod a1 24) ≥ (l0_0.length : Int))) l0_0 a0_1)) else (spec_l03At.j0 k a1 true l0_0 a0_1))) = some r := h
  clear h
  have HC3 := am H
  clear H
  go_enter Try.func38, Try.ntmps38
  go_upto_region 1 with (first | ((with_reducible refine gate_dst (N := 2) rfl ?_); (try (refine gate_guard (by rfl) ?_; dsimp only)); refine xE (N := 2) (cs := #[.slice A0_0 l0_0.length c0_0, .int .i64 a0_1]) (t := 42) (h := ?_); intro gb173 hg w4 hbox hb; have BK173 := am (hbox); have GW173 := am (xS hg HB.out); have GE173 := am (xS hg HB.out); replace HB := am (below_step (xW HB.out) hb); clear hb hbox hg))
  (try simp only [Act.put, List.setIfInBounds_toArray, List.set_cons_zero, List.set_cons_succ])
  go_cut [20] (fun v20 wc => ∃ (kq : Nat) (x20_2 : Bool), v20 = .bool x20_2 ∧ Aside0 (spec_l03At.j0 kq a1 x20_2 l0_0 a0_1 = some r) ∧ Aside0 (kq ≤ k) ∧ Aside0 (wc.heap[gb173]? = some (.cells #[(.slice A0_0 l0_0.length c0_0), .int .i64 a0_1] 42 (0, 0))) ∧ Aside0 (Below w.heap.size w wc))
  case first =>
    have H := HC3.out
    clear HC3
    replace H := Option.bind_eq_some_iff.mp H
    obtain ⟨t174, A50, H⟩ := H
    try dsimp only at H
    have A5 := am A50
    clear A50
    by_cases c6 : t174 = true
    · subst c6
      have H1 : (if a1 < 0 then (spec_l03At.j0 k a1 true l0_0 a0_1) else (spec_l03At.j0 k a1 (decide ((Int.tmod a1 24) ≥ (l0_0.length : Int))) l0_0 a0_1)) = some r := by rw [if_pos rfl] at H; exact H
      clear H
      have H := H1
      clear H1
      by_cases c7 : a1 < 0
      · rw [if_pos c7] at H
        have c7b0 : decide (a1 < 0) = true := decide_eq_true c7
        clear c7
        (first | rw [c7b0] | (simp only [i64_w, i32_w]; rw [c7b0]) | skip)
        have H' := am H
        clear H
        obtain ⟨hcz8_0, hcz8_1, hfz8_0, hfz8_1⟩ := xT2 (W := w4) BK173.out
        go_wp2_with (first | ((with_reducible refine gate_callee (f := 64) rfl ?_); refine xG (some 7) 64 Try.func64 #[.agg #[.slice A0_0 l0_0.length c0_0, .int .i64 a0_1]] (h := ?_); (with_reducible refine (spec_ArenaOk.calls k _ _ l0_0 a0_1 true _ ?side1 ?side2 A5.out).mono ?_); (case side1 => exact xC (Kd.C_below HR0_0.out HB.out)); (case side2 => exact HC0_0.out); rintro e w9 ⟨rfl, hb⟩; refine ⟨_, rfl, ?_⟩; replace BK173 := am (blk_below (xB BK173.out) hb); replace HB := am (below_step (xW HB.out) hb); (try clear hb); ))
        go_meet
        case rel => exact ⟨_, (true), (xQ), H', ⟨by first | omega | exact Nat.le_refl _⟩, ⟨xB BK173.out⟩, ⟨xW HB.out⟩⟩
      · rw [if_neg c7] at H
        have c7b0 : decide (a1 < 0) = false := decide_eq_false c7
        clear c7
        (first | rw [c7b0] | (simp only [i64_w, i32_w]; rw [c7b0]) | skip)
        have H' := am H
        clear H
        obtain ⟨hcz10_0, hcz10_1, hfz10_0, hfz10_1⟩ := xT2 (W := w4) BK173.out
        go_wp2_with (first | ((with_reducible refine gate_callee (f := 64) rfl ?_); refine xG (some 7) 64 Try.func64 #[.agg #[.slice A0_0 l0_0.length c0_0, .int .i64 a0_1]] (h := ?_); (with_reducible refine (spec_ArenaOk.calls k _ _ l0_0 a0_1 true _ ?side1 ?side2 A5.out).mono ?_); (case side1 => exact xC (Kd.C_below HR0_0.out HB.out)); (case side2 => exact HC0_0.out); rintro e w11 ⟨rfl, hb⟩; refine ⟨_, rfl, ?_⟩; replace BK173 := am (blk_below (xB BK173.out) hb); replace HB := am (below_step (xW HB.out) hb); (try clear hb); obtain ⟨hcz12_0, hcz12_1, hfz12_0, hfz12_1⟩ := xT2 (W := w11) BK173.out))
        go_meet
        case rel => exact ⟨_, (decide ((Int.tmod a1 24) ≥ (l0_0.length : Int))), (xQ), H', ⟨by first | omega | exact Nat.le_refl _⟩, ⟨xB BK173.out⟩, ⟨xW HB.out⟩⟩
    · replace c6 := Bool.eq_false_iff.mpr c6
      subst c6
      have H1 : (spec_l03At.j0 k a1 true l0_0 a0_1) = some r := by rw [if_neg (show ¬ (false = true) by decide)] at H; exact H
      clear H
      have H := H1
      clear H1
      have H' := am H
      clear H
      obtain ⟨hcz13_0, hcz13_1, hfz13_0, hfz13_1⟩ := xT2 (W := w4) BK173.out
      go_wp2_with (first | ((with_reducible refine gate_callee (f := 64) rfl ?_); refine xG (some 7) 64 Try.func64 #[.agg #[.slice A0_0 l0_0.length c0_0, .int .i64 a0_1]] (h := ?_); (with_reducible refine (spec_ArenaOk.calls k _ _ l0_0 a0_1 false _ ?side1 ?side2 A5.out).mono ?_); (case side1 => exact xC (Kd.C_below HR0_0.out HB.out)); (case side2 => exact HC0_0.out); rintro e w14 ⟨rfl, hb⟩; refine ⟨_, rfl, ?_⟩; replace BK173 := am (blk_below (xB BK173.out) hb); replace HB := am (below_step (xW HB.out) hb); (try clear hb); ))
      go_meet
      case rel => exact ⟨_, (true), (xQ), H', ⟨by first | omega | exact Nat.le_refl _⟩, ⟨xB BK173.out⟩, ⟨xW HB.out⟩⟩
  case rest =>
    clear HC3
    try clear p2
    try clear c3
    try clear c6
    try clear c7
    try clear c7b0
    try clear hcz10_0
    try clear hcz10_1
    try clear hcz12_0
    try clear hcz12_1
    try clear hcz13_0
    try clear hcz13_1
    try clear hcz8_0
    try clear hcz8_1
    try clear hfz10_0
    try clear hfz10_1
    try clear hfz12_0
    try clear hfz12_1
    try clear hfz13_0
    try clear hfz13_1
    try clear hfz8_0
    try clear hfz8_1
    obtain ⟨kq, x20_2, rfl, HA, HJ2, BK173, HB⟩ := hcut
    cases kq with
    | zero => exact absurd HA.out (by simp [spec_l03At.j0])
    | succ kj2 =>
      have H := HA.out
      clear HA
      simp only [spec_l03At.j0] at H
      by_cases c15 : x20_2 = true
      · subst c15
        have H1 : (some (-1)) = some r := by rw [if_pos rfl] at H; exact H
        clear H
        have H := H1
        clear H1
        obtain rfl := Option.some.inj H
        go_wp2
        go_ret
        exact ⟨xV, xW HB.out⟩
      · replace c15 := Bool.eq_false_iff.mpr c15
        subst c15
        have H1 : (if 0 ≤ (Int.tmod a1 24) then (if (Int.tmod a1 24) < (l0_0.length : Int) then (if ((rd_T50 l0_0 (Int.tmod a1 24)).f1 = true) then (if ((rd_T50 l0_0 (Int.tmod a1 24)).f0) = (wrap64 (Int.tdiv a1 24)) then (some (Int.tmod a1 24)) else (some (-1))) else (some (-1))) else (none)) else (none)) = some r := by rw [if_neg (show ¬ (false = true) by decide)] at H; exact H
        clear H
        have H := H1
        clear H1
        obtain ⟨ji16, hji16⟩ : ∃ j_ : Int, (Int.tmod a1 24) = j_ := ⟨_, rfl⟩
        replace H : (if 0 ≤ (ji16) then (if (ji16) < (l0_0.length : Int) then (if ((rd_T50 l0_0 (ji16)).f1 = true) then (if ((rd_T50 l0_0 (ji16)).f0) = (wrap64 (Int.tdiv a1 24)) then (some ji16) else (some (-1))) else (some (-1))) else (none)) else (none)) = some r := by first | (rw [hji16] at H; exact H) | (simp only [hji16] at H ⊢; exact H)
        by_cases c17 : 0 ≤ (ji16)
        · rw [if_pos c17] at H
          have c17b0 : decide (0 ≤ (ji16)) = true := decide_eq_true c17
          clear c17
          by_cases c18 : (ji16) < (l0_0.length : Int)
          · rw [if_pos c18] at H
            have c18b0 : decide ((ji16) < (l0_0.length : Int)) = true := decide_eq_true c18
            clear c18
            obtain ⟨bq19, hbq19⟩ : ∃ b_ : Bool, b_ = ((rd_T50 l0_0 (ji16)).f1) := ⟨_, rfl⟩
            replace H : (if (bq19 = true) then (if ((rd_T50 l0_0 (ji16)).f0) = (wrap64 (Int.tdiv a1 24)) then (some ji16) else (some (-1))) else (some (-1))) = some r := by rw [← hbq19] at H; exact H
            have Nbq19 := am hbq19
            clear hbq19
            by_cases c20 : (bq19 = true)
            · subst c20
              have H1 : (if ((rd_T50 l0_0 (ji16)).f0) = (wrap64 (Int.tdiv a1 24)) then (some ji16) else (some (-1))) = some r := by rw [if_pos rfl] at H; exact H
              clear H
              have H := H1
              clear H1
              by_cases c21 : ((rd_T50 l0_0 (ji16)).f0) = (wrap64 (Int.tdiv a1 24))
              · rw [if_pos c21] at H
                have c21b0 : (((rd_T50 l0_0 (ji16)).f0) == (wrap64 (Int.tdiv a1 24))) = true := beq_iff_eq.mpr c21
                have c21b1 : (((rd_T50 l0_0 (ji16)).f0) != (wrap64 (Int.tdiv a1 24))) = false := bne_eq_false_iff_eq.mpr c21
                clear c21
                obtain rfl := Option.some.inj H
                obtain ⟨hcz22_0, hcz22_1, hfz22_0, hfz22_1⟩ := xT2 (W := wc) BK173.out
                have p175 : 0 ≤ ((ji16) : Int) := of_decide_eq_true (by assumption)
                have q175 : (ji16) < (l0_0.length : Int) := of_decide_eq_true (by assumption)
                obtain ⟨ad175, e175, hx175_0, hx175_1, hx175_2, hx175_3, hx175_4⟩ := at_T50 HR0_0.out (ji16) p175 q175
                (try rw [← Nbq19.out] at hx175_1)
                cases e175
                replace hx175_0 := (HB.out.cell (World.block_lt_of_cell? w _ hx175_0)).trans hx175_0
                replace hx175_1 := (HB.out.cell (World.block_lt_of_cell? w _ hx175_1)).trans hx175_1
                replace hx175_2 := (HB.out.cell (World.block_lt_of_cell? w _ hx175_2)).trans hx175_2
                replace hx175_3 := (HB.out.cell (World.block_lt_of_cell? w _ hx175_3)).trans hx175_3
                replace hx175_4 := (HB.out.cell (World.block_lt_of_cell? w _ hx175_4)).trans hx175_4
                replace p175 := eq_true p175
                replace q175 := eq_true q175
                have p176 : 0 ≤ ((ji16) : Int) := of_decide_eq_true (by assumption)
                have q176 : (ji16) < (l0_0.length : Int) := of_decide_eq_true (by assumption)
                obtain ⟨ad176, e176, hx176_0, hx176_1, hx176_2, hx176_3, hx176_4⟩ := at_T50 HR0_0.out (ji16) p176 q176
                (try rw [← Nbq19.out] at hx176_1)
                obtain rfl : ad175 = ad176 := (by injection e176)
                replace hx176_0 := (HB.out.cell (World.block_lt_of_cell? w _ hx176_0)).trans hx176_0
                replace hx176_1 := (HB.out.cell (World.block_lt_of_cell? w _ hx176_1)).trans hx176_1
                replace hx176_2 := (HB.out.cell (World.block_lt_of_cell? w _ hx176_2)).trans hx176_2
                replace hx176_3 := (HB.out.cell (World.block_lt_of_cell? w _ hx176_3)).trans hx176_3
                replace hx176_4 := (HB.out.cell (World.block_lt_of_cell? w _ hx176_4)).trans hx176_4
                replace p176 := eq_true p176
                replace q176 := eq_true q176
                go_wp2
                go_ret
                exact ⟨by first | rfl | (simp [errW_none, errW_some] <;> rfl) | (simp only [← hji16]; first | rfl | (simp [errW_none, errW_some] <;> rfl)) | (simp [*, errW_none, errW_some] <;> rfl), xW HB.out⟩
              · rw [if_neg c21] at H
                have c21b0 : (((rd_T50 l0_0 (ji16)).f0) == (wrap64 (Int.tdiv a1 24))) = false := beq_eq_false_iff_ne.mpr c21
                have c21b1 : (((rd_T50 l0_0 (ji16)).f0) != (wrap64 (Int.tdiv a1 24))) = true := bne_iff_ne.mpr c21
                obtain rfl := Option.some.inj H
                obtain ⟨hcz23_0, hcz23_1, hfz23_0, hfz23_1⟩ := xT2 (W := wc) BK173.out
                have p175 : 0 ≤ ((ji16) : Int) := of_decide_eq_true (by assumption)
                have q175 : (ji16) < (l0_0.length : Int) := of_decide_eq_true (by assumption)
                obtain ⟨ad175, e175, hx175_0, hx175_1, hx175_2, hx175_3, hx175_4⟩ := at_T50 HR0_0.out (ji16) p175 q175
                (try rw [← Nbq19.out] at hx175_1)
                cases e175
                replace hx175_0 := (HB.out.cell (World.block_lt_of_cell? w _ hx175_0)).trans hx175_0
                replace hx175_1 := (HB.out.cell (World.block_lt_of_cell? w _ hx175_1)).trans hx175_1
                replace hx175_2 := (HB.out.cell (World.block_lt_of_cell? w _ hx175_2)).trans hx175_2
                replace hx175_3 := (HB.out.cell (World.block_lt_of_cell? w _ hx175_3)).trans hx175_3
                replace hx175_4 := (HB.out.cell (World.block_lt_of_cell? w _ hx175_4)).trans hx175_4
                replace p175 := eq_true p175
                replace q175 := eq_true q175
                have p176 : 0 ≤ ((ji16) : Int) := of_decide_eq_true (by assumption)
                have q176 : (ji16) < (l0_0.length : Int) := of_decide_eq_true (by assumption)
                obtain ⟨ad176, e176, hx176_0, hx176_1, hx176_2, hx176_3, hx176_4⟩ := at_T50 HR0_0.out (ji16) p176 q176
                (try rw [← Nbq19.out] at hx176_1)
                obtain rfl : ad175 = ad176 := (by injection e176)
                replace hx176_0 := (HB.out.cell (World.block_lt_of_cell? w _ hx176_0)).trans hx176_0
                replace hx176_1 := (HB.out.cell (World.block_lt_of_cell? w _ hx176_1)).trans hx176_1
                replace hx176_2 := (HB.out.cell (World.block_lt_of_cell? w _ hx176_2)).trans hx176_2
                replace hx176_3 := (HB.out.cell (World.block_lt_of_cell? w _ hx176_3)).trans hx176_3
                replace hx176_4 := (HB.out.cell (World.block_lt_of_cell? w _ hx176_4)).trans hx176_4
                replace p176 := eq_true p176
                replace q176 := eq_true q176
                go_wp2
                go_ret
                exact ⟨by first | rfl | (simp [errW_none, errW_some] <;> rfl) | (simp only [← hji16]; first | rfl | (simp [errW_none, errW_some] <;> rfl)) | (simp [*, errW_none, errW_some] <;> rfl), xW HB.out⟩
            · replace c20 := Bool.eq_false_iff.mpr c20
              subst c20
              have H1 : (some (-1)) = some r := by rw [if_neg (show ¬ (false = true) by decide)] at H; exact H
              clear H
              have H := H1
              clear H1
              obtain rfl := Option.some.inj H
              obtain ⟨hcz24_0, hcz24_1, hfz24_0, hfz24_1⟩ := xT2 (W := wc) BK173.out
              have p175 : 0 ≤ ((ji16) : Int) := of_decide_eq_true (by assumption)
              have q175 : (ji16) < (l0_0.length : Int) := of_decide_eq_true (by assumption)
              obtain ⟨ad175, e175, hx175_0, hx175_1, hx175_2, hx175_3, hx175_4⟩ := at_T50 HR0_0.out (ji16) p175 q175
              (try rw [← Nbq19.out] at hx175_1)
              cases e175
              replace hx175_0 := (HB.out.cell (World.block_lt_of_cell? w _ hx175_0)).trans hx175_0
              replace hx175_1 := (HB.out.cell (World.block_lt_of_cell? w _ hx175_1)).trans hx175_1
              replace hx175_2 := (HB.out.cell (World.block_lt_of_cell? w _ hx175_2)).trans hx175_2
              replace hx175_3 := (HB.out.cell (World.block_lt_of_cell? w _ hx175_3)).trans hx175_3
              replace hx175_4 := (HB.out.cell (World.block_lt_of_cell? w _ hx175_4)).trans hx175_4
              replace p175 := eq_true p175
              replace q175 := eq_true q175
              go_wp2
              go_ret
              exact ⟨by first | rfl | (simp [errW_none, errW_some] <;> rfl) | (simp only [← hji16]; first | rfl | (simp [errW_none, errW_some] <;> rfl)) | (simp [*, errW_none, errW_some] <;> rfl), xW HB.out⟩
          · rw [if_neg c18] at H
            exact absurd H (by simp)
        · rw [if_neg c17] at H
          exact absurd H (by simp)

/-! ### spec_l03Copy: function 48 -/
def spec_l03Copy.f (l0_0 : List (S50)) (a0_1 : Int) : Option ((List (S50)) × Int) := (some (([] : List (S50)) : List (S50))).bind fun y179 => (if y179.length + l0_0.length < 2513169434916 then (some ((y179 ++ l0_0), a0_1)) else (none))
def spec_l03Copy.T1 : Bool × List (List Nat × List Nat) := (true, [([], []), ([], []), ([1], [1]), ([0, 2], [0, 2]), ([], []), ([4], [4]), ([3, 5], [3, 5]), ([6, 3, 0, 1, 2, 3, 4, 5, 6], [6])])
def spec_l03Copy.B1 : List Nat := [0, 0, 2, 7, 0, 16, 63, 127]
theorem spec_l03Copy.tab1 : rtab .any (opsOf Try.f48 1) = spec_l03Copy.T1 := by kernel_rfl
theorem spec_l03Copy.bits1 : waitsOk spec_l03Copy.T1.2 spec_l03Copy.B1 = true := by kernel_rfl
set_option maxHeartbeats 8000000 in
set_option maxRecDepth 100000 in
theorem spec_l03Copy.calls (A0_0 : Option Addr) (c0_0 : Nat) (l0_0 : List (S50)) (a0_1 : Int) (r1 : List (S50)) (r2 : Int) (w : World) (hr0_0 : Kd.C k50 w A0_0 l0_0.length l0_0) (hc0_0 : l0_0.length ≤ c0_0) (h : spec_l03Copy.f l0_0 a0_1 = some (r1, r2)) :
    Calls Try.prog 48 #[.agg #[.slice A0_0 l0_0.length c0_0, .int .i64 a0_1]] w fun e w' => ∃ v0_ : Value, e = .returned (.agg #[v0_, .int .i64 r2]) ∧ Kd.R k50 50 w' w.heap.size (fun _ => True) v0_ r1 ∧ Below w.heap.size w w' := by
  have hu42 := Try.underlying42
  have HR0_0 := am hr0_0
  have HC0_0 := am hc0_0
  clear hr0_0 hc0_0
  have HB := am (Below.refl w.heap.size w)
  have H : ((some (([] : List (S50)) : List (S50))).bind fun y179 => (if y179.length + l0_0.length < 2513169434916 then (some ((y179 ++ l0_0), a0_1)) else (none))) = some (r1, r2) := h
  clear h
  obtain ⟨y179, hy179⟩ : ∃ y_ : List (S50), y_ = (([] : List (S50))) := ⟨_, rfl⟩
  replace H : (if y179.length + l0_0.length < 2513169434916 then (some ((y179 ++ l0_0), a0_1)) else (none)) = some (r1, r2) := by first | (rw [hy179]; with_reducible exact H) | (have H2_ := (Option.bind_some _ _).symm.trans H; rw [hy179]; with_reducible exact H2_) | (have H2_ := (Option.bind_some _ _).symm.trans H; with_reducible exact H2_) | with_reducible exact H | (rw [hy179]; exact H) | exact H
  have Ny179 := am hy179
  clear hy179
  by_cases c2 : y179.length + l0_0.length < 2513169434916
  · rw [if_pos c2] at H
    have LMc2 := am c2
    clear c2
    obtain ⟨y182, hy182⟩ : ∃ y_ : List (S50), y_ = (y179 ++ l0_0) := ⟨_, rfl⟩
    replace H : (some (y182, a0_1)) = some (r1, r2) := by first | (rw [hy182]; with_reducible exact H) | (have H2_ := (Option.bind_some _ _).symm.trans H; rw [hy182]; with_reducible exact H2_) | (have H2_ := (Option.bind_some _ _).symm.trans H; with_reducible exact H2_) | with_reducible exact H | (rw [hy182]; exact H) | exact H
    have Ny182 := am hy182
    clear hy182
    simp only [Option.some.injEq, Prod.mk.injEq] at H
    obtain ⟨rfl, rfl⟩ := H
    go_enter Try.func48, Try.ntmps48
    try go_wp2_with (first | ((with_reducible refine gate_dst (N := 1) rfl ?_); refine xE (N := 1) (cs := #[.slice A0_0 l0_0.length c0_0, .int .i64 a0_1]) (t := 42) (h := ?_); intro gb177 hg w3 hbox hb; have BK177 := am (hbox); have GW177 := am (xS hg HB.out); have GE177 := am (xS hg HB.out); replace HB := am (below_step (xW HB.out) hb); clear hb hbox hg) | ((with_reducible refine gate_dst (N := 2) rfl ?_); refine xE (N := 2) (cs := #[.slice none 0 0, .int .i64 0]) (t := 42) (h := ?_); intro gb178 hg w4 hbox hb; have BK178 := am (hbox); have GW178 := am (xS hg HB.out); have GE178 := am (xS hg HB.out); replace HB := am (below_step (xW HB.out) hb); have NB177_178 := am (xN hg BK177.out); have NB178_177 := am (xM hg BK177.out); replace BK177 := am (blk_below (xB BK177.out) hb); clear hb hbox hg))
    replace BK177 := am (blk_drew BK177.out)
    replace BK178 := am (blk_drew BK178.out)
    replace HB := am (below_drew1 HB.out)
    refine start_ (n := 8) (S := fun w' => w'.cell? ⟨gb177, 0, none⟩ = some (.slice A0_0 l0_0.length c0_0) ∧ w'.cell? ⟨gb177, 1, none⟩ = some (.int .i64 a0_1)) (ds := []) #[false, false, false, false, false, false, false, false] (by kernel_rfl) rfl rfl (xC2 BK177.out) (fun hHeld => ?_); refine with_tabW spec_l03Copy.tab1 spec_l03Copy.bits1 (fun HT_ HW_ => ?_)
    generalize w4.drew = w5 at BK177 BK178 HB hHeld ⊢
    refine xP1 (i := 1) (N := some 4) #[false, true, false, false, false, false, false, false] (any_of HT_.out (by kernel_rfl)) (h := ?_)
    refine xP1 (i := 4) (N := some 7) #[false, true, false, false, true, false, false, false] (any_of HT_.out (by kernel_rfl)) (h := ?_)
    refine take_ (i := 2) (N := some 5) (v := ?_) (a' := ?_) #[false, true, true, false, true, false, false, false] rfl rfl (take_ofW HT_.out HW_.out (by kernel_rfl)) (fun _ _ _ h => h) (Or.inl ⟨by rfl, ?_⟩) hHeld ?_ ?_
    rotate_left
    · rintro w' ⟨s0, s1⟩
      go_simp
      with_reducible rfl
    rotate_left
    · simp only [Act.put, List.setIfInBounds_toArray, List.set_cons_zero, List.set_cons_succ, i64_w, i32_w]
      rfl
    refine take_ (i := 5) (N := some 8) (v := ?_) (a' := ?_) #[false, true, true, false, true, true, false, false] rfl rfl (take_ofW HT_.out HW_.out (by kernel_rfl)) (fun _ _ _ h => h) (Or.inl ⟨by rfl, ?_⟩) hHeld ?_ ?_
    rotate_left
    · rintro w' ⟨s0, s1⟩
      go_simp
      with_reducible rfl
    rotate_left
    · simp only [Act.put, List.setIfInBounds_toArray, List.set_cons_zero, List.set_cons_succ, i64_w, i32_w]
      rfl
    refine one_ (i := 0) (N := some 3) #[true, true, true, false, true, true, false, false] rfl rfl (one_of HT_.out (by kernel_rfl)) (by decide) (fun K hK => ?_)
    refine Kd.R_lit_step k50 _ 50 ?hg (N := 3) ?hd (xs := ([] : List (S50))) (inner := []) (ok := fun _ => True) (okp := fun _ => True) ?hr ?hp (fun _ hk => hk) trivial (Below.refl _ _) (Nat.le_refl _) (by simp) ?_; (case hd => rfl); (case hg => rfl); (case hr => first | (go_simp; done) | (go_simp; rfl)); (case hp => exact (Reps.none _ _))
    intro v180 w6 ho7 hb hg_ hnew_
    clear hg_ hnew_
    (first | rw [← Ny179.out] at ho7 | (simp only [Int.reduceToNat] at ho7; rw [← Ny179.out] at ho7))
    have HO181 := am (Kd.R_lower ho7 (below_size (xW HB.out)))
    replace BK177 := am (blk_below (xB BK177.out) hb)
    replace BK178 := am (blk_below (xB BK178.out) hb)
    replace HB := am (below_step (xW HB.out) hb)
    clear hb ho7
    refine hK.out _ _ (xC2 BK177.out) (fun hHeld => ?_)
    clear hK K
    refine xN1 (h := ?_)
    refine one_ (i := 3) (N := some 6) #[true, true, true, true, true, true, false, false] rfl rfl (one_of HT_.out (by kernel_rfl)) (by decide) (fun K hK => ?_)
    refine Kd.R_append_rows_step k50 (w0 := w) w.heap.size (by rfl) (.tmp 3) (.tmp 5) 40 50 (.agg #[(.int .i64 0), (.bool false), (.string ⟨#[]⟩), (.string ⟨#[]⟩), (.int .i64 0)]) 56 rfl Try.underlying40 info50 rfl (by decide) (by omega) v180 y179 l0_0 _ _ _ (fun _ => True) (fun _ => False) rfl rfl ?aO ?aR (fun _ _ h => h) (fun _ h => h.elim) ?aF ?aB ?aS ?aL ?_
    (case aR => repeat (first | exact (Kd.C_below HR0_0.out HB.out) | (with_reducible refine Kd.C_alloc ?_ _) | (with_reducible refine Kd.C_drewN ?_ _) | (with_reducible refine Kd.C_drew ?_)))
    (case aB => exact (xW HB.out))
    (case aF => exact (fun _ _ => trivial))
    (case aO => exact (xR HO181.out))
    (case aS => exact (below_size (xW HB.out)))
    (case aL => have := LMc2.out; omega)
    intro v183 w8 ho hb hg hat
    rw [← Ny182.out] at ho
    replace BK177 := am (blk_grown (g := gb177) (o := .cells #[.slice A0_0 l0_0.length c0_0, .int .i64 a0_1] 42 (0, 0)) (xB BK177.out) hg (Kd.R_ne HO181.out BK177.out (by decide)))
    replace BK178 := am (blk_grown (g := gb178) (o := .cells #[.slice none 0 0, .int .i64 0] 42 (0, 0)) (xB BK178.out) hg (Kd.R_ne HO181.out BK178.out (by decide)))
    replace HB := am (hb)
    have HO184 := am (ho)
    clear HO181
    clear ho hb hg hat
    obtain ⟨Ao9, co9, eo9⟩ := Kd.R_slice HO184.out
    (first | subst eo9 | (injection eo9 with f1_ f2_ f3_; have f4_ := f1_.symm; have f5_ := f3_.symm; clear f1_ f2_ f3_; subst f4_; subst f5_))
    refine hK.out _ _ (xC2 BK177.out) (fun hHeld => ?_)
    clear hK K
    refine xN1 (h := ?_)
    refine xP1 (i := 6) (N := some 9) #[true, true, true, true, true, true, true, false] (any_of HT_.out (by kernel_rfl)) (h := ?_)
    refine one_ (i := 7) (N := none) #[true, true, true, true, true, true, true, true] rfl rfl (one_of HT_.out (by kernel_rfl)) (by decide) (fun K hK => ?_)
    have hs10 : w8.cell? ⟨gb178, 0, none⟩ = some (.slice none 0 0) := (blk_cell BK178.out 0).trans rfl
    have hfs10 := blk_frozen BK178.out 0
    have hns10_0 := NB177_178.out
    have hms10_0 := NB178_177.out
    have hs11 : w8.cell? ⟨gb178, 1, none⟩ = some (.int .i64 0) := (blk_cell BK178.out 1).trans rfl
    have hfs11 := blk_frozen BK178.out 1
    have hns11_0 := NB177_178.out
    have hms11_0 := NB178_177.out
    refine skip_ (w1 := ?_) (by rfl) rfl ?_ ?_
    rotate_left
    · go_simp
      rfl
    refine hK.out _ _ ⟨((cell_far (p := ⟨gb178, _, none⟩) NB177_178.out _).trans (((cell_far (p := ⟨gb178, _, none⟩) NB177_178.out _).trans (hHeld.1)))), ((cell_far (p := ⟨gb178, _, none⟩) NB177_178.out _).trans (((cell_far (p := ⟨gb178, _, none⟩) NB177_178.out _).trans (hHeld.2))))⟩ (fun hHeld => ?_)
    clear hK K
    refine done_ (done_of HT_.out (by kernel_rfl)) ?_
    try go_wp2
    refine bodyPost_ret (results_cell_row rfl _ _ gb178 42 #[.slice Ao9 y182.length co9, .int .i64 a0_1] (0, 0) _ rfl (xP BK178.out) Try.underlying42 rfl (by kernel_rfl)) rfl ?_
    exact ⟨_, xV, by (with_reducible repeat (first | apply Kd.R_alloc | apply Kd.R_drewN | apply Kd.R_drew)); exact Kd.R_mono (Kd.R_far (p := ⟨gb178, 1, none⟩) (Kd.R_far (p := ⟨gb178, 0, none⟩) (Kd.R_types HO184.out BK178.out (by decide)) (fun _ hk => hk.2) (.slice Ao9 y182.length co9)) (fun _ hk => hk.2) (.int .i64 a0_1)) (fun _ hk => trivial), xW HB.out⟩
  · rw [if_neg c2] at H
    exact absurd H (by simp)

/-! ### spec_Lift: function 24 -/
def spec_Lift.f (k : Nat) (l0_0 : List (S50)) (a0_1 : Int) (a1 : Int) : Option ((List (S50)) × Int × Bool) := (spec_l03At.f k l0_0 a0_1 a1).bind fun t187 => (if t187 < 0 then (some (([] : List (S50)), 0, false)) else ((spec_l03Copy.f l0_0 a0_1).bind fun bt188 => (if 0 ≤ t187 then (if t187 < (l0_0.length : Int) then (if (wrap64 (((rd_T50 l0_0 t187).f0) + 1)) > 41666665 then (if t187 < (bt188.1.length : Int) then (some ((bt188.1.set (t187 : Int).toNat (⟨0, false, (⟨#[]⟩ : ByteArray), (⟨#[]⟩ : ByteArray), a0_1⟩ : S50)), t187, true)) else (none)) else (if t187 < (bt188.1.length : Int) then (some ((bt188.1.set (t187 : Int).toNat (⟨wrap64 (((rd_T50 l0_0 t187).f0) + 1), false, (⟨#[]⟩ : ByteArray), (⟨#[]⟩ : ByteArray), a0_1⟩ : S50)), t187, true)) else (none))) else (none)) else (none))))
theorem spec_Lift.mono : ∀ a0 a1 a2 k, LeO (spec_Lift.f k a0 a1 a2) (spec_Lift.f (k + 1) a0 a1 a2) := by
  intro a0 a1 a2 k
  unfold spec_Lift.f
  repeat' first | (with_reducible first | apply spec_l03At.mono | exact LeO.refl _ | exact LeO.none _ | refine LeO.ite ?_ ?_ | refine LeO.bind ?_ (fun _ => ?_))
set_option maxHeartbeats 8000000 in
set_option maxRecDepth 100000 in
theorem spec_Lift.calls (k : Nat) (A0_0 : Option Addr) (c0_0 : Nat) (l0_0 : List (S50)) (a0_1 : Int) (a1 : Int) (r1 : List (S50)) (r2 : Int) (r3 : Bool) (w : World) (hr0_0 : Kd.C k50 w A0_0 l0_0.length l0_0) (hc0_0 : l0_0.length ≤ c0_0) (h : spec_Lift.f k l0_0 a0_1 a1 = some (r1, r2, r3)) :
    Calls Try.prog 24 #[.agg #[.slice A0_0 l0_0.length c0_0, .int .i64 a0_1], .int .i64 a1] w fun e w' => ∃ v0_ : Value, e = .returned (.tuple #[.agg #[v0_, .int .i64 r2], .bool r3]) ∧ Kd.R k50 50 w' w.heap.size (fun _ => True) v0_ r1 ∧ Below w.heap.size w w' := by
  have hu42 := Try.underlying42
  have hu50 := Try.underlying50
  have HR0_0 := am hr0_0
  have HC0_0 := am hc0_0
  clear hr0_0 hc0_0
  have HB := am (Below.refl w.heap.size w)
  have H : ((spec_l03At.f k l0_0 a0_1 a1).bind fun t187 => (if t187 < 0 then (some (([] : List (S50)), 0, false)) else ((spec_l03Copy.f l0_0 a0_1).bind fun bt188 => (if 0 ≤ t187 then (if t187 < (l0_0.length : Int) then (if (wrap64 (((rd_T50 l0_0 t187).f0) + 1)) > 41666665 then (if t187 < (bt188.1.length : Int) then (some ((bt188.1.set (t187 : Int).toNat (⟨0, false, (⟨#[]⟩ : ByteArray), (⟨#[]⟩ : ByteArray), a0_1⟩ : S50)), t187, true)) else (none)) else (if t187 < (bt188.1.length : Int) then (some ((bt188.1.set (t187 : Int).toNat (⟨wrap64 (((rd_T50 l0_0 t187).f0) + 1), false, (⟨#[]⟩ : ByteArray), (⟨#[]⟩ : ByteArray), a0_1⟩ : S50)), t187, true)) else (none))) else (none)) else (none))))) = some (r1, r2, r3) := h
  clear h
  replace H := Option.bind_eq_some_iff.mp H
  obtain ⟨t187, A30, H⟩ := H
  try dsimp only at H
  have A3 := am A30
  clear A30
  by_cases c4 : t187 < 0
  · rw [if_pos c4] at H
    have c4b0 : decide (t187 < 0) = true := decide_eq_true c4
    clear c4
    simp only [Option.some.injEq, Prod.mk.injEq] at H
    obtain ⟨rfl, rfl, rfl⟩ := H
    go_enter Try.func24, Try.ntmps24
    go_wp2_with (first | ((with_reducible refine gate_dst (N := 2) rfl ?_); refine xE (N := 2) (cs := #[.slice A0_0 l0_0.length c0_0, .int .i64 a0_1]) (t := 42) (h := ?_); intro gb185 hg w5 hbox hb; have BK185 := am (hbox); have GW185 := am (xS hg HB.out); have GE185 := am (xS hg HB.out); replace HB := am (below_step (xW HB.out) hb); clear hb hbox hg) | ((with_reducible refine gate_dst (N := 4) rfl ?_); refine xE (N := 4) (cs := #[.slice none 0 0, .int .i64 0]) (t := 42) (h := ?_); intro gb186 hg w6 hbox hb; have BK186 := am (hbox); have GW186 := am (xS hg HB.out); have GE186 := am (xS hg HB.out); replace HB := am (below_step (xW HB.out) hb); have NB185_186 := am (xN hg BK185.out); have NB186_185 := am (xM hg BK185.out); replace BK185 := am (blk_below (xB BK185.out) hb); clear hb hbox hg; have hnb7 := NB185_186.out; have hnc7 := NB186_185.out; obtain ⟨hcz8_0, hcz8_1, hfz8_0, hfz8_1⟩ := xT2 (W := w6) BK185.out) | ((with_reducible refine gate_callee (f := 38) rfl ?_); refine xG (some 11) 38 Try.func38 #[.agg #[.slice A0_0 l0_0.length c0_0, .int .i64 a0_1], .int .i64 a1] (h := ?_); (with_reducible refine (spec_l03At.calls k _ _ l0_0 a0_1 a1 t187 _ ?side1 ?side2 A3.out).mono ?_); (case side1 => exact xC (Kd.C_below HR0_0.out HB.out)); (case side2 => exact HC0_0.out); rintro e w9 ⟨rfl, hb⟩; refine ⟨_, rfl, ?_⟩; replace BK185 := am (blk_below (xB BK185.out) hb); replace BK186 := am (blk_below (xB BK186.out) hb); replace HB := am (below_step (xW HB.out) hb); (try clear hb); obtain ⟨hcz10_0, hcz10_1, hfz10_0, hfz10_1⟩ := xT2 (W := w9) BK186.out))
    refine bodyPost_ret (results_ct rfl _ _ gb186 42 #[.slice none 0 0, .int .i64 0] (0, 0) _ rfl (xP BK186.out) Try.underlying42 rfl (by kernel_rfl)) rfl ?_
    exact ⟨_, xV, by first | exact Kd.R_nil _ _ _ _ _ | exact Kd.N_nil _ _ _ _ _ | exact Kd.V_nil _ _ _ _ _ | exact Kd.Q_nil _ _ _ _ _ | exact Kd.S_nil _ _ _ _ _, xW HB.out⟩
  · rw [if_neg c4] at H
    have c4b0 : decide (t187 < 0) = false := decide_eq_false c4
    clear c4
    replace H := Option.bind_eq_some_iff.mp H
    obtain ⟨⟨t188, t191⟩, A110, H⟩ := H
    try dsimp only at H
    have A11 := am A110
    clear A110
    by_cases c12 : 0 ≤ t187
    · rw [if_pos c12] at H
      have c12b0 : decide (0 ≤ t187) = true := decide_eq_true c12
      clear c12
      by_cases c13 : t187 < (l0_0.length : Int)
      · rw [if_pos c13] at H
        have c13b0 : decide (t187 < (l0_0.length : Int)) = true := decide_eq_true c13
        clear c13
        by_cases c14 : (wrap64 (((rd_T50 l0_0 t187).f0) + 1)) > 41666665
        · rw [if_pos c14] at H
          have c14b0 : decide (41666665 < (wrap64 (((rd_T50 l0_0 t187).f0) + 1))) = true := decide_eq_true c14
          clear c14
          by_cases c15 : t187 < (t188.length : Int)
          · rw [if_pos c15] at H
            have c15b0 : decide (t187 < (t188.length : Int)) = true := decide_eq_true c15
            clear c15
            obtain ⟨y194, hy194⟩ : ∃ y_ : List (S50), y_ = (t188.set (t187 : Int).toNat (⟨0, false, (⟨#[]⟩ : ByteArray), (⟨#[]⟩ : ByteArray), a0_1⟩ : S50)) := ⟨_, rfl⟩
            replace H : (some (y194, t187, true)) = some (r1, r2, r3) := by first | (rw [hy194]; with_reducible exact H) | (have H2_ := (Option.bind_some _ _).symm.trans H; rw [hy194]; with_reducible exact H2_) | (have H2_ := (Option.bind_some _ _).symm.trans H; with_reducible exact H2_) | with_reducible exact H | (rw [hy194]; exact H) | exact H
            have Ny194 := am hy194
            clear hy194
            simp only [Option.some.injEq, Prod.mk.injEq] at H
            obtain ⟨rfl, rfl, rfl⟩ := H
            go_enter Try.func24, Try.ntmps24
            go_wp2_with (first | ((with_reducible refine gate_dst (N := 2) rfl ?_); refine xE (N := 2) (cs := #[.slice A0_0 l0_0.length c0_0, .int .i64 a0_1]) (t := 42) (h := ?_); intro gb185 hg w17 hbox hb; have BK185 := am (hbox); have GW185 := am (xS hg HB.out); have GE185 := am (xS hg HB.out); replace HB := am (below_step (xW HB.out) hb); clear hb hbox hg) | ((with_reducible refine gate_dst (N := 4) rfl ?_); refine xE (N := 4) (cs := #[.slice none 0 0, .int .i64 0]) (t := 42) (h := ?_); intro gb186 hg w18 hbox hb; have BK186 := am (hbox); have GW186 := am (xS hg HB.out); have GE186 := am (xS hg HB.out); replace HB := am (below_step (xW HB.out) hb); have NB185_186 := am (xN hg BK185.out); have NB186_185 := am (xM hg BK185.out); replace BK185 := am (blk_below (xB BK185.out) hb); clear hb hbox hg; have hnb19 := NB185_186.out; have hnc19 := NB186_185.out; obtain ⟨hcz20_0, hcz20_1, hfz20_0, hfz20_1⟩ := xT2 (W := w18) BK185.out) | ((with_reducible refine gate_callee (f := 38) rfl ?_); refine xG (some 11) 38 Try.func38 #[.agg #[.slice A0_0 l0_0.length c0_0, .int .i64 a0_1], .int .i64 a1] (h := ?_); (with_reducible refine (spec_l03At.calls k _ _ l0_0 a0_1 a1 t187 _ ?side1 ?side2 A3.out).mono ?_); (case side1 => exact xC (Kd.C_below HR0_0.out HB.out)); (case side2 => exact HC0_0.out); rintro e w21 ⟨rfl, hb⟩; refine ⟨_, rfl, ?_⟩; replace BK185 := am (blk_below (xB BK185.out) hb); replace BK186 := am (blk_below (xB BK186.out) hb); replace HB := am (below_step (xW HB.out) hb); (try clear hb); obtain ⟨hcz22_0, hcz22_1, hfz22_0, hfz22_1⟩ := xT2 (W := w21) BK185.out) | ((with_reducible refine gate_callee (f := 48) rfl ?_); refine xG (some 16) 48 Try.func48 #[.agg #[.slice A0_0 l0_0.length c0_0, .int .i64 a0_1]] (h := ?_); (with_reducible refine (spec_l03Copy.calls _ _ l0_0 a0_1 t188 t191 _ ?side1 ?side2 A11.out).mono ?_); (case side1 => exact xC (Kd.C_below HR0_0.out HB.out)); (case side2 => exact HC0_0.out); rintro e w23 ⟨v189, rfl, ho0, hb⟩; refine ⟨_, rfl, ?_⟩; have HO190 := am (Kd.R_lower ho0 (below_size (xW HB.out))); replace BK185 := am (blk_below (xB BK185.out) hb); replace BK186 := am (blk_below (xB BK186.out) hb); replace HB := am (below_step (xW HB.out) hb); (try clear hb); (try clear ho0)) | ((with_reducible refine gate_dst (N := 7) rfl ?_); refine xE (N := 7) (cs := #[.slice none 0 0, .int .i64 0]) (t := 42) (h := ?_); intro gb192 hg w24 hbox hb; replace HO190 := am (Kd.R_below (xR HO190.out) hb); have BK192 := am (hbox); have GW192 := am (xS hg HB.out); have GE192 := am (xS hg HB.out); replace HB := am (below_step (xW HB.out) hb); have NB185_192 := am (xN hg BK185.out); have NB192_185 := am (xM hg BK185.out); replace BK185 := am (blk_below (xB BK185.out) hb); have NB186_192 := am (xN hg BK186.out); have NB192_186 := am (xM hg BK186.out); replace BK186 := am (blk_below (xB BK186.out) hb); clear hb hbox hg; obtain ⟨Ao25, co25, eo25⟩ := Kd.R_slice HO190.out; subst eo25; have hnb26 := NB192_185.out; have hnc26 := NB185_192.out; have hnb27 := NB192_186.out; have hnc27 := NB186_192.out; obtain ⟨hcz28_0, hcz28_1, hfz28_0, hfz28_1⟩ := xT2 (W := w24) BK192.out) | ((with_reducible refine gate_store (t := 42) (p := 7) rfl ?_); refine store_event (t := 42) (p := 7) (v := ?vo_w29) (w1 := ((w24.setCell ⟨gb192, 0, none⟩ (.slice Ao25 t188.length co25)).setCell ⟨gb192, 1, none⟩ (.int .i64 t191))) ?hg ?ho ?hn ?hr ?_; (case ho => rfl); (case hg => rfl); (case hn => rfl); (case hr => first | (go_simp; done) | (go_simp; rfl)); intro w29 hw; have n0_ : Aside0 (Kd.R k50 50 w29 w.heap.size (fun _ => True) (.slice Ao25 t188.length co25) t188) := ⟨(by rw [hw]; exact (by (with_reducible repeat (first | apply Kd.R_alloc | apply Kd.R_drewN | apply Kd.R_drew)); exact Kd.R_mono (Kd.R_far (p := ⟨gb192, 1, none⟩) (Kd.R_far (p := ⟨gb192, 0, none⟩) (Kd.R_types HO190.out BK192.out (by decide)) (fun _ hk => hk.2) (.slice Ao25 t188.length co25)) (fun _ hk => hk.2) (.int .i64 t191)) (fun _ hk => trivial)))⟩; have n1_ : Aside0 (w29.heap[gb185]? = some (.cells #[.slice A0_0 l0_0.length c0_0, .int .i64 a0_1] 42 (0, 0))) := ⟨(by rw [hw]; exact (xB BK185.out))⟩; have n2_ : Aside0 (w29.heap[gb186]? = some (.cells #[.slice none 0 0, .int .i64 0] 42 (0, 0))) := ⟨(by rw [hw]; exact (xB BK186.out))⟩; have n3_ : Aside0 (w29.heap[gb192]? = some (.cells #[.slice Ao25 t188.length co25, .int .i64 t191] 42 (0, 0))) := ⟨(by rw [hw]; exact (xP BK192.out))⟩; have n4_ : Aside0 (Below w.heap.size w w29) := ⟨(by rw [hw]; exact (xW HB.out))⟩; clear hw; clear HO190; clear BK185; clear BK186; clear BK192; clear HB; have HO190 := n0_; have BK185 := n1_; have BK186 := n2_; have BK192 := n3_; have HB := n4_; clear n0_ n1_ n2_ n3_ n4_; obtain ⟨hcz30_0, hcz30_1, hfz30_0, hfz30_1⟩ := xT2 (W := w29) BK185.out; have p193 : 0 ≤ (t187 : Int) := of_decide_eq_true (by assumption); have q193 : t187 < (l0_0.length : Int) := of_decide_eq_true (by assumption); obtain ⟨ad193, e193, hx193_0, hx193_1, hx193_2, hx193_3, hx193_4⟩ := at_T50 HR0_0.out t187 p193 q193; cases e193; replace hx193_0 := (HB.out.cell (World.block_lt_of_cell? w _ hx193_0)).trans hx193_0; replace hx193_1 := (HB.out.cell (World.block_lt_of_cell? w _ hx193_1)).trans hx193_1; replace hx193_2 := (HB.out.cell (World.block_lt_of_cell? w _ hx193_2)).trans hx193_2; replace hx193_3 := (HB.out.cell (World.block_lt_of_cell? w _ hx193_3)).trans hx193_3; replace hx193_4 := (HB.out.cell (World.block_lt_of_cell? w _ hx193_4)).trans hx193_4; replace p193 := eq_true p193; replace q193 := eq_true q193; obtain ⟨hcz31_0, hcz31_1, hfz31_0, hfz31_1⟩ := xT2 (W := w29) BK192.out; have p16 : 0 ≤ (t187 : Int) := of_decide_eq_true (by assumption); have q16 : (t187 : Int) < ((t188.length : Int) : Int) := of_decide_eq_true (by assumption); obtain ⟨go16, co16, eo16, gb16, gl16, cl16, HG16⟩ := Kd.R_form HO190.out (by omega); (first | cases eo16 | (injection eo16 with ea_ en_ ec_; (first | subst ea_ | (injection ea_ with ea_; subst ea_)); subst ec_; clear en_)); have GB16 := am gb16; have GG16 := am HG16; clear gb16 gl16 HG16; obtain ⟨ce16, hcl16, hM16, hcc16, hfr16⟩ := Kd.R_elem HO190.out z50 (t187 : Int) p16 q16; obtain rfl := k50_openM hM16; have hx16_0 : w29.cell? ⟨go16, (t187 : Int).toNat * 5, none⟩ = some (.int .i64 ((rd_T50 t188 t187).f0)) := hcc16 0 _ rfl; have hx16_1 : w29.cell? ⟨go16, (t187 : Int).toNat * 5 + 1, none⟩ = some (.bool ((rd_T50 t188 t187).f1)) := hcc16 1 _ rfl; have hx16_2 : w29.cell? ⟨go16, (t187 : Int).toNat * 5 + 2, none⟩ = some (.string ((rd_T50 t188 t187).f2)) := hcc16 2 _ rfl; have hx16_3 : w29.cell? ⟨go16, (t187 : Int).toNat * 5 + 3, none⟩ = some (.string ((rd_T50 t188 t187).f3)) := hcc16 3 _ rfl; have hx16_4 : w29.cell? ⟨go16, (t187 : Int).toNat * 5 + 4, none⟩ = some (.int .i64 ((rd_T50 t188 t187).f4)) := hcc16 4 _ rfl; have hf16_0 : w29.frozen? ⟨go16, (t187 : Int).toNat * 5, none⟩ = false := hfr16 0; have hf16_1 : w29.frozen? ⟨go16, (t187 : Int).toNat * 5 + 1, none⟩ = false := hfr16 1; have hf16_2 : w29.frozen? ⟨go16, (t187 : Int).toNat * 5 + 2, none⟩ = false := hfr16 2; have hf16_3 : w29.frozen? ⟨go16, (t187 : Int).toNat * 5 + 3, none⟩ = false := hfr16 3; have hf16_4 : w29.frozen? ⟨go16, (t187 : Int).toNat * 5 + 4, none⟩ = false := hfr16 4; clear hcl16 hcc16 hfr16 hM16; replace p16 := eq_true p16; replace q16 := eq_true q16; have HX32 := am (show Kd.R k50 50 w29 w.heap.size (fun _ => True) (.slice (some ⟨go16, 0, none⟩) t188.length co25) t188 from (xR HO190.out)); obtain ⟨ce32, hcl32, hM32, hcc32, hfr32⟩ := Kd.R_elem HX32.out z50 (t187 : Int) (of_decide_eq_true (by assumption)) (by have h_ : (t187 : Int) < ((t188.length : Int) : Int) := of_decide_eq_true (by assumption); first | exact h_ | (have e_ := (Kd.R_reads' HO190.out).1; omega) | simpa using h_); obtain rfl := k50_openM hM32; have HP32 := Kd.R_seg HX32.out (t187 : Int) (of_decide_eq_true (by assumption)) (by have h_ : (t187 : Int) < ((t188.length : Int) : Int) := of_decide_eq_true (by assumption); first | exact h_ | (have e_ := (Kd.R_reads' HO190.out).1; omega) | simpa using h_) (seg := [.int .i64 0, .bool false, .string (⟨#[]⟩ : ByteArray), .string (⟨#[]⟩ : ByteArray), .int .i64 a0_1]) (j := 0) hcl32 hcc32 (show 5 ≤ 5 from by decide) (x' := (⟨0, false, (⟨#[]⟩ : ByteArray), (⟨#[]⟩ : ByteArray), a0_1⟩ : S50)) (k50_mkM _ _ _ (⟨0, false, (⟨#[]⟩ : ByteArray), (⟨#[]⟩ : ByteArray), a0_1⟩ : S50) ) (fun _ hk => hk); have hx32_0 := hcc32 0 _ rfl; (try simp only [show (k50).sz = 5 from rfl, Nat.mul_one, Nat.add_zero] at hx32_0); have hf32_0 := hfr32 0; (try simp only [show (k50).sz = 5 from rfl, Nat.mul_one, Nat.add_zero] at hf32_0); have hx32_1 := hcc32 1 _ rfl; (try simp only [show (k50).sz = 5 from rfl, Nat.mul_one, Nat.add_zero] at hx32_1); have hf32_1 := hfr32 1; (try simp only [show (k50).sz = 5 from rfl, Nat.mul_one, Nat.add_zero] at hf32_1); have hx32_2 := hcc32 2 _ rfl; (try simp only [show (k50).sz = 5 from rfl, Nat.mul_one, Nat.add_zero] at hx32_2); have hf32_2 := hfr32 2; (try simp only [show (k50).sz = 5 from rfl, Nat.mul_one, Nat.add_zero] at hf32_2); have hx32_3 := hcc32 3 _ rfl; (try simp only [show (k50).sz = 5 from rfl, Nat.mul_one, Nat.add_zero] at hx32_3); have hf32_3 := hfr32 3; (try simp only [show (k50).sz = 5 from rfl, Nat.mul_one, Nat.add_zero] at hf32_3); have hx32_4 := hcc32 4 _ rfl; (try simp only [show (k50).sz = 5 from rfl, Nat.mul_one, Nat.add_zero] at hx32_4); have hf32_4 := hfr32 4; (try simp only [show (k50).sz = 5 from rfl, Nat.mul_one, Nat.add_zero] at hf32_4); clear hcl32 hcc32 hfr32 hM32) | ((with_reducible refine gate_store (t := 50) (p := 33) rfl ?_); refine store_event (t := 50) (p := 33) (v := ?vo_w33) (w1 := (((((w29.setCell ⟨go16, (t187 : Int).toNat * 5, none⟩ (.int .i64 0)).setCell ⟨go16, (t187 : Int).toNat * 5 + 1, none⟩ (.bool false)).setCell ⟨go16, (t187 : Int).toNat * 5 + 2, none⟩ (.string (⟨#[]⟩ : ByteArray))).setCell ⟨go16, (t187 : Int).toNat * 5 + 3, none⟩ (.string (⟨#[]⟩ : ByteArray))).setCell ⟨go16, (t187 : Int).toNat * 5 + 4, none⟩ (.int .i64 a0_1))) ?hg ?ho ?hn ?hr ?_; (case ho => rfl); (case hg => rfl); (case hn => rfl); (case hr => first | (go_simp; done) | (go_simp; rfl)); intro w33 hw; have hg : w29.grownBy w33 (some go16) := (by rw [hw]; exact HP32.2); have hp_ : Kd.R k50 50 w33 w.heap.size (fun _ => True) (.slice (some ⟨go16, 0, none⟩) t188.length co25) y194 := (by rw [hw, Ny194.out]; exact HP32.1); clear HP32; replace BK185 := am (blk_grown (g := gb185) (o := .cells #[.slice (some ad193) l0_0.length c0_0, .int .i64 a0_1] 42 (0, 0)) (xB BK185.out) hg (Kd.R_ne HO190.out BK185.out (by decide))); replace BK186 := am (blk_grown (g := gb186) (o := .cells #[.slice none 0 0, .int .i64 0] 42 (0, 0)) (xB BK186.out) hg (Kd.R_ne HO190.out BK186.out (by decide))); replace BK192 := am (blk_grown (g := gb192) (o := .cells #[.slice (some ⟨go16, 0, none⟩) t188.length co25, .int .i64 t191] 42 (0, 0)) (xB BK192.out) hg (Kd.R_ne HO190.out BK192.out (by decide))); replace HO190 := am (hp_); replace HB := am ((by rw [hw]; exact below_set (below_set (below_set (below_set (below_set (HB.out) GB16.out) GB16.out) GB16.out) GB16.out) GB16.out : Below w.heap.size w w33)); clear hg hw hp_; obtain ⟨hcz34_0, hcz34_1, hfz34_0, hfz34_1⟩ := xT2 (W := w33) BK192.out; obtain ⟨hcz35_0, hcz35_1, hfz35_0, hfz35_1⟩ := xT2 (W := w33) BK186.out))
            refine bodyPost_ret (results_ct rfl _ _ gb186 42 #[.slice (some ⟨go16, 0, none⟩) t188.length co25, .int .i64 t187] (0, 0) _ rfl (xP BK186.out) Try.underlying42 rfl (by kernel_rfl)) rfl ?_
            exact ⟨_, xV, by (with_reducible repeat (first | apply Kd.R_alloc | apply Kd.R_drewN | apply Kd.R_drew)); exact Kd.R_mono (Kd.R_far (p := ⟨gb186, 1, none⟩) (Kd.R_far (p := ⟨gb186, 0, none⟩) (Kd.R_far (p := ⟨gb192, 1, none⟩) (Kd.R_types (Kd.R_types HO190.out BK192.out (by decide)) BK186.out (by decide)) (fun _ hk => hk.1.2) (.int .i64 t187)) (fun _ hk => hk.2) (.slice (some ⟨go16, 0, none⟩) t188.length co25)) (fun _ hk => hk.2) (.int .i64 t187)) (fun _ hk => trivial), xW HB.out⟩
          · rw [if_neg c15] at H
            exact absurd H (by simp)
        · rw [if_neg c14] at H
          have c14b0 : decide (41666665 < (wrap64 (((rd_T50 l0_0 t187).f0) + 1))) = false := decide_eq_false c14
          clear c14
          by_cases c36 : t187 < (t188.length : Int)
          · rw [if_pos c36] at H
            have c36b0 : decide (t187 < (t188.length : Int)) = true := decide_eq_true c36
            clear c36
            obtain ⟨y195, hy195⟩ : ∃ y_ : List (S50), y_ = (t188.set (t187 : Int).toNat (⟨wrap64 (((rd_T50 l0_0 t187).f0) + 1), false, (⟨#[]⟩ : ByteArray), (⟨#[]⟩ : ByteArray), a0_1⟩ : S50)) := ⟨_, rfl⟩
            replace H : (some (y195, t187, true)) = some (r1, r2, r3) := by first | (rw [hy195]; with_reducible exact H) | (have H2_ := (Option.bind_some _ _).symm.trans H; rw [hy195]; with_reducible exact H2_) | (have H2_ := (Option.bind_some _ _).symm.trans H; with_reducible exact H2_) | with_reducible exact H | (rw [hy195]; exact H) | exact H
            have Ny195 := am hy195
            clear hy195
            simp only [Option.some.injEq, Prod.mk.injEq] at H
            obtain ⟨rfl, rfl, rfl⟩ := H
            go_enter Try.func24, Try.ntmps24
            go_wp2_with (first | ((with_reducible refine gate_dst (N := 2) rfl ?_); refine xE (N := 2) (cs := #[.slice A0_0 l0_0.length c0_0, .int .i64 a0_1]) (t := 42) (h := ?_); intro gb185 hg w38 hbox hb; have BK185 := am (hbox); have GW185 := am (xS hg HB.out); have GE185 := am (xS hg HB.out); replace HB := am (below_step (xW HB.out) hb); clear hb hbox hg) | ((with_reducible refine gate_dst (N := 4) rfl ?_); refine xE (N := 4) (cs := #[.slice none 0 0, .int .i64 0]) (t := 42) (h := ?_); intro gb186 hg w39 hbox hb; have BK186 := am (hbox); have GW186 := am (xS hg HB.out); have GE186 := am (xS hg HB.out); replace HB := am (below_step (xW HB.out) hb); have NB185_186 := am (xN hg BK185.out); have NB186_185 := am (xM hg BK185.out); replace BK185 := am (blk_below (xB BK185.out) hb); clear hb hbox hg; have hnb40 := NB185_186.out; have hnc40 := NB186_185.out; obtain ⟨hcz41_0, hcz41_1, hfz41_0, hfz41_1⟩ := xT2 (W := w39) BK185.out) | ((with_reducible refine gate_callee (f := 38) rfl ?_); refine xG (some 11) 38 Try.func38 #[.agg #[.slice A0_0 l0_0.length c0_0, .int .i64 a0_1], .int .i64 a1] (h := ?_); (with_reducible refine (spec_l03At.calls k _ _ l0_0 a0_1 a1 t187 _ ?side1 ?side2 A3.out).mono ?_); (case side1 => exact xC (Kd.C_below HR0_0.out HB.out)); (case side2 => exact HC0_0.out); rintro e w42 ⟨rfl, hb⟩; refine ⟨_, rfl, ?_⟩; replace BK185 := am (blk_below (xB BK185.out) hb); replace BK186 := am (blk_below (xB BK186.out) hb); replace HB := am (below_step (xW HB.out) hb); (try clear hb); obtain ⟨hcz43_0, hcz43_1, hfz43_0, hfz43_1⟩ := xT2 (W := w42) BK185.out) | ((with_reducible refine gate_callee (f := 48) rfl ?_); refine xG (some 16) 48 Try.func48 #[.agg #[.slice A0_0 l0_0.length c0_0, .int .i64 a0_1]] (h := ?_); (with_reducible refine (spec_l03Copy.calls _ _ l0_0 a0_1 t188 t191 _ ?side1 ?side2 A11.out).mono ?_); (case side1 => exact xC (Kd.C_below HR0_0.out HB.out)); (case side2 => exact HC0_0.out); rintro e w44 ⟨v189, rfl, ho0, hb⟩; refine ⟨_, rfl, ?_⟩; have HO190 := am (Kd.R_lower ho0 (below_size (xW HB.out))); replace BK185 := am (blk_below (xB BK185.out) hb); replace BK186 := am (blk_below (xB BK186.out) hb); replace HB := am (below_step (xW HB.out) hb); (try clear hb); (try clear ho0)) | ((with_reducible refine gate_dst (N := 7) rfl ?_); refine xE (N := 7) (cs := #[.slice none 0 0, .int .i64 0]) (t := 42) (h := ?_); intro gb192 hg w45 hbox hb; replace HO190 := am (Kd.R_below (xR HO190.out) hb); have BK192 := am (hbox); have GW192 := am (xS hg HB.out); have GE192 := am (xS hg HB.out); replace HB := am (below_step (xW HB.out) hb); have NB185_192 := am (xN hg BK185.out); have NB192_185 := am (xM hg BK185.out); replace BK185 := am (blk_below (xB BK185.out) hb); have NB186_192 := am (xN hg BK186.out); have NB192_186 := am (xM hg BK186.out); replace BK186 := am (blk_below (xB BK186.out) hb); clear hb hbox hg; obtain ⟨Ao46, co46, eo46⟩ := Kd.R_slice HO190.out; subst eo46; have hnb47 := NB192_185.out; have hnc47 := NB185_192.out; have hnb48 := NB192_186.out; have hnc48 := NB186_192.out; obtain ⟨hcz49_0, hcz49_1, hfz49_0, hfz49_1⟩ := xT2 (W := w45) BK192.out) | ((with_reducible refine gate_store (t := 42) (p := 7) rfl ?_); refine store_event (t := 42) (p := 7) (v := ?vo_w50) (w1 := ((w45.setCell ⟨gb192, 0, none⟩ (.slice Ao46 t188.length co46)).setCell ⟨gb192, 1, none⟩ (.int .i64 t191))) ?hg ?ho ?hn ?hr ?_; (case ho => rfl); (case hg => rfl); (case hn => rfl); (case hr => first | (go_simp; done) | (go_simp; rfl)); intro w50 hw; have n0_ : Aside0 (Kd.R k50 50 w50 w.heap.size (fun _ => True) (.slice Ao46 t188.length co46) t188) := ⟨(by rw [hw]; exact (by (with_reducible repeat (first | apply Kd.R_alloc | apply Kd.R_drewN | apply Kd.R_drew)); exact Kd.R_mono (Kd.R_far (p := ⟨gb192, 1, none⟩) (Kd.R_far (p := ⟨gb192, 0, none⟩) (Kd.R_types HO190.out BK192.out (by decide)) (fun _ hk => hk.2) (.slice Ao46 t188.length co46)) (fun _ hk => hk.2) (.int .i64 t191)) (fun _ hk => trivial)))⟩; have n1_ : Aside0 (w50.heap[gb185]? = some (.cells #[.slice A0_0 l0_0.length c0_0, .int .i64 a0_1] 42 (0, 0))) := ⟨(by rw [hw]; exact (xB BK185.out))⟩; have n2_ : Aside0 (w50.heap[gb186]? = some (.cells #[.slice none 0 0, .int .i64 0] 42 (0, 0))) := ⟨(by rw [hw]; exact (xB BK186.out))⟩; have n3_ : Aside0 (w50.heap[gb192]? = some (.cells #[.slice Ao46 t188.length co46, .int .i64 t191] 42 (0, 0))) := ⟨(by rw [hw]; exact (xP BK192.out))⟩; have n4_ : Aside0 (Below w.heap.size w w50) := ⟨(by rw [hw]; exact (xW HB.out))⟩; clear hw; clear HO190; clear BK185; clear BK186; clear BK192; clear HB; have HO190 := n0_; have BK185 := n1_; have BK186 := n2_; have BK192 := n3_; have HB := n4_; clear n0_ n1_ n2_ n3_ n4_; obtain ⟨hcz51_0, hcz51_1, hfz51_0, hfz51_1⟩ := xT2 (W := w50) BK185.out; have p193 : 0 ≤ (t187 : Int) := of_decide_eq_true (by assumption); have q193 : t187 < (l0_0.length : Int) := of_decide_eq_true (by assumption); obtain ⟨ad193, e193, hx193_0, hx193_1, hx193_2, hx193_3, hx193_4⟩ := at_T50 HR0_0.out t187 p193 q193; cases e193; replace hx193_0 := (HB.out.cell (World.block_lt_of_cell? w _ hx193_0)).trans hx193_0; replace hx193_1 := (HB.out.cell (World.block_lt_of_cell? w _ hx193_1)).trans hx193_1; replace hx193_2 := (HB.out.cell (World.block_lt_of_cell? w _ hx193_2)).trans hx193_2; replace hx193_3 := (HB.out.cell (World.block_lt_of_cell? w _ hx193_3)).trans hx193_3; replace hx193_4 := (HB.out.cell (World.block_lt_of_cell? w _ hx193_4)).trans hx193_4; replace p193 := eq_true p193; replace q193 := eq_true q193; obtain ⟨hcz52_0, hcz52_1, hfz52_0, hfz52_1⟩ := xT2 (W := w50) BK192.out; have p37 : 0 ≤ (t187 : Int) := of_decide_eq_true (by assumption); have q37 : (t187 : Int) < ((t188.length : Int) : Int) := of_decide_eq_true (by assumption); obtain ⟨go37, co37, eo37, gb37, gl37, cl37, HG37⟩ := Kd.R_form HO190.out (by omega); (first | cases eo37 | (injection eo37 with ea_ en_ ec_; (first | subst ea_ | (injection ea_ with ea_; subst ea_)); subst ec_; clear en_)); have GB37 := am gb37; have GG37 := am HG37; clear gb37 gl37 HG37; obtain ⟨ce37, hcl37, hM37, hcc37, hfr37⟩ := Kd.R_elem HO190.out z50 (t187 : Int) p37 q37; obtain rfl := k50_openM hM37; have hx37_0 : w50.cell? ⟨go37, (t187 : Int).toNat * 5, none⟩ = some (.int .i64 ((rd_T50 t188 t187).f0)) := hcc37 0 _ rfl; have hx37_1 : w50.cell? ⟨go37, (t187 : Int).toNat * 5 + 1, none⟩ = some (.bool ((rd_T50 t188 t187).f1)) := hcc37 1 _ rfl; have hx37_2 : w50.cell? ⟨go37, (t187 : Int).toNat * 5 + 2, none⟩ = some (.string ((rd_T50 t188 t187).f2)) := hcc37 2 _ rfl; have hx37_3 : w50.cell? ⟨go37, (t187 : Int).toNat * 5 + 3, none⟩ = some (.string ((rd_T50 t188 t187).f3)) := hcc37 3 _ rfl; have hx37_4 : w50.cell? ⟨go37, (t187 : Int).toNat * 5 + 4, none⟩ = some (.int .i64 ((rd_T50 t188 t187).f4)) := hcc37 4 _ rfl; have hf37_0 : w50.frozen? ⟨go37, (t187 : Int).toNat * 5, none⟩ = false := hfr37 0; have hf37_1 : w50.frozen? ⟨go37, (t187 : Int).toNat * 5 + 1, none⟩ = false := hfr37 1; have hf37_2 : w50.frozen? ⟨go37, (t187 : Int).toNat * 5 + 2, none⟩ = false := hfr37 2; have hf37_3 : w50.frozen? ⟨go37, (t187 : Int).toNat * 5 + 3, none⟩ = false := hfr37 3; have hf37_4 : w50.frozen? ⟨go37, (t187 : Int).toNat * 5 + 4, none⟩ = false := hfr37 4; clear hcl37 hcc37 hfr37 hM37; replace p37 := eq_true p37; replace q37 := eq_true q37; have HX53 := am (show Kd.R k50 50 w50 w.heap.size (fun _ => True) (.slice (some ⟨go37, 0, none⟩) t188.length co46) t188 from (xR HO190.out)); obtain ⟨ce53, hcl53, hM53, hcc53, hfr53⟩ := Kd.R_elem HX53.out z50 (t187 : Int) (of_decide_eq_true (by assumption)) (by have h_ : (t187 : Int) < ((t188.length : Int) : Int) := of_decide_eq_true (by assumption); first | exact h_ | (have e_ := (Kd.R_reads' HO190.out).1; omega) | simpa using h_); obtain rfl := k50_openM hM53; have HP53 := Kd.R_seg HX53.out (t187 : Int) (of_decide_eq_true (by assumption)) (by have h_ : (t187 : Int) < ((t188.length : Int) : Int) := of_decide_eq_true (by assumption); first | exact h_ | (have e_ := (Kd.R_reads' HO190.out).1; omega) | simpa using h_) (seg := [.int .i64 (wrap64 (((rd_T50 l0_0 t187).f0) + 1)), .bool false, .string (⟨#[]⟩ : ByteArray), .string (⟨#[]⟩ : ByteArray), .int .i64 a0_1]) (j := 0) hcl53 hcc53 (show 5 ≤ 5 from by decide) (x' := (⟨wrap64 (((rd_T50 l0_0 t187).f0) + 1), false, (⟨#[]⟩ : ByteArray), (⟨#[]⟩ : ByteArray), a0_1⟩ : S50)) (k50_mkM _ _ _ (⟨wrap64 (((rd_T50 l0_0 t187).f0) + 1), false, (⟨#[]⟩ : ByteArray), (⟨#[]⟩ : ByteArray), a0_1⟩ : S50) ) (fun _ hk => hk); have hx53_0 := hcc53 0 _ rfl; (try simp only [show (k50).sz = 5 from rfl, Nat.mul_one, Nat.add_zero] at hx53_0); have hf53_0 := hfr53 0; (try simp only [show (k50).sz = 5 from rfl, Nat.mul_one, Nat.add_zero] at hf53_0); have hx53_1 := hcc53 1 _ rfl; (try simp only [show (k50).sz = 5 from rfl, Nat.mul_one, Nat.add_zero] at hx53_1); have hf53_1 := hfr53 1; (try simp only [show (k50).sz = 5 from rfl, Nat.mul_one, Nat.add_zero] at hf53_1); have hx53_2 := hcc53 2 _ rfl; (try simp only [show (k50).sz = 5 from rfl, Nat.mul_one, Nat.add_zero] at hx53_2); have hf53_2 := hfr53 2; (try simp only [show (k50).sz = 5 from rfl, Nat.mul_one, Nat.add_zero] at hf53_2); have hx53_3 := hcc53 3 _ rfl; (try simp only [show (k50).sz = 5 from rfl, Nat.mul_one, Nat.add_zero] at hx53_3); have hf53_3 := hfr53 3; (try simp only [show (k50).sz = 5 from rfl, Nat.mul_one, Nat.add_zero] at hf53_3); have hx53_4 := hcc53 4 _ rfl; (try simp only [show (k50).sz = 5 from rfl, Nat.mul_one, Nat.add_zero] at hx53_4); have hf53_4 := hfr53 4; (try simp only [show (k50).sz = 5 from rfl, Nat.mul_one, Nat.add_zero] at hf53_4); clear hcl53 hcc53 hfr53 hM53) | ((with_reducible refine gate_store (t := 50) (p := 33) rfl ?_); refine store_event (t := 50) (p := 33) (v := ?vo_w54) (w1 := (((((w50.setCell ⟨go37, (t187 : Int).toNat * 5, none⟩ (.int .i64 (wrap64 (((rd_T50 l0_0 t187).f0) + 1)))).setCell ⟨go37, (t187 : Int).toNat * 5 + 1, none⟩ (.bool false)).setCell ⟨go37, (t187 : Int).toNat * 5 + 2, none⟩ (.string (⟨#[]⟩ : ByteArray))).setCell ⟨go37, (t187 : Int).toNat * 5 + 3, none⟩ (.string (⟨#[]⟩ : ByteArray))).setCell ⟨go37, (t187 : Int).toNat * 5 + 4, none⟩ (.int .i64 a0_1))) ?hg ?ho ?hn ?hr ?_; (case ho => rfl); (case hg => rfl); (case hn => rfl); (case hr => first | (go_simp; done) | (go_simp; rfl)); intro w54 hw; have hg : w50.grownBy w54 (some go37) := (by rw [hw]; exact HP53.2); have hp_ : Kd.R k50 50 w54 w.heap.size (fun _ => True) (.slice (some ⟨go37, 0, none⟩) t188.length co46) y195 := (by rw [hw, Ny195.out]; exact HP53.1); clear HP53; replace BK185 := am (blk_grown (g := gb185) (o := .cells #[.slice (some ad193) l0_0.length c0_0, .int .i64 a0_1] 42 (0, 0)) (xB BK185.out) hg (Kd.R_ne HO190.out BK185.out (by decide))); replace BK186 := am (blk_grown (g := gb186) (o := .cells #[.slice none 0 0, .int .i64 0] 42 (0, 0)) (xB BK186.out) hg (Kd.R_ne HO190.out BK186.out (by decide))); replace BK192 := am (blk_grown (g := gb192) (o := .cells #[.slice (some ⟨go37, 0, none⟩) t188.length co46, .int .i64 t191] 42 (0, 0)) (xB BK192.out) hg (Kd.R_ne HO190.out BK192.out (by decide))); replace HO190 := am (hp_); replace HB := am ((by rw [hw]; exact below_set (below_set (below_set (below_set (below_set (HB.out) GB37.out) GB37.out) GB37.out) GB37.out) GB37.out : Below w.heap.size w w54)); clear hg hw hp_; obtain ⟨hcz55_0, hcz55_1, hfz55_0, hfz55_1⟩ := xT2 (W := w54) BK192.out; obtain ⟨hcz56_0, hcz56_1, hfz56_0, hfz56_1⟩ := xT2 (W := w54) BK186.out))
            refine bodyPost_ret (results_ct rfl _ _ gb186 42 #[.slice (some ⟨go37, 0, none⟩) t188.length co46, .int .i64 t187] (0, 0) _ rfl (xP BK186.out) Try.underlying42 rfl (by kernel_rfl)) rfl ?_
            exact ⟨_, xV, by (with_reducible repeat (first | apply Kd.R_alloc | apply Kd.R_drewN | apply Kd.R_drew)); exact Kd.R_mono (Kd.R_far (p := ⟨gb186, 1, none⟩) (Kd.R_far (p := ⟨gb186, 0, none⟩) (Kd.R_far (p := ⟨gb192, 1, none⟩) (Kd.R_types (Kd.R_types HO190.out BK192.out (by decide)) BK186.out (by decide)) (fun _ hk => hk.1.2) (.int .i64 t187)) (fun _ hk => hk.2) (.slice (some ⟨go37, 0, none⟩) t188.length co46)) (fun _ hk => hk.2) (.int .i64 t187)) (fun _ hk => trivial), xW HB.out⟩
          · rw [if_neg c36] at H
            exact absurd H (by simp)
      · rw [if_neg c13] at H
        exact absurd H (by simp)
    · rw [if_neg c12] at H
      exact absurd H (by simp)

/-! ### spec_l03Val: function 43 -/
def spec_l03Val.f (s0_0 : List Int) (s0_1 : Int) (s0_2 : Int) : Option (ByteArray × Int × Int) := (spec_l01Pick.f s0_0 s0_1 s0_2 (([(⟨#[]⟩ : ByteArray), (⟨#[118]⟩ : ByteArray), (⟨#[119]⟩ : ByteArray), (⟨#[120, 120]⟩ : ByteArray), (⟨#[121, 121, 121]⟩ : ByteArray)] : List ByteArray))).bind fun bt199 => (some (bt199.1, bt199.2.1, bt199.2.2))
set_option maxHeartbeats 8000000 in
set_option maxRecDepth 100000 in
theorem spec_l03Val.calls (g : Nat) (s0_0 : List Int) (s0_1 : Int) (s0_2 : Int) (r1 : ByteArray) (r2 : Int) (r3 : Int) (w0 w : World) (hI : IsS73 w0 w g s0_0 s0_1 s0_2) (hB : Below w0.heap.size w0 w) (h : spec_l03Val.f s0_0 s0_1 s0_2 = some (r1, r2, r3)) :
    Calls Try.prog 43 #[.pointer (some ⟨g, 0, none⟩)] w fun e w' => e = .returned (.string r1) ∧ IsS73 w0 w' g s0_0 r2 r3 ∧ Below w0.heap.size w0 w' ∧ KeepBut w w' g none := by
  have HI0 := am hI
  have HK := am (KeepBut.refl w g none)
  have HL := am hB.size
  clear hI
  have HW0 := am hB.size
  have HB := am hB
  clear hB
  have H : ((spec_l01Pick.f s0_0 s0_1 s0_2 (([(⟨#[]⟩ : ByteArray), (⟨#[118]⟩ : ByteArray), (⟨#[119]⟩ : ByteArray), (⟨#[120, 120]⟩ : ByteArray), (⟨#[121, 121, 121]⟩ : ByteArray)] : List ByteArray))).bind fun bt199 => (some (bt199.1, bt199.2.1, bt199.2.2))) = some (r1, r2, r3) := h
  clear h
  obtain ⟨y196, hy196⟩ : ∃ y_ : List ByteArray, y_ = (([(⟨#[]⟩ : ByteArray), (⟨#[118]⟩ : ByteArray), (⟨#[119]⟩ : ByteArray), (⟨#[120, 120]⟩ : ByteArray), (⟨#[121, 121, 121]⟩ : ByteArray)] : List ByteArray)) := ⟨_, rfl⟩
  replace H : ((spec_l01Pick.f s0_0 s0_1 s0_2 y196).bind fun bt199 => (some (bt199.1, bt199.2.1, bt199.2.2))) = some (r1, r2, r3) := by first | (rw [hy196]; with_reducible exact H) | (have H2_ := (Option.bind_some _ _).symm.trans H; rw [hy196]; with_reducible exact H2_) | (have H2_ := (Option.bind_some _ _).symm.trans H; with_reducible exact H2_) | with_reducible exact H | (rw [hy196]; exact H) | exact H
  have Ny196 := am hy196
  clear hy196
  replace H := Option.bind_eq_some_iff.mp H
  obtain ⟨⟨t199, t200, t201⟩, A20, H⟩ := H
  replace H : (some (t199, t200, t201)) = some (r1, r2, r3) := H
  have A2 := am A20
  clear A20
  simp only [Option.some.injEq, Prod.mk.injEq] at H
  obtain ⟨rfl, rfl, rfl⟩ := H
  go_enter Try.func43, Try.ntmps43
  go_wp2_with (first | ((with_reducible refine gate_dst (N := 4) rfl ?_); refine Kd.R_lit Kd.string _ 9 ?hg (N := 4) ?hd (xs := ([(⟨#[]⟩ : ByteArray), (⟨#[118]⟩ : ByteArray), (⟨#[119]⟩ : ByteArray), (⟨#[120, 120]⟩ : ByteArray), (⟨#[121, 121, 121]⟩ : ByteArray)] : List ByteArray)) (inner := [.string (⟨#[]⟩ : ByteArray), .string (⟨#[118]⟩ : ByteArray), .string (⟨#[119]⟩ : ByteArray), .string (⟨#[120, 120]⟩ : ByteArray), .string (⟨#[121, 121, 121]⟩ : ByteArray)]) (ok := fun _ => True) (okp := fun _ => True) ?hr ?hp (fun _ hk => hk) trivial (Below.refl _ _) (Nat.le_refl _) (by simp) ?_; (case hd => rfl); (case hg => rfl); (case hr => first | (go_simp; done) | (go_simp; rfl)); (case hp => exact (Reps.one (show Kd.M Kd.string _ _ _ (⟨#[]⟩ : ByteArray) [.string (⟨#[]⟩ : ByteArray)] from rfl) (Reps.one (show Kd.M Kd.string _ _ _ (⟨#[118]⟩ : ByteArray) [.string (⟨#[118]⟩ : ByteArray)] from rfl) (Reps.one (show Kd.M Kd.string _ _ _ (⟨#[119]⟩ : ByteArray) [.string (⟨#[119]⟩ : ByteArray)] from rfl) (Reps.one (show Kd.M Kd.string _ _ _ (⟨#[120, 120]⟩ : ByteArray) [.string (⟨#[120, 120]⟩ : ByteArray)] from rfl) (Reps.one (show Kd.M Kd.string _ _ _ (⟨#[121, 121, 121]⟩ : ByteArray) [.string (⟨#[121, 121, 121]⟩ : ByteArray)] from rfl) (Reps.none _ _))))))); intro v197 w3 ho4 hb hg_ hnew_; clear hg_ hnew_; (first | rw [← Ny196.out] at ho4 | (simp only [Int.reduceToNat] at ho4; rw [← Ny196.out] at ho4)); have HO198 := am (Kd.R_lower ho4 (xKZ HK.out)); replace HK := am (xKB HK.out hb); replace HB := am (below_step (xWI HB.out (IsS73.ge HI0.out)) hb); replace HI0 := am (IsS73.below (xH73 HI0.out) hb); clear hb ho4; obtain ⟨Ao5, co5, eo5⟩ := Kd.R_slice HO198.out; subst eo5) | ((with_reducible refine gate_callee (f := 58) rfl ?_); refine xG (some 5) 58 Try.func58 #[.pointer (some ⟨g, 0, none⟩), .slice Ao5 y196.length co5] (h := ?_); (with_reducible refine (spec_l01Pick.calls g s0_0 s0_1 s0_2 _ _ y196 t199 t200 t201 w0 _ ?side1 ?side2 ?side3 ?side4 ?side5 A2.out).mono ?_); (case side1 => exact xH73 HI0.out); (case side2 => exact xWI HB.out (IsS73.ge HI0.out)); (case side3 => exact xC ((Kd.R_reads' HO198.out).2.2)); (case side4 => exact (Kd.R_reads' HO198.out).2.1); (case side5 => exact far_slice (IsS73.own_ne HI0.out HO198.out (by decide))); rintro e w6 ⟨rfl, hi, hb, hk⟩; refine ⟨_, rfl, ?_⟩; replace HO198 := am (Kd.R_mono (Kd.R_keep (IsS73.apart (show IsS73 w0 _ g s0_0 s0_1 s0_2 from xH73 HI0.out) (xR HO198.out) (by decide)) hk (fun _ h => h.2)) (fun _ h => h.1)); replace HK := am (KeepBut.trans (xK HK.out) hk (.inl rfl)); replace HB := am (hb); replace HI0 := am (hi); (try clear hb); (try clear hk); (try clear hi)))
  go_ret
  exact ⟨xV, xH73 HI0.out, xWI HB.out (IsS73.ge HI0.out), xK HK.out⟩

/-! ### spec_l01Once: function 56 -/
def spec_l01Once.f (s0_0 : List Int) (s0_1 : Int) (s0_2 : Int) (a1 : Int) : Option (Bool × Int × Int) := (spec_l01Below.f s0_0 s0_1 s0_2 a1).bind fun bt202 => (some ((bt202.1 == 0), bt202.2.1, bt202.2.2))
set_option maxHeartbeats 8000000 in
set_option maxRecDepth 100000 in
theorem spec_l01Once.calls (g : Nat) (s0_0 : List Int) (s0_1 : Int) (s0_2 : Int) (a1 : Int) (r1 : Bool) (r2 : Int) (r3 : Int) (w0 w : World) (hI : IsS73 w0 w g s0_0 s0_1 s0_2) (hB : Below w0.heap.size w0 w) (h : spec_l01Once.f s0_0 s0_1 s0_2 a1 = some (r1, r2, r3)) :
    Calls Try.prog 56 #[.pointer (some ⟨g, 0, none⟩), .int .i64 a1] w fun e w' => e = .returned (.bool r1) ∧ IsS73 w0 w' g s0_0 r2 r3 ∧ Below w0.heap.size w0 w' ∧ KeepBut w w' g none := by
  have HI0 := am hI
  have HK := am (KeepBut.refl w g none)
  have HL := am hB.size
  clear hI
  have HW0 := am hB.size
  have HB := am hB
  clear hB
  have H : ((spec_l01Below.f s0_0 s0_1 s0_2 a1).bind fun bt202 => (some ((bt202.1 == 0), bt202.2.1, bt202.2.2))) = some (r1, r2, r3) := h
  clear h
  replace H := Option.bind_eq_some_iff.mp H
  obtain ⟨⟨t202, t203, t204⟩, A30, H⟩ := H
  replace H : (some ((t202 == 0), t203, t204)) = some (r1, r2, r3) := H
  have A3 := am A30
  clear A30
  simp only [Option.some.injEq, Prod.mk.injEq] at H
  obtain ⟨rfl, rfl, rfl⟩ := H
  go_enter Try.func56, Try.ntmps56
  go_wp2_with (first | ((with_reducible refine gate_callee (f := 54) rfl ?_); refine xG (some 7) 54 Try.func54 #[.pointer (some ⟨g, 0, none⟩), .int .i64 a1] (h := ?_); (with_reducible refine (spec_l01Below.calls g s0_0 s0_1 s0_2 a1 t202 t203 t204 w0 _ ?side1 ?side2 A3.out).mono ?_); (case side1 => exact xH73 HI0.out); (case side2 => exact xWI HB.out (IsS73.ge HI0.out)); rintro e w4 ⟨rfl, hi, hb, hk⟩; refine ⟨_, rfl, ?_⟩; replace HK := am (KeepBut.trans (xK HK.out) hk (.inl rfl)); replace HB := am (hb); replace HI0 := am (hi); (try clear hb); (try clear hk); (try clear hi)))
  go_ret
  exact ⟨xV, xH73 HI0.out, xWI HB.out (IsS73.ge HI0.out), xK HK.out⟩

/-! ### spec_ArenaNew: function 67 -/
def spec_ArenaNew.l0 : Nat → Int → Int → List (S50) → Int → Option ((List (S50)) × Int × Bool)
  | 0, _, _, _, _ => none
  | k + 1, x0, x5, x208000, x208001 => if x5 < x0 then (if (wrap64 (x5 + 1)) = x0 then (if x208000.length < 2513169434916 then (spec_ArenaNew.l0 k x0 (wrap64 (x5 + 1)) (x208000 ++ [(⟨0, false, (⟨#[]⟩ : ByteArray), (⟨#[]⟩ : ByteArray), (-1)⟩ : S50)]) x208001) else (none)) else (if x208000.length < 2513169434916 then (spec_ArenaNew.l0 k x0 (wrap64 (x5 + 1)) (x208000 ++ [(⟨0, false, (⟨#[]⟩ : ByteArray), (⟨#[]⟩ : ByteArray), wrap64 (x5 + 1)⟩ : S50)]) x208001) else (none))) else (some (x208000, x208001, true))
def spec_ArenaNew.f (k : Nat) (a0 : Int) : Option ((List (S50)) × Int × Bool) := (spec_l01In.f a0 1 24).bind fun t206 => (if t206 = true then (spec_ArenaNew.l0 k a0 0 ([] : List (S50)) 0) else (some (([] : List (S50)), 0, false)))
theorem spec_ArenaNew.mono_l : ∀ k, (∀ y0 y1 y2 y3, LeO (spec_ArenaNew.l0 k y0 y1 y2 y3) (spec_ArenaNew.l0 (k + 1) y0 y1 y2 y3))
  | 0 => fun _ _ _ _ r h => by simp [spec_ArenaNew.l0] at h
  | k + 1 => by
    have ih0 := spec_ArenaNew.mono_l k
    · intro y0 y1 y2 y3
      unfold spec_ArenaNew.l0
      repeat' first | (with_reducible first | apply ih0 | exact LeO.refl _ | exact LeO.none _ | refine LeO.ite ?_ ?_ | refine LeO.bind ?_ (fun _ => ?_))
theorem spec_ArenaNew.mono : ∀ a0 k, LeO (spec_ArenaNew.f k a0) (spec_ArenaNew.f (k + 1) a0) := by
  intro a0 k
  have ih0 := spec_ArenaNew.mono_l k
  unfold spec_ArenaNew.f
  repeat' first | (with_reducible first | apply ih0 | exact LeO.refl _ | exact LeO.none _ | refine LeO.ite ?_ ?_ | refine LeO.bind ?_ (fun _ => ?_))
set_option maxHeartbeats 8000000 in
set_option maxRecDepth 100000 in
theorem spec_ArenaNew.calls (k : Nat) (a0 : Int) (r1 : List (S50)) (r2 : Int) (r3 : Bool) (w : World) (h : spec_ArenaNew.f k a0 = some (r1, r2, r3)) :
    Calls Try.prog 67 #[.int .i64 a0] w fun e w' => ∃ v0_ : Value, e = .returned (.tuple #[.agg #[v0_, .int .i64 r2], .bool r3]) ∧ Kd.R k50 50 w' w.heap.size (fun _ => True) v0_ r1 ∧ Below w.heap.size w w' := by
  have hu42 := Try.underlying42
  have hu50 := Try.underlying50
  have HB := am (Below.refl w.heap.size w)
  have H : ((spec_l01In.f a0 1 24).bind fun t206 => (if t206 = true then (spec_ArenaNew.l0 k a0 0 ([] : List (S50)) 0) else (some (([] : List (S50)), 0, false)))) = some (r1, r2, r3) := h
  clear h
  replace H := Option.bind_eq_some_iff.mp H
  obtain ⟨t206, A20, H⟩ := H
  try dsimp only at H
  have A2 := am A20
  clear A20
  by_cases c3 : t206 = true
  · subst c3
    have H1 : (spec_ArenaNew.l0 k a0 0 ([] : List (S50)) 0) = some (r1, r2, r3) := by rw [if_pos rfl] at H; exact H
    clear H
    have H := H1
    clear H1
    have H' := am H
    clear H
    go_enter Try.func67, Try.ntmps67
    go_wp2_with (first | ((with_reducible refine gate_dst (N := 2) rfl ?_); refine xE (N := 2) (cs := #[.slice none 0 0, .int .i64 0]) (t := 42) (h := ?_); intro gb205 hg w4 hbox hb; have BK205 := am (hbox); have GW205 := am (xS hg HB.out); have GE205 := am (xS hg HB.out); replace HB := am (below_step (xW HB.out) hb); clear hb hbox hg) | ((with_reducible refine gate_callee (f := 61) rfl ?_); refine xG (some 8) 61 Try.func61 #[.int .i64 a0, .int .i64 1, .int .i64 24] (h := ?_); (with_reducible refine (spec_l01In.calls a0 1 24 true _ A2.out).mono ?_); rintro e w' ⟨rfl, ⟨nd, rfl⟩⟩; refine ⟨_, rfl, ?_⟩; (try (rw [drewN_self w4]; generalize hq_ : World.drewN w4 _ = w4; have n0_ : Aside0 (w4.heap[gb205]? = some (.cells #[.slice none 0 0, .int .i64 0] 42 (0, 0))) := ⟨by rw [← hq_]; exact (xB BK205.out)⟩; have n1_ : Aside0 (Below w.heap.size w w4) := ⟨by rw [← hq_]; exact (xW HB.out)⟩; clear BK205 HB hq_; have BK205 := n0_; have HB := n1_; clear n0_ n1_; obtain ⟨hczq1_0, hczq1_1, hfzq1_0, hfzq1_1⟩ := xT2 (W := w4) BK205.out))) | ((with_reducible refine gate_dst (N := 4) rfl ?_); refine xE (N := 4) (cs := #[.slice none 0 0, .int .i64 0]) (t := 42) (h := ?_); intro gb207 hg w5 hbox hb; have BK207 := am (hbox); have GW207 := am (xS hg HB.out); have GE207 := am (xS hg HB.out); replace HB := am (below_step (xW HB.out) hb); have NB205_207 := am (xN hg BK205.out); have NB207_205 := am (xM hg BK205.out); replace BK205 := am (blk_below (xB BK205.out) hb); clear hb hbox hg; have hnb6 := NB207_205.out; have hnc6 := NB205_207.out; obtain ⟨hcz7_0, hcz7_1, hfz7_0, hfz7_1⟩ := xT2 (W := w5) BK207.out))
    go_loopg [5] k (fun kq v5 w' => ∃ (x5_1 : Int) (x208000_1 : List (S50)) (u208000 : Value), v5 = .int .i64 x5_1 ∧ Aside0 (spec_ArenaNew.l0 kq a0 x5_1 x208000_1 0 = some (r1, r2, r3)) ∧ Aside0 (kq ≤ k) ∧ Aside0 (Kd.R k50 50 w' w.heap.size (fun _ => True) u208000 x208000_1) ∧ Aside0 (w'.heap[gb205]? = some (.cells #[(.slice none 0 0), .int .i64 0] 42 (0, 0))) ∧ Aside0 (w'.heap[gb207]? = some (.cells #[u208000, .int .i64 0] 42 (0, 0))) ∧ Aside0 (Below w.heap.size w w'))
    case atStart => exact ⟨(0), (([] : List (S50))), (.slice none 0 0), (xQ), H', ⟨Nat.le_refl _⟩, ⟨by first | exact Kd.R_nil _ _ _ _ _ | exact Kd.N_nil _ _ _ _ _ | exact Kd.V_nil _ _ _ _ _ | exact Kd.Q_nil _ _ _ _ _ | exact Kd.S_nil _ _ _ _ _⟩, ⟨xB BK205.out⟩, ⟨xP BK207.out⟩, ⟨xW HB.out⟩⟩
    case round =>
      clear H'
      try clear p2
      try clear c3
      try clear c6
      try clear hcz7_0
      try clear hcz7_1
      try clear hfz7_0
      try clear hfz7_1
      obtain ⟨x5_1, x208000_1, u208000, rfl, HA, HK1, HO_208000, BK205, BK207, HB⟩ := hrel
      cases gk with
      | zero => exact absurd HA.out (by simp [spec_ArenaNew.l0])
      | succ k1 =>
        have H := HA.out
        clear HA
        simp only [spec_ArenaNew.l0] at H
        by_cases c8 : x5_1 < a0
        · rw [if_pos c8] at H
          have c8b0 : decide (x5_1 < a0) = true := decide_eq_true c8
          clear c8
          by_cases c9 : (wrap64 (x5_1 + 1)) = a0
          · rw [if_pos c9] at H
            have c9b0 : ((wrap64 (x5_1 + 1)) == a0) = true := beq_iff_eq.mpr c9
            have c9b1 : ((wrap64 (x5_1 + 1)) != a0) = false := bne_eq_false_iff_eq.mpr c9
            clear c9
            by_cases c10 : x208000_1.length < 2513169434916
            · rw [if_pos c10] at H
              have LMc10 := am c10
              clear c10
              obtain ⟨y208, hy208⟩ : ∃ y_ : List (S50), y_ = (x208000_1 ++ [(⟨0, false, (⟨#[]⟩ : ByteArray), (⟨#[]⟩ : ByteArray), (-1)⟩ : S50)]) := ⟨_, rfl⟩
              replace H : (spec_ArenaNew.l0 k1 a0 (wrap64 (x5_1 + 1)) y208 0) = some (r1, r2, r3) := by first | (rw [hy208]; with_reducible exact H) | (have H2_ := (Option.bind_some _ _).symm.trans H; rw [hy208]; with_reducible exact H2_) | (have H2_ := (Option.bind_some _ _).symm.trans H; with_reducible exact H2_) | with_reducible exact H | (rw [hy208]; exact H) | exact H
              have Ny208 := am hy208
              clear hy208
              have H' := am H
              clear H
              have hnb11 := NB207_205.out
              have hnc11 := NB205_207.out
              obtain ⟨hcz12_0, hcz12_1, hfz12_0, hfz12_1⟩ := xT2 (W := wr) BK207.out
              go_wp2_with (first | ((with_reducible refine gate_builtin (b := .append) (xs := #[.tmp 23, .tmp 26]) rfl ?_); at_builtin; refine Kd.R_append k50 (w0 := w) w.heap.size rfl (.tmp 23) (.tmp 26) 40 50 (.agg #[(.int .i64 0), (.bool false), (.string ⟨#[]⟩), (.string ⟨#[]⟩), (.int .i64 0)]) 56 rfl Try.underlying40 info50 rfl (by decide) (by omega) u208000 x208000_1 (⟨0, false, (⟨#[]⟩ : ByteArray), (⟨#[]⟩ : ByteArray), (-1)⟩ : S50) [.int .i64 0, .bool false, .string (⟨#[]⟩ : ByteArray), .string (⟨#[]⟩ : ByteArray), .int .i64 (-1)] (fun _ => True) (fun _ => False) rfl rfl ?aP (fun _ hk => hk.elim) ?aF ?aO ?aB ?aS ?aL ?_; (case aP => exact k50_mkM _ _ _ (⟨0, false, (⟨#[]⟩ : ByteArray), (⟨#[]⟩ : ByteArray), (-1)⟩ : S50)); (case aB => exact (xW HB.out)); (case aF => exact (fun _ _ => trivial)); (case aO => exact (xR HO_208000.out)); (case aS => exact (below_size (xW HB.out))); (case aL => have := LMc10.out; omega); intro v209 w13 ho hb hg hat; rw [← Ny208.out] at ho; replace BK205 := am (blk_grown (g := gb205) (o := .cells #[.slice none 0 0, .int .i64 0] 42 (0, 0)) (xB BK205.out) hg (Kd.R_ne HO_208000.out BK205.out (by decide))); replace BK207 := am (blk_grown (g := gb207) (o := .cells #[u208000, .int .i64 0] 42 (0, 0)) (xB BK207.out) hg (Kd.R_ne HO_208000.out BK207.out (by decide))); replace HB := am (hb); have HO210 := am (ho); clear HO_208000; clear ho hb hg hat; obtain ⟨Ao14, co14, eo14⟩ := Kd.R_slice HO210.out; subst eo14; obtain ⟨hcz15_0, hcz15_1, hfz15_0, hfz15_1⟩ := xT2 (W := w13) BK207.out))
              go_roundg k1
              case measure => have := HK1.out; omega
              case rel => exact ⟨(wrap64 (x5_1 + 1)), (y208), (.slice Ao14 y208.length co14), (xQ), H', ⟨by have := HK1.out; omega⟩, ⟨by (with_reducible repeat (first | apply Kd.R_alloc | apply Kd.R_drewN | apply Kd.R_drew)); exact Kd.R_mono (Kd.R_far (p := ⟨gb207, 0, none⟩) (Kd.R_types HO210.out BK207.out (by decide)) (fun _ hk => hk.2) (.slice Ao14 y208.length co14)) (fun _ hk => trivial)⟩, ⟨xB BK205.out⟩, ⟨xP BK207.out⟩, ⟨xW HB.out⟩⟩
            · rw [if_neg c10] at H
              exact absurd H (by simp)
          · rw [if_neg c9] at H
            have c9b0 : ((wrap64 (x5_1 + 1)) == a0) = false := beq_eq_false_iff_ne.mpr c9
            have c9b1 : ((wrap64 (x5_1 + 1)) != a0) = true := bne_iff_ne.mpr c9
            by_cases c16 : x208000_1.length < 2513169434916
            · rw [if_pos c16] at H
              have LMc16 := am c16
              clear c16
              obtain ⟨y211, hy211⟩ : ∃ y_ : List (S50), y_ = (x208000_1 ++ [(⟨0, false, (⟨#[]⟩ : ByteArray), (⟨#[]⟩ : ByteArray), wrap64 (x5_1 + 1)⟩ : S50)]) := ⟨_, rfl⟩
              replace H : (spec_ArenaNew.l0 k1 a0 (wrap64 (x5_1 + 1)) y211 0) = some (r1, r2, r3) := by first | (rw [hy211]; with_reducible exact H) | (have H2_ := (Option.bind_some _ _).symm.trans H; rw [hy211]; with_reducible exact H2_) | (have H2_ := (Option.bind_some _ _).symm.trans H; with_reducible exact H2_) | with_reducible exact H | (rw [hy211]; exact H) | exact H
              have Ny211 := am hy211
              clear hy211
              have H' := am H
              clear H
              have hnb17 := NB207_205.out
              have hnc17 := NB205_207.out
              obtain ⟨hcz18_0, hcz18_1, hfz18_0, hfz18_1⟩ := xT2 (W := wr) BK207.out
              go_wp2_with (first | ((with_reducible refine gate_builtin (b := .append) (xs := #[.tmp 23, .tmp 26]) rfl ?_); at_builtin; refine Kd.R_append k50 (w0 := w) w.heap.size rfl (.tmp 23) (.tmp 26) 40 50 (.agg #[(.int .i64 0), (.bool false), (.string ⟨#[]⟩), (.string ⟨#[]⟩), (.int .i64 0)]) 56 rfl Try.underlying40 info50 rfl (by decide) (by omega) u208000 x208000_1 (⟨0, false, (⟨#[]⟩ : ByteArray), (⟨#[]⟩ : ByteArray), wrap64 (x5_1 + 1)⟩ : S50) [.int .i64 0, .bool false, .string (⟨#[]⟩ : ByteArray), .string (⟨#[]⟩ : ByteArray), .int .i64 (wrap64 (x5_1 + 1))] (fun _ => True) (fun _ => False) rfl rfl ?aP (fun _ hk => hk.elim) ?aF ?aO ?aB ?aS ?aL ?_; (case aP => exact k50_mkM _ _ _ (⟨0, false, (⟨#[]⟩ : ByteArray), (⟨#[]⟩ : ByteArray), wrap64 (x5_1 + 1)⟩ : S50)); (case aB => exact (xW HB.out)); (case aF => exact (fun _ _ => trivial)); (case aO => exact (xR HO_208000.out)); (case aS => exact (below_size (xW HB.out))); (case aL => have := LMc16.out; omega); intro v212 w19 ho hb hg hat; rw [← Ny211.out] at ho; replace BK205 := am (blk_grown (g := gb205) (o := .cells #[.slice none 0 0, .int .i64 0] 42 (0, 0)) (xB BK205.out) hg (Kd.R_ne HO_208000.out BK205.out (by decide))); replace BK207 := am (blk_grown (g := gb207) (o := .cells #[u208000, .int .i64 0] 42 (0, 0)) (xB BK207.out) hg (Kd.R_ne HO_208000.out BK207.out (by decide))); replace HB := am (hb); have HO213 := am (ho); clear HO_208000; clear ho hb hg hat; obtain ⟨Ao20, co20, eo20⟩ := Kd.R_slice HO213.out; subst eo20; obtain ⟨hcz21_0, hcz21_1, hfz21_0, hfz21_1⟩ := xT2 (W := w19) BK207.out))
              go_roundg k1
              case measure => have := HK1.out; omega
              case rel => exact ⟨(wrap64 (x5_1 + 1)), (y211), (.slice Ao20 y211.length co20), (xQ), H', ⟨by have := HK1.out; omega⟩, ⟨by (with_reducible repeat (first | apply Kd.R_alloc | apply Kd.R_drewN | apply Kd.R_drew)); exact Kd.R_mono (Kd.R_far (p := ⟨gb207, 0, none⟩) (Kd.R_types HO213.out BK207.out (by decide)) (fun _ hk => hk.2) (.slice Ao20 y211.length co20)) (fun _ hk => trivial)⟩, ⟨xB BK205.out⟩, ⟨xP BK207.out⟩, ⟨xW HB.out⟩⟩
            · rw [if_neg c16] at H
              exact absurd H (by simp)
        · rw [if_neg c8] at H
          have c8b0 : decide (x5_1 < a0) = false := decide_eq_false c8
          clear c8
          simp only [Option.some.injEq, Prod.mk.injEq] at H
          obtain ⟨rfl, rfl, rfl⟩ := H
          have hnb22 := NB207_205.out
          have hnc22 := NB205_207.out
          obtain ⟨hcz23_0, hcz23_1, hfz23_0, hfz23_1⟩ := xT2 (W := wr) BK207.out
          obtain ⟨Ao24, co24, eo24⟩ := Kd.R_slice HO_208000.out
          subst eo24
          obtain ⟨hcz25_0, hcz25_1, hfz25_0, hfz25_1⟩ := xT2 (W := wr) BK205.out
          go_wp2
          refine bodyPost_ret (results_ct rfl _ _ gb205 42 #[.slice Ao24 x208000_1.length co24, .int .i64 0] (0, 0) _ rfl (xP BK205.out) Try.underlying42 rfl (by kernel_rfl)) rfl ?_
          exact ⟨_, xV, by (with_reducible repeat (first | apply Kd.R_alloc | apply Kd.R_drewN | apply Kd.R_drew)); exact Kd.R_mono (Kd.R_far (p := ⟨gb205, 1, none⟩) (Kd.R_far (p := ⟨gb205, 0, none⟩) (Kd.R_types HO_208000.out BK205.out (by decide)) (fun _ hk => hk.2) (.slice Ao24 x208000_1.length co24)) (fun _ hk => hk.2) (.int .i64 0)) (fun _ hk => trivial), xW HB.out⟩
  · replace c3 := Bool.eq_false_iff.mpr c3
    subst c3
    have H1 : (some (([] : List (S50)), 0, false)) = some (r1, r2, r3) := by rw [if_neg (show ¬ (false = true) by decide)] at H; exact H
    clear H
    have H := H1
    clear H1
    simp only [Option.some.injEq, Prod.mk.injEq] at H
    obtain ⟨rfl, rfl, rfl⟩ := H
    go_enter Try.func67, Try.ntmps67
    go_wp2_with (first | ((with_reducible refine gate_dst (N := 2) rfl ?_); refine xE (N := 2) (cs := #[.slice none 0 0, .int .i64 0]) (t := 42) (h := ?_); intro gb205 hg w26 hbox hb; have BK205 := am (hbox); have GW205 := am (xS hg HB.out); have GE205 := am (xS hg HB.out); replace HB := am (below_step (xW HB.out) hb); clear hb hbox hg) | ((with_reducible refine gate_callee (f := 61) rfl ?_); refine xG (some 8) 61 Try.func61 #[.int .i64 a0, .int .i64 1, .int .i64 24] (h := ?_); (with_reducible refine (spec_l01In.calls a0 1 24 false _ A2.out).mono ?_); rintro e w' ⟨rfl, ⟨nd, rfl⟩⟩; refine ⟨_, rfl, ?_⟩; (try (rw [drewN_self w26]; generalize hq_ : World.drewN w26 _ = w26; have n0_ : Aside0 (w26.heap[gb205]? = some (.cells #[.slice none 0 0, .int .i64 0] 42 (0, 0))) := ⟨by rw [← hq_]; exact (xB BK205.out)⟩; have n1_ : Aside0 (Below w.heap.size w w26) := ⟨by rw [← hq_]; exact (xW HB.out)⟩; clear BK205 HB hq_; have BK205 := n0_; have HB := n1_; clear n0_ n1_; obtain ⟨hczq2_0, hczq2_1, hfzq2_0, hfzq2_1⟩ := xT2 (W := w26) BK205.out)); obtain ⟨hcz27_0, hcz27_1, hfz27_0, hfz27_1⟩ := xT2 (W := w26) BK205.out))
    refine bodyPost_ret (results_ct rfl _ _ gb205 42 #[.slice none 0 0, .int .i64 0] (0, 0) _ rfl (xP BK205.out) Try.underlying42 rfl (by kernel_rfl)) rfl ?_
    exact ⟨_, xV, by first | exact Kd.R_nil _ _ _ _ _ | exact Kd.N_nil _ _ _ _ _ | exact Kd.V_nil _ _ _ _ _ | exact Kd.Q_nil _ _ _ _ _ | exact Kd.S_nil _ _ _ _ _, xW HB.out⟩

/-! ### spec_HandleOf: function 68 -/
def spec_HandleOf.f (k : Nat) (l0_0 : List (S50)) (a0_1 : Int) (a1 : Int) : Option (Int) := (spec_ArenaOk.f k l0_0 a0_1).bind fun t215 => (if t215 = true then ((spec_l01In.f a1 0 (wrap64 ((l0_0.length : Int) - 1))).bind fun t216 => (if t216 = true then (if 0 ≤ a1 then (if a1 < (l0_0.length : Int) then (if ((rd_T50 l0_0 a1).f1 = true) then (some (wrap64 ((wrap64 (24 * ((rd_T50 l0_0 a1).f0))) + a1))) else (some (-1))) else (none)) else (none)) else (some (-1)))) else (some (-1)))
theorem spec_HandleOf.mono : ∀ a0 a1 a2 k, LeO (spec_HandleOf.f k a0 a1 a2) (spec_HandleOf.f (k + 1) a0 a1 a2) := by
  intro a0 a1 a2 k
  unfold spec_HandleOf.f
  repeat' first | (with_reducible first | apply spec_ArenaOk.mono | exact LeO.refl _ | exact LeO.none _ | refine LeO.ite ?_ ?_ | refine LeO.bind ?_ (fun _ => ?_))
set_option maxHeartbeats 8000000 in
set_option maxRecDepth 100000 in
theorem spec_HandleOf.calls (k : Nat) (A0_0 : Option Addr) (c0_0 : Nat) (l0_0 : List (S50)) (a0_1 : Int) (a1 : Int) (r : Int) (w : World) (hr0_0 : Kd.C k50 w A0_0 l0_0.length l0_0) (hc0_0 : l0_0.length ≤ c0_0) (h : spec_HandleOf.f k l0_0 a0_1 a1 = some r) :
    Calls Try.prog 68 #[.agg #[.slice A0_0 l0_0.length c0_0, .int .i64 a0_1], .int .i64 a1] w fun e w' => e = .returned (.int .i64 r) ∧ Below w.heap.size w w' := by
  have hu42 := Try.underlying42
  have HR0_0 := am hr0_0
  have HC0_0 := am hc0_0
  clear hr0_0 hc0_0
  have HB := am (Below.refl w.heap.size w)
  have H : ((spec_ArenaOk.f k l0_0 a0_1).bind fun t215 => (if t215 = true then ((spec_l01In.f a1 0 (wrap64 ((l0_0.length : Int) - 1))).bind fun t216 => (if t216 = true then (if 0 ≤ a1 then (if a1 < (l0_0.length : Int) then (if ((rd_T50 l0_0 a1).f1 = true) then (some (wrap64 ((wrap64 (24 * ((rd_T50 l0_0 a1).f0))) + a1))) else (some (-1))) else (none)) else (none)) else (some (-1)))) else (some (-1)))) = some r := h
  clear h
  replace H := Option.bind_eq_some_iff.mp H
  obtain ⟨t215, A30, H⟩ := H
  try dsimp only at H
  have A3 := am A30
  clear A30
  by_cases c4 : t215 = true
  · subst c4
    have H1 : ((spec_l01In.f a1 0 (wrap64 ((l0_0.length : Int) - 1))).bind fun t216 => (if t216 = true then (if 0 ≤ a1 then (if a1 < (l0_0.length : Int) then (if ((rd_T50 l0_0 a1).f1 = true) then (some (wrap64 ((wrap64 (24 * ((rd_T50 l0_0 a1).f0))) + a1))) else (some (-1))) else (none)) else (none)) else (some (-1)))) = some r := by rw [if_pos rfl] at H; exact H
    clear H
    have H := H1
    clear H1
    replace H := Option.bind_eq_some_iff.mp H
    obtain ⟨t216, A50, H⟩ := H
    try dsimp only at H
    have A5 := am A50
    clear A50
    by_cases c6 : t216 = true
    · subst c6
      have H1 : (if 0 ≤ a1 then (if a1 < (l0_0.length : Int) then (if ((rd_T50 l0_0 a1).f1 = true) then (some (wrap64 ((wrap64 (24 * ((rd_T50 l0_0 a1).f0))) + a1))) else (some (-1))) else (none)) else (none)) = some r := by rw [if_pos rfl] at H; exact H
      clear H
      have H := H1
      clear H1
      by_cases c7 : 0 ≤ a1
      · rw [if_pos c7] at H
        have c7b0 : decide (0 ≤ a1) = true := decide_eq_true c7
        clear c7
        by_cases c8 : a1 < (l0_0.length : Int)
        · rw [if_pos c8] at H
          have c8b0 : decide (a1 < (l0_0.length : Int)) = true := decide_eq_true c8
          clear c8
          obtain ⟨bq9, hbq9⟩ : ∃ b_ : Bool, b_ = ((rd_T50 l0_0 a1).f1) := ⟨_, rfl⟩
          replace H : (if (bq9 = true) then (some (wrap64 ((wrap64 (24 * ((rd_T50 l0_0 a1).f0))) + a1))) else (some (-1))) = some r := by rw [← hbq9] at H; exact H
          have Nbq9 := am hbq9
          clear hbq9
          by_cases c10 : (bq9 = true)
          · subst c10
            have H1 : (some (wrap64 ((wrap64 (24 * ((rd_T50 l0_0 a1).f0))) + a1))) = some r := by rw [if_pos rfl] at H; exact H
            clear H
            have H := H1
            clear H1
            obtain rfl := Option.some.inj H
            go_enter Try.func68, Try.ntmps68
            go_wp2_with (first | ((with_reducible refine gate_dst (N := 2) rfl ?_); (try (refine gate_guard (by rfl) ?_; dsimp only)); refine xE (N := 2) (cs := #[.slice A0_0 l0_0.length c0_0, .int .i64 a0_1]) (t := 42) (h := ?_); intro gb214 hg w11 hbox hb; have BK214 := am (hbox); have GW214 := am (xS hg HB.out); have GE214 := am (xS hg HB.out); replace HB := am (below_step (xW HB.out) hb); clear hb hbox hg; obtain ⟨hcz12_0, hcz12_1, hfz12_0, hfz12_1⟩ := xT2 (W := w11) BK214.out) | ((with_reducible refine gate_callee (f := 64) rfl ?_); refine xG (some 6) 64 Try.func64 #[.agg #[.slice A0_0 l0_0.length c0_0, .int .i64 a0_1]] (h := ?_); (with_reducible refine (spec_ArenaOk.calls k _ _ l0_0 a0_1 true _ ?side1 ?side2 A3.out).mono ?_); (case side1 => exact xC (Kd.C_below HR0_0.out HB.out)); (case side2 => exact HC0_0.out); rintro e w13 ⟨rfl, hb⟩; refine ⟨_, rfl, ?_⟩; replace BK214 := am (blk_below (xB BK214.out) hb); replace HB := am (below_step (xW HB.out) hb); (try clear hb); obtain ⟨hcz14_0, hcz14_1, hfz14_0, hfz14_1⟩ := xT2 (W := w13) BK214.out) | (go_at_call 61; (with_reducible refine (spec_l01In.calls a1 0 (wrap64 ((l0_0.length : Int) - 1)) true _ A5.out).mono ?_); rintro e w' ⟨rfl, ⟨nd, rfl⟩⟩; have p217 : 0 ≤ (a1 : Int) := of_decide_eq_true (by assumption); have q217 : a1 < (l0_0.length : Int) := of_decide_eq_true (by assumption); obtain ⟨ad217, e217, hx217_0, hx217_1, hx217_2, hx217_3, hx217_4⟩ := at_T50 HR0_0.out a1 p217 q217; (try rw [← Nbq9.out] at hx217_1); cases e217; replace hx217_0 := (HB.out.cell (World.block_lt_of_cell? w _ hx217_0)).trans hx217_0; replace hx217_1 := (HB.out.cell (World.block_lt_of_cell? w _ hx217_1)).trans hx217_1; replace hx217_2 := (HB.out.cell (World.block_lt_of_cell? w _ hx217_2)).trans hx217_2; replace hx217_3 := (HB.out.cell (World.block_lt_of_cell? w _ hx217_3)).trans hx217_3; replace hx217_4 := (HB.out.cell (World.block_lt_of_cell? w _ hx217_4)).trans hx217_4; replace p217 := eq_true p217; replace q217 := eq_true q217; have p218 : 0 ≤ (a1 : Int) := of_decide_eq_true (by assumption); have q218 : a1 < (l0_0.length : Int) := of_decide_eq_true (by assumption); obtain ⟨ad218, e218, hx218_0, hx218_1, hx218_2, hx218_3, hx218_4⟩ := at_T50 HR0_0.out a1 p218 q218; (try rw [← Nbq9.out] at hx218_1); obtain rfl : ad217 = ad218 := (by injection e218); replace hx218_0 := (HB.out.cell (World.block_lt_of_cell? w _ hx218_0)).trans hx218_0; replace hx218_1 := (HB.out.cell (World.block_lt_of_cell? w _ hx218_1)).trans hx218_1; replace hx218_2 := (HB.out.cell (World.block_lt_of_cell? w _ hx218_2)).trans hx218_2; replace hx218_3 := (HB.out.cell (World.block_lt_of_cell? w _ hx218_3)).trans hx218_3; replace hx218_4 := (HB.out.cell (World.block_lt_of_cell? w _ hx218_4)).trans hx218_4; replace p218 := eq_true p218; replace q218 := eq_true q218))
            go_ret
            exact ⟨xV, xW HB.out⟩
          · replace c10 := Bool.eq_false_iff.mpr c10
            subst c10
            have H1 : (some (-1)) = some r := by rw [if_neg (show ¬ (false = true) by decide)] at H; exact H
            clear H
            have H := H1
            clear H1
            obtain rfl := Option.some.inj H
            go_enter Try.func68, Try.ntmps68
            go_wp2_with (first | ((with_reducible refine gate_dst (N := 2) rfl ?_); (try (refine gate_guard (by rfl) ?_; dsimp only)); refine xE (N := 2) (cs := #[.slice A0_0 l0_0.length c0_0, .int .i64 a0_1]) (t := 42) (h := ?_); intro gb214 hg w15 hbox hb; have BK214 := am (hbox); have GW214 := am (xS hg HB.out); have GE214 := am (xS hg HB.out); replace HB := am (below_step (xW HB.out) hb); clear hb hbox hg; obtain ⟨hcz16_0, hcz16_1, hfz16_0, hfz16_1⟩ := xT2 (W := w15) BK214.out) | ((with_reducible refine gate_callee (f := 64) rfl ?_); refine xG (some 6) 64 Try.func64 #[.agg #[.slice A0_0 l0_0.length c0_0, .int .i64 a0_1]] (h := ?_); (with_reducible refine (spec_ArenaOk.calls k _ _ l0_0 a0_1 true _ ?side1 ?side2 A3.out).mono ?_); (case side1 => exact xC (Kd.C_below HR0_0.out HB.out)); (case side2 => exact HC0_0.out); rintro e w17 ⟨rfl, hb⟩; refine ⟨_, rfl, ?_⟩; replace BK214 := am (blk_below (xB BK214.out) hb); replace HB := am (below_step (xW HB.out) hb); (try clear hb); obtain ⟨hcz18_0, hcz18_1, hfz18_0, hfz18_1⟩ := xT2 (W := w17) BK214.out) | (go_at_call 61; (with_reducible refine (spec_l01In.calls a1 0 (wrap64 ((l0_0.length : Int) - 1)) true _ A5.out).mono ?_); rintro e w' ⟨rfl, ⟨nd, rfl⟩⟩; have p217 : 0 ≤ (a1 : Int) := of_decide_eq_true (by assumption); have q217 : a1 < (l0_0.length : Int) := of_decide_eq_true (by assumption); obtain ⟨ad217, e217, hx217_0, hx217_1, hx217_2, hx217_3, hx217_4⟩ := at_T50 HR0_0.out a1 p217 q217; (try rw [← Nbq9.out] at hx217_1); cases e217; replace hx217_0 := (HB.out.cell (World.block_lt_of_cell? w _ hx217_0)).trans hx217_0; replace hx217_1 := (HB.out.cell (World.block_lt_of_cell? w _ hx217_1)).trans hx217_1; replace hx217_2 := (HB.out.cell (World.block_lt_of_cell? w _ hx217_2)).trans hx217_2; replace hx217_3 := (HB.out.cell (World.block_lt_of_cell? w _ hx217_3)).trans hx217_3; replace hx217_4 := (HB.out.cell (World.block_lt_of_cell? w _ hx217_4)).trans hx217_4; replace p217 := eq_true p217; replace q217 := eq_true q217))
            go_ret
            exact ⟨xV, xW HB.out⟩
        · rw [if_neg c8] at H
          exact absurd H (by simp)
      · rw [if_neg c7] at H
        exact absurd H (by simp)
    · replace c6 := Bool.eq_false_iff.mpr c6
      subst c6
      have H1 : (some (-1)) = some r := by rw [if_neg (show ¬ (false = true) by decide)] at H; exact H
      clear H
      have H := H1
      clear H1
      obtain rfl := Option.some.inj H
      go_enter Try.func68, Try.ntmps68
      go_wp2_with (first | ((with_reducible refine gate_dst (N := 2) rfl ?_); (try (refine gate_guard (by rfl) ?_; dsimp only)); refine xE (N := 2) (cs := #[.slice A0_0 l0_0.length c0_0, .int .i64 a0_1]) (t := 42) (h := ?_); intro gb214 hg w19 hbox hb; have BK214 := am (hbox); have GW214 := am (xS hg HB.out); have GE214 := am (xS hg HB.out); replace HB := am (below_step (xW HB.out) hb); clear hb hbox hg; obtain ⟨hcz20_0, hcz20_1, hfz20_0, hfz20_1⟩ := xT2 (W := w19) BK214.out) | ((with_reducible refine gate_callee (f := 64) rfl ?_); refine xG (some 6) 64 Try.func64 #[.agg #[.slice A0_0 l0_0.length c0_0, .int .i64 a0_1]] (h := ?_); (with_reducible refine (spec_ArenaOk.calls k _ _ l0_0 a0_1 true _ ?side1 ?side2 A3.out).mono ?_); (case side1 => exact xC (Kd.C_below HR0_0.out HB.out)); (case side2 => exact HC0_0.out); rintro e w21 ⟨rfl, hb⟩; refine ⟨_, rfl, ?_⟩; replace BK214 := am (blk_below (xB BK214.out) hb); replace HB := am (below_step (xW HB.out) hb); (try clear hb); obtain ⟨hcz22_0, hcz22_1, hfz22_0, hfz22_1⟩ := xT2 (W := w21) BK214.out) | (go_at_call 61; (with_reducible refine (spec_l01In.calls a1 0 (wrap64 ((l0_0.length : Int) - 1)) false _ A5.out).mono ?_); rintro e w' ⟨rfl, ⟨nd, rfl⟩⟩))
      go_ret
      exact ⟨xV, xW HB.out⟩
  · replace c4 := Bool.eq_false_iff.mpr c4
    subst c4
    have H1 : (some (-1)) = some r := by rw [if_neg (show ¬ (false = true) by decide)] at H; exact H
    clear H
    have H := H1
    clear H1
    obtain rfl := Option.some.inj H
    go_enter Try.func68, Try.ntmps68
    go_wp2_with (first | ((with_reducible refine gate_dst (N := 2) rfl ?_); (try (refine gate_guard (by rfl) ?_; dsimp only)); refine xE (N := 2) (cs := #[.slice A0_0 l0_0.length c0_0, .int .i64 a0_1]) (t := 42) (h := ?_); intro gb214 hg w23 hbox hb; have BK214 := am (hbox); have GW214 := am (xS hg HB.out); have GE214 := am (xS hg HB.out); replace HB := am (below_step (xW HB.out) hb); clear hb hbox hg; obtain ⟨hcz24_0, hcz24_1, hfz24_0, hfz24_1⟩ := xT2 (W := w23) BK214.out) | ((with_reducible refine gate_callee (f := 64) rfl ?_); refine xG (some 6) 64 Try.func64 #[.agg #[.slice A0_0 l0_0.length c0_0, .int .i64 a0_1]] (h := ?_); (with_reducible refine (spec_ArenaOk.calls k _ _ l0_0 a0_1 false _ ?side1 ?side2 A3.out).mono ?_); (case side1 => exact xC (Kd.C_below HR0_0.out HB.out)); (case side2 => exact HC0_0.out); rintro e w25 ⟨rfl, hb⟩; refine ⟨_, rfl, ?_⟩; replace BK214 := am (blk_below (xB BK214.out) hb); replace HB := am (below_step (xW HB.out) hb); (try clear hb); ))
    go_ret
    exact ⟨xV, xW HB.out⟩

end Go.Proofs.Ytomcapflpephmaa.HFnHandles
