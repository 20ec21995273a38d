/- Contracts of functions that the law reaches: walked as the kit's print walks them, beside contracts proved by hand. -/
import Derived.Test.YtomcapflpephmaaHX
import Derived.Test.YtomcapflpephmaaHFnHandlesx0
import Derived.Test.YtomcapflpephmaaHFnHandlesx1
import Derived.Test.YtomcapflpephmaaHFnHandlesx2
import Derived.Test.YtomcapflpephmaaHFnHandlesx3
import Derived.Test.YtomcapflpephmaaHFnHandlesx5
import Derived.Test.YtomcapflpephmaaHFnHandlesx7
namespace Go.Proofs.Ytomcapflpephmaa.HFnHandles
open Go.RowKit Go.Proofs.YtomcapflpephmaaW.PrintWords Go.Proofs.YtomcapflpephmaaW.PrintLast Go.Proofs.YtomcapflpephmaaW.PrintMore
attribute [local go_sem] max2_int min2_int max_two min_two max_three min_three max_four min_four   -- for this text's walks alone
set_option linter.unusedVariables false
set_option linter.unusedSimpArgs false

/-! ### spec_DrawRightArena: function 19 -/
def spec_DrawRightArena.f (k : Nat) (l0 : List Int) : Option ((List (S50)) × Int × ByteArray × ByteArray) := (spec_l01New.f k l0).bind fun bt282 => ((spec_l03Arena.f k bt282.1 bt282.2.1 bt282.2.2).bind fun bt286 => ((spec_l03Key.f bt282.1 bt286.2.2.1 bt286.2.2.2).bind fun bt292 => ((spec_l03Val.f bt282.1 bt292.2.1 bt292.2.2).bind fun bt295 => (some (bt286.1, bt286.2.1, bt292.1, bt295.1)))))
theorem spec_DrawRightArena.mono : ∀ a0 k, LeO (spec_DrawRightArena.f k a0) (spec_DrawRightArena.f (k + 1) a0) := by
  intro a0 k
  unfold spec_DrawRightArena.f
  repeat' first | (with_reducible first | apply spec_l01New.mono | apply spec_l03Arena.mono | exact LeO.refl _ | exact LeO.none _ | refine LeO.ite ?_ ?_ | refine LeO.bind ?_ (fun _ => ?_))
set_option maxHeartbeats 8000000 in
set_option maxRecDepth 100000 in
theorem spec_DrawRightArena.calls (k : Nat) (A0 : Option Addr) (c0 : Nat) (l0 : List Int) (r1 : List (S50)) (r2 : Int) (r3 : ByteArray) (r4 : ByteArray) (w : World) (hr0 : Kd.C (Kd.int .u8) w A0 l0.length l0) (hc0 : l0.length ≤ c0) (h : spec_DrawRightArena.f k l0 = some (r1, r2, r3, r4)) :
    Calls Try.prog 19 #[.slice A0 l0.length c0] w fun e w' => ∃ v0_ : Value, e = .returned (.tuple #[.agg #[v0_, .int .i64 r2], .string r3, .string r4]) ∧ Kd.R k50 50 w' w.heap.size (fun _ => True) v0_ r1 ∧ Below w.heap.size w w' := by
  have hu42 := Try.underlying42
  have HR0 := am hr0
  have HC0 := am hc0
  clear hr0 hc0
  have HB := am (Below.refl w.heap.size w)
  have H : ((spec_l01New.f k l0).bind fun bt282 => ((spec_l03Arena.f k bt282.1 bt282.2.1 bt282.2.2).bind fun bt286 => ((spec_l03Key.f bt282.1 bt286.2.2.1 bt286.2.2.2).bind fun bt292 => ((spec_l03Val.f bt282.1 bt292.2.1 bt292.2.2).bind fun bt295 => (some (bt286.1, bt286.2.1, bt292.1, bt295.1)))))) = some (r1, r2, r3, r4) := h
  clear h
  replace H := Option.bind_eq_some_iff.mp H
  obtain ⟨⟨t282, t283, t284⟩, A20, H⟩ := H
  try dsimp only at H
  have A2 := am A20
  clear A20
  replace H := Option.bind_eq_some_iff.mp H
  obtain ⟨⟨t286, t289, t290, t291⟩, A30, H⟩ := H
  try dsimp only at H
  have A3 := am A30
  clear A30
  replace H := Option.bind_eq_some_iff.mp H
  obtain ⟨⟨t292, t293, t294⟩, A40, H⟩ := H
  try dsimp only at H
  have A4 := am A40
  clear A40
  replace H := Option.bind_eq_some_iff.mp H
  obtain ⟨⟨t295, t296, t297⟩, A50, H⟩ := H
  replace H : (some (t286, t289, t292, t295)) = some (r1, r2, r3, r4) := H
  have A5 := am A50
  clear A50
  simp only [Option.some.injEq, Prod.mk.injEq] at H
  obtain ⟨rfl, rfl, rfl, rfl⟩ := H
  go_enter Try.func19, Try.ntmps19
  go_wp2_with (first | ((with_reducible refine gate_dst (N := 2) rfl ?_); refine xE (N := 2) (cs := #[.slice none 0 0, .int .i64 0]) (t := 42) (h := ?_); intro gb281 hg w6 hbox hb; have BK281 := am (hbox); have GW281 := am (xS hg HB.out); have GE281 := am (xS hg HB.out); replace HB := am (below_step (xW HB.out) hb); clear hb hbox hg) | ((with_reducible refine gate_callee (f := 28) rfl ?_); refine xG (some 7) 28 Try.func28 #[.slice A0 l0.length c0] (h := ?_); (with_reducible refine (spec_l01New.calls k _ _ l0 t282 t283 t284 w _ ?side1 ?side2 ?side3 A2.out).mono ?_); (case side1 => exact xW HB.out); (case side2 => exact HR0.out); (case side3 => exact HC0.out); rintro e w7 ⟨g285, rfl, hi, hb, hb2⟩; refine ⟨_, rfl, ?_⟩; replace HB := am (hb); have HI285 := am (hi); have NB285_281 := am (IsS73.ne_blk hi (blk_below (xB BK281.out) hb2) (by decide)); have NB281_285 := am (Ne.symm (IsS73.ne_blk hi (blk_below (xB BK281.out) hb2) (by decide))); replace BK281 := am (blk_below (xB BK281.out) hb2); (try clear hb); (try clear hb2); (try clear hi)) | ((with_reducible refine gate_callee (f := 42) rfl ?_); refine xG (some 9) 42 Try.func42 #[.pointer (some ⟨g285, 0, none⟩)] (h := ?_); (with_reducible refine (spec_l03Arena.calls k g285 t282 t283 t284 t286 t289 t290 t291 w _ ?side1 ?side2 A3.out).mono ?_); (case side1 => exact xH73 HI285.out); (case side2 => exact xWI HB.out (IsS73.ge HI285.out)); rintro e w8 ⟨v287, rfl, ho0, hi, hb, hk⟩; refine ⟨_, rfl, ?_⟩; replace BK281 := am (KeepBut.blk hk (g' := gb281) (o := .cells #[.slice none 0 0, .int .i64 0] 42 (0, 0)) (xB BK281.out) NB281_285.out (by simp)); have HO288 := am (Kd.R_lower ho0 (below_size (xWI HB.out (IsS73.ge HI285.out)))); replace HB := am (hb); replace HI285 := am (hi); (try clear hb); (try clear hk); (try clear hi); (try clear ho0)) | ((with_reducible refine gate_callee (f := 30) rfl ?_); refine xG (some 11) 30 Try.func30 #[.pointer (some ⟨g285, 0, none⟩)] (h := ?_); (with_reducible refine (spec_l03Key.calls g285 t282 t290 t291 t292 t293 t294 w _ ?side1 ?side2 A4.out).mono ?_); (case side1 => exact xH73 HI285.out); (case side2 => exact xWI HB.out (IsS73.ge HI285.out)); rintro e w9 ⟨rfl, hi, hb, hk⟩; refine ⟨_, rfl, ?_⟩; replace BK281 := am (KeepBut.blk hk (g' := gb281) (o := .cells #[.slice none 0 0, .int .i64 0] 42 (0, 0)) (xB BK281.out) NB281_285.out (by simp)); replace HO288 := am (Kd.R_mono (Kd.R_keep (IsS73.apart (show IsS73 w _ g285 t282 t290 t291 from xH73 HI285.out) (xR HO288.out) (by decide)) hk (fun _ h => h.2)) (fun _ h => h.1)); replace HB := am (hb); replace HI285 := am (hi); (try clear hb); (try clear hk); (try clear hi)) | ((with_reducible refine gate_callee (f := 43) rfl ?_); refine xG (some 13) 43 Try.func43 #[.pointer (some ⟨g285, 0, none⟩)] (h := ?_); (with_reducible refine (spec_l03Val.calls g285 t282 t293 t294 t295 t296 t297 w _ ?side1 ?side2 A5.out).mono ?_); (case side1 => exact xH73 HI285.out); (case side2 => exact xWI HB.out (IsS73.ge HI285.out)); rintro e w10 ⟨rfl, hi, hb, hk⟩; refine ⟨_, rfl, ?_⟩; replace BK281 := am (KeepBut.blk hk (g' := gb281) (o := .cells #[.slice none 0 0, .int .i64 0] 42 (0, 0)) (xB BK281.out) NB281_285.out (by simp)); replace HO288 := am (Kd.R_mono (Kd.R_keep (IsS73.apart (show IsS73 w _ g285 t282 t293 t294 from xH73 HI285.out) (xR HO288.out) (by decide)) hk (fun _ h => h.2)) (fun _ h => h.1)); replace HB := am (hb); replace HI285 := am (hi); (try clear hb); (try clear hk); (try clear hi); obtain ⟨Ao11, co11, eo11⟩ := Kd.R_slice HO288.out; subst eo11; have hnb12 := NB281_285.out; have hnc12 := NB285_281.out; obtain ⟨hcz13_0, hcz13_1, hfz13_0, hfz13_1⟩ := xT2 (W := w10) BK281.out))
  refine bodyPost_ret (results_ctt rfl _ _ gb281 42 #[.slice Ao11 t286.length co11, .int .i64 t289] (0, 0) _ rfl (xP BK281.out) Try.underlying42 rfl (by kernel_rfl)) rfl ?_
  exact ⟨_, xV, by (with_reducible repeat (first | apply Kd.R_alloc | apply Kd.R_drewN | apply Kd.R_drew)); exact Kd.R_mono (Kd.R_far (p := ⟨gb281, 1, none⟩) (Kd.R_far (p := ⟨gb281, 0, none⟩) (Kd.R_types HO288.out BK281.out (by decide)) (fun _ hk => by first | exact hk.2 | (simp [hk])) (.slice Ao11 t286.length co11)) (fun _ hk => by first | exact hk.2 | (simp [hk])) (.int .i64 t289)) (fun _ hk => trivial), xWI HB.out (IsS73.ge HI285.out)⟩

/-! ### impl_HandleOf: function 20 -/
def impl_HandleOf.f (k : Nat) (l0_0 : List (S50)) (a0_1 : Int) (a1 : Int) : Option (Int) := (impl_inRange.f a1 0 (wrap64 ((l0_0.length : Int) - 1))).bind fun t299 => (if t299 = true then (if 0 ≤ a1 then (if a1 < (l0_0.length : Int) then (if ((rd_T50 l0_0 a1).f1 = true) then ((impl_ArenaOk.f k l0_0 a0_1).bind fun t301 => (if t301 = true then ((impl_Arena_handle.f l0_0 a0_1 a1).bind fun t302 => (some t302)) else (some (-1)))) else (some (-1))) else (none)) else (none)) else (some (-1)))
theorem impl_HandleOf.mono : ∀ a0 a1 a2 k, LeO (impl_HandleOf.f k a0 a1 a2) (impl_HandleOf.f (k + 1) a0 a1 a2) := by
  intro a0 a1 a2 k
  unfold impl_HandleOf.f
  repeat' first | (with_reducible first | apply impl_ArenaOk.mono | exact LeO.refl _ | exact LeO.none _ | refine LeO.ite ?_ ?_ | refine LeO.bind ?_ (fun _ => ?_))
set_option maxHeartbeats 8000000 in
set_option maxRecDepth 100000 in
theorem impl_HandleOf.calls (k : Nat) (A0_0 : Option Addr) (c0_0 : Nat) (l0_0 : List (S50)) (a0_1 : Int) (a1 : Int) (r : Int) (w : World) (hr0_0 : Kd.C k50 w A0_0 l0_0.length l0_0) (hc0_0 : l0_0.length ≤ c0_0) (h : impl_HandleOf.f k l0_0 a0_1 a1 = some r) :
    Calls Try.prog 20 #[.agg #[.slice A0_0 l0_0.length c0_0, .int .i64 a0_1], .int .i64 a1] w fun e w' => e = .returned (.int .i64 r) ∧ Below w.heap.size w w' := by
  have hu42 := Try.underlying42
  have HR0_0 := am hr0_0
  have HC0_0 := am hc0_0
  clear hr0_0 hc0_0
  have HB := am (Below.refl w.heap.size w)
  have H : ((impl_inRange.f a1 0 (wrap64 ((l0_0.length : Int) - 1))).bind fun t299 => (if t299 = true then (if 0 ≤ a1 then (if a1 < (l0_0.length : Int) then (if ((rd_T50 l0_0 a1).f1 = true) then ((impl_ArenaOk.f k l0_0 a0_1).bind fun t301 => (if t301 = true then ((impl_Arena_handle.f l0_0 a0_1 a1).bind fun t302 => (some t302)) else (some (-1)))) else (some (-1))) else (none)) else (none)) else (some (-1)))) = some r := h
  clear h
  replace H := Option.bind_eq_some_iff.mp H
  obtain ⟨t299, A30, H⟩ := H
  try dsimp only at H
  have A3 := am A30
  clear A30
  by_cases c4 : t299 = true
  · subst c4
    have H1 : (if 0 ≤ a1 then (if a1 < (l0_0.length : Int) then (if ((rd_T50 l0_0 a1).f1 = true) then ((impl_ArenaOk.f k l0_0 a0_1).bind fun t301 => (if t301 = true then ((impl_Arena_handle.f l0_0 a0_1 a1).bind fun t302 => (some t302)) else (some (-1)))) else (some (-1))) else (none)) else (none)) = some r := by rw [if_pos rfl] at H; exact H
    clear H
    have H := H1
    clear H1
    by_cases c5 : 0 ≤ a1
    · rw [if_pos c5] at H
      have c5b0 : decide (0 ≤ a1) = true := decide_eq_true c5
      clear c5
      by_cases c6 : a1 < (l0_0.length : Int)
      · rw [if_pos c6] at H
        have c6b0 : decide (a1 < (l0_0.length : Int)) = true := decide_eq_true c6
        clear c6
        obtain ⟨bq7, hbq7⟩ : ∃ b_ : Bool, b_ = ((rd_T50 l0_0 a1).f1) := ⟨_, rfl⟩
        replace H : (if (bq7 = true) then ((impl_ArenaOk.f k l0_0 a0_1).bind fun t301 => (if t301 = true then ((impl_Arena_handle.f l0_0 a0_1 a1).bind fun t302 => (some t302)) else (some (-1)))) else (some (-1))) = some r := by rw [← hbq7] at H; exact H
        have Nbq7 := am hbq7
        clear hbq7
        by_cases c8 : (bq7 = true)
        · subst c8
          have H1 : ((impl_ArenaOk.f k l0_0 a0_1).bind fun t301 => (if t301 = true then ((impl_Arena_handle.f l0_0 a0_1 a1).bind fun t302 => (some t302)) else (some (-1)))) = some r := by rw [if_pos rfl] at H; exact H
          clear H
          have H := H1
          clear H1
          replace H := Option.bind_eq_some_iff.mp H
          obtain ⟨t301, A90, H⟩ := H
          try dsimp only at H
          have A9 := am A90
          clear A90
          by_cases c10 : t301 = true
          · subst c10
            have H1 : ((impl_Arena_handle.f l0_0 a0_1 a1).bind fun t302 => (some t302)) = some r := by rw [if_pos rfl] at H; exact H
            clear H
            have H := H1
            clear H1
            replace H := Option.bind_eq_some_iff.mp H
            obtain ⟨t302, A110, H⟩ := H
            replace H : (some t302) = some r := H
            have A11 := am A110
            clear A110
            obtain rfl := Option.some.inj H
            go_enter Try.func20, Try.ntmps20
            go_wp2_with (first | ((with_reducible refine gate_dst (N := 2) rfl ?_); refine xE (N := 2) (cs := #[.slice A0_0 l0_0.length c0_0, .int .i64 a0_1]) (t := 42) (h := ?_); intro gb298 hg w12 hbox hb; have BK298 := am (hbox); have GW298 := am (xS hg HB.out); have GE298 := am (xS hg HB.out); replace HB := am (below_step (xW HB.out) hb); clear hb hbox hg; obtain ⟨hcz13_0, hcz13_1, hfz13_0, hfz13_1⟩ := xT2 (W := w12) BK298.out) | ((with_reducible refine gate_callee (f := 36) rfl ?_); refine xG (some 10) 36 Try.func36 #[.int .i64 a1, .int .i64 0, .int .i64 (wrap64 ((l0_0.length : Int) - 1))] (h := ?_); (with_reducible refine (impl_inRange.calls a1 0 (wrap64 ((l0_0.length : Int) - 1)) true _ A3.out).mono ?_); rintro e w' ⟨rfl, ⟨nd, rfl⟩⟩; refine ⟨_, rfl, ?_⟩; have p300 : 0 ≤ (a1 : Int) := of_decide_eq_true (by assumption); have q300 : a1 < (l0_0.length : Int) := of_decide_eq_true (by assumption); obtain ⟨ad300, e300, hx300_0, hx300_1, hx300_2, hx300_3, hx300_4⟩ := at_T50 HR0_0.out a1 p300 q300; (try rw [← Nbq7.out] at hx300_1); cases e300; replace hx300_0 := (HB.out.cell (World.block_lt_of_cell? w _ hx300_0)).trans hx300_0; replace hx300_1 := (HB.out.cell (World.block_lt_of_cell? w _ hx300_1)).trans hx300_1; replace hx300_2 := (HB.out.cell (World.block_lt_of_cell? w _ hx300_2)).trans hx300_2; replace hx300_3 := (HB.out.cell (World.block_lt_of_cell? w _ hx300_3)).trans hx300_3; replace hx300_4 := (HB.out.cell (World.block_lt_of_cell? w _ hx300_4)).trans hx300_4; replace p300 := eq_true p300; replace q300 := eq_true q300) | (go_at_call 23; (with_reducible refine (impl_ArenaOk.calls k _ _ l0_0 a0_1 true _ ?side1 ?side2 A9.out).mono ?_); (case side1 => exact xC (Kd.C_below HR0_0.out (xW HB.out))); (case side2 => exact HC0_0.out); rintro e w14 ⟨rfl, hb⟩; replace BK298 := am (blk_below (xB BK298.out) hb); replace HB := am (below_step (xW HB.out) hb); (try clear hb); obtain ⟨hcz15_0, hcz15_1, hfz15_0, hfz15_1⟩ := xT2 (W := w14) BK298.out) | ((with_reducible refine gate_callee (f := 44) rfl ?_); refine xG (some 28) 44 Try.func44 #[.agg #[.slice (some ad300) l0_0.length c0_0, .int .i64 a0_1], .int .i64 a1] (h := ?_); (with_reducible refine (impl_Arena_handle.calls _ _ l0_0 a0_1 a1 t302 _ ?side1 ?side2 A11.out).mono ?_); (case side1 => exact xC (Kd.C_below HR0_0.out HB.out)); (case side2 => exact HC0_0.out); rintro e w16 ⟨rfl, hb⟩; refine ⟨_, rfl, ?_⟩; replace BK298 := am (blk_below (xB BK298.out) hb); replace HB := am (below_step (xW HB.out) hb); (try clear hb); ))
            go_ret
            exact ⟨xV, xW HB.out⟩
          · replace c10 := Bool.eq_false_iff.mpr c10
            subst c10
            have H1 : (some (-1)) = some r := by rw [if_neg (show ¬ (false = true) by decide)] at H; exact H
            clear H
            have H := H1
            clear H1
            obtain rfl := Option.some.inj H
            go_enter Try.func20, Try.ntmps20
            go_wp2_with (first | ((with_reducible refine gate_dst (N := 2) rfl ?_); refine xE (N := 2) (cs := #[.slice A0_0 l0_0.length c0_0, .int .i64 a0_1]) (t := 42) (h := ?_); intro gb298 hg w17 hbox hb; have BK298 := am (hbox); have GW298 := am (xS hg HB.out); have GE298 := am (xS hg HB.out); replace HB := am (below_step (xW HB.out) hb); clear hb hbox hg; obtain ⟨hcz18_0, hcz18_1, hfz18_0, hfz18_1⟩ := xT2 (W := w17) BK298.out) | ((with_reducible refine gate_callee (f := 36) rfl ?_); refine xG (some 10) 36 Try.func36 #[.int .i64 a1, .int .i64 0, .int .i64 (wrap64 ((l0_0.length : Int) - 1))] (h := ?_); (with_reducible refine (impl_inRange.calls a1 0 (wrap64 ((l0_0.length : Int) - 1)) true _ A3.out).mono ?_); rintro e w' ⟨rfl, ⟨nd, rfl⟩⟩; refine ⟨_, rfl, ?_⟩; have p300 : 0 ≤ (a1 : Int) := of_decide_eq_true (by assumption); have q300 : a1 < (l0_0.length : Int) := of_decide_eq_true (by assumption); obtain ⟨ad300, e300, hx300_0, hx300_1, hx300_2, hx300_3, hx300_4⟩ := at_T50 HR0_0.out a1 p300 q300; (try rw [← Nbq7.out] at hx300_1); cases e300; replace hx300_0 := (HB.out.cell (World.block_lt_of_cell? w _ hx300_0)).trans hx300_0; replace hx300_1 := (HB.out.cell (World.block_lt_of_cell? w _ hx300_1)).trans hx300_1; replace hx300_2 := (HB.out.cell (World.block_lt_of_cell? w _ hx300_2)).trans hx300_2; replace hx300_3 := (HB.out.cell (World.block_lt_of_cell? w _ hx300_3)).trans hx300_3; replace hx300_4 := (HB.out.cell (World.block_lt_of_cell? w _ hx300_4)).trans hx300_4; replace p300 := eq_true p300; replace q300 := eq_true q300) | (go_at_call 23; (with_reducible refine (impl_ArenaOk.calls k _ _ l0_0 a0_1 false _ ?side1 ?side2 A9.out).mono ?_); (case side1 => exact xC (Kd.C_below HR0_0.out (xW HB.out))); (case side2 => exact HC0_0.out); rintro e w19 ⟨rfl, hb⟩; replace BK298 := am (blk_below (xB BK298.out) hb); replace HB := am (below_step (xW HB.out) hb); (try clear hb); ))
            go_ret
            exact ⟨xV, xW HB.out⟩
        · replace c8 := Bool.eq_false_iff.mpr c8
          subst c8
          have H1 : (some (-1)) = some r := by rw [if_neg (show ¬ (false = true) by decide)] at H; exact H
          clear H
          have H := H1
          clear H1
          obtain rfl := Option.some.inj H
          go_enter Try.func20, Try.ntmps20
          go_wp2_with (first | ((with_reducible refine gate_dst (N := 2) rfl ?_); refine xE (N := 2) (cs := #[.slice A0_0 l0_0.length c0_0, .int .i64 a0_1]) (t := 42) (h := ?_); intro gb298 hg w20 hbox hb; have BK298 := am (hbox); have GW298 := am (xS hg HB.out); have GE298 := am (xS hg HB.out); replace HB := am (below_step (xW HB.out) hb); clear hb hbox hg; obtain ⟨hcz21_0, hcz21_1, hfz21_0, hfz21_1⟩ := xT2 (W := w20) BK298.out) | ((with_reducible refine gate_callee (f := 36) rfl ?_); refine xG (some 10) 36 Try.func36 #[.int .i64 a1, .int .i64 0, .int .i64 (wrap64 ((l0_0.length : Int) - 1))] (h := ?_); (with_reducible refine (impl_inRange.calls a1 0 (wrap64 ((l0_0.length : Int) - 1)) true _ A3.out).mono ?_); rintro e w' ⟨rfl, ⟨nd, rfl⟩⟩; refine ⟨_, rfl, ?_⟩; have p300 : 0 ≤ (a1 : Int) := of_decide_eq_true (by assumption); have q300 : a1 < (l0_0.length : Int) := of_decide_eq_true (by assumption); obtain ⟨ad300, e300, hx300_0, hx300_1, hx300_2, hx300_3, hx300_4⟩ := at_T50 HR0_0.out a1 p300 q300; (try rw [← Nbq7.out] at hx300_1); cases e300; replace hx300_0 := (HB.out.cell (World.block_lt_of_cell? w _ hx300_0)).trans hx300_0; replace hx300_1 := (HB.out.cell (World.block_lt_of_cell? w _ hx300_1)).trans hx300_1; replace hx300_2 := (HB.out.cell (World.block_lt_of_cell? w _ hx300_2)).trans hx300_2; replace hx300_3 := (HB.out.cell (World.block_lt_of_cell? w _ hx300_3)).trans hx300_3; replace hx300_4 := (HB.out.cell (World.block_lt_of_cell? w _ hx300_4)).trans hx300_4; replace p300 := eq_true p300; replace q300 := eq_true q300))
          go_ret
          exact ⟨xV, xW HB.out⟩
      · rw [if_neg c6] at H
        exact absurd H (by simp)
    · rw [if_neg c5] at H
      exact absurd H (by simp)
  · replace c4 := Bool.eq_false_iff.mpr c4
    subst c4
    have H1 : (some (-1)) = some r := by rw [if_neg (show ¬ (false = true) by decide)] at H; exact H
    clear H
    have H := H1
    clear H1
    obtain rfl := Option.some.inj H
    go_enter Try.func20, Try.ntmps20
    go_wp2_with (first | ((with_reducible refine gate_dst (N := 2) rfl ?_); refine xE (N := 2) (cs := #[.slice A0_0 l0_0.length c0_0, .int .i64 a0_1]) (t := 42) (h := ?_); intro gb298 hg w22 hbox hb; have BK298 := am (hbox); have GW298 := am (xS hg HB.out); have GE298 := am (xS hg HB.out); replace HB := am (below_step (xW HB.out) hb); clear hb hbox hg; obtain ⟨hcz23_0, hcz23_1, hfz23_0, hfz23_1⟩ := xT2 (W := w22) BK298.out) | ((with_reducible refine gate_callee (f := 36) rfl ?_); refine xG (some 10) 36 Try.func36 #[.int .i64 a1, .int .i64 0, .int .i64 (wrap64 ((l0_0.length : Int) - 1))] (h := ?_); (with_reducible refine (impl_inRange.calls a1 0 (wrap64 ((l0_0.length : Int) - 1)) false _ A3.out).mono ?_); rintro e w' ⟨rfl, ⟨nd, rfl⟩⟩; refine ⟨_, rfl, ?_⟩))
    go_ret
    exact ⟨xV, xW HB.out⟩

/-! ### laws_in: function 21 -/
def laws_in.l0 : Nat → List Int → Int → Int → Option (Bool)
  | 0, _, _, _ => none
  | k + 1, x0, x1, x5 => if x5 < (x0.length : Int) then (if 0 ≤ x5 then (if (rd x0 x5) = x1 then (some true) else (laws_in.l0 k x0 x1 (wrap64 (x5 + 1)))) else (none)) else (some false)
def laws_in.f (k : Nat) (l0 : List Int) (a1 : Int) : Option (Bool) := laws_in.l0 k l0 a1 0
theorem laws_in.mono_l : ∀ k, (∀ y0 y1 y2, LeO (laws_in.l0 k y0 y1 y2) (laws_in.l0 (k + 1) y0 y1 y2))
  | 0 => fun _ _ _ r h => by simp [laws_in.l0] at h
  | k + 1 => by
    have ih0 := laws_in.mono_l k
    · intro y0 y1 y2
      unfold laws_in.l0
      repeat' first | (with_reducible first | apply ih0 | exact LeO.refl _ | exact LeO.none _ | refine LeO.ite ?_ ?_ | refine LeO.bind ?_ (fun _ => ?_))
theorem laws_in.mono : ∀ a0 a1 k, LeO (laws_in.f k a0 a1) (laws_in.f (k + 1) a0 a1) := by
  intro a0 a1 k
  have ih0 := laws_in.mono_l k
  unfold laws_in.f
  repeat' first | (with_reducible first | apply ih0 | exact LeO.refl _ | exact LeO.none _ | refine LeO.ite ?_ ?_ | refine LeO.bind ?_ (fun _ => ?_))
set_option maxHeartbeats 8000000 in
set_option maxRecDepth 100000 in
theorem laws_in.calls (k : Nat) (A0 : Option Addr) (c0 : Nat) (l0 : List Int) (a1 : Int) (r : Bool) (w : World) (hr0 : Kd.C (Kd.int .i64) w A0 l0.length l0) (hc0 : l0.length ≤ c0) (h : laws_in.f k l0 a1 = some r) :
    Calls Try.prog 21 #[.slice A0 l0.length c0, .int .i64 a1] w fun e w' => e = .returned (.bool r) ∧ Drawn0 w w' := by
  have HR0 := am hr0
  have HC0 := am hc0
  clear hr0 hc0
  have H : (laws_in.l0 k l0 a1 0) = some r := h
  clear h
  have H' := am H
  clear H
  go_enter Try.func21, Try.ntmps21
  go_wp2
  go_loopg [5] k (fun kq v5 w' => ∃ (x5_1 : Int), v5 = .int .i64 x5_1 ∧ Aside0 (laws_in.l0 kq l0 a1 x5_1 = some r) ∧ Aside0 (kq ≤ k) ∧ Drawn0 w w')
  case atStart => exact ⟨(0), (xQ), H', ⟨Nat.le_refl _⟩, by repeat (first | exact Drawn0.refl _ | apply Drawn0.step)⟩
  case round =>
    clear H'
    try clear c2
    try clear p2
    obtain ⟨x5_1, rfl, HA, HK1, ⟨m1, rfl⟩⟩ := hrel
    cases gk with
    | zero => exact absurd HA.out (by simp [laws_in.l0])
    | succ k1 =>
      have H := HA.out
      clear HA
      simp only [laws_in.l0] at H
      by_cases c3 : x5_1 < (l0.length : Int)
      · rw [if_pos c3] at H
        have c3b0 : decide (x5_1 < (l0.length : Int)) = true := decide_eq_true c3
        clear c3
        by_cases c4 : 0 ≤ x5_1
        · rw [if_pos c4] at H
          have c4b0 : decide (0 ≤ x5_1) = true := decide_eq_true c4
          clear c4
          by_cases c5 : (rd l0 x5_1) = a1
          · rw [if_pos c5] at H
            have c5b0 : ((rd l0 x5_1) == a1) = true := beq_iff_eq.mpr c5
            have c5b1 : ((rd l0 x5_1) != a1) = false := bne_eq_false_iff_eq.mpr c5
            clear c5
            obtain rfl := Option.some.inj H
            have p303 : 0 ≤ (x5_1 : Int) := of_decide_eq_true (by assumption)
            have q303 : x5_1 < (l0.length : Int) := of_decide_eq_true (by assumption)
            obtain ⟨ad303, e303, hx303_0⟩ := Kd.at_int HR0.out x5_1 p303 q303
            cases e303
            replace p303 := eq_true p303
            replace q303 := eq_true q303
            go_wp2
            go_ret
            exact ⟨by first | rfl | (simp; done) | (simp [*]; done), by repeat (first | exact Drawn0.refl _ | apply Drawn0.step)⟩
          · rw [if_neg c5] at H
            have c5b0 : ((rd l0 x5_1) == a1) = false := beq_eq_false_iff_ne.mpr c5
            have c5b1 : ((rd l0 x5_1) != a1) = true := bne_iff_ne.mpr c5
            have H' := am H
            clear H
            have p303 : 0 ≤ (x5_1 : Int) := of_decide_eq_true (by assumption)
            have q303 : x5_1 < (l0.length : Int) := of_decide_eq_true (by assumption)
            obtain ⟨ad303, e303, hx303_0⟩ := Kd.at_int HR0.out x5_1 p303 q303
            cases e303
            replace p303 := eq_true p303
            replace q303 := eq_true q303
            go_wp2
            go_roundg k1
            case measure => have := HK1.out; omega
            case rel => exact ⟨(wrap64 (x5_1 + 1)), (xQ), H', ⟨by have := HK1.out; omega⟩, by repeat (first | exact Drawn0.refl _ | apply Drawn0.step)⟩
        · rw [if_neg c4] at H
          exact absurd H (by simp)
      · rw [if_neg c3] at H
        have c3b0 : decide (x5_1 < (l0.length : Int)) = false := decide_eq_false c3
        clear c3
        obtain rfl := Option.some.inj H
        go_wp2
        go_ret
        exact ⟨by first | rfl | (simp; done) | (simp [*]; done), by repeat (first | exact Drawn0.refl _ | apply Drawn0.step)⟩

/-! ### impl_UsedOf: function 22 -/
def impl_UsedOf.f (k : Nat) (l0_0 : List (S50)) (a0_1 : Int) : Option (Int) := (impl_ArenaOk.f k l0_0 a0_1).bind fun t305 => (if t305 = true then ((impl_Arena_used.f k l0_0 a0_1).bind fun t306 => (some t306)) else (some 0))
theorem impl_UsedOf.mono : ∀ a0 a1 k, LeO (impl_UsedOf.f k a0 a1) (impl_UsedOf.f (k + 1) a0 a1) := by
  intro a0 a1 k
  unfold impl_UsedOf.f
  repeat' first | (with_reducible first | apply impl_ArenaOk.mono | apply impl_Arena_used.mono | exact LeO.refl _ | exact LeO.none _ | refine LeO.ite ?_ ?_ | refine LeO.bind ?_ (fun _ => ?_))
set_option maxHeartbeats 8000000 in
set_option maxRecDepth 100000 in
theorem impl_UsedOf.calls (k : Nat) (A0_0 : Option Addr) (c0_0 : Nat) (l0_0 : List (S50)) (a0_1 : Int) (r : Int) (w : World) (hr0_0 : Kd.C k50 w A0_0 l0_0.length l0_0) (hc0_0 : l0_0.length ≤ c0_0) (h : impl_UsedOf.f k l0_0 a0_1 = some r) :
    Calls Try.prog 22 #[.agg #[.slice A0_0 l0_0.length c0_0, .int .i64 a0_1]] w fun e w' => e = .returned (.int .i64 r) ∧ Below w.heap.size w w' := by
  have hu42 := Try.underlying42
  have HR0_0 := am hr0_0
  have HC0_0 := am hc0_0
  clear hr0_0 hc0_0
  have HB := am (Below.refl w.heap.size w)
  have H : ((impl_ArenaOk.f k l0_0 a0_1).bind fun t305 => (if t305 = true then ((impl_Arena_used.f k l0_0 a0_1).bind fun t306 => (some t306)) else (some 0))) = some r := h
  clear h
  replace H := Option.bind_eq_some_iff.mp H
  obtain ⟨t305, A20, H⟩ := H
  try dsimp only at H
  have A2 := am A20
  clear A20
  by_cases c3 : t305 = true
  · subst c3
    have H1 : ((impl_Arena_used.f k l0_0 a0_1).bind fun t306 => (some t306)) = some r := by rw [if_pos rfl] at H; exact H
    clear H
    have H := H1
    clear H1
    replace H := Option.bind_eq_some_iff.mp H
    obtain ⟨t306, A40, H⟩ := H
    replace H : (some t306) = some r := H
    have A4 := am A40
    clear A40
    obtain rfl := Option.some.inj H
    go_enter Try.func22, Try.ntmps22
    go_wp2_with (first | ((with_reducible refine gate_dst (N := 1) rfl ?_); refine xE (N := 1) (cs := #[.slice A0_0 l0_0.length c0_0, .int .i64 a0_1]) (t := 42) (h := ?_); intro gb304 hg w5 hbox hb; have BK304 := am (hbox); have GW304 := am (xS hg HB.out); have GE304 := am (xS hg HB.out); replace HB := am (below_step (xW HB.out) hb); clear hb hbox hg; obtain ⟨hcz6_0, hcz6_1, hfz6_0, hfz6_1⟩ := xT2 (W := w5) BK304.out) | ((with_reducible refine gate_callee (f := 23) rfl ?_); refine xG (some 4) 23 Try.func23 #[.agg #[.slice A0_0 l0_0.length c0_0, .int .i64 a0_1]] (h := ?_); (with_reducible refine (impl_ArenaOk.calls k _ _ l0_0 a0_1 true _ ?side1 ?side2 A2.out).mono ?_); (case side1 => exact xC (Kd.C_below HR0_0.out HB.out)); (case side2 => exact HC0_0.out); rintro e w7 ⟨rfl, hb⟩; refine ⟨_, rfl, ?_⟩; replace BK304 := am (blk_below (xB BK304.out) hb); replace HB := am (below_step (xW HB.out) hb); (try clear hb); obtain ⟨hcz8_0, hcz8_1, hfz8_0, hfz8_1⟩ := xT2 (W := w7) BK304.out) | ((with_reducible refine gate_callee (f := 45) rfl ?_); refine xG (some 7) 45 Try.func45 #[.agg #[.slice A0_0 l0_0.length c0_0, .int .i64 a0_1]] (h := ?_); (with_reducible refine (impl_Arena_used.calls k _ _ l0_0 a0_1 t306 _ ?side1 ?side2 A4.out).mono ?_); (case side1 => exact xC (Kd.C_below HR0_0.out HB.out)); (case side2 => exact HC0_0.out); rintro e w9 ⟨rfl, hb⟩; refine ⟨_, rfl, ?_⟩; replace BK304 := am (blk_below (xB BK304.out) hb); replace HB := am (below_step (xW HB.out) hb); (try clear hb); ))
    go_ret
    exact ⟨xV, xW HB.out⟩
  · replace c3 := Bool.eq_false_iff.mpr c3
    subst c3
    have H1 : (some 0) = some r := by rw [if_neg (show ¬ (false = true) by decide)] at H; exact H
    clear H
    have H := H1
    clear H1
    obtain rfl := Option.some.inj H
    go_enter Try.func22, Try.ntmps22
    go_wp2_with (first | ((with_reducible refine gate_dst (N := 1) rfl ?_); refine xE (N := 1) (cs := #[.slice A0_0 l0_0.length c0_0, .int .i64 a0_1]) (t := 42) (h := ?_); intro gb304 hg w10 hbox hb; have BK304 := am (hbox); have GW304 := am (xS hg HB.out); have GE304 := am (xS hg HB.out); replace HB := am (below_step (xW HB.out) hb); clear hb hbox hg; obtain ⟨hcz11_0, hcz11_1, hfz11_0, hfz11_1⟩ := xT2 (W := w10) BK304.out) | ((with_reducible refine gate_callee (f := 23) rfl ?_); refine xG (some 4) 23 Try.func23 #[.agg #[.slice A0_0 l0_0.length c0_0, .int .i64 a0_1]] (h := ?_); (with_reducible refine (impl_ArenaOk.calls k _ _ l0_0 a0_1 false _ ?side1 ?side2 A2.out).mono ?_); (case side1 => exact xC (Kd.C_below HR0_0.out HB.out)); (case side2 => exact HC0_0.out); rintro e w12 ⟨rfl, hb⟩; refine ⟨_, rfl, ?_⟩; replace BK304 := am (blk_below (xB BK304.out) hb); replace HB := am (below_step (xW HB.out) hb); (try clear hb); ))
    go_ret
    exact ⟨xV, xW HB.out⟩

/-! ### laws_FnHandles: function 5 -/
def laws_FnHandles.l0 : Nat → List Int → Int → List (S50) → Int → Option (Bool)
  | 0, _, _, _, _ => none
  | k + 1, x6, x7, x315000, x315001 => if x7 < (x315000.length : Int) then ((impl_HandleOf.f k x315000 x315001 x7).bind fun t318 => (if 0 ≤ x7 then (if (((rd_T50 x315000 x7).f1) != (decide (t318 ≥ 0))) = true then (some false) else (if t318 < 0 then (laws_FnHandles.l0 k x6 (wrap64 (x7 + 1)) x315000 x315001) else ((impl_Look.f k x315000 x315001 t318).bind fun bt320 => (if bt320.2.2 = true then (if bt320.1.toList = ((rd_T50 x315000 x7).f2).toList then (if bt320.2.1.toList = ((rd_T50 x315000 x7).f3).toList then ((laws_in.f k x6 t318).bind fun t325 => (if t325 = true then (some false) else (if x6.length < 17592186044416 then (laws_FnHandles.l0 k (x6 ++ [t318]) (wrap64 (x7 + 1)) x315000 x315001) else (none)))) else (some false)) else (some false)) else (some false))))) else (none))) else ((impl_Look.f k x315000 x315001 (-1)).bind fun bt329 => ((impl_UsedOf.f k x315000 x315001).bind fun t332 => (if (x6.length : Int) = t332 then (if bt329.2.2 = true then (some false) else ((impl_ArenaOk.f k x315000 x315001).bind fun t333 => (if t333 = true then ((impl_HandleOf.f k x315000 x315001 (x315000.length : Int)).bind fun t334 => (some (t334 == (-1)))) else (some false)))) else (some false))))
def laws_FnHandles.f (k : Nat) (l0 : List Int) : Option (Bool) := (laws_big.f l0).bind fun t307 => (if t307 = true then (some true) else ((spec_DrawRightArena.f k l0).bind fun bt308 => (laws_FnHandles.l0 k (([] : List Int)) 0 bt308.1 bt308.2.1)))
theorem laws_FnHandles.mono_l : ∀ k, (∀ y0 y1 y2 y3, LeO (laws_FnHandles.l0 k y0 y1 y2 y3) (laws_FnHandles.l0 (k + 1) y0 y1 y2 y3))
  | 0 => fun _ _ _ _ r h => by simp [laws_FnHandles.l0] at h
  | k + 1 => by
    have ih0 := laws_FnHandles.mono_l k
    · intro y0 y1 y2 y3
      unfold laws_FnHandles.l0
      repeat' first | (with_reducible first | apply ih0 | apply impl_ArenaOk.mono | apply impl_HandleOf.mono | apply impl_Look.mono | apply impl_UsedOf.mono | apply laws_in.mono | apply spec_DrawRightArena.mono | exact LeO.refl _ | exact LeO.none _ | refine LeO.ite ?_ ?_ | refine LeO.bind ?_ (fun _ => ?_))
theorem laws_FnHandles.mono : ∀ a0 k, LeO (laws_FnHandles.f k a0) (laws_FnHandles.f (k + 1) a0) := by
  intro a0 k
  have ih0 := laws_FnHandles.mono_l k
  unfold laws_FnHandles.f
  repeat' first | (with_reducible first | apply ih0 | apply impl_ArenaOk.mono | apply impl_HandleOf.mono | apply impl_Look.mono | apply impl_UsedOf.mono | apply laws_in.mono | apply spec_DrawRightArena.mono | exact LeO.refl _ | exact LeO.none _ | refine LeO.ite ?_ ?_ | refine LeO.bind ?_ (fun _ => ?_))
set_option maxHeartbeats 8000000 in
set_option maxRecDepth 100000 in
theorem laws_FnHandles.calls (k : Nat) (A0 : Option Addr) (c0 : Nat) (l0 : List Int) (r : Bool) (w : World) (hr0 : Kd.C (Kd.int .u8) w A0 l0.length l0) (hc0 : l0.length ≤ c0) (h : laws_FnHandles.f k l0 = some r) :
    Calls Try.prog 5 #[.slice A0 l0.length c0] w fun e w' => e = .returned (.bool r) ∧ Below w.heap.size w w' := by
  have hu42 := Try.underlying42
  have HR0 := am hr0
  have HC0 := am hc0
  clear hr0 hc0
  have HB := am (Below.refl w.heap.size w)
  have H : ((laws_big.f l0).bind fun t307 => (if t307 = true then (some true) else ((spec_DrawRightArena.f k l0).bind fun bt308 => (laws_FnHandles.l0 k (([] : List Int)) 0 bt308.1 bt308.2.1)))) = some r := h
  clear h
  replace H := Option.bind_eq_some_iff.mp H
  obtain ⟨t307, A20, H⟩ := H
  try dsimp only at H
  have A2 := am A20
  clear A20
  by_cases c3 : t307 = true
  · subst c3
    have H1 : (some true) = some r := by rw [if_pos rfl] at H; exact H
    clear H
    have H := H1
    clear H1
    obtain rfl := Option.some.inj H
    go_enter Try.func5, Try.ntmps5
    go_wp2_with (first | ((with_reducible refine gate_callee (f := 7) rfl ?_); refine xG (some 16) 7 Try.func7 #[.slice A0 l0.length c0] (h := ?_); (with_reducible refine (laws_big.calls _ _ l0 true _ ?side1 ?side2 A2.out).mono ?_); (case side1 => exact xC (HR0.out)); (case side2 => exact HC0.out); rintro e w' ⟨rfl, ⟨nd, rfl⟩⟩; refine ⟨_, rfl, ?_⟩))
    go_ret
    exact ⟨xV, xW HB.out⟩
  · replace c3 := Bool.eq_false_iff.mpr c3
    subst c3
    have H1 : ((spec_DrawRightArena.f k l0).bind fun bt308 => (laws_FnHandles.l0 k (([] : List Int)) 0 bt308.1 bt308.2.1)) = some r := by rw [if_neg (show ¬ (false = true) by decide)] at H; exact H
    clear H
    have H := H1
    clear H1
    replace H := Option.bind_eq_some_iff.mp H
    obtain ⟨⟨t308, t311, t312, t313⟩, A40, H⟩ := H
    try dsimp only at H
    have A4 := am A40
    clear A40
    obtain ⟨y315, hy315⟩ : ∃ y_ : List Int, y_ = (([] : List Int)) := ⟨_, rfl⟩
    replace H : (laws_FnHandles.l0 k y315 0 t308 t311) = some r := by first | (rw [hy315]; with_reducible exact H) | (have H2_ := (Option.bind_some _ _).symm.trans H; rw [hy315]; with_reducible exact H2_) | (have H2_ := (Option.bind_some _ _).symm.trans H; with_reducible exact H2_) | with_reducible exact H | (rw [hy315]; exact H) | exact H
    have Ny315 := am hy315
    clear hy315
    have H' := am H
    clear H
    go_enter Try.func5, Try.ntmps5
    go_wp2_with (first | ((with_reducible refine gate_callee (f := 7) rfl ?_); refine xG (some 16) 7 Try.func7 #[.slice A0 l0.length c0] (h := ?_); (with_reducible refine (laws_big.calls _ _ l0 false _ ?side1 ?side2 A2.out).mono ?_); (case side1 => exact xC (HR0.out)); (case side2 => exact HC0.out); rintro e w' ⟨rfl, ⟨nd, rfl⟩⟩; refine ⟨_, rfl, ?_⟩) | ((with_reducible refine gate_callee (f := 19) rfl ?_); refine xG (some 19) 19 Try.func19 #[.slice A0 l0.length c0] (h := ?_); (with_reducible refine (spec_DrawRightArena.calls k _ _ l0 t308 t311 t312 t313 _ ?side1 ?side2 A4.out).mono ?_); (case side1 => exact xC (HR0.out)); (case side2 => exact HC0.out); rintro e w5 ⟨v309, rfl, ho0, hb⟩; refine ⟨_, rfl, ?_⟩; have HO310 := am (Kd.R_lower ho0 (below_size (xW HB.out))); replace HB := am (below_step (xW HB.out) hb); (try clear hb); (try clear ho0)) | ((with_reducible refine gate_dst (N := 3) rfl ?_); (try (refine gate_guard (by rfl) ?_; dsimp only)); refine xE (N := 3) (cs := #[.slice none 0 0, .int .i64 0]) (t := 42) (h := ?_); intro gb314 hg w6 hbox hb; replace HO310 := am (Kd.R_below (xR HO310.out) hb); have BK314 := am (hbox); have GW314 := am (xS hg HB.out); have GE314 := am (xS hg HB.out); replace HB := am (below_step (xW HB.out) hb); clear hb hbox hg; obtain ⟨Ao7, co7, eo7⟩ := Kd.R_slice HO310.out; subst eo7; obtain ⟨hcz8_0, hcz8_1, hfz8_0, hfz8_1⟩ := xT2 (W := w6) BK314.out) | ((with_reducible refine gate_dst (N := 23) rfl ?_); (try (refine gate_guard (by rfl) ?_; dsimp only)); refine Kd.R_lit (Kd.int .i64) _ 3 ?hg (N := 23) ?hd (xs := ([] : List Int)) (inner := []) (ok := fun _ => True) (okp := fun _ => True) ?hr ?hp (fun _ hk => by first | exact hk | (simp [hk])) trivial (Below.refl _ _) (Nat.le_refl _) (by simp) ?_; (case hd => rfl); (case hg => rfl); (case hr => first | (go_simp; done) | (go_simp; rfl)); (case hp => exact (Reps.none _ _)); intro v316 w9 ho10 hb hg_ hnew_; clear hg_ hnew_; (first | rw [← Ny315.out] at ho10 | (simp only [Int.reduceToNat] at ho10; rw [← Ny315.out] at ho10)); replace HO310 := am (Kd.R_below (by (with_reducible repeat (first | apply Kd.R_alloc | apply Kd.R_drewN | apply Kd.R_drew)); exact (Kd.R_mono (Kd.R_far (p := ⟨gb314, 1, none⟩) (Kd.R_far (p := ⟨gb314, 0, none⟩) (Kd.R_types HO310.out BK314.out (by decide)) (fun _ hk => by first | exact hk.2 | (simp [hk])) (.slice Ao7 t308.length co7)) (fun _ hk => by first | exact hk.2 | (simp [hk])) (.int .i64 t311)) (fun _ h_ => h_.1))) hb); have HO317 := am (Kd.R_lower ho10 (below_size (xW HB.out))); replace BK314 := am (blk_below (xP BK314.out) hb); replace HB := am (below_step (xW HB.out) hb); clear hb ho10))
    go_loopg [6, 7] k (fun kq v6 v7 w' => ∃ (x6_1 : List Int) (x7_1 : Int), v7 = .int .i64 x7_1 ∧ Aside0 (laws_FnHandles.l0 kq x6_1 x7_1 t308 t311 = some r) ∧ Aside0 (kq ≤ k) ∧ Aside0 (Kd.R (Kd.int .i64) 3 w' w.heap.size (fun _ => True) v6 x6_1) ∧ Aside0 (Kd.R k50 50 w' w.heap.size (fun _ => True) (.slice Ao7 t308.length co7) t308) ∧ Aside0 (w'.heap[gb314]? = some (.cells #[(.slice Ao7 t308.length co7), .int .i64 t311] 42 (0, 0))) ∧ Aside0 (Below w.heap.size w w'))
    case atStart => exact ⟨(y315), (0), (xQ), H', ⟨Nat.le_refl _⟩, ⟨xR HO317.out⟩, ⟨xR HO310.out⟩, ⟨xB BK314.out⟩, ⟨xW HB.out⟩⟩
    case round =>
      clear H'
      try clear c1
      try clear p2
      try clear c3
      try clear c5
      try clear c7
      try clear hcz8_0
      try clear hcz8_1
      try clear hfz8_0
      try clear hfz8_1
      obtain ⟨x6_1, x7_1, rfl, HA, HK1, HO_6, HO_315000, BK314, HB⟩ := hrel
      cases gk with
      | zero => exact absurd HA.out (by simp [laws_FnHandles.l0])
      | succ k1 =>
        have H := HA.out
        clear HA
        simp only [laws_FnHandles.l0] at H
        by_cases c11 : x7_1 < (t308.length : Int)
        · rw [if_pos c11] at H
          have c11b0 : decide (x7_1 < (t308.length : Int)) = true := decide_eq_true c11
          clear c11
          replace H := Option.bind_eq_some_iff.mp H
          obtain ⟨t318, A120, H⟩ := H
          try dsimp only at H
          have A12 := am A120
          clear A120
          by_cases c13 : 0 ≤ x7_1
          · rw [if_pos c13] at H
            have c13b0 : decide (0 ≤ x7_1) = true := decide_eq_true c13
            clear c13
            by_cases c14 : (((rd_T50 t308 x7_1).f1) != (decide (t318 ≥ 0))) = true
            · rw [if_pos c14] at H
              have c14b0 : (((rd_T50 t308 x7_1).f1) != (decide (t318 ≥ 0))) = true := c14
              (try (have c14b1 : decide (((rd_T50 t308 x7_1).f1) = (decide (t318 ≥ 0))) = false := by simpa using c14))
              (try (have c14b2 : (((rd_T50 t308 x7_1).f1) == (decide (t318 ≥ 0))) = false := by simpa using c14))
              (try (have c14b3 : ¬ (((rd_T50 t308 x7_1).f1) = (decide (t318 ≥ 0))) := by simpa using c14))
              clear c14
              obtain rfl := Option.some.inj H
              obtain ⟨hcz15_0, hcz15_1, hfz15_0, hfz15_1⟩ := xT2 (W := wr) BK314.out
              go_wp2_with (first | ((with_reducible refine gate_callee (f := 20) rfl ?_); refine xG (some 33) 20 Try.func20 #[.agg #[.slice Ao7 t308.length co7, .int .i64 t311], .int .i64 x7_1] (h := ?_); (with_reducible refine (impl_HandleOf.calls k1 _ _ t308 t311 x7_1 t318 _ ?side1 ?side2 A12.out).mono ?_); (case side1 => exact xC ((Kd.R_reads' HO_315000.out).2.2)); (case side2 => exact (Kd.R_reads' HO_315000.out).2.1); rintro e w16 ⟨rfl, hb⟩; refine ⟨_, rfl, ?_⟩; replace HO_6 := am (Kd.R_below (xR HO_6.out) hb); replace HO_315000 := am (Kd.R_below (xR HO_315000.out) hb); replace BK314 := am (blk_below (xB BK314.out) hb); replace HB := am (below_step (xW HB.out) hb); (try clear hb); obtain ⟨hcz17_0, hcz17_1, hfz17_0, hfz17_1⟩ := xT2 (W := w16) BK314.out; have p319 : 0 ≤ (x7_1 : Int) := of_decide_eq_true (by assumption); have q319 : x7_1 < (t308.length : Int) := of_decide_eq_true (by assumption); obtain ⟨ad319, e319, hx319_0, hx319_1, hx319_2, hx319_3, hx319_4⟩ := at_T50 (Kd.R_reads' HO_315000.out).2.2 x7_1 p319 q319; cases e319; replace p319 := eq_true p319; replace q319 := eq_true q319))
              go_ret
              exact ⟨xV, xW HB.out⟩
            · rw [if_neg c14] at H
              have c14b0 : (((rd_T50 t308 x7_1).f1) != (decide (t318 ≥ 0))) = false := by simpa using c14
              (try (have c14b1 : decide (((rd_T50 t308 x7_1).f1) = (decide (t318 ≥ 0))) = true := by simpa using c14))
              (try (have c14b2 : (((rd_T50 t308 x7_1).f1) == (decide (t318 ≥ 0))) = true := by simpa using c14))
              clear c14
              by_cases c18 : t318 < 0
              · rw [if_pos c18] at H
                have c18b0 : decide (t318 < 0) = true := decide_eq_true c18
                clear c18
                have H' := am H
                clear H
                obtain ⟨hcz19_0, hcz19_1, hfz19_0, hfz19_1⟩ := xT2 (W := wr) BK314.out
                go_wp2_with (first | ((with_reducible refine gate_callee (f := 20) rfl ?_); refine xG (some 33) 20 Try.func20 #[.agg #[.slice Ao7 t308.length co7, .int .i64 t311], .int .i64 x7_1] (h := ?_); (with_reducible refine (impl_HandleOf.calls k1 _ _ t308 t311 x7_1 t318 _ ?side1 ?side2 A12.out).mono ?_); (case side1 => exact xC ((Kd.R_reads' HO_315000.out).2.2)); (case side2 => exact (Kd.R_reads' HO_315000.out).2.1); rintro e w20 ⟨rfl, hb⟩; refine ⟨_, rfl, ?_⟩; replace HO_6 := am (Kd.R_below (xR HO_6.out) hb); replace HO_315000 := am (Kd.R_below (xR HO_315000.out) hb); replace BK314 := am (blk_below (xB BK314.out) hb); replace HB := am (below_step (xW HB.out) hb); (try clear hb); obtain ⟨hcz21_0, hcz21_1, hfz21_0, hfz21_1⟩ := xT2 (W := w20) BK314.out; have p319 : 0 ≤ (x7_1 : Int) := of_decide_eq_true (by assumption); have q319 : x7_1 < (t308.length : Int) := of_decide_eq_true (by assumption); obtain ⟨ad319, e319, hx319_0, hx319_1, hx319_2, hx319_3, hx319_4⟩ := at_T50 (Kd.R_reads' HO_315000.out).2.2 x7_1 p319 q319; cases e319; replace p319 := eq_true p319; replace q319 := eq_true q319))
                go_roundg k1
                case measure => have := HK1.out; omega
                case rel => exact ⟨(x6_1), (wrap64 (x7_1 + 1)), (xQ), H', ⟨by have := HK1.out; omega⟩, ⟨xR HO_6.out⟩, ⟨xR HO_315000.out⟩, ⟨xB BK314.out⟩, ⟨xW HB.out⟩⟩
              · rw [if_neg c18] at H
                have c18b0 : decide (t318 < 0) = false := decide_eq_false c18
                clear c18
                replace H := Option.bind_eq_some_iff.mp H
                obtain ⟨⟨t320, t321, t322⟩, A220, H⟩ := H
                try dsimp only at H
                have A22 := am A220
                clear A220
                by_cases c23 : t322 = true
                · subst c23
                  have H1 : (if t320.toList = ((rd_T50 t308 x7_1).f2).toList then (if t321.toList = ((rd_T50 t308 x7_1).f3).toList then ((laws_in.f k1 x6_1 t318).bind fun t325 => (if t325 = true then (some false) else (if x6_1.length < 17592186044416 then (laws_FnHandles.l0 k1 (x6_1 ++ [t318]) (wrap64 (x7_1 + 1)) t308 t311) else (none)))) else (some false)) else (some false)) = some r := by rw [if_pos rfl] at H; exact H
                  clear H
                  have H := H1
                  clear H1
                  by_cases c24 : t320.toList = ((rd_T50 t308 x7_1).f2).toList
                  · rw [if_pos c24] at H
                    have c24b0 : (t320.toList == ((rd_T50 t308 x7_1).f2).toList) = true := beq_iff_eq.mpr c24
                    have c24b1 : (t320.toList != ((rd_T50 t308 x7_1).f2).toList) = false := bne_eq_false_iff_eq.mpr c24
                    clear c24
                    by_cases c25 : t321.toList = ((rd_T50 t308 x7_1).f3).toList
                    · rw [if_pos c25] at H
                      have c25b0 : (t321.toList == ((rd_T50 t308 x7_1).f3).toList) = true := beq_iff_eq.mpr c25
                      have c25b1 : (t321.toList != ((rd_T50 t308 x7_1).f3).toList) = false := bne_eq_false_iff_eq.mpr c25
                      clear c25
                      replace H := Option.bind_eq_some_iff.mp H
                      obtain ⟨t325, A260, H⟩ := H
                      try dsimp only at H
                      have A26 := am A260
                      clear A260
                      by_cases c27 : t325 = true
                      · subst c27
                        have H1 : (some false) = some r := by rw [if_pos rfl] at H; exact H
                        clear H
                        have H := H1
                        clear H1
                        obtain rfl := Option.some.inj H
                        obtain ⟨hcz28_0, hcz28_1, hfz28_0, hfz28_1⟩ := xT2 (W := wr) BK314.out
                        go_wp2_with (first | ((with_reducible refine gate_callee (f := 20) rfl ?_); refine xG (some 33) 20 Try.func20 #[.agg #[.slice Ao7 t308.length co7, .int .i64 t311], .int .i64 x7_1] (h := ?_); (with_reducible refine (impl_HandleOf.calls k1 _ _ t308 t311 x7_1 t318 _ ?side1 ?side2 A12.out).mono ?_); (case side1 => exact xC ((Kd.R_reads' HO_315000.out).2.2)); (case side2 => exact (Kd.R_reads' HO_315000.out).2.1); rintro e w29 ⟨rfl, hb⟩; refine ⟨_, rfl, ?_⟩; replace HO_6 := am (Kd.R_below (xR HO_6.out) hb); replace HO_315000 := am (Kd.R_below (xR HO_315000.out) hb); replace BK314 := am (blk_below (xB BK314.out) hb); replace HB := am (below_step (xW HB.out) hb); (try clear hb); obtain ⟨hcz30_0, hcz30_1, hfz30_0, hfz30_1⟩ := xT2 (W := w29) BK314.out; have p319 : 0 ≤ (x7_1 : Int) := of_decide_eq_true (by assumption); have q319 : x7_1 < (t308.length : Int) := of_decide_eq_true (by assumption); obtain ⟨ad319, e319, hx319_0, hx319_1, hx319_2, hx319_3, hx319_4⟩ := at_T50 (Kd.R_reads' HO_315000.out).2.2 x7_1 p319 q319; cases e319; replace p319 := eq_true p319; replace q319 := eq_true q319) | ((with_reducible refine gate_callee (f := 17) rfl ?_); refine xG (some 48) 17 Try.func17 #[.agg #[.slice (some ad319) t308.length co7, .int .i64 t311], .int .i64 t318] (h := ?_); (with_reducible refine (impl_Look.calls k1 _ _ t308 t311 t318 t320 t321 true _ ?side1 ?side2 A22.out).mono ?_); (case side1 => exact xC ((Kd.R_reads' HO_315000.out).2.2)); (case side2 => exact (Kd.R_reads' HO_315000.out).2.1); rintro e w31 ⟨rfl, hb⟩; refine ⟨_, rfl, ?_⟩; replace HO_6 := am (Kd.R_below (xR HO_6.out) hb); replace HO_315000 := am (Kd.R_below (xR HO_315000.out) hb); replace BK314 := am (blk_below (xB BK314.out) hb); replace HB := am (below_step (xW HB.out) hb); (try clear hb); obtain ⟨hcz32_0, hcz32_1, hfz32_0, hfz32_1⟩ := xT2 (W := w31) BK314.out; have p323 : 0 ≤ (x7_1 : Int) := of_decide_eq_true (by assumption); have q323 : x7_1 < (t308.length : Int) := of_decide_eq_true (by assumption); obtain ⟨ad323, e323, hx323_0, hx323_1, hx323_2, hx323_3, hx323_4⟩ := at_T50 (Kd.R_reads' HO_315000.out).2.2 x7_1 p323 q323; obtain rfl : ad319 = ad323 := (by injection e323); replace p323 := eq_true p323; replace q323 := eq_true q323; have p324 : 0 ≤ (x7_1 : Int) := of_decide_eq_true (by assumption); have q324 : x7_1 < (t308.length : Int) := of_decide_eq_true (by assumption); obtain ⟨ad324, e324, hx324_0, hx324_1, hx324_2, hx324_3, hx324_4⟩ := at_T50 (Kd.R_reads' HO_315000.out).2.2 x7_1 p324 q324; obtain rfl : ad319 = ad324 := (by injection e324); replace p324 := eq_true p324; replace q324 := eq_true q324; obtain ⟨Ao33, co33, eo33⟩ := Kd.R_slice HO_6.out; subst eo33) | (go_at_call 21; (with_reducible refine (laws_in.calls k1 _ _ x6_1 t318 true _ ?side1 ?side2 A26.out).mono ?_); (case side1 => exact xC ((Kd.R_reads' HO_6.out).2.2)); (case side2 => exact (Kd.R_reads' HO_6.out).2.1); rintro e w' ⟨rfl, ⟨nd, rfl⟩⟩))
                        go_ret
                        exact ⟨xV, xW HB.out⟩
                      · replace c27 := Bool.eq_false_iff.mpr c27
                        subst c27
                        have H1 : (if x6_1.length < 17592186044416 then (laws_FnHandles.l0 k1 (x6_1 ++ [t318]) (wrap64 (x7_1 + 1)) t308 t311) else (none)) = some r := by rw [if_neg (show ¬ (false = true) by decide)] at H; exact H
                        clear H
                        have H := H1
                        clear H1
                        by_cases c34 : x6_1.length < 17592186044416
                        · rw [if_pos c34] at H
                          have LMc34 := am c34
                          clear c34
                          obtain ⟨y326, hy326⟩ : ∃ y_ : List Int, y_ = (x6_1 ++ [t318]) := ⟨_, rfl⟩
                          replace H : (laws_FnHandles.l0 k1 y326 (wrap64 (x7_1 + 1)) t308 t311) = some r := by first | (rw [hy326]; with_reducible exact H) | (have H2_ := (Option.bind_some _ _).symm.trans H; rw [hy326]; with_reducible exact H2_) | (have H2_ := (Option.bind_some _ _).symm.trans H; with_reducible exact H2_) | with_reducible exact H | (rw [hy326]; exact H) | exact H
                          have Ny326 := am hy326
                          clear hy326
                          have H' := am H
                          clear H
                          obtain ⟨hcz35_0, hcz35_1, hfz35_0, hfz35_1⟩ := xT2 (W := wr) BK314.out
                          go_wp2_with (first | ((with_reducible refine gate_callee (f := 20) rfl ?_); refine xG (some 33) 20 Try.func20 #[.agg #[.slice Ao7 t308.length co7, .int .i64 t311], .int .i64 x7_1] (h := ?_); (with_reducible refine (impl_HandleOf.calls k1 _ _ t308 t311 x7_1 t318 _ ?side1 ?side2 A12.out).mono ?_); (case side1 => exact xC ((Kd.R_reads' HO_315000.out).2.2)); (case side2 => exact (Kd.R_reads' HO_315000.out).2.1); rintro e w36 ⟨rfl, hb⟩; refine ⟨_, rfl, ?_⟩; replace HO_6 := am (Kd.R_below (xR HO_6.out) hb); replace HO_315000 := am (Kd.R_below (xR HO_315000.out) hb); replace BK314 := am (blk_below (xB BK314.out) hb); replace HB := am (below_step (xW HB.out) hb); (try clear hb); obtain ⟨hcz37_0, hcz37_1, hfz37_0, hfz37_1⟩ := xT2 (W := w36) BK314.out; have p319 : 0 ≤ (x7_1 : Int) := of_decide_eq_true (by assumption); have q319 : x7_1 < (t308.length : Int) := of_decide_eq_true (by assumption); obtain ⟨ad319, e319, hx319_0, hx319_1, hx319_2, hx319_3, hx319_4⟩ := at_T50 (Kd.R_reads' HO_315000.out).2.2 x7_1 p319 q319; cases e319; replace p319 := eq_true p319; replace q319 := eq_true q319) | ((with_reducible refine gate_callee (f := 17) rfl ?_); refine xG (some 48) 17 Try.func17 #[.agg #[.slice (some ad319) t308.length co7, .int .i64 t311], .int .i64 t318] (h := ?_); (with_reducible refine (impl_Look.calls k1 _ _ t308 t311 t318 t320 t321 true _ ?side1 ?side2 A22.out).mono ?_); (case side1 => exact xC ((Kd.R_reads' HO_315000.out).2.2)); (case side2 => exact (Kd.R_reads' HO_315000.out).2.1); rintro e w38 ⟨rfl, hb⟩; refine ⟨_, rfl, ?_⟩; replace HO_6 := am (Kd.R_below (xR HO_6.out) hb); replace HO_315000 := am (Kd.R_below (xR HO_315000.out) hb); replace BK314 := am (blk_below (xB BK314.out) hb); replace HB := am (below_step (xW HB.out) hb); (try clear hb); obtain ⟨hcz39_0, hcz39_1, hfz39_0, hfz39_1⟩ := xT2 (W := w38) BK314.out; have p323 : 0 ≤ (x7_1 : Int) := of_decide_eq_true (by assumption); have q323 : x7_1 < (t308.length : Int) := of_decide_eq_true (by assumption); obtain ⟨ad323, e323, hx323_0, hx323_1, hx323_2, hx323_3, hx323_4⟩ := at_T50 (Kd.R_reads' HO_315000.out).2.2 x7_1 p323 q323; obtain rfl : ad319 = ad323 := (by injection e323); replace p323 := eq_true p323; replace q323 := eq_true q323; have p324 : 0 ≤ (x7_1 : Int) := of_decide_eq_true (by assumption); have q324 : x7_1 < (t308.length : Int) := of_decide_eq_true (by assumption); obtain ⟨ad324, e324, hx324_0, hx324_1, hx324_2, hx324_3, hx324_4⟩ := at_T50 (Kd.R_reads' HO_315000.out).2.2 x7_1 p324 q324; obtain rfl : ad319 = ad324 := (by injection e324); replace p324 := eq_true p324; replace q324 := eq_true q324; obtain ⟨Ao40, co40, eo40⟩ := Kd.R_slice HO_6.out; subst eo40) | (go_at_call 21; (with_reducible refine (laws_in.calls k1 _ _ x6_1 t318 false _ ?side1 ?side2 A26.out).mono ?_); (case side1 => exact xC ((Kd.R_reads' HO_6.out).2.2)); (case side2 => exact (Kd.R_reads' HO_6.out).2.1); rintro e w' ⟨rfl, ⟨nd, rfl⟩⟩) | ((with_reducible refine gate_builtin (b := .append) (xs := #[.tmp 79, .tmp 81]) rfl ?_); (try (refine gate_guard (by rfl) ?_; dsimp only)); at_builtin; refine Kd.R_append (Kd.int .i64) (w0 := w) w.heap.size rfl (.tmp 79) (.tmp 81) 24 3 (.int .i64 0) 8 rfl Try.underlying24 info3 rfl (by decide) (by omega) (.slice Ao40 x6_1.length co40) x6_1 t318 [.int .i64 t318] (fun _ => True) (fun _ => False) rfl rfl ?aP (fun _ hk => by first | exact hk.elim | (simp [hk])) ?aF ?aO ?aB ?aS ?aL ?_; (case aP => exact rfl); (case aB => exact (xW HB.out)); (case aF => exact (fun _ _ => trivial)); (case aO => exact (xR HO_6.out)); (case aS => exact (below_size (xW HB.out))); (case aL => have := LMc34.out; omega); intro v327 w41 ho hb hg hat; rw [← Ny326.out] at ho; replace HO_315000 := am (Kd.R_over' (xR HO_315000.out) (Kd.R_typed (xR HO_6.out)) (by decide) hg); replace BK314 := am (blk_grown (g := gb314) (o := .cells #[.slice (some ad319) t308.length co7, .int .i64 t311] 42 (0, 0)) (xB BK314.out) hg (Kd.R_ne HO_6.out BK314.out (by decide))); replace HB := am (hb); have HO328 := am (ho); clear HO_6; clear ho hb hg hat))
                          go_roundg k1
                          case measure => have := HK1.out; omega
                          case rel => exact ⟨(y326), (wrap64 (x7_1 + 1)), (xQ), H', ⟨by have := HK1.out; omega⟩, ⟨xR HO328.out⟩, ⟨xR HO_315000.out⟩, ⟨xB BK314.out⟩, ⟨xW HB.out⟩⟩
                        · rw [if_neg c34] at H
                          exact absurd H (by simp)
                    · rw [if_neg c25] at H
                      have c25b0 : (t321.toList == ((rd_T50 t308 x7_1).f3).toList) = false := beq_eq_false_iff_ne.mpr c25
                      have c25b1 : (t321.toList != ((rd_T50 t308 x7_1).f3).toList) = true := bne_iff_ne.mpr c25
                      obtain rfl := Option.some.inj H
                      obtain ⟨hcz42_0, hcz42_1, hfz42_0, hfz42_1⟩ := xT2 (W := wr) BK314.out
                      go_wp2_with (first | ((with_reducible refine gate_callee (f := 20) rfl ?_); refine xG (some 33) 20 Try.func20 #[.agg #[.slice Ao7 t308.length co7, .int .i64 t311], .int .i64 x7_1] (h := ?_); (with_reducible refine (impl_HandleOf.calls k1 _ _ t308 t311 x7_1 t318 _ ?side1 ?side2 A12.out).mono ?_); (case side1 => exact xC ((Kd.R_reads' HO_315000.out).2.2)); (case side2 => exact (Kd.R_reads' HO_315000.out).2.1); rintro e w43 ⟨rfl, hb⟩; refine ⟨_, rfl, ?_⟩; replace HO_6 := am (Kd.R_below (xR HO_6.out) hb); replace HO_315000 := am (Kd.R_below (xR HO_315000.out) hb); replace BK314 := am (blk_below (xB BK314.out) hb); replace HB := am (below_step (xW HB.out) hb); (try clear hb); obtain ⟨hcz44_0, hcz44_1, hfz44_0, hfz44_1⟩ := xT2 (W := w43) BK314.out; have p319 : 0 ≤ (x7_1 : Int) := of_decide_eq_true (by assumption); have q319 : x7_1 < (t308.length : Int) := of_decide_eq_true (by assumption); obtain ⟨ad319, e319, hx319_0, hx319_1, hx319_2, hx319_3, hx319_4⟩ := at_T50 (Kd.R_reads' HO_315000.out).2.2 x7_1 p319 q319; cases e319; replace p319 := eq_true p319; replace q319 := eq_true q319) | ((with_reducible refine gate_callee (f := 17) rfl ?_); refine xG (some 48) 17 Try.func17 #[.agg #[.slice (some ad319) t308.length co7, .int .i64 t311], .int .i64 t318] (h := ?_); (with_reducible refine (impl_Look.calls k1 _ _ t308 t311 t318 t320 t321 true _ ?side1 ?side2 A22.out).mono ?_); (case side1 => exact xC ((Kd.R_reads' HO_315000.out).2.2)); (case side2 => exact (Kd.R_reads' HO_315000.out).2.1); rintro e w45 ⟨rfl, hb⟩; refine ⟨_, rfl, ?_⟩; replace HO_6 := am (Kd.R_below (xR HO_6.out) hb); replace HO_315000 := am (Kd.R_below (xR HO_315000.out) hb); replace BK314 := am (blk_below (xB BK314.out) hb); replace HB := am (below_step (xW HB.out) hb); (try clear hb); obtain ⟨hcz46_0, hcz46_1, hfz46_0, hfz46_1⟩ := xT2 (W := w45) BK314.out; have p323 : 0 ≤ (x7_1 : Int) := of_decide_eq_true (by assumption); have q323 : x7_1 < (t308.length : Int) := of_decide_eq_true (by assumption); obtain ⟨ad323, e323, hx323_0, hx323_1, hx323_2, hx323_3, hx323_4⟩ := at_T50 (Kd.R_reads' HO_315000.out).2.2 x7_1 p323 q323; obtain rfl : ad319 = ad323 := (by injection e323); replace p323 := eq_true p323; replace q323 := eq_true q323; have p324 : 0 ≤ (x7_1 : Int) := of_decide_eq_true (by assumption); have q324 : x7_1 < (t308.length : Int) := of_decide_eq_true (by assumption); obtain ⟨ad324, e324, hx324_0, hx324_1, hx324_2, hx324_3, hx324_4⟩ := at_T50 (Kd.R_reads' HO_315000.out).2.2 x7_1 p324 q324; obtain rfl : ad319 = ad324 := (by injection e324); replace p324 := eq_true p324; replace q324 := eq_true q324))
                      go_ret
                      exact ⟨xV, xW HB.out⟩
                  · rw [if_neg c24] at H
                    have c24b0 : (t320.toList == ((rd_T50 t308 x7_1).f2).toList) = false := beq_eq_false_iff_ne.mpr c24
                    have c24b1 : (t320.toList != ((rd_T50 t308 x7_1).f2).toList) = true := bne_iff_ne.mpr c24
                    obtain rfl := Option.some.inj H
                    obtain ⟨hcz47_0, hcz47_1, hfz47_0, hfz47_1⟩ := xT2 (W := wr) BK314.out
                    go_wp2_with (first | ((with_reducible refine gate_callee (f := 20) rfl ?_); refine xG (some 33) 20 Try.func20 #[.agg #[.slice Ao7 t308.length co7, .int .i64 t311], .int .i64 x7_1] (h := ?_); (with_reducible refine (impl_HandleOf.calls k1 _ _ t308 t311 x7_1 t318 _ ?side1 ?side2 A12.out).mono ?_); (case side1 => exact xC ((Kd.R_reads' HO_315000.out).2.2)); (case side2 => exact (Kd.R_reads' HO_315000.out).2.1); rintro e w48 ⟨rfl, hb⟩; refine ⟨_, rfl, ?_⟩; replace HO_6 := am (Kd.R_below (xR HO_6.out) hb); replace HO_315000 := am (Kd.R_below (xR HO_315000.out) hb); replace BK314 := am (blk_below (xB BK314.out) hb); replace HB := am (below_step (xW HB.out) hb); (try clear hb); obtain ⟨hcz49_0, hcz49_1, hfz49_0, hfz49_1⟩ := xT2 (W := w48) BK314.out; have p319 : 0 ≤ (x7_1 : Int) := of_decide_eq_true (by assumption); have q319 : x7_1 < (t308.length : Int) := of_decide_eq_true (by assumption); obtain ⟨ad319, e319, hx319_0, hx319_1, hx319_2, hx319_3, hx319_4⟩ := at_T50 (Kd.R_reads' HO_315000.out).2.2 x7_1 p319 q319; cases e319; replace p319 := eq_true p319; replace q319 := eq_true q319) | ((with_reducible refine gate_callee (f := 17) rfl ?_); refine xG (some 48) 17 Try.func17 #[.agg #[.slice (some ad319) t308.length co7, .int .i64 t311], .int .i64 t318] (h := ?_); (with_reducible refine (impl_Look.calls k1 _ _ t308 t311 t318 t320 t321 true _ ?side1 ?side2 A22.out).mono ?_); (case side1 => exact xC ((Kd.R_reads' HO_315000.out).2.2)); (case side2 => exact (Kd.R_reads' HO_315000.out).2.1); rintro e w50 ⟨rfl, hb⟩; refine ⟨_, rfl, ?_⟩; replace HO_6 := am (Kd.R_below (xR HO_6.out) hb); replace HO_315000 := am (Kd.R_below (xR HO_315000.out) hb); replace BK314 := am (blk_below (xB BK314.out) hb); replace HB := am (below_step (xW HB.out) hb); (try clear hb); obtain ⟨hcz51_0, hcz51_1, hfz51_0, hfz51_1⟩ := xT2 (W := w50) BK314.out; have p323 : 0 ≤ (x7_1 : Int) := of_decide_eq_true (by assumption); have q323 : x7_1 < (t308.length : Int) := of_decide_eq_true (by assumption); obtain ⟨ad323, e323, hx323_0, hx323_1, hx323_2, hx323_3, hx323_4⟩ := at_T50 (Kd.R_reads' HO_315000.out).2.2 x7_1 p323 q323; obtain rfl : ad319 = ad323 := (by injection e323); replace p323 := eq_true p323; replace q323 := eq_true q323))
                    go_ret
                    exact ⟨xV, xW HB.out⟩
                · replace c23 := Bool.eq_false_iff.mpr c23
                  subst c23
                  have H1 : (some false) = some r := by rw [if_neg (show ¬ (false = true) by decide)] at H; exact H
                  clear H
                  have H := H1
                  clear H1
                  obtain rfl := Option.some.inj H
                  obtain ⟨hcz52_0, hcz52_1, hfz52_0, hfz52_1⟩ := xT2 (W := wr) BK314.out
                  go_wp2_with (first | ((with_reducible refine gate_callee (f := 20) rfl ?_); refine xG (some 33) 20 Try.func20 #[.agg #[.slice Ao7 t308.length co7, .int .i64 t311], .int .i64 x7_1] (h := ?_); (with_reducible refine (impl_HandleOf.calls k1 _ _ t308 t311 x7_1 t318 _ ?side1 ?side2 A12.out).mono ?_); (case side1 => exact xC ((Kd.R_reads' HO_315000.out).2.2)); (case side2 => exact (Kd.R_reads' HO_315000.out).2.1); rintro e w53 ⟨rfl, hb⟩; refine ⟨_, rfl, ?_⟩; replace HO_6 := am (Kd.R_below (xR HO_6.out) hb); replace HO_315000 := am (Kd.R_below (xR HO_315000.out) hb); replace BK314 := am (blk_below (xB BK314.out) hb); replace HB := am (below_step (xW HB.out) hb); (try clear hb); obtain ⟨hcz54_0, hcz54_1, hfz54_0, hfz54_1⟩ := xT2 (W := w53) BK314.out; have p319 : 0 ≤ (x7_1 : Int) := of_decide_eq_true (by assumption); have q319 : x7_1 < (t308.length : Int) := of_decide_eq_true (by assumption); obtain ⟨ad319, e319, hx319_0, hx319_1, hx319_2, hx319_3, hx319_4⟩ := at_T50 (Kd.R_reads' HO_315000.out).2.2 x7_1 p319 q319; cases e319; replace p319 := eq_true p319; replace q319 := eq_true q319) | ((with_reducible refine gate_callee (f := 17) rfl ?_); refine xG (some 48) 17 Try.func17 #[.agg #[.slice (some ad319) t308.length co7, .int .i64 t311], .int .i64 t318] (h := ?_); (with_reducible refine (impl_Look.calls k1 _ _ t308 t311 t318 t320 t321 false _ ?side1 ?side2 A22.out).mono ?_); (case side1 => exact xC ((Kd.R_reads' HO_315000.out).2.2)); (case side2 => exact (Kd.R_reads' HO_315000.out).2.1); rintro e w55 ⟨rfl, hb⟩; refine ⟨_, rfl, ?_⟩; replace HO_6 := am (Kd.R_below (xR HO_6.out) hb); replace HO_315000 := am (Kd.R_below (xR HO_315000.out) hb); replace BK314 := am (blk_below (xB BK314.out) hb); replace HB := am (below_step (xW HB.out) hb); (try clear hb); ))
                  go_ret
                  exact ⟨xV, xW HB.out⟩
          · rw [if_neg c13] at H
            exact absurd H (by simp)
        · rw [if_neg c11] at H
          have c11b0 : decide (x7_1 < (t308.length : Int)) = false := decide_eq_false c11
          clear c11
          replace H := Option.bind_eq_some_iff.mp H
          obtain ⟨⟨t329, t330, t331⟩, A560, H⟩ := H
          try dsimp only at H
          have A56 := am A560
          clear A560
          replace H := Option.bind_eq_some_iff.mp H
          obtain ⟨t332, A570, H⟩ := H
          try dsimp only at H
          have A57 := am A570
          clear A570
          by_cases c58 : (x6_1.length : Int) = t332
          · rw [if_pos c58] at H
            have c58b0 : ((x6_1.length : Int) == t332) = true := beq_iff_eq.mpr c58
            have c58b1 : ((x6_1.length : Int) != t332) = false := bne_eq_false_iff_eq.mpr c58
            clear c58
            by_cases c59 : t331 = true
            · subst c59
              have H1 : (some false) = some r := by rw [if_pos rfl] at H; exact H
              clear H
              have H := H1
              clear H1
              obtain rfl := Option.some.inj H
              obtain ⟨hcz60_0, hcz60_1, hfz60_0, hfz60_1⟩ := xT2 (W := wr) BK314.out
              go_wp2_with (first | ((with_reducible refine gate_callee (f := 17) rfl ?_); refine xG (some 85) 17 Try.func17 #[.agg #[.slice Ao7 t308.length co7, .int .i64 t311], .int .i64 (-1)] (h := ?_); (with_reducible refine (impl_Look.calls k1 _ _ t308 t311 (-1) t329 t330 true _ ?side1 ?side2 A56.out).mono ?_); (case side1 => exact xC ((Kd.R_reads' HO_315000.out).2.2)); (case side2 => exact (Kd.R_reads' HO_315000.out).2.1); rintro e w61 ⟨rfl, hb⟩; refine ⟨_, rfl, ?_⟩; replace HO_6 := am (Kd.R_below (xR HO_6.out) hb); replace HO_315000 := am (Kd.R_below (xR HO_315000.out) hb); replace BK314 := am (blk_below (xB BK314.out) hb); replace HB := am (below_step (xW HB.out) hb); (try clear hb); obtain ⟨Ao62, co62, eo62⟩ := Kd.R_slice HO_6.out; subst eo62; obtain ⟨hcz63_0, hcz63_1, hfz63_0, hfz63_1⟩ := xT2 (W := w61) BK314.out) | ((with_reducible refine gate_callee (f := 22) rfl ?_); refine xG (some 92) 22 Try.func22 #[.agg #[.slice Ao7 t308.length co7, .int .i64 t311]] (h := ?_); (with_reducible refine (impl_UsedOf.calls k1 _ _ t308 t311 t332 _ ?side1 ?side2 A57.out).mono ?_); (case side1 => exact xC ((Kd.R_reads' HO_315000.out).2.2)); (case side2 => exact (Kd.R_reads' HO_315000.out).2.1); rintro e w64 ⟨rfl, hb⟩; refine ⟨_, rfl, ?_⟩; replace HO_6 := am (Kd.R_below (xR HO_6.out) hb); replace HO_315000 := am (Kd.R_below (xR HO_315000.out) hb); replace BK314 := am (blk_below (xB BK314.out) hb); replace HB := am (below_step (xW HB.out) hb); (try clear hb); ))
              go_ret
              exact ⟨xV, xW HB.out⟩
            · replace c59 := Bool.eq_false_iff.mpr c59
              subst c59
              have H1 : ((impl_ArenaOk.f k1 t308 t311).bind fun t333 => (if t333 = true then ((impl_HandleOf.f k1 t308 t311 (t308.length : Int)).bind fun t334 => (some (t334 == (-1)))) else (some false))) = some r := by rw [if_neg (show ¬ (false = true) by decide)] at H; exact H
              clear H
              have H := H1
              clear H1
              replace H := Option.bind_eq_some_iff.mp H
              obtain ⟨t333, A650, H⟩ := H
              try dsimp only at H
              have A65 := am A650
              clear A650
              by_cases c66 : t333 = true
              · subst c66
                have H1 : ((impl_HandleOf.f k1 t308 t311 (t308.length : Int)).bind fun t334 => (some (t334 == (-1)))) = some r := by rw [if_pos rfl] at H; exact H
                clear H
                have H := H1
                clear H1
                replace H := Option.bind_eq_some_iff.mp H
                obtain ⟨t334, A670, H⟩ := H
                replace H : (some (t334 == (-1))) = some r := H
                have A67 := am A670
                clear A670
                obtain rfl := Option.some.inj H
                obtain ⟨hcz68_0, hcz68_1, hfz68_0, hfz68_1⟩ := xT2 (W := wr) BK314.out
                go_wp2_with (first | ((with_reducible refine gate_callee (f := 17) rfl ?_); refine xG (some 85) 17 Try.func17 #[.agg #[.slice Ao7 t308.length co7, .int .i64 t311], .int .i64 (-1)] (h := ?_); (with_reducible refine (impl_Look.calls k1 _ _ t308 t311 (-1) t329 t330 false _ ?side1 ?side2 A56.out).mono ?_); (case side1 => exact xC ((Kd.R_reads' HO_315000.out).2.2)); (case side2 => exact (Kd.R_reads' HO_315000.out).2.1); rintro e w69 ⟨rfl, hb⟩; refine ⟨_, rfl, ?_⟩; replace HO_6 := am (Kd.R_below (xR HO_6.out) hb); replace HO_315000 := am (Kd.R_below (xR HO_315000.out) hb); replace BK314 := am (blk_below (xB BK314.out) hb); replace HB := am (below_step (xW HB.out) hb); (try clear hb); obtain ⟨Ao70, co70, eo70⟩ := Kd.R_slice HO_6.out; subst eo70; obtain ⟨hcz71_0, hcz71_1, hfz71_0, hfz71_1⟩ := xT2 (W := w69) BK314.out) | ((with_reducible refine gate_callee (f := 22) rfl ?_); refine xG (some 92) 22 Try.func22 #[.agg #[.slice Ao7 t308.length co7, .int .i64 t311]] (h := ?_); (with_reducible refine (impl_UsedOf.calls k1 _ _ t308 t311 t332 _ ?side1 ?side2 A57.out).mono ?_); (case side1 => exact xC ((Kd.R_reads' HO_315000.out).2.2)); (case side2 => exact (Kd.R_reads' HO_315000.out).2.1); rintro e w72 ⟨rfl, hb⟩; refine ⟨_, rfl, ?_⟩; replace HO_6 := am (Kd.R_below (xR HO_6.out) hb); replace HO_315000 := am (Kd.R_below (xR HO_315000.out) hb); replace BK314 := am (blk_below (xB BK314.out) hb); replace HB := am (below_step (xW HB.out) hb); (try clear hb); obtain ⟨hcz73_0, hcz73_1, hfz73_0, hfz73_1⟩ := xT2 (W := w72) BK314.out) | (go_at_call 23; (with_reducible refine (impl_ArenaOk.calls k1 _ _ t308 t311 true _ ?side1 ?side2 A65.out).mono ?_); (case side1 => exact xC ((Kd.R_reads' HO_315000.out).2.2)); (case side2 => exact (Kd.R_reads' HO_315000.out).2.1); rintro e w74 ⟨rfl, hb⟩; replace HO_6 := am (Kd.R_below (xR HO_6.out) hb); replace HO_315000 := am (Kd.R_below (xR HO_315000.out) hb); replace BK314 := am (blk_below (xB BK314.out) hb); replace HB := am (below_step (xW HB.out) hb); (try clear hb); obtain ⟨hcz75_0, hcz75_1, hfz75_0, hfz75_1⟩ := xT2 (W := w74) BK314.out) | (go_at_call 20; (with_reducible refine (impl_HandleOf.calls k1 _ _ t308 t311 (t308.length : Int) t334 _ ?side1 ?side2 A67.out).mono ?_); (case side1 => exact xC ((Kd.R_reads' HO_315000.out).2.2)); (case side2 => exact (Kd.R_reads' HO_315000.out).2.1); rintro e w76 ⟨rfl, hb⟩; replace HO_6 := am (Kd.R_below (xR HO_6.out) hb); replace HO_315000 := am (Kd.R_below (xR HO_315000.out) hb); replace BK314 := am (blk_below (xB BK314.out) hb); replace HB := am (below_step (xW HB.out) hb); (try clear hb); ))
                go_ret
                exact ⟨xV, xW HB.out⟩
              · replace c66 := Bool.eq_false_iff.mpr c66
                subst c66
                have H1 : (some false) = some r := by rw [if_neg (show ¬ (false = true) by decide)] at H; exact H
                clear H
                have H := H1
                clear H1
                obtain rfl := Option.some.inj H
                obtain ⟨hcz77_0, hcz77_1, hfz77_0, hfz77_1⟩ := xT2 (W := wr) BK314.out
                go_wp2_with (first | ((with_reducible refine gate_callee (f := 17) rfl ?_); refine xG (some 85) 17 Try.func17 #[.agg #[.slice Ao7 t308.length co7, .int .i64 t311], .int .i64 (-1)] (h := ?_); (with_reducible refine (impl_Look.calls k1 _ _ t308 t311 (-1) t329 t330 false _ ?side1 ?side2 A56.out).mono ?_); (case side1 => exact xC ((Kd.R_reads' HO_315000.out).2.2)); (case side2 => exact (Kd.R_reads' HO_315000.out).2.1); rintro e w78 ⟨rfl, hb⟩; refine ⟨_, rfl, ?_⟩; replace HO_6 := am (Kd.R_below (xR HO_6.out) hb); replace HO_315000 := am (Kd.R_below (xR HO_315000.out) hb); replace BK314 := am (blk_below (xB BK314.out) hb); replace HB := am (below_step (xW HB.out) hb); (try clear hb); obtain ⟨Ao79, co79, eo79⟩ := Kd.R_slice HO_6.out; subst eo79; obtain ⟨hcz80_0, hcz80_1, hfz80_0, hfz80_1⟩ := xT2 (W := w78) BK314.out) | ((with_reducible refine gate_callee (f := 22) rfl ?_); refine xG (some 92) 22 Try.func22 #[.agg #[.slice Ao7 t308.length co7, .int .i64 t311]] (h := ?_); (with_reducible refine (impl_UsedOf.calls k1 _ _ t308 t311 t332 _ ?side1 ?side2 A57.out).mono ?_); (case side1 => exact xC ((Kd.R_reads' HO_315000.out).2.2)); (case side2 => exact (Kd.R_reads' HO_315000.out).2.1); rintro e w81 ⟨rfl, hb⟩; refine ⟨_, rfl, ?_⟩; replace HO_6 := am (Kd.R_below (xR HO_6.out) hb); replace HO_315000 := am (Kd.R_below (xR HO_315000.out) hb); replace BK314 := am (blk_below (xB BK314.out) hb); replace HB := am (below_step (xW HB.out) hb); (try clear hb); obtain ⟨hcz82_0, hcz82_1, hfz82_0, hfz82_1⟩ := xT2 (W := w81) BK314.out) | (go_at_call 23; (with_reducible refine (impl_ArenaOk.calls k1 _ _ t308 t311 false _ ?side1 ?side2 A65.out).mono ?_); (case side1 => exact xC ((Kd.R_reads' HO_315000.out).2.2)); (case side2 => exact (Kd.R_reads' HO_315000.out).2.1); rintro e w83 ⟨rfl, hb⟩; replace HO_6 := am (Kd.R_below (xR HO_6.out) hb); replace HO_315000 := am (Kd.R_below (xR HO_315000.out) hb); replace BK314 := am (blk_below (xB BK314.out) hb); replace HB := am (below_step (xW HB.out) hb); (try clear hb); ))
                go_ret
                exact ⟨xV, xW HB.out⟩
          · rw [if_neg c58] at H
            have c58b0 : ((x6_1.length : Int) == t332) = false := beq_eq_false_iff_ne.mpr c58
            have c58b1 : ((x6_1.length : Int) != t332) = true := bne_iff_ne.mpr c58
            obtain rfl := Option.some.inj H
            obtain ⟨hcz84_0, hcz84_1, hfz84_0, hfz84_1⟩ := xT2 (W := wr) BK314.out
            go_wp2_with (first | ((with_reducible refine gate_callee (f := 17) rfl ?_); refine xG (some 85) 17 Try.func17 #[.agg #[.slice Ao7 t308.length co7, .int .i64 t311], .int .i64 (-1)] (h := ?_); (with_reducible refine (impl_Look.calls k1 _ _ t308 t311 (-1) t329 t330 t331 _ ?side1 ?side2 A56.out).mono ?_); (case side1 => exact xC ((Kd.R_reads' HO_315000.out).2.2)); (case side2 => exact (Kd.R_reads' HO_315000.out).2.1); rintro e w85 ⟨rfl, hb⟩; refine ⟨_, rfl, ?_⟩; replace HO_6 := am (Kd.R_below (xR HO_6.out) hb); replace HO_315000 := am (Kd.R_below (xR HO_315000.out) hb); replace BK314 := am (blk_below (xB BK314.out) hb); replace HB := am (below_step (xW HB.out) hb); (try clear hb); obtain ⟨Ao86, co86, eo86⟩ := Kd.R_slice HO_6.out; subst eo86; obtain ⟨hcz87_0, hcz87_1, hfz87_0, hfz87_1⟩ := xT2 (W := w85) BK314.out) | ((with_reducible refine gate_callee (f := 22) rfl ?_); refine xG (some 92) 22 Try.func22 #[.agg #[.slice Ao7 t308.length co7, .int .i64 t311]] (h := ?_); (with_reducible refine (impl_UsedOf.calls k1 _ _ t308 t311 t332 _ ?side1 ?side2 A57.out).mono ?_); (case side1 => exact xC ((Kd.R_reads' HO_315000.out).2.2)); (case side2 => exact (Kd.R_reads' HO_315000.out).2.1); rintro e w88 ⟨rfl, hb⟩; refine ⟨_, rfl, ?_⟩; replace HO_6 := am (Kd.R_below (xR HO_6.out) hb); replace HO_315000 := am (Kd.R_below (xR HO_315000.out) hb); replace BK314 := am (blk_below (xB BK314.out) hb); replace HB := am (below_step (xW HB.out) hb); (try clear hb); ))
            go_ret
            exact ⟨xV, xW HB.out⟩

/-- THE ONE PURE STATEMENT of laws_FnHandles: yours. -/
def laws_FnHandles.Pure : Prop := ∀ (l0 : List Int), l0.length ≤ maxLen → l0.length * 1 ≤ 140737488351232 → (∀ x ∈ l0, (Lit.int .u8 x).wf = true) → ∃ k, laws_FnHandles.f k l0 = some true
theorem laws_FnHandles.walk (P : laws_FnHandles.Pure) (a0 : Option Addr) (len0 cap0 : Nat) (z0 : List Int) (w : World) (w0 : (a0 = none ∧ len0 = 0 ∧ cap0 = 0 ∧ z0 = []) ∨ ∃ x, a0 = some x ∧ len0 ≤ cap0 ∧ cap0 ≤ maxLen ∧ z0.length = cap0 ∧ (∀ i, i < z0.length → w.cell? (x.add i) = some (.int .u8 (z0.getD i 0))) ∧ ∀ n ∈ z0, (Lit.int .u8 n).wf = true) (y0 : len0 * 1 ≤ 140737488351232) :
    Calls Try.prog 5 #[.slice a0 len0 cap0] w fun e w' => e = .returned (.bool true) ∧ Below w.heap.size w w' := by
  obtain ⟨l0, rfl, hr0, hm0, hw0, hc0⟩ := ReadsInt.ofRowC w0
  obtain ⟨k, h⟩ := P l0 hm0 y0 hw0
  refine (laws_FnHandles.calls k _ _ l0 true w (Kd.C_of_reads (d := (0 : Int)) (h1 := fun _ => rfl) hr0) hc0 h).mono ?_
  rintro e w' ⟨rfl, hd⟩
  exact ⟨rfl, hd⟩

end Go.Proofs.Ytomcapflpephmaa.HFnHandles
