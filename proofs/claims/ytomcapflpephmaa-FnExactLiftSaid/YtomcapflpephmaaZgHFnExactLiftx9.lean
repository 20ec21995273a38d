/- What the row of the law needs of the printed and the plain texts. -/
import Derived.Test.YtomcapflpephmaaZgHX
import Derived.Test.YtomcapflpephmaaZgHFnExactLiftx0
import Derived.Test.YtomcapflpephmaaZgHFnExactLiftx1
import Derived.Test.YtomcapflpephmaaZgHFnExactLiftx2
import Derived.Test.YtomcapflpephmaaZgHFnExactLiftx4
import Derived.Test.YtomcapflpephmaaZgHFnExactLiftx6
import Derived.Test.YtomcapflpephmaaZgHFnExactLiftx8
namespace Go.Proofs.Ytomcapflpephmaa.HFnExactLift
open Go.RowKit Go.Proofs.YtomcapflpephmaaW.PrintWords Go.Proofs.YtomcapflpephmaaW.PrintLast Go.Proofs.YtomcapflpephmaaW.PrintMore
attribute [local go_sem] max2_int min2_int max_two min_two max_three min_three max_four min_four
set_option linter.unusedVariables false
set_option linter.unusedSimpArgs false
mutual
def laws_FnExactLift.j0 : Nat → Int → Bool → Bool → Bool → List (S83) → Int → List (S50) → Int → List (S50) → Int → List (S50) → Int → Option (Bool)
 | 0, _, _, _, _, _, _, _, _, _, _, _, _ => none
 | k + 1, x1, x7, x10, x44, x242000, x242001, x253000, x253001, x258000, x258001, x264000, x264001 => if x44 = true then (some false) else ((laws_toArena.f k x242000 x242001).bind fun bt265 => ((laws_eqArena.f k x258000 x258001 bt265.1 bt265.2).bind fun t269 => (if t269 = true then ((laws_markArena.f k x258000 x258001 1).bind fun bt270 => (if bt270.1 < 0 then (laws_FnExactLift.j1 k x1 x7 true x242000 x242001 x253000 x253001 x264000 x264001) else ((laws_eqArena.f k x264000 x264001 x253000 x253001).bind fun t272 => (if t272 = true then (laws_FnExactLift.j1 k x1 x7 (x10 != x7) x242000 x242001 x253000 x253001 x264000 x264001) else (laws_FnExactLift.j1 k x1 x7 true x242000 x242001 x253000 x253001 x264000 x264001))))) else (some false))))
def laws_FnExactLift.j1 : Nat → Int → Bool → Bool → List (S83) → Int → List (S50) → Int → List (S50) → Int → Option (Bool)
 | 0, _, _, _, _, _, _, _, _, _ => none
 | k + 1, x1, x7, x65, x242000, x242001, x253000, x253001, x264000, x264001 => if x65 = true then (some false) else ((laws_markArena.f k x264000 x264001 1).bind fun bt273 => ((laws_heldArena.f k bt273.2 x264001 1).bind fun t275 => (if t275 < 0 then (some false) else (if t275 = bt273.1 then ((laws_toArena.f k x242000 x242001).bind fun bt276 => ((impl_Lift.f k bt276.1 bt276.2 x1).bind fun bt280 => ((laws_eqArena.f k bt280.1 bt280.2.1 x253000 x253001).bind fun t286 => (if t286 = true then (laws_FnExactLift.j2 k bt273.1 (bt280.2.2 != x7) bt273.2 x264001) else (laws_FnExactLift.j2 k bt273.1 true bt273.2 x264001))))) else (some false)))))
def laws_FnExactLift.j2 : Nat → Int → Bool → List (S50) → Int → Option (Bool)
 | 0, _, _, _, _ => none
 | k + 1, x12, x92, x264000, x264001 => if x92 = true then (some false) else ((laws_heldArena.f k x264000 x264001 1).bind fun t287 => (if t287 < 0 then (some false) else (if t287 = x12 then (some true) else (some false))))
end
def laws_FnExactLift.f (k : Nat) (l0_0 : List (S83)) (a0_1 : Int) (a1 : Int) : Option (Bool) := (laws_szArena.f k l0_0 a0_1 1048576).bind fun t242 => (if t242 < 0 then (some true) else ((laws_toArena.f k l0_0 a0_1).bind fun bt243 => ((spec_Lift.f k bt243.1 bt243.2 a1).bind fun bt247 => ((laws_toArena.f k l0_0 a0_1).bind fun bt253 => ((impl_Lift.f k bt253.1 bt253.2 a1).bind fun bt258 => ((laws_eqArena.f k bt258.1 bt258.2.1 bt247.1 bt247.2.1).bind fun t264 => (if t264 = true then (laws_FnExactLift.j0 k a1 bt247.2.2 bt258.2.2 (bt258.2.2 != bt247.2.2) l0_0 a0_1 bt247.1 bt247.2.1 bt253.1 bt253.2 bt258.1 bt258.2.1) else (laws_FnExactLift.j0 k a1 bt247.2.2 bt258.2.2 true l0_0 a0_1 bt247.1 bt247.2.1 bt253.1 bt253.2 bt258.1 bt258.2.1))))))))
set_option maxHeartbeats 8000000 in
set_option maxRecDepth 100000 in
theorem laws_FnExactLift.calls (k : Nat) (A0_0 : Option Addr) (c0_0 : Nat) (l0_0 : List (S83)) (a0_1 : Int) (a1 : Int) (r : Bool) (w : World) (hr0_0 : Kd.C k83 w A0_0 l0_0.length l0_0) (hc0_0 : l0_0.length ≤ c0_0) (h : laws_FnExactLift.f k l0_0 a0_1 a1 = some r) :
  Calls Try.prog 6 #[.agg #[.slice A0_0 l0_0.length c0_0, .int .i64 a0_1], .int .i64 a1] w fun e w' => e = .returned (.bool r) ∧ Below w.heap.size w w' := by
 have hu36 := Try.underlying36
 have hu42 := Try.underlying42
 have HR0_0 := am hr0_0
 have HC0_0 := am hc0_0
 clear hr0_0 hc0_0
 have HB := am (Below.refl w.heap.size w)
 have H : ((laws_szArena.f k l0_0 a0_1 1048576).bind fun t242 => (if t242 < 0 then (some true) else ((laws_toArena.f k l0_0 a0_1).bind fun bt243 => ((spec_Lift.f k bt243.1 bt243.2 a1).bind fun bt247 => ((laws_toArena.f k l0_0 a0_1).bind fun bt253 => ((impl_Lift.f k bt253.1 bt253.2 a1).bind fun bt258 => ((laws_eqArena.f k bt258.1 bt258.2.1 bt247.1 bt247.2.1).bind fun t264 => (if t264 = true then (laws_FnExactLift.j0 k a1 bt247.2.2 bt258.2.2 (bt258.2.2 != bt247.2.2) l0_0 a0_1 bt247.1 bt247.2.1 bt253.1 bt253.2 bt258.1 bt258.2.1) else (laws_FnExactLift.j0 k a1 bt247.2.2 bt258.2.2 true l0_0 a0_1 bt247.1 bt247.2.1 bt253.1 bt253.2 bt258.1 bt258.2.1))))))))) = some r := h
 clear h
 replace H := Option.bind_eq_some_iff.mp H
 obtain ⟨t242, A30, H⟩ := H
 try dsimp only at H
 have A3 := am A30
 clear A30
 by_cases c4 : t242 < 0
 ·rw [if_pos c4] at H
  have c4b0 : decide (t242 < 0) = true := decide_eq_true c4
  clear c4
  obtain rfl := Option.some.inj H
  go_enter Try.func6, Try.ntmps6
  go_wp2_with (first | ((with_reducible refine gate_dst (N := 2) rfl ?_); refine xE (N := 2) (cs := #[.slice A0_0 l0_0.length c0_0, .int .i64 a0_1]) (t := 36) (h := ?_); intro gb241 hg w5 hbox hb; have BK241 := am (hbox); have GW241 := am (xS hg HB.out); have GE241 := am (xS hg HB.out); replace HB := am (below_step (xW HB.out) hb); clear hb hbox hg; obtain ⟨hcz6_0, hcz6_1, hfz6_0, hfz6_1⟩ := xT2 (W := w5) BK241.out) | ((with_reducible refine gate_callee (f := 14) rfl ?_); refine xG (some 18) 14 Try.func14 #[.agg #[.slice A0_0 l0_0.length c0_0, .int .i64 a0_1], .int .i64 1048576] (h := ?_); (with_reducible refine (laws_szArena.calls k _ _ l0_0 a0_1 1048576 t242 _ ?side1 ?side2 A3.out).mono ?_); (case side1 => exact xC (Kd.C_below HR0_0.out HB.out)); (case side2 => exact HC0_0.out); rintro e w7 ⟨rfl, hb⟩; refine ⟨_, rfl, ?_⟩; replace BK241 := am (blk_below (xB BK241.out) hb); replace HB := am (below_step (xW HB.out) hb); (try clear hb); ))
  go_ret
  exact ⟨xV, xW HB.out⟩
 ·rw [if_neg c4] at H
  have c4b0 : decide (t242 < 0) = false := decide_eq_false c4
  clear c4
  replace H := Option.bind_eq_some_iff.mp H
  obtain ⟨⟨t243, t246⟩, A80, H⟩ := H
  try dsimp only at H
  have A8 := am A80
  clear A80
  replace H := Option.bind_eq_some_iff.mp H
  obtain ⟨⟨t247, t250, t251⟩, A90, H⟩ := H
  try dsimp only at H
  have A9 := am A90
  clear A90
  replace H := Option.bind_eq_some_iff.mp H
  obtain ⟨⟨t253, t256⟩, A100, H⟩ := H
  try dsimp only at H
  have A10 := am A100
  clear A100
  replace H := Option.bind_eq_some_iff.mp H
  obtain ⟨⟨t258, t261, t262⟩, A110, H⟩ := H
  try dsimp only at H
  have A11 := am A110
  clear A110
  have HC12 := am H
  clear H
  go_enter Try.func6, Try.ntmps6
  go_upto_region 8 with (first | ((with_reducible refine gate_dst (N := 2) rfl ?_); refine xE (N := 2) (cs := #[.slice A0_0 l0_0.length c0_0, .int .i64 a0_1]) (t := 36) (h := ?_); intro gb241 hg w13 hbox hb; have BK241 := am (hbox); have GW241 := am (xS hg HB.out); have GE241 := am (xS hg HB.out); replace HB := am (below_step (xW HB.out) hb); clear hb hbox hg; obtain ⟨hcz14_0, hcz14_1, hfz14_0, hfz14_1⟩ := xT2 (W := w13) BK241.out) | ((with_reducible refine gate_callee (f := 14) rfl ?_); refine xG (some 18) 14 Try.func14 #[.agg #[.slice A0_0 l0_0.length c0_0, .int .i64 a0_1], .int .i64 1048576] (h := ?_); (with_reducible refine (laws_szArena.calls k _ _ l0_0 a0_1 1048576 t242 _ ?side1 ?side2 A3.out).mono ?_); (case side1 => exact xC (Kd.C_below HR0_0.out HB.out)); (case side2 => exact HC0_0.out); rintro e w15 ⟨rfl, hb⟩; refine ⟨_, rfl, ?_⟩; replace BK241 := am (blk_below (xB BK241.out) hb); replace HB := am (below_step (xW HB.out) hb); (try clear hb); obtain ⟨hcz16_0, hcz16_1, hfz16_0, hfz16_1⟩ := xT2 (W := w15) BK241.out) | ((with_reducible refine gate_callee (f := 16) rfl ?_); refine xG (some 23) 16 Try.func16 #[.agg #[.slice A0_0 l0_0.length c0_0, .int .i64 a0_1]] (h := ?_); (with_reducible refine (laws_toArena.calls k _ _ l0_0 a0_1 t243 t246 _ ?side1 ?side2 A8.out).mono ?_); (case side1 => exact xC (Kd.C_below HR0_0.out HB.out)); (case side2 => exact HC0_0.out); rintro e w17 ⟨v244, rfl, ho0, hb⟩; refine ⟨_, rfl, ?_⟩; have HO245 := am (Kd.R_lower ho0 (below_size (xW HB.out))); replace BK241 := am (blk_below (xB BK241.out) hb); replace HB := am (below_step (xW HB.out) hb); (try clear hb); (try clear ho0); obtain ⟨Ao18, co18, eo18⟩ := Kd.R_slice HO245.out; subst eo18) | ((with_reducible refine gate_callee (f := 24) rfl ?_); refine xG (some 25) 24 Try.func24 #[.agg #[.slice Ao18 t243.length co18, .int .i64 t246], .int .i64 a1] (h := ?_); (with_reducible refine (spec_Lift.calls k _ _ t243 t246 a1 t247 t250 t251 _ ?side1 ?side2 A9.out).mono ?_); (case side1 => exact xC ((Kd.R_reads' HO245.out).2.2)); (case side2 => exact (Kd.R_reads' HO245.out).2.1); rintro e w19 ⟨v248, rfl, ho0, hb⟩; refine ⟨_, rfl, ?_⟩; have HO249 := am (Kd.R_lower (Kd.R_new' ho0 (Kd.R_lt (xR HO245.out))) (below_size (xW HB.out))); replace HO245 := am (Kd.R_elder' (xR HO245.out) (Kd.R_base ho0) hb); replace BK241 := am (blk_below (xB BK241.out) hb); replace HB := am (below_step (xW HB.out) hb); (try clear hb); (try clear ho0)) | ((with_reducible refine gate_dst (N := 6) rfl ?_); refine xE (N := 6) (cs := #[.slice none 0 0, .int .i64 0]) (t := 42) (h := ?_); intro gb252 hg w20 hbox hb; replace HO245 := am (Kd.R_below (xR HO245.out) hb); replace HO249 := am (Kd.R_below (xR HO249.out) hb); have BK252 := am (hbox); have GW252 := am (xS hg HB.out); have GE252 := am (xS hg HB.out); replace HB := am (below_step (xW HB.out) hb); have NB241_252 := am (xN hg BK241.out); have NB252_241 := am (xM hg BK241.out); replace BK241 := am (blk_below (xB BK241.out) hb); clear hb hbox hg; obtain ⟨Ao21, co21, eo21⟩ := Kd.R_slice HO249.out; subst eo21; have hnb22 := NB252_241.out; have hnc22 := NB241_252.out; obtain ⟨hcz23_0, hcz23_1, hfz23_0, hfz23_1⟩ := xT2 (W := w20) BK252.out; obtain ⟨hcz24_0, hcz24_1, hfz24_0, hfz24_1⟩ := xT2 (W := w20) BK241.out) | ((with_reducible refine gate_callee (f := 16) rfl ?_); refine xG (some 29) 16 Try.func16 #[.agg #[.slice A0_0 l0_0.length c0_0, .int .i64 a0_1]] (h := ?_); (with_reducible refine (laws_toArena.calls k _ _ l0_0 a0_1 t253 t256 _ ?side1 ?side2 A10.out).mono ?_); (case side1 => exact Kd.C_below HR0_0.out (xW HB.out)); (case side2 => exact HC0_0.out); rintro e w25 ⟨v254, rfl, ho0, hb⟩; refine ⟨_, rfl, ?_⟩; have HO255 := am (Kd.R_lower (Kd.R_new' (Kd.R_new' ho0 (Kd.R_lt (by (with_reducible repeat (first | apply Kd.R_alloc | apply Kd.R_drewN | apply Kd.R_drew)); exact (Kd.R_mono (Kd.R_far (p := ⟨gb252, 1, none⟩) (Kd.R_far (p := ⟨gb252, 0, none⟩) (Kd.R_types HO245.out BK252.out (by decide)) (fun _ hk => by first | exact hk.2 | (simp [hk])) (.slice Ao21 t247.length co21)) (fun _ hk => by first | exact hk.2 | (simp [hk])) (.int .i64 t250)) (fun _ h_ => h_.1))))) (Kd.R_lt (by (with_reducible repeat (first | apply Kd.R_alloc | apply Kd.R_drewN | apply Kd.R_drew)); exact (Kd.R_mono (Kd.R_far (p := ⟨gb252, 1, none⟩) (Kd.R_far (p := ⟨gb252, 0, none⟩) (Kd.R_types HO249.out BK252.out (by decide)) (fun _ hk => by first | exact hk.2 | (simp [hk])) (.slice Ao21 t247.length co21)) (fun _ hk => by first | exact hk.2 | (simp [hk])) (.int .i64 t250)) (fun _ h_ => h_.1))))) (below_size (xW HB.out))); replace HO245 := am (Kd.R_elder' (by (with_reducible repeat (first | apply Kd.R_alloc | apply Kd.R_drewN | apply Kd.R_drew)); exact (Kd.R_mono (Kd.R_far (p := ⟨gb252, 1, none⟩) (Kd.R_far (p := ⟨gb252, 0, none⟩) (Kd.R_types HO245.out BK252.out (by decide)) (fun _ hk => by first | exact hk.2 | (simp [hk])) (.slice Ao21 t247.length co21)) (fun _ hk => by first | exact hk.2 | (simp [hk])) (.int .i64 t250)) (fun _ h_ => h_.1))) (Kd.R_base ho0) hb); replace HO249 := am (Kd.R_elder' (by (with_reducible repeat (first | apply Kd.R_alloc | apply Kd.R_drewN | apply Kd.R_drew)); exact (Kd.R_mono (Kd.R_far (p := ⟨gb252, 1, none⟩) (Kd.R_far (p := ⟨gb252, 0, none⟩) (Kd.R_types HO249.out BK252.out (by decide)) (fun _ hk => by first | exact hk.2 | (simp [hk])) (.slice Ao21 t247.length co21)) (fun _ hk => by first | exact hk.2 | (simp [hk])) (.int .i64 t250)) (fun _ h_ => h_.1))) (Kd.R_base ho0) hb); replace BK241 := am (blk_below (xB BK241.out) hb); replace BK252 := am (blk_below (xP BK252.out) hb); replace HB := am (below_step (xW HB.out) hb); (try clear hb); (try clear ho0)) | ((with_reducible refine gate_dst (N := 8) rfl ?_); refine xE (N := 8) (cs := #[.slice none 0 0, .int .i64 0]) (t := 42) (h := ?_); intro gb257 hg w26 hbox hb; replace HO245 := am (Kd.R_below (xR HO245.out) hb); replace HO249 := am (Kd.R_below (xR HO249.out) hb); replace HO255 := am (Kd.R_below (xR HO255.out) hb); have BK257 := am (hbox); have GW257 := am (xS hg HB.out); have GE257 := am (xS hg HB.out); replace HB := am (below_step (xW HB.out) hb); have NB241_257 := am (xN hg BK241.out); have NB257_241 := am (xM hg BK241.out); replace BK241 := am (blk_below (xB BK241.out) hb); have NB252_257 := am (xN hg BK252.out); have NB257_252 := am (xM hg BK252.out); replace BK252 := am (blk_below (xB BK252.out) hb); clear hb hbox hg; obtain ⟨Ao27, co27, eo27⟩ := Kd.R_slice HO255.out; subst eo27; have hnb28 := NB257_241.out; have hnc28 := NB241_257.out; have hnb29 := NB257_252.out; have hnc29 := NB252_257.out; obtain ⟨hcz30_0, hcz30_1, hfz30_0, hfz30_1⟩ := xT2 (W := w26) BK257.out) | ((with_reducible refine gate_callee (f := 25) rfl ?_); refine xG (some 33) 25 Try.func25 #[.agg #[.slice Ao27 t253.length co27, .int .i64 t256], .int .i64 a1] (h := ?_); (with_reducible refine (impl_Lift.calls k _ _ t253 t256 a1 t258 t261 t262 _ ?side1 ?side2 A11.out).mono ?_); (case side1 => refine (Kd.R_reads' (e := 50) (base := w.heap.size) (ok := fun k_ => ((True ∧ some k_ ≠ (.slice Ao18 t243.length co18 : Value).ownBlock) ∧ some k_ ≠ (.slice Ao21 t247.length co21 : Value).ownBlock)) (n := t253.length) (c := co27) ?_).2.2; exact (by (with_reducible repeat (first | apply Kd.R_alloc | apply Kd.R_drewN | apply Kd.R_drew)); exact (Kd.R_mono (Kd.R_far (p := ⟨gb257, 1, none⟩) (Kd.R_far (p := ⟨gb257, 0, none⟩) (Kd.R_types HO255.out BK257.out (by decide)) (fun _ hk => by first | exact hk.2 | (simp [hk])) (.slice Ao27 t253.length co27)) (fun _ hk => by first | exact hk.2 | (simp [hk])) (.int .i64 t256)) (fun _ h_ => h_.1)))); (case side2 => exact (Kd.R_reads' HO255.out).2.1); rintro e w31 ⟨v259, rfl, ho0, hb⟩; refine ⟨_, rfl, ?_⟩; have HO260 := am (Kd.R_lower (Kd.R_new' (Kd.R_new' (Kd.R_new' ho0 (Kd.R_lt (by (with_reducible repeat (first | apply Kd.R_alloc | apply Kd.R_drewN | apply Kd.R_drew)); exact (Kd.R_mono (Kd.R_far (p := ⟨gb257, 1, none⟩) (Kd.R_far (p := ⟨gb257, 0, none⟩) (Kd.R_types HO245.out BK257.out (by decide)) (fun _ hk => by first | exact hk.2 | (simp [hk])) (.slice Ao27 t253.length co27)) (fun _ hk => by first | exact hk.2 | (simp [hk])) (.int .i64 t256)) (fun _ h_ => h_.1))))) (Kd.R_lt (by (with_reducible repeat (first | apply Kd.R_alloc | apply Kd.R_drewN | apply Kd.R_drew)); exact (Kd.R_mono (Kd.R_far (p := ⟨gb257, 1, none⟩) (Kd.R_far (p := ⟨gb257, 0, none⟩) (Kd.R_types HO249.out BK257.out (by decide)) (fun _ hk => by first | exact hk.2 | (simp [hk])) (.slice Ao27 t253.length co27)) (fun _ hk => by first | exact hk.2 | (simp [hk])) (.int .i64 t256)) (fun _ h_ => h_.1))))) (Kd.R_lt (by (with_reducible repeat (first | apply Kd.R_alloc | apply Kd.R_drewN | apply Kd.R_drew)); exact (Kd.R_mono (Kd.R_far (p := ⟨gb257, 1, none⟩) (Kd.R_far (p := ⟨gb257, 0, none⟩) (Kd.R_types HO255.out BK257.out (by decide)) (fun _ hk => by first | exact hk.2 | (simp [hk])) (.slice Ao27 t253.length co27)) (fun _ hk => by first | exact hk.2 | (simp [hk])) (.int .i64 t256)) (fun _ h_ => h_.1))))) (below_size (xW HB.out))); replace HO245 := am (Kd.R_elder' (by (with_reducible repeat (first | apply Kd.R_alloc | apply Kd.R_drewN | apply Kd.R_drew)); exact (Kd.R_mono (Kd.R_far (p := ⟨gb257, 1, none⟩) (Kd.R_far (p := ⟨gb257, 0, none⟩) (Kd.R_types HO245.out BK257.out (by decide)) (fun _ hk => by first | exact hk.2 | (simp [hk])) (.slice Ao27 t253.length co27)) (fun _ hk => by first | exact hk.2 | (simp [hk])) (.int .i64 t256)) (fun _ h_ => h_.1))) (Kd.R_base ho0) hb); replace HO249 := am (Kd.R_elder' (by (with_reducible repeat (first | apply Kd.R_alloc | apply Kd.R_drewN | apply Kd.R_drew)); exact (Kd.R_mono (Kd.R_far (p := ⟨gb257, 1, none⟩) (Kd.R_far (p := ⟨gb257, 0, none⟩) (Kd.R_types HO249.out BK257.out (by decide)) (fun _ hk => by first | exact hk.2 | (simp [hk])) (.slice Ao27 t253.length co27)) (fun _ hk => by first | exact hk.2 | (simp [hk])) (.int .i64 t256)) (fun _ h_ => h_.1))) (Kd.R_base ho0) hb); replace HO255 := am (Kd.R_elder' (by (with_reducible repeat (first | apply Kd.R_alloc | apply Kd.R_drewN | apply Kd.R_drew)); exact (Kd.R_mono (Kd.R_far (p := ⟨gb257, 1, none⟩) (Kd.R_far (p := ⟨gb257, 0, none⟩) (Kd.R_types HO255.out BK257.out (by decide)) (fun _ hk => by first | exact hk.2 | (simp [hk])) (.slice Ao27 t253.length co27)) (fun _ hk => by first | exact hk.2 | (simp [hk])) (.int .i64 t256)) (fun _ h_ => h_.1))) (Kd.R_base ho0) hb); replace BK241 := am (blk_below (xB BK241.out) hb); replace BK252 := am (blk_below (xB BK252.out) hb); replace BK257 := am (blk_below (xP BK257.out) hb); replace HB := am (below_step (xW HB.out) hb); (try clear hb); (try clear ho0)) | ((with_reducible refine gate_dst (N := 9) rfl ?_); refine xE (N := 9) (cs := #[.slice none 0 0, .int .i64 0]) (t := 42) (h := ?_); intro gb263 hg w32 hbox hb; replace HO245 := am (Kd.R_below (xR HO245.out) hb); replace HO249 := am (Kd.R_below (xR HO249.out) hb); replace HO255 := am (Kd.R_below (xR HO255.out) hb); replace HO260 := am (Kd.R_below (xR HO260.out) hb); have BK263 := am (hbox); have GW263 := am (xS hg HB.out); have GE263 := am (xS hg HB.out); replace HB := am (below_step (xW HB.out) hb); have NB241_263 := am (xN hg BK241.out); have NB263_241 := am (xM hg BK241.out); replace BK241 := am (blk_below (xB BK241.out) hb); have NB252_263 := am (xN hg BK252.out); have NB263_252 := am (xM hg BK252.out); replace BK252 := am (blk_below (xB BK252.out) hb); have NB257_263 := am (xN hg BK257.out); have NB263_257 := am (xM hg BK257.out); replace BK257 := am (blk_below (xB BK257.out) hb); clear hb hbox hg; obtain ⟨Ao33, co33, eo33⟩ := Kd.R_slice HO260.out; subst eo33; have hnb34 := NB263_241.out; have hnc34 := NB241_263.out; have hnb35 := NB263_252.out; have hnc35 := NB252_263.out; have hnb36 := NB263_257.out; have hnc36 := NB257_263.out; obtain ⟨hcz37_0, hcz37_1, hfz37_0, hfz37_1⟩ := xT2 (W := w32) BK263.out))
  (try simp only [Act.put, List.setIfInBounds_toArray, List.set_cons_zero, List.set_cons_succ])
  go_cut [44] (fun v44 wc => ∃ (kq : Nat) (x44_11 : Bool), v44 = .bool x44_11 ∧ Aside0 (laws_FnExactLift.j0 kq a1 t251 t262 x44_11 l0_0 a0_1 t247 t250 t253 t256 t258 t261 = some r) ∧ Aside0 (kq ≤ k) ∧ Aside0 (Kd.R k50 50 wc w.heap.size (fun k_ => some k_ ≠ ((.slice Ao27 t253.length co27) : Value).ownBlock ∧ some k_ ≠ ((.slice Ao33 t258.length co33) : Value).ownBlock) (.slice Ao21 t247.length co21) t247) ∧ Aside0 (Kd.R k50 50 wc w.heap.size (fun k_ => some k_ ≠ ((.slice Ao21 t247.length co21) : Value).ownBlock ∧ some k_ ≠ ((.slice Ao33 t258.length co33) : Value).ownBlock) (.slice Ao27 t253.length co27) t253) ∧ Aside0 (Kd.R k50 50 wc w.heap.size (fun k_ => some k_ ≠ ((.slice Ao21 t247.length co21) : Value).ownBlock ∧ some k_ ≠ ((.slice Ao27 t253.length co27) : Value).ownBlock) (.slice Ao33 t258.length co33) t258) ∧ Aside0 (wc.heap[gb241]? = some (.cells #[(.slice A0_0 l0_0.length c0_0), .int .i64 a0_1] 36 (0, 0))) ∧ Aside0 (wc.heap[gb252]? = some (.cells #[(.slice Ao21 t247.length co21), .int .i64 t250] 42 (0, 0))) ∧ Aside0 (wc.heap[gb257]? = some (.cells #[(.slice Ao27 t253.length co27), .int .i64 t256] 42 (0, 0))) ∧ Aside0 (wc.heap[gb263]? = some (.cells #[(.slice Ao33 t258.length co33), .int .i64 t261] 42 (0, 0))) ∧ Aside0 (Below w.heap.size w wc))
  case first =>
   have H := HC12.out
   clear HC12
   replace H := Option.bind_eq_some_iff.mp H
   obtain ⟨t264, A380, H⟩ := H
   try dsimp only at H
   have A38 := am A380
   clear A380
   by_cases c39 : t264 = true
   ·subst c39
    have H1 : (laws_FnExactLift.j0 k a1 t251 t262 (t262 != t251) l0_0 a0_1 t247 t250 t253 t256 t258 t261) = some r := by rw [if_pos rfl] at H; exact H
    clear H
    have H := H1
    clear H1
    have H' := am H
    clear H
    have hnb40 := NB263_241.out
    have hnc40 := NB241_263.out
    have hnb41 := NB263_252.out
    have hnc41 := NB252_263.out
    have hnb42 := NB263_257.out
    have hnc42 := NB257_263.out
    obtain ⟨hcz43_0, hcz43_1, hfz43_0, hfz43_1⟩ := xT2 (W := w32) BK263.out
    have hnb44 := NB252_241.out
    have hnc44 := NB241_252.out
    have hnb45 := NB252_257.out
    have hnc45 := NB257_252.out
    obtain ⟨hcz46_0, hcz46_1, hfz46_0, hfz46_1⟩ := xT2 (W := w32) BK252.out
    go_wp2_with (first | ((with_reducible refine gate_callee (f := 18) rfl ?_); refine xG (some 38) 18 Try.func18 #[.agg #[.slice Ao33 t258.length co33, .int .i64 t261], .agg #[.slice Ao21 t247.length co21, .int .i64 t250]] (h := ?_); (with_reducible refine (laws_eqArena.calls k _ _ t258 t261 _ _ t247 t250 true _ ?side1 ?side2 ?side3 ?side4 A38.out).mono ?_); (case side1 => refine (Kd.R_reads' (e := 50) (base := w.heap.size) (ok := fun k_ => (((True ∧ some k_ ≠ (.slice Ao18 t243.length co18 : Value).ownBlock) ∧ some k_ ≠ (.slice Ao21 t247.length co21 : Value).ownBlock) ∧ some k_ ≠ (.slice Ao27 t253.length co27 : Value).ownBlock)) (n := t258.length) (c := co33) ?_).2.2; exact (by (with_reducible repeat (first | apply Kd.R_alloc | apply Kd.R_drewN | apply Kd.R_drew)); exact (Kd.R_mono (Kd.R_far (p := ⟨gb263, 1, none⟩) (Kd.R_far (p := ⟨gb263, 0, none⟩) (Kd.R_types HO260.out BK263.out (by decide)) (fun _ hk => by first | exact hk.2 | (simp [hk])) (.slice Ao33 t258.length co33)) (fun _ hk => by first | exact hk.2 | (simp [hk])) (.int .i64 t261)) (fun _ h_ => h_.1)))); (case side2 => exact (Kd.R_reads' HO260.out).2.1); (case side3 => refine (Kd.R_reads' (e := 50) (base := w.heap.size) (ok := fun k_ => (((True ∧ some k_ ≠ (.slice Ao18 t243.length co18 : Value).ownBlock) ∧ some k_ ≠ (.slice Ao27 t253.length co27 : Value).ownBlock) ∧ some k_ ≠ (.slice Ao33 t258.length co33 : Value).ownBlock)) (n := t247.length) (c := co21) ?_).2.2; exact (by (with_reducible repeat (first | apply Kd.R_alloc | apply Kd.R_drewN | apply Kd.R_drew)); exact (Kd.R_mono (Kd.R_far (p := ⟨gb263, 1, none⟩) (Kd.R_far (p := ⟨gb263, 0, none⟩) (Kd.R_types HO249.out BK263.out (by decide)) (fun _ hk => by first | exact hk.2 | (simp [hk])) (.slice Ao33 t258.length co33)) (fun _ hk => by first | exact hk.2 | (simp [hk])) (.int .i64 t261)) (fun _ h_ => h_.1)))); (case side4 => exact (Kd.R_reads' HO249.out).2.1); rintro e w47 ⟨rfl, hb⟩; refine ⟨_, rfl, ?_⟩; replace HO245 := am (Kd.R_below (by (with_reducible repeat (first | apply Kd.R_alloc | apply Kd.R_drewN | apply Kd.R_drew)); exact (Kd.R_mono (Kd.R_far (p := ⟨gb263, 1, none⟩) (Kd.R_far (p := ⟨gb263, 0, none⟩) (Kd.R_types HO245.out BK263.out (by decide)) (fun _ hk => by first | exact hk.2 | (simp [hk])) (.slice Ao33 t258.length co33)) (fun _ hk => by first | exact hk.2 | (simp [hk])) (.int .i64 t261)) (fun _ h_ => h_.1))) hb); replace HO249 := am (Kd.R_below (by (with_reducible repeat (first | apply Kd.R_alloc | apply Kd.R_drewN | apply Kd.R_drew)); exact (Kd.R_mono (Kd.R_far (p := ⟨gb263, 1, none⟩) (Kd.R_far (p := ⟨gb263, 0, none⟩) (Kd.R_types HO249.out BK263.out (by decide)) (fun _ hk => by first | exact hk.2 | (simp [hk])) (.slice Ao33 t258.length co33)) (fun _ hk => by first | exact hk.2 | (simp [hk])) (.int .i64 t261)) (fun _ h_ => h_.1))) hb); replace HO255 := am (Kd.R_below (by (with_reducible repeat (first | apply Kd.R_alloc | apply Kd.R_drewN | apply Kd.R_drew)); exact (Kd.R_mono (Kd.R_far (p := ⟨gb263, 1, none⟩) (Kd.R_far (p := ⟨gb263, 0, none⟩) (Kd.R_types HO255.out BK263.out (by decide)) (fun _ hk => by first | exact hk.2 | (simp [hk])) (.slice Ao33 t258.length co33)) (fun _ hk => by first | exact hk.2 | (simp [hk])) (.int .i64 t261)) (fun _ h_ => h_.1))) hb); replace HO260 := am (Kd.R_below (by (with_reducible repeat (first | apply Kd.R_alloc | apply Kd.R_drewN | apply Kd.R_drew)); exact (Kd.R_mono (Kd.R_far (p := ⟨gb263, 1, none⟩) (Kd.R_far (p := ⟨gb263, 0, none⟩) (Kd.R_types HO260.out BK263.out (by decide)) (fun _ hk => by first | exact hk.2 | (simp [hk])) (.slice Ao33 t258.length co33)) (fun _ hk => by first | exact hk.2 | (simp [hk])) (.int .i64 t261)) (fun _ h_ => h_.1))) hb); replace BK241 := am (blk_below (xB BK241.out) hb); replace BK252 := am (blk_below (xB BK252.out) hb); replace BK257 := am (blk_below (xB BK257.out) hb); replace BK263 := am (blk_below (xP BK263.out) hb); replace HB := am (below_step (xW HB.out) hb); (try clear hb); ))
    go_meet
    case rel => exact ⟨_, ((t262 != t251)), (xQ), H', ⟨by first | omega | exact Nat.le_refl _⟩, ⟨Kd.R_mono (xR HO249.out) (fun _ hk => by first | exact ⟨hk.1.2, hk.2⟩ | (simp [hk]))⟩, ⟨Kd.R_mono (xR HO255.out) (fun _ hk => by first | exact ⟨hk.1.2, hk.2⟩ | (simp [hk]))⟩, ⟨Kd.R_mono (xR HO260.out) (fun _ hk => by first | exact ⟨hk.1.2, hk.2⟩ | (simp [hk]))⟩, ⟨xB BK241.out⟩, ⟨xB BK252.out⟩, ⟨xB BK257.out⟩, ⟨xB BK263.out⟩, ⟨xW HB.out⟩⟩
   ·replace c39 := Bool.eq_false_iff.mpr c39
    subst c39
    have H1 : (laws_FnExactLift.j0 k a1 t251 t262 true l0_0 a0_1 t247 t250 t253 t256 t258 t261) = some r := by rw [if_neg (show ¬ (false = true) by decide)] at H; exact H
    clear H
    have H := H1
    clear H1
    have H' := am H
    clear H
    have hnb48 := NB263_241.out
    have hnc48 := NB241_263.out
    have hnb49 := NB263_252.out
    have hnc49 := NB252_263.out
    have hnb50 := NB263_257.out
    have hnc50 := NB257_263.out
    obtain ⟨hcz51_0, hcz51_1, hfz51_0, hfz51_1⟩ := xT2 (W := w32) BK263.out
    have hnb52 := NB252_241.out
    have hnc52 := NB241_252.out
    have hnb53 := NB252_257.out
    have hnc53 := NB257_252.out
    obtain ⟨hcz54_0, hcz54_1, hfz54_0, hfz54_1⟩ := xT2 (W := w32) BK252.out
    go_wp2_with (first | ((with_reducible refine gate_callee (f := 18) rfl ?_); refine xG (some 38) 18 Try.func18 #[.agg #[.slice Ao33 t258.length co33, .int .i64 t261], .agg #[.slice Ao21 t247.length co21, .int .i64 t250]] (h := ?_); (with_reducible refine (laws_eqArena.calls k _ _ t258 t261 _ _ t247 t250 false _ ?side1 ?side2 ?side3 ?side4 A38.out).mono ?_); (case side1 => refine (Kd.R_reads' (e := 50) (base := w.heap.size) (ok := fun k_ => (((True ∧ some k_ ≠ (.slice Ao18 t243.length co18 : Value).ownBlock) ∧ some k_ ≠ (.slice Ao21 t247.length co21 : Value).ownBlock) ∧ some k_ ≠ (.slice Ao27 t253.length co27 : Value).ownBlock)) (n := t258.length) (c := co33) ?_).2.2; exact (by (with_reducible repeat (first | apply Kd.R_alloc | apply Kd.R_drewN | apply Kd.R_drew)); exact (Kd.R_mono (Kd.R_far (p := ⟨gb263, 1, none⟩) (Kd.R_far (p := ⟨gb263, 0, none⟩) (Kd.R_types HO260.out BK263.out (by decide)) (fun _ hk => by first | exact hk.2 | (simp [hk])) (.slice Ao33 t258.length co33)) (fun _ hk => by first | exact hk.2 | (simp [hk])) (.int .i64 t261)) (fun _ h_ => h_.1)))); (case side2 => exact (Kd.R_reads' HO260.out).2.1); (case side3 => refine (Kd.R_reads' (e := 50) (base := w.heap.size) (ok := fun k_ => (((True ∧ some k_ ≠ (.slice Ao18 t243.length co18 : Value).ownBlock) ∧ some k_ ≠ (.slice Ao27 t253.length co27 : Value).ownBlock) ∧ some k_ ≠ (.slice Ao33 t258.length co33 : Value).ownBlock)) (n := t247.length) (c := co21) ?_).2.2; exact (by (with_reducible repeat (first | apply Kd.R_alloc | apply Kd.R_drewN | apply Kd.R_drew)); exact (Kd.R_mono (Kd.R_far (p := ⟨gb263, 1, none⟩) (Kd.R_far (p := ⟨gb263, 0, none⟩) (Kd.R_types HO249.out BK263.out (by decide)) (fun _ hk => by first | exact hk.2 | (simp [hk])) (.slice Ao33 t258.length co33)) (fun _ hk => by first | exact hk.2 | (simp [hk])) (.int .i64 t261)) (fun _ h_ => h_.1)))); (case side4 => exact (Kd.R_reads' HO249.out).2.1); rintro e w55 ⟨rfl, hb⟩; refine ⟨_, rfl, ?_⟩; replace HO245 := am (Kd.R_below (by (with_reducible repeat (first | apply Kd.R_alloc | apply Kd.R_drewN | apply Kd.R_drew)); exact (Kd.R_mono (Kd.R_far (p := ⟨gb263, 1, none⟩) (Kd.R_far (p := ⟨gb263, 0, none⟩) (Kd.R_types HO245.out BK263.out (by decide)) (fun _ hk => by first | exact hk.2 | (simp [hk])) (.slice Ao33 t258.length co33)) (fun _ hk => by first | exact hk.2 | (simp [hk])) (.int .i64 t261)) (fun _ h_ => h_.1))) hb); replace HO249 := am (Kd.R_below (by (with_reducible repeat (first | apply Kd.R_alloc | apply Kd.R_drewN | apply Kd.R_drew)); exact (Kd.R_mono (Kd.R_far (p := ⟨gb263, 1, none⟩) (Kd.R_far (p := ⟨gb263, 0, none⟩) (Kd.R_types HO249.out BK263.out (by decide)) (fun _ hk => by first | exact hk.2 | (simp [hk])) (.slice Ao33 t258.length co33)) (fun _ hk => by first | exact hk.2 | (simp [hk])) (.int .i64 t261)) (fun _ h_ => h_.1))) hb); replace HO255 := am (Kd.R_below (by (with_reducible repeat (first | apply Kd.R_alloc | apply Kd.R_drewN | apply Kd.R_drew)); exact (Kd.R_mono (Kd.R_far (p := ⟨gb263, 1, none⟩) (Kd.R_far (p := ⟨gb263, 0, none⟩) (Kd.R_types HO255.out BK263.out (by decide)) (fun _ hk => by first | exact hk.2 | (simp [hk])) (.slice Ao33 t258.length co33)) (fun _ hk => by first | exact hk.2 | (simp [hk])) (.int .i64 t261)) (fun _ h_ => h_.1))) hb); replace HO260 := am (Kd.R_below (by (with_reducible repeat (first | apply Kd.R_alloc | apply Kd.R_drewN | apply Kd.R_drew)); exact (Kd.R_mono (Kd.R_far (p := ⟨gb263, 1, none⟩) (Kd.R_far (p := ⟨gb263, 0, none⟩) (Kd.R_types HO260.out BK263.out (by decide)) (fun _ hk => by first | exact hk.2 | (simp [hk])) (.slice Ao33 t258.length co33)) (fun _ hk => by first | exact hk.2 | (simp [hk])) (.int .i64 t261)) (fun _ h_ => h_.1))) hb); replace BK241 := am (blk_below (xB BK241.out) hb); replace BK252 := am (blk_below (xB BK252.out) hb); replace BK257 := am (blk_below (xB BK257.out) hb); replace BK263 := am (blk_below (xP BK263.out) hb); replace HB := am (below_step (xW HB.out) hb); (try clear hb); ))
    go_meet
    case rel => exact ⟨_, (true), (xQ), H', ⟨by first | omega | exact Nat.le_refl _⟩, ⟨Kd.R_mono (xR HO249.out) (fun _ hk => by first | exact ⟨hk.1.2, hk.2⟩ | (simp [hk]))⟩, ⟨Kd.R_mono (xR HO255.out) (fun _ hk => by first | exact ⟨hk.1.2, hk.2⟩ | (simp [hk]))⟩, ⟨Kd.R_mono (xR HO260.out) (fun _ hk => by first | exact ⟨hk.1.2, hk.2⟩ | (simp [hk]))⟩, ⟨xB BK241.out⟩, ⟨xB BK252.out⟩, ⟨xB BK257.out⟩, ⟨xB BK263.out⟩, ⟨xW HB.out⟩⟩
  case rest =>
   clear HC12
   try clear c1
   try clear c2
   try clear p2
   try clear c3
   try clear c4
   try clear c4b0
   try clear c5
   try clear c6
   try clear c14
   try clear c16
   try clear c18
   try clear c22
   try clear c24
   try clear c25
   try clear c28
   try clear c29
   try clear c34
   try clear c35
   try clear c36
   try clear c39
   try clear c40
   try clear c41
   try clear c42
   try clear c44
   try clear c45
   try clear c48
   try clear c49
   try clear c50
   try clear c52
   try clear c53
   try clear hcz14_0
   try clear hcz14_1
   try clear hcz16_0
   try clear hcz16_1
   try clear hcz23_0
   try clear hcz23_1
   try clear hcz24_0
   try clear hcz24_1
   try clear hcz30_0
   try clear hcz30_1
   try clear hcz37_0
   try clear hcz37_1
   try clear hcz43_0
   try clear hcz43_1
   try clear hcz46_0
   try clear hcz46_1
   try clear hcz51_0
   try clear hcz51_1
   try clear hcz54_0
   try clear hcz54_1
   try clear hcz6_0
   try clear hcz6_1
   try clear hfz14_0
   try clear hfz14_1
   try clear hfz16_0
   try clear hfz16_1
   try clear hfz23_0
   try clear hfz23_1
   try clear hfz24_0
   try clear hfz24_1
   try clear hfz30_0
   try clear hfz30_1
   try clear hfz37_0
   try clear hfz37_1
   try clear hfz43_0
   try clear hfz43_1
   try clear hfz46_0
   try clear hfz46_1
   try clear hfz51_0
   try clear hfz51_1
   try clear hfz54_0
   try clear hfz54_1
   try clear hfz6_0
   try clear hfz6_1
   obtain ⟨kq, x44_11, rfl, HA, HJ11, HO_253000, HO_258000, HO_264000, BK241, BK252, BK257, BK263, HB⟩ := hcut
   cases kq with
   | zero => exact absurd HA.out (by simp [laws_FnExactLift.j0])
   | succ kj11 =>
    have H := HA.out
    clear HA
    simp only [laws_FnExactLift.j0] at H
    by_cases c56 : x44_11 = true
    ·subst c56
     have H1 : (some false) = some r := by rw [if_pos rfl] at H; exact H
     clear H
     have H := H1
     clear H1
     obtain rfl := Option.some.inj H
     go_wp2
     go_ret
     exact ⟨xV, xW HB.out⟩
    ·replace c56 := Bool.eq_false_iff.mpr c56
     subst c56
     have H1 : ((laws_toArena.f kj11 l0_0 a0_1).bind fun bt265 => ((laws_eqArena.f kj11 t253 t256 bt265.1 bt265.2).bind fun t269 => (if t269 = true then ((laws_markArena.f kj11 t253 t256 1).bind fun bt270 => (if bt270.1 < 0 then (laws_FnExactLift.j1 kj11 a1 t251 true l0_0 a0_1 t247 t250 t258 t261) else ((laws_eqArena.f kj11 t258 t261 t247 t250).bind fun t272 => (if t272 = true then (laws_FnExactLift.j1 kj11 a1 t251 (t262 != t251) l0_0 a0_1 t247 t250 t258 t261) else (laws_FnExactLift.j1 kj11 a1 t251 true l0_0 a0_1 t247 t250 t258 t261))))) else (some false)))) = some r := by rw [if_neg (show ¬ (false = true) by decide)] at H; exact H
     clear H
     have H := H1
     clear H1
     replace H := Option.bind_eq_some_iff.mp H
     obtain ⟨⟨t265, t268⟩, A570, H⟩ := H
     try dsimp only at H
     have A57 := am A570
     clear A570
     replace H := Option.bind_eq_some_iff.mp H
     obtain ⟨t269, A580, H⟩ := H
     try dsimp only at H
     have A58 := am A580
     clear A580
     by_cases c59 : t269 = true
     ·subst c59
      have H1 : ((laws_markArena.f kj11 t253 t256 1).bind fun bt270 => (if bt270.1 < 0 then (laws_FnExactLift.j1 kj11 a1 t251 true l0_0 a0_1 t247 t250 t258 t261) else ((laws_eqArena.f kj11 t258 t261 t247 t250).bind fun t272 => (if t272 = true then (laws_FnExactLift.j1 kj11 a1 t251 (t262 != t251) l0_0 a0_1 t247 t250 t258 t261) else (laws_FnExactLift.j1 kj11 a1 t251 true l0_0 a0_1 t247 t250 t258 t261))))) = some r := by rw [if_pos rfl] at H; exact H
      clear H
      have H := H1
      clear H1
      replace H := Option.bind_eq_some_iff.mp H
      obtain ⟨⟨t270, t271⟩, A600, H⟩ := H
      try dsimp only at H
      have A60 := am A600
      clear A600
      have HC61 := am H
      clear H
      try go_wp2
      replace HO_253000 := am (Kd.R_drew HO_253000.out)
      replace HO_258000 := am (Kd.R_drew HO_258000.out)
      replace HO_264000 := am (Kd.R_drew HO_264000.out)
      replace BK241 := am (blk_drew BK241.out)
      replace BK252 := am (blk_drew BK252.out)
      replace BK257 := am (blk_drew BK257.out)
      replace BK263 := am (blk_drew BK263.out)
      replace HB := am (below_drew1 HB.out)
      refine start_ (n := 5) (S := fun w' => w'.cell? ⟨gb257, 0, none⟩ = some (.slice Ao27 t253.length co27) ∧ w'.cell? ⟨gb257, 1, none⟩ = some (.int .i64 t256) ∧ w'.cell? ⟨gb241, 0, none⟩ = some (.slice A0_0 l0_0.length c0_0) ∧ w'.cell? ⟨gb241, 1, none⟩ = some (.int .i64 a0_1)) (ds := []) #[false, false, false, false, false] (by kernel_rfl) rfl rfl ⟨(blk_cell BK257.out 0).trans rfl, (blk_cell BK257.out 1).trans rfl, (blk_cell BK241.out 0).trans rfl, (blk_cell BK241.out 1).trans rfl⟩ (fun hHeld => ?_)
      generalize wc.drew = w62 at HO_253000 HO_258000 HO_264000 BK241 BK252 BK257 BK263 HB hHeld ⊢
      refine take_ (i := 0) (N := some 45) (v := ?_) (a' := ?_) #[true, false, false, false, false] rfl rfl (by kernel_rfl) (fun _ _ _ h => h) (Or.inl ⟨by rfl, ?_⟩) hHeld ?_ ?_
      rotate_left
      ·rintro w' ⟨s0, s1, s2, s3⟩
       go_simp
       with_reducible rfl
      rotate_left
      ·simp only [Act.put, List.setIfInBounds_toArray, List.set_cons_zero, List.set_cons_succ, i64_w, i32_w]
       rfl
      refine take_ (i := 1) (N := some 46) (v := ?_) (a' := ?_) #[true, true, false, false, false] rfl rfl (by kernel_rfl) (fun _ _ _ h => h) (Or.inl ⟨by rfl, ?_⟩) hHeld ?_ ?_
      rotate_left
      ·rintro w' ⟨s0, s1, s2, s3⟩
       go_simp
       with_reducible rfl
      rotate_left
      ·simp only [Act.put, List.setIfInBounds_toArray, List.set_cons_zero, List.set_cons_succ, i64_w, i32_w]
       rfl
      refine one_ (i := 2) (N := some 47) #[true, true, true, false, false] rfl rfl (by kernel_rfl) (by decide) (fun K hK => ?_)
      refine xG1 16 Try.func16 #[.agg #[.slice A0_0 l0_0.length c0_0, .int .i64 a0_1]] (h := ?_)
      with_reducible refine (laws_toArena.calls kj11 _ _ l0_0 a0_1 t265 t268 _ ?side1 ?side2 A57.out).mono ?_
      (case side1 => exact xC (Kd.C_below HR0_0.out HB.out))
      (case side2 => exact HC0_0.out)
      rintro e w63 ⟨v266, rfl, ho0, hb⟩
      refine ⟨_, rfl, ?_⟩
      have HO267 := am (Kd.R_lower (Kd.R_new' (Kd.R_new' (Kd.R_new' ho0 (Kd.R_lt (xR HO_253000.out))) (Kd.R_lt (xR HO_258000.out))) (Kd.R_lt (xR HO_264000.out))) (below_size (xW HB.out)))
      replace HO_253000 := am (Kd.R_elder' (xR HO_253000.out) (Kd.R_base ho0) hb)
      replace HO_258000 := am (Kd.R_elder' (xR HO_258000.out) (Kd.R_base ho0) hb)
      replace HO_264000 := am (Kd.R_elder' (xR HO_264000.out) (Kd.R_base ho0) hb)
      replace BK241 := am (blk_below (xB BK241.out) hb)
      replace BK252 := am (blk_below (xB BK252.out) hb)
      replace BK257 := am (blk_below (xB BK257.out) hb)
      replace BK263 := am (blk_below (xB BK263.out) hb)
      replace HB := am (below_step (xW HB.out) hb)
      (try clear hb)
      (try clear ho0)
      obtain ⟨Ao64, co64, eo64⟩ := Kd.R_slice HO267.out
      (first | subst eo64 | (injection eo64 with f1_ f2_ f3_; have f4_ := f1_.symm; have f5_ := f3_.symm; clear f1_ f2_ f3_; subst f4_; subst f5_))
      refine hK.out _ _ ⟨(blk_cell BK257.out 0).trans rfl, (blk_cell BK257.out 1).trans rfl, (blk_cell BK241.out 0).trans rfl, (blk_cell BK241.out 1).trans rfl⟩ (fun hHeld => ?_)
      clear hK K
      refine xN1 (h := ?_)
      refine one_ (i := 3) (N := some 48) #[true, true, true, true, false] rfl rfl (by kernel_rfl) (by decide) (fun K hK => ?_)
      refine xG1 18 Try.func18 #[.agg #[.slice Ao27 t253.length co27, .int .i64 t256], .agg #[.slice Ao64 t265.length co64, .int .i64 t268]] (h := ?_)
      with_reducible refine (laws_eqArena.calls kj11 _ _ t253 t256 _ _ t265 t268 true _ ?side1 ?side2 ?side3 ?side4 A58.out).mono ?_
      (case side1 => exact xC ((Kd.R_reads' HO_258000.out).2.2))
      (case side2 => exact (Kd.R_reads' HO_258000.out).2.1)
      (case side3 => exact xC ((Kd.R_reads' HO267.out).2.2))
      (case side4 => exact (Kd.R_reads' HO267.out).2.1)
      rintro e w65 ⟨rfl, hb⟩
      refine ⟨_, rfl, ?_⟩
      replace HO_253000 := am (Kd.R_below (xR HO_253000.out) hb)
      replace HO_258000 := am (Kd.R_below (xR HO_258000.out) hb)
      replace HO_264000 := am (Kd.R_below (xR HO_264000.out) hb)
      replace HO267 := am (Kd.R_below (xR HO267.out) hb)
      replace BK241 := am (blk_below (xB BK241.out) hb)
      replace BK252 := am (blk_below (xB BK252.out) hb)
      replace BK257 := am (blk_below (xB BK257.out) hb)
      replace BK263 := am (blk_below (xB BK263.out) hb)
      replace HB := am (below_step (xW HB.out) hb)
      (try clear hb)
      refine hK.out _ _ ⟨(blk_cell BK257.out 0).trans rfl, (blk_cell BK257.out 1).trans rfl, (blk_cell BK241.out 0).trans rfl, (blk_cell BK241.out 1).trans rfl⟩ (fun hHeld => ?_)
      clear hK K
      refine xN1 (h := ?_)
      refine pure_ (i := 4) (N := some 49) (v := ?_) (a' := ?_) #[true, true, true, true, true] rfl rfl (by kernel_rfl) (fun _ _ _ h => h) (Or.inl ⟨by rfl, ?_⟩) ?_ ?_
      rotate_left
      ·intro w'
       go_simp
       with_reducible rfl
      rotate_left
      ·simp only [Act.put, List.setIfInBounds_toArray, List.set_cons_zero, List.set_cons_succ, i64_w, i32_w]
       rfl
      refine done_ (by kernel_rfl) ?_
      have hnb66 := NB257_241.out
      have hnc66 := NB241_257.out
      have hnb67 := NB257_252.out
      have hnc67 := NB252_257.out
      have hnb68 := NB257_263.out
      have hnc68 := NB263_257.out
      obtain ⟨hcz69_0, hcz69_1, hfz69_0, hfz69_1⟩ := xT2 (W := w65) BK257.out
      go_upto_region 14 with (first | ((with_reducible refine gate_callee (f := 26) rfl ?_); refine xG (some 52) 26 Try.func26 #[.agg #[.slice Ao27 t253.length co27, .int .i64 t256], .int .i64 1] (h := ?_); (with_reducible refine (laws_markArena.calls kj11 (fun k_ => some k_ = (.slice Ao27 t253.length co27 : Value).ownBlock) (.slice Ao27 t253.length co27) t253 t256 1 t270 t271 w _ ?side1 ?side2 A60.out).mono ?_); (case side1 => exact xW HB.out); (case side2 => exact Kd.R_tight rfl HO_258000.out); rintro e w70 ⟨rfl, hy0, hb, hkp⟩; refine ⟨_, rfl, ?_⟩; replace HO_253000 := am (Kd.R_mono (ok' := fun k_ => some k_ ≠ (.slice Ao27 t253.length co27 : Value).ownBlock ∧ some k_ ≠ (.slice Ao33 t258.length co33 : Value).ownBlock ∧ some k_ ≠ (.slice Ao64 t265.length co64 : Value).ownBlock) (Kd.R_keptB (HO_253000.out) hkp (fun k_ hk_ hs_ => by first | exact (hk_.1.1) hs_ | (rcases hs_ with e_ | e_ <;> (revert hk_; simp [e_])) | (revert hk_; simp [hs_]))) (fun k_ hk_ => by first | exact ⟨hk_.1.1.1, hk_.1.1.2, hk_.1.2⟩ | (revert hk_; intro hk_; simp [hk_]))); replace HO_264000 := am (Kd.R_mono (ok' := fun k_ => some k_ ≠ (.slice Ao21 t247.length co21 : Value).ownBlock ∧ some k_ ≠ (.slice Ao27 t253.length co27 : Value).ownBlock ∧ some k_ ≠ (.slice Ao64 t265.length co64 : Value).ownBlock) (Kd.R_keptB (HO_264000.out) hkp (fun k_ hk_ hs_ => by first | exact (hk_.1.2) hs_ | (rcases hs_ with e_ | e_ <;> (revert hk_; simp [e_])) | (revert hk_; simp [hs_]))) (fun k_ hk_ => by first | exact ⟨hk_.1.1.1, hk_.1.1.2, hk_.1.2⟩ | (revert hk_; intro hk_; simp [hk_]))); replace BK241 := am (blk_kept (xB BK241.out) hkp (fun hs_ => (fun e_ => (Kd.R_ne HO_258000.out BK241.out (by decide)) e_) hs_)); replace BK252 := am (blk_kept (xB BK252.out) hkp (fun hs_ => (fun e_ => (Kd.R_ne HO_258000.out BK252.out (by decide)) e_) hs_)); replace BK257 := am (blk_kept (xB BK257.out) hkp (fun hs_ => (fun e_ => (Kd.R_ne HO_258000.out BK257.out (by decide)) e_) hs_)); replace BK263 := am (blk_kept (xB BK263.out) hkp (fun hs_ => (fun e_ => (Kd.R_ne HO_258000.out BK263.out (by decide)) e_) hs_)); replace HO_258000 := am (Kd.R_reok rfl hy0 (fun k_ e_ => HO_258000.out.1 k_ e_)); replace HO267 := am (Kd.R_mono (ok' := fun k_ => some k_ ≠ (.slice Ao21 t247.length co21 : Value).ownBlock ∧ some k_ ≠ (.slice Ao27 t253.length co27 : Value).ownBlock ∧ some k_ ≠ (.slice Ao33 t258.length co33 : Value).ownBlock) (Kd.R_keptB (HO267.out) hkp (fun k_ hk_ hs_ => by first | exact (hk_.1.2) hs_ | (rcases hs_ with e_ | e_ <;> (revert hk_; simp [e_])) | (revert hk_; simp [hs_]))) (fun k_ hk_ => by first | exact ⟨hk_.1.1.1.2, hk_.1.1.2, hk_.1.2⟩ | (revert hk_; intro hk_; simp [hk_]))); replace HB := am (hb); (try clear hb); (try clear hkp); (try clear hy0)))
      (try simp only [Act.put, List.setIfInBounds_toArray, List.set_cons_zero, List.set_cons_succ])
      go_cut [65] (fun v65 wc => ∃ (kq : Nat) (x65_60 : Bool), v65 = .bool x65_60 ∧ Aside0 (laws_FnExactLift.j1 kq a1 t251 x65_60 l0_0 a0_1 t247 t250 t258 t261 = some r) ∧ Aside0 (kq ≤ kj11) ∧ Aside0 (Kd.R k50 50 wc w.heap.size (fun k_ => some k_ ≠ ((.slice Ao27 t253.length co27) : Value).ownBlock ∧ some k_ ≠ ((.slice Ao33 t258.length co33) : Value).ownBlock) (.slice Ao21 t247.length co21) t247) ∧ Aside0 (Kd.R k50 50 wc w.heap.size (fun k_ => some k_ ≠ ((.slice Ao21 t247.length co21) : Value).ownBlock ∧ some k_ ≠ ((.slice Ao33 t258.length co33) : Value).ownBlock) (.slice Ao27 t253.length co27) t271) ∧ Aside0 (Kd.R k50 50 wc w.heap.size (fun k_ => some k_ ≠ ((.slice Ao21 t247.length co21) : Value).ownBlock ∧ some k_ ≠ ((.slice Ao27 t253.length co27) : Value).ownBlock) (.slice Ao33 t258.length co33) t258) ∧ Aside0 (wc.heap[gb241]? = some (.cells #[(.slice A0_0 l0_0.length c0_0), .int .i64 a0_1] 36 (0, 0))) ∧ Aside0 (wc.heap[gb252]? = some (.cells #[(.slice Ao21 t247.length co21), .int .i64 t250] 42 (0, 0))) ∧ Aside0 (wc.heap[gb257]? = some (.cells #[(.slice Ao27 t253.length co27), .int .i64 t256] 42 (0, 0))) ∧ Aside0 (wc.heap[gb263]? = some (.cells #[(.slice Ao33 t258.length co33), .int .i64 t261] 42 (0, 0))) ∧ Aside0 (Below w.heap.size w wc))
      case first =>
       have H := HC61.out
       clear HC61
       by_cases c71 : t270 < 0
       ·rw [if_pos c71] at H
        have c71b0 : decide (t270 < 0) = true := decide_eq_true c71
        clear c71
        (first | rw [c71b0] | (simp only [i64_w, i32_w]; rw [c71b0]) | skip)
        have H' := am H
        clear H
        go_wp2
        go_meet
        case rel => exact ⟨_, (true), (xQ), H', ⟨by have := HJ11.out; first | omega | exact Nat.le_refl _⟩, ⟨Kd.R_mono (xR HO_253000.out) (fun _ hk => by first | exact ⟨hk.1, hk.2.1⟩ | (simp [hk]))⟩, ⟨Kd.R_mono (xR HO_258000.out) (fun _ hk => by first | exact ⟨hk.1.1, hk.1.2⟩ | (simp [hk]))⟩, ⟨Kd.R_mono (xR HO_264000.out) (fun _ hk => by first | exact ⟨hk.1, hk.2.1⟩ | (simp [hk]))⟩, ⟨xB BK241.out⟩, ⟨xB BK252.out⟩, ⟨xB BK257.out⟩, ⟨xB BK263.out⟩, ⟨xW HB.out⟩⟩
       ·rw [if_neg c71] at H
        have c71b0 : decide (t270 < 0) = false := decide_eq_false c71
        clear c71
        (first | rw [c71b0] | (simp only [i64_w, i32_w]; rw [c71b0]) | skip)
        replace H := Option.bind_eq_some_iff.mp H
        obtain ⟨t272, A720, H⟩ := H
        try dsimp only at H
        have A72 := am A720
        clear A720
        by_cases c73 : t272 = true
        ·subst c73
         have H1 : (laws_FnExactLift.j1 kj11 a1 t251 (t262 != t251) l0_0 a0_1 t247 t250 t258 t261) = some r := by rw [if_pos rfl] at H; exact H
         clear H
         have H := H1
         clear H1
         have H' := am H
         clear H
         have hnb74 := NB263_241.out
         have hnc74 := NB241_263.out
         have hnb75 := NB263_252.out
         have hnc75 := NB252_263.out
         have hnb76 := NB263_257.out
         have hnc76 := NB257_263.out
         obtain ⟨hcz77_0, hcz77_1, hfz77_0, hfz77_1⟩ := xT2 (W := w70) BK263.out
         have hnb78 := NB252_241.out
         have hnc78 := NB241_252.out
         have hnb79 := NB252_257.out
         have hnc79 := NB257_252.out
         obtain ⟨hcz80_0, hcz80_1, hfz80_0, hfz80_1⟩ := xT2 (W := w70) BK252.out
         go_wp2_with (first | (go_at_call 18; (with_reducible refine (laws_eqArena.calls kj11 _ _ t258 t261 _ _ t247 t250 true _ ?side1 ?side2 ?side3 ?side4 A72.out).mono ?_); (case side1 => exact xC ((Kd.R_reads' HO_264000.out).2.2)); (case side2 => exact (Kd.R_reads' HO_264000.out).2.1); (case side3 => exact xC ((Kd.R_reads' HO_253000.out).2.2)); (case side4 => exact (Kd.R_reads' HO_253000.out).2.1); rintro e w81 ⟨rfl, hb⟩; replace HO_253000 := am (Kd.R_below (xR HO_253000.out) hb); replace HO_258000 := am (Kd.R_below (xR HO_258000.out) hb); replace HO_264000 := am (Kd.R_below (xR HO_264000.out) hb); replace HO267 := am (Kd.R_below (xR HO267.out) hb); replace BK241 := am (blk_below (xB BK241.out) hb); replace BK252 := am (blk_below (xB BK252.out) hb); replace BK257 := am (blk_below (xB BK257.out) hb); replace BK263 := am (blk_below (xB BK263.out) hb); replace HB := am (below_step (xW HB.out) hb); (try clear hb); ))
         go_meet
         case rel => exact ⟨_, ((t262 != t251)), (xQ), H', ⟨by have := HJ11.out; first | omega | exact Nat.le_refl _⟩, ⟨Kd.R_mono (xR HO_253000.out) (fun _ hk => by first | exact ⟨hk.1, hk.2.1⟩ | (simp [hk]))⟩, ⟨Kd.R_mono (xR HO_258000.out) (fun _ hk => by first | exact ⟨hk.1.1, hk.1.2⟩ | (simp [hk]))⟩, ⟨Kd.R_mono (xR HO_264000.out) (fun _ hk => by first | exact ⟨hk.1, hk.2.1⟩ | (simp [hk]))⟩, ⟨xB BK241.out⟩, ⟨xB BK252.out⟩, ⟨xB BK257.out⟩, ⟨xB BK263.out⟩, ⟨xW HB.out⟩⟩
        ·replace c73 := Bool.eq_false_iff.mpr c73
         subst c73
         have H1 : (laws_FnExactLift.j1 kj11 a1 t251 true l0_0 a0_1 t247 t250 t258 t261) = some r := by rw [if_neg (show ¬ (false = true) by decide)] at H; exact H
         clear H
         have H := H1
         clear H1
         have H' := am H
         clear H
         have hnb82 := NB263_241.out
         have hnc82 := NB241_263.out
         have hnb83 := NB263_252.out
         have hnc83 := NB252_263.out
         have hnb84 := NB263_257.out
         have hnc84 := NB257_263.out
         obtain ⟨hcz85_0, hcz85_1, hfz85_0, hfz85_1⟩ := xT2 (W := w70) BK263.out
         have hnb86 := NB252_241.out
         have hnc86 := NB241_252.out
         have hnb87 := NB252_257.out
         have hnc87 := NB257_252.out
         obtain ⟨hcz88_0, hcz88_1, hfz88_0, hfz88_1⟩ := xT2 (W := w70) BK252.out
         go_wp2_with (first | (go_at_call 18; (with_reducible refine (laws_eqArena.calls kj11 _ _ t258 t261 _ _ t247 t250 false _ ?side1 ?side2 ?side3 ?side4 A72.out).mono ?_); (case side1 => exact xC ((Kd.R_reads' HO_264000.out).2.2)); (case side2 => exact (Kd.R_reads' HO_264000.out).2.1); (case side3 => exact xC ((Kd.R_reads' HO_253000.out).2.2)); (case side4 => exact (Kd.R_reads' HO_253000.out).2.1); rintro e w89 ⟨rfl, hb⟩; replace HO_253000 := am (Kd.R_below (xR HO_253000.out) hb); replace HO_258000 := am (Kd.R_below (xR HO_258000.out) hb); replace HO_264000 := am (Kd.R_below (xR HO_264000.out) hb); replace HO267 := am (Kd.R_below (xR HO267.out) hb); replace BK241 := am (blk_below (xB BK241.out) hb); replace BK252 := am (blk_below (xB BK252.out) hb); replace BK257 := am (blk_below (xB BK257.out) hb); replace BK263 := am (blk_below (xB BK263.out) hb); replace HB := am (below_step (xW HB.out) hb); (try clear hb); ))
         go_meet
         case rel => exact ⟨_, (true), (xQ), H', ⟨by have := HJ11.out; first | omega | exact Nat.le_refl _⟩, ⟨Kd.R_mono (xR HO_253000.out) (fun _ hk => by first | exact ⟨hk.1, hk.2.1⟩ | (simp [hk]))⟩, ⟨Kd.R_mono (xR HO_258000.out) (fun _ hk => by first | exact ⟨hk.1.1, hk.1.2⟩ | (simp [hk]))⟩, ⟨Kd.R_mono (xR HO_264000.out) (fun _ hk => by first | exact ⟨hk.1, hk.2.1⟩ | (simp [hk]))⟩, ⟨xB BK241.out⟩, ⟨xB BK252.out⟩, ⟨xB BK257.out⟩, ⟨xB BK263.out⟩, ⟨xW HB.out⟩⟩
      case rest =>
       clear HC61
       try clear c1
       try clear c2
       try clear p2
       try clear c3
       try clear c4
       try clear c4b0
       try clear c5
       try clear c6
       try clear c7
       try clear c8
       try clear c14
       try clear c16
       try clear c18
       try clear c22
       try clear c24
       try clear c25
       try clear c26
       try clear c28
       try clear c29
       try clear c34
       try clear c35
       try clear c36
       try clear c39
       try clear c40
       try clear c41
       try clear c42
       try clear c44
       try clear c45
       try clear c48
       try clear c49
       try clear c50
       try clear c52
       try clear c53
       try clear c56
       try clear c59
       try clear c66
       try clear c67
       try clear c68
       try clear c71
       try clear c71b0
       try clear c73
       try clear c74
       try clear c75
       try clear c76
       try clear c78
       try clear c79
       try clear c82
       try clear c83
       try clear c84
       try clear c86
       try clear c87
       try clear hcz14_0
       try clear hcz14_1
       try clear hcz16_0
       try clear hcz16_1
       try clear hcz23_0
       try clear hcz23_1
       try clear hcz24_0
       try clear hcz24_1
       try clear hcz30_0
       try clear hcz30_1
       try clear hcz37_0
       try clear hcz37_1
       try clear hcz43_0
       try clear hcz43_1
       try clear hcz46_0
       try clear hcz46_1
       try clear hcz51_0
       try clear hcz51_1
       try clear hcz54_0
       try clear hcz54_1
       try clear hcz69_0
       try clear hcz69_1
       try clear hcz6_0
       try clear hcz6_1
       try clear hcz77_0
       try clear hcz77_1
       try clear hcz80_0
       try clear hcz80_1
       try clear hcz85_0
       try clear hcz85_1
       try clear hcz88_0
       try clear hcz88_1
       try clear hfz14_0
       try clear hfz14_1
       try clear hfz16_0
       try clear hfz16_1
       try clear hfz23_0
       try clear hfz23_1
       try clear hfz24_0
       try clear hfz24_1
       try clear hfz30_0
       try clear hfz30_1
       try clear hfz37_0
       try clear hfz37_1
       try clear hfz43_0
       try clear hfz43_1
       try clear hfz46_0
       try clear hfz46_1
       try clear hfz51_0
       try clear hfz51_1
       try clear hfz54_0
       try clear hfz54_1
       try clear hfz69_0
       try clear hfz69_1
       try clear hfz6_0
       try clear hfz6_1
       try clear hfz77_0
       try clear hfz77_1
       try clear hfz80_0
       try clear hfz80_1
       try clear hfz85_0
       try clear hfz85_1
       try clear hfz88_0
       try clear hfz88_1
       try clear p2
       obtain ⟨kq, x65_60, rfl, HA, HJ60, HO_253000, HO_258000, HO_264000, BK241, BK252, BK257, BK263, HB⟩ := hcut
       have hl258000_60 := (Kd.R_reads' HO_258000.out).1
       rw [hl258000_60] at HO_258000
       (try simp only [hl258000_60])
       (try simp only [hl258000_60] at BK241)
       (try simp only [hl258000_60] at BK252)
       (try simp only [hl258000_60] at BK257)
       (try simp only [hl258000_60] at BK263)
       (try simp only [hl258000_60] at HO_253000)
       (try simp only [hl258000_60] at HO_264000)
       cases kq with
       | zero => exact absurd HA.out (by simp [laws_FnExactLift.j1])
       | succ kj60 =>
        have H := HA.out
        clear HA
        simp only [laws_FnExactLift.j1] at H
        by_cases c90 : x65_60 = true
        ·subst c90
         have H1 : (some false) = some r := by rw [if_pos rfl] at H; exact H
         clear H
         have H := H1
         clear H1
         obtain rfl := Option.some.inj H
         go_wp2
         go_ret
         exact ⟨xV, xW HB.out⟩
        ·replace c90 := Bool.eq_false_iff.mpr c90
         subst c90
         have H1 : ((laws_markArena.f kj60 t258 t261 1).bind fun bt273 => ((laws_heldArena.f kj60 bt273.2 t261 1).bind fun t275 => (if t275 < 0 then (some false) else (if t275 = bt273.1 then ((laws_toArena.f kj60 l0_0 a0_1).bind fun bt276 => ((impl_Lift.f kj60 bt276.1 bt276.2 a1).bind fun bt280 => ((laws_eqArena.f kj60 bt280.1 bt280.2.1 t247 t250).bind fun t286 => (if t286 = true then (laws_FnExactLift.j2 kj60 bt273.1 (bt280.2.2 != t251) bt273.2 t261) else (laws_FnExactLift.j2 kj60 bt273.1 true bt273.2 t261))))) else (some false))))) = some r := by rw [if_neg (show ¬ (false = true) by decide)] at H; exact H
         clear H
         have H := H1
         clear H1
         replace H := Option.bind_eq_some_iff.mp H
         obtain ⟨⟨t273, t274⟩, A910, H⟩ := H
         try dsimp only at H
         have A91 := am A910
         clear A910
         replace H := Option.bind_eq_some_iff.mp H
         obtain ⟨t275, A920, H⟩ := H
         try dsimp only at H
         have A92 := am A920
         clear A920
         by_cases c93 : t275 < 0
         ·rw [if_pos c93] at H
          have c93b0 : decide (t275 < 0) = true := decide_eq_true c93
          clear c93
          obtain rfl := Option.some.inj H
          have hnb94 := NB263_241.out
          have hnc94 := NB241_263.out
          have hnb95 := NB263_252.out
          have hnc95 := NB252_263.out
          have hnb96 := NB263_257.out
          have hnc96 := NB257_263.out
          obtain ⟨hcz97_0, hcz97_1, hfz97_0, hfz97_1⟩ := xT2 (W := wc) BK263.out
          go_wp2_with (first | ((with_reducible refine gate_callee (f := 26) rfl ?_); refine xG (some 68) 26 Try.func26 #[.agg #[.slice Ao33 t258.length co33, .int .i64 t261], .int .i64 1] (h := ?_); (with_reducible refine (laws_markArena.calls kj60 (fun k_ => some k_ = (.slice Ao33 t258.length co33 : Value).ownBlock) (.slice Ao33 t258.length co33) t258 t261 1 t273 t274 w _ ?side1 ?side2 A91.out).mono ?_); (case side1 => exact xW HB.out); (case side2 => exact Kd.R_tight rfl HO_264000.out); rintro e w98 ⟨rfl, hy0, hb, hkp⟩; refine ⟨_, rfl, ?_⟩; replace HO_253000 := am (Kd.R_mono (ok' := fun k_ => some k_ ≠ (.slice Ao27 t271.length co27 : Value).ownBlock ∧ some k_ ≠ (.slice Ao33 t258.length co33 : Value).ownBlock) (Kd.R_keptB (HO_253000.out) hkp (fun k_ hk_ hs_ => by first | exact (hk_.2) hs_ | (rcases hs_ with e_ | e_ <;> (revert hk_; simp [e_])) | (revert hk_; simp [hs_]))) (fun k_ hk_ => by first | exact ⟨hk_.1.1, hk_.1.2⟩ | (revert hk_; intro hk_; simp [hk_]))); replace HO_258000 := am (Kd.R_mono (ok' := fun k_ => some k_ ≠ (.slice Ao21 t247.length co21 : Value).ownBlock ∧ some k_ ≠ (.slice Ao33 t258.length co33 : Value).ownBlock) (Kd.R_keptB (HO_258000.out) hkp (fun k_ hk_ hs_ => by first | exact (hk_.2) hs_ | (rcases hs_ with e_ | e_ <;> (revert hk_; simp [e_])) | (revert hk_; simp [hs_]))) (fun k_ hk_ => by first | exact ⟨hk_.1.1, hk_.1.2⟩ | (revert hk_; intro hk_; simp [hk_]))); replace BK241 := am (blk_kept (xB BK241.out) hkp (fun hs_ => (fun e_ => (Kd.R_ne HO_264000.out BK241.out (by decide)) e_) hs_)); replace BK252 := am (blk_kept (xB BK252.out) hkp (fun hs_ => (fun e_ => (Kd.R_ne HO_264000.out BK252.out (by decide)) e_) hs_)); replace BK257 := am (blk_kept (xB BK257.out) hkp (fun hs_ => (fun e_ => (Kd.R_ne HO_264000.out BK257.out (by decide)) e_) hs_)); replace BK263 := am (blk_kept (xB BK263.out) hkp (fun hs_ => (fun e_ => (Kd.R_ne HO_264000.out BK263.out (by decide)) e_) hs_)); replace HO_264000 := am (Kd.R_reok rfl hy0 (fun k_ e_ => HO_264000.out.1 k_ e_)); replace HB := am (hb); (try clear hb); (try clear hkp); (try clear hy0); obtain ⟨hcz99_0, hcz99_1, hfz99_0, hfz99_1⟩ := xT2 (W := w98) BK263.out) | ((with_reducible refine gate_callee (f := 27) rfl ?_); refine goesL_ (some 71) rfl rfl Try.func27 (by kernel_rfl) rfl #[.agg #[.slice Ao33 t274.length co33, .int .i64 t261], .int .i64 1] rfl (by (try simp only [List.map_toArray, List.map_cons, List.map_nil]); first | done | (rw [show t274.length = t258.length from (Kd.R_reads' HO_264000.out).1.symm] <;> rfl) | rfl | (simp only [List.length_drop, List.length_take]; rfl)) ?_; (with_reducible refine (laws_heldArena.calls kj60 _ _ t274 t261 1 t275 _ ?side1 ?side2 A92.out).mono ?_); (case side1 => exact xC ((Kd.R_reads' HO_264000.out).2.2)); (case side2 => rw [show t274.length = t258.length from (Kd.R_reads' HO_264000.out).1.symm]; exact (Kd.R_reads' HO_264000.out).2.1); rintro e w100 ⟨rfl, hb⟩; refine ⟨_, rfl, ?_⟩; replace HO_253000 := am (Kd.R_below (xR HO_253000.out) hb); replace HO_258000 := am (Kd.R_below (xR HO_258000.out) hb); replace HO_264000 := am (Kd.R_below (xR HO_264000.out) hb); replace BK241 := am (blk_below (xB BK241.out) hb); replace BK252 := am (blk_below (xB BK252.out) hb); replace BK257 := am (blk_below (xB BK257.out) hb); replace BK263 := am (blk_below (xB BK263.out) hb); replace HB := am (below_step (xW HB.out) hb); (try clear hb); ))
          go_ret
          exact ⟨xV, xW HB.out⟩
         ·rw [if_neg c93] at H
          have c93b0 : decide (t275 < 0) = false := decide_eq_false c93
          clear c93
          by_cases c101 : t275 = t273
          ·rw [if_pos c101] at H
           have c101b0 : (t275 == t273) = true := beq_iff_eq.mpr c101
           have c101b1 : (t275 != t273) = false := bne_eq_false_iff_eq.mpr c101
           clear c101
           replace H := Option.bind_eq_some_iff.mp H
           obtain ⟨⟨t276, t279⟩, A1020, H⟩ := H
           try dsimp only at H
           have A102 := am A1020
           clear A1020
           replace H := Option.bind_eq_some_iff.mp H
           obtain ⟨⟨t280, t283, t284⟩, A1030, H⟩ := H
           try dsimp only at H
           have A103 := am A1030
           clear A1030
           have HC104 := am H
           clear H
           have hnb105 := NB263_241.out
           have hnc105 := NB241_263.out
           have hnb106 := NB263_252.out
           have hnc106 := NB252_263.out
           have hnb107 := NB263_257.out
           have hnc107 := NB257_263.out
           obtain ⟨hcz108_0, hcz108_1, hfz108_0, hfz108_1⟩ := xT2 (W := wc) BK263.out
           go_upto_region 25 with (first | ((with_reducible refine gate_callee (f := 26) rfl ?_); refine xG (some 68) 26 Try.func26 #[.agg #[.slice Ao33 t258.length co33, .int .i64 t261], .int .i64 1] (h := ?_); (with_reducible refine (laws_markArena.calls kj60 (fun k_ => some k_ = (.slice Ao33 t258.length co33 : Value).ownBlock) (.slice Ao33 t258.length co33) t258 t261 1 t273 t274 w _ ?side1 ?side2 A91.out).mono ?_); (case side1 => exact xW HB.out); (case side2 => exact Kd.R_tight rfl HO_264000.out); rintro e w109 ⟨rfl, hy0, hb, hkp⟩; refine ⟨_, rfl, ?_⟩; replace HO_253000 := am (Kd.R_mono (ok' := fun k_ => some k_ ≠ (.slice Ao27 t271.length co27 : Value).ownBlock ∧ some k_ ≠ (.slice Ao33 t258.length co33 : Value).ownBlock) (Kd.R_keptB (HO_253000.out) hkp (fun k_ hk_ hs_ => by first | exact (hk_.2) hs_ | (rcases hs_ with e_ | e_ <;> (revert hk_; simp [e_])) | (revert hk_; simp [hs_]))) (fun k_ hk_ => by first | exact ⟨hk_.1.1, hk_.1.2⟩ | (revert hk_; intro hk_; simp [hk_]))); replace HO_258000 := am (Kd.R_mono (ok' := fun k_ => some k_ ≠ (.slice Ao21 t247.length co21 : Value).ownBlock ∧ some k_ ≠ (.slice Ao33 t258.length co33 : Value).ownBlock) (Kd.R_keptB (HO_258000.out) hkp (fun k_ hk_ hs_ => by first | exact (hk_.2) hs_ | (rcases hs_ with e_ | e_ <;> (revert hk_; simp [e_])) | (revert hk_; simp [hs_]))) (fun k_ hk_ => by first | exact ⟨hk_.1.1, hk_.1.2⟩ | (revert hk_; intro hk_; simp [hk_]))); replace BK241 := am (blk_kept (xB BK241.out) hkp (fun hs_ => (fun e_ => (Kd.R_ne HO_264000.out BK241.out (by decide)) e_) hs_)); replace BK252 := am (blk_kept (xB BK252.out) hkp (fun hs_ => (fun e_ => (Kd.R_ne HO_264000.out BK252.out (by decide)) e_) hs_)); replace BK257 := am (blk_kept (xB BK257.out) hkp (fun hs_ => (fun e_ => (Kd.R_ne HO_264000.out BK257.out (by decide)) e_) hs_)); replace BK263 := am (blk_kept (xB BK263.out) hkp (fun hs_ => (fun e_ => (Kd.R_ne HO_264000.out BK263.out (by decide)) e_) hs_)); replace HO_264000 := am (Kd.R_reok rfl hy0 (fun k_ e_ => HO_264000.out.1 k_ e_)); replace HB := am (hb); (try clear hb); (try clear hkp); (try clear hy0); obtain ⟨hcz110_0, hcz110_1, hfz110_0, hfz110_1⟩ := xT2 (W := w109) BK263.out) | ((with_reducible refine gate_callee (f := 27) rfl ?_); refine goesL_ (some 71) rfl rfl Try.func27 (by kernel_rfl) rfl #[.agg #[.slice Ao33 t274.length co33, .int .i64 t261], .int .i64 1] rfl (by (try simp only [List.map_toArray, List.map_cons, List.map_nil]); first | done | (rw [show t274.length = t258.length from (Kd.R_reads' HO_264000.out).1.symm] <;> rfl) | rfl | (simp only [List.length_drop, List.length_take]; rfl)) ?_; (with_reducible refine (laws_heldArena.calls kj60 _ _ t274 t261 1 t275 _ ?side1 ?side2 A92.out).mono ?_); (case side1 => exact xC ((Kd.R_reads' HO_264000.out).2.2)); (case side2 => rw [show t274.length = t258.length from (Kd.R_reads' HO_264000.out).1.symm]; exact (Kd.R_reads' HO_264000.out).2.1); rintro e w111 ⟨rfl, hb⟩; refine ⟨_, rfl, ?_⟩; replace HO_253000 := am (Kd.R_below (xR HO_253000.out) hb); replace HO_258000 := am (Kd.R_below (xR HO_258000.out) hb); replace HO_264000 := am (Kd.R_below (xR HO_264000.out) hb); replace BK241 := am (blk_below (xB BK241.out) hb); replace BK252 := am (blk_below (xB BK252.out) hb); replace BK257 := am (blk_below (xB BK257.out) hb); replace BK263 := am (blk_below (xB BK263.out) hb); replace HB := am (below_step (xW HB.out) hb); (try clear hb); have hnb112 := NB241_252.out; have hnc112 := NB252_241.out; have hnb113 := NB241_257.out; have hnc113 := NB257_241.out; obtain ⟨hcz114_0, hcz114_1, hfz114_0, hfz114_1⟩ := xT2 (W := w111) BK241.out) | ((with_reducible refine gate_callee (f := 16) rfl ?_); refine xG (some 79) 16 Try.func16 #[.agg #[.slice A0_0 l0_0.length c0_0, .int .i64 a0_1]] (h := ?_); (with_reducible refine (laws_toArena.calls kj60 _ _ l0_0 a0_1 t276 t279 _ ?side1 ?side2 A102.out).mono ?_); (case side1 => exact xC (Kd.C_below HR0_0.out HB.out)); (case side2 => exact HC0_0.out); rintro e w115 ⟨v277, rfl, ho0, hb⟩; refine ⟨_, rfl, ?_⟩; have HO278 := am (Kd.R_lower (Kd.R_new' (Kd.R_new' (Kd.R_new' ho0 (Kd.R_lt (xR HO_253000.out))) (Kd.R_lt (xR HO_258000.out))) (Kd.R_lt (xR HO_264000.out))) (below_size (xW HB.out))); replace HO_253000 := am (Kd.R_elder' (xR HO_253000.out) (Kd.R_base ho0) hb); replace HO_258000 := am (Kd.R_elder' (xR HO_258000.out) (Kd.R_base ho0) hb); replace HO_264000 := am (Kd.R_elder' (xR HO_264000.out) (Kd.R_base ho0) hb); replace BK241 := am (blk_below (xB BK241.out) hb); replace BK252 := am (blk_below (xB BK252.out) hb); replace BK257 := am (blk_below (xB BK257.out) hb); replace BK263 := am (blk_below (xB BK263.out) hb); replace HB := am (below_step (xW HB.out) hb); (try clear hb); (try clear ho0); obtain ⟨Ao116, co116, eo116⟩ := Kd.R_slice HO278.out; subst eo116) | ((with_reducible refine gate_callee (f := 25) rfl ?_); refine xG (some 81) 25 Try.func25 #[.agg #[.slice Ao116 t276.length co116, .int .i64 t279], .int .i64 a1] (h := ?_); (with_reducible refine (impl_Lift.calls kj60 _ _ t276 t279 a1 t280 t283 t284 _ ?side1 ?side2 A103.out).mono ?_); (case side1 => exact xC ((Kd.R_reads' HO278.out).2.2)); (case side2 => exact (Kd.R_reads' HO278.out).2.1); rintro e w117 ⟨v281, rfl, ho0, hb⟩; refine ⟨_, rfl, ?_⟩; have HO282 := am (Kd.R_lower (Kd.R_new' (Kd.R_new' (Kd.R_new' (Kd.R_new' ho0 (Kd.R_lt (xR HO_253000.out))) (Kd.R_lt (xR HO_258000.out))) (Kd.R_lt (xR HO_264000.out))) (Kd.R_lt (xR HO278.out))) (below_size (xW HB.out))); replace HO_253000 := am (Kd.R_elder' (xR HO_253000.out) (Kd.R_base ho0) hb); replace HO_258000 := am (Kd.R_elder' (xR HO_258000.out) (Kd.R_base ho0) hb); replace HO_264000 := am (Kd.R_elder' (xR HO_264000.out) (Kd.R_base ho0) hb); replace HO278 := am (Kd.R_elder' (xR HO278.out) (Kd.R_base ho0) hb); replace BK241 := am (blk_below (xB BK241.out) hb); replace BK252 := am (blk_below (xB BK252.out) hb); replace BK257 := am (blk_below (xB BK257.out) hb); replace BK263 := am (blk_below (xB BK263.out) hb); replace HB := am (below_step (xW HB.out) hb); (try clear hb); (try clear ho0)) | ((with_reducible refine gate_dst (N := 14) rfl ?_); refine xE (N := 14) (cs := #[.slice none 0 0, .int .i64 0]) (t := 42) (h := ?_); intro gb285 hg w118 hbox hb; replace HO_253000 := am (Kd.R_below (xR HO_253000.out) hb); replace HO_258000 := am (Kd.R_below (xR HO_258000.out) hb); replace HO_264000 := am (Kd.R_below (xR HO_264000.out) hb); replace HO278 := am (Kd.R_below (xR HO278.out) hb); replace HO282 := am (Kd.R_below (xR HO282.out) hb); have BK285 := am (hbox); have GW285 := am (xS hg HB.out); have GE285 := am (xS hg HB.out); replace HB := am (below_step (xW HB.out) hb); have NB241_285 := am (xN hg BK241.out); have NB285_241 := am (xM hg BK241.out); replace BK241 := am (blk_below (xB BK241.out) hb); have NB252_285 := am (xN hg BK252.out); have NB285_252 := am (xM hg BK252.out); replace BK252 := am (blk_below (xB BK252.out) hb); have NB257_285 := am (xN hg BK257.out); have NB285_257 := am (xM hg BK257.out); replace BK257 := am (blk_below (xB BK257.out) hb); have NB263_285 := am (xN hg BK263.out); have NB285_263 := am (xM hg BK263.out); replace BK263 := am (blk_below (xB BK263.out) hb); clear hb hbox hg; obtain ⟨Ao119, co119, eo119⟩ := Kd.R_slice HO282.out; subst eo119; have hnb120 := NB285_241.out; have hnc120 := NB241_285.out; have hnb121 := NB285_252.out; have hnc121 := NB252_285.out; have hnb122 := NB285_257.out; have hnc122 := NB257_285.out; have hnb123 := NB285_263.out; have hnc123 := NB263_285.out; obtain ⟨hcz124_0, hcz124_1, hfz124_0, hfz124_1⟩ := xT2 (W := w118) BK285.out))
           (try simp only [Act.put, List.setIfInBounds_toArray, List.set_cons_zero, List.set_cons_succ])
           go_cut [92] (fun v92 wc => ∃ (kq : Nat) (x92_103 : Bool), v92 = .bool x92_103 ∧ Aside0 (laws_FnExactLift.j2 kq t273 x92_103 t274 t261 = some r) ∧ Aside0 (kq ≤ kj60) ∧ Aside0 (Kd.R k50 50 wc w.heap.size (fun k_ => some k_ ≠ ((.slice Ao27 t271.length co27) : Value).ownBlock ∧ some k_ ≠ ((.slice Ao33 t258.length co33) : Value).ownBlock ∧ some k_ ≠ ((.slice Ao119 t280.length co119) : Value).ownBlock) (.slice Ao21 t247.length co21) t247) ∧ Aside0 (Kd.R k50 50 wc w.heap.size (fun k_ => some k_ ≠ ((.slice Ao21 t247.length co21) : Value).ownBlock ∧ some k_ ≠ ((.slice Ao33 t258.length co33) : Value).ownBlock ∧ some k_ ≠ ((.slice Ao119 t280.length co119) : Value).ownBlock) (.slice Ao27 t271.length co27) t271) ∧ Aside0 (Kd.R k50 50 wc w.heap.size (fun k_ => some k_ ≠ ((.slice Ao21 t247.length co21) : Value).ownBlock ∧ some k_ ≠ ((.slice Ao27 t271.length co27) : Value).ownBlock ∧ some k_ ≠ ((.slice Ao119 t280.length co119) : Value).ownBlock) (.slice Ao33 t258.length co33) t274) ∧ Aside0 (Kd.R k50 50 wc w.heap.size (fun k_ => some k_ ≠ ((.slice Ao21 t247.length co21) : Value).ownBlock ∧ some k_ ≠ ((.slice Ao27 t271.length co27) : Value).ownBlock ∧ some k_ ≠ ((.slice Ao33 t258.length co33) : Value).ownBlock) (.slice Ao119 t280.length co119) t280) ∧ Aside0 (wc.heap[gb241]? = some (.cells #[(.slice A0_0 l0_0.length c0_0), .int .i64 a0_1] 36 (0, 0))) ∧ Aside0 (wc.heap[gb252]? = some (.cells #[(.slice Ao21 t247.length co21), .int .i64 t250] 42 (0, 0))) ∧ Aside0 (wc.heap[gb257]? = some (.cells #[(.slice Ao27 t271.length co27), .int .i64 t256] 42 (0, 0))) ∧ Aside0 (wc.heap[gb263]? = some (.cells #[(.slice Ao33 t258.length co33), .int .i64 t261] 42 (0, 0))) ∧ Aside0 (wc.heap[gb285]? = some (.cells #[(.slice Ao119 t280.length co119), .int .i64 t283] 42 (0, 0))) ∧ Aside0 (Below w.heap.size w wc))
           case first =>
            have H := HC104.out
            clear HC104
            replace H := Option.bind_eq_some_iff.mp H
            obtain ⟨t286, A1250, H⟩ := H
            try dsimp only at H
            have A125 := am A1250
            clear A1250
            by_cases c126 : t286 = true
            ·subst c126
             have H1 : (laws_FnExactLift.j2 kj60 t273 (t284 != t251) t274 t261) = some r := by rw [if_pos rfl] at H; exact H
             clear H
             have H := H1
             clear H1
             have H' := am H
             clear H
             have hnb127 := NB285_241.out
             have hnc127 := NB241_285.out
             have hnb128 := NB285_252.out
             have hnc128 := NB252_285.out
             have hnb129 := NB285_257.out
             have hnc129 := NB257_285.out
             have hnb130 := NB285_263.out
             have hnc130 := NB263_285.out
             obtain ⟨hcz131_0, hcz131_1, hfz131_0, hfz131_1⟩ := xT2 (W := w118) BK285.out
             have hnb132 := NB252_241.out
             have hnc132 := NB241_252.out
             have hnb133 := NB252_257.out
             have hnc133 := NB257_252.out
             have hnb134 := NB252_263.out
             have hnc134 := NB263_252.out
             obtain ⟨hcz135_0, hcz135_1, hfz135_0, hfz135_1⟩ := xT2 (W := w118) BK252.out
             go_wp2_with (first | ((with_reducible refine gate_callee (f := 18) rfl ?_); refine xG (some 86) 18 Try.func18 #[.agg #[.slice Ao119 t280.length co119, .int .i64 t283], .agg #[.slice Ao21 t247.length co21, .int .i64 t250]] (h := ?_); (with_reducible refine (laws_eqArena.calls kj60 _ _ t280 t283 _ _ t247 t250 true _ ?side1 ?side2 ?side3 ?side4 A125.out).mono ?_); (case side1 => refine (Kd.R_reads' (e := 50) (base := w.heap.size) (ok := fun k_ => ((((True ∧ some k_ ≠ (.slice Ao21 t247.length co21 : Value).ownBlock) ∧ some k_ ≠ (.slice Ao27 t271.length co27 : Value).ownBlock) ∧ some k_ ≠ (.slice Ao33 t258.length co33 : Value).ownBlock) ∧ some k_ ≠ (.slice Ao116 t276.length co116 : Value).ownBlock)) (n := t280.length) (c := co119) ?_).2.2; exact (by (with_reducible repeat (first | apply Kd.R_alloc | apply Kd.R_drewN | apply Kd.R_drew)); exact (Kd.R_mono (Kd.R_far (p := ⟨gb285, 1, none⟩) (Kd.R_far (p := ⟨gb285, 0, none⟩) (Kd.R_types HO282.out BK285.out (by decide)) (fun _ hk => by first | exact hk.2 | (simp [hk])) (.slice Ao119 t280.length co119)) (fun _ hk => by first | exact hk.2 | (simp [hk])) (.int .i64 t283)) (fun _ h_ => h_.1)))); (case side2 => exact (Kd.R_reads' HO282.out).2.1); (case side3 => refine (Kd.R_reads' (e := 50) (base := w.heap.size) (ok := fun k_ => (((some k_ ≠ (.slice Ao27 t271.length co27 : Value).ownBlock ∧ some k_ ≠ (.slice Ao33 t258.length co33 : Value).ownBlock) ∧ some k_ ≠ (.slice Ao116 t276.length co116 : Value).ownBlock) ∧ some k_ ≠ (.slice Ao119 t280.length co119 : Value).ownBlock)) (n := t247.length) (c := co21) ?_).2.2; exact (by (with_reducible repeat (first | apply Kd.R_alloc | apply Kd.R_drewN | apply Kd.R_drew)); exact (Kd.R_mono (Kd.R_far (p := ⟨gb285, 1, none⟩) (Kd.R_far (p := ⟨gb285, 0, none⟩) (Kd.R_types HO_253000.out BK285.out (by decide)) (fun _ hk => by first | exact hk.2 | (simp [hk])) (.slice Ao119 t280.length co119)) (fun _ hk => by first | exact hk.2 | (simp [hk])) (.int .i64 t283)) (fun _ h_ => h_.1)))); (case side4 => exact (Kd.R_reads' HO_253000.out).2.1); rintro e w136 ⟨rfl, hb⟩; refine ⟨_, rfl, ?_⟩; replace HO_253000 := am (Kd.R_below (by (with_reducible repeat (first | apply Kd.R_alloc | apply Kd.R_drewN | apply Kd.R_drew)); exact (Kd.R_mono (Kd.R_far (p := ⟨gb285, 1, none⟩) (Kd.R_far (p := ⟨gb285, 0, none⟩) (Kd.R_types HO_253000.out BK285.out (by decide)) (fun _ hk => by first | exact hk.2 | (simp [hk])) (.slice Ao119 t280.length co119)) (fun _ hk => by first | exact hk.2 | (simp [hk])) (.int .i64 t283)) (fun _ h_ => h_.1))) hb); replace HO_258000 := am (Kd.R_below (by (with_reducible repeat (first | apply Kd.R_alloc | apply Kd.R_drewN | apply Kd.R_drew)); exact (Kd.R_mono (Kd.R_far (p := ⟨gb285, 1, none⟩) (Kd.R_far (p := ⟨gb285, 0, none⟩) (Kd.R_types HO_258000.out BK285.out (by decide)) (fun _ hk => by first | exact hk.2 | (simp [hk])) (.slice Ao119 t280.length co119)) (fun _ hk => by first | exact hk.2 | (simp [hk])) (.int .i64 t283)) (fun _ h_ => h_.1))) hb); replace HO_264000 := am (Kd.R_below (by (with_reducible repeat (first | apply Kd.R_alloc | apply Kd.R_drewN | apply Kd.R_drew)); exact (Kd.R_mono (Kd.R_far (p := ⟨gb285, 1, none⟩) (Kd.R_far (p := ⟨gb285, 0, none⟩) (Kd.R_types HO_264000.out BK285.out (by decide)) (fun _ hk => by first | exact hk.2 | (simp [hk])) (.slice Ao119 t280.length co119)) (fun _ hk => by first | exact hk.2 | (simp [hk])) (.int .i64 t283)) (fun _ h_ => h_.1))) hb); replace HO278 := am (Kd.R_below (by (with_reducible repeat (first | apply Kd.R_alloc | apply Kd.R_drewN | apply Kd.R_drew)); exact (Kd.R_mono (Kd.R_far (p := ⟨gb285, 1, none⟩) (Kd.R_far (p := ⟨gb285, 0, none⟩) (Kd.R_types HO278.out BK285.out (by decide)) (fun _ hk => by first | exact hk.2 | (simp [hk])) (.slice Ao119 t280.length co119)) (fun _ hk => by first | exact hk.2 | (simp [hk])) (.int .i64 t283)) (fun _ h_ => h_.1))) hb); replace HO282 := am (Kd.R_below (by (with_reducible repeat (first | apply Kd.R_alloc | apply Kd.R_drewN | apply Kd.R_drew)); exact (Kd.R_mono (Kd.R_far (p := ⟨gb285, 1, none⟩) (Kd.R_far (p := ⟨gb285, 0, none⟩) (Kd.R_types HO282.out BK285.out (by decide)) (fun _ hk => by first | exact hk.2 | (simp [hk])) (.slice Ao119 t280.length co119)) (fun _ hk => by first | exact hk.2 | (simp [hk])) (.int .i64 t283)) (fun _ h_ => h_.1))) hb); replace BK241 := am (blk_below (xB BK241.out) hb); replace BK252 := am (blk_below (xB BK252.out) hb); replace BK257 := am (blk_below (xB BK257.out) hb); replace BK263 := am (blk_below (xB BK263.out) hb); replace BK285 := am (blk_below (xP BK285.out) hb); replace HB := am (below_step (xW HB.out) hb); (try clear hb); ))
             go_meet
             case rel => exact ⟨_, ((t284 != t251)), (xQ), H', ⟨by have := HJ11.out; have := HJ60.out; first | omega | exact Nat.le_refl _⟩, ⟨by (try simp only [hl258000_60]); (with_reducible repeat (first | apply Kd.R_alloc | apply Kd.R_drewN | apply Kd.R_drew)); exact Kd.R_mono HO_253000.out (fun _ hk => by first | exact ⟨hk.1.1.1, ⟨hk.1.1.2, hk.2⟩⟩ | (simp [hk]))⟩, ⟨by (try simp only [hl258000_60]); (with_reducible repeat (first | apply Kd.R_alloc | apply Kd.R_drewN | apply Kd.R_drew)); exact Kd.R_mono HO_258000.out (fun _ hk => by first | exact ⟨hk.1.1.1, ⟨hk.1.1.2, hk.2⟩⟩ | (simp [hk]))⟩, ⟨by (try simp only [hl258000_60]); (with_reducible repeat (first | apply Kd.R_alloc | apply Kd.R_drewN | apply Kd.R_drew)); exact Kd.R_mono HO_264000.out (fun _ hk => by first | exact ⟨hk.1.1.1, ⟨hk.1.1.2, hk.2⟩⟩ | (simp [hk]))⟩, ⟨by (try simp only [hl258000_60]); (with_reducible repeat (first | apply Kd.R_alloc | apply Kd.R_drewN | apply Kd.R_drew)); exact Kd.R_mono HO282.out (fun _ hk => by first | exact ⟨hk.1.1.1.2, ⟨hk.1.1.2, hk.1.2⟩⟩ | (simp [hk]))⟩, ⟨by (try simp only [hl258000_60]); (with_reducible repeat (first | refine blk_drewN ?_ _ | refine blk_drew ?_ | refine blk_alloc ?_ _)); exact BK241.out⟩, ⟨by (try simp only [hl258000_60]); (with_reducible repeat (first | refine blk_drewN ?_ _ | refine blk_drew ?_ | refine blk_alloc ?_ _)); exact BK252.out⟩, ⟨by (try simp only [hl258000_60]); (with_reducible repeat (first | refine blk_drewN ?_ _ | refine blk_drew ?_ | refine blk_alloc ?_ _)); exact BK257.out⟩, ⟨by (try simp only [hl258000_60]); (with_reducible repeat (first | refine blk_drewN ?_ _ | refine blk_drew ?_ | refine blk_alloc ?_ _)); exact BK263.out⟩, ⟨by (try simp only [hl258000_60]); (with_reducible repeat (first | refine blk_drewN ?_ _ | refine blk_drew ?_ | refine blk_alloc ?_ _)); exact BK285.out⟩, ⟨xW HB.out⟩⟩
            ·replace c126 := Bool.eq_false_iff.mpr c126
             subst c126
             have H1 : (laws_FnExactLift.j2 kj60 t273 true t274 t261) = some r := by rw [if_neg (show ¬ (false = true) by decide)] at H; exact H
             clear H
             have H := H1
             clear H1
             have H' := am H
             clear H
             have hnb137 := NB285_241.out
             have hnc137 := NB241_285.out
             have hnb138 := NB285_252.out
             have hnc138 := NB252_285.out
             have hnb139 := NB285_257.out
             have hnc139 := NB257_285.out
             have hnb140 := NB285_263.out
             have hnc140 := NB263_285.out
             obtain ⟨hcz141_0, hcz141_1, hfz141_0, hfz141_1⟩ := xT2 (W := w118) BK285.out
             have hnb142 := NB252_241.out
             have hnc142 := NB241_252.out
             have hnb143 := NB252_257.out
             have hnc143 := NB257_252.out
             have hnb144 := NB252_263.out
             have hnc144 := NB263_252.out
             obtain ⟨hcz145_0, hcz145_1, hfz145_0, hfz145_1⟩ := xT2 (W := w118) BK252.out
             go_wp2_with (first | ((with_reducible refine gate_callee (f := 18) rfl ?_); refine xG (some 86) 18 Try.func18 #[.agg #[.slice Ao119 t280.length co119, .int .i64 t283], .agg #[.slice Ao21 t247.length co21, .int .i64 t250]] (h := ?_); (with_reducible refine (laws_eqArena.calls kj60 _ _ t280 t283 _ _ t247 t250 false _ ?side1 ?side2 ?side3 ?side4 A125.out).mono ?_); (case side1 => refine (Kd.R_reads' (e := 50) (base := w.heap.size) (ok := fun k_ => ((((True ∧ some k_ ≠ (.slice Ao21 t247.length co21 : Value).ownBlock) ∧ some k_ ≠ (.slice Ao27 t271.length co27 : Value).ownBlock) ∧ some k_ ≠ (.slice Ao33 t258.length co33 : Value).ownBlock) ∧ some k_ ≠ (.slice Ao116 t276.length co116 : Value).ownBlock)) (n := t280.length) (c := co119) ?_).2.2; exact (by (with_reducible repeat (first | apply Kd.R_alloc | apply Kd.R_drewN | apply Kd.R_drew)); exact (Kd.R_mono (Kd.R_far (p := ⟨gb285, 1, none⟩) (Kd.R_far (p := ⟨gb285, 0, none⟩) (Kd.R_types HO282.out BK285.out (by decide)) (fun _ hk => by first | exact hk.2 | (simp [hk])) (.slice Ao119 t280.length co119)) (fun _ hk => by first | exact hk.2 | (simp [hk])) (.int .i64 t283)) (fun _ h_ => h_.1)))); (case side2 => exact (Kd.R_reads' HO282.out).2.1); (case side3 => refine (Kd.R_reads' (e := 50) (base := w.heap.size) (ok := fun k_ => (((some k_ ≠ (.slice Ao27 t271.length co27 : Value).ownBlock ∧ some k_ ≠ (.slice Ao33 t258.length co33 : Value).ownBlock) ∧ some k_ ≠ (.slice Ao116 t276.length co116 : Value).ownBlock) ∧ some k_ ≠ (.slice Ao119 t280.length co119 : Value).ownBlock)) (n := t247.length) (c := co21) ?_).2.2; exact (by (with_reducible repeat (first | apply Kd.R_alloc | apply Kd.R_drewN | apply Kd.R_drew)); exact (Kd.R_mono (Kd.R_far (p := ⟨gb285, 1, none⟩) (Kd.R_far (p := ⟨gb285, 0, none⟩) (Kd.R_types HO_253000.out BK285.out (by decide)) (fun _ hk => by first | exact hk.2 | (simp [hk])) (.slice Ao119 t280.length co119)) (fun _ hk => by first | exact hk.2 | (simp [hk])) (.int .i64 t283)) (fun _ h_ => h_.1)))); (case side4 => exact (Kd.R_reads' HO_253000.out).2.1); rintro e w146 ⟨rfl, hb⟩; refine ⟨_, rfl, ?_⟩; replace HO_253000 := am (Kd.R_below (by (with_reducible repeat (first | apply Kd.R_alloc | apply Kd.R_drewN | apply Kd.R_drew)); exact (Kd.R_mono (Kd.R_far (p := ⟨gb285, 1, none⟩) (Kd.R_far (p := ⟨gb285, 0, none⟩) (Kd.R_types HO_253000.out BK285.out (by decide)) (fun _ hk => by first | exact hk.2 | (simp [hk])) (.slice Ao119 t280.length co119)) (fun _ hk => by first | exact hk.2 | (simp [hk])) (.int .i64 t283)) (fun _ h_ => h_.1))) hb); replace HO_258000 := am (Kd.R_below (by (with_reducible repeat (first | apply Kd.R_alloc | apply Kd.R_drewN | apply Kd.R_drew)); exact (Kd.R_mono (Kd.R_far (p := ⟨gb285, 1, none⟩) (Kd.R_far (p := ⟨gb285, 0, none⟩) (Kd.R_types HO_258000.out BK285.out (by decide)) (fun _ hk => by first | exact hk.2 | (simp [hk])) (.slice Ao119 t280.length co119)) (fun _ hk => by first | exact hk.2 | (simp [hk])) (.int .i64 t283)) (fun _ h_ => h_.1))) hb); replace HO_264000 := am (Kd.R_below (by (with_reducible repeat (first | apply Kd.R_alloc | apply Kd.R_drewN | apply Kd.R_drew)); exact (Kd.R_mono (Kd.R_far (p := ⟨gb285, 1, none⟩) (Kd.R_far (p := ⟨gb285, 0, none⟩) (Kd.R_types HO_264000.out BK285.out (by decide)) (fun _ hk => by first | exact hk.2 | (simp [hk])) (.slice Ao119 t280.length co119)) (fun _ hk => by first | exact hk.2 | (simp [hk])) (.int .i64 t283)) (fun _ h_ => h_.1))) hb); replace HO278 := am (Kd.R_below (by (with_reducible repeat (first | apply Kd.R_alloc | apply Kd.R_drewN | apply Kd.R_drew)); exact (Kd.R_mono (Kd.R_far (p := ⟨gb285, 1, none⟩) (Kd.R_far (p := ⟨gb285, 0, none⟩) (Kd.R_types HO278.out BK285.out (by decide)) (fun _ hk => by first | exact hk.2 | (simp [hk])) (.slice Ao119 t280.length co119)) (fun _ hk => by first | exact hk.2 | (simp [hk])) (.int .i64 t283)) (fun _ h_ => h_.1))) hb); replace HO282 := am (Kd.R_below (by (with_reducible repeat (first | apply Kd.R_alloc | apply Kd.R_drewN | apply Kd.R_drew)); exact (Kd.R_mono (Kd.R_far (p := ⟨gb285, 1, none⟩) (Kd.R_far (p := ⟨gb285, 0, none⟩) (Kd.R_types HO282.out BK285.out (by decide)) (fun _ hk => by first | exact hk.2 | (simp [hk])) (.slice Ao119 t280.length co119)) (fun _ hk => by first | exact hk.2 | (simp [hk])) (.int .i64 t283)) (fun _ h_ => h_.1))) hb); replace BK241 := am (blk_below (xB BK241.out) hb); replace BK252 := am (blk_below (xB BK252.out) hb); replace BK257 := am (blk_below (xB BK257.out) hb); replace BK263 := am (blk_below (xB BK263.out) hb); replace BK285 := am (blk_below (xP BK285.out) hb); replace HB := am (below_step (xW HB.out) hb); (try clear hb); ))
             go_meet
             case rel => exact ⟨_, (true), (xQ), H', ⟨by have := HJ11.out; have := HJ60.out; first | omega | exact Nat.le_refl _⟩, ⟨by (try simp only [hl258000_60]); (with_reducible repeat (first | apply Kd.R_alloc | apply Kd.R_drewN | apply Kd.R_drew)); exact Kd.R_mono HO_253000.out (fun _ hk => by first | exact ⟨hk.1.1.1, ⟨hk.1.1.2, hk.2⟩⟩ | (simp [hk]))⟩, ⟨by (try simp only [hl258000_60]); (with_reducible repeat (first | apply Kd.R_alloc | apply Kd.R_drewN | apply Kd.R_drew)); exact Kd.R_mono HO_258000.out (fun _ hk => by first | exact ⟨hk.1.1.1, ⟨hk.1.1.2, hk.2⟩⟩ | (simp [hk]))⟩, ⟨by (try simp only [hl258000_60]); (with_reducible repeat (first | apply Kd.R_alloc | apply Kd.R_drewN | apply Kd.R_drew)); exact Kd.R_mono HO_264000.out (fun _ hk => by first | exact ⟨hk.1.1.1, ⟨hk.1.1.2, hk.2⟩⟩ | (simp [hk]))⟩, ⟨by (try simp only [hl258000_60]); (with_reducible repeat (first | apply Kd.R_alloc | apply Kd.R_drewN | apply Kd.R_drew)); exact Kd.R_mono HO282.out (fun _ hk => by first | exact ⟨hk.1.1.1.2, ⟨hk.1.1.2, hk.1.2⟩⟩ | (simp [hk]))⟩, ⟨by (try simp only [hl258000_60]); (with_reducible repeat (first | refine blk_drewN ?_ _ | refine blk_drew ?_ | refine blk_alloc ?_ _)); exact BK241.out⟩, ⟨by (try simp only [hl258000_60]); (with_reducible repeat (first | refine blk_drewN ?_ _ | refine blk_drew ?_ | refine blk_alloc ?_ _)); exact BK252.out⟩, ⟨by (try simp only [hl258000_60]); (with_reducible repeat (first | refine blk_drewN ?_ _ | refine blk_drew ?_ | refine blk_alloc ?_ _)); exact BK257.out⟩, ⟨by (try simp only [hl258000_60]); (with_reducible repeat (first | refine blk_drewN ?_ _ | refine blk_drew ?_ | refine blk_alloc ?_ _)); exact BK263.out⟩, ⟨by (try simp only [hl258000_60]); (with_reducible repeat (first | refine blk_drewN ?_ _ | refine blk_drew ?_ | refine blk_alloc ?_ _)); exact BK285.out⟩, ⟨xW HB.out⟩⟩
           case rest =>
            clear HC104
            try clear c1
            try clear c2
            try clear p2
            try clear c3
            try clear c4
            try clear c4b0
            try clear c5
            try clear c6
            try clear c7
            try clear c8
            try clear c9
            try clear c10
            try clear c11
            try clear c12
            try clear c13
            try clear c14
            try clear c16
            try clear c18
            try clear c22
            try clear c24
            try clear c25
            try clear c26
            try clear c27
            try clear c28
            try clear c29
            try clear c34
            try clear c35
            try clear c36
            try clear c39
            try clear c40
            try clear c41
            try clear c42
            try clear c44
            try clear c45
            try clear c48
            try clear c49
            try clear c50
            try clear c52
            try clear c53
            try clear c56
            try clear c59
            try clear c66
            try clear c67
            try clear c68
            try clear c71
            try clear c71b0
            try clear c73
            try clear c74
            try clear c75
            try clear c76
            try clear c78
            try clear c79
            try clear c82
            try clear c83
            try clear c84
            try clear c86
            try clear c87
            try clear c90
            try clear c93
            try clear c93b0
            try clear c94
            try clear c95
            try clear c96
            try clear c101
            try clear c101b0
            try clear c101b1
            try clear c105
            try clear c106
            try clear c107
            try clear c112
            try clear c113
            try clear c120
            try clear c121
            try clear c122
            try clear c123
            try clear c126
            try clear c127
            try clear c128
            try clear c129
            try clear c130
            try clear c132
            try clear c133
            try clear c134
            try clear c137
            try clear c138
            try clear c139
            try clear c140
            try clear c142
            try clear c143
            try clear c144
            try clear hcz108_0
            try clear hcz108_1
            try clear hcz110_0
            try clear hcz110_1
            try clear hcz114_0
            try clear hcz114_1
            try clear hcz124_0
            try clear hcz124_1
            try clear hcz131_0
            try clear hcz131_1
            try clear hcz135_0
            try clear hcz135_1
            try clear hcz141_0
            try clear hcz141_1
            try clear hcz145_0
            try clear hcz145_1
            try clear hcz14_0
            try clear hcz14_1
            try clear hcz16_0
            try clear hcz16_1
            try clear hcz23_0
            try clear hcz23_1
            try clear hcz24_0
            try clear hcz24_1
            try clear hcz30_0
            try clear hcz30_1
            try clear hcz37_0
            try clear hcz37_1
            try clear hcz43_0
            try clear hcz43_1
            try clear hcz46_0
            try clear hcz46_1
            try clear hcz51_0
            try clear hcz51_1
            try clear hcz54_0
            try clear hcz54_1
            try clear hcz69_0
            try clear hcz69_1
            try clear hcz6_0
            try clear hcz6_1
            try clear hcz77_0
            try clear hcz77_1
            try clear hcz80_0
            try clear hcz80_1
            try clear hcz85_0
            try clear hcz85_1
            try clear hcz88_0
            try clear hcz88_1
            try clear hcz97_0
            try clear hcz97_1
            try clear hcz99_0
            try clear hcz99_1
            try clear hfz108_0
            try clear hfz108_1
            try clear hfz110_0
            try clear hfz110_1
            try clear hfz114_0
            try clear hfz114_1
            try clear hfz124_0
            try clear hfz124_1
            try clear hfz131_0
            try clear hfz131_1
            try clear hfz135_0
            try clear hfz135_1
            try clear hfz141_0
            try clear hfz141_1
            try clear hfz145_0
            try clear hfz145_1
            try clear hfz14_0
            try clear hfz14_1
            try clear hfz16_0
            try clear hfz16_1
            try clear hfz23_0
            try clear hfz23_1
            try clear hfz24_0
            try clear hfz24_1
            try clear hfz30_0
            try clear hfz30_1
            try clear hfz37_0
            try clear hfz37_1
            try clear hfz43_0
            try clear hfz43_1
            try clear hfz46_0
            try clear hfz46_1
            try clear hfz51_0
            try clear hfz51_1
            try clear hfz54_0
            try clear hfz54_1
            try clear hfz69_0
            try clear hfz69_1
            try clear hfz6_0
            try clear hfz6_1
            try clear hfz77_0
            try clear hfz77_1
            try clear hfz80_0
            try clear hfz80_1
            try clear hfz85_0
            try clear hfz85_1
            try clear hfz88_0
            try clear hfz88_1
            try clear hfz97_0
            try clear hfz97_1
            try clear hfz99_0
            try clear hfz99_1
            try clear p2
            obtain ⟨kq, x92_103, rfl, HA, HJ103, HO_253000, HO_258000, HO_264000, HO_286000, BK241, BK252, BK257, BK263, BK285, HB⟩ := hcut
            have hl264000_103 := (Kd.R_reads' HO_264000.out).1
            rw [hl264000_103] at HO_264000
            (try simp only [hl264000_103])
            (try simp only [hl264000_103] at BK241)
            (try simp only [hl264000_103] at BK252)
            (try simp only [hl264000_103] at BK257)
            (try simp only [hl264000_103] at BK263)
            (try simp only [hl264000_103] at BK285)
            (try simp only [hl264000_103] at HO_253000)
            (try simp only [hl264000_103] at HO_258000)
            (try simp only [hl264000_103] at HO_286000)
            cases kq with
            | zero => exact absurd HA.out (by simp [laws_FnExactLift.j2])
            | succ kj103 =>
             have H := HA.out
             clear HA
             simp only [laws_FnExactLift.j2] at H
             by_cases c147 : x92_103 = true
             ·subst c147
              have H1 : (some false) = some r := by rw [if_pos rfl] at H; exact H
              clear H
              have H := H1
              clear H1
              obtain rfl := Option.some.inj H
              go_wp2
              go_ret
              exact ⟨xV, xW HB.out⟩
             ·replace c147 := Bool.eq_false_iff.mpr c147
              subst c147
              have H1 : ((laws_heldArena.f kj103 t274 t261 1).bind fun t287 => (if t287 < 0 then (some false) else (if t287 = t273 then (some true) else (some false)))) = some r := by rw [if_neg (show ¬ (false = true) by decide)] at H; exact H
              clear H
              have H := H1
              clear H1
              replace H := Option.bind_eq_some_iff.mp H
              obtain ⟨t287, A1480, H⟩ := H
              try dsimp only at H
              have A148 := am A1480
              clear A1480
              by_cases c149 : t287 < 0
              ·rw [if_pos c149] at H
               have c149b0 : decide (t287 < 0) = true := decide_eq_true c149
               clear c149
               obtain rfl := Option.some.inj H
               have hnb150 := NB263_241.out
               have hnc150 := NB241_263.out
               have hnb151 := NB263_252.out
               have hnc151 := NB252_263.out
               have hnb152 := NB263_257.out
               have hnc152 := NB257_263.out
               have hnb153 := NB263_285.out
               have hnc153 := NB285_263.out
               obtain ⟨hcz154_0, hcz154_1, hfz154_0, hfz154_1⟩ := xT2 (W := wc) BK263.out
               go_wp2_with (first | ((with_reducible refine gate_callee (f := 27) rfl ?_); refine xG (some 95) 27 Try.func27 #[.agg #[.slice Ao33 t274.length co33, .int .i64 t261], .int .i64 1] (h := ?_); (with_reducible refine (laws_heldArena.calls kj103 _ _ t274 t261 1 t287 _ ?side1 ?side2 A148.out).mono ?_); (case side1 => exact xC ((Kd.R_reads' HO_264000.out).2.2)); (case side2 => exact (Kd.R_reads' HO_264000.out).2.1); rintro e w155 ⟨rfl, hb⟩; refine ⟨_, rfl, ?_⟩; replace HO_253000 := am (Kd.R_below (xR HO_253000.out) hb); replace HO_258000 := am (Kd.R_below (xR HO_258000.out) hb); replace HO_264000 := am (Kd.R_below (xR HO_264000.out) hb); replace HO_286000 := am (Kd.R_below (xR HO_286000.out) hb); replace BK241 := am (blk_below (xB BK241.out) hb); replace BK252 := am (blk_below (xB BK252.out) hb); replace BK257 := am (blk_below (xB BK257.out) hb); replace BK263 := am (blk_below (xB BK263.out) hb); replace BK285 := am (blk_below (xB BK285.out) hb); replace HB := am (below_step (xW HB.out) hb); (try clear hb); ))
               go_ret
               exact ⟨xV, xW HB.out⟩
              ·rw [if_neg c149] at H
               have c149b0 : decide (t287 < 0) = false := decide_eq_false c149
               clear c149
               by_cases c156 : t287 = t273
               ·rw [if_pos c156] at H
                have c156b0 : (t287 == t273) = true := beq_iff_eq.mpr c156
                have c156b1 : (t287 != t273) = false := bne_eq_false_iff_eq.mpr c156
                clear c156
                obtain rfl := Option.some.inj H
                have hnb157 := NB263_241.out
                have hnc157 := NB241_263.out
                have hnb158 := NB263_252.out
                have hnc158 := NB252_263.out
                have hnb159 := NB263_257.out
                have hnc159 := NB257_263.out
                have hnb160 := NB263_285.out
                have hnc160 := NB285_263.out
                obtain ⟨hcz161_0, hcz161_1, hfz161_0, hfz161_1⟩ := xT2 (W := wc) BK263.out
                go_wp2_with (first | ((with_reducible refine gate_callee (f := 27) rfl ?_); refine xG (some 95) 27 Try.func27 #[.agg #[.slice Ao33 t274.length co33, .int .i64 t261], .int .i64 1] (h := ?_); (with_reducible refine (laws_heldArena.calls kj103 _ _ t274 t261 1 t287 _ ?side1 ?side2 A148.out).mono ?_); (case side1 => exact xC ((Kd.R_reads' HO_264000.out).2.2)); (case side2 => exact (Kd.R_reads' HO_264000.out).2.1); rintro e w162 ⟨rfl, hb⟩; refine ⟨_, rfl, ?_⟩; replace HO_253000 := am (Kd.R_below (xR HO_253000.out) hb); replace HO_258000 := am (Kd.R_below (xR HO_258000.out) hb); replace HO_264000 := am (Kd.R_below (xR HO_264000.out) hb); replace HO_286000 := am (Kd.R_below (xR HO_286000.out) hb); replace BK241 := am (blk_below (xB BK241.out) hb); replace BK252 := am (blk_below (xB BK252.out) hb); replace BK257 := am (blk_below (xB BK257.out) hb); replace BK263 := am (blk_below (xB BK263.out) hb); replace BK285 := am (blk_below (xB BK285.out) hb); replace HB := am (below_step (xW HB.out) hb); (try clear hb); ))
                go_ret
                exact ⟨xV, xW HB.out⟩
               ·rw [if_neg c156] at H
                have c156b0 : (t287 == t273) = false := beq_eq_false_iff_ne.mpr c156
                have c156b1 : (t287 != t273) = true := bne_iff_ne.mpr c156
                obtain rfl := Option.some.inj H
                have hnb163 := NB263_241.out
                have hnc163 := NB241_263.out
                have hnb164 := NB263_252.out
                have hnc164 := NB252_263.out
                have hnb165 := NB263_257.out
                have hnc165 := NB257_263.out
                have hnb166 := NB263_285.out
                have hnc166 := NB285_263.out
                obtain ⟨hcz167_0, hcz167_1, hfz167_0, hfz167_1⟩ := xT2 (W := wc) BK263.out
                go_wp2_with (first | ((with_reducible refine gate_callee (f := 27) rfl ?_); refine xG (some 95) 27 Try.func27 #[.agg #[.slice Ao33 t274.length co33, .int .i64 t261], .int .i64 1] (h := ?_); (with_reducible refine (laws_heldArena.calls kj103 _ _ t274 t261 1 t287 _ ?side1 ?side2 A148.out).mono ?_); (case side1 => exact xC ((Kd.R_reads' HO_264000.out).2.2)); (case side2 => exact (Kd.R_reads' HO_264000.out).2.1); rintro e w168 ⟨rfl, hb⟩; refine ⟨_, rfl, ?_⟩; replace HO_253000 := am (Kd.R_below (xR HO_253000.out) hb); replace HO_258000 := am (Kd.R_below (xR HO_258000.out) hb); replace HO_264000 := am (Kd.R_below (xR HO_264000.out) hb); replace HO_286000 := am (Kd.R_below (xR HO_286000.out) hb); replace BK241 := am (blk_below (xB BK241.out) hb); replace BK252 := am (blk_below (xB BK252.out) hb); replace BK257 := am (blk_below (xB BK257.out) hb); replace BK263 := am (blk_below (xB BK263.out) hb); replace BK285 := am (blk_below (xB BK285.out) hb); replace HB := am (below_step (xW HB.out) hb); (try clear hb); ))
                go_ret
                exact ⟨xV, xW HB.out⟩
          ·rw [if_neg c101] at H
           have c101b0 : (t275 == t273) = false := beq_eq_false_iff_ne.mpr c101
           have c101b1 : (t275 != t273) = true := bne_iff_ne.mpr c101
           obtain rfl := Option.some.inj H
           have hnb169 := NB263_241.out
           have hnc169 := NB241_263.out
           have hnb170 := NB263_252.out
           have hnc170 := NB252_263.out
           have hnb171 := NB263_257.out
           have hnc171 := NB257_263.out
           obtain ⟨hcz172_0, hcz172_1, hfz172_0, hfz172_1⟩ := xT2 (W := wc) BK263.out
           go_wp2_with (first | ((with_reducible refine gate_callee (f := 26) rfl ?_); refine xG (some 68) 26 Try.func26 #[.agg #[.slice Ao33 t258.length co33, .int .i64 t261], .int .i64 1] (h := ?_); (with_reducible refine (laws_markArena.calls kj60 (fun k_ => some k_ = (.slice Ao33 t258.length co33 : Value).ownBlock) (.slice Ao33 t258.length co33) t258 t261 1 t273 t274 w _ ?side1 ?side2 A91.out).mono ?_); (case side1 => exact xW HB.out); (case side2 => exact Kd.R_tight rfl HO_264000.out); rintro e w173 ⟨rfl, hy0, hb, hkp⟩; refine ⟨_, rfl, ?_⟩; replace HO_253000 := am (Kd.R_mono (ok' := fun k_ => some k_ ≠ (.slice Ao27 t271.length co27 : Value).ownBlock ∧ some k_ ≠ (.slice Ao33 t258.length co33 : Value).ownBlock) (Kd.R_keptB (HO_253000.out) hkp (fun k_ hk_ hs_ => by first | exact (hk_.2) hs_ | (rcases hs_ with e_ | e_ <;> (revert hk_; simp [e_])) | (revert hk_; simp [hs_]))) (fun k_ hk_ => by first | exact ⟨hk_.1.1, hk_.1.2⟩ | (revert hk_; intro hk_; simp [hk_]))); replace HO_258000 := am (Kd.R_mono (ok' := fun k_ => some k_ ≠ (.slice Ao21 t247.length co21 : Value).ownBlock ∧ some k_ ≠ (.slice Ao33 t258.length co33 : Value).ownBlock) (Kd.R_keptB (HO_258000.out) hkp (fun k_ hk_ hs_ => by first | exact (hk_.2) hs_ | (rcases hs_ with e_ | e_ <;> (revert hk_; simp [e_])) | (revert hk_; simp [hs_]))) (fun k_ hk_ => by first | exact ⟨hk_.1.1, hk_.1.2⟩ | (revert hk_; intro hk_; simp [hk_]))); replace BK241 := am (blk_kept (xB BK241.out) hkp (fun hs_ => (fun e_ => (Kd.R_ne HO_264000.out BK241.out (by decide)) e_) hs_)); replace BK252 := am (blk_kept (xB BK252.out) hkp (fun hs_ => (fun e_ => (Kd.R_ne HO_264000.out BK252.out (by decide)) e_) hs_)); replace BK257 := am (blk_kept (xB BK257.out) hkp (fun hs_ => (fun e_ => (Kd.R_ne HO_264000.out BK257.out (by decide)) e_) hs_)); replace BK263 := am (blk_kept (xB BK263.out) hkp (fun hs_ => (fun e_ => (Kd.R_ne HO_264000.out BK263.out (by decide)) e_) hs_)); replace HO_264000 := am (Kd.R_reok rfl hy0 (fun k_ e_ => HO_264000.out.1 k_ e_)); replace HB := am (hb); (try clear hb); (try clear hkp); (try clear hy0); obtain ⟨hcz174_0, hcz174_1, hfz174_0, hfz174_1⟩ := xT2 (W := w173) BK263.out) | ((with_reducible refine gate_callee (f := 27) rfl ?_); refine goesL_ (some 71) rfl rfl Try.func27 (by kernel_rfl) rfl #[.agg #[.slice Ao33 t274.length co33, .int .i64 t261], .int .i64 1] rfl (by (try simp only [List.map_toArray, List.map_cons, List.map_nil]); first | done | (rw [show t274.length = t258.length from (Kd.R_reads' HO_264000.out).1.symm] <;> rfl) | rfl | (simp only [List.length_drop, List.length_take]; rfl)) ?_; (with_reducible refine (laws_heldArena.calls kj60 _ _ t274 t261 1 t275 _ ?side1 ?side2 A92.out).mono ?_); (case side1 => exact xC ((Kd.R_reads' HO_264000.out).2.2)); (case side2 => rw [show t274.length = t258.length from (Kd.R_reads' HO_264000.out).1.symm]; exact (Kd.R_reads' HO_264000.out).2.1); rintro e w175 ⟨rfl, hb⟩; refine ⟨_, rfl, ?_⟩; replace HO_253000 := am (Kd.R_below (xR HO_253000.out) hb); replace HO_258000 := am (Kd.R_below (xR HO_258000.out) hb); replace HO_264000 := am (Kd.R_below (xR HO_264000.out) hb); replace BK241 := am (blk_below (xB BK241.out) hb); replace BK252 := am (blk_below (xB BK252.out) hb); replace BK257 := am (blk_below (xB BK257.out) hb); replace BK263 := am (blk_below (xB BK263.out) hb); replace HB := am (below_step (xW HB.out) hb); (try clear hb); ))
           go_ret
           exact ⟨xV, xW HB.out⟩
     ·replace c59 := Bool.eq_false_iff.mpr c59
      subst c59
      have H1 : (some false) = some r := by rw [if_neg (show ¬ (false = true) by decide)] at H; exact H
      clear H
      have H := H1
      clear H1
      obtain rfl := Option.some.inj H
      try go_wp2
      replace HO_253000 := am (Kd.R_drew HO_253000.out)
      replace HO_258000 := am (Kd.R_drew HO_258000.out)
      replace HO_264000 := am (Kd.R_drew HO_264000.out)
      replace BK241 := am (blk_drew BK241.out)
      replace BK252 := am (blk_drew BK252.out)
      replace BK257 := am (blk_drew BK257.out)
      replace BK263 := am (blk_drew BK263.out)
      replace HB := am (below_drew1 HB.out)
      refine start_ (n := 5) (S := fun w' => w'.cell? ⟨gb257, 0, none⟩ = some (.slice Ao27 t253.length co27) ∧ w'.cell? ⟨gb257, 1, none⟩ = some (.int .i64 t256) ∧ w'.cell? ⟨gb241, 0, none⟩ = some (.slice A0_0 l0_0.length c0_0) ∧ w'.cell? ⟨gb241, 1, none⟩ = some (.int .i64 a0_1)) (ds := []) #[false, false, false, false, false] (by kernel_rfl) rfl rfl ⟨(blk_cell BK257.out 0).trans rfl, (blk_cell BK257.out 1).trans rfl, (blk_cell BK241.out 0).trans rfl, (blk_cell BK241.out 1).trans rfl⟩ (fun hHeld => ?_)
      generalize wc.drew = w176 at HO_253000 HO_258000 HO_264000 BK241 BK252 BK257 BK263 HB hHeld ⊢
      refine take_ (i := 0) (N := some 45) (v := ?_) (a' := ?_) #[true, false, false, false, false] rfl rfl (by kernel_rfl) (fun _ _ _ h => h) (Or.inl ⟨by rfl, ?_⟩) hHeld ?_ ?_
      rotate_left
      ·rintro w' ⟨s0, s1, s2, s3⟩
       go_simp
       with_reducible rfl
      rotate_left
      ·simp only [Act.put, List.setIfInBounds_toArray, List.set_cons_zero, List.set_cons_succ, i64_w, i32_w]
       rfl
      refine take_ (i := 1) (N := some 46) (v := ?_) (a' := ?_) #[true, true, false, false, false] rfl rfl (by kernel_rfl) (fun _ _ _ h => h) (Or.inl ⟨by rfl, ?_⟩) hHeld ?_ ?_
      rotate_left
      ·rintro w' ⟨s0, s1, s2, s3⟩
       go_simp
       with_reducible rfl
      rotate_left
      ·simp only [Act.put, List.setIfInBounds_toArray, List.set_cons_zero, List.set_cons_succ, i64_w, i32_w]
       rfl
      refine one_ (i := 2) (N := some 47) #[true, true, true, false, false] rfl rfl (by kernel_rfl) (by decide) (fun K hK => ?_)
      refine xG1 16 Try.func16 #[.agg #[.slice A0_0 l0_0.length c0_0, .int .i64 a0_1]] (h := ?_)
      with_reducible refine (laws_toArena.calls kj11 _ _ l0_0 a0_1 t265 t268 _ ?side1 ?side2 A57.out).mono ?_
      (case side1 => exact xC (Kd.C_below HR0_0.out HB.out))
      (case side2 => exact HC0_0.out)
      rintro e w177 ⟨v266, rfl, ho0, hb⟩
      refine ⟨_, rfl, ?_⟩
      have HO267 := am (Kd.R_lower (Kd.R_new' (Kd.R_new' (Kd.R_new' ho0 (Kd.R_lt (xR HO_253000.out))) (Kd.R_lt (xR HO_258000.out))) (Kd.R_lt (xR HO_264000.out))) (below_size (xW HB.out)))
      replace HO_253000 := am (Kd.R_elder' (xR HO_253000.out) (Kd.R_base ho0) hb)
      replace HO_258000 := am (Kd.R_elder' (xR HO_258000.out) (Kd.R_base ho0) hb)
      replace HO_264000 := am (Kd.R_elder' (xR HO_264000.out) (Kd.R_base ho0) hb)
      replace BK241 := am (blk_below (xB BK241.out) hb)
      replace BK252 := am (blk_below (xB BK252.out) hb)
      replace BK257 := am (blk_below (xB BK257.out) hb)
      replace BK263 := am (blk_below (xB BK263.out) hb)
      replace HB := am (below_step (xW HB.out) hb)
      (try clear hb)
      (try clear ho0)
      obtain ⟨Ao178, co178, eo178⟩ := Kd.R_slice HO267.out
      (first | subst eo178 | (injection eo178 with f1_ f2_ f3_; have f4_ := f1_.symm; have f5_ := f3_.symm; clear f1_ f2_ f3_; subst f4_; subst f5_))
      refine hK.out _ _ ⟨(blk_cell BK257.out 0).trans rfl, (blk_cell BK257.out 1).trans rfl, (blk_cell BK241.out 0).trans rfl, (blk_cell BK241.out 1).trans rfl⟩ (fun hHeld => ?_)
      clear hK K
      refine xN1 (h := ?_)
      refine one_ (i := 3) (N := some 48) #[true, true, true, true, false] rfl rfl (by kernel_rfl) (by decide) (fun K hK => ?_)
      refine xG1 18 Try.func18 #[.agg #[.slice Ao27 t253.length co27, .int .i64 t256], .agg #[.slice Ao178 t265.length co178, .int .i64 t268]] (h := ?_)
      with_reducible refine (laws_eqArena.calls kj11 _ _ t253 t256 _ _ t265 t268 false _ ?side1 ?side2 ?side3 ?side4 A58.out).mono ?_
      (case side1 => exact xC ((Kd.R_reads' HO_258000.out).2.2))
      (case side2 => exact (Kd.R_reads' HO_258000.out).2.1)
      (case side3 => exact xC ((Kd.R_reads' HO267.out).2.2))
      (case side4 => exact (Kd.R_reads' HO267.out).2.1)
      rintro e w179 ⟨rfl, hb⟩
      refine ⟨_, rfl, ?_⟩
      replace HO_253000 := am (Kd.R_below (xR HO_253000.out) hb)
      replace HO_258000 := am (Kd.R_below (xR HO_258000.out) hb)
      replace HO_264000 := am (Kd.R_below (xR HO_264000.out) hb)
      replace HO267 := am (Kd.R_below (xR HO267.out) hb)
      replace BK241 := am (blk_below (xB BK241.out) hb)
      replace BK252 := am (blk_below (xB BK252.out) hb)
      replace BK257 := am (blk_below (xB BK257.out) hb)
      replace BK263 := am (blk_below (xB BK263.out) hb)
      replace HB := am (below_step (xW HB.out) hb)
      (try clear hb)
      refine hK.out _ _ ⟨(blk_cell BK257.out 0).trans rfl, (blk_cell BK257.out 1).trans rfl, (blk_cell BK241.out 0).trans rfl, (blk_cell BK241.out 1).trans rfl⟩ (fun hHeld => ?_)
      clear hK K
      refine xN1 (h := ?_)
      refine pure_ (i := 4) (N := some 49) (v := ?_) (a' := ?_) #[true, true, true, true, true] rfl rfl (by kernel_rfl) (fun _ _ _ h => h) (Or.inl ⟨by rfl, ?_⟩) ?_ ?_
      rotate_left
      ·intro w'
       go_simp
       with_reducible rfl
      rotate_left
      ·simp only [Act.put, List.setIfInBounds_toArray, List.set_cons_zero, List.set_cons_succ, i64_w, i32_w]
       rfl
      refine done_ (by kernel_rfl) ?_
      try go_wp2
      go_ret
      exact ⟨xV, xW HB.out⟩
end Go.Proofs.Ytomcapflpephmaa.HFnExactLift
