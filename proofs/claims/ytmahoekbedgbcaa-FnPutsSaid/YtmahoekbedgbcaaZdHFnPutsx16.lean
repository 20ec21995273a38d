/- What the row of the law needs of the printed and the plain texts. -/
import Derived.Test.YtmahoekbedgbcaaZdHX
import Derived.Test.YtmahoekbedgbcaaZdHFnPutsx0
import Derived.Test.YtmahoekbedgbcaaZdHFnPutsx2
import Derived.Test.YtmahoekbedgbcaaZdHFnPutsx7
import Derived.Test.YtmahoekbedgbcaaZdHFnPutsx10
import Derived.Test.YtmahoekbedgbcaaZdHFnPutsx12
import Derived.Test.YtmahoekbedgbcaaZdHFnPutsx13
import Derived.Test.YtmahoekbedgbcaaZdHFnPutsx14
import Derived.Test.YtmahoekbedgbcaaZdHFnPutsx15
namespace Go.Proofs.Ytmahoekbedgbcaa.HFnPuts
open Go.RowKit Go.Proofs.YtmahoekbedgbcaaW.PrintWords Go.Proofs.YtmahoekbedgbcaaW.PrintLast Go.Proofs.YtmahoekbedgbcaaW.PrintMore
attribute [local go_sem] max2_int min2_int max_two min_two max_three min_three max_four min_four
set_option linter.unusedVariables false
set_option linter.unusedSimpArgs false
open Go.Proofs.YtmahoekbedgbcaaW.PrintWords renaming blk_drewN → bn, blk_drew → bd, blk_alloc → ba, below_alloc → wa, pw_below_drewN → wn, below_drew1 → wd, below_set → ws, blk_below → bb, blk_kept → bk, below_step → bs
open Go.Proofs.YtmahoekbedgbcaaW.PrintWords.Kd renaming R_alloc → ra, R_drewN → rn, R_drew → rd, R_below → rb, R_mono → rm, R_apart' → rp, R_typed → rt, R_keptB → rk, R_base → re, R_reads' → rr
open Go.Proofs.YtmahoekbedgbcaaW.PrintMore.Kd renaming R_told → ro, R_old → rl
mutual
def laws_FnPuts.j0 : Nat → ByteArray → Bool → Bool → List (S57) → List (S57) → Int → List (S57) → List (S57) → Int → Option (Bool)
 | 0, _, _, _, _, _, _, _, _, _ => none
 | k + 1, x4, x6, x49, x476000, x476001, x476002, x485000, x485001, x485002 => if x49 = true then (some false) else (if x6 = true then ((impl_SeekKey.f k x485000 x485001 x485002 x4).bind fun bt495 => ((impl_TakeKey.f k x485000 x485001 x485002 x4).bind fun bt497 => ((impl_SeekKey.f k bt497.1 bt497.2.1 bt497.2.2.1 x4).bind fun bt506 => (if bt495.2 = true then (if bt495.1 = 77 then (if bt497.2.2.2 = true then (if bt506.2 = true then (laws_FnPuts.j1 k x4 true x476000 x476001 x476002 x485000 x485001 x485002 bt497.1 bt497.2.1 bt497.2.2.1) else ((impl_TableOk.f k x485000 x485001 x485002).bind fun t508 => (if t508 = true then ((impl_TableOk.f k bt497.1 bt497.2.1 bt497.2.2.1).bind fun t509 => (laws_FnPuts.j1 k x4 (!t509) x476000 x476001 x476002 x485000 x485001 x485002 bt497.1 bt497.2.1 bt497.2.2.1)) else (laws_FnPuts.j1 k x4 true x476000 x476001 x476002 x485000 x485001 x485002 bt497.1 bt497.2.1 bt497.2.2.1)))) else (laws_FnPuts.j1 k x4 true x476000 x476001 x476002 x485000 x485001 x485002 bt497.1 bt497.2.1 bt497.2.2.1)) else (laws_FnPuts.j1 k x4 true x476000 x476001 x476002 x485000 x485001 x485002 bt497.1 bt497.2.1 bt497.2.2.1)) else (laws_FnPuts.j1 k x4 true x476000 x476001 x476002 x485000 x485001 x485002 bt497.1 bt497.2.1 bt497.2.2.1))))) else (some ((x485000.length : Int) == 0)))
def laws_FnPuts.j1 : Nat → ByteArray → Bool → List (S57) → List (S57) → Int → List (S57) → List (S57) → Int → List (S57) → List (S57) → Int → Option (Bool)
 | 0, _, _, _, _, _, _, _, _, _, _, _ => none
 | k + 1, x4, x96, x476000, x476001, x476002, x485000, x485001, x485002, x506000, x506001, x506002 => if x96 = true then (some false) else ((laws_names.f).bind fun t510 => (laws_FnPuts.l0 k x4 t510 0 x476000 x476001 x476002 x485000 x485001 x485002 x506000 x506001 x506002))
def laws_FnPuts.l0 : Nat → ByteArray → List ByteArray → Int → List (S57) → List (S57) → Int → List (S57) → List (S57) → Int → List (S57) → List (S57) → Int → Option (Bool)
 | 0, _, _, _, _, _, _, _, _, _, _, _, _ => none
 | k + 1, x4, x15, x16, x476000, x476001, x476002, x485000, x485001, x485002, x506000, x506001, x506002 => if x16 < (x15.length : Int) then (if 0 ≤ x16 then (if (rdOf ByteArray.empty x15 x16).toList = x4.toList then (laws_FnPuts.l0 k x4 x15 (wrap64 (x16 + 1)) x476000 x476001 x476002 x485000 x485001 x485002 x506000 x506001 x506002) else ((spec_SeekKey.f k x476000 x476001 x476002 (rdOf ByteArray.empty x15 x16)).bind fun bt515 => ((impl_SeekKey.f k x485000 x485001 x485002 (rdOf ByteArray.empty x15 x16)).bind fun bt518 => ((impl_SeekKey.f k x506000 x506001 x506002 (rdOf ByteArray.empty x15 x16)).bind fun bt521 => (if (bt515.2 != bt518.2) = true then (some false) else (if (bt515.2 != bt521.2) = true then (some false) else (if bt515.1 = bt518.1 then (if bt515.1 = bt521.1 then (laws_FnPuts.l0 k x4 x15 (wrap64 (x16 + 1)) x476000 x476001 x476002 x485000 x485001 x485002 x506000 x506001 x506002) else (some false)) else (some false)))))))) else (none)) else (some true)
end
def laws_FnPuts.f (k : Nat) (l0 : List Int) : Option (Bool) := (laws_big.f l0).bind fun t466 => (if t466 = true then (some true) else ((spec_DrawRightTable.f k l0).bind fun bt467 => ((impl_PutKey.f k bt467.1 bt467.2.1 bt467.2.2.1 bt467.2.2.2 77).bind fun bt476 => ((spec_PutKey.f k bt467.1 bt467.2.1 bt467.2.2.1 bt467.2.2.2 77).bind fun bt485 => (if (bt476.2.2.2 != bt485.2.2.2) = true then (laws_FnPuts.j0 k bt467.2.2.2 bt476.2.2.2 true bt467.1 bt467.2.1 bt467.2.2.1 bt476.1 bt476.2.1 bt476.2.2.1) else ((impl_TableOk.f k bt467.1 bt467.2.1 bt467.2.2.1).bind fun t494 => (laws_FnPuts.j0 k bt467.2.2.2 bt476.2.2.2 (!t494) bt467.1 bt467.2.1 bt467.2.2.1 bt476.1 bt476.2.1 bt476.2.2.1)))))))
def laws_FnPuts.T20 : Bool × List (List Nat × List Nat) := (true, [([], []), ([], []), ([], []), ([1, 2], [1, 2]), ([3], [3]), ([0, 4], [0, 4]), ([5], [5]), ([6], [6]), ([6], [6]), ([7, 5, 0, 1, 2, 3, 4, 5, 6, 7], [7]), ([8, 9, 0, 1, 2, 3, 4, 5, 6, 7, 8, 9], [8])])
def laws_FnPuts.B20 : List Nat := [0, 0, 0, 6, 14, 31, 63, 127, 127, 255, 1023]
theorem laws_FnPuts.tab20 : rtab .any (opsOf Try.f11 20) = laws_FnPuts.T20 := by kernel_rfl
theorem laws_FnPuts.bits20 : waitsOk laws_FnPuts.T20.2 laws_FnPuts.B20 = true := by kernel_rfl
def laws_FnPuts.T21 : Bool × List (List Nat × List Nat) := (true, [([], []), ([], []), ([], []), ([1, 2], [1, 2]), ([3], [3]), ([0, 4], [0, 4]), ([5], [5]), ([6], [6]), ([6], [6]), ([7, 5, 0, 1, 2, 3, 4, 5, 6, 7], [7]), ([8, 9, 0, 1, 2, 3, 4, 5, 6, 7, 8, 9], [8])])
def laws_FnPuts.B21 : List Nat := [0, 0, 0, 6, 14, 31, 63, 127, 127, 255, 1023]
theorem laws_FnPuts.tab21 : rtab .any (opsOf Try.f11 21) = laws_FnPuts.T21 := by kernel_rfl
theorem laws_FnPuts.bits21 : waitsOk laws_FnPuts.T21.2 laws_FnPuts.B21 = true := by kernel_rfl
def laws_FnPuts.T22 : Bool × List (List Nat × List Nat) := (true, [([], []), ([], []), ([], []), ([1, 2], [1, 2]), ([3], [3]), ([0, 4], [0, 4]), ([5], [5]), ([6], [6]), ([6], [6]), ([7, 5, 0, 1, 2, 3, 4, 5, 6, 7], [7]), ([8, 9, 0, 1, 2, 3, 4, 5, 6, 7, 8, 9], [8])])
def laws_FnPuts.B22 : List Nat := [0, 0, 0, 6, 14, 31, 63, 127, 127, 255, 1023]
theorem laws_FnPuts.tab22 : rtab .any (opsOf Try.f11 22) = laws_FnPuts.T22 := by kernel_rfl
theorem laws_FnPuts.bits22 : waitsOk laws_FnPuts.T22.2 laws_FnPuts.B22 = true := by kernel_rfl
set_option maxHeartbeats 8000000 in
set_option maxRecDepth 100000 in
theorem laws_FnPuts.calls (k : Nat) (A0 : Option Addr) (c0 : Nat) (l0 : List Int) (r : Bool) (w : World) (hr0 : Kd.C (Kd.int .u8) w A0 l0.length l0) (hc0 : l0.length ≤ c0) (h : laws_FnPuts.f k l0 = some r) :
  Calls Try.prog 11 #[.slice A0 l0.length c0] w fun e w' => e = .returned (.bool r) ∧ Below w.heap.size w w' := by
 have hu26 := Try.underlying26
 have HR0 := am hr0
 have HC0 := am hc0
 clear hr0 hc0
 have HB := am (Below.refl w.heap.size w)
 have H : ((laws_big.f l0).bind fun t466 => (if t466 = true then (some true) else ((spec_DrawRightTable.f k l0).bind fun bt467 => ((impl_PutKey.f k bt467.1 bt467.2.1 bt467.2.2.1 bt467.2.2.2 77).bind fun bt476 => ((spec_PutKey.f k bt467.1 bt467.2.1 bt467.2.2.1 bt467.2.2.2 77).bind fun bt485 => (if (bt476.2.2.2 != bt485.2.2.2) = true then (laws_FnPuts.j0 k bt467.2.2.2 bt476.2.2.2 true bt467.1 bt467.2.1 bt467.2.2.1 bt476.1 bt476.2.1 bt476.2.2.1) else ((impl_TableOk.f k bt467.1 bt467.2.1 bt467.2.2.1).bind fun t494 => (laws_FnPuts.j0 k bt467.2.2.2 bt476.2.2.2 (!t494) bt467.1 bt467.2.1 bt467.2.2.1 bt476.1 bt476.2.1 bt476.2.2.1)))))))) = some r := h
 clear h
 replace H := Option.bind_eq_some_iff.mp H
 obtain ⟨t466, A20, H⟩ := H
 try dsimp only at H
 have A2 := am A20
 clear A20
 by_cases c3 : t466 = true
 ·subst c3
  have H1 : (some true) = some r := by rw [if_pos rfl] at H; exact H
  clear H
  have H := H1
  clear H1
  obtain rfl := Option.some.inj H
  go_enter Try.func11, Try.ntmps11
  go_wp2_with (first | ((with_reducible refine gate_callee (f := 14) rfl ?_); refine xG (some 24) 14 Try.func14 #[.slice A0 l0.length c0] (h := ?_); (with_reducible refine (laws_big.calls _ _ l0 true _ ?side1 ?side2 A2.out).mono ?_); (case side1 => exact xC (HR0.out)); (case side2 => exact HC0.out); rintro e w' ⟨rfl, ⟨nd, rfl⟩⟩; refine ⟨_, rfl, ?_⟩))
  go_ret
  exact ⟨xV, xW HB.out⟩
 ·replace c3 := Bool.eq_false_iff.mpr c3
  subst c3
  have H1 : ((spec_DrawRightTable.f k l0).bind fun bt467 => ((impl_PutKey.f k bt467.1 bt467.2.1 bt467.2.2.1 bt467.2.2.2 77).bind fun bt476 => ((spec_PutKey.f k bt467.1 bt467.2.1 bt467.2.2.1 bt467.2.2.2 77).bind fun bt485 => (if (bt476.2.2.2 != bt485.2.2.2) = true then (laws_FnPuts.j0 k bt467.2.2.2 bt476.2.2.2 true bt467.1 bt467.2.1 bt467.2.2.1 bt476.1 bt476.2.1 bt476.2.2.1) else ((impl_TableOk.f k bt467.1 bt467.2.1 bt467.2.2.1).bind fun t494 => (laws_FnPuts.j0 k bt467.2.2.2 bt476.2.2.2 (!t494) bt467.1 bt467.2.1 bt467.2.2.1 bt476.1 bt476.2.1 bt476.2.2.1)))))) = some r := by rw [if_neg (show ¬ (false = true) by decide)] at H; exact H
  clear H
  have H := H1
  clear H1
  replace H := Option.bind_eq_some_iff.mp H
  obtain ⟨⟨t467, t470, t473, t474⟩, A40, H⟩ := H
  try dsimp only at H
  have A4 := am A40
  clear A40
  replace H := Option.bind_eq_some_iff.mp H
  obtain ⟨⟨t476, t479, t482, t483⟩, A50, H⟩ := H
  try dsimp only at H
  have A5 := am A50
  clear A50
  replace H := Option.bind_eq_some_iff.mp H
  obtain ⟨⟨t485, t488, t491, t492⟩, A60, H⟩ := H
  try dsimp only at H
  have A6 := am A60
  clear A60
  have HC7 := am H
  clear H
  go_enter Try.func11, Try.ntmps11
  go_upto_region 6 with (first | ((with_reducible refine gate_callee (f := 14) rfl ?_); refine xG (some 24) 14 Try.func14 #[.slice A0 l0.length c0] (h := ?_); (with_reducible refine (laws_big.calls _ _ l0 false _ ?side1 ?side2 A2.out).mono ?_); (case side1 => exact xC (HR0.out)); (case side2 => exact HC0.out); rintro e w' ⟨rfl, ⟨nd, rfl⟩⟩; refine ⟨_, rfl, ?_⟩) | ((with_reducible refine gate_callee (f := 15) rfl ?_); refine xG (some 27) 15 Try.func15 #[.slice A0 l0.length c0] (h := ?_); (with_reducible refine (spec_DrawRightTable.calls k _ _ l0 t467 t470 t473 t474 _ ?side1 ?side2 A4.out).mono ?_); (case side1 => exact xC (HR0.out)); (case side2 => exact HC0.out); rintro e w8 ⟨v468, v471, rfl, ho0, ho1, hb⟩; refine ⟨_, rfl, ?_⟩; have HO469 := am (Kd.R_lower ho0 (below_size (xW HB.out))); have HO472 := am (Kd.R_lower ho1 (below_size (xW HB.out))); replace HB := am (bs (xW HB.out) hb); (try clear hb); (try clear ho0); (try clear ho1)) | ((with_reducible refine gate_dst (N := 3) rfl ?_); refine xE (N := 3) (cs := #[.slice none 0 0, .slice none 0 0, .int .i64 0]) (t := 26) (h := ?_); intro gb475 hg w9 hbox hb; replace HO469 := am (rb (xR HO469.out) hb); replace HO472 := am (rb (xR HO472.out) hb); have BK475 := am (hbox); have GW475 := am (xS hg HB.out); have GE475 := am (xS hg HB.out); replace HB := am (bs (xW HB.out) hb); clear hb hbox hg; obtain ⟨Ao10, co10, eo10⟩ := Kd.R_slice HO469.out; subst eo10; obtain ⟨hcz11_0, hcz11_1, hcz11_2, hfz11_0, hfz11_1, hfz11_2⟩ := xT3 (W := w9) BK475.out; obtain ⟨Ao12, co12, eo12⟩ := Kd.R_slice HO472.out; subst eo12) | ((with_reducible refine gate_callee (f := 38) rfl ?_); refine xG (some 33) 38 Try.func38 #[.agg #[.slice Ao10 t467.length co10, .slice Ao12 t470.length co12, .int .i64 t473], .string t474, .int .i64 77] (h := ?_); (with_reducible refine (impl_PutKey.calls k _ _ t467 _ _ t470 t473 t474 77 t476 t479 t482 t483 _ ?side1 ?side2 ?side3 ?side4 A5.out).mono ?_); (case side1 => exact xD HO469.out); (case side2 => exact (rr HO469.out).2.1); (case side3 => exact xD HO472.out); (case side4 => exact (rr HO472.out).2.1); rintro e w13 ⟨v477, v480, rfl, ho0, ho1, hb⟩; refine ⟨_, rfl, ?_⟩; have HO478 := am (Kd.R_lower (Kd.R_new' (Kd.R_new' ho0 (Kd.R_lt (xR HO469.out))) (Kd.R_lt (xR HO472.out))) (below_size (xW HB.out))); have HO481 := am (Kd.R_lower (Kd.R_new' (Kd.R_new' ho1 (Kd.R_lt (xR HO469.out))) (Kd.R_lt (xR HO472.out))) (below_size (xW HB.out))); replace HO469 := am (rm (ro (ro (rl (xR HO469.out) hb) (re ho0)) (re ho1)) (fun _ h_ => h_.1)); replace HO472 := am (rm (ro (ro (rl (xR HO472.out) hb) (re ho0)) (re ho1)) (fun _ h_ => h_.1)); replace BK475 := am (bb (xP BK475.out) hb); replace HB := am (bs (xW HB.out) hb); (try clear hb); (try clear ho0); (try clear ho1)) | ((with_reducible refine gate_dst (N := 5) rfl ?_); refine xE (N := 5) (cs := #[.slice none 0 0, .slice none 0 0, .int .i64 0]) (t := 26) (h := ?_); intro gb484 hg w14 hbox hb; replace HO469 := am (rb (xR HO469.out) hb); replace HO472 := am (rb (xR HO472.out) hb); replace HO478 := am (rb (xR HO478.out) hb); replace HO481 := am (rb (xR HO481.out) hb); have BK484 := am (hbox); have GW484 := am (xS hg HB.out); have GE484 := am (xS hg HB.out); replace HB := am (bs (xW HB.out) hb); have NB475_484 := am (xN hg BK475.out); have NB484_475 := am (xM hg BK475.out); replace BK475 := am (bb (xB BK475.out) hb); clear hb hbox hg; obtain ⟨Ao15, co15, eo15⟩ := Kd.R_slice HO478.out; subst eo15; have hnb16 := NB484_475.out; have hnc16 := NB475_484.out; obtain ⟨hcz17_0, hcz17_1, hcz17_2, hfz17_0, hfz17_1, hfz17_2⟩ := xT3 (W := w14) BK484.out; obtain ⟨Ao18, co18, eo18⟩ := Kd.R_slice HO481.out; subst eo18; obtain ⟨hcz19_0, hcz19_1, hcz19_2, hfz19_0, hfz19_1, hfz19_2⟩ := xT3 (W := w14) BK475.out) | ((with_reducible refine gate_callee (f := 37) rfl ?_); refine xG (some 39) 37 Try.func37 #[.agg #[.slice Ao10 t467.length co10, .slice Ao12 t470.length co12, .int .i64 t473], .string t474, .int .i64 77] (h := ?_); (with_reducible refine (spec_PutKey.calls k _ _ t467 _ _ t470 t473 t474 77 t485 t488 t491 t492 _ ?side1 ?side2 ?side3 ?side4 A6.out).mono ?_); (case side1 => exact xD HO469.out); (case side2 => exact (rr HO469.out).2.1); (case side3 => exact xD HO472.out); (case side4 => exact (rr HO472.out).2.1); rintro e w20 ⟨v486, v489, rfl, ho0, ho1, hb⟩; refine ⟨_, rfl, ?_⟩; have HO487 := am (Kd.R_lower (Kd.R_new' (Kd.R_new' (Kd.R_new' (Kd.R_new' ho0 (Kd.R_lt (xR HO469.out))) (Kd.R_lt (xR HO472.out))) (Kd.R_lt (xR HO478.out))) (Kd.R_lt (xR HO481.out))) (below_size (xW HB.out))); have HO490 := am (Kd.R_lower (Kd.R_new' (Kd.R_new' (Kd.R_new' (Kd.R_new' ho1 (Kd.R_lt (xR HO469.out))) (Kd.R_lt (xR HO472.out))) (Kd.R_lt (xR HO478.out))) (Kd.R_lt (xR HO481.out))) (below_size (xW HB.out))); replace HO469 := am (rm (ro (ro (rl (xR HO469.out) hb) (re ho0)) (re ho1)) (fun _ h_ => h_.1)); replace HO472 := am (rm (ro (ro (rl (xR HO472.out) hb) (re ho0)) (re ho1)) (fun _ h_ => h_.1)); replace HO478 := am (rm (ro (ro (rl (xR HO478.out) hb) (re ho0)) (re ho1)) (fun _ h_ => h_.1)); replace HO481 := am (rm (ro (ro (rl (xR HO481.out) hb) (re ho0)) (re ho1)) (fun _ h_ => h_.1)); replace BK475 := am (bb (xB BK475.out) hb); replace BK484 := am (bb (xP BK484.out) hb); replace HB := am (bs (xW HB.out) hb); (try clear hb); (try clear ho0); (try clear ho1)) | ((with_reducible refine gate_dst (N := 7) rfl ?_); refine xE (N := 7) (cs := #[.slice none 0 0, .slice none 0 0, .int .i64 0]) (t := 26) (h := ?_); intro gb493 hg w21 hbox hb; replace HO469 := am (rb (xR HO469.out) hb); replace HO472 := am (rb (xR HO472.out) hb); replace HO478 := am (rb (xR HO478.out) hb); replace HO481 := am (rb (xR HO481.out) hb); replace HO487 := am (rb (xR HO487.out) hb); replace HO490 := am (rb (xR HO490.out) hb); have BK493 := am (hbox); have GW493 := am (xS hg HB.out); have GE493 := am (xS hg HB.out); replace HB := am (bs (xW HB.out) hb); have NB475_493 := am (xN hg BK475.out); have NB493_475 := am (xM hg BK475.out); replace BK475 := am (bb (xB BK475.out) hb); have NB484_493 := am (xN hg BK484.out); have NB493_484 := am (xM hg BK484.out); replace BK484 := am (bb (xB BK484.out) hb); clear hb hbox hg; obtain ⟨Ao22, co22, eo22⟩ := Kd.R_slice HO487.out; subst eo22; have hnb23 := NB493_475.out; have hnc23 := NB475_493.out; have hnb24 := NB493_484.out; have hnc24 := NB484_493.out; obtain ⟨hcz25_0, hcz25_1, hcz25_2, hfz25_0, hfz25_1, hfz25_2⟩ := xT3 (W := w21) BK493.out; obtain ⟨Ao26, co26, eo26⟩ := Kd.R_slice HO490.out; subst eo26))
  (try simp only [Act.put, List.setIfInBounds_toArray, List.set_cons_zero, List.set_cons_succ])
  go_cut [49] (fun v49 wc => ∃ (kq : Nat) (x49_6 : Bool), v49 = .bool x49_6 ∧ Aside0 (laws_FnPuts.j0 kq t474 t483 x49_6 t467 t470 t473 t476 t479 t482 = some r) ∧ Aside0 (kq ≤ k) ∧ Aside0 (Kd.R k57 57 wc w.heap.size (fun k_ => some k_ ≠ ((.slice Ao12 t470.length co12) : Value).ownBlock ∧ some k_ ≠ ((.slice Ao15 t476.length co15) : Value).ownBlock ∧ some k_ ≠ ((.slice Ao18 t479.length co18) : Value).ownBlock ∧ some k_ ≠ ((.slice Ao22 t485.length co22) : Value).ownBlock ∧ some k_ ≠ ((.slice Ao26 t488.length co26) : Value).ownBlock) (.slice Ao10 t467.length co10) t467) ∧ Aside0 (Kd.R k57 57 wc w.heap.size (fun k_ => some k_ ≠ ((.slice Ao10 t467.length co10) : Value).ownBlock ∧ some k_ ≠ ((.slice Ao15 t476.length co15) : Value).ownBlock ∧ some k_ ≠ ((.slice Ao18 t479.length co18) : Value).ownBlock ∧ some k_ ≠ ((.slice Ao22 t485.length co22) : Value).ownBlock ∧ some k_ ≠ ((.slice Ao26 t488.length co26) : Value).ownBlock) (.slice Ao12 t470.length co12) t470) ∧ Aside0 (Kd.R k57 57 wc w.heap.size (fun k_ => some k_ ≠ ((.slice Ao10 t467.length co10) : Value).ownBlock ∧ some k_ ≠ ((.slice Ao12 t470.length co12) : Value).ownBlock ∧ some k_ ≠ ((.slice Ao18 t479.length co18) : Value).ownBlock ∧ some k_ ≠ ((.slice Ao22 t485.length co22) : Value).ownBlock ∧ some k_ ≠ ((.slice Ao26 t488.length co26) : Value).ownBlock) (.slice Ao15 t476.length co15) t476) ∧ Aside0 (Kd.R k57 57 wc w.heap.size (fun k_ => some k_ ≠ ((.slice Ao10 t467.length co10) : Value).ownBlock ∧ some k_ ≠ ((.slice Ao12 t470.length co12) : Value).ownBlock ∧ some k_ ≠ ((.slice Ao15 t476.length co15) : Value).ownBlock ∧ some k_ ≠ ((.slice Ao22 t485.length co22) : Value).ownBlock ∧ some k_ ≠ ((.slice Ao26 t488.length co26) : Value).ownBlock) (.slice Ao18 t479.length co18) t479) ∧ Aside0 (Kd.R k57 57 wc w.heap.size (fun k_ => some k_ ≠ ((.slice Ao10 t467.length co10) : Value).ownBlock ∧ some k_ ≠ ((.slice Ao12 t470.length co12) : Value).ownBlock ∧ some k_ ≠ ((.slice Ao15 t476.length co15) : Value).ownBlock ∧ some k_ ≠ ((.slice Ao18 t479.length co18) : Value).ownBlock ∧ some k_ ≠ ((.slice Ao26 t488.length co26) : Value).ownBlock) (.slice Ao22 t485.length co22) t485) ∧ Aside0 (Kd.R k57 57 wc w.heap.size (fun k_ => some k_ ≠ ((.slice Ao10 t467.length co10) : Value).ownBlock ∧ some k_ ≠ ((.slice Ao12 t470.length co12) : Value).ownBlock ∧ some k_ ≠ ((.slice Ao15 t476.length co15) : Value).ownBlock ∧ some k_ ≠ ((.slice Ao18 t479.length co18) : Value).ownBlock ∧ some k_ ≠ ((.slice Ao22 t485.length co22) : Value).ownBlock) (.slice Ao26 t488.length co26) t488) ∧ Aside0 (wc.heap[gb475]? = some (.cells #[(.slice Ao10 t467.length co10), (.slice Ao12 t470.length co12), .int .i64 t473] 26 (0, 0))) ∧ Aside0 (wc.heap[gb484]? = some (.cells #[(.slice Ao15 t476.length co15), (.slice Ao18 t479.length co18), .int .i64 t482] 26 (0, 0))) ∧ Aside0 (wc.heap[gb493]? = some (.cells #[(.slice Ao22 t485.length co22), (.slice Ao26 t488.length co26), .int .i64 t491] 26 (0, 0))) ∧ Aside0 (Below w.heap.size w wc))
  case first =>
   have H := HC7.out
   clear HC7
   by_cases c27 : (t483 != t492) = true
   ·rw [if_pos c27] at H
    have c27b0 : (t483 != t492) = true := c27
    (try (have c27b1 : decide (t483 = t492) = false := by simpa using c27))
    (try (have c27b2 : (t483 == t492) = false := by simpa using c27))
    (try (have c27b3 : ¬ (t483 = t492) := by simpa using c27))
    clear c27
    (first | rw [c27b0] | (simp only [i64_w, i32_w]; rw [c27b0]) | skip)
    have H' := am H
    clear H
    go_wp2
    go_meet
    case rel => exact ⟨_, (true), (xQ), H', ⟨by first | omega | exact Nat.le_refl _⟩, ⟨Kd.R_mono (xR HO469.out) xI⟩, ⟨Kd.R_mono (xR HO472.out) xI⟩, ⟨Kd.R_mono (xR HO478.out) xI⟩, ⟨Kd.R_mono (xR HO481.out) xI⟩, ⟨Kd.R_mono (xR HO487.out) xI⟩, ⟨Kd.R_mono (xR HO490.out) xI⟩, ⟨xB BK475.out⟩, ⟨xB BK484.out⟩, ⟨xP BK493.out⟩, ⟨xW HB.out⟩⟩
   ·rw [if_neg c27] at H
    have c27b0 : (t483 != t492) = false := by simpa using c27
    (try (have c27b1 : decide (t483 = t492) = true := by simpa using c27))
    (try (have c27b2 : (t483 == t492) = true := by simpa using c27))
    clear c27
    (first | rw [c27b0] | (simp only [i64_w, i32_w]; rw [c27b0]) | skip)
    replace H := Option.bind_eq_some_iff.mp H
    obtain ⟨t494, A280, H⟩ := H
    try dsimp only at H
    have A28 := am A280
    clear A280
    have H' := am H
    clear H
    have hnb29 := NB475_484.out
    have hnc29 := NB484_475.out
    have hnb30 := NB475_493.out
    have hnc30 := NB493_475.out
    obtain ⟨hcz31_0, hcz31_1, hcz31_2, hfz31_0, hfz31_1, hfz31_2⟩ := xT3 (W := w21) BK475.out
    go_wp2_with (first | (go_at_call 18; (with_reducible refine (impl_TableOk.calls k _ _ t467 _ _ t470 t473 t494 _ ?side1 ?side2 ?side3 ?side4 A28.out).mono ?_); (case side1 => exact xD HO469.out); (case side2 => exact (rr HO469.out).2.1); (case side3 => exact xD HO472.out); (case side4 => exact (rr HO472.out).2.1); rintro e w32 ⟨rfl, hb⟩; replace HO469 := am (rb (xR HO469.out) hb); replace HO472 := am (rb (xR HO472.out) hb); replace HO478 := am (rb (xR HO478.out) hb); replace HO481 := am (rb (xR HO481.out) hb); replace HO487 := am (rb (xR HO487.out) hb); replace HO490 := am (rb (xR HO490.out) hb); replace BK475 := am (bb (xB BK475.out) hb); replace BK484 := am (bb (xB BK484.out) hb); replace BK493 := am (bb (xP BK493.out) hb); replace HB := am (bs (xW HB.out) hb); (try clear hb); ))
    go_meet
    case rel => exact ⟨_, (!t494), (xQ), H', ⟨by first | omega | exact Nat.le_refl _⟩, ⟨Kd.R_mono (xR HO469.out) xI⟩, ⟨Kd.R_mono (xR HO472.out) xI⟩, ⟨Kd.R_mono (xR HO478.out) xI⟩, ⟨Kd.R_mono (xR HO481.out) xI⟩, ⟨Kd.R_mono (xR HO487.out) xI⟩, ⟨Kd.R_mono (xR HO490.out) xI⟩, ⟨xB BK475.out⟩, ⟨xB BK484.out⟩, ⟨xB BK493.out⟩, ⟨xW HB.out⟩⟩
  case rest =>
   clear HC7
   try clear c1
   try clear c2
   try clear p2
   try clear c3
   try clear c11
   try clear c14
   try clear c15
   try clear c16
   try clear c23
   try clear c24
   try clear c27
   try clear c27b0
   try clear c27b1
   try clear c27b2
   try clear c29
   try clear c30
   try clear hcz11_0
   try clear hcz11_1
   try clear hcz11_2
   try clear hcz17_0
   try clear hcz17_1
   try clear hcz17_2
   try clear hcz19_0
   try clear hcz19_1
   try clear hcz19_2
   try clear hcz25_0
   try clear hcz25_1
   try clear hcz25_2
   try clear hcz31_0
   try clear hcz31_1
   try clear hcz31_2
   try clear hfz11_0
   try clear hfz11_1
   try clear hfz11_2
   try clear hfz17_0
   try clear hfz17_1
   try clear hfz17_2
   try clear hfz19_0
   try clear hfz19_1
   try clear hfz19_2
   try clear hfz25_0
   try clear hfz25_1
   try clear hfz25_2
   try clear hfz31_0
   try clear hfz31_1
   try clear hfz31_2
   obtain ⟨kq, x49_6, rfl, HA, HJ6, HO_476000, HO_476001, HO_485000, HO_485001, HO_494000, HO_494001, BK475, BK484, BK493, HB⟩ := hcut
   cases kq with
   | zero => exact absurd HA.out (by simp [laws_FnPuts.j0])
   | succ kj6 =>
    have H := HA.out
    clear HA
    simp only [laws_FnPuts.j0] at H
    by_cases c33 : x49_6 = true
    ·subst c33
     have H1 : (some false) = some r := by rw [if_pos rfl] at H; exact H
     clear H
     have H := H1
     clear H1
     obtain rfl := Option.some.inj H
     go_wp2
     go_ret
     exact ⟨xV, xW HB.out⟩
    ·replace c33 := Bool.eq_false_iff.mpr c33
     subst c33
     have H1 : (if t483 = true then ((impl_SeekKey.f kj6 t476 t479 t482 t474).bind fun bt495 => ((impl_TakeKey.f kj6 t476 t479 t482 t474).bind fun bt497 => ((impl_SeekKey.f kj6 bt497.1 bt497.2.1 bt497.2.2.1 t474).bind fun bt506 => (if bt495.2 = true then (if bt495.1 = 77 then (if bt497.2.2.2 = true then (if bt506.2 = true then (laws_FnPuts.j1 kj6 t474 true t467 t470 t473 t476 t479 t482 bt497.1 bt497.2.1 bt497.2.2.1) else ((impl_TableOk.f kj6 t476 t479 t482).bind fun t508 => (if t508 = true then ((impl_TableOk.f kj6 bt497.1 bt497.2.1 bt497.2.2.1).bind fun t509 => (laws_FnPuts.j1 kj6 t474 (!t509) t467 t470 t473 t476 t479 t482 bt497.1 bt497.2.1 bt497.2.2.1)) else (laws_FnPuts.j1 kj6 t474 true t467 t470 t473 t476 t479 t482 bt497.1 bt497.2.1 bt497.2.2.1)))) else (laws_FnPuts.j1 kj6 t474 true t467 t470 t473 t476 t479 t482 bt497.1 bt497.2.1 bt497.2.2.1)) else (laws_FnPuts.j1 kj6 t474 true t467 t470 t473 t476 t479 t482 bt497.1 bt497.2.1 bt497.2.2.1)) else (laws_FnPuts.j1 kj6 t474 true t467 t470 t473 t476 t479 t482 bt497.1 bt497.2.1 bt497.2.2.1))))) else (some ((t476.length : Int) == 0))) = some r := by rw [if_neg (show ¬ (false = true) by decide)] at H; exact H
     clear H
     have H := H1
     clear H1
     by_cases c34 : t483 = true
     ·subst c34
      have H1 : ((impl_SeekKey.f kj6 t476 t479 t482 t474).bind fun bt495 => ((impl_TakeKey.f kj6 t476 t479 t482 t474).bind fun bt497 => ((impl_SeekKey.f kj6 bt497.1 bt497.2.1 bt497.2.2.1 t474).bind fun bt506 => (if bt495.2 = true then (if bt495.1 = 77 then (if bt497.2.2.2 = true then (if bt506.2 = true then (laws_FnPuts.j1 kj6 t474 true t467 t470 t473 t476 t479 t482 bt497.1 bt497.2.1 bt497.2.2.1) else ((impl_TableOk.f kj6 t476 t479 t482).bind fun t508 => (if t508 = true then ((impl_TableOk.f kj6 bt497.1 bt497.2.1 bt497.2.2.1).bind fun t509 => (laws_FnPuts.j1 kj6 t474 (!t509) t467 t470 t473 t476 t479 t482 bt497.1 bt497.2.1 bt497.2.2.1)) else (laws_FnPuts.j1 kj6 t474 true t467 t470 t473 t476 t479 t482 bt497.1 bt497.2.1 bt497.2.2.1)))) else (laws_FnPuts.j1 kj6 t474 true t467 t470 t473 t476 t479 t482 bt497.1 bt497.2.1 bt497.2.2.1)) else (laws_FnPuts.j1 kj6 t474 true t467 t470 t473 t476 t479 t482 bt497.1 bt497.2.1 bt497.2.2.1)) else (laws_FnPuts.j1 kj6 t474 true t467 t470 t473 t476 t479 t482 bt497.1 bt497.2.1 bt497.2.2.1))))) = some r := by rw [if_pos rfl] at H; exact H
      clear H
      have H := H1
      clear H1
      replace H := Option.bind_eq_some_iff.mp H
      obtain ⟨⟨t495, t496⟩, A350, H⟩ := H
      try dsimp only at H
      have A35 := am A350
      clear A350
      replace H := Option.bind_eq_some_iff.mp H
      obtain ⟨⟨t497, t500, t503, t504⟩, A360, H⟩ := H
      try dsimp only at H
      have A36 := am A360
      clear A360
      replace H := Option.bind_eq_some_iff.mp H
      obtain ⟨⟨t506, t507⟩, A370, H⟩ := H
      try dsimp only at H
      have A37 := am A370
      clear A370
      have HC38 := am H
      clear H
      have hnb39 := NB484_475.out
      have hnc39 := NB475_484.out
      have hnb40 := NB484_493.out
      have hnc40 := NB493_484.out
      obtain ⟨hcz41_0, hcz41_1, hcz41_2, hfz41_0, hfz41_1, hfz41_2⟩ := xT3 (W := wc) BK484.out
      go_upto_region 13 with (first | ((with_reducible refine gate_callee (f := 23) rfl ?_); refine xG (some 59) 23 Try.func23 #[.agg #[.slice Ao15 t476.length co15, .slice Ao18 t479.length co18, .int .i64 t482], .string t474] (h := ?_); (with_reducible refine (impl_SeekKey.calls kj6 _ _ t476 _ _ t479 t482 t474 t495 t496 _ ?side1 ?side2 ?side3 ?side4 A35.out).mono ?_); (case side1 => exact xC ((rr HO_485000.out).2.2)); (case side2 => exact (rr HO_485000.out).2.1); (case side3 => exact xC ((rr HO_485001.out).2.2)); (case side4 => exact (rr HO_485001.out).2.1); rintro e w42 ⟨rfl, hb⟩; refine ⟨_, rfl, ?_⟩; replace HO_476000 := am (rb (xR HO_476000.out) hb); replace HO_476001 := am (rb (xR HO_476001.out) hb); replace HO_485000 := am (rb (xR HO_485000.out) hb); replace HO_485001 := am (rb (xR HO_485001.out) hb); replace HO_494000 := am (rb (xR HO_494000.out) hb); replace HO_494001 := am (rb (xR HO_494001.out) hb); replace BK475 := am (bb (xB BK475.out) hb); replace BK484 := am (bb (xB BK484.out) hb); replace BK493 := am (bb (xB BK493.out) hb); replace HB := am (bs (xW HB.out) hb); (try clear hb); obtain ⟨hcz43_0, hcz43_1, hcz43_2, hfz43_0, hfz43_1, hfz43_2⟩ := xT3 (W := w42) BK484.out) | ((with_reducible refine gate_callee (f := 34) rfl ?_); refine xG (some 65) 34 Try.func34 #[.agg #[.slice Ao15 t476.length co15, .slice Ao18 t479.length co18, .int .i64 t482], .string t474] (h := ?_); (with_reducible refine (impl_TakeKey.calls kj6 _ _ t476 _ _ t479 t482 t474 t497 t500 t503 t504 _ ?side1 ?side2 ?side3 ?side4 A36.out).mono ?_); (case side1 => exact xC ((rr HO_485000.out).2.2)); (case side2 => exact (rr HO_485000.out).2.1); (case side3 => exact xC ((rr HO_485001.out).2.2)); (case side4 => exact (rr HO_485001.out).2.1); rintro e w44 ⟨v498, v501, rfl, ho0, ho1, hb⟩; refine ⟨_, rfl, ?_⟩; have HO499 := am (Kd.R_lower (Kd.R_new' (Kd.R_new' (Kd.R_new' (Kd.R_new' (Kd.R_new' (Kd.R_new' ho0 (Kd.R_lt (xR HO_476000.out))) (Kd.R_lt (xR HO_476001.out))) (Kd.R_lt (xR HO_485000.out))) (Kd.R_lt (xR HO_485001.out))) (Kd.R_lt (xR HO_494000.out))) (Kd.R_lt (xR HO_494001.out))) (below_size (xW HB.out))); have HO502 := am (Kd.R_lower (Kd.R_new' (Kd.R_new' (Kd.R_new' (Kd.R_new' (Kd.R_new' (Kd.R_new' ho1 (Kd.R_lt (xR HO_476000.out))) (Kd.R_lt (xR HO_476001.out))) (Kd.R_lt (xR HO_485000.out))) (Kd.R_lt (xR HO_485001.out))) (Kd.R_lt (xR HO_494000.out))) (Kd.R_lt (xR HO_494001.out))) (below_size (xW HB.out))); replace HO_476000 := am (rm (ro (ro (rl (xR HO_476000.out) hb) (re ho0)) (re ho1)) (fun _ h_ => h_.1)); replace HO_476001 := am (rm (ro (ro (rl (xR HO_476001.out) hb) (re ho0)) (re ho1)) (fun _ h_ => h_.1)); replace HO_485000 := am (rm (ro (ro (rl (xR HO_485000.out) hb) (re ho0)) (re ho1)) (fun _ h_ => h_.1)); replace HO_485001 := am (rm (ro (ro (rl (xR HO_485001.out) hb) (re ho0)) (re ho1)) (fun _ h_ => h_.1)); replace HO_494000 := am (rm (ro (ro (rl (xR HO_494000.out) hb) (re ho0)) (re ho1)) (fun _ h_ => h_.1)); replace HO_494001 := am (rm (ro (ro (rl (xR HO_494001.out) hb) (re ho0)) (re ho1)) (fun _ h_ => h_.1)); replace BK475 := am (bb (xB BK475.out) hb); replace BK484 := am (bb (xB BK484.out) hb); replace BK493 := am (bb (xB BK493.out) hb); replace HB := am (bs (xW HB.out) hb); (try clear hb); (try clear ho0); (try clear ho1)) | ((with_reducible refine gate_dst (N := 11) rfl ?_); refine xE (N := 11) (cs := #[.slice none 0 0, .slice none 0 0, .int .i64 0]) (t := 26) (h := ?_); intro gb505 hg w45 hbox hb; replace HO_476000 := am (rb (xR HO_476000.out) hb); replace HO_476001 := am (rb (xR HO_476001.out) hb); replace HO_485000 := am (rb (xR HO_485000.out) hb); replace HO_485001 := am (rb (xR HO_485001.out) hb); replace HO_494000 := am (rb (xR HO_494000.out) hb); replace HO_494001 := am (rb (xR HO_494001.out) hb); replace HO499 := am (rb (xR HO499.out) hb); replace HO502 := am (rb (xR HO502.out) hb); have BK505 := am (hbox); have GW505 := am (xS hg HB.out); have GE505 := am (xS hg HB.out); replace HB := am (bs (xW HB.out) hb); have NB475_505 := am (xN hg BK475.out); have NB505_475 := am (xM hg BK475.out); replace BK475 := am (bb (xB BK475.out) hb); have NB484_505 := am (xN hg BK484.out); have NB505_484 := am (xM hg BK484.out); replace BK484 := am (bb (xB BK484.out) hb); have NB493_505 := am (xN hg BK493.out); have NB505_493 := am (xM hg BK493.out); replace BK493 := am (bb (xB BK493.out) hb); clear hb hbox hg; obtain ⟨Ao46, co46, eo46⟩ := Kd.R_slice HO499.out; subst eo46; have hnb47 := NB505_475.out; have hnc47 := NB475_505.out; have hnb48 := NB505_484.out; have hnc48 := NB484_505.out; have hnb49 := NB505_493.out; have hnc49 := NB493_505.out; obtain ⟨hcz50_0, hcz50_1, hcz50_2, hfz50_0, hfz50_1, hfz50_2⟩ := xT3 (W := w45) BK505.out; obtain ⟨Ao51, co51, eo51⟩ := Kd.R_slice HO502.out; subst eo51) | ((with_reducible refine gate_callee (f := 23) rfl ?_); refine xG (some 71) 23 Try.func23 #[.agg #[.slice Ao46 t497.length co46, .slice Ao51 t500.length co51, .int .i64 t503], .string t474] (h := ?_); (with_reducible refine (impl_SeekKey.calls kj6 _ _ t497 _ _ t500 t503 t474 t506 t507 _ ?side1 ?side2 ?side3 ?side4 A37.out).mono ?_); (case side1 => exact xD HO499.out); (case side2 => exact (rr HO499.out).2.1); (case side3 => exact xD HO502.out); (case side4 => exact (rr HO502.out).2.1); rintro e w52 ⟨rfl, hb⟩; refine ⟨_, rfl, ?_⟩; replace HO_476000 := am (rb (xR HO_476000.out) hb); replace HO_476001 := am (rb (xR HO_476001.out) hb); replace HO_485000 := am (rb (xR HO_485000.out) hb); replace HO_485001 := am (rb (xR HO_485001.out) hb); replace HO_494000 := am (rb (xR HO_494000.out) hb); replace HO_494001 := am (rb (xR HO_494001.out) hb); replace HO499 := am (rb (xR HO499.out) hb); replace HO502 := am (rb (xR HO502.out) hb); replace BK475 := am (bb (xB BK475.out) hb); replace BK484 := am (bb (xB BK484.out) hb); replace BK493 := am (bb (xB BK493.out) hb); replace BK505 := am (bb (xP BK505.out) hb); replace HB := am (bs (xW HB.out) hb); (try clear hb); ))
      (try simp only [Act.put, List.setIfInBounds_toArray, List.set_cons_zero, List.set_cons_succ])
      go_cut [96] (fun v96 wc => ∃ (kq : Nat) (x96_37 : Bool), v96 = .bool x96_37 ∧ Aside0 (laws_FnPuts.j1 kq t474 x96_37 t467 t470 t473 t476 t479 t482 t497 t500 t503 = some r) ∧ Aside0 (kq ≤ kj6) ∧ Aside0 (Kd.R k57 57 wc w.heap.size (fun k_ => some k_ ≠ ((.slice Ao12 t470.length co12) : Value).ownBlock ∧ some k_ ≠ ((.slice Ao15 t476.length co15) : Value).ownBlock ∧ some k_ ≠ ((.slice Ao18 t479.length co18) : Value).ownBlock ∧ some k_ ≠ ((.slice Ao22 t485.length co22) : Value).ownBlock ∧ some k_ ≠ ((.slice Ao26 t488.length co26) : Value).ownBlock ∧ some k_ ≠ ((.slice Ao46 t497.length co46) : Value).ownBlock ∧ some k_ ≠ ((.slice Ao51 t500.length co51) : Value).ownBlock) (.slice Ao10 t467.length co10) t467) ∧ Aside0 (Kd.R k57 57 wc w.heap.size (fun k_ => some k_ ≠ ((.slice Ao10 t467.length co10) : Value).ownBlock ∧ some k_ ≠ ((.slice Ao15 t476.length co15) : Value).ownBlock ∧ some k_ ≠ ((.slice Ao18 t479.length co18) : Value).ownBlock ∧ some k_ ≠ ((.slice Ao22 t485.length co22) : Value).ownBlock ∧ some k_ ≠ ((.slice Ao26 t488.length co26) : Value).ownBlock ∧ some k_ ≠ ((.slice Ao46 t497.length co46) : Value).ownBlock ∧ some k_ ≠ ((.slice Ao51 t500.length co51) : Value).ownBlock) (.slice Ao12 t470.length co12) t470) ∧ Aside0 (Kd.R k57 57 wc w.heap.size (fun k_ => some k_ ≠ ((.slice Ao10 t467.length co10) : Value).ownBlock ∧ some k_ ≠ ((.slice Ao12 t470.length co12) : Value).ownBlock ∧ some k_ ≠ ((.slice Ao18 t479.length co18) : Value).ownBlock ∧ some k_ ≠ ((.slice Ao22 t485.length co22) : Value).ownBlock ∧ some k_ ≠ ((.slice Ao26 t488.length co26) : Value).ownBlock ∧ some k_ ≠ ((.slice Ao46 t497.length co46) : Value).ownBlock ∧ some k_ ≠ ((.slice Ao51 t500.length co51) : Value).ownBlock) (.slice Ao15 t476.length co15) t476) ∧ Aside0 (Kd.R k57 57 wc w.heap.size (fun k_ => some k_ ≠ ((.slice Ao10 t467.length co10) : Value).ownBlock ∧ some k_ ≠ ((.slice Ao12 t470.length co12) : Value).ownBlock ∧ some k_ ≠ ((.slice Ao15 t476.length co15) : Value).ownBlock ∧ some k_ ≠ ((.slice Ao22 t485.length co22) : Value).ownBlock ∧ some k_ ≠ ((.slice Ao26 t488.length co26) : Value).ownBlock ∧ some k_ ≠ ((.slice Ao46 t497.length co46) : Value).ownBlock ∧ some k_ ≠ ((.slice Ao51 t500.length co51) : Value).ownBlock) (.slice Ao18 t479.length co18) t479) ∧ Aside0 (Kd.R k57 57 wc w.heap.size (fun k_ => some k_ ≠ ((.slice Ao10 t467.length co10) : Value).ownBlock ∧ some k_ ≠ ((.slice Ao12 t470.length co12) : Value).ownBlock ∧ some k_ ≠ ((.slice Ao15 t476.length co15) : Value).ownBlock ∧ some k_ ≠ ((.slice Ao18 t479.length co18) : Value).ownBlock ∧ some k_ ≠ ((.slice Ao26 t488.length co26) : Value).ownBlock ∧ some k_ ≠ ((.slice Ao46 t497.length co46) : Value).ownBlock ∧ some k_ ≠ ((.slice Ao51 t500.length co51) : Value).ownBlock) (.slice Ao22 t485.length co22) t485) ∧ Aside0 (Kd.R k57 57 wc w.heap.size (fun k_ => some k_ ≠ ((.slice Ao10 t467.length co10) : Value).ownBlock ∧ some k_ ≠ ((.slice Ao12 t470.length co12) : Value).ownBlock ∧ some k_ ≠ ((.slice Ao15 t476.length co15) : Value).ownBlock ∧ some k_ ≠ ((.slice Ao18 t479.length co18) : Value).ownBlock ∧ some k_ ≠ ((.slice Ao22 t485.length co22) : Value).ownBlock ∧ some k_ ≠ ((.slice Ao46 t497.length co46) : Value).ownBlock ∧ some k_ ≠ ((.slice Ao51 t500.length co51) : Value).ownBlock) (.slice Ao26 t488.length co26) t488) ∧ Aside0 (Kd.R k57 57 wc w.heap.size (fun k_ => some k_ ≠ ((.slice Ao10 t467.length co10) : Value).ownBlock ∧ some k_ ≠ ((.slice Ao12 t470.length co12) : Value).ownBlock ∧ some k_ ≠ ((.slice Ao15 t476.length co15) : Value).ownBlock ∧ some k_ ≠ ((.slice Ao18 t479.length co18) : Value).ownBlock ∧ some k_ ≠ ((.slice Ao22 t485.length co22) : Value).ownBlock ∧ some k_ ≠ ((.slice Ao26 t488.length co26) : Value).ownBlock ∧ some k_ ≠ ((.slice Ao51 t500.length co51) : Value).ownBlock) (.slice Ao46 t497.length co46) t497) ∧ Aside0 (Kd.R k57 57 wc w.heap.size (fun k_ => some k_ ≠ ((.slice Ao10 t467.length co10) : Value).ownBlock ∧ some k_ ≠ ((.slice Ao12 t470.length co12) : Value).ownBlock ∧ some k_ ≠ ((.slice Ao15 t476.length co15) : Value).ownBlock ∧ some k_ ≠ ((.slice Ao18 t479.length co18) : Value).ownBlock ∧ some k_ ≠ ((.slice Ao22 t485.length co22) : Value).ownBlock ∧ some k_ ≠ ((.slice Ao26 t488.length co26) : Value).ownBlock ∧ some k_ ≠ ((.slice Ao46 t497.length co46) : Value).ownBlock) (.slice Ao51 t500.length co51) t500) ∧ Aside0 (wc.heap[gb475]? = some (.cells #[(.slice Ao10 t467.length co10), (.slice Ao12 t470.length co12), .int .i64 t473] 26 (0, 0))) ∧ Aside0 (wc.heap[gb484]? = some (.cells #[(.slice Ao15 t476.length co15), (.slice Ao18 t479.length co18), .int .i64 t482] 26 (0, 0))) ∧ Aside0 (wc.heap[gb493]? = some (.cells #[(.slice Ao22 t485.length co22), (.slice Ao26 t488.length co26), .int .i64 t491] 26 (0, 0))) ∧ Aside0 (wc.heap[gb505]? = some (.cells #[(.slice Ao46 t497.length co46), (.slice Ao51 t500.length co51), .int .i64 t503] 26 (0, 0))) ∧ Aside0 (Below w.heap.size w wc))
      case first =>
       have H := HC38.out
       clear HC38
       by_cases c53 : t496 = true
       ·subst c53
        have H1 : (if t495 = 77 then (if t504 = true then (if t507 = true then (laws_FnPuts.j1 kj6 t474 true t467 t470 t473 t476 t479 t482 t497 t500 t503) else ((impl_TableOk.f kj6 t476 t479 t482).bind fun t508 => (if t508 = true then ((impl_TableOk.f kj6 t497 t500 t503).bind fun t509 => (laws_FnPuts.j1 kj6 t474 (!t509) t467 t470 t473 t476 t479 t482 t497 t500 t503)) else (laws_FnPuts.j1 kj6 t474 true t467 t470 t473 t476 t479 t482 t497 t500 t503)))) else (laws_FnPuts.j1 kj6 t474 true t467 t470 t473 t476 t479 t482 t497 t500 t503)) else (laws_FnPuts.j1 kj6 t474 true t467 t470 t473 t476 t479 t482 t497 t500 t503)) = some r := by rw [if_pos rfl] at H; exact H
        clear H
        have H := H1
        clear H1
        by_cases c54 : t495 = 77
        ·rw [if_pos c54] at H
         have c54b0 : (t495 == 77) = true := beq_iff_eq.mpr c54
         have c54b1 : (t495 != 77) = false := bne_eq_false_iff_eq.mpr c54
         clear c54
         (first | rw [c54b0] | (simp only [i64_w, i32_w]; rw [c54b0]) | skip)
         by_cases c55 : t504 = true
         ·subst c55
          have H1 : (if t507 = true then (laws_FnPuts.j1 kj6 t474 true t467 t470 t473 t476 t479 t482 t497 t500 t503) else ((impl_TableOk.f kj6 t476 t479 t482).bind fun t508 => (if t508 = true then ((impl_TableOk.f kj6 t497 t500 t503).bind fun t509 => (laws_FnPuts.j1 kj6 t474 (!t509) t467 t470 t473 t476 t479 t482 t497 t500 t503)) else (laws_FnPuts.j1 kj6 t474 true t467 t470 t473 t476 t479 t482 t497 t500 t503)))) = some r := by rw [if_pos rfl] at H; exact H
          clear H
          have H := H1
          clear H1
          by_cases c56 : t507 = true
          ·subst c56
           have H1 : (laws_FnPuts.j1 kj6 t474 true t467 t470 t473 t476 t479 t482 t497 t500 t503) = some r := by rw [if_pos rfl] at H; exact H
           clear H
           have H := H1
           clear H1
           have H' := am H
           clear H
           go_wp2
           go_meet
           case rel => exact ⟨_, (true), (xQ), H', ⟨by have := HJ6.out; first | omega | exact Nat.le_refl _⟩, ⟨Kd.R_mono (xR HO_476000.out) xI⟩, ⟨Kd.R_mono (xR HO_476001.out) xI⟩, ⟨Kd.R_mono (xR HO_485000.out) xI⟩, ⟨Kd.R_mono (xR HO_485001.out) xI⟩, ⟨Kd.R_mono (xR HO_494000.out) xI⟩, ⟨Kd.R_mono (xR HO_494001.out) xI⟩, ⟨Kd.R_mono (xR HO499.out) xI⟩, ⟨Kd.R_mono (xR HO502.out) xI⟩, ⟨xB BK475.out⟩, ⟨xB BK484.out⟩, ⟨xB BK493.out⟩, ⟨xB BK505.out⟩, ⟨xW HB.out⟩⟩
          ·replace c56 := Bool.eq_false_iff.mpr c56
           subst c56
           have H1 : ((impl_TableOk.f kj6 t476 t479 t482).bind fun t508 => (if t508 = true then ((impl_TableOk.f kj6 t497 t500 t503).bind fun t509 => (laws_FnPuts.j1 kj6 t474 (!t509) t467 t470 t473 t476 t479 t482 t497 t500 t503)) else (laws_FnPuts.j1 kj6 t474 true t467 t470 t473 t476 t479 t482 t497 t500 t503))) = some r := by rw [if_neg (show ¬ (false = true) by decide)] at H; exact H
           clear H
           have H := H1
           clear H1
           replace H := Option.bind_eq_some_iff.mp H
           obtain ⟨t508, A570, H⟩ := H
           try dsimp only at H
           have A57 := am A570
           clear A570
           by_cases c58 : t508 = true
           ·subst c58
            have H1 : ((impl_TableOk.f kj6 t497 t500 t503).bind fun t509 => (laws_FnPuts.j1 kj6 t474 (!t509) t467 t470 t473 t476 t479 t482 t497 t500 t503)) = some r := by rw [if_pos rfl] at H; exact H
            clear H
            have H := H1
            clear H1
            replace H := Option.bind_eq_some_iff.mp H
            obtain ⟨t509, A590, H⟩ := H
            try dsimp only at H
            have A59 := am A590
            clear A590
            have H' := am H
            clear H
            have hnb60 := NB484_475.out
            have hnc60 := NB475_484.out
            have hnb61 := NB484_493.out
            have hnc61 := NB493_484.out
            have hnb62 := NB484_505.out
            have hnc62 := NB505_484.out
            obtain ⟨hcz63_0, hcz63_1, hcz63_2, hfz63_0, hfz63_1, hfz63_2⟩ := xT3 (W := w52) BK484.out
            go_wp2_with (first | (go_at_call 18; (with_reducible refine (impl_TableOk.calls kj6 _ _ t476 _ _ t479 t482 true _ ?side1 ?side2 ?side3 ?side4 A57.out).mono ?_); (case side1 => exact xC ((rr HO_485000.out).2.2)); (case side2 => exact (rr HO_485000.out).2.1); (case side3 => exact xC ((rr HO_485001.out).2.2)); (case side4 => exact (rr HO_485001.out).2.1); rintro e w64 ⟨rfl, hb⟩; replace HO_476000 := am (rb (xR HO_476000.out) hb); replace HO_476001 := am (rb (xR HO_476001.out) hb); replace HO_485000 := am (rb (xR HO_485000.out) hb); replace HO_485001 := am (rb (xR HO_485001.out) hb); replace HO_494000 := am (rb (xR HO_494000.out) hb); replace HO_494001 := am (rb (xR HO_494001.out) hb); replace HO499 := am (rb (xR HO499.out) hb); replace HO502 := am (rb (xR HO502.out) hb); replace BK475 := am (bb (xB BK475.out) hb); replace BK484 := am (bb (xB BK484.out) hb); replace BK493 := am (bb (xB BK493.out) hb); replace BK505 := am (bb (xB BK505.out) hb); replace HB := am (bs (xW HB.out) hb); (try clear hb); have hnb65 := NB505_475.out; have hnc65 := NB475_505.out; have hnb66 := NB505_493.out; have hnc66 := NB493_505.out; obtain ⟨hcz67_0, hcz67_1, hcz67_2, hfz67_0, hfz67_1, hfz67_2⟩ := xT3 (W := w64) BK505.out) | (go_at_call 18; (with_reducible refine (impl_TableOk.calls kj6 _ _ t497 _ _ t500 t503 t509 _ ?side1 ?side2 ?side3 ?side4 A59.out).mono ?_); (case side1 => exact xC ((rr HO499.out).2.2)); (case side2 => exact (rr HO499.out).2.1); (case side3 => exact xC ((rr HO502.out).2.2)); (case side4 => exact (rr HO502.out).2.1); rintro e w68 ⟨rfl, hb⟩; replace HO_476000 := am (rb (xR HO_476000.out) hb); replace HO_476001 := am (rb (xR HO_476001.out) hb); replace HO_485000 := am (rb (xR HO_485000.out) hb); replace HO_485001 := am (rb (xR HO_485001.out) hb); replace HO_494000 := am (rb (xR HO_494000.out) hb); replace HO_494001 := am (rb (xR HO_494001.out) hb); replace HO499 := am (rb (xR HO499.out) hb); replace HO502 := am (rb (xR HO502.out) hb); replace BK475 := am (bb (xB BK475.out) hb); replace BK484 := am (bb (xB BK484.out) hb); replace BK493 := am (bb (xB BK493.out) hb); replace BK505 := am (bb (xB BK505.out) hb); replace HB := am (bs (xW HB.out) hb); (try clear hb); ))
            go_meet
            case rel => exact ⟨_, (!t509), (xQ), H', ⟨by have := HJ6.out; first | omega | exact Nat.le_refl _⟩, ⟨Kd.R_mono (xR HO_476000.out) xI⟩, ⟨Kd.R_mono (xR HO_476001.out) xI⟩, ⟨Kd.R_mono (xR HO_485000.out) xI⟩, ⟨Kd.R_mono (xR HO_485001.out) xI⟩, ⟨Kd.R_mono (xR HO_494000.out) xI⟩, ⟨Kd.R_mono (xR HO_494001.out) xI⟩, ⟨Kd.R_mono (xR HO499.out) xI⟩, ⟨Kd.R_mono (xR HO502.out) xI⟩, ⟨xB BK475.out⟩, ⟨xB BK484.out⟩, ⟨xB BK493.out⟩, ⟨xB BK505.out⟩, ⟨xW HB.out⟩⟩
           ·replace c58 := Bool.eq_false_iff.mpr c58
            subst c58
            have H1 : (laws_FnPuts.j1 kj6 t474 true t467 t470 t473 t476 t479 t482 t497 t500 t503) = some r := by rw [if_neg (show ¬ (false = true) by decide)] at H; exact H
            clear H
            have H := H1
            clear H1
            have H' := am H
            clear H
            have hnb69 := NB484_475.out
            have hnc69 := NB475_484.out
            have hnb70 := NB484_493.out
            have hnc70 := NB493_484.out
            have hnb71 := NB484_505.out
            have hnc71 := NB505_484.out
            obtain ⟨hcz72_0, hcz72_1, hcz72_2, hfz72_0, hfz72_1, hfz72_2⟩ := xT3 (W := w52) BK484.out
            go_wp2_with (first | (go_at_call 18; (with_reducible refine (impl_TableOk.calls kj6 _ _ t476 _ _ t479 t482 false _ ?side1 ?side2 ?side3 ?side4 A57.out).mono ?_); (case side1 => exact xC ((rr HO_485000.out).2.2)); (case side2 => exact (rr HO_485000.out).2.1); (case side3 => exact xC ((rr HO_485001.out).2.2)); (case side4 => exact (rr HO_485001.out).2.1); rintro e w73 ⟨rfl, hb⟩; replace HO_476000 := am (rb (xR HO_476000.out) hb); replace HO_476001 := am (rb (xR HO_476001.out) hb); replace HO_485000 := am (rb (xR HO_485000.out) hb); replace HO_485001 := am (rb (xR HO_485001.out) hb); replace HO_494000 := am (rb (xR HO_494000.out) hb); replace HO_494001 := am (rb (xR HO_494001.out) hb); replace HO499 := am (rb (xR HO499.out) hb); replace HO502 := am (rb (xR HO502.out) hb); replace BK475 := am (bb (xB BK475.out) hb); replace BK484 := am (bb (xB BK484.out) hb); replace BK493 := am (bb (xB BK493.out) hb); replace BK505 := am (bb (xB BK505.out) hb); replace HB := am (bs (xW HB.out) hb); (try clear hb); ))
            go_meet
            case rel => exact ⟨_, (true), (xQ), H', ⟨by have := HJ6.out; first | omega | exact Nat.le_refl _⟩, ⟨Kd.R_mono (xR HO_476000.out) xI⟩, ⟨Kd.R_mono (xR HO_476001.out) xI⟩, ⟨Kd.R_mono (xR HO_485000.out) xI⟩, ⟨Kd.R_mono (xR HO_485001.out) xI⟩, ⟨Kd.R_mono (xR HO_494000.out) xI⟩, ⟨Kd.R_mono (xR HO_494001.out) xI⟩, ⟨Kd.R_mono (xR HO499.out) xI⟩, ⟨Kd.R_mono (xR HO502.out) xI⟩, ⟨xB BK475.out⟩, ⟨xB BK484.out⟩, ⟨xB BK493.out⟩, ⟨xB BK505.out⟩, ⟨xW HB.out⟩⟩
         ·replace c55 := Bool.eq_false_iff.mpr c55
          subst c55
          have H1 : (laws_FnPuts.j1 kj6 t474 true t467 t470 t473 t476 t479 t482 t497 t500 t503) = some r := by rw [if_neg (show ¬ (false = true) by decide)] at H; exact H
          clear H
          have H := H1
          clear H1
          have H' := am H
          clear H
          go_wp2
          go_meet
          case rel => exact ⟨_, (true), (xQ), H', ⟨by have := HJ6.out; first | omega | exact Nat.le_refl _⟩, ⟨Kd.R_mono (xR HO_476000.out) xI⟩, ⟨Kd.R_mono (xR HO_476001.out) xI⟩, ⟨Kd.R_mono (xR HO_485000.out) xI⟩, ⟨Kd.R_mono (xR HO_485001.out) xI⟩, ⟨Kd.R_mono (xR HO_494000.out) xI⟩, ⟨Kd.R_mono (xR HO_494001.out) xI⟩, ⟨Kd.R_mono (xR HO499.out) xI⟩, ⟨Kd.R_mono (xR HO502.out) xI⟩, ⟨xB BK475.out⟩, ⟨xB BK484.out⟩, ⟨xB BK493.out⟩, ⟨xB BK505.out⟩, ⟨xW HB.out⟩⟩
        ·rw [if_neg c54] at H
         have c54b0 : (t495 == 77) = false := beq_eq_false_iff_ne.mpr c54
         have c54b1 : (t495 != 77) = true := bne_iff_ne.mpr c54
         (first | rw [c54b0] | (simp only [i64_w, i32_w]; rw [c54b0]) | skip)
         have H' := am H
         clear H
         go_wp2
         go_meet
         case rel => exact ⟨_, (true), (xQ), H', ⟨by have := HJ6.out; first | omega | exact Nat.le_refl _⟩, ⟨Kd.R_mono (xR HO_476000.out) xI⟩, ⟨Kd.R_mono (xR HO_476001.out) xI⟩, ⟨Kd.R_mono (xR HO_485000.out) xI⟩, ⟨Kd.R_mono (xR HO_485001.out) xI⟩, ⟨Kd.R_mono (xR HO_494000.out) xI⟩, ⟨Kd.R_mono (xR HO_494001.out) xI⟩, ⟨Kd.R_mono (xR HO499.out) xI⟩, ⟨Kd.R_mono (xR HO502.out) xI⟩, ⟨xB BK475.out⟩, ⟨xB BK484.out⟩, ⟨xB BK493.out⟩, ⟨xB BK505.out⟩, ⟨xW HB.out⟩⟩
       ·replace c53 := Bool.eq_false_iff.mpr c53
        subst c53
        have H1 : (laws_FnPuts.j1 kj6 t474 true t467 t470 t473 t476 t479 t482 t497 t500 t503) = some r := by rw [if_neg (show ¬ (false = true) by decide)] at H; exact H
        clear H
        have H := H1
        clear H1
        have H' := am H
        clear H
        go_wp2
        go_meet
        case rel => exact ⟨_, (true), (xQ), H', ⟨by have := HJ6.out; first | omega | exact Nat.le_refl _⟩, ⟨Kd.R_mono (xR HO_476000.out) xI⟩, ⟨Kd.R_mono (xR HO_476001.out) xI⟩, ⟨Kd.R_mono (xR HO_485000.out) xI⟩, ⟨Kd.R_mono (xR HO_485001.out) xI⟩, ⟨Kd.R_mono (xR HO_494000.out) xI⟩, ⟨Kd.R_mono (xR HO_494001.out) xI⟩, ⟨Kd.R_mono (xR HO499.out) xI⟩, ⟨Kd.R_mono (xR HO502.out) xI⟩, ⟨xB BK475.out⟩, ⟨xB BK484.out⟩, ⟨xB BK493.out⟩, ⟨xB BK505.out⟩, ⟨xW HB.out⟩⟩
      case rest =>
       clear HC38
       try clear c1
       try clear c2
       try clear p2
       try clear c3
       try clear c4
       try clear c5
       try clear c6
       try clear c7
       try clear c11
       try clear c14
       try clear c15
       try clear c16
       try clear c23
       try clear c24
       try clear c27
       try clear c27b0
       try clear c27b1
       try clear c27b2
       try clear c29
       try clear c30
       try clear c33
       try clear c34
       try clear c37
       try clear c38
       try clear c39
       try clear c40
       try clear c47
       try clear c48
       try clear c49
       try clear c53
       try clear c54
       try clear c54b0
       try clear c54b1
       try clear c55
       try clear c56
       try clear c58
       try clear c60
       try clear c61
       try clear c62
       try clear c65
       try clear c66
       try clear c69
       try clear c70
       try clear c71
       try clear hcz11_0
       try clear hcz11_1
       try clear hcz11_2
       try clear hcz17_0
       try clear hcz17_1
       try clear hcz17_2
       try clear hcz19_0
       try clear hcz19_1
       try clear hcz19_2
       try clear hcz25_0
       try clear hcz25_1
       try clear hcz25_2
       try clear hcz31_0
       try clear hcz31_1
       try clear hcz31_2
       try clear hcz41_0
       try clear hcz41_1
       try clear hcz41_2
       try clear hcz43_0
       try clear hcz43_1
       try clear hcz43_2
       try clear hcz50_0
       try clear hcz50_1
       try clear hcz50_2
       try clear hcz63_0
       try clear hcz63_1
       try clear hcz63_2
       try clear hcz67_0
       try clear hcz67_1
       try clear hcz67_2
       try clear hcz72_0
       try clear hcz72_1
       try clear hcz72_2
       try clear hfz11_0
       try clear hfz11_1
       try clear hfz11_2
       try clear hfz17_0
       try clear hfz17_1
       try clear hfz17_2
       try clear hfz19_0
       try clear hfz19_1
       try clear hfz19_2
       try clear hfz25_0
       try clear hfz25_1
       try clear hfz25_2
       try clear hfz31_0
       try clear hfz31_1
       try clear hfz31_2
       try clear hfz41_0
       try clear hfz41_1
       try clear hfz41_2
       try clear hfz43_0
       try clear hfz43_1
       try clear hfz43_2
       try clear hfz50_0
       try clear hfz50_1
       try clear hfz50_2
       try clear hfz63_0
       try clear hfz63_1
       try clear hfz63_2
       try clear hfz67_0
       try clear hfz67_1
       try clear hfz67_2
       try clear hfz72_0
       try clear hfz72_1
       try clear hfz72_2
       try clear p2
       obtain ⟨kq, x96_37, rfl, HA, HJ37, HO_476000, HO_476001, HO_485000, HO_485001, HO_494000, HO_494001, HO_506000, HO_506001, BK475, BK484, BK493, BK505, HB⟩ := hcut
       cases kq with
       | zero => exact absurd HA.out (by simp [laws_FnPuts.j1])
       | succ kj37 =>
        have H := HA.out
        clear HA
        simp only [laws_FnPuts.j1] at H
        by_cases c74 : x96_37 = true
        ·subst c74
         have H1 : (some false) = some r := by rw [if_pos rfl] at H; exact H
         clear H
         have H := H1
         clear H1
         obtain rfl := Option.some.inj H
         go_wp2
         go_ret
         exact ⟨xV, xW HB.out⟩
        ·replace c74 := Bool.eq_false_iff.mpr c74
         subst c74
         have H1 : ((laws_names.f).bind fun t510 => (laws_FnPuts.l0 kj37 t474 t510 0 t467 t470 t473 t476 t479 t482 t497 t500 t503)) = some r := by rw [if_neg (show ¬ (false = true) by decide)] at H; exact H
         clear H
         have H := H1
         clear H1
         replace H := Option.bind_eq_some_iff.mp H
         obtain ⟨t510, A750, H⟩ := H
         try dsimp only at H
         have A75 := am A750
         clear A750
         have H' := am H
         clear H
         go_wp2_with (first | ((with_reducible refine gate_callee (f := 39) rfl ?_); refine xG (some 97) 39 Try.func39 #[] (h := ?_); (with_reducible refine (laws_names.calls  t510 _ A75.out).mono ?_); rintro e w76 ⟨v511, rfl, ho0, hb⟩; refine ⟨_, rfl, ?_⟩; replace HO_476000 := am (rb (xR HO_476000.out) hb); replace HO_476001 := am (rb (xR HO_476001.out) hb); replace HO_485000 := am (rb (xR HO_485000.out) hb); replace HO_485001 := am (rb (xR HO_485001.out) hb); replace HO_494000 := am (rb (xR HO_494000.out) hb); replace HO_494001 := am (rb (xR HO_494001.out) hb); replace HO_506000 := am (rb (xR HO_506000.out) hb); replace HO_506001 := am (rb (xR HO_506001.out) hb); have HO512 := am (Kd.R_lower ho0 (below_size (xW HB.out))); replace BK475 := am (bb (xB BK475.out) hb); replace BK484 := am (bb (xB BK484.out) hb); replace BK493 := am (bb (xB BK493.out) hb); replace BK505 := am (bb (xB BK505.out) hb); replace HB := am (bs (xW HB.out) hb); (try clear hb); (try clear ho0)))
         go_loopg [16] kj37 (fun kq v16 w' => ∃ (x16_3 : Int), v16 = .int .i64 x16_3 ∧ Aside0 (laws_FnPuts.l0 kq t474 t510 x16_3 t467 t470 t473 t476 t479 t482 t497 t500 t503 = some r) ∧ Aside0 (kq ≤ kj37) ∧ Aside0 (Kd.R Kd.string 9 w' w.heap.size (fun _ => True) v511 t510) ∧ Aside0 (Kd.R k57 57 w' w.heap.size (fun k_ => some k_ ≠ ((.slice Ao12 t470.length co12) : Value).ownBlock ∧ some k_ ≠ ((.slice Ao15 t476.length co15) : Value).ownBlock ∧ some k_ ≠ ((.slice Ao18 t479.length co18) : Value).ownBlock ∧ some k_ ≠ ((.slice Ao22 t485.length co22) : Value).ownBlock ∧ some k_ ≠ ((.slice Ao26 t488.length co26) : Value).ownBlock ∧ some k_ ≠ ((.slice Ao46 t497.length co46) : Value).ownBlock ∧ some k_ ≠ ((.slice Ao51 t500.length co51) : Value).ownBlock) (.slice Ao10 t467.length co10) t467) ∧ Aside0 (Kd.R k57 57 w' w.heap.size (fun k_ => some k_ ≠ ((.slice Ao10 t467.length co10) : Value).ownBlock ∧ some k_ ≠ ((.slice Ao15 t476.length co15) : Value).ownBlock ∧ some k_ ≠ ((.slice Ao18 t479.length co18) : Value).ownBlock ∧ some k_ ≠ ((.slice Ao22 t485.length co22) : Value).ownBlock ∧ some k_ ≠ ((.slice Ao26 t488.length co26) : Value).ownBlock ∧ some k_ ≠ ((.slice Ao46 t497.length co46) : Value).ownBlock ∧ some k_ ≠ ((.slice Ao51 t500.length co51) : Value).ownBlock) (.slice Ao12 t470.length co12) t470) ∧ Aside0 (Kd.R k57 57 w' w.heap.size (fun k_ => some k_ ≠ ((.slice Ao10 t467.length co10) : Value).ownBlock ∧ some k_ ≠ ((.slice Ao12 t470.length co12) : Value).ownBlock ∧ some k_ ≠ ((.slice Ao18 t479.length co18) : Value).ownBlock ∧ some k_ ≠ ((.slice Ao22 t485.length co22) : Value).ownBlock ∧ some k_ ≠ ((.slice Ao26 t488.length co26) : Value).ownBlock ∧ some k_ ≠ ((.slice Ao46 t497.length co46) : Value).ownBlock ∧ some k_ ≠ ((.slice Ao51 t500.length co51) : Value).ownBlock) (.slice Ao15 t476.length co15) t476) ∧ Aside0 (Kd.R k57 57 w' w.heap.size (fun k_ => some k_ ≠ ((.slice Ao10 t467.length co10) : Value).ownBlock ∧ some k_ ≠ ((.slice Ao12 t470.length co12) : Value).ownBlock ∧ some k_ ≠ ((.slice Ao15 t476.length co15) : Value).ownBlock ∧ some k_ ≠ ((.slice Ao22 t485.length co22) : Value).ownBlock ∧ some k_ ≠ ((.slice Ao26 t488.length co26) : Value).ownBlock ∧ some k_ ≠ ((.slice Ao46 t497.length co46) : Value).ownBlock ∧ some k_ ≠ ((.slice Ao51 t500.length co51) : Value).ownBlock) (.slice Ao18 t479.length co18) t479) ∧ Aside0 (Kd.R k57 57 w' w.heap.size (fun k_ => some k_ ≠ ((.slice Ao10 t467.length co10) : Value).ownBlock ∧ some k_ ≠ ((.slice Ao12 t470.length co12) : Value).ownBlock ∧ some k_ ≠ ((.slice Ao15 t476.length co15) : Value).ownBlock ∧ some k_ ≠ ((.slice Ao18 t479.length co18) : Value).ownBlock ∧ some k_ ≠ ((.slice Ao26 t488.length co26) : Value).ownBlock ∧ some k_ ≠ ((.slice Ao46 t497.length co46) : Value).ownBlock ∧ some k_ ≠ ((.slice Ao51 t500.length co51) : Value).ownBlock) (.slice Ao22 t485.length co22) t485) ∧ Aside0 (Kd.R k57 57 w' w.heap.size (fun k_ => some k_ ≠ ((.slice Ao10 t467.length co10) : Value).ownBlock ∧ some k_ ≠ ((.slice Ao12 t470.length co12) : Value).ownBlock ∧ some k_ ≠ ((.slice Ao15 t476.length co15) : Value).ownBlock ∧ some k_ ≠ ((.slice Ao18 t479.length co18) : Value).ownBlock ∧ some k_ ≠ ((.slice Ao22 t485.length co22) : Value).ownBlock ∧ some k_ ≠ ((.slice Ao46 t497.length co46) : Value).ownBlock ∧ some k_ ≠ ((.slice Ao51 t500.length co51) : Value).ownBlock) (.slice Ao26 t488.length co26) t488) ∧ Aside0 (Kd.R k57 57 w' w.heap.size (fun k_ => some k_ ≠ ((.slice Ao10 t467.length co10) : Value).ownBlock ∧ some k_ ≠ ((.slice Ao12 t470.length co12) : Value).ownBlock ∧ some k_ ≠ ((.slice Ao15 t476.length co15) : Value).ownBlock ∧ some k_ ≠ ((.slice Ao18 t479.length co18) : Value).ownBlock ∧ some k_ ≠ ((.slice Ao22 t485.length co22) : Value).ownBlock ∧ some k_ ≠ ((.slice Ao26 t488.length co26) : Value).ownBlock ∧ some k_ ≠ ((.slice Ao51 t500.length co51) : Value).ownBlock) (.slice Ao46 t497.length co46) t497) ∧ Aside0 (Kd.R k57 57 w' w.heap.size (fun k_ => some k_ ≠ ((.slice Ao10 t467.length co10) : Value).ownBlock ∧ some k_ ≠ ((.slice Ao12 t470.length co12) : Value).ownBlock ∧ some k_ ≠ ((.slice Ao15 t476.length co15) : Value).ownBlock ∧ some k_ ≠ ((.slice Ao18 t479.length co18) : Value).ownBlock ∧ some k_ ≠ ((.slice Ao22 t485.length co22) : Value).ownBlock ∧ some k_ ≠ ((.slice Ao26 t488.length co26) : Value).ownBlock ∧ some k_ ≠ ((.slice Ao46 t497.length co46) : Value).ownBlock) (.slice Ao51 t500.length co51) t500) ∧ Aside0 (w'.heap[gb475]? = some (.cells #[(.slice Ao10 t467.length co10), (.slice Ao12 t470.length co12), .int .i64 t473] 26 (0, 0))) ∧ Aside0 (w'.heap[gb484]? = some (.cells #[(.slice Ao15 t476.length co15), (.slice Ao18 t479.length co18), .int .i64 t482] 26 (0, 0))) ∧ Aside0 (w'.heap[gb493]? = some (.cells #[(.slice Ao22 t485.length co22), (.slice Ao26 t488.length co26), .int .i64 t491] 26 (0, 0))) ∧ Aside0 (w'.heap[gb505]? = some (.cells #[(.slice Ao46 t497.length co46), (.slice Ao51 t500.length co51), .int .i64 t503] 26 (0, 0))) ∧ Aside0 (Below w.heap.size w w'))
         case atStart => exact ⟨(0), (xQ), H', ⟨Nat.le_refl _⟩, ⟨xR HO512.out⟩, ⟨xR HO_476000.out⟩, ⟨xR HO_476001.out⟩, ⟨xR HO_485000.out⟩, ⟨xR HO_485001.out⟩, ⟨xR HO_494000.out⟩, ⟨xR HO_494001.out⟩, ⟨xR HO_506000.out⟩, ⟨xR HO_506001.out⟩, ⟨xB BK475.out⟩, ⟨xB BK484.out⟩, ⟨xB BK493.out⟩, ⟨xB BK505.out⟩, ⟨xW HB.out⟩⟩
         case round =>
          clear H'
          try clear c1
          try clear c2
          try clear p2
          try clear c3
          try clear c4
          try clear c5
          try clear c6
          try clear c7
          try clear c11
          try clear c14
          try clear c15
          try clear c16
          try clear c23
          try clear c24
          try clear c27
          try clear c27b0
          try clear c27b1
          try clear c27b2
          try clear c29
          try clear c30
          try clear c33
          try clear c34
          try clear c37
          try clear c38
          try clear c39
          try clear c40
          try clear c47
          try clear c48
          try clear c49
          try clear c53
          try clear c54
          try clear c54b0
          try clear c54b1
          try clear c55
          try clear c56
          try clear c58
          try clear c60
          try clear c61
          try clear c62
          try clear c65
          try clear c66
          try clear c69
          try clear c70
          try clear c71
          try clear c74
          try clear hcz11_0
          try clear hcz11_1
          try clear hcz11_2
          try clear hcz17_0
          try clear hcz17_1
          try clear hcz17_2
          try clear hcz19_0
          try clear hcz19_1
          try clear hcz19_2
          try clear hcz25_0
          try clear hcz25_1
          try clear hcz25_2
          try clear hcz31_0
          try clear hcz31_1
          try clear hcz31_2
          try clear hcz41_0
          try clear hcz41_1
          try clear hcz41_2
          try clear hcz43_0
          try clear hcz43_1
          try clear hcz43_2
          try clear hcz50_0
          try clear hcz50_1
          try clear hcz50_2
          try clear hcz63_0
          try clear hcz63_1
          try clear hcz63_2
          try clear hcz67_0
          try clear hcz67_1
          try clear hcz67_2
          try clear hcz72_0
          try clear hcz72_1
          try clear hcz72_2
          try clear hfz11_0
          try clear hfz11_1
          try clear hfz11_2
          try clear hfz17_0
          try clear hfz17_1
          try clear hfz17_2
          try clear hfz19_0
          try clear hfz19_1
          try clear hfz19_2
          try clear hfz25_0
          try clear hfz25_1
          try clear hfz25_2
          try clear hfz31_0
          try clear hfz31_1
          try clear hfz31_2
          try clear hfz41_0
          try clear hfz41_1
          try clear hfz41_2
          try clear hfz43_0
          try clear hfz43_1
          try clear hfz43_2
          try clear hfz50_0
          try clear hfz50_1
          try clear hfz50_2
          try clear hfz63_0
          try clear hfz63_1
          try clear hfz63_2
          try clear hfz67_0
          try clear hfz67_1
          try clear hfz67_2
          try clear hfz72_0
          try clear hfz72_1
          try clear hfz72_2
          try clear p2
          obtain ⟨x16_3, rfl, HA, HK3, HO_15, HO_476000, HO_476001, HO_485000, HO_485001, HO_494000, HO_494001, HO_506000, HO_506001, BK475, BK484, BK493, BK505, HB⟩ := hrel
          cases gk with
          | zero => exact absurd HA.out (by simp [laws_FnPuts.l0])
          | succ k3 =>
           have H := HA.out
           clear HA
           simp only [laws_FnPuts.l0] at H
           by_cases c77 : x16_3 < (t510.length : Int)
           ·rw [if_pos c77] at H
            have c77b0 : decide (x16_3 < (t510.length : Int)) = true := decide_eq_true c77
            clear c77
            by_cases c78 : 0 ≤ x16_3
            ·rw [if_pos c78] at H
             have c78b0 : decide (0 ≤ x16_3) = true := decide_eq_true c78
             clear c78
             by_cases c79 : (rdOf ByteArray.empty t510 x16_3).toList = t474.toList
             ·rw [if_pos c79] at H
              have c79b0 : ((rdOf ByteArray.empty t510 x16_3).toList == t474.toList) = true := beq_iff_eq.mpr c79
              have c79b1 : ((rdOf ByteArray.empty t510 x16_3).toList != t474.toList) = false := bne_eq_false_iff_eq.mpr c79
              clear c79
              have H' := am H
              clear H
              obtain ⟨Ao80, co80, eo80⟩ := Kd.R_slice HO_15.out
              subst eo80
              have p513 : 0 ≤ (x16_3 : Int) := of_decide_eq_true (by assumption)
              have q513 : x16_3 < (t510.length : Int) := of_decide_eq_true (by assumption)
              obtain ⟨ad513, e513, hx513_0⟩ := Kd.at_string (rr HO_15.out).2.2 x16_3 p513 q513
              cases e513
              replace p513 := eq_true p513
              replace q513 := eq_true q513
              go_wp2
              go_roundg k3
              case measure => have := HJ6.out; have := HJ37.out; have := HK3.out; omega
              case rel => exact ⟨(wrap64 (x16_3 + 1)), (xQ), H', ⟨by have := HJ6.out; have := HJ37.out; have := HK3.out; omega⟩, ⟨xR HO_15.out⟩, ⟨xR HO_476000.out⟩, ⟨xR HO_476001.out⟩, ⟨xR HO_485000.out⟩, ⟨xR HO_485001.out⟩, ⟨xR HO_494000.out⟩, ⟨xR HO_494001.out⟩, ⟨xR HO_506000.out⟩, ⟨xR HO_506001.out⟩, ⟨xB BK475.out⟩, ⟨xB BK484.out⟩, ⟨xB BK493.out⟩, ⟨xB BK505.out⟩, ⟨xW HB.out⟩⟩
             ·rw [if_neg c79] at H
              have c79b0 : ((rdOf ByteArray.empty t510 x16_3).toList == t474.toList) = false := beq_eq_false_iff_ne.mpr c79
              have c79b1 : ((rdOf ByteArray.empty t510 x16_3).toList != t474.toList) = true := bne_iff_ne.mpr c79
              replace H := Option.bind_eq_some_iff.mp H
              obtain ⟨⟨t515, t516⟩, A810, H⟩ := H
              try dsimp only at H
              have A81 := am A810
              clear A810
              replace H := Option.bind_eq_some_iff.mp H
              obtain ⟨⟨t518, t519⟩, A820, H⟩ := H
              try dsimp only at H
              have A82 := am A820
              clear A820
              replace H := Option.bind_eq_some_iff.mp H
              obtain ⟨⟨t521, t522⟩, A830, H⟩ := H
              try dsimp only at H
              have A83 := am A830
              clear A830
              by_cases c84 : (t516 != t519) = true
              ·rw [if_pos c84] at H
               have c84b0 : (t516 != t519) = true := c84
               (try (have c84b1 : decide (t516 = t519) = false := by simpa using c84))
               (try (have c84b2 : (t516 == t519) = false := by simpa using c84))
               (try (have c84b3 : ¬ (t516 = t519) := by simpa using c84))
               clear c84
               obtain rfl := Option.some.inj H
               obtain ⟨Ao85, co85, eo85⟩ := Kd.R_slice HO_15.out
               subst eo85
               have p513 : 0 ≤ (x16_3 : Int) := of_decide_eq_true (by assumption)
               have q513 : x16_3 < (t510.length : Int) := of_decide_eq_true (by assumption)
               obtain ⟨ad513, e513, hx513_0⟩ := Kd.at_string (rr HO_15.out).2.2 x16_3 p513 q513
               cases e513
               replace p513 := eq_true p513
               replace q513 := eq_true q513
               try go_wp2
               replace HO_15 := am (Kd.R_drew HO_15.out)
               replace HO_476000 := am (Kd.R_drew HO_476000.out)
               replace HO_476001 := am (Kd.R_drew HO_476001.out)
               replace HO_485000 := am (Kd.R_drew HO_485000.out)
               replace HO_485001 := am (Kd.R_drew HO_485001.out)
               replace HO_494000 := am (Kd.R_drew HO_494000.out)
               replace HO_494001 := am (Kd.R_drew HO_494001.out)
               replace HO_506000 := am (Kd.R_drew HO_506000.out)
               replace HO_506001 := am (Kd.R_drew HO_506001.out)
               replace BK475 := am (blk_drew BK475.out)
               replace BK484 := am (blk_drew BK484.out)
               replace BK493 := am (blk_drew BK493.out)
               replace BK505 := am (blk_drew BK505.out)
               replace HB := am (below_drew1 HB.out)
               have p514 : 0 ≤ (x16_3 : Int) := of_decide_eq_true (by assumption)
               have q514 : x16_3 < (t510.length : Int) := of_decide_eq_true (by assumption)
               obtain ⟨ad514, e514, hx514_0⟩ := Kd.at_string (rr HO_15.out).2.2 x16_3 p514 q514
               obtain rfl : ad513 = ad514 := (by injection e514)
               replace p514 := eq_true p514
               replace q514 := eq_true q514
               refine start_ (n := 11) (S := fun w' => w'.cell? ⟨gb475, 0, none⟩ = some (.slice Ao10 t467.length co10) ∧ w'.cell? ⟨gb475, 1, none⟩ = some (.slice Ao12 t470.length co12) ∧ w'.cell? ⟨gb475, 2, none⟩ = some (.int .i64 t473) ∧ w'.cell? (ad513.add (x16_3).toNat) = some (.string (rdOf ByteArray.empty t510 x16_3))) (ds := []) #[false, false, false, false, false, false, false, false, false, false, false] (by kernel_rfl) rfl rfl ⟨(blk_cell BK475.out 0).trans rfl, (blk_cell BK475.out 1).trans rfl, (blk_cell BK475.out 2).trans rfl, hx514_0⟩ (fun hHeld => ?_); refine with_tabW laws_FnPuts.tab20 laws_FnPuts.bits20 (fun HT_ HW_ => ?_)
               generalize wr.drew = w86 at HO_15 HO_476000 HO_476001 HO_485000 HO_485001 HO_494000 HO_494001 HO_506000 HO_506001 BK475 BK484 BK493 BK505 HB hx514_0 hHeld ⊢
               refine xP1 (i := 1) (N := some 112) #[false, true, false, false, false, false, false, false, false, false, false] (any_of HT_.out (by kernel_rfl)) (h := ?_)
               refine xP1 (i := 2) (N := some 113) #[false, true, true, false, false, false, false, false, false, false, false] (any_of HT_.out (by kernel_rfl)) (h := ?_)
               refine xP1 (i := 3) (N := some 114) #[false, true, true, true, false, false, false, false, false, false, false] (any_of HT_.out (by kernel_rfl)) (h := ?_)
               refine take_ (i := 0) (N := some 111) (v := ?_) (a' := ?_) #[true, true, true, true, false, false, false, false, false, false, false] rfl rfl (take_ofW HT_.out HW_.out (by kernel_rfl)) (fun _ _ _ h => h) (Or.inl ⟨by rfl, ?_⟩) hHeld ?_ ?_
               rotate_left
               ·rintro w' ⟨s0, s1, s2, s3⟩
                go_simp
                with_reducible rfl
               rotate_left
               ·simp only [Act.put, List.setIfInBounds_toArray, List.set_cons_zero, List.set_cons_succ, i64_w, i32_w]
                rfl
               refine take_ (i := 4) (N := some 115) (v := ?_) (a' := ?_) #[true, true, true, true, true, false, false, false, false, false, false] rfl rfl (take_ofW HT_.out HW_.out (by kernel_rfl)) (fun _ _ _ h => h) (Or.inl ⟨by rfl, ?_⟩) hHeld ?_ ?_
               rotate_left
               ·rintro w' ⟨s0, s1, s2, s3⟩
                go_simp
                with_reducible rfl
               rotate_left
               ·simp only [Act.put, List.setIfInBounds_toArray, List.set_cons_zero, List.set_cons_succ, i64_w, i32_w]
                rfl
               refine one_ (i := 5) (N := some 116) #[true, true, true, true, true, true, false, false, false, false, false] rfl rfl (one_of HT_.out (by kernel_rfl)) (by decide) (fun K hK => ?_)
               refine xG1 22 Try.func22 #[.agg #[.slice Ao10 t467.length co10, .slice Ao12 t470.length co12, .int .i64 t473], .string (rdOf ByteArray.empty t510 x16_3)] (h := ?_)
               with_reducible refine (spec_SeekKey.calls k3 _ _ t467 _ _ t470 t473 (rdOf ByteArray.empty t510 x16_3) t515 t516 _ ?side1 ?side2 ?side3 ?side4 A81.out).mono ?_
               (case side1 => exact xC ((rr HO_476000.out).2.2))
               (case side2 => exact (rr HO_476000.out).2.1)
               (case side3 => exact xC ((rr HO_476001.out).2.2))
               (case side4 => exact (rr HO_476001.out).2.1)
               rintro e w87 ⟨rfl, hb⟩
               have HS3_ := (hb.cell (World.block_lt_of_cell? _ _ (hHeld.2.2.2))).trans (hHeld.2.2.2)
               refine ⟨_, rfl, ?_⟩
               replace HO_15 := am (rb (xR HO_15.out) hb)
               replace HO_476000 := am (rb (xR HO_476000.out) hb)
               replace HO_476001 := am (rb (xR HO_476001.out) hb)
               replace HO_485000 := am (rb (xR HO_485000.out) hb)
               replace HO_485001 := am (rb (xR HO_485001.out) hb)
               replace HO_494000 := am (rb (xR HO_494000.out) hb)
               replace HO_494001 := am (rb (xR HO_494001.out) hb)
               replace HO_506000 := am (rb (xR HO_506000.out) hb)
               replace HO_506001 := am (rb (xR HO_506001.out) hb)
               replace BK475 := am (bb (xB BK475.out) hb)
               replace BK484 := am (bb (xB BK484.out) hb)
               replace BK493 := am (bb (xB BK493.out) hb)
               replace BK505 := am (bb (xB BK505.out) hb)
               replace HB := am (bs (xW HB.out) hb)
               (try clear hb)
               refine hK.out _ _ ⟨(blk_cell BK475.out 0).trans rfl, (blk_cell BK475.out 1).trans rfl, (blk_cell BK475.out 2).trans rfl, HS3_⟩ (fun hHeld => ?_)
               clear hK K
               refine xN1 (h := ?_)
               refine xP1 (i := 6) (N := some 110) #[true, true, true, true, true, true, true, false, false, false, false] (any_of HT_.out (by kernel_rfl)) (h := ?_)
               refine xP1 (i := 7) (N := some 117) #[true, true, true, true, true, true, true, true, false, false, false] (any_of HT_.out (by kernel_rfl)) (h := ?_)
               refine xP1 (i := 8) (N := some 118) #[true, true, true, true, true, true, true, true, true, false, false] (any_of HT_.out (by kernel_rfl)) (h := ?_)
               refine xP1 (i := 9) (N := some 17) #[true, true, true, true, true, true, true, true, true, true, false] (any_of HT_.out (by kernel_rfl)) (h := ?_)
               refine xP1 (i := 10) (N := some 18) #[true, true, true, true, true, true, true, true, true, true, true] (any_of HT_.out (by kernel_rfl)) (h := ?_)
               refine done_ (done_of HT_.out (by kernel_rfl)) ?_
               try go_wp2
               replace HO_15 := am (Kd.R_drew HO_15.out)
               replace HO_476000 := am (Kd.R_drew HO_476000.out)
               replace HO_476001 := am (Kd.R_drew HO_476001.out)
               replace HO_485000 := am (Kd.R_drew HO_485000.out)
               replace HO_485001 := am (Kd.R_drew HO_485001.out)
               replace HO_494000 := am (Kd.R_drew HO_494000.out)
               replace HO_494001 := am (Kd.R_drew HO_494001.out)
               replace HO_506000 := am (Kd.R_drew HO_506000.out)
               replace HO_506001 := am (Kd.R_drew HO_506001.out)
               replace BK475 := am (blk_drew BK475.out)
               replace BK484 := am (blk_drew BK484.out)
               replace BK493 := am (blk_drew BK493.out)
               replace BK505 := am (blk_drew BK505.out)
               replace HB := am (below_drew1 HB.out)
               have p517 : 0 ≤ (x16_3 : Int) := of_decide_eq_true (by assumption)
               have q517 : x16_3 < (t510.length : Int) := of_decide_eq_true (by assumption)
               obtain ⟨ad517, e517, hx517_0⟩ := Kd.at_string (rr HO_15.out).2.2 x16_3 p517 q517
               obtain rfl : ad513 = ad517 := (by injection e517)
               replace p517 := eq_true p517
               replace q517 := eq_true q517
               refine start_ (n := 11) (S := fun w' => w'.cell? ⟨gb484, 0, none⟩ = some (.slice Ao15 t476.length co15) ∧ w'.cell? ⟨gb484, 1, none⟩ = some (.slice Ao18 t479.length co18) ∧ w'.cell? ⟨gb484, 2, none⟩ = some (.int .i64 t482) ∧ w'.cell? (ad513.add (x16_3).toNat) = some (.string (rdOf ByteArray.empty t510 x16_3))) (ds := []) #[false, false, false, false, false, false, false, false, false, false, false] (by kernel_rfl) rfl rfl ⟨(blk_cell BK484.out 0).trans rfl, (blk_cell BK484.out 1).trans rfl, (blk_cell BK484.out 2).trans rfl, hx517_0⟩ (fun hHeld => ?_); refine with_tabW laws_FnPuts.tab21 laws_FnPuts.bits21 (fun HT_ HW_ => ?_)
               generalize w87.drew = w88 at HO_15 HO_476000 HO_476001 HO_485000 HO_485001 HO_494000 HO_494001 HO_506000 HO_506001 BK475 BK484 BK493 BK505 HB hx517_0 hHeld ⊢
               refine xP1 (i := 1) (N := some 121) #[false, true, false, false, false, false, false, false, false, false, false] (any_of HT_.out (by kernel_rfl)) (h := ?_)
               refine xP1 (i := 2) (N := some 122) #[false, true, true, false, false, false, false, false, false, false, false] (any_of HT_.out (by kernel_rfl)) (h := ?_)
               refine xP1 (i := 3) (N := some 123) #[false, true, true, true, false, false, false, false, false, false, false] (any_of HT_.out (by kernel_rfl)) (h := ?_)
               refine take_ (i := 0) (N := some 120) (v := ?_) (a' := ?_) #[true, true, true, true, false, false, false, false, false, false, false] rfl rfl (take_ofW HT_.out HW_.out (by kernel_rfl)) (fun _ _ _ h => h) (Or.inl ⟨by rfl, ?_⟩) hHeld ?_ ?_
               rotate_left
               ·rintro w' ⟨s0, s1, s2, s3⟩
                go_simp
                with_reducible rfl
               rotate_left
               ·simp only [Act.put, List.setIfInBounds_toArray, List.set_cons_zero, List.set_cons_succ, i64_w, i32_w]
                rfl
               refine take_ (i := 4) (N := some 124) (v := ?_) (a' := ?_) #[true, true, true, true, true, false, false, false, false, false, false] rfl rfl (take_ofW HT_.out HW_.out (by kernel_rfl)) (fun _ _ _ h => h) (Or.inl ⟨by rfl, ?_⟩) hHeld ?_ ?_
               rotate_left
               ·rintro w' ⟨s0, s1, s2, s3⟩
                go_simp
                with_reducible rfl
               rotate_left
               ·simp only [Act.put, List.setIfInBounds_toArray, List.set_cons_zero, List.set_cons_succ, i64_w, i32_w]
                rfl
               refine one_ (i := 5) (N := some 125) #[true, true, true, true, true, true, false, false, false, false, false] rfl rfl (one_of HT_.out (by kernel_rfl)) (by decide) (fun K hK => ?_)
               refine xG1 23 Try.func23 #[.agg #[.slice Ao15 t476.length co15, .slice Ao18 t479.length co18, .int .i64 t482], .string (rdOf ByteArray.empty t510 x16_3)] (h := ?_)
               with_reducible refine (impl_SeekKey.calls k3 _ _ t476 _ _ t479 t482 (rdOf ByteArray.empty t510 x16_3) t518 t519 _ ?side1 ?side2 ?side3 ?side4 A82.out).mono ?_
               (case side1 => exact xC ((rr HO_485000.out).2.2))
               (case side2 => exact (rr HO_485000.out).2.1)
               (case side3 => exact xC ((rr HO_485001.out).2.2))
               (case side4 => exact (rr HO_485001.out).2.1)
               rintro e w89 ⟨rfl, hb⟩
               have HS3_ := (hb.cell (World.block_lt_of_cell? _ _ (hHeld.2.2.2))).trans (hHeld.2.2.2)
               refine ⟨_, rfl, ?_⟩
               replace HO_15 := am (rb (xR HO_15.out) hb)
               replace HO_476000 := am (rb (xR HO_476000.out) hb)
               replace HO_476001 := am (rb (xR HO_476001.out) hb)
               replace HO_485000 := am (rb (xR HO_485000.out) hb)
               replace HO_485001 := am (rb (xR HO_485001.out) hb)
               replace HO_494000 := am (rb (xR HO_494000.out) hb)
               replace HO_494001 := am (rb (xR HO_494001.out) hb)
               replace HO_506000 := am (rb (xR HO_506000.out) hb)
               replace HO_506001 := am (rb (xR HO_506001.out) hb)
               replace BK475 := am (bb (xB BK475.out) hb)
               replace BK484 := am (bb (xB BK484.out) hb)
               replace BK493 := am (bb (xB BK493.out) hb)
               replace BK505 := am (bb (xB BK505.out) hb)
               replace HB := am (bs (xW HB.out) hb)
               (try clear hb)
               refine hK.out _ _ ⟨(blk_cell BK484.out 0).trans rfl, (blk_cell BK484.out 1).trans rfl, (blk_cell BK484.out 2).trans rfl, HS3_⟩ (fun hHeld => ?_)
               clear hK K
               refine xN1 (h := ?_)
               refine xP1 (i := 6) (N := some 119) #[true, true, true, true, true, true, true, false, false, false, false] (any_of HT_.out (by kernel_rfl)) (h := ?_)
               refine xP1 (i := 7) (N := some 126) #[true, true, true, true, true, true, true, true, false, false, false] (any_of HT_.out (by kernel_rfl)) (h := ?_)
               refine xP1 (i := 8) (N := some 127) #[true, true, true, true, true, true, true, true, true, false, false] (any_of HT_.out (by kernel_rfl)) (h := ?_)
               refine xP1 (i := 9) (N := some 19) #[true, true, true, true, true, true, true, true, true, true, false] (any_of HT_.out (by kernel_rfl)) (h := ?_)
               refine xP1 (i := 10) (N := some 20) #[true, true, true, true, true, true, true, true, true, true, true] (any_of HT_.out (by kernel_rfl)) (h := ?_)
               refine done_ (done_of HT_.out (by kernel_rfl)) ?_
               try go_wp2
               replace HO_15 := am (Kd.R_drew HO_15.out)
               replace HO_476000 := am (Kd.R_drew HO_476000.out)
               replace HO_476001 := am (Kd.R_drew HO_476001.out)
               replace HO_485000 := am (Kd.R_drew HO_485000.out)
               replace HO_485001 := am (Kd.R_drew HO_485001.out)
               replace HO_494000 := am (Kd.R_drew HO_494000.out)
               replace HO_494001 := am (Kd.R_drew HO_494001.out)
               replace HO_506000 := am (Kd.R_drew HO_506000.out)
               replace HO_506001 := am (Kd.R_drew HO_506001.out)
               replace BK475 := am (blk_drew BK475.out)
               replace BK484 := am (blk_drew BK484.out)
               replace BK493 := am (blk_drew BK493.out)
               replace BK505 := am (blk_drew BK505.out)
               replace HB := am (below_drew1 HB.out)
               have p520 : 0 ≤ (x16_3 : Int) := of_decide_eq_true (by assumption)
               have q520 : x16_3 < (t510.length : Int) := of_decide_eq_true (by assumption)
               obtain ⟨ad520, e520, hx520_0⟩ := Kd.at_string (rr HO_15.out).2.2 x16_3 p520 q520
               obtain rfl : ad513 = ad520 := (by injection e520)
               replace p520 := eq_true p520
               replace q520 := eq_true q520
               refine start_ (n := 11) (S := fun w' => w'.cell? ⟨gb505, 0, none⟩ = some (.slice Ao46 t497.length co46) ∧ w'.cell? ⟨gb505, 1, none⟩ = some (.slice Ao51 t500.length co51) ∧ w'.cell? ⟨gb505, 2, none⟩ = some (.int .i64 t503) ∧ w'.cell? (ad513.add (x16_3).toNat) = some (.string (rdOf ByteArray.empty t510 x16_3))) (ds := []) #[false, false, false, false, false, false, false, false, false, false, false] (by kernel_rfl) rfl rfl ⟨(blk_cell BK505.out 0).trans rfl, (blk_cell BK505.out 1).trans rfl, (blk_cell BK505.out 2).trans rfl, hx520_0⟩ (fun hHeld => ?_); refine with_tabW laws_FnPuts.tab22 laws_FnPuts.bits22 (fun HT_ HW_ => ?_)
               generalize w89.drew = w90 at HO_15 HO_476000 HO_476001 HO_485000 HO_485001 HO_494000 HO_494001 HO_506000 HO_506001 BK475 BK484 BK493 BK505 HB hx520_0 hHeld ⊢
               refine xP1 (i := 1) (N := some 130) #[false, true, false, false, false, false, false, false, false, false, false] (any_of HT_.out (by kernel_rfl)) (h := ?_)
               refine xP1 (i := 2) (N := some 131) #[false, true, true, false, false, false, false, false, false, false, false] (any_of HT_.out (by kernel_rfl)) (h := ?_)
               refine xP1 (i := 3) (N := some 132) #[false, true, true, true, false, false, false, false, false, false, false] (any_of HT_.out (by kernel_rfl)) (h := ?_)
               refine take_ (i := 0) (N := some 129) (v := ?_) (a' := ?_) #[true, true, true, true, false, false, false, false, false, false, false] rfl rfl (take_ofW HT_.out HW_.out (by kernel_rfl)) (fun _ _ _ h => h) (Or.inl ⟨by rfl, ?_⟩) hHeld ?_ ?_
               rotate_left
               ·rintro w' ⟨s0, s1, s2, s3⟩
                go_simp
                with_reducible rfl
               rotate_left
               ·simp only [Act.put, List.setIfInBounds_toArray, List.set_cons_zero, List.set_cons_succ, i64_w, i32_w]
                rfl
               refine take_ (i := 4) (N := some 133) (v := ?_) (a' := ?_) #[true, true, true, true, true, false, false, false, false, false, false] rfl rfl (take_ofW HT_.out HW_.out (by kernel_rfl)) (fun _ _ _ h => h) (Or.inl ⟨by rfl, ?_⟩) hHeld ?_ ?_
               rotate_left
               ·rintro w' ⟨s0, s1, s2, s3⟩
                go_simp
                with_reducible rfl
               rotate_left
               ·simp only [Act.put, List.setIfInBounds_toArray, List.set_cons_zero, List.set_cons_succ, i64_w, i32_w]
                rfl
               refine one_ (i := 5) (N := some 134) #[true, true, true, true, true, true, false, false, false, false, false] rfl rfl (one_of HT_.out (by kernel_rfl)) (by decide) (fun K hK => ?_)
               refine xG1 23 Try.func23 #[.agg #[.slice Ao46 t497.length co46, .slice Ao51 t500.length co51, .int .i64 t503], .string (rdOf ByteArray.empty t510 x16_3)] (h := ?_)
               with_reducible refine (impl_SeekKey.calls k3 _ _ t497 _ _ t500 t503 (rdOf ByteArray.empty t510 x16_3) t521 t522 _ ?side1 ?side2 ?side3 ?side4 A83.out).mono ?_
               (case side1 => exact xC ((rr HO_506000.out).2.2))
               (case side2 => exact (rr HO_506000.out).2.1)
               (case side3 => exact xC ((rr HO_506001.out).2.2))
               (case side4 => exact (rr HO_506001.out).2.1)
               rintro e w91 ⟨rfl, hb⟩
               have HS3_ := (hb.cell (World.block_lt_of_cell? _ _ (hHeld.2.2.2))).trans (hHeld.2.2.2)
               refine ⟨_, rfl, ?_⟩
               replace HO_15 := am (rb (xR HO_15.out) hb)
               replace HO_476000 := am (rb (xR HO_476000.out) hb)
               replace HO_476001 := am (rb (xR HO_476001.out) hb)
               replace HO_485000 := am (rb (xR HO_485000.out) hb)
               replace HO_485001 := am (rb (xR HO_485001.out) hb)
               replace HO_494000 := am (rb (xR HO_494000.out) hb)
               replace HO_494001 := am (rb (xR HO_494001.out) hb)
               replace HO_506000 := am (rb (xR HO_506000.out) hb)
               replace HO_506001 := am (rb (xR HO_506001.out) hb)
               replace BK475 := am (bb (xB BK475.out) hb)
               replace BK484 := am (bb (xB BK484.out) hb)
               replace BK493 := am (bb (xB BK493.out) hb)
               replace BK505 := am (bb (xB BK505.out) hb)
               replace HB := am (bs (xW HB.out) hb)
               (try clear hb)
               refine hK.out _ _ ⟨(blk_cell BK505.out 0).trans rfl, (blk_cell BK505.out 1).trans rfl, (blk_cell BK505.out 2).trans rfl, HS3_⟩ (fun hHeld => ?_)
               clear hK K
               refine xN1 (h := ?_)
               refine xP1 (i := 6) (N := some 128) #[true, true, true, true, true, true, true, false, false, false, false] (any_of HT_.out (by kernel_rfl)) (h := ?_)
               refine xP1 (i := 7) (N := some 135) #[true, true, true, true, true, true, true, true, false, false, false] (any_of HT_.out (by kernel_rfl)) (h := ?_)
               refine xP1 (i := 8) (N := some 136) #[true, true, true, true, true, true, true, true, true, false, false] (any_of HT_.out (by kernel_rfl)) (h := ?_)
               refine xP1 (i := 9) (N := some 21) #[true, true, true, true, true, true, true, true, true, true, false] (any_of HT_.out (by kernel_rfl)) (h := ?_)
               refine xP1 (i := 10) (N := some 22) #[true, true, true, true, true, true, true, true, true, true, true] (any_of HT_.out (by kernel_rfl)) (h := ?_)
               refine done_ (done_of HT_.out (by kernel_rfl)) ?_
               try go_wp2
               go_ret
               exact ⟨xV, xW HB.out⟩
              ·rw [if_neg c84] at H
               have c84b0 : (t516 != t519) = false := by simpa using c84
               (try (have c84b1 : decide (t516 = t519) = true := by simpa using c84))
               (try (have c84b2 : (t516 == t519) = true := by simpa using c84))
               clear c84
               by_cases c92 : (t516 != t522) = true
               ·rw [if_pos c92] at H
                have c92b0 : (t516 != t522) = true := c92
                (try (have c92b1 : decide (t516 = t522) = false := by simpa using c92))
                (try (have c92b2 : (t516 == t522) = false := by simpa using c92))
                (try (have c92b3 : ¬ (t516 = t522) := by simpa using c92))
                clear c92
                obtain rfl := Option.some.inj H
                obtain ⟨Ao93, co93, eo93⟩ := Kd.R_slice HO_15.out
                subst eo93
                have p513 : 0 ≤ (x16_3 : Int) := of_decide_eq_true (by assumption)
                have q513 : x16_3 < (t510.length : Int) := of_decide_eq_true (by assumption)
                obtain ⟨ad513, e513, hx513_0⟩ := Kd.at_string (rr HO_15.out).2.2 x16_3 p513 q513
                cases e513
                replace p513 := eq_true p513
                replace q513 := eq_true q513
                try go_wp2
                replace HO_15 := am (Kd.R_drew HO_15.out)
                replace HO_476000 := am (Kd.R_drew HO_476000.out)
                replace HO_476001 := am (Kd.R_drew HO_476001.out)
                replace HO_485000 := am (Kd.R_drew HO_485000.out)
                replace HO_485001 := am (Kd.R_drew HO_485001.out)
                replace HO_494000 := am (Kd.R_drew HO_494000.out)
                replace HO_494001 := am (Kd.R_drew HO_494001.out)
                replace HO_506000 := am (Kd.R_drew HO_506000.out)
                replace HO_506001 := am (Kd.R_drew HO_506001.out)
                replace BK475 := am (blk_drew BK475.out)
                replace BK484 := am (blk_drew BK484.out)
                replace BK493 := am (blk_drew BK493.out)
                replace BK505 := am (blk_drew BK505.out)
                replace HB := am (below_drew1 HB.out)
                have p514 : 0 ≤ (x16_3 : Int) := of_decide_eq_true (by assumption)
                have q514 : x16_3 < (t510.length : Int) := of_decide_eq_true (by assumption)
                obtain ⟨ad514, e514, hx514_0⟩ := Kd.at_string (rr HO_15.out).2.2 x16_3 p514 q514
                obtain rfl : ad513 = ad514 := (by injection e514)
                replace p514 := eq_true p514
                replace q514 := eq_true q514
                refine start_ (n := 11) (S := fun w' => w'.cell? ⟨gb475, 0, none⟩ = some (.slice Ao10 t467.length co10) ∧ w'.cell? ⟨gb475, 1, none⟩ = some (.slice Ao12 t470.length co12) ∧ w'.cell? ⟨gb475, 2, none⟩ = some (.int .i64 t473) ∧ w'.cell? (ad513.add (x16_3).toNat) = some (.string (rdOf ByteArray.empty t510 x16_3))) (ds := []) #[false, false, false, false, false, false, false, false, false, false, false] (by kernel_rfl) rfl rfl ⟨(blk_cell BK475.out 0).trans rfl, (blk_cell BK475.out 1).trans rfl, (blk_cell BK475.out 2).trans rfl, hx514_0⟩ (fun hHeld => ?_); refine with_tabW laws_FnPuts.tab20 laws_FnPuts.bits20 (fun HT_ HW_ => ?_)
                generalize wr.drew = w94 at HO_15 HO_476000 HO_476001 HO_485000 HO_485001 HO_494000 HO_494001 HO_506000 HO_506001 BK475 BK484 BK493 BK505 HB hx514_0 hHeld ⊢
                refine xP1 (i := 1) (N := some 112) #[false, true, false, false, false, false, false, false, false, false, false] (any_of HT_.out (by kernel_rfl)) (h := ?_)
                refine xP1 (i := 2) (N := some 113) #[false, true, true, false, false, false, false, false, false, false, false] (any_of HT_.out (by kernel_rfl)) (h := ?_)
                refine xP1 (i := 3) (N := some 114) #[false, true, true, true, false, false, false, false, false, false, false] (any_of HT_.out (by kernel_rfl)) (h := ?_)
                refine take_ (i := 0) (N := some 111) (v := ?_) (a' := ?_) #[true, true, true, true, false, false, false, false, false, false, false] rfl rfl (take_ofW HT_.out HW_.out (by kernel_rfl)) (fun _ _ _ h => h) (Or.inl ⟨by rfl, ?_⟩) hHeld ?_ ?_
                rotate_left
                ·rintro w' ⟨s0, s1, s2, s3⟩
                 go_simp
                 with_reducible rfl
                rotate_left
                ·simp only [Act.put, List.setIfInBounds_toArray, List.set_cons_zero, List.set_cons_succ, i64_w, i32_w]
                 rfl
                refine take_ (i := 4) (N := some 115) (v := ?_) (a' := ?_) #[true, true, true, true, true, false, false, false, false, false, false] rfl rfl (take_ofW HT_.out HW_.out (by kernel_rfl)) (fun _ _ _ h => h) (Or.inl ⟨by rfl, ?_⟩) hHeld ?_ ?_
                rotate_left
                ·rintro w' ⟨s0, s1, s2, s3⟩
                 go_simp
                 with_reducible rfl
                rotate_left
                ·simp only [Act.put, List.setIfInBounds_toArray, List.set_cons_zero, List.set_cons_succ, i64_w, i32_w]
                 rfl
                refine one_ (i := 5) (N := some 116) #[true, true, true, true, true, true, false, false, false, false, false] rfl rfl (one_of HT_.out (by kernel_rfl)) (by decide) (fun K hK => ?_)
                refine xG1 22 Try.func22 #[.agg #[.slice Ao10 t467.length co10, .slice Ao12 t470.length co12, .int .i64 t473], .string (rdOf ByteArray.empty t510 x16_3)] (h := ?_)
                with_reducible refine (spec_SeekKey.calls k3 _ _ t467 _ _ t470 t473 (rdOf ByteArray.empty t510 x16_3) t515 t516 _ ?side1 ?side2 ?side3 ?side4 A81.out).mono ?_
                (case side1 => exact xC ((rr HO_476000.out).2.2))
                (case side2 => exact (rr HO_476000.out).2.1)
                (case side3 => exact xC ((rr HO_476001.out).2.2))
                (case side4 => exact (rr HO_476001.out).2.1)
                rintro e w95 ⟨rfl, hb⟩
                have HS3_ := (hb.cell (World.block_lt_of_cell? _ _ (hHeld.2.2.2))).trans (hHeld.2.2.2)
                refine ⟨_, rfl, ?_⟩
                replace HO_15 := am (rb (xR HO_15.out) hb)
                replace HO_476000 := am (rb (xR HO_476000.out) hb)
                replace HO_476001 := am (rb (xR HO_476001.out) hb)
                replace HO_485000 := am (rb (xR HO_485000.out) hb)
                replace HO_485001 := am (rb (xR HO_485001.out) hb)
                replace HO_494000 := am (rb (xR HO_494000.out) hb)
                replace HO_494001 := am (rb (xR HO_494001.out) hb)
                replace HO_506000 := am (rb (xR HO_506000.out) hb)
                replace HO_506001 := am (rb (xR HO_506001.out) hb)
                replace BK475 := am (bb (xB BK475.out) hb)
                replace BK484 := am (bb (xB BK484.out) hb)
                replace BK493 := am (bb (xB BK493.out) hb)
                replace BK505 := am (bb (xB BK505.out) hb)
                replace HB := am (bs (xW HB.out) hb)
                (try clear hb)
                refine hK.out _ _ ⟨(blk_cell BK475.out 0).trans rfl, (blk_cell BK475.out 1).trans rfl, (blk_cell BK475.out 2).trans rfl, HS3_⟩ (fun hHeld => ?_)
                clear hK K
                refine xN1 (h := ?_)
                refine xP1 (i := 6) (N := some 110) #[true, true, true, true, true, true, true, false, false, false, false] (any_of HT_.out (by kernel_rfl)) (h := ?_)
                refine xP1 (i := 7) (N := some 117) #[true, true, true, true, true, true, true, true, false, false, false] (any_of HT_.out (by kernel_rfl)) (h := ?_)
                refine xP1 (i := 8) (N := some 118) #[true, true, true, true, true, true, true, true, true, false, false] (any_of HT_.out (by kernel_rfl)) (h := ?_)
                refine xP1 (i := 9) (N := some 17) #[true, true, true, true, true, true, true, true, true, true, false] (any_of HT_.out (by kernel_rfl)) (h := ?_)
                refine xP1 (i := 10) (N := some 18) #[true, true, true, true, true, true, true, true, true, true, true] (any_of HT_.out (by kernel_rfl)) (h := ?_)
                refine done_ (done_of HT_.out (by kernel_rfl)) ?_
                try go_wp2
                replace HO_15 := am (Kd.R_drew HO_15.out)
                replace HO_476000 := am (Kd.R_drew HO_476000.out)
                replace HO_476001 := am (Kd.R_drew HO_476001.out)
                replace HO_485000 := am (Kd.R_drew HO_485000.out)
                replace HO_485001 := am (Kd.R_drew HO_485001.out)
                replace HO_494000 := am (Kd.R_drew HO_494000.out)
                replace HO_494001 := am (Kd.R_drew HO_494001.out)
                replace HO_506000 := am (Kd.R_drew HO_506000.out)
                replace HO_506001 := am (Kd.R_drew HO_506001.out)
                replace BK475 := am (blk_drew BK475.out)
                replace BK484 := am (blk_drew BK484.out)
                replace BK493 := am (blk_drew BK493.out)
                replace BK505 := am (blk_drew BK505.out)
                replace HB := am (below_drew1 HB.out)
                have p517 : 0 ≤ (x16_3 : Int) := of_decide_eq_true (by assumption)
                have q517 : x16_3 < (t510.length : Int) := of_decide_eq_true (by assumption)
                obtain ⟨ad517, e517, hx517_0⟩ := Kd.at_string (rr HO_15.out).2.2 x16_3 p517 q517
                obtain rfl : ad513 = ad517 := (by injection e517)
                replace p517 := eq_true p517
                replace q517 := eq_true q517
                refine start_ (n := 11) (S := fun w' => w'.cell? ⟨gb484, 0, none⟩ = some (.slice Ao15 t476.length co15) ∧ w'.cell? ⟨gb484, 1, none⟩ = some (.slice Ao18 t479.length co18) ∧ w'.cell? ⟨gb484, 2, none⟩ = some (.int .i64 t482) ∧ w'.cell? (ad513.add (x16_3).toNat) = some (.string (rdOf ByteArray.empty t510 x16_3))) (ds := []) #[false, false, false, false, false, false, false, false, false, false, false] (by kernel_rfl) rfl rfl ⟨(blk_cell BK484.out 0).trans rfl, (blk_cell BK484.out 1).trans rfl, (blk_cell BK484.out 2).trans rfl, hx517_0⟩ (fun hHeld => ?_); refine with_tabW laws_FnPuts.tab21 laws_FnPuts.bits21 (fun HT_ HW_ => ?_)
                generalize w95.drew = w96 at HO_15 HO_476000 HO_476001 HO_485000 HO_485001 HO_494000 HO_494001 HO_506000 HO_506001 BK475 BK484 BK493 BK505 HB hx517_0 hHeld ⊢
                refine xP1 (i := 1) (N := some 121) #[false, true, false, false, false, false, false, false, false, false, false] (any_of HT_.out (by kernel_rfl)) (h := ?_)
                refine xP1 (i := 2) (N := some 122) #[false, true, true, false, false, false, false, false, false, false, false] (any_of HT_.out (by kernel_rfl)) (h := ?_)
                refine xP1 (i := 3) (N := some 123) #[false, true, true, true, false, false, false, false, false, false, false] (any_of HT_.out (by kernel_rfl)) (h := ?_)
                refine take_ (i := 0) (N := some 120) (v := ?_) (a' := ?_) #[true, true, true, true, false, false, false, false, false, false, false] rfl rfl (take_ofW HT_.out HW_.out (by kernel_rfl)) (fun _ _ _ h => h) (Or.inl ⟨by rfl, ?_⟩) hHeld ?_ ?_
                rotate_left
                ·rintro w' ⟨s0, s1, s2, s3⟩
                 go_simp
                 with_reducible rfl
                rotate_left
                ·simp only [Act.put, List.setIfInBounds_toArray, List.set_cons_zero, List.set_cons_succ, i64_w, i32_w]
                 rfl
                refine take_ (i := 4) (N := some 124) (v := ?_) (a' := ?_) #[true, true, true, true, true, false, false, false, false, false, false] rfl rfl (take_ofW HT_.out HW_.out (by kernel_rfl)) (fun _ _ _ h => h) (Or.inl ⟨by rfl, ?_⟩) hHeld ?_ ?_
                rotate_left
                ·rintro w' ⟨s0, s1, s2, s3⟩
                 go_simp
                 with_reducible rfl
                rotate_left
                ·simp only [Act.put, List.setIfInBounds_toArray, List.set_cons_zero, List.set_cons_succ, i64_w, i32_w]
                 rfl
                refine one_ (i := 5) (N := some 125) #[true, true, true, true, true, true, false, false, false, false, false] rfl rfl (one_of HT_.out (by kernel_rfl)) (by decide) (fun K hK => ?_)
                refine xG1 23 Try.func23 #[.agg #[.slice Ao15 t476.length co15, .slice Ao18 t479.length co18, .int .i64 t482], .string (rdOf ByteArray.empty t510 x16_3)] (h := ?_)
                with_reducible refine (impl_SeekKey.calls k3 _ _ t476 _ _ t479 t482 (rdOf ByteArray.empty t510 x16_3) t518 t519 _ ?side1 ?side2 ?side3 ?side4 A82.out).mono ?_
                (case side1 => exact xC ((rr HO_485000.out).2.2))
                (case side2 => exact (rr HO_485000.out).2.1)
                (case side3 => exact xC ((rr HO_485001.out).2.2))
                (case side4 => exact (rr HO_485001.out).2.1)
                rintro e w97 ⟨rfl, hb⟩
                have HS3_ := (hb.cell (World.block_lt_of_cell? _ _ (hHeld.2.2.2))).trans (hHeld.2.2.2)
                refine ⟨_, rfl, ?_⟩
                replace HO_15 := am (rb (xR HO_15.out) hb)
                replace HO_476000 := am (rb (xR HO_476000.out) hb)
                replace HO_476001 := am (rb (xR HO_476001.out) hb)
                replace HO_485000 := am (rb (xR HO_485000.out) hb)
                replace HO_485001 := am (rb (xR HO_485001.out) hb)
                replace HO_494000 := am (rb (xR HO_494000.out) hb)
                replace HO_494001 := am (rb (xR HO_494001.out) hb)
                replace HO_506000 := am (rb (xR HO_506000.out) hb)
                replace HO_506001 := am (rb (xR HO_506001.out) hb)
                replace BK475 := am (bb (xB BK475.out) hb)
                replace BK484 := am (bb (xB BK484.out) hb)
                replace BK493 := am (bb (xB BK493.out) hb)
                replace BK505 := am (bb (xB BK505.out) hb)
                replace HB := am (bs (xW HB.out) hb)
                (try clear hb)
                refine hK.out _ _ ⟨(blk_cell BK484.out 0).trans rfl, (blk_cell BK484.out 1).trans rfl, (blk_cell BK484.out 2).trans rfl, HS3_⟩ (fun hHeld => ?_)
                clear hK K
                refine xN1 (h := ?_)
                refine xP1 (i := 6) (N := some 119) #[true, true, true, true, true, true, true, false, false, false, false] (any_of HT_.out (by kernel_rfl)) (h := ?_)
                refine xP1 (i := 7) (N := some 126) #[true, true, true, true, true, true, true, true, false, false, false] (any_of HT_.out (by kernel_rfl)) (h := ?_)
                refine xP1 (i := 8) (N := some 127) #[true, true, true, true, true, true, true, true, true, false, false] (any_of HT_.out (by kernel_rfl)) (h := ?_)
                refine xP1 (i := 9) (N := some 19) #[true, true, true, true, true, true, true, true, true, true, false] (any_of HT_.out (by kernel_rfl)) (h := ?_)
                refine xP1 (i := 10) (N := some 20) #[true, true, true, true, true, true, true, true, true, true, true] (any_of HT_.out (by kernel_rfl)) (h := ?_)
                refine done_ (done_of HT_.out (by kernel_rfl)) ?_
                try go_wp2
                replace HO_15 := am (Kd.R_drew HO_15.out)
                replace HO_476000 := am (Kd.R_drew HO_476000.out)
                replace HO_476001 := am (Kd.R_drew HO_476001.out)
                replace HO_485000 := am (Kd.R_drew HO_485000.out)
                replace HO_485001 := am (Kd.R_drew HO_485001.out)
                replace HO_494000 := am (Kd.R_drew HO_494000.out)
                replace HO_494001 := am (Kd.R_drew HO_494001.out)
                replace HO_506000 := am (Kd.R_drew HO_506000.out)
                replace HO_506001 := am (Kd.R_drew HO_506001.out)
                replace BK475 := am (blk_drew BK475.out)
                replace BK484 := am (blk_drew BK484.out)
                replace BK493 := am (blk_drew BK493.out)
                replace BK505 := am (blk_drew BK505.out)
                replace HB := am (below_drew1 HB.out)
                have p520 : 0 ≤ (x16_3 : Int) := of_decide_eq_true (by assumption)
                have q520 : x16_3 < (t510.length : Int) := of_decide_eq_true (by assumption)
                obtain ⟨ad520, e520, hx520_0⟩ := Kd.at_string (rr HO_15.out).2.2 x16_3 p520 q520
                obtain rfl : ad513 = ad520 := (by injection e520)
                replace p520 := eq_true p520
                replace q520 := eq_true q520
                refine start_ (n := 11) (S := fun w' => w'.cell? ⟨gb505, 0, none⟩ = some (.slice Ao46 t497.length co46) ∧ w'.cell? ⟨gb505, 1, none⟩ = some (.slice Ao51 t500.length co51) ∧ w'.cell? ⟨gb505, 2, none⟩ = some (.int .i64 t503) ∧ w'.cell? (ad513.add (x16_3).toNat) = some (.string (rdOf ByteArray.empty t510 x16_3))) (ds := []) #[false, false, false, false, false, false, false, false, false, false, false] (by kernel_rfl) rfl rfl ⟨(blk_cell BK505.out 0).trans rfl, (blk_cell BK505.out 1).trans rfl, (blk_cell BK505.out 2).trans rfl, hx520_0⟩ (fun hHeld => ?_); refine with_tabW laws_FnPuts.tab22 laws_FnPuts.bits22 (fun HT_ HW_ => ?_)
                generalize w97.drew = w98 at HO_15 HO_476000 HO_476001 HO_485000 HO_485001 HO_494000 HO_494001 HO_506000 HO_506001 BK475 BK484 BK493 BK505 HB hx520_0 hHeld ⊢
                refine xP1 (i := 1) (N := some 130) #[false, true, false, false, false, false, false, false, false, false, false] (any_of HT_.out (by kernel_rfl)) (h := ?_)
                refine xP1 (i := 2) (N := some 131) #[false, true, true, false, false, false, false, false, false, false, false] (any_of HT_.out (by kernel_rfl)) (h := ?_)
                refine xP1 (i := 3) (N := some 132) #[false, true, true, true, false, false, false, false, false, false, false] (any_of HT_.out (by kernel_rfl)) (h := ?_)
                refine take_ (i := 0) (N := some 129) (v := ?_) (a' := ?_) #[true, true, true, true, false, false, false, false, false, false, false] rfl rfl (take_ofW HT_.out HW_.out (by kernel_rfl)) (fun _ _ _ h => h) (Or.inl ⟨by rfl, ?_⟩) hHeld ?_ ?_
                rotate_left
                ·rintro w' ⟨s0, s1, s2, s3⟩
                 go_simp
                 with_reducible rfl
                rotate_left
                ·simp only [Act.put, List.setIfInBounds_toArray, List.set_cons_zero, List.set_cons_succ, i64_w, i32_w]
                 rfl
                refine take_ (i := 4) (N := some 133) (v := ?_) (a' := ?_) #[true, true, true, true, true, false, false, false, false, false, false] rfl rfl (take_ofW HT_.out HW_.out (by kernel_rfl)) (fun _ _ _ h => h) (Or.inl ⟨by rfl, ?_⟩) hHeld ?_ ?_
                rotate_left
                ·rintro w' ⟨s0, s1, s2, s3⟩
                 go_simp
                 with_reducible rfl
                rotate_left
                ·simp only [Act.put, List.setIfInBounds_toArray, List.set_cons_zero, List.set_cons_succ, i64_w, i32_w]
                 rfl
                refine one_ (i := 5) (N := some 134) #[true, true, true, true, true, true, false, false, false, false, false] rfl rfl (one_of HT_.out (by kernel_rfl)) (by decide) (fun K hK => ?_)
                refine xG1 23 Try.func23 #[.agg #[.slice Ao46 t497.length co46, .slice Ao51 t500.length co51, .int .i64 t503], .string (rdOf ByteArray.empty t510 x16_3)] (h := ?_)
                with_reducible refine (impl_SeekKey.calls k3 _ _ t497 _ _ t500 t503 (rdOf ByteArray.empty t510 x16_3) t521 t522 _ ?side1 ?side2 ?side3 ?side4 A83.out).mono ?_
                (case side1 => exact xC ((rr HO_506000.out).2.2))
                (case side2 => exact (rr HO_506000.out).2.1)
                (case side3 => exact xC ((rr HO_506001.out).2.2))
                (case side4 => exact (rr HO_506001.out).2.1)
                rintro e w99 ⟨rfl, hb⟩
                have HS3_ := (hb.cell (World.block_lt_of_cell? _ _ (hHeld.2.2.2))).trans (hHeld.2.2.2)
                refine ⟨_, rfl, ?_⟩
                replace HO_15 := am (rb (xR HO_15.out) hb)
                replace HO_476000 := am (rb (xR HO_476000.out) hb)
                replace HO_476001 := am (rb (xR HO_476001.out) hb)
                replace HO_485000 := am (rb (xR HO_485000.out) hb)
                replace HO_485001 := am (rb (xR HO_485001.out) hb)
                replace HO_494000 := am (rb (xR HO_494000.out) hb)
                replace HO_494001 := am (rb (xR HO_494001.out) hb)
                replace HO_506000 := am (rb (xR HO_506000.out) hb)
                replace HO_506001 := am (rb (xR HO_506001.out) hb)
                replace BK475 := am (bb (xB BK475.out) hb)
                replace BK484 := am (bb (xB BK484.out) hb)
                replace BK493 := am (bb (xB BK493.out) hb)
                replace BK505 := am (bb (xB BK505.out) hb)
                replace HB := am (bs (xW HB.out) hb)
                (try clear hb)
                refine hK.out _ _ ⟨(blk_cell BK505.out 0).trans rfl, (blk_cell BK505.out 1).trans rfl, (blk_cell BK505.out 2).trans rfl, HS3_⟩ (fun hHeld => ?_)
                clear hK K
                refine xN1 (h := ?_)
                refine xP1 (i := 6) (N := some 128) #[true, true, true, true, true, true, true, false, false, false, false] (any_of HT_.out (by kernel_rfl)) (h := ?_)
                refine xP1 (i := 7) (N := some 135) #[true, true, true, true, true, true, true, true, false, false, false] (any_of HT_.out (by kernel_rfl)) (h := ?_)
                refine xP1 (i := 8) (N := some 136) #[true, true, true, true, true, true, true, true, true, false, false] (any_of HT_.out (by kernel_rfl)) (h := ?_)
                refine xP1 (i := 9) (N := some 21) #[true, true, true, true, true, true, true, true, true, true, false] (any_of HT_.out (by kernel_rfl)) (h := ?_)
                refine xP1 (i := 10) (N := some 22) #[true, true, true, true, true, true, true, true, true, true, true] (any_of HT_.out (by kernel_rfl)) (h := ?_)
                refine done_ (done_of HT_.out (by kernel_rfl)) ?_
                try go_wp2
                go_ret
                exact ⟨xV, xW HB.out⟩
               ·rw [if_neg c92] at H
                have c92b0 : (t516 != t522) = false := by simpa using c92
                (try (have c92b1 : decide (t516 = t522) = true := by simpa using c92))
                (try (have c92b2 : (t516 == t522) = true := by simpa using c92))
                clear c92
                by_cases c100 : t515 = t518
                ·rw [if_pos c100] at H
                 have c100b0 : (t515 == t518) = true := beq_iff_eq.mpr c100
                 have c100b1 : (t515 != t518) = false := bne_eq_false_iff_eq.mpr c100
                 clear c100
                 by_cases c101 : t515 = t521
                 ·rw [if_pos c101] at H
                  have c101b0 : (t515 == t521) = true := beq_iff_eq.mpr c101
                  have c101b1 : (t515 != t521) = false := bne_eq_false_iff_eq.mpr c101
                  clear c101
                  have H' := am H
                  clear H
                  obtain ⟨Ao102, co102, eo102⟩ := Kd.R_slice HO_15.out
                  subst eo102
                  have p513 : 0 ≤ (x16_3 : Int) := of_decide_eq_true (by assumption)
                  have q513 : x16_3 < (t510.length : Int) := of_decide_eq_true (by assumption)
                  obtain ⟨ad513, e513, hx513_0⟩ := Kd.at_string (rr HO_15.out).2.2 x16_3 p513 q513
                  cases e513
                  replace p513 := eq_true p513
                  replace q513 := eq_true q513
                  try go_wp2
                  replace HO_15 := am (Kd.R_drew HO_15.out)
                  replace HO_476000 := am (Kd.R_drew HO_476000.out)
                  replace HO_476001 := am (Kd.R_drew HO_476001.out)
                  replace HO_485000 := am (Kd.R_drew HO_485000.out)
                  replace HO_485001 := am (Kd.R_drew HO_485001.out)
                  replace HO_494000 := am (Kd.R_drew HO_494000.out)
                  replace HO_494001 := am (Kd.R_drew HO_494001.out)
                  replace HO_506000 := am (Kd.R_drew HO_506000.out)
                  replace HO_506001 := am (Kd.R_drew HO_506001.out)
                  replace BK475 := am (blk_drew BK475.out)
                  replace BK484 := am (blk_drew BK484.out)
                  replace BK493 := am (blk_drew BK493.out)
                  replace BK505 := am (blk_drew BK505.out)
                  replace HB := am (below_drew1 HB.out)
                  have p514 : 0 ≤ (x16_3 : Int) := of_decide_eq_true (by assumption)
                  have q514 : x16_3 < (t510.length : Int) := of_decide_eq_true (by assumption)
                  obtain ⟨ad514, e514, hx514_0⟩ := Kd.at_string (rr HO_15.out).2.2 x16_3 p514 q514
                  obtain rfl : ad513 = ad514 := (by injection e514)
                  replace p514 := eq_true p514
                  replace q514 := eq_true q514
                  refine start_ (n := 11) (S := fun w' => w'.cell? ⟨gb475, 0, none⟩ = some (.slice Ao10 t467.length co10) ∧ w'.cell? ⟨gb475, 1, none⟩ = some (.slice Ao12 t470.length co12) ∧ w'.cell? ⟨gb475, 2, none⟩ = some (.int .i64 t473) ∧ w'.cell? (ad513.add (x16_3).toNat) = some (.string (rdOf ByteArray.empty t510 x16_3))) (ds := []) #[false, false, false, false, false, false, false, false, false, false, false] (by kernel_rfl) rfl rfl ⟨(blk_cell BK475.out 0).trans rfl, (blk_cell BK475.out 1).trans rfl, (blk_cell BK475.out 2).trans rfl, hx514_0⟩ (fun hHeld => ?_); refine with_tabW laws_FnPuts.tab20 laws_FnPuts.bits20 (fun HT_ HW_ => ?_)
                  generalize wr.drew = w103 at HO_15 HO_476000 HO_476001 HO_485000 HO_485001 HO_494000 HO_494001 HO_506000 HO_506001 BK475 BK484 BK493 BK505 HB hx514_0 hHeld ⊢
                  refine xP1 (i := 1) (N := some 112) #[false, true, false, false, false, false, false, false, false, false, false] (any_of HT_.out (by kernel_rfl)) (h := ?_)
                  refine xP1 (i := 2) (N := some 113) #[false, true, true, false, false, false, false, false, false, false, false] (any_of HT_.out (by kernel_rfl)) (h := ?_)
                  refine xP1 (i := 3) (N := some 114) #[false, true, true, true, false, false, false, false, false, false, false] (any_of HT_.out (by kernel_rfl)) (h := ?_)
                  refine take_ (i := 0) (N := some 111) (v := ?_) (a' := ?_) #[true, true, true, true, false, false, false, false, false, false, false] rfl rfl (take_ofW HT_.out HW_.out (by kernel_rfl)) (fun _ _ _ h => h) (Or.inl ⟨by rfl, ?_⟩) hHeld ?_ ?_
                  rotate_left
                  ·rintro w' ⟨s0, s1, s2, s3⟩
                   go_simp
                   with_reducible rfl
                  rotate_left
                  ·simp only [Act.put, List.setIfInBounds_toArray, List.set_cons_zero, List.set_cons_succ, i64_w, i32_w]
                   rfl
                  refine take_ (i := 4) (N := some 115) (v := ?_) (a' := ?_) #[true, true, true, true, true, false, false, false, false, false, false] rfl rfl (take_ofW HT_.out HW_.out (by kernel_rfl)) (fun _ _ _ h => h) (Or.inl ⟨by rfl, ?_⟩) hHeld ?_ ?_
                  rotate_left
                  ·rintro w' ⟨s0, s1, s2, s3⟩
                   go_simp
                   with_reducible rfl
                  rotate_left
                  ·simp only [Act.put, List.setIfInBounds_toArray, List.set_cons_zero, List.set_cons_succ, i64_w, i32_w]
                   rfl
                  refine one_ (i := 5) (N := some 116) #[true, true, true, true, true, true, false, false, false, false, false] rfl rfl (one_of HT_.out (by kernel_rfl)) (by decide) (fun K hK => ?_)
                  refine xG1 22 Try.func22 #[.agg #[.slice Ao10 t467.length co10, .slice Ao12 t470.length co12, .int .i64 t473], .string (rdOf ByteArray.empty t510 x16_3)] (h := ?_)
                  with_reducible refine (spec_SeekKey.calls k3 _ _ t467 _ _ t470 t473 (rdOf ByteArray.empty t510 x16_3) t515 t516 _ ?side1 ?side2 ?side3 ?side4 A81.out).mono ?_
                  (case side1 => exact xC ((rr HO_476000.out).2.2))
                  (case side2 => exact (rr HO_476000.out).2.1)
                  (case side3 => exact xC ((rr HO_476001.out).2.2))
                  (case side4 => exact (rr HO_476001.out).2.1)
                  rintro e w104 ⟨rfl, hb⟩
                  have HS3_ := (hb.cell (World.block_lt_of_cell? _ _ (hHeld.2.2.2))).trans (hHeld.2.2.2)
                  refine ⟨_, rfl, ?_⟩
                  replace HO_15 := am (rb (xR HO_15.out) hb)
                  replace HO_476000 := am (rb (xR HO_476000.out) hb)
                  replace HO_476001 := am (rb (xR HO_476001.out) hb)
                  replace HO_485000 := am (rb (xR HO_485000.out) hb)
                  replace HO_485001 := am (rb (xR HO_485001.out) hb)
                  replace HO_494000 := am (rb (xR HO_494000.out) hb)
                  replace HO_494001 := am (rb (xR HO_494001.out) hb)
                  replace HO_506000 := am (rb (xR HO_506000.out) hb)
                  replace HO_506001 := am (rb (xR HO_506001.out) hb)
                  replace BK475 := am (bb (xB BK475.out) hb)
                  replace BK484 := am (bb (xB BK484.out) hb)
                  replace BK493 := am (bb (xB BK493.out) hb)
                  replace BK505 := am (bb (xB BK505.out) hb)
                  replace HB := am (bs (xW HB.out) hb)
                  (try clear hb)
                  refine hK.out _ _ ⟨(blk_cell BK475.out 0).trans rfl, (blk_cell BK475.out 1).trans rfl, (blk_cell BK475.out 2).trans rfl, HS3_⟩ (fun hHeld => ?_)
                  clear hK K
                  refine xN1 (h := ?_)
                  refine xP1 (i := 6) (N := some 110) #[true, true, true, true, true, true, true, false, false, false, false] (any_of HT_.out (by kernel_rfl)) (h := ?_)
                  refine xP1 (i := 7) (N := some 117) #[true, true, true, true, true, true, true, true, false, false, false] (any_of HT_.out (by kernel_rfl)) (h := ?_)
                  refine xP1 (i := 8) (N := some 118) #[true, true, true, true, true, true, true, true, true, false, false] (any_of HT_.out (by kernel_rfl)) (h := ?_)
                  refine xP1 (i := 9) (N := some 17) #[true, true, true, true, true, true, true, true, true, true, false] (any_of HT_.out (by kernel_rfl)) (h := ?_)
                  refine xP1 (i := 10) (N := some 18) #[true, true, true, true, true, true, true, true, true, true, true] (any_of HT_.out (by kernel_rfl)) (h := ?_)
                  refine done_ (done_of HT_.out (by kernel_rfl)) ?_
                  try go_wp2
                  replace HO_15 := am (Kd.R_drew HO_15.out)
                  replace HO_476000 := am (Kd.R_drew HO_476000.out)
                  replace HO_476001 := am (Kd.R_drew HO_476001.out)
                  replace HO_485000 := am (Kd.R_drew HO_485000.out)
                  replace HO_485001 := am (Kd.R_drew HO_485001.out)
                  replace HO_494000 := am (Kd.R_drew HO_494000.out)
                  replace HO_494001 := am (Kd.R_drew HO_494001.out)
                  replace HO_506000 := am (Kd.R_drew HO_506000.out)
                  replace HO_506001 := am (Kd.R_drew HO_506001.out)
                  replace BK475 := am (blk_drew BK475.out)
                  replace BK484 := am (blk_drew BK484.out)
                  replace BK493 := am (blk_drew BK493.out)
                  replace BK505 := am (blk_drew BK505.out)
                  replace HB := am (below_drew1 HB.out)
                  have p517 : 0 ≤ (x16_3 : Int) := of_decide_eq_true (by assumption)
                  have q517 : x16_3 < (t510.length : Int) := of_decide_eq_true (by assumption)
                  obtain ⟨ad517, e517, hx517_0⟩ := Kd.at_string (rr HO_15.out).2.2 x16_3 p517 q517
                  obtain rfl : ad513 = ad517 := (by injection e517)
                  replace p517 := eq_true p517
                  replace q517 := eq_true q517
                  refine start_ (n := 11) (S := fun w' => w'.cell? ⟨gb484, 0, none⟩ = some (.slice Ao15 t476.length co15) ∧ w'.cell? ⟨gb484, 1, none⟩ = some (.slice Ao18 t479.length co18) ∧ w'.cell? ⟨gb484, 2, none⟩ = some (.int .i64 t482) ∧ w'.cell? (ad513.add (x16_3).toNat) = some (.string (rdOf ByteArray.empty t510 x16_3))) (ds := []) #[false, false, false, false, false, false, false, false, false, false, false] (by kernel_rfl) rfl rfl ⟨(blk_cell BK484.out 0).trans rfl, (blk_cell BK484.out 1).trans rfl, (blk_cell BK484.out 2).trans rfl, hx517_0⟩ (fun hHeld => ?_); refine with_tabW laws_FnPuts.tab21 laws_FnPuts.bits21 (fun HT_ HW_ => ?_)
                  generalize w104.drew = w105 at HO_15 HO_476000 HO_476001 HO_485000 HO_485001 HO_494000 HO_494001 HO_506000 HO_506001 BK475 BK484 BK493 BK505 HB hx517_0 hHeld ⊢
                  refine xP1 (i := 1) (N := some 121) #[false, true, false, false, false, false, false, false, false, false, false] (any_of HT_.out (by kernel_rfl)) (h := ?_)
                  refine xP1 (i := 2) (N := some 122) #[false, true, true, false, false, false, false, false, false, false, false] (any_of HT_.out (by kernel_rfl)) (h := ?_)
                  refine xP1 (i := 3) (N := some 123) #[false, true, true, true, false, false, false, false, false, false, false] (any_of HT_.out (by kernel_rfl)) (h := ?_)
                  refine take_ (i := 0) (N := some 120) (v := ?_) (a' := ?_) #[true, true, true, true, false, false, false, false, false, false, false] rfl rfl (take_ofW HT_.out HW_.out (by kernel_rfl)) (fun _ _ _ h => h) (Or.inl ⟨by rfl, ?_⟩) hHeld ?_ ?_
                  rotate_left
                  ·rintro w' ⟨s0, s1, s2, s3⟩
                   go_simp
                   with_reducible rfl
                  rotate_left
                  ·simp only [Act.put, List.setIfInBounds_toArray, List.set_cons_zero, List.set_cons_succ, i64_w, i32_w]
                   rfl
                  refine take_ (i := 4) (N := some 124) (v := ?_) (a' := ?_) #[true, true, true, true, true, false, false, false, false, false, false] rfl rfl (take_ofW HT_.out HW_.out (by kernel_rfl)) (fun _ _ _ h => h) (Or.inl ⟨by rfl, ?_⟩) hHeld ?_ ?_
                  rotate_left
                  ·rintro w' ⟨s0, s1, s2, s3⟩
                   go_simp
                   with_reducible rfl
                  rotate_left
                  ·simp only [Act.put, List.setIfInBounds_toArray, List.set_cons_zero, List.set_cons_succ, i64_w, i32_w]
                   rfl
                  refine one_ (i := 5) (N := some 125) #[true, true, true, true, true, true, false, false, false, false, false] rfl rfl (one_of HT_.out (by kernel_rfl)) (by decide) (fun K hK => ?_)
                  refine xG1 23 Try.func23 #[.agg #[.slice Ao15 t476.length co15, .slice Ao18 t479.length co18, .int .i64 t482], .string (rdOf ByteArray.empty t510 x16_3)] (h := ?_)
                  with_reducible refine (impl_SeekKey.calls k3 _ _ t476 _ _ t479 t482 (rdOf ByteArray.empty t510 x16_3) t518 t519 _ ?side1 ?side2 ?side3 ?side4 A82.out).mono ?_
                  (case side1 => exact xC ((rr HO_485000.out).2.2))
                  (case side2 => exact (rr HO_485000.out).2.1)
                  (case side3 => exact xC ((rr HO_485001.out).2.2))
                  (case side4 => exact (rr HO_485001.out).2.1)
                  rintro e w106 ⟨rfl, hb⟩
                  have HS3_ := (hb.cell (World.block_lt_of_cell? _ _ (hHeld.2.2.2))).trans (hHeld.2.2.2)
                  refine ⟨_, rfl, ?_⟩
                  replace HO_15 := am (rb (xR HO_15.out) hb)
                  replace HO_476000 := am (rb (xR HO_476000.out) hb)
                  replace HO_476001 := am (rb (xR HO_476001.out) hb)
                  replace HO_485000 := am (rb (xR HO_485000.out) hb)
                  replace HO_485001 := am (rb (xR HO_485001.out) hb)
                  replace HO_494000 := am (rb (xR HO_494000.out) hb)
                  replace HO_494001 := am (rb (xR HO_494001.out) hb)
                  replace HO_506000 := am (rb (xR HO_506000.out) hb)
                  replace HO_506001 := am (rb (xR HO_506001.out) hb)
                  replace BK475 := am (bb (xB BK475.out) hb)
                  replace BK484 := am (bb (xB BK484.out) hb)
                  replace BK493 := am (bb (xB BK493.out) hb)
                  replace BK505 := am (bb (xB BK505.out) hb)
                  replace HB := am (bs (xW HB.out) hb)
                  (try clear hb)
                  refine hK.out _ _ ⟨(blk_cell BK484.out 0).trans rfl, (blk_cell BK484.out 1).trans rfl, (blk_cell BK484.out 2).trans rfl, HS3_⟩ (fun hHeld => ?_)
                  clear hK K
                  refine xN1 (h := ?_)
                  refine xP1 (i := 6) (N := some 119) #[true, true, true, true, true, true, true, false, false, false, false] (any_of HT_.out (by kernel_rfl)) (h := ?_)
                  refine xP1 (i := 7) (N := some 126) #[true, true, true, true, true, true, true, true, false, false, false] (any_of HT_.out (by kernel_rfl)) (h := ?_)
                  refine xP1 (i := 8) (N := some 127) #[true, true, true, true, true, true, true, true, true, false, false] (any_of HT_.out (by kernel_rfl)) (h := ?_)
                  refine xP1 (i := 9) (N := some 19) #[true, true, true, true, true, true, true, true, true, true, false] (any_of HT_.out (by kernel_rfl)) (h := ?_)
                  refine xP1 (i := 10) (N := some 20) #[true, true, true, true, true, true, true, true, true, true, true] (any_of HT_.out (by kernel_rfl)) (h := ?_)
                  refine done_ (done_of HT_.out (by kernel_rfl)) ?_
                  try go_wp2
                  replace HO_15 := am (Kd.R_drew HO_15.out)
                  replace HO_476000 := am (Kd.R_drew HO_476000.out)
                  replace HO_476001 := am (Kd.R_drew HO_476001.out)
                  replace HO_485000 := am (Kd.R_drew HO_485000.out)
                  replace HO_485001 := am (Kd.R_drew HO_485001.out)
                  replace HO_494000 := am (Kd.R_drew HO_494000.out)
                  replace HO_494001 := am (Kd.R_drew HO_494001.out)
                  replace HO_506000 := am (Kd.R_drew HO_506000.out)
                  replace HO_506001 := am (Kd.R_drew HO_506001.out)
                  replace BK475 := am (blk_drew BK475.out)
                  replace BK484 := am (blk_drew BK484.out)
                  replace BK493 := am (blk_drew BK493.out)
                  replace BK505 := am (blk_drew BK505.out)
                  replace HB := am (below_drew1 HB.out)
                  have p520 : 0 ≤ (x16_3 : Int) := of_decide_eq_true (by assumption)
                  have q520 : x16_3 < (t510.length : Int) := of_decide_eq_true (by assumption)
                  obtain ⟨ad520, e520, hx520_0⟩ := Kd.at_string (rr HO_15.out).2.2 x16_3 p520 q520
                  obtain rfl : ad513 = ad520 := (by injection e520)
                  replace p520 := eq_true p520
                  replace q520 := eq_true q520
                  refine start_ (n := 11) (S := fun w' => w'.cell? ⟨gb505, 0, none⟩ = some (.slice Ao46 t497.length co46) ∧ w'.cell? ⟨gb505, 1, none⟩ = some (.slice Ao51 t500.length co51) ∧ w'.cell? ⟨gb505, 2, none⟩ = some (.int .i64 t503) ∧ w'.cell? (ad513.add (x16_3).toNat) = some (.string (rdOf ByteArray.empty t510 x16_3))) (ds := []) #[false, false, false, false, false, false, false, false, false, false, false] (by kernel_rfl) rfl rfl ⟨(blk_cell BK505.out 0).trans rfl, (blk_cell BK505.out 1).trans rfl, (blk_cell BK505.out 2).trans rfl, hx520_0⟩ (fun hHeld => ?_); refine with_tabW laws_FnPuts.tab22 laws_FnPuts.bits22 (fun HT_ HW_ => ?_)
                  generalize w106.drew = w107 at HO_15 HO_476000 HO_476001 HO_485000 HO_485001 HO_494000 HO_494001 HO_506000 HO_506001 BK475 BK484 BK493 BK505 HB hx520_0 hHeld ⊢
                  refine xP1 (i := 1) (N := some 130) #[false, true, false, false, false, false, false, false, false, false, false] (any_of HT_.out (by kernel_rfl)) (h := ?_)
                  refine xP1 (i := 2) (N := some 131) #[false, true, true, false, false, false, false, false, false, false, false] (any_of HT_.out (by kernel_rfl)) (h := ?_)
                  refine xP1 (i := 3) (N := some 132) #[false, true, true, true, false, false, false, false, false, false, false] (any_of HT_.out (by kernel_rfl)) (h := ?_)
                  refine take_ (i := 0) (N := some 129) (v := ?_) (a' := ?_) #[true, true, true, true, false, false, false, false, false, false, false] rfl rfl (take_ofW HT_.out HW_.out (by kernel_rfl)) (fun _ _ _ h => h) (Or.inl ⟨by rfl, ?_⟩) hHeld ?_ ?_
                  rotate_left
                  ·rintro w' ⟨s0, s1, s2, s3⟩
                   go_simp
                   with_reducible rfl
                  rotate_left
                  ·simp only [Act.put, List.setIfInBounds_toArray, List.set_cons_zero, List.set_cons_succ, i64_w, i32_w]
                   rfl
                  refine take_ (i := 4) (N := some 133) (v := ?_) (a' := ?_) #[true, true, true, true, true, false, false, false, false, false, false] rfl rfl (take_ofW HT_.out HW_.out (by kernel_rfl)) (fun _ _ _ h => h) (Or.inl ⟨by rfl, ?_⟩) hHeld ?_ ?_
                  rotate_left
                  ·rintro w' ⟨s0, s1, s2, s3⟩
                   go_simp
                   with_reducible rfl
                  rotate_left
                  ·simp only [Act.put, List.setIfInBounds_toArray, List.set_cons_zero, List.set_cons_succ, i64_w, i32_w]
                   rfl
                  refine one_ (i := 5) (N := some 134) #[true, true, true, true, true, true, false, false, false, false, false] rfl rfl (one_of HT_.out (by kernel_rfl)) (by decide) (fun K hK => ?_)
                  refine xG1 23 Try.func23 #[.agg #[.slice Ao46 t497.length co46, .slice Ao51 t500.length co51, .int .i64 t503], .string (rdOf ByteArray.empty t510 x16_3)] (h := ?_)
                  with_reducible refine (impl_SeekKey.calls k3 _ _ t497 _ _ t500 t503 (rdOf ByteArray.empty t510 x16_3) t521 t522 _ ?side1 ?side2 ?side3 ?side4 A83.out).mono ?_
                  (case side1 => exact xC ((rr HO_506000.out).2.2))
                  (case side2 => exact (rr HO_506000.out).2.1)
                  (case side3 => exact xC ((rr HO_506001.out).2.2))
                  (case side4 => exact (rr HO_506001.out).2.1)
                  rintro e w108 ⟨rfl, hb⟩
                  have HS3_ := (hb.cell (World.block_lt_of_cell? _ _ (hHeld.2.2.2))).trans (hHeld.2.2.2)
                  refine ⟨_, rfl, ?_⟩
                  replace HO_15 := am (rb (xR HO_15.out) hb)
                  replace HO_476000 := am (rb (xR HO_476000.out) hb)
                  replace HO_476001 := am (rb (xR HO_476001.out) hb)
                  replace HO_485000 := am (rb (xR HO_485000.out) hb)
                  replace HO_485001 := am (rb (xR HO_485001.out) hb)
                  replace HO_494000 := am (rb (xR HO_494000.out) hb)
                  replace HO_494001 := am (rb (xR HO_494001.out) hb)
                  replace HO_506000 := am (rb (xR HO_506000.out) hb)
                  replace HO_506001 := am (rb (xR HO_506001.out) hb)
                  replace BK475 := am (bb (xB BK475.out) hb)
                  replace BK484 := am (bb (xB BK484.out) hb)
                  replace BK493 := am (bb (xB BK493.out) hb)
                  replace BK505 := am (bb (xB BK505.out) hb)
                  replace HB := am (bs (xW HB.out) hb)
                  (try clear hb)
                  refine hK.out _ _ ⟨(blk_cell BK505.out 0).trans rfl, (blk_cell BK505.out 1).trans rfl, (blk_cell BK505.out 2).trans rfl, HS3_⟩ (fun hHeld => ?_)
                  clear hK K
                  refine xN1 (h := ?_)
                  refine xP1 (i := 6) (N := some 128) #[true, true, true, true, true, true, true, false, false, false, false] (any_of HT_.out (by kernel_rfl)) (h := ?_)
                  refine xP1 (i := 7) (N := some 135) #[true, true, true, true, true, true, true, true, false, false, false] (any_of HT_.out (by kernel_rfl)) (h := ?_)
                  refine xP1 (i := 8) (N := some 136) #[true, true, true, true, true, true, true, true, true, false, false] (any_of HT_.out (by kernel_rfl)) (h := ?_)
                  refine xP1 (i := 9) (N := some 21) #[true, true, true, true, true, true, true, true, true, true, false] (any_of HT_.out (by kernel_rfl)) (h := ?_)
                  refine xP1 (i := 10) (N := some 22) #[true, true, true, true, true, true, true, true, true, true, true] (any_of HT_.out (by kernel_rfl)) (h := ?_)
                  refine done_ (done_of HT_.out (by kernel_rfl)) ?_
                  try go_wp2
                  go_roundg k3
                  case measure => have := HJ6.out; have := HJ37.out; have := HK3.out; omega
                  case rel => exact ⟨(wrap64 (x16_3 + 1)), (xQ), H', ⟨by have := HJ6.out; have := HJ37.out; have := HK3.out; omega⟩, ⟨xR HO_15.out⟩, ⟨xR HO_476000.out⟩, ⟨xR HO_476001.out⟩, ⟨xR HO_485000.out⟩, ⟨xR HO_485001.out⟩, ⟨xR HO_494000.out⟩, ⟨xR HO_494001.out⟩, ⟨xR HO_506000.out⟩, ⟨xR HO_506001.out⟩, ⟨xB BK475.out⟩, ⟨xB BK484.out⟩, ⟨xB BK493.out⟩, ⟨xB BK505.out⟩, ⟨xW HB.out⟩⟩
                 ·rw [if_neg c101] at H
                  have c101b0 : (t515 == t521) = false := beq_eq_false_iff_ne.mpr c101
                  have c101b1 : (t515 != t521) = true := bne_iff_ne.mpr c101
                  obtain rfl := Option.some.inj H
                  obtain ⟨Ao109, co109, eo109⟩ := Kd.R_slice HO_15.out
                  subst eo109
                  have p513 : 0 ≤ (x16_3 : Int) := of_decide_eq_true (by assumption)
                  have q513 : x16_3 < (t510.length : Int) := of_decide_eq_true (by assumption)
                  obtain ⟨ad513, e513, hx513_0⟩ := Kd.at_string (rr HO_15.out).2.2 x16_3 p513 q513
                  cases e513
                  replace p513 := eq_true p513
                  replace q513 := eq_true q513
                  try go_wp2
                  replace HO_15 := am (Kd.R_drew HO_15.out)
                  replace HO_476000 := am (Kd.R_drew HO_476000.out)
                  replace HO_476001 := am (Kd.R_drew HO_476001.out)
                  replace HO_485000 := am (Kd.R_drew HO_485000.out)
                  replace HO_485001 := am (Kd.R_drew HO_485001.out)
                  replace HO_494000 := am (Kd.R_drew HO_494000.out)
                  replace HO_494001 := am (Kd.R_drew HO_494001.out)
                  replace HO_506000 := am (Kd.R_drew HO_506000.out)
                  replace HO_506001 := am (Kd.R_drew HO_506001.out)
                  replace BK475 := am (blk_drew BK475.out)
                  replace BK484 := am (blk_drew BK484.out)
                  replace BK493 := am (blk_drew BK493.out)
                  replace BK505 := am (blk_drew BK505.out)
                  replace HB := am (below_drew1 HB.out)
                  have p514 : 0 ≤ (x16_3 : Int) := of_decide_eq_true (by assumption)
                  have q514 : x16_3 < (t510.length : Int) := of_decide_eq_true (by assumption)
                  obtain ⟨ad514, e514, hx514_0⟩ := Kd.at_string (rr HO_15.out).2.2 x16_3 p514 q514
                  obtain rfl : ad513 = ad514 := (by injection e514)
                  replace p514 := eq_true p514
                  replace q514 := eq_true q514
                  refine start_ (n := 11) (S := fun w' => w'.cell? ⟨gb475, 0, none⟩ = some (.slice Ao10 t467.length co10) ∧ w'.cell? ⟨gb475, 1, none⟩ = some (.slice Ao12 t470.length co12) ∧ w'.cell? ⟨gb475, 2, none⟩ = some (.int .i64 t473) ∧ w'.cell? (ad513.add (x16_3).toNat) = some (.string (rdOf ByteArray.empty t510 x16_3))) (ds := []) #[false, false, false, false, false, false, false, false, false, false, false] (by kernel_rfl) rfl rfl ⟨(blk_cell BK475.out 0).trans rfl, (blk_cell BK475.out 1).trans rfl, (blk_cell BK475.out 2).trans rfl, hx514_0⟩ (fun hHeld => ?_); refine with_tabW laws_FnPuts.tab20 laws_FnPuts.bits20 (fun HT_ HW_ => ?_)
                  generalize wr.drew = w110 at HO_15 HO_476000 HO_476001 HO_485000 HO_485001 HO_494000 HO_494001 HO_506000 HO_506001 BK475 BK484 BK493 BK505 HB hx514_0 hHeld ⊢
                  refine xP1 (i := 1) (N := some 112) #[false, true, false, false, false, false, false, false, false, false, false] (any_of HT_.out (by kernel_rfl)) (h := ?_)
                  refine xP1 (i := 2) (N := some 113) #[false, true, true, false, false, false, false, false, false, false, false] (any_of HT_.out (by kernel_rfl)) (h := ?_)
                  refine xP1 (i := 3) (N := some 114) #[false, true, true, true, false, false, false, false, false, false, false] (any_of HT_.out (by kernel_rfl)) (h := ?_)
                  refine take_ (i := 0) (N := some 111) (v := ?_) (a' := ?_) #[true, true, true, true, false, false, false, false, false, false, false] rfl rfl (take_ofW HT_.out HW_.out (by kernel_rfl)) (fun _ _ _ h => h) (Or.inl ⟨by rfl, ?_⟩) hHeld ?_ ?_
                  rotate_left
                  ·rintro w' ⟨s0, s1, s2, s3⟩
                   go_simp
                   with_reducible rfl
                  rotate_left
                  ·simp only [Act.put, List.setIfInBounds_toArray, List.set_cons_zero, List.set_cons_succ, i64_w, i32_w]
                   rfl
                  refine take_ (i := 4) (N := some 115) (v := ?_) (a' := ?_) #[true, true, true, true, true, false, false, false, false, false, false] rfl rfl (take_ofW HT_.out HW_.out (by kernel_rfl)) (fun _ _ _ h => h) (Or.inl ⟨by rfl, ?_⟩) hHeld ?_ ?_
                  rotate_left
                  ·rintro w' ⟨s0, s1, s2, s3⟩
                   go_simp
                   with_reducible rfl
                  rotate_left
                  ·simp only [Act.put, List.setIfInBounds_toArray, List.set_cons_zero, List.set_cons_succ, i64_w, i32_w]
                   rfl
                  refine one_ (i := 5) (N := some 116) #[true, true, true, true, true, true, false, false, false, false, false] rfl rfl (one_of HT_.out (by kernel_rfl)) (by decide) (fun K hK => ?_)
                  refine xG1 22 Try.func22 #[.agg #[.slice Ao10 t467.length co10, .slice Ao12 t470.length co12, .int .i64 t473], .string (rdOf ByteArray.empty t510 x16_3)] (h := ?_)
                  with_reducible refine (spec_SeekKey.calls k3 _ _ t467 _ _ t470 t473 (rdOf ByteArray.empty t510 x16_3) t515 t516 _ ?side1 ?side2 ?side3 ?side4 A81.out).mono ?_
                  (case side1 => exact xC ((rr HO_476000.out).2.2))
                  (case side2 => exact (rr HO_476000.out).2.1)
                  (case side3 => exact xC ((rr HO_476001.out).2.2))
                  (case side4 => exact (rr HO_476001.out).2.1)
                  rintro e w111 ⟨rfl, hb⟩
                  have HS3_ := (hb.cell (World.block_lt_of_cell? _ _ (hHeld.2.2.2))).trans (hHeld.2.2.2)
                  refine ⟨_, rfl, ?_⟩
                  replace HO_15 := am (rb (xR HO_15.out) hb)
                  replace HO_476000 := am (rb (xR HO_476000.out) hb)
                  replace HO_476001 := am (rb (xR HO_476001.out) hb)
                  replace HO_485000 := am (rb (xR HO_485000.out) hb)
                  replace HO_485001 := am (rb (xR HO_485001.out) hb)
                  replace HO_494000 := am (rb (xR HO_494000.out) hb)
                  replace HO_494001 := am (rb (xR HO_494001.out) hb)
                  replace HO_506000 := am (rb (xR HO_506000.out) hb)
                  replace HO_506001 := am (rb (xR HO_506001.out) hb)
                  replace BK475 := am (bb (xB BK475.out) hb)
                  replace BK484 := am (bb (xB BK484.out) hb)
                  replace BK493 := am (bb (xB BK493.out) hb)
                  replace BK505 := am (bb (xB BK505.out) hb)
                  replace HB := am (bs (xW HB.out) hb)
                  (try clear hb)
                  refine hK.out _ _ ⟨(blk_cell BK475.out 0).trans rfl, (blk_cell BK475.out 1).trans rfl, (blk_cell BK475.out 2).trans rfl, HS3_⟩ (fun hHeld => ?_)
                  clear hK K
                  refine xN1 (h := ?_)
                  refine xP1 (i := 6) (N := some 110) #[true, true, true, true, true, true, true, false, false, false, false] (any_of HT_.out (by kernel_rfl)) (h := ?_)
                  refine xP1 (i := 7) (N := some 117) #[true, true, true, true, true, true, true, true, false, false, false] (any_of HT_.out (by kernel_rfl)) (h := ?_)
                  refine xP1 (i := 8) (N := some 118) #[true, true, true, true, true, true, true, true, true, false, false] (any_of HT_.out (by kernel_rfl)) (h := ?_)
                  refine xP1 (i := 9) (N := some 17) #[true, true, true, true, true, true, true, true, true, true, false] (any_of HT_.out (by kernel_rfl)) (h := ?_)
                  refine xP1 (i := 10) (N := some 18) #[true, true, true, true, true, true, true, true, true, true, true] (any_of HT_.out (by kernel_rfl)) (h := ?_)
                  refine done_ (done_of HT_.out (by kernel_rfl)) ?_
                  try go_wp2
                  replace HO_15 := am (Kd.R_drew HO_15.out)
                  replace HO_476000 := am (Kd.R_drew HO_476000.out)
                  replace HO_476001 := am (Kd.R_drew HO_476001.out)
                  replace HO_485000 := am (Kd.R_drew HO_485000.out)
                  replace HO_485001 := am (Kd.R_drew HO_485001.out)
                  replace HO_494000 := am (Kd.R_drew HO_494000.out)
                  replace HO_494001 := am (Kd.R_drew HO_494001.out)
                  replace HO_506000 := am (Kd.R_drew HO_506000.out)
                  replace HO_506001 := am (Kd.R_drew HO_506001.out)
                  replace BK475 := am (blk_drew BK475.out)
                  replace BK484 := am (blk_drew BK484.out)
                  replace BK493 := am (blk_drew BK493.out)
                  replace BK505 := am (blk_drew BK505.out)
                  replace HB := am (below_drew1 HB.out)
                  have p517 : 0 ≤ (x16_3 : Int) := of_decide_eq_true (by assumption)
                  have q517 : x16_3 < (t510.length : Int) := of_decide_eq_true (by assumption)
                  obtain ⟨ad517, e517, hx517_0⟩ := Kd.at_string (rr HO_15.out).2.2 x16_3 p517 q517
                  obtain rfl : ad513 = ad517 := (by injection e517)
                  replace p517 := eq_true p517
                  replace q517 := eq_true q517
                  refine start_ (n := 11) (S := fun w' => w'.cell? ⟨gb484, 0, none⟩ = some (.slice Ao15 t476.length co15) ∧ w'.cell? ⟨gb484, 1, none⟩ = some (.slice Ao18 t479.length co18) ∧ w'.cell? ⟨gb484, 2, none⟩ = some (.int .i64 t482) ∧ w'.cell? (ad513.add (x16_3).toNat) = some (.string (rdOf ByteArray.empty t510 x16_3))) (ds := []) #[false, false, false, false, false, false, false, false, false, false, false] (by kernel_rfl) rfl rfl ⟨(blk_cell BK484.out 0).trans rfl, (blk_cell BK484.out 1).trans rfl, (blk_cell BK484.out 2).trans rfl, hx517_0⟩ (fun hHeld => ?_); refine with_tabW laws_FnPuts.tab21 laws_FnPuts.bits21 (fun HT_ HW_ => ?_)
                  generalize w111.drew = w112 at HO_15 HO_476000 HO_476001 HO_485000 HO_485001 HO_494000 HO_494001 HO_506000 HO_506001 BK475 BK484 BK493 BK505 HB hx517_0 hHeld ⊢
                  refine xP1 (i := 1) (N := some 121) #[false, true, false, false, false, false, false, false, false, false, false] (any_of HT_.out (by kernel_rfl)) (h := ?_)
                  refine xP1 (i := 2) (N := some 122) #[false, true, true, false, false, false, false, false, false, false, false] (any_of HT_.out (by kernel_rfl)) (h := ?_)
                  refine xP1 (i := 3) (N := some 123) #[false, true, true, true, false, false, false, false, false, false, false] (any_of HT_.out (by kernel_rfl)) (h := ?_)
                  refine take_ (i := 0) (N := some 120) (v := ?_) (a' := ?_) #[true, true, true, true, false, false, false, false, false, false, false] rfl rfl (take_ofW HT_.out HW_.out (by kernel_rfl)) (fun _ _ _ h => h) (Or.inl ⟨by rfl, ?_⟩) hHeld ?_ ?_
                  rotate_left
                  ·rintro w' ⟨s0, s1, s2, s3⟩
                   go_simp
                   with_reducible rfl
                  rotate_left
                  ·simp only [Act.put, List.setIfInBounds_toArray, List.set_cons_zero, List.set_cons_succ, i64_w, i32_w]
                   rfl
                  refine take_ (i := 4) (N := some 124) (v := ?_) (a' := ?_) #[true, true, true, true, true, false, false, false, false, false, false] rfl rfl (take_ofW HT_.out HW_.out (by kernel_rfl)) (fun _ _ _ h => h) (Or.inl ⟨by rfl, ?_⟩) hHeld ?_ ?_
                  rotate_left
                  ·rintro w' ⟨s0, s1, s2, s3⟩
                   go_simp
                   with_reducible rfl
                  rotate_left
                  ·simp only [Act.put, List.setIfInBounds_toArray, List.set_cons_zero, List.set_cons_succ, i64_w, i32_w]
                   rfl
                  refine one_ (i := 5) (N := some 125) #[true, true, true, true, true, true, false, false, false, false, false] rfl rfl (one_of HT_.out (by kernel_rfl)) (by decide) (fun K hK => ?_)
                  refine xG1 23 Try.func23 #[.agg #[.slice Ao15 t476.length co15, .slice Ao18 t479.length co18, .int .i64 t482], .string (rdOf ByteArray.empty t510 x16_3)] (h := ?_)
                  with_reducible refine (impl_SeekKey.calls k3 _ _ t476 _ _ t479 t482 (rdOf ByteArray.empty t510 x16_3) t518 t519 _ ?side1 ?side2 ?side3 ?side4 A82.out).mono ?_
                  (case side1 => exact xC ((rr HO_485000.out).2.2))
                  (case side2 => exact (rr HO_485000.out).2.1)
                  (case side3 => exact xC ((rr HO_485001.out).2.2))
                  (case side4 => exact (rr HO_485001.out).2.1)
                  rintro e w113 ⟨rfl, hb⟩
                  have HS3_ := (hb.cell (World.block_lt_of_cell? _ _ (hHeld.2.2.2))).trans (hHeld.2.2.2)
                  refine ⟨_, rfl, ?_⟩
                  replace HO_15 := am (rb (xR HO_15.out) hb)
                  replace HO_476000 := am (rb (xR HO_476000.out) hb)
                  replace HO_476001 := am (rb (xR HO_476001.out) hb)
                  replace HO_485000 := am (rb (xR HO_485000.out) hb)
                  replace HO_485001 := am (rb (xR HO_485001.out) hb)
                  replace HO_494000 := am (rb (xR HO_494000.out) hb)
                  replace HO_494001 := am (rb (xR HO_494001.out) hb)
                  replace HO_506000 := am (rb (xR HO_506000.out) hb)
                  replace HO_506001 := am (rb (xR HO_506001.out) hb)
                  replace BK475 := am (bb (xB BK475.out) hb)
                  replace BK484 := am (bb (xB BK484.out) hb)
                  replace BK493 := am (bb (xB BK493.out) hb)
                  replace BK505 := am (bb (xB BK505.out) hb)
                  replace HB := am (bs (xW HB.out) hb)
                  (try clear hb)
                  refine hK.out _ _ ⟨(blk_cell BK484.out 0).trans rfl, (blk_cell BK484.out 1).trans rfl, (blk_cell BK484.out 2).trans rfl, HS3_⟩ (fun hHeld => ?_)
                  clear hK K
                  refine xN1 (h := ?_)
                  refine xP1 (i := 6) (N := some 119) #[true, true, true, true, true, true, true, false, false, false, false] (any_of HT_.out (by kernel_rfl)) (h := ?_)
                  refine xP1 (i := 7) (N := some 126) #[true, true, true, true, true, true, true, true, false, false, false] (any_of HT_.out (by kernel_rfl)) (h := ?_)
                  refine xP1 (i := 8) (N := some 127) #[true, true, true, true, true, true, true, true, true, false, false] (any_of HT_.out (by kernel_rfl)) (h := ?_)
                  refine xP1 (i := 9) (N := some 19) #[true, true, true, true, true, true, true, true, true, true, false] (any_of HT_.out (by kernel_rfl)) (h := ?_)
                  refine xP1 (i := 10) (N := some 20) #[true, true, true, true, true, true, true, true, true, true, true] (any_of HT_.out (by kernel_rfl)) (h := ?_)
                  refine done_ (done_of HT_.out (by kernel_rfl)) ?_
                  try go_wp2
                  replace HO_15 := am (Kd.R_drew HO_15.out)
                  replace HO_476000 := am (Kd.R_drew HO_476000.out)
                  replace HO_476001 := am (Kd.R_drew HO_476001.out)
                  replace HO_485000 := am (Kd.R_drew HO_485000.out)
                  replace HO_485001 := am (Kd.R_drew HO_485001.out)
                  replace HO_494000 := am (Kd.R_drew HO_494000.out)
                  replace HO_494001 := am (Kd.R_drew HO_494001.out)
                  replace HO_506000 := am (Kd.R_drew HO_506000.out)
                  replace HO_506001 := am (Kd.R_drew HO_506001.out)
                  replace BK475 := am (blk_drew BK475.out)
                  replace BK484 := am (blk_drew BK484.out)
                  replace BK493 := am (blk_drew BK493.out)
                  replace BK505 := am (blk_drew BK505.out)
                  replace HB := am (below_drew1 HB.out)
                  have p520 : 0 ≤ (x16_3 : Int) := of_decide_eq_true (by assumption)
                  have q520 : x16_3 < (t510.length : Int) := of_decide_eq_true (by assumption)
                  obtain ⟨ad520, e520, hx520_0⟩ := Kd.at_string (rr HO_15.out).2.2 x16_3 p520 q520
                  obtain rfl : ad513 = ad520 := (by injection e520)
                  replace p520 := eq_true p520
                  replace q520 := eq_true q520
                  refine start_ (n := 11) (S := fun w' => w'.cell? ⟨gb505, 0, none⟩ = some (.slice Ao46 t497.length co46) ∧ w'.cell? ⟨gb505, 1, none⟩ = some (.slice Ao51 t500.length co51) ∧ w'.cell? ⟨gb505, 2, none⟩ = some (.int .i64 t503) ∧ w'.cell? (ad513.add (x16_3).toNat) = some (.string (rdOf ByteArray.empty t510 x16_3))) (ds := []) #[false, false, false, false, false, false, false, false, false, false, false] (by kernel_rfl) rfl rfl ⟨(blk_cell BK505.out 0).trans rfl, (blk_cell BK505.out 1).trans rfl, (blk_cell BK505.out 2).trans rfl, hx520_0⟩ (fun hHeld => ?_); refine with_tabW laws_FnPuts.tab22 laws_FnPuts.bits22 (fun HT_ HW_ => ?_)
                  generalize w113.drew = w114 at HO_15 HO_476000 HO_476001 HO_485000 HO_485001 HO_494000 HO_494001 HO_506000 HO_506001 BK475 BK484 BK493 BK505 HB hx520_0 hHeld ⊢
                  refine xP1 (i := 1) (N := some 130) #[false, true, false, false, false, false, false, false, false, false, false] (any_of HT_.out (by kernel_rfl)) (h := ?_)
                  refine xP1 (i := 2) (N := some 131) #[false, true, true, false, false, false, false, false, false, false, false] (any_of HT_.out (by kernel_rfl)) (h := ?_)
                  refine xP1 (i := 3) (N := some 132) #[false, true, true, true, false, false, false, false, false, false, false] (any_of HT_.out (by kernel_rfl)) (h := ?_)
                  refine take_ (i := 0) (N := some 129) (v := ?_) (a' := ?_) #[true, true, true, true, false, false, false, false, false, false, false] rfl rfl (take_ofW HT_.out HW_.out (by kernel_rfl)) (fun _ _ _ h => h) (Or.inl ⟨by rfl, ?_⟩) hHeld ?_ ?_
                  rotate_left
                  ·rintro w' ⟨s0, s1, s2, s3⟩
                   go_simp
                   with_reducible rfl
                  rotate_left
                  ·simp only [Act.put, List.setIfInBounds_toArray, List.set_cons_zero, List.set_cons_succ, i64_w, i32_w]
                   rfl
                  refine take_ (i := 4) (N := some 133) (v := ?_) (a' := ?_) #[true, true, true, true, true, false, false, false, false, false, false] rfl rfl (take_ofW HT_.out HW_.out (by kernel_rfl)) (fun _ _ _ h => h) (Or.inl ⟨by rfl, ?_⟩) hHeld ?_ ?_
                  rotate_left
                  ·rintro w' ⟨s0, s1, s2, s3⟩
                   go_simp
                   with_reducible rfl
                  rotate_left
                  ·simp only [Act.put, List.setIfInBounds_toArray, List.set_cons_zero, List.set_cons_succ, i64_w, i32_w]
                   rfl
                  refine one_ (i := 5) (N := some 134) #[true, true, true, true, true, true, false, false, false, false, false] rfl rfl (one_of HT_.out (by kernel_rfl)) (by decide) (fun K hK => ?_)
                  refine xG1 23 Try.func23 #[.agg #[.slice Ao46 t497.length co46, .slice Ao51 t500.length co51, .int .i64 t503], .string (rdOf ByteArray.empty t510 x16_3)] (h := ?_)
                  with_reducible refine (impl_SeekKey.calls k3 _ _ t497 _ _ t500 t503 (rdOf ByteArray.empty t510 x16_3) t521 t522 _ ?side1 ?side2 ?side3 ?side4 A83.out).mono ?_
                  (case side1 => exact xC ((rr HO_506000.out).2.2))
                  (case side2 => exact (rr HO_506000.out).2.1)
                  (case side3 => exact xC ((rr HO_506001.out).2.2))
                  (case side4 => exact (rr HO_506001.out).2.1)
                  rintro e w115 ⟨rfl, hb⟩
                  have HS3_ := (hb.cell (World.block_lt_of_cell? _ _ (hHeld.2.2.2))).trans (hHeld.2.2.2)
                  refine ⟨_, rfl, ?_⟩
                  replace HO_15 := am (rb (xR HO_15.out) hb)
                  replace HO_476000 := am (rb (xR HO_476000.out) hb)
                  replace HO_476001 := am (rb (xR HO_476001.out) hb)
                  replace HO_485000 := am (rb (xR HO_485000.out) hb)
                  replace HO_485001 := am (rb (xR HO_485001.out) hb)
                  replace HO_494000 := am (rb (xR HO_494000.out) hb)
                  replace HO_494001 := am (rb (xR HO_494001.out) hb)
                  replace HO_506000 := am (rb (xR HO_506000.out) hb)
                  replace HO_506001 := am (rb (xR HO_506001.out) hb)
                  replace BK475 := am (bb (xB BK475.out) hb)
                  replace BK484 := am (bb (xB BK484.out) hb)
                  replace BK493 := am (bb (xB BK493.out) hb)
                  replace BK505 := am (bb (xB BK505.out) hb)
                  replace HB := am (bs (xW HB.out) hb)
                  (try clear hb)
                  refine hK.out _ _ ⟨(blk_cell BK505.out 0).trans rfl, (blk_cell BK505.out 1).trans rfl, (blk_cell BK505.out 2).trans rfl, HS3_⟩ (fun hHeld => ?_)
                  clear hK K
                  refine xN1 (h := ?_)
                  refine xP1 (i := 6) (N := some 128) #[true, true, true, true, true, true, true, false, false, false, false] (any_of HT_.out (by kernel_rfl)) (h := ?_)
                  refine xP1 (i := 7) (N := some 135) #[true, true, true, true, true, true, true, true, false, false, false] (any_of HT_.out (by kernel_rfl)) (h := ?_)
                  refine xP1 (i := 8) (N := some 136) #[true, true, true, true, true, true, true, true, true, false, false] (any_of HT_.out (by kernel_rfl)) (h := ?_)
                  refine xP1 (i := 9) (N := some 21) #[true, true, true, true, true, true, true, true, true, true, false] (any_of HT_.out (by kernel_rfl)) (h := ?_)
                  refine xP1 (i := 10) (N := some 22) #[true, true, true, true, true, true, true, true, true, true, true] (any_of HT_.out (by kernel_rfl)) (h := ?_)
                  refine done_ (done_of HT_.out (by kernel_rfl)) ?_
                  try go_wp2
                  go_ret
                  exact ⟨xV, xW HB.out⟩
                ·rw [if_neg c100] at H
                 have c100b0 : (t515 == t518) = false := beq_eq_false_iff_ne.mpr c100
                 have c100b1 : (t515 != t518) = true := bne_iff_ne.mpr c100
                 obtain rfl := Option.some.inj H
                 obtain ⟨Ao116, co116, eo116⟩ := Kd.R_slice HO_15.out
                 subst eo116
                 have p513 : 0 ≤ (x16_3 : Int) := of_decide_eq_true (by assumption)
                 have q513 : x16_3 < (t510.length : Int) := of_decide_eq_true (by assumption)
                 obtain ⟨ad513, e513, hx513_0⟩ := Kd.at_string (rr HO_15.out).2.2 x16_3 p513 q513
                 cases e513
                 replace p513 := eq_true p513
                 replace q513 := eq_true q513
                 try go_wp2
                 replace HO_15 := am (Kd.R_drew HO_15.out)
                 replace HO_476000 := am (Kd.R_drew HO_476000.out)
                 replace HO_476001 := am (Kd.R_drew HO_476001.out)
                 replace HO_485000 := am (Kd.R_drew HO_485000.out)
                 replace HO_485001 := am (Kd.R_drew HO_485001.out)
                 replace HO_494000 := am (Kd.R_drew HO_494000.out)
                 replace HO_494001 := am (Kd.R_drew HO_494001.out)
                 replace HO_506000 := am (Kd.R_drew HO_506000.out)
                 replace HO_506001 := am (Kd.R_drew HO_506001.out)
                 replace BK475 := am (blk_drew BK475.out)
                 replace BK484 := am (blk_drew BK484.out)
                 replace BK493 := am (blk_drew BK493.out)
                 replace BK505 := am (blk_drew BK505.out)
                 replace HB := am (below_drew1 HB.out)
                 have p514 : 0 ≤ (x16_3 : Int) := of_decide_eq_true (by assumption)
                 have q514 : x16_3 < (t510.length : Int) := of_decide_eq_true (by assumption)
                 obtain ⟨ad514, e514, hx514_0⟩ := Kd.at_string (rr HO_15.out).2.2 x16_3 p514 q514
                 obtain rfl : ad513 = ad514 := (by injection e514)
                 replace p514 := eq_true p514
                 replace q514 := eq_true q514
                 refine start_ (n := 11) (S := fun w' => w'.cell? ⟨gb475, 0, none⟩ = some (.slice Ao10 t467.length co10) ∧ w'.cell? ⟨gb475, 1, none⟩ = some (.slice Ao12 t470.length co12) ∧ w'.cell? ⟨gb475, 2, none⟩ = some (.int .i64 t473) ∧ w'.cell? (ad513.add (x16_3).toNat) = some (.string (rdOf ByteArray.empty t510 x16_3))) (ds := []) #[false, false, false, false, false, false, false, false, false, false, false] (by kernel_rfl) rfl rfl ⟨(blk_cell BK475.out 0).trans rfl, (blk_cell BK475.out 1).trans rfl, (blk_cell BK475.out 2).trans rfl, hx514_0⟩ (fun hHeld => ?_); refine with_tabW laws_FnPuts.tab20 laws_FnPuts.bits20 (fun HT_ HW_ => ?_)
                 generalize wr.drew = w117 at HO_15 HO_476000 HO_476001 HO_485000 HO_485001 HO_494000 HO_494001 HO_506000 HO_506001 BK475 BK484 BK493 BK505 HB hx514_0 hHeld ⊢
                 refine xP1 (i := 1) (N := some 112) #[false, true, false, false, false, false, false, false, false, false, false] (any_of HT_.out (by kernel_rfl)) (h := ?_)
                 refine xP1 (i := 2) (N := some 113) #[false, true, true, false, false, false, false, false, false, false, false] (any_of HT_.out (by kernel_rfl)) (h := ?_)
                 refine xP1 (i := 3) (N := some 114) #[false, true, true, true, false, false, false, false, false, false, false] (any_of HT_.out (by kernel_rfl)) (h := ?_)
                 refine take_ (i := 0) (N := some 111) (v := ?_) (a' := ?_) #[true, true, true, true, false, false, false, false, false, false, false] rfl rfl (take_ofW HT_.out HW_.out (by kernel_rfl)) (fun _ _ _ h => h) (Or.inl ⟨by rfl, ?_⟩) hHeld ?_ ?_
                 rotate_left
                 ·rintro w' ⟨s0, s1, s2, s3⟩
                  go_simp
                  with_reducible rfl
                 rotate_left
                 ·simp only [Act.put, List.setIfInBounds_toArray, List.set_cons_zero, List.set_cons_succ, i64_w, i32_w]
                  rfl
                 refine take_ (i := 4) (N := some 115) (v := ?_) (a' := ?_) #[true, true, true, true, true, false, false, false, false, false, false] rfl rfl (take_ofW HT_.out HW_.out (by kernel_rfl)) (fun _ _ _ h => h) (Or.inl ⟨by rfl, ?_⟩) hHeld ?_ ?_
                 rotate_left
                 ·rintro w' ⟨s0, s1, s2, s3⟩
                  go_simp
                  with_reducible rfl
                 rotate_left
                 ·simp only [Act.put, List.setIfInBounds_toArray, List.set_cons_zero, List.set_cons_succ, i64_w, i32_w]
                  rfl
                 refine one_ (i := 5) (N := some 116) #[true, true, true, true, true, true, false, false, false, false, false] rfl rfl (one_of HT_.out (by kernel_rfl)) (by decide) (fun K hK => ?_)
                 refine xG1 22 Try.func22 #[.agg #[.slice Ao10 t467.length co10, .slice Ao12 t470.length co12, .int .i64 t473], .string (rdOf ByteArray.empty t510 x16_3)] (h := ?_)
                 with_reducible refine (spec_SeekKey.calls k3 _ _ t467 _ _ t470 t473 (rdOf ByteArray.empty t510 x16_3) t515 t516 _ ?side1 ?side2 ?side3 ?side4 A81.out).mono ?_
                 (case side1 => exact xC ((rr HO_476000.out).2.2))
                 (case side2 => exact (rr HO_476000.out).2.1)
                 (case side3 => exact xC ((rr HO_476001.out).2.2))
                 (case side4 => exact (rr HO_476001.out).2.1)
                 rintro e w118 ⟨rfl, hb⟩
                 have HS3_ := (hb.cell (World.block_lt_of_cell? _ _ (hHeld.2.2.2))).trans (hHeld.2.2.2)
                 refine ⟨_, rfl, ?_⟩
                 replace HO_15 := am (rb (xR HO_15.out) hb)
                 replace HO_476000 := am (rb (xR HO_476000.out) hb)
                 replace HO_476001 := am (rb (xR HO_476001.out) hb)
                 replace HO_485000 := am (rb (xR HO_485000.out) hb)
                 replace HO_485001 := am (rb (xR HO_485001.out) hb)
                 replace HO_494000 := am (rb (xR HO_494000.out) hb)
                 replace HO_494001 := am (rb (xR HO_494001.out) hb)
                 replace HO_506000 := am (rb (xR HO_506000.out) hb)
                 replace HO_506001 := am (rb (xR HO_506001.out) hb)
                 replace BK475 := am (bb (xB BK475.out) hb)
                 replace BK484 := am (bb (xB BK484.out) hb)
                 replace BK493 := am (bb (xB BK493.out) hb)
                 replace BK505 := am (bb (xB BK505.out) hb)
                 replace HB := am (bs (xW HB.out) hb)
                 (try clear hb)
                 refine hK.out _ _ ⟨(blk_cell BK475.out 0).trans rfl, (blk_cell BK475.out 1).trans rfl, (blk_cell BK475.out 2).trans rfl, HS3_⟩ (fun hHeld => ?_)
                 clear hK K
                 refine xN1 (h := ?_)
                 refine xP1 (i := 6) (N := some 110) #[true, true, true, true, true, true, true, false, false, false, false] (any_of HT_.out (by kernel_rfl)) (h := ?_)
                 refine xP1 (i := 7) (N := some 117) #[true, true, true, true, true, true, true, true, false, false, false] (any_of HT_.out (by kernel_rfl)) (h := ?_)
                 refine xP1 (i := 8) (N := some 118) #[true, true, true, true, true, true, true, true, true, false, false] (any_of HT_.out (by kernel_rfl)) (h := ?_)
                 refine xP1 (i := 9) (N := some 17) #[true, true, true, true, true, true, true, true, true, true, false] (any_of HT_.out (by kernel_rfl)) (h := ?_)
                 refine xP1 (i := 10) (N := some 18) #[true, true, true, true, true, true, true, true, true, true, true] (any_of HT_.out (by kernel_rfl)) (h := ?_)
                 refine done_ (done_of HT_.out (by kernel_rfl)) ?_
                 try go_wp2
                 replace HO_15 := am (Kd.R_drew HO_15.out)
                 replace HO_476000 := am (Kd.R_drew HO_476000.out)
                 replace HO_476001 := am (Kd.R_drew HO_476001.out)
                 replace HO_485000 := am (Kd.R_drew HO_485000.out)
                 replace HO_485001 := am (Kd.R_drew HO_485001.out)
                 replace HO_494000 := am (Kd.R_drew HO_494000.out)
                 replace HO_494001 := am (Kd.R_drew HO_494001.out)
                 replace HO_506000 := am (Kd.R_drew HO_506000.out)
                 replace HO_506001 := am (Kd.R_drew HO_506001.out)
                 replace BK475 := am (blk_drew BK475.out)
                 replace BK484 := am (blk_drew BK484.out)
                 replace BK493 := am (blk_drew BK493.out)
                 replace BK505 := am (blk_drew BK505.out)
                 replace HB := am (below_drew1 HB.out)
                 have p517 : 0 ≤ (x16_3 : Int) := of_decide_eq_true (by assumption)
                 have q517 : x16_3 < (t510.length : Int) := of_decide_eq_true (by assumption)
                 obtain ⟨ad517, e517, hx517_0⟩ := Kd.at_string (rr HO_15.out).2.2 x16_3 p517 q517
                 obtain rfl : ad513 = ad517 := (by injection e517)
                 replace p517 := eq_true p517
                 replace q517 := eq_true q517
                 refine start_ (n := 11) (S := fun w' => w'.cell? ⟨gb484, 0, none⟩ = some (.slice Ao15 t476.length co15) ∧ w'.cell? ⟨gb484, 1, none⟩ = some (.slice Ao18 t479.length co18) ∧ w'.cell? ⟨gb484, 2, none⟩ = some (.int .i64 t482) ∧ w'.cell? (ad513.add (x16_3).toNat) = some (.string (rdOf ByteArray.empty t510 x16_3))) (ds := []) #[false, false, false, false, false, false, false, false, false, false, false] (by kernel_rfl) rfl rfl ⟨(blk_cell BK484.out 0).trans rfl, (blk_cell BK484.out 1).trans rfl, (blk_cell BK484.out 2).trans rfl, hx517_0⟩ (fun hHeld => ?_); refine with_tabW laws_FnPuts.tab21 laws_FnPuts.bits21 (fun HT_ HW_ => ?_)
                 generalize w118.drew = w119 at HO_15 HO_476000 HO_476001 HO_485000 HO_485001 HO_494000 HO_494001 HO_506000 HO_506001 BK475 BK484 BK493 BK505 HB hx517_0 hHeld ⊢
                 refine xP1 (i := 1) (N := some 121) #[false, true, false, false, false, false, false, false, false, false, false] (any_of HT_.out (by kernel_rfl)) (h := ?_)
                 refine xP1 (i := 2) (N := some 122) #[false, true, true, false, false, false, false, false, false, false, false] (any_of HT_.out (by kernel_rfl)) (h := ?_)
                 refine xP1 (i := 3) (N := some 123) #[false, true, true, true, false, false, false, false, false, false, false] (any_of HT_.out (by kernel_rfl)) (h := ?_)
                 refine take_ (i := 0) (N := some 120) (v := ?_) (a' := ?_) #[true, true, true, true, false, false, false, false, false, false, false] rfl rfl (take_ofW HT_.out HW_.out (by kernel_rfl)) (fun _ _ _ h => h) (Or.inl ⟨by rfl, ?_⟩) hHeld ?_ ?_
                 rotate_left
                 ·rintro w' ⟨s0, s1, s2, s3⟩
                  go_simp
                  with_reducible rfl
                 rotate_left
                 ·simp only [Act.put, List.setIfInBounds_toArray, List.set_cons_zero, List.set_cons_succ, i64_w, i32_w]
                  rfl
                 refine take_ (i := 4) (N := some 124) (v := ?_) (a' := ?_) #[true, true, true, true, true, false, false, false, false, false, false] rfl rfl (take_ofW HT_.out HW_.out (by kernel_rfl)) (fun _ _ _ h => h) (Or.inl ⟨by rfl, ?_⟩) hHeld ?_ ?_
                 rotate_left
                 ·rintro w' ⟨s0, s1, s2, s3⟩
                  go_simp
                  with_reducible rfl
                 rotate_left
                 ·simp only [Act.put, List.setIfInBounds_toArray, List.set_cons_zero, List.set_cons_succ, i64_w, i32_w]
                  rfl
                 refine one_ (i := 5) (N := some 125) #[true, true, true, true, true, true, false, false, false, false, false] rfl rfl (one_of HT_.out (by kernel_rfl)) (by decide) (fun K hK => ?_)
                 refine xG1 23 Try.func23 #[.agg #[.slice Ao15 t476.length co15, .slice Ao18 t479.length co18, .int .i64 t482], .string (rdOf ByteArray.empty t510 x16_3)] (h := ?_)
                 with_reducible refine (impl_SeekKey.calls k3 _ _ t476 _ _ t479 t482 (rdOf ByteArray.empty t510 x16_3) t518 t519 _ ?side1 ?side2 ?side3 ?side4 A82.out).mono ?_
                 (case side1 => exact xC ((rr HO_485000.out).2.2))
                 (case side2 => exact (rr HO_485000.out).2.1)
                 (case side3 => exact xC ((rr HO_485001.out).2.2))
                 (case side4 => exact (rr HO_485001.out).2.1)
                 rintro e w120 ⟨rfl, hb⟩
                 have HS3_ := (hb.cell (World.block_lt_of_cell? _ _ (hHeld.2.2.2))).trans (hHeld.2.2.2)
                 refine ⟨_, rfl, ?_⟩
                 replace HO_15 := am (rb (xR HO_15.out) hb)
                 replace HO_476000 := am (rb (xR HO_476000.out) hb)
                 replace HO_476001 := am (rb (xR HO_476001.out) hb)
                 replace HO_485000 := am (rb (xR HO_485000.out) hb)
                 replace HO_485001 := am (rb (xR HO_485001.out) hb)
                 replace HO_494000 := am (rb (xR HO_494000.out) hb)
                 replace HO_494001 := am (rb (xR HO_494001.out) hb)
                 replace HO_506000 := am (rb (xR HO_506000.out) hb)
                 replace HO_506001 := am (rb (xR HO_506001.out) hb)
                 replace BK475 := am (bb (xB BK475.out) hb)
                 replace BK484 := am (bb (xB BK484.out) hb)
                 replace BK493 := am (bb (xB BK493.out) hb)
                 replace BK505 := am (bb (xB BK505.out) hb)
                 replace HB := am (bs (xW HB.out) hb)
                 (try clear hb)
                 refine hK.out _ _ ⟨(blk_cell BK484.out 0).trans rfl, (blk_cell BK484.out 1).trans rfl, (blk_cell BK484.out 2).trans rfl, HS3_⟩ (fun hHeld => ?_)
                 clear hK K
                 refine xN1 (h := ?_)
                 refine xP1 (i := 6) (N := some 119) #[true, true, true, true, true, true, true, false, false, false, false] (any_of HT_.out (by kernel_rfl)) (h := ?_)
                 refine xP1 (i := 7) (N := some 126) #[true, true, true, true, true, true, true, true, false, false, false] (any_of HT_.out (by kernel_rfl)) (h := ?_)
                 refine xP1 (i := 8) (N := some 127) #[true, true, true, true, true, true, true, true, true, false, false] (any_of HT_.out (by kernel_rfl)) (h := ?_)
                 refine xP1 (i := 9) (N := some 19) #[true, true, true, true, true, true, true, true, true, true, false] (any_of HT_.out (by kernel_rfl)) (h := ?_)
                 refine xP1 (i := 10) (N := some 20) #[true, true, true, true, true, true, true, true, true, true, true] (any_of HT_.out (by kernel_rfl)) (h := ?_)
                 refine done_ (done_of HT_.out (by kernel_rfl)) ?_
                 try go_wp2
                 replace HO_15 := am (Kd.R_drew HO_15.out)
                 replace HO_476000 := am (Kd.R_drew HO_476000.out)
                 replace HO_476001 := am (Kd.R_drew HO_476001.out)
                 replace HO_485000 := am (Kd.R_drew HO_485000.out)
                 replace HO_485001 := am (Kd.R_drew HO_485001.out)
                 replace HO_494000 := am (Kd.R_drew HO_494000.out)
                 replace HO_494001 := am (Kd.R_drew HO_494001.out)
                 replace HO_506000 := am (Kd.R_drew HO_506000.out)
                 replace HO_506001 := am (Kd.R_drew HO_506001.out)
                 replace BK475 := am (blk_drew BK475.out)
                 replace BK484 := am (blk_drew BK484.out)
                 replace BK493 := am (blk_drew BK493.out)
                 replace BK505 := am (blk_drew BK505.out)
                 replace HB := am (below_drew1 HB.out)
                 have p520 : 0 ≤ (x16_3 : Int) := of_decide_eq_true (by assumption)
                 have q520 : x16_3 < (t510.length : Int) := of_decide_eq_true (by assumption)
                 obtain ⟨ad520, e520, hx520_0⟩ := Kd.at_string (rr HO_15.out).2.2 x16_3 p520 q520
                 obtain rfl : ad513 = ad520 := (by injection e520)
                 replace p520 := eq_true p520
                 replace q520 := eq_true q520
                 refine start_ (n := 11) (S := fun w' => w'.cell? ⟨gb505, 0, none⟩ = some (.slice Ao46 t497.length co46) ∧ w'.cell? ⟨gb505, 1, none⟩ = some (.slice Ao51 t500.length co51) ∧ w'.cell? ⟨gb505, 2, none⟩ = some (.int .i64 t503) ∧ w'.cell? (ad513.add (x16_3).toNat) = some (.string (rdOf ByteArray.empty t510 x16_3))) (ds := []) #[false, false, false, false, false, false, false, false, false, false, false] (by kernel_rfl) rfl rfl ⟨(blk_cell BK505.out 0).trans rfl, (blk_cell BK505.out 1).trans rfl, (blk_cell BK505.out 2).trans rfl, hx520_0⟩ (fun hHeld => ?_); refine with_tabW laws_FnPuts.tab22 laws_FnPuts.bits22 (fun HT_ HW_ => ?_)
                 generalize w120.drew = w121 at HO_15 HO_476000 HO_476001 HO_485000 HO_485001 HO_494000 HO_494001 HO_506000 HO_506001 BK475 BK484 BK493 BK505 HB hx520_0 hHeld ⊢
                 refine xP1 (i := 1) (N := some 130) #[false, true, false, false, false, false, false, false, false, false, false] (any_of HT_.out (by kernel_rfl)) (h := ?_)
                 refine xP1 (i := 2) (N := some 131) #[false, true, true, false, false, false, false, false, false, false, false] (any_of HT_.out (by kernel_rfl)) (h := ?_)
                 refine xP1 (i := 3) (N := some 132) #[false, true, true, true, false, false, false, false, false, false, false] (any_of HT_.out (by kernel_rfl)) (h := ?_)
                 refine take_ (i := 0) (N := some 129) (v := ?_) (a' := ?_) #[true, true, true, true, false, false, false, false, false, false, false] rfl rfl (take_ofW HT_.out HW_.out (by kernel_rfl)) (fun _ _ _ h => h) (Or.inl ⟨by rfl, ?_⟩) hHeld ?_ ?_
                 rotate_left
                 ·rintro w' ⟨s0, s1, s2, s3⟩
                  go_simp
                  with_reducible rfl
                 rotate_left
                 ·simp only [Act.put, List.setIfInBounds_toArray, List.set_cons_zero, List.set_cons_succ, i64_w, i32_w]
                  rfl
                 refine take_ (i := 4) (N := some 133) (v := ?_) (a' := ?_) #[true, true, true, true, true, false, false, false, false, false, false] rfl rfl (take_ofW HT_.out HW_.out (by kernel_rfl)) (fun _ _ _ h => h) (Or.inl ⟨by rfl, ?_⟩) hHeld ?_ ?_
                 rotate_left
                 ·rintro w' ⟨s0, s1, s2, s3⟩
                  go_simp
                  with_reducible rfl
                 rotate_left
                 ·simp only [Act.put, List.setIfInBounds_toArray, List.set_cons_zero, List.set_cons_succ, i64_w, i32_w]
                  rfl
                 refine one_ (i := 5) (N := some 134) #[true, true, true, true, true, true, false, false, false, false, false] rfl rfl (one_of HT_.out (by kernel_rfl)) (by decide) (fun K hK => ?_)
                 refine xG1 23 Try.func23 #[.agg #[.slice Ao46 t497.length co46, .slice Ao51 t500.length co51, .int .i64 t503], .string (rdOf ByteArray.empty t510 x16_3)] (h := ?_)
                 with_reducible refine (impl_SeekKey.calls k3 _ _ t497 _ _ t500 t503 (rdOf ByteArray.empty t510 x16_3) t521 t522 _ ?side1 ?side2 ?side3 ?side4 A83.out).mono ?_
                 (case side1 => exact xC ((rr HO_506000.out).2.2))
                 (case side2 => exact (rr HO_506000.out).2.1)
                 (case side3 => exact xC ((rr HO_506001.out).2.2))
                 (case side4 => exact (rr HO_506001.out).2.1)
                 rintro e w122 ⟨rfl, hb⟩
                 have HS3_ := (hb.cell (World.block_lt_of_cell? _ _ (hHeld.2.2.2))).trans (hHeld.2.2.2)
                 refine ⟨_, rfl, ?_⟩
                 replace HO_15 := am (rb (xR HO_15.out) hb)
                 replace HO_476000 := am (rb (xR HO_476000.out) hb)
                 replace HO_476001 := am (rb (xR HO_476001.out) hb)
                 replace HO_485000 := am (rb (xR HO_485000.out) hb)
                 replace HO_485001 := am (rb (xR HO_485001.out) hb)
                 replace HO_494000 := am (rb (xR HO_494000.out) hb)
                 replace HO_494001 := am (rb (xR HO_494001.out) hb)
                 replace HO_506000 := am (rb (xR HO_506000.out) hb)
                 replace HO_506001 := am (rb (xR HO_506001.out) hb)
                 replace BK475 := am (bb (xB BK475.out) hb)
                 replace BK484 := am (bb (xB BK484.out) hb)
                 replace BK493 := am (bb (xB BK493.out) hb)
                 replace BK505 := am (bb (xB BK505.out) hb)
                 replace HB := am (bs (xW HB.out) hb)
                 (try clear hb)
                 refine hK.out _ _ ⟨(blk_cell BK505.out 0).trans rfl, (blk_cell BK505.out 1).trans rfl, (blk_cell BK505.out 2).trans rfl, HS3_⟩ (fun hHeld => ?_)
                 clear hK K
                 refine xN1 (h := ?_)
                 refine xP1 (i := 6) (N := some 128) #[true, true, true, true, true, true, true, false, false, false, false] (any_of HT_.out (by kernel_rfl)) (h := ?_)
                 refine xP1 (i := 7) (N := some 135) #[true, true, true, true, true, true, true, true, false, false, false] (any_of HT_.out (by kernel_rfl)) (h := ?_)
                 refine xP1 (i := 8) (N := some 136) #[true, true, true, true, true, true, true, true, true, false, false] (any_of HT_.out (by kernel_rfl)) (h := ?_)
                 refine xP1 (i := 9) (N := some 21) #[true, true, true, true, true, true, true, true, true, true, false] (any_of HT_.out (by kernel_rfl)) (h := ?_)
                 refine xP1 (i := 10) (N := some 22) #[true, true, true, true, true, true, true, true, true, true, true] (any_of HT_.out (by kernel_rfl)) (h := ?_)
                 refine done_ (done_of HT_.out (by kernel_rfl)) ?_
                 try go_wp2
                 go_ret
                 exact ⟨xV, xW HB.out⟩
            ·rw [if_neg c78] at H
             exact absurd H (by simp)
           ·rw [if_neg c77] at H
            have c77b0 : decide (x16_3 < (t510.length : Int)) = false := decide_eq_false c77
            clear c77
            obtain rfl := Option.some.inj H
            obtain ⟨Ao123, co123, eo123⟩ := Kd.R_slice HO_15.out
            subst eo123
            go_wp2
            go_ret
            exact ⟨xV, xW HB.out⟩
     ·replace c34 := Bool.eq_false_iff.mpr c34
      subst c34
      have H1 : (some ((t476.length : Int) == 0)) = some r := by rw [if_neg (show ¬ (false = true) by decide)] at H; exact H
      clear H
      have H := H1
      clear H1
      obtain rfl := Option.some.inj H
      have hnb124 := NB484_475.out
      have hnc124 := NB475_484.out
      have hnb125 := NB484_493.out
      have hnc125 := NB493_484.out
      obtain ⟨hcz126_0, hcz126_1, hcz126_2, hfz126_0, hfz126_1, hfz126_2⟩ := xT3 (W := wc) BK484.out
      go_wp2
      go_ret
      exact ⟨xV, xW HB.out⟩
def laws_FnPuts.Pure : Prop := ∀ (l0 : List Int), l0.length ≤ maxLen → l0.length * 1 ≤ 140737488351232 → (∀ x ∈ l0, (Lit.int .u8 x).wf = true) → ∃ k, laws_FnPuts.f k l0 = some true
theorem laws_FnPuts.walk (P : laws_FnPuts.Pure) (a0 : Option Addr) (len0 cap0 : Nat) (z0 : List Int) (w : World) (w0 : (a0 = none ∧ len0 = 0 ∧ cap0 = 0 ∧ z0 = []) ∨ ∃ x, a0 = some x ∧ len0 ≤ cap0 ∧ cap0 ≤ maxLen ∧ z0.length = cap0 ∧ (∀ i, i < z0.length → w.cell? (x.add i) = some (.int .u8 (z0.getD i 0))) ∧ ∀ n ∈ z0, (Lit.int .u8 n).wf = true) (y0 : len0 * 1 ≤ 140737488351232) :
  Calls Try.prog 11 #[.slice a0 len0 cap0] w fun e w' => e = .returned (.bool true) ∧ Below w.heap.size w w' := by
 obtain ⟨l0, rfl, hr0, hm0, hw0, hc0⟩ := ReadsInt.ofRowC w0
 obtain ⟨k, h⟩ := P l0 hm0 y0 hw0
 refine (laws_FnPuts.calls k _ _ l0 true w (Kd.C_of_reads (d := (0 : Int)) (h1 := fun _ => rfl) hr0) hc0 h).mono ?_
 rintro e w' ⟨rfl, hd⟩
 exact ⟨rfl, hd⟩
end Go.Proofs.Ytmahoekbedgbcaa.HFnPuts
