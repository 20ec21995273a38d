/- What the row of the law needs of the printed and the plain texts. -/
import Derived.Test.YtmahoekbedgbcaaZfHX
import Derived.Test.YtmahoekbedgbcaaZfHFnGrowsx0
import Derived.Test.YtmahoekbedgbcaaZfHFnGrowsx2
import Derived.Test.YtmahoekbedgbcaaZfHFnGrowsx10
import Derived.Test.YtmahoekbedgbcaaZfHFnGrowsx12
import Derived.Test.YtmahoekbedgbcaaZfHFnGrowsx14
import Derived.Test.YtmahoekbedgbcaaZfHFnGrowsx15
import Derived.Test.YtmahoekbedgbcaaZfHFnGrowsx16
namespace Go.Proofs.Ytmahoekbedgbcaa.HFnGrows
open Go.RowKit Go.Proofs.YtmahoekbedgbcaaW.PrintWords Go.Proofs.YtmahoekbedgbcaaW.PrintLast Go.Proofs.YtmahoekbedgbcaaW.PrintMore
attribute [local go_sem] max2_int min2_int max_two min_two max_three min_three max_four min_four
set_option linter.unusedVariables false
set_option linter.unusedSimpArgs false
open Go.Proofs.YtmahoekbedgbcaaW.PrintWords renaming blk_drewN → bn, blk_drew → bd, blk_alloc → ba, below_alloc → wa, pw_below_drewN → wn, below_drew1 → wd, below_set → ws, blk_below → bb, blk_kept → bk, below_step → bs
open Go.Proofs.YtmahoekbedgbcaaW.PrintWords.Kd renaming R_alloc → ra, R_drewN → rn, R_drew → rd, R_below → rb, R_mono → rm, R_apart' → rp, R_typed → rt, R_keptB → rk, R_base → re, R_reads' → rr
open Go.Proofs.YtmahoekbedgbcaaW.PrintMore.Kd renaming R_told → ro, R_old → rl
mutual
def laws_FnGrows.l0 : Nat → List Int → List ByteArray → Int → List (S57) → List (S57) → Int → List (S57) → List (S57) → Int → Option (Bool)
 | 0, _, _, _, _, _, _, _, _, _ => none
 | k + 1, x9, x10, x11, x495000, x495001, x495002, x521000, x521001, x521002 => if x11 < 70 then (laws_FnGrows.j1 k x9 x10 x11 (decide ((x521001.length : Int) > 0)) x495000 x495001 x495002 x521000 x521001 x521002) else (laws_FnGrows.j1 k x9 x10 x11 false x495000 x495001 x495002 x521000 x521001 x521002)
def laws_FnGrows.j1 : Nat → List Int → List ByteArray → Int → Bool → List (S57) → List (S57) → Int → List (S57) → List (S57) → Int → Option (Bool)
 | 0, _, _, _, _, _, _, _, _, _, _ => none
 | k + 1, x9, x10, x11, x70, x495000, x495001, x495002, x521000, x521001, x521002 => if x70 = true then ((impl_TableOk.f k x521000 x521001 x521002).bind fun t532 => (if t532 = true then ((impl_KeysOf.f k x521000 x521001 x521002).bind fun t533 => ((laws_sameTexts.f k t533 x10).bind fun t536 => (laws_FnGrows.j2 k x9 x10 x11 (!t536) x495000 x495001 x495002 x521000 x521001 x521002))) else (laws_FnGrows.j2 k x9 x10 x11 true x495000 x495001 x495002 x521000 x521001 x521002))) else (if (x521001.length : Int) = 0 then (if (x521000.length : Int) = (wrap64 (2 * (x495000.length : Int))) then ((impl_TableOk.f k x521000 x521001 x521002).bind fun t527 => (if t527 = true then ((impl_KeysOf.f k x521000 x521001 x521002).bind fun t528 => ((laws_sameTexts.f k t528 x10).bind fun t531 => (some t531))) else (some false))) else (some false)) else (some false))
def laws_FnGrows.j2 : Nat → List Int → List ByteArray → Int → Bool → List (S57) → List (S57) → Int → List (S57) → List (S57) → Int → Option (Bool)
 | 0, _, _, _, _, _, _, _, _, _, _ => none
 | k + 1, x9, x10, x11, x82, x495000, x495001, x495002, x521000, x521001, x521002 => if x82 = true then (some false) else (laws_FnGrows.l1 k x9 x10 x11 0 x495000 x495001 x495002 x521000 x521001 x521002)
def laws_FnGrows.l1 : Nat → List Int → List ByteArray → Int → Int → List (S57) → List (S57) → Int → List (S57) → List (S57) → Int → Option (Bool)
 | 0, _, _, _, _, _, _, _, _, _, _ => none
 | k + 1, x9, x10, x11, x12, x495000, x495001, x495002, x521000, x521001, x521002 => if x12 < (x10.length : Int) then (if 0 ≤ x12 then ((spec_SeekKey.f k x495000 x495001 x495002 (rdOf ByteArray.empty x10 x12)).bind fun bt546 => ((impl_SeekKey.f k x521000 x521001 x521002 (rdOf ByteArray.empty x10 x12)).bind fun bt549 => (if bt549.2 = true then (if bt546.1 = bt549.1 then (laws_FnGrows.l1 k x9 x10 x11 (wrap64 (x12 + 1)) x495000 x495001 x495002 x521000 x521001 x521002) else (some false)) else (some false)))) else (none)) else (if 0 ≤ (Int.tmod x11 12) then (if (Int.tmod x11 12) < (x9.length : Int) then ((impl_MoveSome.f k x521000 x521001 x521002 (wrap64 (1 + (Int.tmod (rd x9 (Int.tmod x11 12)) 3)))).bind fun bt538 => (laws_FnGrows.l0 k x9 x10 (wrap64 (x11 + 1)) x495000 x495001 x495002 bt538.1 bt538.2.1 bt538.2.2)) else (none)) else (none))
end
def laws_FnGrows.f (k : Nat) (l0 : List Int) : Option (Bool) := (laws_big.f l0).bind fun t485 => (if t485 = true then (some true) else ((spec_DrawRightTable.f k l0).bind fun bt486 => ((impl_MoveSome.f k bt486.1 bt486.2.1 bt486.2.2.1 64).bind fun bt495 => (if (bt495.2.1.length : Int) > 0 then ((impl_GrowTable.f k bt495.1 bt495.2.1 bt495.2.2).bind fun bt502 => (if bt502.2.2.2 = true then (some false) else ((impl_TableOk.f k bt495.1 bt495.2.1 bt495.2.2).bind fun t511 => (some t511)))) else ((impl_GrowTable.f k bt495.1 bt495.2.1 bt495.2.2).bind fun bt512 => (if (bt512.2.2.2 != (decide ((wrap64 (2 * (bt495.1.length : Int))) ≤ 64))) = true then (some false) else (if bt512.2.2.2 = true then ((spec_DrawPlaces.f k l0).bind fun t521 => ((impl_KeysOf.f k bt495.1 bt495.2.1 bt495.2.2).bind fun t524 => (laws_FnGrows.l0 k t521 t524 0 bt495.1 bt495.2.1 bt495.2.2 bt512.1 bt512.2.1 bt512.2.2.1))) else (some ((bt512.1.length : Int) == 0)))))))))
def laws_FnGrows.T23 : Bool × List (List Nat × List Nat) := (true, [([], []), ([], []), ([], []), ([1, 2], [1, 2]), ([3], [3]), ([0, 4], [0, 4]), ([5], [5]), ([6], [6]), ([6], [6]), ([7, 5, 0, 1, 2, 3, 4, 5, 6, 7], [7]), ([8, 9, 0, 1, 2, 3, 4, 5, 6, 7, 8, 9], [8])])
def laws_FnGrows.B23 : List Nat := [0, 0, 0, 6, 14, 31, 63, 127, 127, 255, 1023]
theorem laws_FnGrows.tab23 : rtab .any (opsOf Try.f3 23) = laws_FnGrows.T23 := by kernel_rfl
theorem laws_FnGrows.bits23 : waitsOk laws_FnGrows.T23.2 laws_FnGrows.B23 = true := by kernel_rfl
def laws_FnGrows.T24 : Bool × List (List Nat × List Nat) := (true, [([], []), ([], []), ([], []), ([1, 2], [1, 2]), ([3], [3]), ([0, 4], [0, 4]), ([5], [5]), ([6], [6]), ([6], [6]), ([7, 5, 0, 1, 2, 3, 4, 5, 6, 7], [7]), ([8, 9, 0, 1, 2, 3, 4, 5, 6, 7, 8, 9], [8])])
def laws_FnGrows.B24 : List Nat := [0, 0, 0, 6, 14, 31, 63, 127, 127, 255, 1023]
theorem laws_FnGrows.tab24 : rtab .any (opsOf Try.f3 24) = laws_FnGrows.T24 := by kernel_rfl
theorem laws_FnGrows.bits24 : waitsOk laws_FnGrows.T24.2 laws_FnGrows.B24 = true := by kernel_rfl
def laws_FnGrows.T27 : Bool × List (List Nat × List Nat) := (true, [([], []), ([], []), ([], []), ([2], [2]), ([1, 3], [1, 3]), ([4], [4]), ([5], [5]), ([6], [6]), ([0, 7], [0, 7]), ([8, 8, 0, 1, 2, 3, 4, 5, 6, 7, 8], [8])])
def laws_FnGrows.B27 : List Nat := [0, 0, 0, 4, 14, 30, 62, 126, 255, 511]
theorem laws_FnGrows.tab27 : rtab .any (opsOf Try.f3 27) = laws_FnGrows.T27 := by kernel_rfl
theorem laws_FnGrows.bits27 : waitsOk laws_FnGrows.T27.2 laws_FnGrows.B27 = true := by kernel_rfl
set_option maxHeartbeats 8000000 in
set_option maxRecDepth 100000 in
theorem laws_FnGrows.calls (k : Nat) (A0 : Option Addr) (c0 : Nat) (l0 : List Int) (r : Bool) (w : World) (hr0 : Kd.C (Kd.int .u8) w A0 l0.length l0) (hc0 : l0.length ≤ c0) (h : laws_FnGrows.f k l0 = some r) :
  Calls Try.prog 3 #[.slice A0 l0.length c0] w fun e w' => e = .returned (.bool r) ∧ Below w.heap.size w w' := by
 have hu26 := Try.underlying26
 have HR0 := am hr0
 have HC0 := am hc0
 clear hr0 hc0
 have HB := am (Below.refl w.heap.size w)
 have H : ((laws_big.f l0).bind fun t485 => (if t485 = true then (some true) else ((spec_DrawRightTable.f k l0).bind fun bt486 => ((impl_MoveSome.f k bt486.1 bt486.2.1 bt486.2.2.1 64).bind fun bt495 => (if (bt495.2.1.length : Int) > 0 then ((impl_GrowTable.f k bt495.1 bt495.2.1 bt495.2.2).bind fun bt502 => (if bt502.2.2.2 = true then (some false) else ((impl_TableOk.f k bt495.1 bt495.2.1 bt495.2.2).bind fun t511 => (some t511)))) else ((impl_GrowTable.f k bt495.1 bt495.2.1 bt495.2.2).bind fun bt512 => (if (bt512.2.2.2 != (decide ((wrap64 (2 * (bt495.1.length : Int))) ≤ 64))) = true then (some false) else (if bt512.2.2.2 = true then ((spec_DrawPlaces.f k l0).bind fun t521 => ((impl_KeysOf.f k bt495.1 bt495.2.1 bt495.2.2).bind fun t524 => (laws_FnGrows.l0 k t521 t524 0 bt495.1 bt495.2.1 bt495.2.2 bt512.1 bt512.2.1 bt512.2.2.1))) else (some ((bt512.1.length : Int) == 0)))))))))) = some r := h
 clear h
 replace H := Option.bind_eq_some_iff.mp H
 obtain ⟨t485, A20, H⟩ := H
 try dsimp only at H
 have A2 := am A20
 clear A20
 by_cases c3 : t485 = true
 ·subst c3
  have H1 : (some true) = some r := by rw [if_pos rfl] at H; exact H
  clear H
  have H := H1
  clear H1
  obtain rfl := Option.some.inj H
  go_enter Try.func3, Try.ntmps3
  go_wp2_with (first | ((with_reducible refine gate_callee (f := 14) rfl ?_); refine xG (some 18) 14 Try.func14 #[.slice A0 l0.length c0] (h := ?_); (with_reducible refine (laws_big.calls _ _ l0 true _ ?side1 ?side2 A2.out).mono ?_); (case side1 => exact xC (HR0.out)); (case side2 => exact HC0.out); rintro e w' ⟨rfl, ⟨nd, rfl⟩⟩; refine ⟨_, rfl, ?_⟩))
  go_ret
  exact ⟨xV, xW HB.out⟩
 ·replace c3 := Bool.eq_false_iff.mpr c3
  subst c3
  have H1 : ((spec_DrawRightTable.f k l0).bind fun bt486 => ((impl_MoveSome.f k bt486.1 bt486.2.1 bt486.2.2.1 64).bind fun bt495 => (if (bt495.2.1.length : Int) > 0 then ((impl_GrowTable.f k bt495.1 bt495.2.1 bt495.2.2).bind fun bt502 => (if bt502.2.2.2 = true then (some false) else ((impl_TableOk.f k bt495.1 bt495.2.1 bt495.2.2).bind fun t511 => (some t511)))) else ((impl_GrowTable.f k bt495.1 bt495.2.1 bt495.2.2).bind fun bt512 => (if (bt512.2.2.2 != (decide ((wrap64 (2 * (bt495.1.length : Int))) ≤ 64))) = true then (some false) else (if bt512.2.2.2 = true then ((spec_DrawPlaces.f k l0).bind fun t521 => ((impl_KeysOf.f k bt495.1 bt495.2.1 bt495.2.2).bind fun t524 => (laws_FnGrows.l0 k t521 t524 0 bt495.1 bt495.2.1 bt495.2.2 bt512.1 bt512.2.1 bt512.2.2.1))) else (some ((bt512.1.length : Int) == 0)))))))) = some r := by rw [if_neg (show ¬ (false = true) by decide)] at H; exact H
  clear H
  have H := H1
  clear H1
  replace H := Option.bind_eq_some_iff.mp H
  obtain ⟨⟨t486, t489, t492, t493⟩, A40, H⟩ := H
  try dsimp only at H
  have A4 := am A40
  clear A40
  replace H := Option.bind_eq_some_iff.mp H
  obtain ⟨⟨t495, t498, t501⟩, A50, H⟩ := H
  try dsimp only at H
  have A5 := am A50
  clear A50
  by_cases c6 : (t498.length : Int) > 0
  ·rw [if_pos c6] at H
   have c6b0 : decide (0 < (t498.length : Int)) = true := decide_eq_true c6
   have c6b1 : decide (0 < t498.length) = true := decide_eq_true (by omega)
   clear c6
   replace H := Option.bind_eq_some_iff.mp H
   obtain ⟨⟨t502, t505, t508, t509⟩, A70, H⟩ := H
   try dsimp only at H
   have A7 := am A70
   clear A70
   by_cases c8 : t509 = true
   ·subst c8
    have H1 : (some false) = some r := by rw [if_pos rfl] at H; exact H
    clear H
    have H := H1
    clear H1
    obtain rfl := Option.some.inj H
    go_enter Try.func3, Try.ntmps3
    go_wp2_with (first | ((with_reducible refine gate_callee (f := 14) rfl ?_); refine xG (some 18) 14 Try.func14 #[.slice A0 l0.length c0] (h := ?_); (with_reducible refine (laws_big.calls _ _ l0 false _ ?side1 ?side2 A2.out).mono ?_); (case side1 => exact xC (HR0.out)); (case side2 => exact HC0.out); rintro e w' ⟨rfl, ⟨nd, rfl⟩⟩; refine ⟨_, rfl, ?_⟩) | ((with_reducible refine gate_callee (f := 15) rfl ?_); refine xG (some 21) 15 Try.func15 #[.slice A0 l0.length c0] (h := ?_); (with_reducible refine (spec_DrawRightTable.calls k _ _ l0 t486 t489 t492 t493 _ ?side1 ?side2 A4.out).mono ?_); (case side1 => exact xC (HR0.out)); (case side2 => exact HC0.out); rintro e w9 ⟨v487, v490, rfl, ho0, ho1, hb⟩; refine ⟨_, rfl, ?_⟩; have HO488 := am (Kd.R_lower ho0 (below_size (xW HB.out))); have HO491 := am (Kd.R_lower ho1 (below_size (xW HB.out))); replace HB := am (bs (xW HB.out) hb); (try clear hb); (try clear ho0); (try clear ho1)) | ((with_reducible refine gate_dst (N := 3) rfl ?_); (try (refine gate_guard (by rfl) ?_; dsimp only)); refine xE (N := 3) (cs := #[.slice none 0 0, .slice none 0 0, .int .i64 0]) (t := 26) (h := ?_); intro gb494 hg w10 hbox hb; replace HO488 := am (rb (xR HO488.out) hb); replace HO491 := am (rb (xR HO491.out) hb); have BK494 := am (hbox); have GW494 := am (xS hg HB.out); have GE494 := am (xS hg HB.out); replace HB := am (bs (xW HB.out) hb); clear hb hbox hg; obtain ⟨Ao11, co11, eo11⟩ := Kd.R_slice HO488.out; subst eo11; obtain ⟨hcz12_0, hcz12_1, hcz12_2, hfz12_0, hfz12_1, hfz12_2⟩ := xT3 (W := w10) BK494.out; obtain ⟨Ao13, co13, eo13⟩ := Kd.R_slice HO491.out; subst eo13) | ((with_reducible refine gate_callee (f := 16) rfl ?_); refine xG (some 25) 16 Try.func16 #[.agg #[.slice Ao11 t486.length co11, .slice Ao13 t489.length co13, .int .i64 t492], .int .i64 64] (h := ?_); (with_reducible refine (impl_MoveSome.calls k _ _ t486 _ _ t489 t492 64 t495 t498 t501 _ ?side1 ?side2 ?side3 ?side4 A5.out).mono ?_); (case side1 => exact xD HO488.out); (case side2 => exact (rr HO488.out).2.1); (case side3 => exact xD HO491.out); (case side4 => exact (rr HO491.out).2.1); rintro e w14 ⟨v496, v499, rfl, ho0, ho1, hb⟩; refine ⟨_, rfl, ?_⟩; have HO497 := am (Kd.R_lower (Kd.R_new' (Kd.R_new' ho0 (Kd.R_lt (xR HO488.out))) (Kd.R_lt (xR HO491.out))) (below_size (xW HB.out))); have HO500 := am (Kd.R_lower (Kd.R_new' (Kd.R_new' ho1 (Kd.R_lt (xR HO488.out))) (Kd.R_lt (xR HO491.out))) (below_size (xW HB.out))); replace HO488 := am (rm (ro (ro (rl (xR HO488.out) hb) (re ho0)) (re ho1)) (fun _ h_ => h_.1)); replace HO491 := am (rm (ro (ro (rl (xR HO491.out) hb) (re ho0)) (re ho1)) (fun _ h_ => h_.1)); replace BK494 := am (bb (xP BK494.out) hb); replace HB := am (bs (xW HB.out) hb); (try clear hb); (try clear ho0); (try clear ho1); obtain ⟨Ao15, co15, eo15⟩ := Kd.R_slice HO497.out; subst eo15; obtain ⟨hcz16_0, hcz16_1, hcz16_2, hfz16_0, hfz16_1, hfz16_2⟩ := xT3 (W := w14) BK494.out; obtain ⟨Ao17, co17, eo17⟩ := Kd.R_slice HO500.out; subst eo17) | ((with_reducible refine gate_callee (f := 17) rfl ?_); refine xG (some 32) 17 Try.func17 #[.agg #[.slice Ao15 t495.length co15, .slice Ao17 t498.length co17, .int .i64 t501]] (h := ?_); (with_reducible refine (impl_GrowTable.calls k _ _ t495 _ _ t498 t501 t502 t505 t508 true _ ?side1 ?side2 ?side3 ?side4 A7.out).mono ?_); (case side1 => exact xD HO497.out); (case side2 => exact (rr HO497.out).2.1); (case side3 => exact xD HO500.out); (case side4 => exact (rr HO500.out).2.1); rintro e w18 ⟨v503, v506, rfl, ho0, ho1, hb⟩; refine ⟨_, rfl, ?_⟩; have HO504 := am (Kd.R_lower (Kd.R_new' (Kd.R_new' (Kd.R_new' (Kd.R_new' ho0 (Kd.R_lt (xR HO488.out))) (Kd.R_lt (xR HO491.out))) (Kd.R_lt (xR HO497.out))) (Kd.R_lt (xR HO500.out))) (below_size (xW HB.out))); have HO507 := am (Kd.R_lower (Kd.R_new' (Kd.R_new' (Kd.R_new' (Kd.R_new' ho1 (Kd.R_lt (xR HO488.out))) (Kd.R_lt (xR HO491.out))) (Kd.R_lt (xR HO497.out))) (Kd.R_lt (xR HO500.out))) (below_size (xW HB.out))); replace HO488 := am (rm (ro (ro (rl (xR HO488.out) hb) (re ho0)) (re ho1)) (fun _ h_ => h_.1)); replace HO491 := am (rm (ro (ro (rl (xR HO491.out) hb) (re ho0)) (re ho1)) (fun _ h_ => h_.1)); replace HO497 := am (rm (ro (ro (rl (xR HO497.out) hb) (re ho0)) (re ho1)) (fun _ h_ => h_.1)); replace HO500 := am (rm (ro (ro (rl (xR HO500.out) hb) (re ho0)) (re ho1)) (fun _ h_ => h_.1)); replace BK494 := am (bb (xP BK494.out) hb); replace HB := am (bs (xW HB.out) hb); (try clear hb); (try clear ho0); (try clear ho1)) | ((with_reducible refine gate_dst (N := 5) rfl ?_); (try (refine gate_guard (by rfl) ?_; dsimp only)); refine xE (N := 5) (cs := #[.slice none 0 0, .slice none 0 0, .int .i64 0]) (t := 26) (h := ?_); intro gb510 hg w19 hbox hb; replace HO488 := am (rb (xR HO488.out) hb); replace HO491 := am (rb (xR HO491.out) hb); replace HO497 := am (rb (xR HO497.out) hb); replace HO500 := am (rb (xR HO500.out) hb); replace HO504 := am (rb (xR HO504.out) hb); replace HO507 := am (rb (xR HO507.out) hb); have BK510 := am (hbox); have GW510 := am (xS hg HB.out); have GE510 := am (xS hg HB.out); replace HB := am (bs (xW HB.out) hb); have NB494_510 := am (xN hg BK494.out); have NB510_494 := am (xM hg BK494.out); replace BK494 := am (bb (xB BK494.out) hb); clear hb hbox hg; obtain ⟨Ao20, co20, eo20⟩ := Kd.R_slice HO504.out; subst eo20; have hnb21 := NB510_494.out; have hnc21 := NB494_510.out; obtain ⟨hcz22_0, hcz22_1, hcz22_2, hfz22_0, hfz22_1, hfz22_2⟩ := xT3 (W := w19) BK510.out; obtain ⟨Ao23, co23, eo23⟩ := Kd.R_slice HO507.out; subst eo23))
    go_ret
    exact ⟨xV, xW HB.out⟩
   ·replace c8 := Bool.eq_false_iff.mpr c8
    subst c8
    have H1 : ((impl_TableOk.f k t495 t498 t501).bind fun t511 => (some t511)) = some r := by rw [if_neg (show ¬ (false = true) by decide)] at H; exact H
    clear H
    have H := H1
    clear H1
    replace H := Option.bind_eq_some_iff.mp H
    obtain ⟨t511, A240, H⟩ := H
    replace H : (some t511) = some r := H
    have A24 := am A240
    clear A240
    obtain rfl := Option.some.inj H
    go_enter Try.func3, Try.ntmps3
    go_wp2_with (first | ((with_reducible refine gate_callee (f := 14) rfl ?_); refine xG (some 18) 14 Try.func14 #[.slice A0 l0.length c0] (h := ?_); (with_reducible refine (laws_big.calls _ _ l0 false _ ?side1 ?side2 A2.out).mono ?_); (case side1 => exact xC (HR0.out)); (case side2 => exact HC0.out); rintro e w' ⟨rfl, ⟨nd, rfl⟩⟩; refine ⟨_, rfl, ?_⟩) | ((with_reducible refine gate_callee (f := 15) rfl ?_); refine xG (some 21) 15 Try.func15 #[.slice A0 l0.length c0] (h := ?_); (with_reducible refine (spec_DrawRightTable.calls k _ _ l0 t486 t489 t492 t493 _ ?side1 ?side2 A4.out).mono ?_); (case side1 => exact xC (HR0.out)); (case side2 => exact HC0.out); rintro e w25 ⟨v487, v490, rfl, ho0, ho1, hb⟩; refine ⟨_, rfl, ?_⟩; have HO488 := am (Kd.R_lower ho0 (below_size (xW HB.out))); have HO491 := am (Kd.R_lower ho1 (below_size (xW HB.out))); replace HB := am (bs (xW HB.out) hb); (try clear hb); (try clear ho0); (try clear ho1)) | ((with_reducible refine gate_dst (N := 3) rfl ?_); (try (refine gate_guard (by rfl) ?_; dsimp only)); refine xE (N := 3) (cs := #[.slice none 0 0, .slice none 0 0, .int .i64 0]) (t := 26) (h := ?_); intro gb494 hg w26 hbox hb; replace HO488 := am (rb (xR HO488.out) hb); replace HO491 := am (rb (xR HO491.out) hb); have BK494 := am (hbox); have GW494 := am (xS hg HB.out); have GE494 := am (xS hg HB.out); replace HB := am (bs (xW HB.out) hb); clear hb hbox hg; obtain ⟨Ao27, co27, eo27⟩ := Kd.R_slice HO488.out; subst eo27; obtain ⟨hcz28_0, hcz28_1, hcz28_2, hfz28_0, hfz28_1, hfz28_2⟩ := xT3 (W := w26) BK494.out; obtain ⟨Ao29, co29, eo29⟩ := Kd.R_slice HO491.out; subst eo29) | ((with_reducible refine gate_callee (f := 16) rfl ?_); refine xG (some 25) 16 Try.func16 #[.agg #[.slice Ao27 t486.length co27, .slice Ao29 t489.length co29, .int .i64 t492], .int .i64 64] (h := ?_); (with_reducible refine (impl_MoveSome.calls k _ _ t486 _ _ t489 t492 64 t495 t498 t501 _ ?side1 ?side2 ?side3 ?side4 A5.out).mono ?_); (case side1 => exact xD HO488.out); (case side2 => exact (rr HO488.out).2.1); (case side3 => exact xD HO491.out); (case side4 => exact (rr HO491.out).2.1); rintro e w30 ⟨v496, v499, rfl, ho0, ho1, hb⟩; refine ⟨_, rfl, ?_⟩; have HO497 := am (Kd.R_lower (Kd.R_new' (Kd.R_new' ho0 (Kd.R_lt (xR HO488.out))) (Kd.R_lt (xR HO491.out))) (below_size (xW HB.out))); have HO500 := am (Kd.R_lower (Kd.R_new' (Kd.R_new' ho1 (Kd.R_lt (xR HO488.out))) (Kd.R_lt (xR HO491.out))) (below_size (xW HB.out))); replace HO488 := am (rm (ro (ro (rl (xR HO488.out) hb) (re ho0)) (re ho1)) (fun _ h_ => h_.1)); replace HO491 := am (rm (ro (ro (rl (xR HO491.out) hb) (re ho0)) (re ho1)) (fun _ h_ => h_.1)); replace BK494 := am (bb (xP BK494.out) hb); replace HB := am (bs (xW HB.out) hb); (try clear hb); (try clear ho0); (try clear ho1); obtain ⟨Ao31, co31, eo31⟩ := Kd.R_slice HO497.out; subst eo31; obtain ⟨hcz32_0, hcz32_1, hcz32_2, hfz32_0, hfz32_1, hfz32_2⟩ := xT3 (W := w30) BK494.out; obtain ⟨Ao33, co33, eo33⟩ := Kd.R_slice HO500.out; subst eo33) | ((with_reducible refine gate_callee (f := 17) rfl ?_); refine xG (some 32) 17 Try.func17 #[.agg #[.slice Ao31 t495.length co31, .slice Ao33 t498.length co33, .int .i64 t501]] (h := ?_); (with_reducible refine (impl_GrowTable.calls k _ _ t495 _ _ t498 t501 t502 t505 t508 false _ ?side1 ?side2 ?side3 ?side4 A7.out).mono ?_); (case side1 => exact xD HO497.out); (case side2 => exact (rr HO497.out).2.1); (case side3 => exact xD HO500.out); (case side4 => exact (rr HO500.out).2.1); rintro e w34 ⟨v503, v506, rfl, ho0, ho1, hb⟩; refine ⟨_, rfl, ?_⟩; have HO504 := am (Kd.R_lower (Kd.R_new' (Kd.R_new' (Kd.R_new' (Kd.R_new' ho0 (Kd.R_lt (xR HO488.out))) (Kd.R_lt (xR HO491.out))) (Kd.R_lt (xR HO497.out))) (Kd.R_lt (xR HO500.out))) (below_size (xW HB.out))); have HO507 := am (Kd.R_lower (Kd.R_new' (Kd.R_new' (Kd.R_new' (Kd.R_new' ho1 (Kd.R_lt (xR HO488.out))) (Kd.R_lt (xR HO491.out))) (Kd.R_lt (xR HO497.out))) (Kd.R_lt (xR HO500.out))) (below_size (xW HB.out))); replace HO488 := am (rm (ro (ro (rl (xR HO488.out) hb) (re ho0)) (re ho1)) (fun _ h_ => h_.1)); replace HO491 := am (rm (ro (ro (rl (xR HO491.out) hb) (re ho0)) (re ho1)) (fun _ h_ => h_.1)); replace HO497 := am (rm (ro (ro (rl (xR HO497.out) hb) (re ho0)) (re ho1)) (fun _ h_ => h_.1)); replace HO500 := am (rm (ro (ro (rl (xR HO500.out) hb) (re ho0)) (re ho1)) (fun _ h_ => h_.1)); replace BK494 := am (bb (xP BK494.out) hb); replace HB := am (bs (xW HB.out) hb); (try clear hb); (try clear ho0); (try clear ho1)) | ((with_reducible refine gate_dst (N := 5) rfl ?_); (try (refine gate_guard (by rfl) ?_; dsimp only)); refine xE (N := 5) (cs := #[.slice none 0 0, .slice none 0 0, .int .i64 0]) (t := 26) (h := ?_); intro gb510 hg w35 hbox hb; replace HO488 := am (rb (xR HO488.out) hb); replace HO491 := am (rb (xR HO491.out) hb); replace HO497 := am (rb (xR HO497.out) hb); replace HO500 := am (rb (xR HO500.out) hb); replace HO504 := am (rb (xR HO504.out) hb); replace HO507 := am (rb (xR HO507.out) hb); have BK510 := am (hbox); have GW510 := am (xS hg HB.out); have GE510 := am (xS hg HB.out); replace HB := am (bs (xW HB.out) hb); have NB494_510 := am (xN hg BK494.out); have NB510_494 := am (xM hg BK494.out); replace BK494 := am (bb (xB BK494.out) hb); clear hb hbox hg; obtain ⟨Ao36, co36, eo36⟩ := Kd.R_slice HO504.out; subst eo36; have hnb37 := NB510_494.out; have hnc37 := NB494_510.out; obtain ⟨hcz38_0, hcz38_1, hcz38_2, hfz38_0, hfz38_1, hfz38_2⟩ := xT3 (W := w35) BK510.out; obtain ⟨Ao39, co39, eo39⟩ := Kd.R_slice HO507.out; subst eo39; obtain ⟨hcz40_0, hcz40_1, hcz40_2, hfz40_0, hfz40_1, hfz40_2⟩ := xT3 (W := w35) BK494.out) | (go_at_call 18; (with_reducible refine (impl_TableOk.calls k _ _ t495 _ _ t498 t501 t511 _ ?side1 ?side2 ?side3 ?side4 A24.out).mono ?_); (case side1 => exact xD HO497.out); (case side2 => exact (rr HO497.out).2.1); (case side3 => exact xD HO500.out); (case side4 => exact (rr HO500.out).2.1); rintro e w41 ⟨rfl, hb⟩; replace HO488 := am (rb (xR HO488.out) hb); replace HO491 := am (rb (xR HO491.out) hb); replace HO497 := am (rb (xR HO497.out) hb); replace HO500 := am (rb (xR HO500.out) hb); replace HO504 := am (rb (xR HO504.out) hb); replace HO507 := am (rb (xR HO507.out) hb); replace BK494 := am (bb (xB BK494.out) hb); replace BK510 := am (bb (xP BK510.out) hb); replace HB := am (bs (xW HB.out) hb); (try clear hb); ))
    go_ret
    exact ⟨xV, xW HB.out⟩
  ·rw [if_neg c6] at H
   have c6b0 : decide (0 < (t498.length : Int)) = false := decide_eq_false c6
   have c6b1 : decide (0 < t498.length) = false := decide_eq_false (by omega)
   clear c6
   replace H := Option.bind_eq_some_iff.mp H
   obtain ⟨⟨t512, t515, t518, t519⟩, A420, H⟩ := H
   try dsimp only at H
   have A42 := am A420
   clear A420
   by_cases c43 : (t519 != (decide ((wrap64 (2 * (t495.length : Int))) ≤ 64))) = true
   ·rw [if_pos c43] at H
    have c43b0 : (t519 != (decide ((wrap64 (2 * (t495.length : Int))) ≤ 64))) = true := c43
    (try (have c43b1 : decide (t519 = (decide ((wrap64 (2 * (t495.length : Int))) ≤ 64))) = false := by simpa using c43))
    (try (have c43b2 : (t519 == (decide ((wrap64 (2 * (t495.length : Int))) ≤ 64))) = false := by simpa using c43))
    (try (have c43b3 : ¬ (t519 = (decide ((wrap64 (2 * (t495.length : Int))) ≤ 64))) := by simpa using c43))
    clear c43
    obtain rfl := Option.some.inj H
    go_enter Try.func3, Try.ntmps3
    go_wp2_with (first | ((with_reducible refine gate_callee (f := 14) rfl ?_); refine xG (some 18) 14 Try.func14 #[.slice A0 l0.length c0] (h := ?_); (with_reducible refine (laws_big.calls _ _ l0 false _ ?side1 ?side2 A2.out).mono ?_); (case side1 => exact xC (HR0.out)); (case side2 => exact HC0.out); rintro e w' ⟨rfl, ⟨nd, rfl⟩⟩; refine ⟨_, rfl, ?_⟩) | ((with_reducible refine gate_callee (f := 15) rfl ?_); refine xG (some 21) 15 Try.func15 #[.slice A0 l0.length c0] (h := ?_); (with_reducible refine (spec_DrawRightTable.calls k _ _ l0 t486 t489 t492 t493 _ ?side1 ?side2 A4.out).mono ?_); (case side1 => exact xC (HR0.out)); (case side2 => exact HC0.out); rintro e w44 ⟨v487, v490, rfl, ho0, ho1, hb⟩; refine ⟨_, rfl, ?_⟩; have HO488 := am (Kd.R_lower ho0 (below_size (xW HB.out))); have HO491 := am (Kd.R_lower ho1 (below_size (xW HB.out))); replace HB := am (bs (xW HB.out) hb); (try clear hb); (try clear ho0); (try clear ho1)) | ((with_reducible refine gate_dst (N := 3) rfl ?_); (try (refine gate_guard (by rfl) ?_; dsimp only)); refine xE (N := 3) (cs := #[.slice none 0 0, .slice none 0 0, .int .i64 0]) (t := 26) (h := ?_); intro gb494 hg w45 hbox hb; replace HO488 := am (rb (xR HO488.out) hb); replace HO491 := am (rb (xR HO491.out) hb); have BK494 := am (hbox); have GW494 := am (xS hg HB.out); have GE494 := am (xS hg HB.out); replace HB := am (bs (xW HB.out) hb); clear hb hbox hg; obtain ⟨Ao46, co46, eo46⟩ := Kd.R_slice HO488.out; subst eo46; obtain ⟨hcz47_0, hcz47_1, hcz47_2, hfz47_0, hfz47_1, hfz47_2⟩ := xT3 (W := w45) BK494.out; obtain ⟨Ao48, co48, eo48⟩ := Kd.R_slice HO491.out; subst eo48) | ((with_reducible refine gate_callee (f := 16) rfl ?_); refine xG (some 25) 16 Try.func16 #[.agg #[.slice Ao46 t486.length co46, .slice Ao48 t489.length co48, .int .i64 t492], .int .i64 64] (h := ?_); (with_reducible refine (impl_MoveSome.calls k _ _ t486 _ _ t489 t492 64 t495 t498 t501 _ ?side1 ?side2 ?side3 ?side4 A5.out).mono ?_); (case side1 => exact xD HO488.out); (case side2 => exact (rr HO488.out).2.1); (case side3 => exact xD HO491.out); (case side4 => exact (rr HO491.out).2.1); rintro e w49 ⟨v496, v499, rfl, ho0, ho1, hb⟩; refine ⟨_, rfl, ?_⟩; have HO497 := am (Kd.R_lower (Kd.R_new' (Kd.R_new' ho0 (Kd.R_lt (xR HO488.out))) (Kd.R_lt (xR HO491.out))) (below_size (xW HB.out))); have HO500 := am (Kd.R_lower (Kd.R_new' (Kd.R_new' ho1 (Kd.R_lt (xR HO488.out))) (Kd.R_lt (xR HO491.out))) (below_size (xW HB.out))); replace HO488 := am (rm (ro (ro (rl (xR HO488.out) hb) (re ho0)) (re ho1)) (fun _ h_ => h_.1)); replace HO491 := am (rm (ro (ro (rl (xR HO491.out) hb) (re ho0)) (re ho1)) (fun _ h_ => h_.1)); replace BK494 := am (bb (xP BK494.out) hb); replace HB := am (bs (xW HB.out) hb); (try clear hb); (try clear ho0); (try clear ho1); obtain ⟨Ao50, co50, eo50⟩ := Kd.R_slice HO497.out; subst eo50; obtain ⟨hcz51_0, hcz51_1, hcz51_2, hfz51_0, hfz51_1, hfz51_2⟩ := xT3 (W := w49) BK494.out; obtain ⟨Ao52, co52, eo52⟩ := Kd.R_slice HO500.out; subst eo52) | ((with_reducible refine gate_callee (f := 17) rfl ?_); refine xG (some 43) 17 Try.func17 #[.agg #[.slice Ao50 t495.length co50, .slice Ao52 t498.length co52, .int .i64 t501]] (h := ?_); (with_reducible refine (impl_GrowTable.calls k _ _ t495 _ _ t498 t501 t512 t515 t518 t519 _ ?side1 ?side2 ?side3 ?side4 A42.out).mono ?_); (case side1 => exact xD HO497.out); (case side2 => exact (rr HO497.out).2.1); (case side3 => exact xD HO500.out); (case side4 => exact (rr HO500.out).2.1); rintro e w53 ⟨v513, v516, rfl, ho0, ho1, hb⟩; refine ⟨_, rfl, ?_⟩; have HO514 := am (Kd.R_lower (Kd.R_new' (Kd.R_new' (Kd.R_new' (Kd.R_new' ho0 (Kd.R_lt (xR HO488.out))) (Kd.R_lt (xR HO491.out))) (Kd.R_lt (xR HO497.out))) (Kd.R_lt (xR HO500.out))) (below_size (xW HB.out))); have HO517 := am (Kd.R_lower (Kd.R_new' (Kd.R_new' (Kd.R_new' (Kd.R_new' ho1 (Kd.R_lt (xR HO488.out))) (Kd.R_lt (xR HO491.out))) (Kd.R_lt (xR HO497.out))) (Kd.R_lt (xR HO500.out))) (below_size (xW HB.out))); replace HO488 := am (rm (ro (ro (rl (xR HO488.out) hb) (re ho0)) (re ho1)) (fun _ h_ => h_.1)); replace HO491 := am (rm (ro (ro (rl (xR HO491.out) hb) (re ho0)) (re ho1)) (fun _ h_ => h_.1)); replace HO497 := am (rm (ro (ro (rl (xR HO497.out) hb) (re ho0)) (re ho1)) (fun _ h_ => h_.1)); replace HO500 := am (rm (ro (ro (rl (xR HO500.out) hb) (re ho0)) (re ho1)) (fun _ h_ => h_.1)); replace BK494 := am (bb (xP BK494.out) hb); replace HB := am (bs (xW HB.out) hb); (try clear hb); (try clear ho0); (try clear ho1)) | ((with_reducible refine gate_dst (N := 7) rfl ?_); (try (refine gate_guard (by rfl) ?_; dsimp only)); refine xE (N := 7) (cs := #[.slice none 0 0, .slice none 0 0, .int .i64 0]) (t := 26) (h := ?_); intro gb520 hg w54 hbox hb; replace HO488 := am (rb (xR HO488.out) hb); replace HO491 := am (rb (xR HO491.out) hb); replace HO497 := am (rb (xR HO497.out) hb); replace HO500 := am (rb (xR HO500.out) hb); replace HO514 := am (rb (xR HO514.out) hb); replace HO517 := am (rb (xR HO517.out) hb); have BK520 := am (hbox); have GW520 := am (xS hg HB.out); have GE520 := am (xS hg HB.out); replace HB := am (bs (xW HB.out) hb); have NB494_520 := am (xN hg BK494.out); have NB520_494 := am (xM hg BK494.out); replace BK494 := am (bb (xB BK494.out) hb); clear hb hbox hg; obtain ⟨Ao55, co55, eo55⟩ := Kd.R_slice HO514.out; subst eo55; have hnb56 := NB520_494.out; have hnc56 := NB494_520.out; obtain ⟨hcz57_0, hcz57_1, hcz57_2, hfz57_0, hfz57_1, hfz57_2⟩ := xT3 (W := w54) BK520.out; obtain ⟨Ao58, co58, eo58⟩ := Kd.R_slice HO517.out; subst eo58; obtain ⟨hcz59_0, hcz59_1, hcz59_2, hfz59_0, hfz59_1, hfz59_2⟩ := xT3 (W := w54) BK494.out))
    go_ret
    exact ⟨xV, xW HB.out⟩
   ·rw [if_neg c43] at H
    have c43b0 : (t519 != (decide ((wrap64 (2 * (t495.length : Int))) ≤ 64))) = false := by simpa using c43
    (try (have c43b1 : decide (t519 = (decide ((wrap64 (2 * (t495.length : Int))) ≤ 64))) = true := by simpa using c43))
    (try (have c43b2 : (t519 == (decide ((wrap64 (2 * (t495.length : Int))) ≤ 64))) = true := by simpa using c43))
    clear c43
    by_cases c60 : t519 = true
    ·subst c60
     have H1 : ((spec_DrawPlaces.f k l0).bind fun t521 => ((impl_KeysOf.f k t495 t498 t501).bind fun t524 => (laws_FnGrows.l0 k t521 t524 0 t495 t498 t501 t512 t515 t518))) = some r := by rw [if_pos rfl] at H; exact H
     clear H
     have H := H1
     clear H1
     replace H := Option.bind_eq_some_iff.mp H
     obtain ⟨t521, A610, H⟩ := H
     try dsimp only at H
     have A61 := am A610
     clear A610
     replace H := Option.bind_eq_some_iff.mp H
     obtain ⟨t524, A620, H⟩ := H
     try dsimp only at H
     have A62 := am A620
     clear A620
     have H' := am H
     clear H
     go_enter Try.func3, Try.ntmps3
     go_wp2_with (first | ((with_reducible refine gate_callee (f := 14) rfl ?_); refine xG (some 18) 14 Try.func14 #[.slice A0 l0.length c0] (h := ?_); (with_reducible refine (laws_big.calls _ _ l0 false _ ?side1 ?side2 A2.out).mono ?_); (case side1 => exact xC (HR0.out)); (case side2 => exact HC0.out); rintro e w' ⟨rfl, ⟨nd, rfl⟩⟩; refine ⟨_, rfl, ?_⟩) | ((with_reducible refine gate_callee (f := 15) rfl ?_); refine xG (some 21) 15 Try.func15 #[.slice A0 l0.length c0] (h := ?_); (with_reducible refine (spec_DrawRightTable.calls k _ _ l0 t486 t489 t492 t493 _ ?side1 ?side2 A4.out).mono ?_); (case side1 => exact xC (HR0.out)); (case side2 => exact HC0.out); rintro e w63 ⟨v487, v490, rfl, ho0, ho1, hb⟩; refine ⟨_, rfl, ?_⟩; have HO488 := am (Kd.R_lower ho0 (below_size (xW HB.out))); have HO491 := am (Kd.R_lower ho1 (below_size (xW HB.out))); replace HB := am (bs (xW HB.out) hb); (try clear hb); (try clear ho0); (try clear ho1)) | ((with_reducible refine gate_dst (N := 3) rfl ?_); (try (refine gate_guard (by rfl) ?_; dsimp only)); refine xE (N := 3) (cs := #[.slice none 0 0, .slice none 0 0, .int .i64 0]) (t := 26) (h := ?_); intro gb494 hg w64 hbox hb; replace HO488 := am (rb (xR HO488.out) hb); replace HO491 := am (rb (xR HO491.out) hb); have BK494 := am (hbox); have GW494 := am (xS hg HB.out); have GE494 := am (xS hg HB.out); replace HB := am (bs (xW HB.out) hb); clear hb hbox hg; obtain ⟨Ao65, co65, eo65⟩ := Kd.R_slice HO488.out; subst eo65; obtain ⟨hcz66_0, hcz66_1, hcz66_2, hfz66_0, hfz66_1, hfz66_2⟩ := xT3 (W := w64) BK494.out; obtain ⟨Ao67, co67, eo67⟩ := Kd.R_slice HO491.out; subst eo67) | ((with_reducible refine gate_callee (f := 16) rfl ?_); refine xG (some 25) 16 Try.func16 #[.agg #[.slice Ao65 t486.length co65, .slice Ao67 t489.length co67, .int .i64 t492], .int .i64 64] (h := ?_); (with_reducible refine (impl_MoveSome.calls k _ _ t486 _ _ t489 t492 64 t495 t498 t501 _ ?side1 ?side2 ?side3 ?side4 A5.out).mono ?_); (case side1 => exact xD HO488.out); (case side2 => exact (rr HO488.out).2.1); (case side3 => exact xD HO491.out); (case side4 => exact (rr HO491.out).2.1); rintro e w68 ⟨v496, v499, rfl, ho0, ho1, hb⟩; refine ⟨_, rfl, ?_⟩; have HO497 := am (Kd.R_lower (Kd.R_new' (Kd.R_new' ho0 (Kd.R_lt (xR HO488.out))) (Kd.R_lt (xR HO491.out))) (below_size (xW HB.out))); have HO500 := am (Kd.R_lower (Kd.R_new' (Kd.R_new' ho1 (Kd.R_lt (xR HO488.out))) (Kd.R_lt (xR HO491.out))) (below_size (xW HB.out))); replace HO488 := am (rm (ro (ro (rl (xR HO488.out) hb) (re ho0)) (re ho1)) (fun _ h_ => h_.1)); replace HO491 := am (rm (ro (ro (rl (xR HO491.out) hb) (re ho0)) (re ho1)) (fun _ h_ => h_.1)); replace BK494 := am (bb (xP BK494.out) hb); replace HB := am (bs (xW HB.out) hb); (try clear hb); (try clear ho0); (try clear ho1); obtain ⟨Ao69, co69, eo69⟩ := Kd.R_slice HO497.out; subst eo69; obtain ⟨hcz70_0, hcz70_1, hcz70_2, hfz70_0, hfz70_1, hfz70_2⟩ := xT3 (W := w68) BK494.out; obtain ⟨Ao71, co71, eo71⟩ := Kd.R_slice HO500.out; subst eo71) | ((with_reducible refine gate_callee (f := 17) rfl ?_); refine xG (some 43) 17 Try.func17 #[.agg #[.slice Ao69 t495.length co69, .slice Ao71 t498.length co71, .int .i64 t501]] (h := ?_); (with_reducible refine (impl_GrowTable.calls k _ _ t495 _ _ t498 t501 t512 t515 t518 true _ ?side1 ?side2 ?side3 ?side4 A42.out).mono ?_); (case side1 => exact xD HO497.out); (case side2 => exact (rr HO497.out).2.1); (case side3 => exact xD HO500.out); (case side4 => exact (rr HO500.out).2.1); rintro e w72 ⟨v513, v516, rfl, ho0, ho1, hb⟩; refine ⟨_, rfl, ?_⟩; have HO514 := am (Kd.R_lower (Kd.R_new' (Kd.R_new' (Kd.R_new' (Kd.R_new' ho0 (Kd.R_lt (xR HO488.out))) (Kd.R_lt (xR HO491.out))) (Kd.R_lt (xR HO497.out))) (Kd.R_lt (xR HO500.out))) (below_size (xW HB.out))); have HO517 := am (Kd.R_lower (Kd.R_new' (Kd.R_new' (Kd.R_new' (Kd.R_new' ho1 (Kd.R_lt (xR HO488.out))) (Kd.R_lt (xR HO491.out))) (Kd.R_lt (xR HO497.out))) (Kd.R_lt (xR HO500.out))) (below_size (xW HB.out))); replace HO488 := am (rm (ro (ro (rl (xR HO488.out) hb) (re ho0)) (re ho1)) (fun _ h_ => h_.1)); replace HO491 := am (rm (ro (ro (rl (xR HO491.out) hb) (re ho0)) (re ho1)) (fun _ h_ => h_.1)); replace HO497 := am (rm (ro (ro (rl (xR HO497.out) hb) (re ho0)) (re ho1)) (fun _ h_ => h_.1)); replace HO500 := am (rm (ro (ro (rl (xR HO500.out) hb) (re ho0)) (re ho1)) (fun _ h_ => h_.1)); replace BK494 := am (bb (xP BK494.out) hb); replace HB := am (bs (xW HB.out) hb); (try clear hb); (try clear ho0); (try clear ho1)) | ((with_reducible refine gate_dst (N := 7) rfl ?_); (try (refine gate_guard (by rfl) ?_; dsimp only)); refine xE (N := 7) (cs := #[.slice none 0 0, .slice none 0 0, .int .i64 0]) (t := 26) (h := ?_); intro gb520 hg w73 hbox hb; replace HO488 := am (rb (xR HO488.out) hb); replace HO491 := am (rb (xR HO491.out) hb); replace HO497 := am (rb (xR HO497.out) hb); replace HO500 := am (rb (xR HO500.out) hb); replace HO514 := am (rb (xR HO514.out) hb); replace HO517 := am (rb (xR HO517.out) hb); have BK520 := am (hbox); have GW520 := am (xS hg HB.out); have GE520 := am (xS hg HB.out); replace HB := am (bs (xW HB.out) hb); have NB494_520 := am (xN hg BK494.out); have NB520_494 := am (xM hg BK494.out); replace BK494 := am (bb (xB BK494.out) hb); clear hb hbox hg; obtain ⟨Ao74, co74, eo74⟩ := Kd.R_slice HO514.out; subst eo74; have hnb75 := NB520_494.out; have hnc75 := NB494_520.out; obtain ⟨hcz76_0, hcz76_1, hcz76_2, hfz76_0, hfz76_1, hfz76_2⟩ := xT3 (W := w73) BK520.out; obtain ⟨Ao77, co77, eo77⟩ := Kd.R_slice HO517.out; subst eo77; obtain ⟨hcz78_0, hcz78_1, hcz78_2, hfz78_0, hfz78_1, hfz78_2⟩ := xT3 (W := w73) BK494.out) | ((with_reducible refine gate_callee (f := 19) rfl ?_); refine xG (some 60) 19 Try.func19 #[.slice A0 l0.length c0] (h := ?_); (with_reducible refine (spec_DrawPlaces.calls k _ _ l0 t521 _ ?side1 ?side2 A61.out).mono ?_); (case side1 => exact Kd.C_below HR0.out (xW HB.out)); (case side2 => exact HC0.out); rintro e w79 ⟨v522, rfl, ho0, hb⟩; refine ⟨_, rfl, ?_⟩; replace HO488 := am (rb (xR HO488.out) hb); replace HO491 := am (rb (xR HO491.out) hb); replace HO497 := am (rb (xR HO497.out) hb); replace HO500 := am (rb (xR HO500.out) hb); replace HO514 := am (rb (xR HO514.out) hb); replace HO517 := am (rb (xR HO517.out) hb); have HO523 := am (Kd.R_lower ho0 (below_size (xW HB.out))); replace BK494 := am (bb (xB BK494.out) hb); replace BK520 := am (bb (xP BK520.out) hb); replace HB := am (bs (xW HB.out) hb); (try clear hb); (try clear ho0); obtain ⟨hcz80_0, hcz80_1, hcz80_2, hfz80_0, hfz80_1, hfz80_2⟩ := xT3 (W := w79) BK494.out) | ((with_reducible refine gate_callee (f := 20) rfl ?_); refine xG (some 62) 20 Try.func20 #[.agg #[.slice Ao69 t495.length co69, .slice Ao71 t498.length co71, .int .i64 t501]] (h := ?_); (with_reducible refine (impl_KeysOf.calls k _ _ t495 _ _ t498 t501 t524 _ ?side1 ?side2 ?side3 ?side4 A62.out).mono ?_); (case side1 => exact xC ((rr HO497.out).2.2)); (case side2 => exact (rr HO497.out).2.1); (case side3 => exact xC ((rr HO500.out).2.2)); (case side4 => exact (rr HO500.out).2.1); rintro e w81 ⟨v525, rfl, ho0, hb⟩; refine ⟨_, rfl, ?_⟩; replace HO488 := am (rb (xR HO488.out) hb); replace HO491 := am (rb (xR HO491.out) hb); replace HO497 := am (rb (xR HO497.out) hb); replace HO500 := am (rb (xR HO500.out) hb); replace HO514 := am (rb (xR HO514.out) hb); replace HO517 := am (rb (xR HO517.out) hb); replace HO523 := am (rb (xR HO523.out) hb); have HO526 := am (Kd.R_lower ho0 (below_size (xW HB.out))); replace BK494 := am (bb (xB BK494.out) hb); replace BK520 := am (bb (xB BK520.out) hb); replace HB := am (bs (xW HB.out) hb); (try clear hb); (try clear ho0)))
     go_loopg [11] k (fun kq v11 w' => ∃ (x11_1 : Int) (x521000_1 : List (S57)) (x521001_1 : List (S57)) (x521002_1 : Int) (u521000 : Value) (u521001 : Value), v11 = .int .i64 x11_1 ∧ Aside0 (laws_FnGrows.l0 kq t521 t524 x11_1 t495 t498 t501 x521000_1 x521001_1 x521002_1 = some r) ∧ Aside0 (kq ≤ k) ∧ Aside0 (Kd.R (Kd.int .i64) 3 w' w.heap.size (fun _ => True) v522 t521) ∧ Aside0 (Kd.R Kd.string 9 w' w.heap.size (fun _ => True) v525 t524) ∧ Aside0 (Kd.R k57 57 w' w.heap.size (fun k_ => some k_ ≠ ((.slice Ao71 t498.length co71) : Value).ownBlock ∧ some k_ ≠ (u521000 : Value).ownBlock ∧ some k_ ≠ (u521001 : Value).ownBlock) (.slice Ao69 t495.length co69) t495) ∧ Aside0 (Kd.R k57 57 w' w.heap.size (fun k_ => some k_ ≠ ((.slice Ao69 t495.length co69) : Value).ownBlock ∧ some k_ ≠ (u521000 : Value).ownBlock ∧ some k_ ≠ (u521001 : Value).ownBlock) (.slice Ao71 t498.length co71) t498) ∧ Aside0 (Kd.R k57 57 w' w.heap.size (fun k_ => some k_ ≠ ((.slice Ao69 t495.length co69) : Value).ownBlock ∧ some k_ ≠ ((.slice Ao71 t498.length co71) : Value).ownBlock ∧ some k_ ≠ (u521001 : Value).ownBlock) u521000 x521000_1) ∧ Aside0 (Kd.R k57 57 w' w.heap.size (fun k_ => some k_ ≠ ((.slice Ao69 t495.length co69) : Value).ownBlock ∧ some k_ ≠ ((.slice Ao71 t498.length co71) : Value).ownBlock ∧ some k_ ≠ (u521000 : Value).ownBlock) u521001 x521001_1) ∧ Aside0 (w'.heap[gb494]? = some (.cells #[(.slice Ao69 t495.length co69), (.slice Ao71 t498.length co71), .int .i64 t501] 26 (0, 0))) ∧ Aside0 (w'.heap[gb520]? = some (.cells #[u521000, u521001, .int .i64 x521002_1] 26 (0, 0))) ∧ Aside0 (Below w.heap.size w w'))
     case atStart => exact ⟨(0), (t512), (t515), (t518), (.slice Ao74 t512.length co74), (.slice Ao77 t515.length co77), (xQ), H', ⟨Nat.le_refl _⟩, ⟨xR HO523.out⟩, ⟨xR HO526.out⟩, ⟨Kd.R_mono (xR HO497.out) xI⟩, ⟨Kd.R_mono (xR HO500.out) xI⟩, ⟨Kd.R_mono (xR HO514.out) xI⟩, ⟨Kd.R_mono (xR HO517.out) xI⟩, ⟨xB BK494.out⟩, ⟨xB BK520.out⟩, ⟨xW HB.out⟩⟩
     case round =>
      clear H'
      try clear c1
      try clear c2
      try clear p2
      try clear c3
      try clear c4
      try clear c5
      try clear c6
      try clear c6b0
      try clear c6b1
      try clear p6
      try clear c7
      try clear c8
      try clear c14
      try clear c15
      try clear c16
      try clear c17
      try clear c19
      try clear c20
      try clear c21
      try clear c37
      try clear c43
      try clear c43b0
      try clear c43b1
      try clear c43b2
      try clear c56
      try clear c60
      try clear p64
      try clear c75
      try clear hcz12_0
      try clear hcz12_1
      try clear hcz12_2
      try clear hcz16_0
      try clear hcz16_1
      try clear hcz16_2
      try clear hcz22_0
      try clear hcz22_1
      try clear hcz22_2
      try clear hcz28_0
      try clear hcz28_1
      try clear hcz28_2
      try clear hcz32_0
      try clear hcz32_1
      try clear hcz32_2
      try clear hcz38_0
      try clear hcz38_1
      try clear hcz38_2
      try clear hcz40_0
      try clear hcz40_1
      try clear hcz40_2
      try clear hcz47_0
      try clear hcz47_1
      try clear hcz47_2
      try clear hcz51_0
      try clear hcz51_1
      try clear hcz51_2
      try clear hcz57_0
      try clear hcz57_1
      try clear hcz57_2
      try clear hcz59_0
      try clear hcz59_1
      try clear hcz59_2
      try clear hcz66_0
      try clear hcz66_1
      try clear hcz66_2
      try clear hcz70_0
      try clear hcz70_1
      try clear hcz70_2
      try clear hcz76_0
      try clear hcz76_1
      try clear hcz76_2
      try clear hcz78_0
      try clear hcz78_1
      try clear hcz78_2
      try clear hcz80_0
      try clear hcz80_1
      try clear hcz80_2
      try clear hfz12_0
      try clear hfz12_1
      try clear hfz12_2
      try clear hfz16_0
      try clear hfz16_1
      try clear hfz16_2
      try clear hfz22_0
      try clear hfz22_1
      try clear hfz22_2
      try clear hfz28_0
      try clear hfz28_1
      try clear hfz28_2
      try clear hfz32_0
      try clear hfz32_1
      try clear hfz32_2
      try clear hfz38_0
      try clear hfz38_1
      try clear hfz38_2
      try clear hfz40_0
      try clear hfz40_1
      try clear hfz40_2
      try clear hfz47_0
      try clear hfz47_1
      try clear hfz47_2
      try clear hfz51_0
      try clear hfz51_1
      try clear hfz51_2
      try clear hfz57_0
      try clear hfz57_1
      try clear hfz57_2
      try clear hfz59_0
      try clear hfz59_1
      try clear hfz59_2
      try clear hfz66_0
      try clear hfz66_1
      try clear hfz66_2
      try clear hfz70_0
      try clear hfz70_1
      try clear hfz70_2
      try clear hfz76_0
      try clear hfz76_1
      try clear hfz76_2
      try clear hfz78_0
      try clear hfz78_1
      try clear hfz78_2
      try clear hfz80_0
      try clear hfz80_1
      try clear hfz80_2
      obtain ⟨x11_1, x521000_1, x521001_1, x521002_1, u521000, u521001, rfl, HA, HK1, HO_9, HO_10, HO_495000, HO_495001, HO_521000, HO_521001, BK494, BK520, HB⟩ := hrel
      cases gk with
      | zero => exact absurd HA.out (by simp [laws_FnGrows.l0])
      | succ k1 =>
       have H := HA.out
       clear HA
       simp only [laws_FnGrows.l0] at H
       have HC82 := am H
       clear H
       go_upto_region 16 with (fail)
       go_cut [70] (fun v70 wc => ∃ (kq : Nat) (x70_81 : Bool), v70 = .bool x70_81 ∧ Aside0 (laws_FnGrows.j1 kq t521 t524 x11_1 x70_81 t495 t498 t501 x521000_1 x521001_1 x521002_1 = some r) ∧ Aside0 (kq ≤ k1) ∧ Aside0 (Kd.R (Kd.int .i64) 3 wc w.heap.size (fun _ => True) v522 t521) ∧ Aside0 (Kd.R Kd.string 9 wc w.heap.size (fun _ => True) v525 t524) ∧ Aside0 (Kd.R k57 57 wc w.heap.size (fun k_ => some k_ ≠ ((.slice Ao71 t498.length co71) : Value).ownBlock ∧ some k_ ≠ (u521000 : Value).ownBlock ∧ some k_ ≠ (u521001 : Value).ownBlock) (.slice Ao69 t495.length co69) t495) ∧ Aside0 (Kd.R k57 57 wc w.heap.size (fun k_ => some k_ ≠ ((.slice Ao69 t495.length co69) : Value).ownBlock ∧ some k_ ≠ (u521000 : Value).ownBlock ∧ some k_ ≠ (u521001 : Value).ownBlock) (.slice Ao71 t498.length co71) t498) ∧ Aside0 (Kd.R k57 57 wc w.heap.size (fun k_ => some k_ ≠ ((.slice Ao69 t495.length co69) : Value).ownBlock ∧ some k_ ≠ ((.slice Ao71 t498.length co71) : Value).ownBlock ∧ some k_ ≠ (u521001 : Value).ownBlock) u521000 x521000_1) ∧ Aside0 (Kd.R k57 57 wc w.heap.size (fun k_ => some k_ ≠ ((.slice Ao69 t495.length co69) : Value).ownBlock ∧ some k_ ≠ ((.slice Ao71 t498.length co71) : Value).ownBlock ∧ some k_ ≠ (u521000 : Value).ownBlock) u521001 x521001_1) ∧ Aside0 (wc.heap[gb494]? = some (.cells #[(.slice Ao69 t495.length co69), (.slice Ao71 t498.length co71), .int .i64 t501] 26 (0, 0))) ∧ Aside0 (wc.heap[gb520]? = some (.cells #[u521000, u521001, .int .i64 x521002_1] 26 (0, 0))) ∧ Aside0 (Below w.heap.size w wc))
       case first =>
        have H := HC82.out
        clear HC82
        by_cases c83 : x11_1 < 70
        ·rw [if_pos c83] at H
         have c83b0 : decide (x11_1 < 70) = true := decide_eq_true c83
         clear c83
         (first | rw [c83b0] | (simp only [i64_w, i32_w]; rw [c83b0]) | skip)
         have H' := am H
         clear H
         have hnb84 := NB520_494.out
         have hnc84 := NB494_520.out
         obtain ⟨hcz85_0, hcz85_1, hcz85_2, hfz85_0, hfz85_1, hfz85_2⟩ := xT3 (W := wr) BK520.out
         obtain ⟨Ao86, co86, eo86⟩ := Kd.R_slice HO_521001.out
         subst eo86
         go_wp2
         go_meet
         case rel => exact ⟨_, (decide ((x521001_1.length : Int) > 0)), (xQ), H', ⟨by have := HK1.out; first | omega | exact Nat.le_refl _⟩, ⟨xR HO_9.out⟩, ⟨xR HO_10.out⟩, ⟨xR HO_495000.out⟩, ⟨xR HO_495001.out⟩, ⟨xR HO_521000.out⟩, ⟨xR HO_521001.out⟩, ⟨xB BK494.out⟩, ⟨xB BK520.out⟩, ⟨xW HB.out⟩⟩
        ·rw [if_neg c83] at H
         have c83b0 : decide (x11_1 < 70) = false := decide_eq_false c83
         clear c83
         (first | rw [c83b0] | (simp only [i64_w, i32_w]; rw [c83b0]) | skip)
         have H' := am H
         clear H
         go_wp2
         go_meet
         case rel => exact ⟨_, (false), (xQ), H', ⟨by have := HK1.out; first | omega | exact Nat.le_refl _⟩, ⟨xR HO_9.out⟩, ⟨xR HO_10.out⟩, ⟨xR HO_495000.out⟩, ⟨xR HO_495001.out⟩, ⟨xR HO_521000.out⟩, ⟨xR HO_521001.out⟩, ⟨xB BK494.out⟩, ⟨xB BK520.out⟩, ⟨xW HB.out⟩⟩
       case rest =>
        clear HC82
        try clear c1
        try clear c2
        try clear p2
        try clear c3
        try clear c4
        try clear c5
        try clear c6
        try clear c6b0
        try clear c6b1
        try clear p6
        try clear c7
        try clear c8
        try clear c14
        try clear c15
        try clear c16
        try clear c17
        try clear c19
        try clear c20
        try clear c21
        try clear c37
        try clear c43
        try clear c43b0
        try clear c43b1
        try clear c43b2
        try clear c56
        try clear c60
        try clear p64
        try clear c75
        try clear c83
        try clear c83b0
        try clear c84
        try clear hcz12_0
        try clear hcz12_1
        try clear hcz12_2
        try clear hcz16_0
        try clear hcz16_1
        try clear hcz16_2
        try clear hcz22_0
        try clear hcz22_1
        try clear hcz22_2
        try clear hcz28_0
        try clear hcz28_1
        try clear hcz28_2
        try clear hcz32_0
        try clear hcz32_1
        try clear hcz32_2
        try clear hcz38_0
        try clear hcz38_1
        try clear hcz38_2
        try clear hcz40_0
        try clear hcz40_1
        try clear hcz40_2
        try clear hcz47_0
        try clear hcz47_1
        try clear hcz47_2
        try clear hcz51_0
        try clear hcz51_1
        try clear hcz51_2
        try clear hcz57_0
        try clear hcz57_1
        try clear hcz57_2
        try clear hcz59_0
        try clear hcz59_1
        try clear hcz59_2
        try clear hcz66_0
        try clear hcz66_1
        try clear hcz66_2
        try clear hcz70_0
        try clear hcz70_1
        try clear hcz70_2
        try clear hcz76_0
        try clear hcz76_1
        try clear hcz76_2
        try clear hcz78_0
        try clear hcz78_1
        try clear hcz78_2
        try clear hcz80_0
        try clear hcz80_1
        try clear hcz80_2
        try clear hcz85_0
        try clear hcz85_1
        try clear hcz85_2
        try clear hfz12_0
        try clear hfz12_1
        try clear hfz12_2
        try clear hfz16_0
        try clear hfz16_1
        try clear hfz16_2
        try clear hfz22_0
        try clear hfz22_1
        try clear hfz22_2
        try clear hfz28_0
        try clear hfz28_1
        try clear hfz28_2
        try clear hfz32_0
        try clear hfz32_1
        try clear hfz32_2
        try clear hfz38_0
        try clear hfz38_1
        try clear hfz38_2
        try clear hfz40_0
        try clear hfz40_1
        try clear hfz40_2
        try clear hfz47_0
        try clear hfz47_1
        try clear hfz47_2
        try clear hfz51_0
        try clear hfz51_1
        try clear hfz51_2
        try clear hfz57_0
        try clear hfz57_1
        try clear hfz57_2
        try clear hfz59_0
        try clear hfz59_1
        try clear hfz59_2
        try clear hfz66_0
        try clear hfz66_1
        try clear hfz66_2
        try clear hfz70_0
        try clear hfz70_1
        try clear hfz70_2
        try clear hfz76_0
        try clear hfz76_1
        try clear hfz76_2
        try clear hfz78_0
        try clear hfz78_1
        try clear hfz78_2
        try clear hfz80_0
        try clear hfz80_1
        try clear hfz80_2
        try clear hfz85_0
        try clear hfz85_1
        try clear hfz85_2
        try clear p2
        try clear p6
        try clear p64
        obtain ⟨kq, x70_81, rfl, HA, HJ81, HO_9, HO_10, HO_495000, HO_495001, HO_521000, HO_521001, BK494, BK520, HB⟩ := hcut
        cases kq with
        | zero => exact absurd HA.out (by simp [laws_FnGrows.j1])
        | succ kj81 =>
         have H := HA.out
         clear HA
         simp only [laws_FnGrows.j1] at H
         by_cases c87 : x70_81 = true
         ·subst c87
          have H1 : ((impl_TableOk.f kj81 x521000_1 x521001_1 x521002_1).bind fun t532 => (if t532 = true then ((impl_KeysOf.f kj81 x521000_1 x521001_1 x521002_1).bind fun t533 => ((laws_sameTexts.f kj81 t533 t524).bind fun t536 => (laws_FnGrows.j2 kj81 t521 t524 x11_1 (!t536) t495 t498 t501 x521000_1 x521001_1 x521002_1))) else (laws_FnGrows.j2 kj81 t521 t524 x11_1 true t495 t498 t501 x521000_1 x521001_1 x521002_1))) = some r := by rw [if_pos rfl] at H; exact H
          clear H
          have H := H1
          clear H1
          have HC88 := am H
          clear H
          go_upto_region 18 with (fail)
          go_cut [82] (fun v82 wc => ∃ (kq : Nat) (x82_87 : Bool), v82 = .bool x82_87 ∧ Aside0 (laws_FnGrows.j2 kq t521 t524 x11_1 x82_87 t495 t498 t501 x521000_1 x521001_1 x521002_1 = some r) ∧ Aside0 (kq ≤ kj81) ∧ Aside0 (Kd.R (Kd.int .i64) 3 wc w.heap.size (fun _ => True) v522 t521) ∧ Aside0 (Kd.R Kd.string 9 wc w.heap.size (fun _ => True) v525 t524) ∧ Aside0 (Kd.R k57 57 wc w.heap.size (fun k_ => some k_ ≠ ((.slice Ao71 t498.length co71) : Value).ownBlock ∧ some k_ ≠ (u521000 : Value).ownBlock ∧ some k_ ≠ (u521001 : Value).ownBlock) (.slice Ao69 t495.length co69) t495) ∧ Aside0 (Kd.R k57 57 wc w.heap.size (fun k_ => some k_ ≠ ((.slice Ao69 t495.length co69) : Value).ownBlock ∧ some k_ ≠ (u521000 : Value).ownBlock ∧ some k_ ≠ (u521001 : Value).ownBlock) (.slice Ao71 t498.length co71) t498) ∧ Aside0 (Kd.R k57 57 wc w.heap.size (fun k_ => some k_ ≠ ((.slice Ao69 t495.length co69) : Value).ownBlock ∧ some k_ ≠ ((.slice Ao71 t498.length co71) : Value).ownBlock ∧ some k_ ≠ (u521001 : Value).ownBlock) u521000 x521000_1) ∧ Aside0 (Kd.R k57 57 wc w.heap.size (fun k_ => some k_ ≠ ((.slice Ao69 t495.length co69) : Value).ownBlock ∧ some k_ ≠ ((.slice Ao71 t498.length co71) : Value).ownBlock ∧ some k_ ≠ (u521000 : Value).ownBlock) u521001 x521001_1) ∧ Aside0 (wc.heap[gb494]? = some (.cells #[(.slice Ao69 t495.length co69), (.slice Ao71 t498.length co71), .int .i64 t501] 26 (0, 0))) ∧ Aside0 (wc.heap[gb520]? = some (.cells #[u521000, u521001, .int .i64 x521002_1] 26 (0, 0))) ∧ Aside0 (Below w.heap.size w wc))
          case first =>
           have H := HC88.out
           clear HC88
           replace H := Option.bind_eq_some_iff.mp H
           obtain ⟨t532, A890, H⟩ := H
           try dsimp only at H
           have A89 := am A890
           clear A890
           by_cases c90 : t532 = true
           ·subst c90
            have H1 : ((impl_KeysOf.f kj81 x521000_1 x521001_1 x521002_1).bind fun t533 => ((laws_sameTexts.f kj81 t533 t524).bind fun t536 => (laws_FnGrows.j2 kj81 t521 t524 x11_1 (!t536) t495 t498 t501 x521000_1 x521001_1 x521002_1))) = some r := by rw [if_pos rfl] at H; exact H
            clear H
            have H := H1
            clear H1
            replace H := Option.bind_eq_some_iff.mp H
            obtain ⟨t533, A910, H⟩ := H
            try dsimp only at H
            have A91 := am A910
            clear A910
            replace H := Option.bind_eq_some_iff.mp H
            obtain ⟨t536, A920, H⟩ := H
            try dsimp only at H
            have A92 := am A920
            clear A920
            have H' := am H
            clear H
            have hnb93 := NB520_494.out
            have hnc93 := NB494_520.out
            obtain ⟨hcz94_0, hcz94_1, hcz94_2, hfz94_0, hfz94_1, hfz94_2⟩ := xT3 (W := wc) BK520.out
            obtain ⟨Ao95, co95, eo95⟩ := Kd.R_slice HO_521000.out
            subst eo95
            obtain ⟨Ao96, co96, eo96⟩ := Kd.R_slice HO_521001.out
            subst eo96
            go_wp2_with (first | ((with_reducible refine gate_callee (f := 18) rfl ?_); refine xG (some 74) 18 Try.func18 #[.agg #[.slice Ao95 x521000_1.length co95, .slice Ao96 x521001_1.length co96, .int .i64 x521002_1]] (h := ?_); (with_reducible refine (impl_TableOk.calls kj81 _ _ x521000_1 _ _ x521001_1 x521002_1 true _ ?side1 ?side2 ?side3 ?side4 A89.out).mono ?_); (case side1 => exact xC ((rr HO_521000.out).2.2)); (case side2 => exact (rr HO_521000.out).2.1); (case side3 => exact xC ((rr HO_521001.out).2.2)); (case side4 => exact (rr HO_521001.out).2.1); rintro e w97 ⟨rfl, hb⟩; refine ⟨_, rfl, ?_⟩; replace HO_9 := am (rb (xR HO_9.out) hb); replace HO_10 := am (rb (xR HO_10.out) hb); replace HO_495000 := am (rb (xR HO_495000.out) hb); replace HO_495001 := am (rb (xR HO_495001.out) hb); replace HO_521000 := am (rb (xR HO_521000.out) hb); replace HO_521001 := am (rb (xR HO_521001.out) hb); replace BK494 := am (bb (xB BK494.out) hb); replace BK520 := am (bb (xB BK520.out) hb); replace HB := am (bs (xW HB.out) hb); (try clear hb); obtain ⟨hcz98_0, hcz98_1, hcz98_2, hfz98_0, hfz98_1, hfz98_2⟩ := xT3 (W := w97) BK520.out) | (go_at_call 20; (with_reducible refine (impl_KeysOf.calls kj81 _ _ x521000_1 _ _ x521001_1 x521002_1 t533 _ ?side1 ?side2 ?side3 ?side4 A91.out).mono ?_); (case side1 => exact xC ((rr HO_521000.out).2.2)); (case side2 => exact (rr HO_521000.out).2.1); (case side3 => exact xC ((rr HO_521001.out).2.2)); (case side4 => exact (rr HO_521001.out).2.1); rintro e w99 ⟨v534, rfl, ho0, hb⟩; replace HO_9 := am (rb (xR HO_9.out) hb); replace HO_495000 := am (rb (xR HO_495000.out) hb); replace HO_495001 := am (rb (xR HO_495001.out) hb); replace HO_521000 := am (rb (xR HO_521000.out) hb); replace HO_521001 := am (rb (xR HO_521001.out) hb); have HO535 := am (Kd.R_lower (Kd.R_new' ho0 (Kd.R_lt (xR HO_10.out))) (below_size (xW HB.out))); replace HO_10 := am (Kd.R_elder' (xR HO_10.out) (re ho0) hb); replace BK494 := am (bb (xB BK494.out) hb); replace BK520 := am (bb (xB BK520.out) hb); replace HB := am (bs (xW HB.out) hb); (try clear hb); (try clear ho0); obtain ⟨Ao100, co100, eo100⟩ := Kd.R_slice HO535.out; subst eo100; obtain ⟨Ao101, co101, eo101⟩ := Kd.R_slice HO_10.out; subst eo101) | (go_at_call 21; (with_reducible refine (laws_sameTexts.calls kj81 _ _ t533 _ _ t524 t536 _ ?side1 ?side2 ?side3 ?side4 A92.out).mono ?_); (case side1 => exact xC ((rr HO535.out).2.2)); (case side2 => exact (rr HO535.out).2.1); (case side3 => exact xC ((rr HO_10.out).2.2)); (case side4 => exact (rr HO_10.out).2.1); rintro e w' ⟨rfl, ⟨nd, rfl⟩⟩))
            go_meet
            case rel => exact ⟨_, (!t536), (xQ), H', ⟨by have := HK1.out; have := HJ81.out; first | omega | exact Nat.le_refl _⟩, ⟨xR HO_9.out⟩, ⟨Kd.R_mono (xR HO_10.out) (fun _ hk => trivial)⟩, ⟨xR HO_495000.out⟩, ⟨xR HO_495001.out⟩, ⟨xR HO_521000.out⟩, ⟨xR HO_521001.out⟩, ⟨xB BK494.out⟩, ⟨xB BK520.out⟩, ⟨xW HB.out⟩⟩
           ·replace c90 := Bool.eq_false_iff.mpr c90
            subst c90
            have H1 : (laws_FnGrows.j2 kj81 t521 t524 x11_1 true t495 t498 t501 x521000_1 x521001_1 x521002_1) = some r := by rw [if_neg (show ¬ (false = true) by decide)] at H; exact H
            clear H
            have H := H1
            clear H1
            have H' := am H
            clear H
            have hnb102 := NB520_494.out
            have hnc102 := NB494_520.out
            obtain ⟨hcz103_0, hcz103_1, hcz103_2, hfz103_0, hfz103_1, hfz103_2⟩ := xT3 (W := wc) BK520.out
            obtain ⟨Ao104, co104, eo104⟩ := Kd.R_slice HO_521000.out
            subst eo104
            obtain ⟨Ao105, co105, eo105⟩ := Kd.R_slice HO_521001.out
            subst eo105
            go_wp2_with (first | ((with_reducible refine gate_callee (f := 18) rfl ?_); refine xG (some 74) 18 Try.func18 #[.agg #[.slice Ao104 x521000_1.length co104, .slice Ao105 x521001_1.length co105, .int .i64 x521002_1]] (h := ?_); (with_reducible refine (impl_TableOk.calls kj81 _ _ x521000_1 _ _ x521001_1 x521002_1 false _ ?side1 ?side2 ?side3 ?side4 A89.out).mono ?_); (case side1 => exact xC ((rr HO_521000.out).2.2)); (case side2 => exact (rr HO_521000.out).2.1); (case side3 => exact xC ((rr HO_521001.out).2.2)); (case side4 => exact (rr HO_521001.out).2.1); rintro e w106 ⟨rfl, hb⟩; refine ⟨_, rfl, ?_⟩; replace HO_9 := am (rb (xR HO_9.out) hb); replace HO_10 := am (rb (xR HO_10.out) hb); replace HO_495000 := am (rb (xR HO_495000.out) hb); replace HO_495001 := am (rb (xR HO_495001.out) hb); replace HO_521000 := am (rb (xR HO_521000.out) hb); replace HO_521001 := am (rb (xR HO_521001.out) hb); replace BK494 := am (bb (xB BK494.out) hb); replace BK520 := am (bb (xB BK520.out) hb); replace HB := am (bs (xW HB.out) hb); (try clear hb); ))
            go_meet
            case rel => exact ⟨_, (true), (xQ), H', ⟨by have := HK1.out; have := HJ81.out; first | omega | exact Nat.le_refl _⟩, ⟨xR HO_9.out⟩, ⟨xR HO_10.out⟩, ⟨xR HO_495000.out⟩, ⟨xR HO_495001.out⟩, ⟨xR HO_521000.out⟩, ⟨xR HO_521001.out⟩, ⟨xB BK494.out⟩, ⟨xB BK520.out⟩, ⟨xW HB.out⟩⟩
          case rest =>
           clear HC88
           try clear c1
           try clear c2
           try clear p2
           try clear c3
           try clear c4
           try clear c5
           try clear c6
           try clear c6b0
           try clear c6b1
           try clear p6
           try clear c7
           try clear c8
           try clear c9
           try clear c10
           try clear c14
           try clear c15
           try clear c16
           try clear c17
           try clear c18
           try clear c19
           try clear c20
           try clear c21
           try clear c37
           try clear c43
           try clear c43b0
           try clear c43b1
           try clear c43b2
           try clear c56
           try clear c60
           try clear p64
           try clear c75
           try clear c83
           try clear c83b0
           try clear c84
           try clear c87
           try clear c90
           try clear c93
           try clear c102
           try clear hcz103_0
           try clear hcz103_1
           try clear hcz103_2
           try clear hcz12_0
           try clear hcz12_1
           try clear hcz12_2
           try clear hcz16_0
           try clear hcz16_1
           try clear hcz16_2
           try clear hcz22_0
           try clear hcz22_1
           try clear hcz22_2
           try clear hcz28_0
           try clear hcz28_1
           try clear hcz28_2
           try clear hcz32_0
           try clear hcz32_1
           try clear hcz32_2
           try clear hcz38_0
           try clear hcz38_1
           try clear hcz38_2
           try clear hcz40_0
           try clear hcz40_1
           try clear hcz40_2
           try clear hcz47_0
           try clear hcz47_1
           try clear hcz47_2
           try clear hcz51_0
           try clear hcz51_1
           try clear hcz51_2
           try clear hcz57_0
           try clear hcz57_1
           try clear hcz57_2
           try clear hcz59_0
           try clear hcz59_1
           try clear hcz59_2
           try clear hcz66_0
           try clear hcz66_1
           try clear hcz66_2
           try clear hcz70_0
           try clear hcz70_1
           try clear hcz70_2
           try clear hcz76_0
           try clear hcz76_1
           try clear hcz76_2
           try clear hcz78_0
           try clear hcz78_1
           try clear hcz78_2
           try clear hcz80_0
           try clear hcz80_1
           try clear hcz80_2
           try clear hcz85_0
           try clear hcz85_1
           try clear hcz85_2
           try clear hcz94_0
           try clear hcz94_1
           try clear hcz94_2
           try clear hcz98_0
           try clear hcz98_1
           try clear hcz98_2
           try clear hfz103_0
           try clear hfz103_1
           try clear hfz103_2
           try clear hfz12_0
           try clear hfz12_1
           try clear hfz12_2
           try clear hfz16_0
           try clear hfz16_1
           try clear hfz16_2
           try clear hfz22_0
           try clear hfz22_1
           try clear hfz22_2
           try clear hfz28_0
           try clear hfz28_1
           try clear hfz28_2
           try clear hfz32_0
           try clear hfz32_1
           try clear hfz32_2
           try clear hfz38_0
           try clear hfz38_1
           try clear hfz38_2
           try clear hfz40_0
           try clear hfz40_1
           try clear hfz40_2
           try clear hfz47_0
           try clear hfz47_1
           try clear hfz47_2
           try clear hfz51_0
           try clear hfz51_1
           try clear hfz51_2
           try clear hfz57_0
           try clear hfz57_1
           try clear hfz57_2
           try clear hfz59_0
           try clear hfz59_1
           try clear hfz59_2
           try clear hfz66_0
           try clear hfz66_1
           try clear hfz66_2
           try clear hfz70_0
           try clear hfz70_1
           try clear hfz70_2
           try clear hfz76_0
           try clear hfz76_1
           try clear hfz76_2
           try clear hfz78_0
           try clear hfz78_1
           try clear hfz78_2
           try clear hfz80_0
           try clear hfz80_1
           try clear hfz80_2
           try clear hfz85_0
           try clear hfz85_1
           try clear hfz85_2
           try clear hfz94_0
           try clear hfz94_1
           try clear hfz94_2
           try clear hfz98_0
           try clear hfz98_1
           try clear hfz98_2
           try clear p2
           try clear p6
           try clear p64
           obtain ⟨kq, x82_87, rfl, HA, HJ87, HO_9, HO_10, HO_495000, HO_495001, HO_521000, HO_521001, BK494, BK520, HB⟩ := hcut
           cases kq with
           | zero => exact absurd HA.out (by simp [laws_FnGrows.j2])
           | succ kj87 =>
            have H := HA.out
            clear HA
            simp only [laws_FnGrows.j2] at H
            by_cases c107 : x82_87 = true
            ·subst c107
             have H1 : (some false) = some r := by rw [if_pos rfl] at H; exact H
             clear H
             have H := H1
             clear H1
             obtain rfl := Option.some.inj H
             go_wp2
             go_ret
             exact ⟨xV, xW HB.out⟩
            ·replace c107 := Bool.eq_false_iff.mpr c107
             subst c107
             have H1 : (laws_FnGrows.l1 kj87 t521 t524 x11_1 0 t495 t498 t501 x521000_1 x521001_1 x521002_1) = some r := by rw [if_neg (show ¬ (false = true) by decide)] at H; exact H
             clear H
             have H := H1
             clear H1
             have H' := am H
             clear H
             go_wp2
             go_loopg [12] kj87 (fun kq v12 w' => ∃ (x12_4 : Int), v12 = .int .i64 x12_4 ∧ Aside0 (laws_FnGrows.l1 kq t521 t524 x11_1 x12_4 t495 t498 t501 x521000_1 x521001_1 x521002_1 = some r) ∧ Aside0 (kq ≤ kj87) ∧ Aside0 (Kd.R (Kd.int .i64) 3 w' w.heap.size (fun _ => True) v522 t521) ∧ Aside0 (Kd.R Kd.string 9 w' w.heap.size (fun _ => True) v525 t524) ∧ Aside0 (Kd.R k57 57 w' w.heap.size (fun k_ => some k_ ≠ ((.slice Ao71 t498.length co71) : Value).ownBlock ∧ some k_ ≠ (u521000 : Value).ownBlock ∧ some k_ ≠ (u521001 : Value).ownBlock) (.slice Ao69 t495.length co69) t495) ∧ Aside0 (Kd.R k57 57 w' w.heap.size (fun k_ => some k_ ≠ ((.slice Ao69 t495.length co69) : Value).ownBlock ∧ some k_ ≠ (u521000 : Value).ownBlock ∧ some k_ ≠ (u521001 : Value).ownBlock) (.slice Ao71 t498.length co71) t498) ∧ Aside0 (Kd.R k57 57 w' w.heap.size (fun k_ => some k_ ≠ ((.slice Ao69 t495.length co69) : Value).ownBlock ∧ some k_ ≠ ((.slice Ao71 t498.length co71) : Value).ownBlock ∧ some k_ ≠ (u521001 : Value).ownBlock) u521000 x521000_1) ∧ Aside0 (Kd.R k57 57 w' w.heap.size (fun k_ => some k_ ≠ ((.slice Ao69 t495.length co69) : Value).ownBlock ∧ some k_ ≠ ((.slice Ao71 t498.length co71) : Value).ownBlock ∧ some k_ ≠ (u521000 : Value).ownBlock) u521001 x521001_1) ∧ Aside0 (w'.heap[gb494]? = some (.cells #[(.slice Ao69 t495.length co69), (.slice Ao71 t498.length co71), .int .i64 t501] 26 (0, 0))) ∧ Aside0 (w'.heap[gb520]? = some (.cells #[u521000, u521001, .int .i64 x521002_1] 26 (0, 0))) ∧ Aside0 (Below w.heap.size w w'))
             case atStart => exact ⟨(0), (xQ), H', ⟨Nat.le_refl _⟩, ⟨xR HO_9.out⟩, ⟨xR HO_10.out⟩, ⟨xR HO_495000.out⟩, ⟨xR HO_495001.out⟩, ⟨xR HO_521000.out⟩, ⟨xR HO_521001.out⟩, ⟨xB BK494.out⟩, ⟨xB BK520.out⟩, ⟨xW HB.out⟩⟩
             case round =>
              clear H'
              try clear c1
              try clear c2
              try clear p2
              try clear c3
              try clear c4
              try clear c5
              try clear c6
              try clear c6b0
              try clear c6b1
              try clear p6
              try clear c7
              try clear c8
              try clear c9
              try clear c10
              try clear c14
              try clear c15
              try clear c16
              try clear c17
              try clear c18
              try clear c19
              try clear c20
              try clear c21
              try clear c37
              try clear c43
              try clear c43b0
              try clear c43b1
              try clear c43b2
              try clear c56
              try clear c60
              try clear p64
              try clear c75
              try clear c83
              try clear c83b0
              try clear c84
              try clear c87
              try clear c90
              try clear c93
              try clear c102
              try clear c107
              try clear hcz103_0
              try clear hcz103_1
              try clear hcz103_2
              try clear hcz12_0
              try clear hcz12_1
              try clear hcz12_2
              try clear hcz16_0
              try clear hcz16_1
              try clear hcz16_2
              try clear hcz22_0
              try clear hcz22_1
              try clear hcz22_2
              try clear hcz28_0
              try clear hcz28_1
              try clear hcz28_2
              try clear hcz32_0
              try clear hcz32_1
              try clear hcz32_2
              try clear hcz38_0
              try clear hcz38_1
              try clear hcz38_2
              try clear hcz40_0
              try clear hcz40_1
              try clear hcz40_2
              try clear hcz47_0
              try clear hcz47_1
              try clear hcz47_2
              try clear hcz51_0
              try clear hcz51_1
              try clear hcz51_2
              try clear hcz57_0
              try clear hcz57_1
              try clear hcz57_2
              try clear hcz59_0
              try clear hcz59_1
              try clear hcz59_2
              try clear hcz66_0
              try clear hcz66_1
              try clear hcz66_2
              try clear hcz70_0
              try clear hcz70_1
              try clear hcz70_2
              try clear hcz76_0
              try clear hcz76_1
              try clear hcz76_2
              try clear hcz78_0
              try clear hcz78_1
              try clear hcz78_2
              try clear hcz80_0
              try clear hcz80_1
              try clear hcz80_2
              try clear hcz85_0
              try clear hcz85_1
              try clear hcz85_2
              try clear hcz94_0
              try clear hcz94_1
              try clear hcz94_2
              try clear hcz98_0
              try clear hcz98_1
              try clear hcz98_2
              try clear hfz103_0
              try clear hfz103_1
              try clear hfz103_2
              try clear hfz12_0
              try clear hfz12_1
              try clear hfz12_2
              try clear hfz16_0
              try clear hfz16_1
              try clear hfz16_2
              try clear hfz22_0
              try clear hfz22_1
              try clear hfz22_2
              try clear hfz28_0
              try clear hfz28_1
              try clear hfz28_2
              try clear hfz32_0
              try clear hfz32_1
              try clear hfz32_2
              try clear hfz38_0
              try clear hfz38_1
              try clear hfz38_2
              try clear hfz40_0
              try clear hfz40_1
              try clear hfz40_2
              try clear hfz47_0
              try clear hfz47_1
              try clear hfz47_2
              try clear hfz51_0
              try clear hfz51_1
              try clear hfz51_2
              try clear hfz57_0
              try clear hfz57_1
              try clear hfz57_2
              try clear hfz59_0
              try clear hfz59_1
              try clear hfz59_2
              try clear hfz66_0
              try clear hfz66_1
              try clear hfz66_2
              try clear hfz70_0
              try clear hfz70_1
              try clear hfz70_2
              try clear hfz76_0
              try clear hfz76_1
              try clear hfz76_2
              try clear hfz78_0
              try clear hfz78_1
              try clear hfz78_2
              try clear hfz80_0
              try clear hfz80_1
              try clear hfz80_2
              try clear hfz85_0
              try clear hfz85_1
              try clear hfz85_2
              try clear hfz94_0
              try clear hfz94_1
              try clear hfz94_2
              try clear hfz98_0
              try clear hfz98_1
              try clear hfz98_2
              try clear p2
              try clear p6
              try clear p64
              obtain ⟨x12_4, rfl, HA, HK4, HO_9, HO_10, HO_495000, HO_495001, HO_521000, HO_521001, BK494, BK520, HB⟩ := hrel
              cases gk with
              | zero => exact absurd HA.out (by simp [laws_FnGrows.l1])
              | succ k4 =>
               have H := HA.out
               clear HA
               simp only [laws_FnGrows.l1] at H
               by_cases c108 : x12_4 < (t524.length : Int)
               ·rw [if_pos c108] at H
                have c108b0 : decide (x12_4 < (t524.length : Int)) = true := decide_eq_true c108
                clear c108
                by_cases c109 : 0 ≤ x12_4
                ·rw [if_pos c109] at H
                 have c109b0 : decide (0 ≤ x12_4) = true := decide_eq_true c109
                 clear c109
                 replace H := Option.bind_eq_some_iff.mp H
                 obtain ⟨⟨t546, t547⟩, A1100, H⟩ := H
                 try dsimp only at H
                 have A110 := am A1100
                 clear A1100
                 replace H := Option.bind_eq_some_iff.mp H
                 obtain ⟨⟨t549, t550⟩, A1110, H⟩ := H
                 try dsimp only at H
                 have A111 := am A1110
                 clear A1110
                 by_cases c112 : t550 = true
                 ·subst c112
                  have H1 : (if t546 = t549 then (laws_FnGrows.l1 k4 t521 t524 x11_1 (wrap64 (x12_4 + 1)) t495 t498 t501 x521000_1 x521001_1 x521002_1) else (some false)) = some r := by rw [if_pos rfl] at H; exact H
                  clear H
                  have H := H1
                  clear H1
                  by_cases c113 : t546 = t549
                  ·rw [if_pos c113] at H
                   have c113b0 : (t546 == t549) = true := beq_iff_eq.mpr c113
                   have c113b1 : (t546 != t549) = false := bne_eq_false_iff_eq.mpr c113
                   clear c113
                   have H' := am H
                   clear H
                   obtain ⟨Ao114, co114, eo114⟩ := Kd.R_slice HO_10.out
                   subst eo114
                   try go_wp2
                   replace HO_9 := am (Kd.R_drew HO_9.out)
                   replace HO_10 := am (Kd.R_drew HO_10.out)
                   replace HO_495000 := am (Kd.R_drew HO_495000.out)
                   replace HO_495001 := am (Kd.R_drew HO_495001.out)
                   replace HO_521000 := am (Kd.R_drew HO_521000.out)
                   replace HO_521001 := am (Kd.R_drew HO_521001.out)
                   replace BK494 := am (blk_drew BK494.out)
                   replace BK520 := am (blk_drew BK520.out)
                   replace HB := am (below_drew1 HB.out)
                   have p545 : 0 ≤ (x12_4 : Int) := of_decide_eq_true (by assumption)
                   have q545 : x12_4 < (t524.length : Int) := of_decide_eq_true (by assumption)
                   obtain ⟨ad545, e545, hx545_0⟩ := Kd.at_string (rr HO_10.out).2.2 x12_4 p545 q545
                   cases e545
                   replace p545 := eq_true p545
                   replace q545 := eq_true q545
                   refine start_ (n := 11) (S := fun w' => w'.cell? ⟨gb494, 0, none⟩ = some (.slice Ao69 t495.length co69) ∧ w'.cell? ⟨gb494, 1, none⟩ = some (.slice Ao71 t498.length co71) ∧ w'.cell? ⟨gb494, 2, none⟩ = some (.int .i64 t501) ∧ w'.cell? (ad545.add (x12_4).toNat) = some (.string (rdOf ByteArray.empty t524 x12_4))) (ds := []) #[false, false, false, false, false, false, false, false, false, false, false] (by kernel_rfl) rfl rfl ⟨(blk_cell BK494.out 0).trans rfl, (blk_cell BK494.out 1).trans rfl, (blk_cell BK494.out 2).trans rfl, hx545_0⟩ (fun hHeld => ?_); refine with_tabW laws_FnGrows.tab23 laws_FnGrows.bits23 (fun HT_ HW_ => ?_)
                   generalize wr.drew = w115 at HO_9 HO_10 HO_495000 HO_495001 HO_521000 HO_521001 BK494 BK520 HB hx545_0 hHeld ⊢
                   refine xP1 (i := 1) (N := some 91) #[false, true, false, false, false, false, false, false, false, false, false] (any_of HT_.out (by kernel_rfl)) (h := ?_)
                   refine xP1 (i := 2) (N := some 92) #[false, true, true, false, false, false, false, false, false, false, false] (any_of HT_.out (by kernel_rfl)) (h := ?_)
                   refine xP1 (i := 3) (N := some 93) #[false, true, true, true, false, false, false, false, false, false, false] (any_of HT_.out (by kernel_rfl)) (h := ?_)
                   refine take_ (i := 0) (N := some 90) (v := ?_) (a' := ?_) #[true, true, true, true, false, false, false, false, false, false, false] rfl rfl (take_ofW HT_.out HW_.out (by kernel_rfl)) (fun _ _ _ h => h) (Or.inl ⟨by rfl, ?_⟩) hHeld ?_ ?_
                   rotate_left
                   ·rintro w' ⟨s0, s1, s2, s3⟩
                    go_simp
                    with_reducible rfl
                   rotate_left
                   ·simp only [Act.put, List.setIfInBounds_toArray, List.set_cons_zero, List.set_cons_succ, i64_w, i32_w]
                    rfl
                   refine take_ (i := 4) (N := some 94) (v := ?_) (a' := ?_) #[true, true, true, true, true, false, false, false, false, false, false] rfl rfl (take_ofW HT_.out HW_.out (by kernel_rfl)) (fun _ _ _ h => h) (Or.inl ⟨by rfl, ?_⟩) hHeld ?_ ?_
                   rotate_left
                   ·rintro w' ⟨s0, s1, s2, s3⟩
                    go_simp
                    with_reducible rfl
                   rotate_left
                   ·simp only [Act.put, List.setIfInBounds_toArray, List.set_cons_zero, List.set_cons_succ, i64_w, i32_w]
                    rfl
                   refine one_ (i := 5) (N := some 95) #[true, true, true, true, true, true, false, false, false, false, false] rfl rfl (one_of HT_.out (by kernel_rfl)) (by decide) (fun K hK => ?_)
                   refine xG1 22 Try.func22 #[.agg #[.slice Ao69 t495.length co69, .slice Ao71 t498.length co71, .int .i64 t501], .string (rdOf ByteArray.empty t524 x12_4)] (h := ?_)
                   with_reducible refine (spec_SeekKey.calls k4 _ _ t495 _ _ t498 t501 (rdOf ByteArray.empty t524 x12_4) t546 t547 _ ?side1 ?side2 ?side3 ?side4 A110.out).mono ?_
                   (case side1 => exact xC ((rr HO_495000.out).2.2))
                   (case side2 => exact (rr HO_495000.out).2.1)
                   (case side3 => exact xC ((rr HO_495001.out).2.2))
                   (case side4 => exact (rr HO_495001.out).2.1)
                   rintro e w116 ⟨rfl, hb⟩
                   have HS3_ := (hb.cell (World.block_lt_of_cell? _ _ (hHeld.2.2.2))).trans (hHeld.2.2.2)
                   refine ⟨_, rfl, ?_⟩
                   replace HO_9 := am (rb (xR HO_9.out) hb)
                   replace HO_10 := am (rb (xR HO_10.out) hb)
                   replace HO_495000 := am (rb (xR HO_495000.out) hb)
                   replace HO_495001 := am (rb (xR HO_495001.out) hb)
                   replace HO_521000 := am (rb (xR HO_521000.out) hb)
                   replace HO_521001 := am (rb (xR HO_521001.out) hb)
                   replace BK494 := am (bb (xB BK494.out) hb)
                   replace BK520 := am (bb (xB BK520.out) hb)
                   replace HB := am (bs (xW HB.out) hb)
                   (try clear hb)
                   refine hK.out _ _ ⟨(blk_cell BK494.out 0).trans rfl, (blk_cell BK494.out 1).trans rfl, (blk_cell BK494.out 2).trans rfl, HS3_⟩ (fun hHeld => ?_)
                   clear hK K
                   refine xN1 (h := ?_)
                   refine xP1 (i := 6) (N := some 89) #[true, true, true, true, true, true, true, false, false, false, false] (any_of HT_.out (by kernel_rfl)) (h := ?_)
                   refine xP1 (i := 7) (N := some 96) #[true, true, true, true, true, true, true, true, false, false, false] (any_of HT_.out (by kernel_rfl)) (h := ?_)
                   refine xP1 (i := 8) (N := some 97) #[true, true, true, true, true, true, true, true, true, false, false] (any_of HT_.out (by kernel_rfl)) (h := ?_)
                   refine xP1 (i := 9) (N := some 13) #[true, true, true, true, true, true, true, true, true, true, false] (any_of HT_.out (by kernel_rfl)) (h := ?_)
                   refine xP1 (i := 10) (N := some 14) #[true, true, true, true, true, true, true, true, true, true, true] (any_of HT_.out (by kernel_rfl)) (h := ?_)
                   refine done_ (done_of HT_.out (by kernel_rfl)) ?_
                   try go_wp2
                   replace HO_9 := am (Kd.R_drew HO_9.out)
                   replace HO_10 := am (Kd.R_drew HO_10.out)
                   replace HO_495000 := am (Kd.R_drew HO_495000.out)
                   replace HO_495001 := am (Kd.R_drew HO_495001.out)
                   replace HO_521000 := am (Kd.R_drew HO_521000.out)
                   replace HO_521001 := am (Kd.R_drew HO_521001.out)
                   replace BK494 := am (blk_drew BK494.out)
                   replace BK520 := am (blk_drew BK520.out)
                   replace HB := am (below_drew1 HB.out)
                   have p548 : 0 ≤ (x12_4 : Int) := of_decide_eq_true (by assumption)
                   have q548 : x12_4 < (t524.length : Int) := of_decide_eq_true (by assumption)
                   obtain ⟨ad548, e548, hx548_0⟩ := Kd.at_string (rr HO_10.out).2.2 x12_4 p548 q548
                   obtain rfl : ad545 = ad548 := (by injection e548)
                   replace p548 := eq_true p548
                   replace q548 := eq_true q548
                   obtain ⟨Ao118, co118, eo118⟩ := Kd.R_slice HO_521000.out
                   (first | subst eo118 | (injection eo118 with f1_ f2_ f3_; have f4_ := f1_.symm; have f5_ := f3_.symm; clear f1_ f2_ f3_; subst f4_; subst f5_))
                   obtain ⟨Ao119, co119, eo119⟩ := Kd.R_slice HO_521001.out
                   (first | subst eo119 | (injection eo119 with f1_ f2_ f3_; have f4_ := f1_.symm; have f5_ := f3_.symm; clear f1_ f2_ f3_; subst f4_; subst f5_))
                   refine start_ (n := 11) (S := fun w' => w'.cell? ⟨gb520, 0, none⟩ = some (.slice Ao118 x521000_1.length co118) ∧ w'.cell? ⟨gb520, 1, none⟩ = some (.slice Ao119 x521001_1.length co119) ∧ w'.cell? ⟨gb520, 2, none⟩ = some (.int .i64 x521002_1) ∧ w'.cell? (ad545.add (x12_4).toNat) = some (.string (rdOf ByteArray.empty t524 x12_4))) (ds := []) #[false, false, false, false, false, false, false, false, false, false, false] (by kernel_rfl) rfl rfl ⟨(blk_cell BK520.out 0).trans rfl, (blk_cell BK520.out 1).trans rfl, (blk_cell BK520.out 2).trans rfl, hx548_0⟩ (fun hHeld => ?_); refine with_tabW laws_FnGrows.tab24 laws_FnGrows.bits24 (fun HT_ HW_ => ?_)
                   generalize w116.drew = w117 at HO_9 HO_10 HO_495000 HO_495001 HO_521000 HO_521001 BK494 BK520 HB hx548_0 hHeld ⊢
                   refine xP1 (i := 1) (N := some 100) #[false, true, false, false, false, false, false, false, false, false, false] (any_of HT_.out (by kernel_rfl)) (h := ?_)
                   refine xP1 (i := 2) (N := some 101) #[false, true, true, false, false, false, false, false, false, false, false] (any_of HT_.out (by kernel_rfl)) (h := ?_)
                   refine xP1 (i := 3) (N := some 102) #[false, true, true, true, false, false, false, false, false, false, false] (any_of HT_.out (by kernel_rfl)) (h := ?_)
                   refine take_ (i := 0) (N := some 99) (v := ?_) (a' := ?_) #[true, true, true, true, false, false, false, false, false, false, false] rfl rfl (take_ofW HT_.out HW_.out (by kernel_rfl)) (fun _ _ _ h => h) (Or.inl ⟨by rfl, ?_⟩) hHeld ?_ ?_
                   rotate_left
                   ·rintro w' ⟨s0, s1, s2, s3⟩
                    go_simp
                    with_reducible rfl
                   rotate_left
                   ·simp only [Act.put, List.setIfInBounds_toArray, List.set_cons_zero, List.set_cons_succ, i64_w, i32_w]
                    rfl
                   refine take_ (i := 4) (N := some 103) (v := ?_) (a' := ?_) #[true, true, true, true, true, false, false, false, false, false, false] rfl rfl (take_ofW HT_.out HW_.out (by kernel_rfl)) (fun _ _ _ h => h) (Or.inl ⟨by rfl, ?_⟩) hHeld ?_ ?_
                   rotate_left
                   ·rintro w' ⟨s0, s1, s2, s3⟩
                    go_simp
                    with_reducible rfl
                   rotate_left
                   ·simp only [Act.put, List.setIfInBounds_toArray, List.set_cons_zero, List.set_cons_succ, i64_w, i32_w]
                    rfl
                   refine one_ (i := 5) (N := some 104) #[true, true, true, true, true, true, false, false, false, false, false] rfl rfl (one_of HT_.out (by kernel_rfl)) (by decide) (fun K hK => ?_)
                   refine xG1 23 Try.func23 #[.agg #[.slice Ao118 x521000_1.length co118, .slice Ao119 x521001_1.length co119, .int .i64 x521002_1], .string (rdOf ByteArray.empty t524 x12_4)] (h := ?_)
                   with_reducible refine (impl_SeekKey.calls k4 _ _ x521000_1 _ _ x521001_1 x521002_1 (rdOf ByteArray.empty t524 x12_4) t549 true _ ?side1 ?side2 ?side3 ?side4 A111.out).mono ?_
                   (case side1 => exact xC ((rr HO_521000.out).2.2))
                   (case side2 => exact (rr HO_521000.out).2.1)
                   (case side3 => exact xC ((rr HO_521001.out).2.2))
                   (case side4 => exact (rr HO_521001.out).2.1)
                   rintro e w120 ⟨rfl, hb⟩
                   have HS3_ := (hb.cell (World.block_lt_of_cell? _ _ (hHeld.2.2.2))).trans (hHeld.2.2.2)
                   refine ⟨_, rfl, ?_⟩
                   replace HO_9 := am (rb (xR HO_9.out) hb)
                   replace HO_10 := am (rb (xR HO_10.out) hb)
                   replace HO_495000 := am (rb (xR HO_495000.out) hb)
                   replace HO_495001 := am (rb (xR HO_495001.out) hb)
                   replace HO_521000 := am (rb (xR HO_521000.out) hb)
                   replace HO_521001 := am (rb (xR HO_521001.out) hb)
                   replace BK494 := am (bb (xB BK494.out) hb)
                   replace BK520 := am (bb (xB BK520.out) hb)
                   replace HB := am (bs (xW HB.out) hb)
                   (try clear hb)
                   refine hK.out _ _ ⟨(blk_cell BK520.out 0).trans rfl, (blk_cell BK520.out 1).trans rfl, (blk_cell BK520.out 2).trans rfl, HS3_⟩ (fun hHeld => ?_)
                   clear hK K
                   refine xN1 (h := ?_)
                   refine xP1 (i := 6) (N := some 98) #[true, true, true, true, true, true, true, false, false, false, false] (any_of HT_.out (by kernel_rfl)) (h := ?_)
                   refine xP1 (i := 7) (N := some 105) #[true, true, true, true, true, true, true, true, false, false, false] (any_of HT_.out (by kernel_rfl)) (h := ?_)
                   refine xP1 (i := 8) (N := some 106) #[true, true, true, true, true, true, true, true, true, false, false] (any_of HT_.out (by kernel_rfl)) (h := ?_)
                   refine xP1 (i := 9) (N := some 15) #[true, true, true, true, true, true, true, true, true, true, false] (any_of HT_.out (by kernel_rfl)) (h := ?_)
                   refine xP1 (i := 10) (N := some 16) #[true, true, true, true, true, true, true, true, true, true, true] (any_of HT_.out (by kernel_rfl)) (h := ?_)
                   refine done_ (done_of HT_.out (by kernel_rfl)) ?_
                   try go_wp2
                   go_roundg k4
                   case measure => have := HK1.out; have := HJ81.out; have := HJ87.out; have := HK4.out; omega
                   case rel => exact ⟨(wrap64 (x12_4 + 1)), (xQ), H', ⟨by have := HK1.out; have := HJ81.out; have := HJ87.out; have := HK4.out; omega⟩, ⟨xR HO_9.out⟩, ⟨xR HO_10.out⟩, ⟨xR HO_495000.out⟩, ⟨xR HO_495001.out⟩, ⟨xR HO_521000.out⟩, ⟨xR HO_521001.out⟩, ⟨xB BK494.out⟩, ⟨xB BK520.out⟩, ⟨xW HB.out⟩⟩
                  ·rw [if_neg c113] at H
                   have c113b0 : (t546 == t549) = false := beq_eq_false_iff_ne.mpr c113
                   have c113b1 : (t546 != t549) = true := bne_iff_ne.mpr c113
                   obtain rfl := Option.some.inj H
                   obtain ⟨Ao121, co121, eo121⟩ := Kd.R_slice HO_10.out
                   subst eo121
                   try go_wp2
                   replace HO_9 := am (Kd.R_drew HO_9.out)
                   replace HO_10 := am (Kd.R_drew HO_10.out)
                   replace HO_495000 := am (Kd.R_drew HO_495000.out)
                   replace HO_495001 := am (Kd.R_drew HO_495001.out)
                   replace HO_521000 := am (Kd.R_drew HO_521000.out)
                   replace HO_521001 := am (Kd.R_drew HO_521001.out)
                   replace BK494 := am (blk_drew BK494.out)
                   replace BK520 := am (blk_drew BK520.out)
                   replace HB := am (below_drew1 HB.out)
                   have p545 : 0 ≤ (x12_4 : Int) := of_decide_eq_true (by assumption)
                   have q545 : x12_4 < (t524.length : Int) := of_decide_eq_true (by assumption)
                   obtain ⟨ad545, e545, hx545_0⟩ := Kd.at_string (rr HO_10.out).2.2 x12_4 p545 q545
                   cases e545
                   replace p545 := eq_true p545
                   replace q545 := eq_true q545
                   refine start_ (n := 11) (S := fun w' => w'.cell? ⟨gb494, 0, none⟩ = some (.slice Ao69 t495.length co69) ∧ w'.cell? ⟨gb494, 1, none⟩ = some (.slice Ao71 t498.length co71) ∧ w'.cell? ⟨gb494, 2, none⟩ = some (.int .i64 t501) ∧ w'.cell? (ad545.add (x12_4).toNat) = some (.string (rdOf ByteArray.empty t524 x12_4))) (ds := []) #[false, false, false, false, false, false, false, false, false, false, false] (by kernel_rfl) rfl rfl ⟨(blk_cell BK494.out 0).trans rfl, (blk_cell BK494.out 1).trans rfl, (blk_cell BK494.out 2).trans rfl, hx545_0⟩ (fun hHeld => ?_); refine with_tabW laws_FnGrows.tab23 laws_FnGrows.bits23 (fun HT_ HW_ => ?_)
                   generalize wr.drew = w122 at HO_9 HO_10 HO_495000 HO_495001 HO_521000 HO_521001 BK494 BK520 HB hx545_0 hHeld ⊢
                   refine xP1 (i := 1) (N := some 91) #[false, true, false, false, false, false, false, false, false, false, false] (any_of HT_.out (by kernel_rfl)) (h := ?_)
                   refine xP1 (i := 2) (N := some 92) #[false, true, true, false, false, false, false, false, false, false, false] (any_of HT_.out (by kernel_rfl)) (h := ?_)
                   refine xP1 (i := 3) (N := some 93) #[false, true, true, true, false, false, false, false, false, false, false] (any_of HT_.out (by kernel_rfl)) (h := ?_)
                   refine take_ (i := 0) (N := some 90) (v := ?_) (a' := ?_) #[true, true, true, true, false, false, false, false, false, false, false] rfl rfl (take_ofW HT_.out HW_.out (by kernel_rfl)) (fun _ _ _ h => h) (Or.inl ⟨by rfl, ?_⟩) hHeld ?_ ?_
                   rotate_left
                   ·rintro w' ⟨s0, s1, s2, s3⟩
                    go_simp
                    with_reducible rfl
                   rotate_left
                   ·simp only [Act.put, List.setIfInBounds_toArray, List.set_cons_zero, List.set_cons_succ, i64_w, i32_w]
                    rfl
                   refine take_ (i := 4) (N := some 94) (v := ?_) (a' := ?_) #[true, true, true, true, true, false, false, false, false, false, false] rfl rfl (take_ofW HT_.out HW_.out (by kernel_rfl)) (fun _ _ _ h => h) (Or.inl ⟨by rfl, ?_⟩) hHeld ?_ ?_
                   rotate_left
                   ·rintro w' ⟨s0, s1, s2, s3⟩
                    go_simp
                    with_reducible rfl
                   rotate_left
                   ·simp only [Act.put, List.setIfInBounds_toArray, List.set_cons_zero, List.set_cons_succ, i64_w, i32_w]
                    rfl
                   refine one_ (i := 5) (N := some 95) #[true, true, true, true, true, true, false, false, false, false, false] rfl rfl (one_of HT_.out (by kernel_rfl)) (by decide) (fun K hK => ?_)
                   refine xG1 22 Try.func22 #[.agg #[.slice Ao69 t495.length co69, .slice Ao71 t498.length co71, .int .i64 t501], .string (rdOf ByteArray.empty t524 x12_4)] (h := ?_)
                   with_reducible refine (spec_SeekKey.calls k4 _ _ t495 _ _ t498 t501 (rdOf ByteArray.empty t524 x12_4) t546 t547 _ ?side1 ?side2 ?side3 ?side4 A110.out).mono ?_
                   (case side1 => exact xC ((rr HO_495000.out).2.2))
                   (case side2 => exact (rr HO_495000.out).2.1)
                   (case side3 => exact xC ((rr HO_495001.out).2.2))
                   (case side4 => exact (rr HO_495001.out).2.1)
                   rintro e w123 ⟨rfl, hb⟩
                   have HS3_ := (hb.cell (World.block_lt_of_cell? _ _ (hHeld.2.2.2))).trans (hHeld.2.2.2)
                   refine ⟨_, rfl, ?_⟩
                   replace HO_9 := am (rb (xR HO_9.out) hb)
                   replace HO_10 := am (rb (xR HO_10.out) hb)
                   replace HO_495000 := am (rb (xR HO_495000.out) hb)
                   replace HO_495001 := am (rb (xR HO_495001.out) hb)
                   replace HO_521000 := am (rb (xR HO_521000.out) hb)
                   replace HO_521001 := am (rb (xR HO_521001.out) hb)
                   replace BK494 := am (bb (xB BK494.out) hb)
                   replace BK520 := am (bb (xB BK520.out) hb)
                   replace HB := am (bs (xW HB.out) hb)
                   (try clear hb)
                   refine hK.out _ _ ⟨(blk_cell BK494.out 0).trans rfl, (blk_cell BK494.out 1).trans rfl, (blk_cell BK494.out 2).trans rfl, HS3_⟩ (fun hHeld => ?_)
                   clear hK K
                   refine xN1 (h := ?_)
                   refine xP1 (i := 6) (N := some 89) #[true, true, true, true, true, true, true, false, false, false, false] (any_of HT_.out (by kernel_rfl)) (h := ?_)
                   refine xP1 (i := 7) (N := some 96) #[true, true, true, true, true, true, true, true, false, false, false] (any_of HT_.out (by kernel_rfl)) (h := ?_)
                   refine xP1 (i := 8) (N := some 97) #[true, true, true, true, true, true, true, true, true, false, false] (any_of HT_.out (by kernel_rfl)) (h := ?_)
                   refine xP1 (i := 9) (N := some 13) #[true, true, true, true, true, true, true, true, true, true, false] (any_of HT_.out (by kernel_rfl)) (h := ?_)
                   refine xP1 (i := 10) (N := some 14) #[true, true, true, true, true, true, true, true, true, true, true] (any_of HT_.out (by kernel_rfl)) (h := ?_)
                   refine done_ (done_of HT_.out (by kernel_rfl)) ?_
                   try go_wp2
                   replace HO_9 := am (Kd.R_drew HO_9.out)
                   replace HO_10 := am (Kd.R_drew HO_10.out)
                   replace HO_495000 := am (Kd.R_drew HO_495000.out)
                   replace HO_495001 := am (Kd.R_drew HO_495001.out)
                   replace HO_521000 := am (Kd.R_drew HO_521000.out)
                   replace HO_521001 := am (Kd.R_drew HO_521001.out)
                   replace BK494 := am (blk_drew BK494.out)
                   replace BK520 := am (blk_drew BK520.out)
                   replace HB := am (below_drew1 HB.out)
                   have p548 : 0 ≤ (x12_4 : Int) := of_decide_eq_true (by assumption)
                   have q548 : x12_4 < (t524.length : Int) := of_decide_eq_true (by assumption)
                   obtain ⟨ad548, e548, hx548_0⟩ := Kd.at_string (rr HO_10.out).2.2 x12_4 p548 q548
                   obtain rfl : ad545 = ad548 := (by injection e548)
                   replace p548 := eq_true p548
                   replace q548 := eq_true q548
                   obtain ⟨Ao125, co125, eo125⟩ := Kd.R_slice HO_521000.out
                   (first | subst eo125 | (injection eo125 with f1_ f2_ f3_; have f4_ := f1_.symm; have f5_ := f3_.symm; clear f1_ f2_ f3_; subst f4_; subst f5_))
                   obtain ⟨Ao126, co126, eo126⟩ := Kd.R_slice HO_521001.out
                   (first | subst eo126 | (injection eo126 with f1_ f2_ f3_; have f4_ := f1_.symm; have f5_ := f3_.symm; clear f1_ f2_ f3_; subst f4_; subst f5_))
                   refine start_ (n := 11) (S := fun w' => w'.cell? ⟨gb520, 0, none⟩ = some (.slice Ao125 x521000_1.length co125) ∧ w'.cell? ⟨gb520, 1, none⟩ = some (.slice Ao126 x521001_1.length co126) ∧ w'.cell? ⟨gb520, 2, none⟩ = some (.int .i64 x521002_1) ∧ w'.cell? (ad545.add (x12_4).toNat) = some (.string (rdOf ByteArray.empty t524 x12_4))) (ds := []) #[false, false, false, false, false, false, false, false, false, false, false] (by kernel_rfl) rfl rfl ⟨(blk_cell BK520.out 0).trans rfl, (blk_cell BK520.out 1).trans rfl, (blk_cell BK520.out 2).trans rfl, hx548_0⟩ (fun hHeld => ?_); refine with_tabW laws_FnGrows.tab24 laws_FnGrows.bits24 (fun HT_ HW_ => ?_)
                   generalize w123.drew = w124 at HO_9 HO_10 HO_495000 HO_495001 HO_521000 HO_521001 BK494 BK520 HB hx548_0 hHeld ⊢
                   refine xP1 (i := 1) (N := some 100) #[false, true, false, false, false, false, false, false, false, false, false] (any_of HT_.out (by kernel_rfl)) (h := ?_)
                   refine xP1 (i := 2) (N := some 101) #[false, true, true, false, false, false, false, false, false, false, false] (any_of HT_.out (by kernel_rfl)) (h := ?_)
                   refine xP1 (i := 3) (N := some 102) #[false, true, true, true, false, false, false, false, false, false, false] (any_of HT_.out (by kernel_rfl)) (h := ?_)
                   refine take_ (i := 0) (N := some 99) (v := ?_) (a' := ?_) #[true, true, true, true, false, false, false, false, false, false, false] rfl rfl (take_ofW HT_.out HW_.out (by kernel_rfl)) (fun _ _ _ h => h) (Or.inl ⟨by rfl, ?_⟩) hHeld ?_ ?_
                   rotate_left
                   ·rintro w' ⟨s0, s1, s2, s3⟩
                    go_simp
                    with_reducible rfl
                   rotate_left
                   ·simp only [Act.put, List.setIfInBounds_toArray, List.set_cons_zero, List.set_cons_succ, i64_w, i32_w]
                    rfl
                   refine take_ (i := 4) (N := some 103) (v := ?_) (a' := ?_) #[true, true, true, true, true, false, false, false, false, false, false] rfl rfl (take_ofW HT_.out HW_.out (by kernel_rfl)) (fun _ _ _ h => h) (Or.inl ⟨by rfl, ?_⟩) hHeld ?_ ?_
                   rotate_left
                   ·rintro w' ⟨s0, s1, s2, s3⟩
                    go_simp
                    with_reducible rfl
                   rotate_left
                   ·simp only [Act.put, List.setIfInBounds_toArray, List.set_cons_zero, List.set_cons_succ, i64_w, i32_w]
                    rfl
                   refine one_ (i := 5) (N := some 104) #[true, true, true, true, true, true, false, false, false, false, false] rfl rfl (one_of HT_.out (by kernel_rfl)) (by decide) (fun K hK => ?_)
                   refine xG1 23 Try.func23 #[.agg #[.slice Ao125 x521000_1.length co125, .slice Ao126 x521001_1.length co126, .int .i64 x521002_1], .string (rdOf ByteArray.empty t524 x12_4)] (h := ?_)
                   with_reducible refine (impl_SeekKey.calls k4 _ _ x521000_1 _ _ x521001_1 x521002_1 (rdOf ByteArray.empty t524 x12_4) t549 true _ ?side1 ?side2 ?side3 ?side4 A111.out).mono ?_
                   (case side1 => exact xC ((rr HO_521000.out).2.2))
                   (case side2 => exact (rr HO_521000.out).2.1)
                   (case side3 => exact xC ((rr HO_521001.out).2.2))
                   (case side4 => exact (rr HO_521001.out).2.1)
                   rintro e w127 ⟨rfl, hb⟩
                   have HS3_ := (hb.cell (World.block_lt_of_cell? _ _ (hHeld.2.2.2))).trans (hHeld.2.2.2)
                   refine ⟨_, rfl, ?_⟩
                   replace HO_9 := am (rb (xR HO_9.out) hb)
                   replace HO_10 := am (rb (xR HO_10.out) hb)
                   replace HO_495000 := am (rb (xR HO_495000.out) hb)
                   replace HO_495001 := am (rb (xR HO_495001.out) hb)
                   replace HO_521000 := am (rb (xR HO_521000.out) hb)
                   replace HO_521001 := am (rb (xR HO_521001.out) hb)
                   replace BK494 := am (bb (xB BK494.out) hb)
                   replace BK520 := am (bb (xB BK520.out) hb)
                   replace HB := am (bs (xW HB.out) hb)
                   (try clear hb)
                   refine hK.out _ _ ⟨(blk_cell BK520.out 0).trans rfl, (blk_cell BK520.out 1).trans rfl, (blk_cell BK520.out 2).trans rfl, HS3_⟩ (fun hHeld => ?_)
                   clear hK K
                   refine xN1 (h := ?_)
                   refine xP1 (i := 6) (N := some 98) #[true, true, true, true, true, true, true, false, false, false, false] (any_of HT_.out (by kernel_rfl)) (h := ?_)
                   refine xP1 (i := 7) (N := some 105) #[true, true, true, true, true, true, true, true, false, false, false] (any_of HT_.out (by kernel_rfl)) (h := ?_)
                   refine xP1 (i := 8) (N := some 106) #[true, true, true, true, true, true, true, true, true, false, false] (any_of HT_.out (by kernel_rfl)) (h := ?_)
                   refine xP1 (i := 9) (N := some 15) #[true, true, true, true, true, true, true, true, true, true, false] (any_of HT_.out (by kernel_rfl)) (h := ?_)
                   refine xP1 (i := 10) (N := some 16) #[true, true, true, true, true, true, true, true, true, true, true] (any_of HT_.out (by kernel_rfl)) (h := ?_)
                   refine done_ (done_of HT_.out (by kernel_rfl)) ?_
                   try go_wp2
                   go_ret
                   exact ⟨xV, xW HB.out⟩
                 ·replace c112 := Bool.eq_false_iff.mpr c112
                  subst c112
                  have H1 : (some false) = some r := by rw [if_neg (show ¬ (false = true) by decide)] at H; exact H
                  clear H
                  have H := H1
                  clear H1
                  obtain rfl := Option.some.inj H
                  obtain ⟨Ao128, co128, eo128⟩ := Kd.R_slice HO_10.out
                  subst eo128
                  try go_wp2
                  replace HO_9 := am (Kd.R_drew HO_9.out)
                  replace HO_10 := am (Kd.R_drew HO_10.out)
                  replace HO_495000 := am (Kd.R_drew HO_495000.out)
                  replace HO_495001 := am (Kd.R_drew HO_495001.out)
                  replace HO_521000 := am (Kd.R_drew HO_521000.out)
                  replace HO_521001 := am (Kd.R_drew HO_521001.out)
                  replace BK494 := am (blk_drew BK494.out)
                  replace BK520 := am (blk_drew BK520.out)
                  replace HB := am (below_drew1 HB.out)
                  have p545 : 0 ≤ (x12_4 : Int) := of_decide_eq_true (by assumption)
                  have q545 : x12_4 < (t524.length : Int) := of_decide_eq_true (by assumption)
                  obtain ⟨ad545, e545, hx545_0⟩ := Kd.at_string (rr HO_10.out).2.2 x12_4 p545 q545
                  cases e545
                  replace p545 := eq_true p545
                  replace q545 := eq_true q545
                  refine start_ (n := 11) (S := fun w' => w'.cell? ⟨gb494, 0, none⟩ = some (.slice Ao69 t495.length co69) ∧ w'.cell? ⟨gb494, 1, none⟩ = some (.slice Ao71 t498.length co71) ∧ w'.cell? ⟨gb494, 2, none⟩ = some (.int .i64 t501) ∧ w'.cell? (ad545.add (x12_4).toNat) = some (.string (rdOf ByteArray.empty t524 x12_4))) (ds := []) #[false, false, false, false, false, false, false, false, false, false, false] (by kernel_rfl) rfl rfl ⟨(blk_cell BK494.out 0).trans rfl, (blk_cell BK494.out 1).trans rfl, (blk_cell BK494.out 2).trans rfl, hx545_0⟩ (fun hHeld => ?_); refine with_tabW laws_FnGrows.tab23 laws_FnGrows.bits23 (fun HT_ HW_ => ?_)
                  generalize wr.drew = w129 at HO_9 HO_10 HO_495000 HO_495001 HO_521000 HO_521001 BK494 BK520 HB hx545_0 hHeld ⊢
                  refine xP1 (i := 1) (N := some 91) #[false, true, false, false, false, false, false, false, false, false, false] (any_of HT_.out (by kernel_rfl)) (h := ?_)
                  refine xP1 (i := 2) (N := some 92) #[false, true, true, false, false, false, false, false, false, false, false] (any_of HT_.out (by kernel_rfl)) (h := ?_)
                  refine xP1 (i := 3) (N := some 93) #[false, true, true, true, false, false, false, false, false, false, false] (any_of HT_.out (by kernel_rfl)) (h := ?_)
                  refine take_ (i := 0) (N := some 90) (v := ?_) (a' := ?_) #[true, true, true, true, false, false, false, false, false, false, false] rfl rfl (take_ofW HT_.out HW_.out (by kernel_rfl)) (fun _ _ _ h => h) (Or.inl ⟨by rfl, ?_⟩) hHeld ?_ ?_
                  rotate_left
                  ·rintro w' ⟨s0, s1, s2, s3⟩
                   go_simp
                   with_reducible rfl
                  rotate_left
                  ·simp only [Act.put, List.setIfInBounds_toArray, List.set_cons_zero, List.set_cons_succ, i64_w, i32_w]
                   rfl
                  refine take_ (i := 4) (N := some 94) (v := ?_) (a' := ?_) #[true, true, true, true, true, false, false, false, false, false, false] rfl rfl (take_ofW HT_.out HW_.out (by kernel_rfl)) (fun _ _ _ h => h) (Or.inl ⟨by rfl, ?_⟩) hHeld ?_ ?_
                  rotate_left
                  ·rintro w' ⟨s0, s1, s2, s3⟩
                   go_simp
                   with_reducible rfl
                  rotate_left
                  ·simp only [Act.put, List.setIfInBounds_toArray, List.set_cons_zero, List.set_cons_succ, i64_w, i32_w]
                   rfl
                  refine one_ (i := 5) (N := some 95) #[true, true, true, true, true, true, false, false, false, false, false] rfl rfl (one_of HT_.out (by kernel_rfl)) (by decide) (fun K hK => ?_)
                  refine xG1 22 Try.func22 #[.agg #[.slice Ao69 t495.length co69, .slice Ao71 t498.length co71, .int .i64 t501], .string (rdOf ByteArray.empty t524 x12_4)] (h := ?_)
                  with_reducible refine (spec_SeekKey.calls k4 _ _ t495 _ _ t498 t501 (rdOf ByteArray.empty t524 x12_4) t546 t547 _ ?side1 ?side2 ?side3 ?side4 A110.out).mono ?_
                  (case side1 => exact xC ((rr HO_495000.out).2.2))
                  (case side2 => exact (rr HO_495000.out).2.1)
                  (case side3 => exact xC ((rr HO_495001.out).2.2))
                  (case side4 => exact (rr HO_495001.out).2.1)
                  rintro e w130 ⟨rfl, hb⟩
                  have HS3_ := (hb.cell (World.block_lt_of_cell? _ _ (hHeld.2.2.2))).trans (hHeld.2.2.2)
                  refine ⟨_, rfl, ?_⟩
                  replace HO_9 := am (rb (xR HO_9.out) hb)
                  replace HO_10 := am (rb (xR HO_10.out) hb)
                  replace HO_495000 := am (rb (xR HO_495000.out) hb)
                  replace HO_495001 := am (rb (xR HO_495001.out) hb)
                  replace HO_521000 := am (rb (xR HO_521000.out) hb)
                  replace HO_521001 := am (rb (xR HO_521001.out) hb)
                  replace BK494 := am (bb (xB BK494.out) hb)
                  replace BK520 := am (bb (xB BK520.out) hb)
                  replace HB := am (bs (xW HB.out) hb)
                  (try clear hb)
                  refine hK.out _ _ ⟨(blk_cell BK494.out 0).trans rfl, (blk_cell BK494.out 1).trans rfl, (blk_cell BK494.out 2).trans rfl, HS3_⟩ (fun hHeld => ?_)
                  clear hK K
                  refine xN1 (h := ?_)
                  refine xP1 (i := 6) (N := some 89) #[true, true, true, true, true, true, true, false, false, false, false] (any_of HT_.out (by kernel_rfl)) (h := ?_)
                  refine xP1 (i := 7) (N := some 96) #[true, true, true, true, true, true, true, true, false, false, false] (any_of HT_.out (by kernel_rfl)) (h := ?_)
                  refine xP1 (i := 8) (N := some 97) #[true, true, true, true, true, true, true, true, true, false, false] (any_of HT_.out (by kernel_rfl)) (h := ?_)
                  refine xP1 (i := 9) (N := some 13) #[true, true, true, true, true, true, true, true, true, true, false] (any_of HT_.out (by kernel_rfl)) (h := ?_)
                  refine xP1 (i := 10) (N := some 14) #[true, true, true, true, true, true, true, true, true, true, true] (any_of HT_.out (by kernel_rfl)) (h := ?_)
                  refine done_ (done_of HT_.out (by kernel_rfl)) ?_
                  try go_wp2
                  replace HO_9 := am (Kd.R_drew HO_9.out)
                  replace HO_10 := am (Kd.R_drew HO_10.out)
                  replace HO_495000 := am (Kd.R_drew HO_495000.out)
                  replace HO_495001 := am (Kd.R_drew HO_495001.out)
                  replace HO_521000 := am (Kd.R_drew HO_521000.out)
                  replace HO_521001 := am (Kd.R_drew HO_521001.out)
                  replace BK494 := am (blk_drew BK494.out)
                  replace BK520 := am (blk_drew BK520.out)
                  replace HB := am (below_drew1 HB.out)
                  have p548 : 0 ≤ (x12_4 : Int) := of_decide_eq_true (by assumption)
                  have q548 : x12_4 < (t524.length : Int) := of_decide_eq_true (by assumption)
                  obtain ⟨ad548, e548, hx548_0⟩ := Kd.at_string (rr HO_10.out).2.2 x12_4 p548 q548
                  obtain rfl : ad545 = ad548 := (by injection e548)
                  replace p548 := eq_true p548
                  replace q548 := eq_true q548
                  obtain ⟨Ao132, co132, eo132⟩ := Kd.R_slice HO_521000.out
                  (first | subst eo132 | (injection eo132 with f1_ f2_ f3_; have f4_ := f1_.symm; have f5_ := f3_.symm; clear f1_ f2_ f3_; subst f4_; subst f5_))
                  obtain ⟨Ao133, co133, eo133⟩ := Kd.R_slice HO_521001.out
                  (first | subst eo133 | (injection eo133 with f1_ f2_ f3_; have f4_ := f1_.symm; have f5_ := f3_.symm; clear f1_ f2_ f3_; subst f4_; subst f5_))
                  refine start_ (n := 11) (S := fun w' => w'.cell? ⟨gb520, 0, none⟩ = some (.slice Ao132 x521000_1.length co132) ∧ w'.cell? ⟨gb520, 1, none⟩ = some (.slice Ao133 x521001_1.length co133) ∧ w'.cell? ⟨gb520, 2, none⟩ = some (.int .i64 x521002_1) ∧ w'.cell? (ad545.add (x12_4).toNat) = some (.string (rdOf ByteArray.empty t524 x12_4))) (ds := []) #[false, false, false, false, false, false, false, false, false, false, false] (by kernel_rfl) rfl rfl ⟨(blk_cell BK520.out 0).trans rfl, (blk_cell BK520.out 1).trans rfl, (blk_cell BK520.out 2).trans rfl, hx548_0⟩ (fun hHeld => ?_); refine with_tabW laws_FnGrows.tab24 laws_FnGrows.bits24 (fun HT_ HW_ => ?_)
                  generalize w130.drew = w131 at HO_9 HO_10 HO_495000 HO_495001 HO_521000 HO_521001 BK494 BK520 HB hx548_0 hHeld ⊢
                  refine xP1 (i := 1) (N := some 100) #[false, true, false, false, false, false, false, false, false, false, false] (any_of HT_.out (by kernel_rfl)) (h := ?_)
                  refine xP1 (i := 2) (N := some 101) #[false, true, true, false, false, false, false, false, false, false, false] (any_of HT_.out (by kernel_rfl)) (h := ?_)
                  refine xP1 (i := 3) (N := some 102) #[false, true, true, true, false, false, false, false, false, false, false] (any_of HT_.out (by kernel_rfl)) (h := ?_)
                  refine take_ (i := 0) (N := some 99) (v := ?_) (a' := ?_) #[true, true, true, true, false, false, false, false, false, false, false] rfl rfl (take_ofW HT_.out HW_.out (by kernel_rfl)) (fun _ _ _ h => h) (Or.inl ⟨by rfl, ?_⟩) hHeld ?_ ?_
                  rotate_left
                  ·rintro w' ⟨s0, s1, s2, s3⟩
                   go_simp
                   with_reducible rfl
                  rotate_left
                  ·simp only [Act.put, List.setIfInBounds_toArray, List.set_cons_zero, List.set_cons_succ, i64_w, i32_w]
                   rfl
                  refine take_ (i := 4) (N := some 103) (v := ?_) (a' := ?_) #[true, true, true, true, true, false, false, false, false, false, false] rfl rfl (take_ofW HT_.out HW_.out (by kernel_rfl)) (fun _ _ _ h => h) (Or.inl ⟨by rfl, ?_⟩) hHeld ?_ ?_
                  rotate_left
                  ·rintro w' ⟨s0, s1, s2, s3⟩
                   go_simp
                   with_reducible rfl
                  rotate_left
                  ·simp only [Act.put, List.setIfInBounds_toArray, List.set_cons_zero, List.set_cons_succ, i64_w, i32_w]
                   rfl
                  refine one_ (i := 5) (N := some 104) #[true, true, true, true, true, true, false, false, false, false, false] rfl rfl (one_of HT_.out (by kernel_rfl)) (by decide) (fun K hK => ?_)
                  refine xG1 23 Try.func23 #[.agg #[.slice Ao132 x521000_1.length co132, .slice Ao133 x521001_1.length co133, .int .i64 x521002_1], .string (rdOf ByteArray.empty t524 x12_4)] (h := ?_)
                  with_reducible refine (impl_SeekKey.calls k4 _ _ x521000_1 _ _ x521001_1 x521002_1 (rdOf ByteArray.empty t524 x12_4) t549 false _ ?side1 ?side2 ?side3 ?side4 A111.out).mono ?_
                  (case side1 => exact xC ((rr HO_521000.out).2.2))
                  (case side2 => exact (rr HO_521000.out).2.1)
                  (case side3 => exact xC ((rr HO_521001.out).2.2))
                  (case side4 => exact (rr HO_521001.out).2.1)
                  rintro e w134 ⟨rfl, hb⟩
                  have HS3_ := (hb.cell (World.block_lt_of_cell? _ _ (hHeld.2.2.2))).trans (hHeld.2.2.2)
                  refine ⟨_, rfl, ?_⟩
                  replace HO_9 := am (rb (xR HO_9.out) hb)
                  replace HO_10 := am (rb (xR HO_10.out) hb)
                  replace HO_495000 := am (rb (xR HO_495000.out) hb)
                  replace HO_495001 := am (rb (xR HO_495001.out) hb)
                  replace HO_521000 := am (rb (xR HO_521000.out) hb)
                  replace HO_521001 := am (rb (xR HO_521001.out) hb)
                  replace BK494 := am (bb (xB BK494.out) hb)
                  replace BK520 := am (bb (xB BK520.out) hb)
                  replace HB := am (bs (xW HB.out) hb)
                  (try clear hb)
                  refine hK.out _ _ ⟨(blk_cell BK520.out 0).trans rfl, (blk_cell BK520.out 1).trans rfl, (blk_cell BK520.out 2).trans rfl, HS3_⟩ (fun hHeld => ?_)
                  clear hK K
                  refine xN1 (h := ?_)
                  refine xP1 (i := 6) (N := some 98) #[true, true, true, true, true, true, true, false, false, false, false] (any_of HT_.out (by kernel_rfl)) (h := ?_)
                  refine xP1 (i := 7) (N := some 105) #[true, true, true, true, true, true, true, true, false, false, false] (any_of HT_.out (by kernel_rfl)) (h := ?_)
                  refine xP1 (i := 8) (N := some 106) #[true, true, true, true, true, true, true, true, true, false, false] (any_of HT_.out (by kernel_rfl)) (h := ?_)
                  refine xP1 (i := 9) (N := some 15) #[true, true, true, true, true, true, true, true, true, true, false] (any_of HT_.out (by kernel_rfl)) (h := ?_)
                  refine xP1 (i := 10) (N := some 16) #[true, true, true, true, true, true, true, true, true, true, true] (any_of HT_.out (by kernel_rfl)) (h := ?_)
                  refine done_ (done_of HT_.out (by kernel_rfl)) ?_
                  try go_wp2
                  go_ret
                  exact ⟨xV, xW HB.out⟩
                ·rw [if_neg c109] at H
                 exact absurd H (by simp)
               ·rw [if_neg c108] at H
                have c108b0 : decide (x12_4 < (t524.length : Int)) = false := decide_eq_false c108
                clear c108
                obtain ⟨ji135, hji135⟩ : ∃ j_ : Int, (Int.tmod x11_1 12) = j_ := ⟨_, rfl⟩
                replace H : (if 0 ≤ (ji135) then (if (ji135) < (t521.length : Int) then ((impl_MoveSome.f k4 x521000_1 x521001_1 x521002_1 (wrap64 (1 + (Int.tmod (rd t521 (ji135)) 3)))).bind fun bt538 => (laws_FnGrows.l0 k4 t521 t524 (wrap64 (x11_1 + 1)) t495 t498 t501 bt538.1 bt538.2.1 bt538.2.2)) else (none)) else (none)) = some r := by first | (rw [hji135] at H; exact H) | (simp only [hji135] at H ⊢; exact H)
                by_cases c136 : 0 ≤ (ji135)
                ·rw [if_pos c136] at H
                 have c136b0 : decide (0 ≤ (ji135)) = true := decide_eq_true c136
                 clear c136
                 by_cases c137 : (ji135) < (t521.length : Int)
                 ·rw [if_pos c137] at H
                  have c137b0 : decide ((ji135) < (t521.length : Int)) = true := decide_eq_true c137
                  clear c137
                  replace H := Option.bind_eq_some_iff.mp H
                  obtain ⟨⟨t538, t541, t544⟩, A1380, H⟩ := H
                  try dsimp only at H
                  have A138 := am A1380
                  clear A1380
                  have H' := am H
                  clear H
                  obtain ⟨Ao139, co139, eo139⟩ := Kd.R_slice HO_10.out
                  subst eo139
                  try go_wp2
                  replace HO_9 := am (Kd.R_drew HO_9.out)
                  replace HO_10 := am (Kd.R_drew HO_10.out)
                  replace HO_495000 := am (Kd.R_drew HO_495000.out)
                  replace HO_495001 := am (Kd.R_drew HO_495001.out)
                  replace HO_521000 := am (Kd.R_drew HO_521000.out)
                  replace HO_521001 := am (Kd.R_drew HO_521001.out)
                  replace BK494 := am (blk_drew BK494.out)
                  replace BK520 := am (blk_drew BK520.out)
                  replace HB := am (below_drew1 HB.out)
                  obtain ⟨Ao141, co141, eo141⟩ := Kd.R_slice HO_9.out
                  (first | subst eo141 | (injection eo141 with f1_ f2_ f3_; have f4_ := f1_.symm; have f5_ := f3_.symm; clear f1_ f2_ f3_; subst f4_; subst f5_))
                  have p537 : 0 ≤ ((ji135) : Int) := of_decide_eq_true (by assumption)
                  have q537 : (ji135) < (t521.length : Int) := of_decide_eq_true (by assumption)
                  obtain ⟨ad537, e537, hx537_0⟩ := Kd.at_int (rr HO_9.out).2.2 (ji135) p537 q537
                  cases e537
                  replace p537 := eq_true p537
                  replace q537 := eq_true q537
                  obtain ⟨Ao142, co142, eo142⟩ := Kd.R_slice HO_521000.out
                  (first | subst eo142 | (injection eo142 with f1_ f2_ f3_; have f4_ := f1_.symm; have f5_ := f3_.symm; clear f1_ f2_ f3_; subst f4_; subst f5_))
                  obtain ⟨Ao143, co143, eo143⟩ := Kd.R_slice HO_521001.out
                  (first | subst eo143 | (injection eo143 with f1_ f2_ f3_; have f4_ := f1_.symm; have f5_ := f3_.symm; clear f1_ f2_ f3_; subst f4_; subst f5_))
                  refine start_ (n := 10) (S := fun w' => w'.cell? ⟨gb520, 0, none⟩ = some (.slice Ao142 x521000_1.length co142) ∧ w'.cell? ⟨gb520, 1, none⟩ = some (.slice Ao143 x521001_1.length co143) ∧ w'.cell? ⟨gb520, 2, none⟩ = some (.int .i64 x521002_1) ∧ w'.cell? (ad537.add ((ji135)).toNat) = some (.int .i64 (rd t521 (ji135)))) (ds := [9]) #[false, false, false, false, false, false, false, false, false, false] (by kernel_rfl) rfl rfl ⟨(blk_cell BK520.out 0).trans rfl, (blk_cell BK520.out 1).trans rfl, (blk_cell BK520.out 2).trans rfl, hx537_0⟩ (fun hHeld => ?_); refine with_tabW laws_FnGrows.tab27 laws_FnGrows.bits27 (fun HT_ HW_ => ?_)
                  generalize wr.drew = w140 at HO_9 HO_10 HO_495000 HO_495001 HO_521000 HO_521001 BK494 BK520 HB hx537_0 hHeld ⊢
                  refine xP1 (i := 1) (N := some 115) #[false, true, false, false, false, false, false, false, false, false] (any_of HT_.out (by kernel_rfl)) (h := ?_)
                  refine xP1 (i := 2) (N := some 116) #[false, true, true, false, false, false, false, false, false, false] (any_of HT_.out (by kernel_rfl)) (h := ?_)
                  refine xP1 (i := 3) (N := some 117) #[false, true, true, true, false, false, false, false, false, false] (any_of HT_.out (by kernel_rfl)) (h := ?_)
                  refine xP1 (i := 4) (N := some 118) #[false, true, true, true, true, false, false, false, false, false] (any_of HT_.out (by kernel_rfl)) (h := ?_)
                  refine take_ (i := 0) (N := some 114) (v := ?_) (a' := ?_) #[true, true, true, true, true, false, false, false, false, false] rfl rfl (take_ofW HT_.out HW_.out (by kernel_rfl)) (fun _ _ _ h => h) (Or.inl ⟨by rfl, ?_⟩) hHeld ?_ ?_
                  rotate_left
                  ·rintro w' ⟨s0, s1, s2, s3⟩
                   go_simp
                   with_reducible rfl
                  rotate_left
                  ·simp only [Act.put, List.setIfInBounds_toArray, List.set_cons_zero, List.set_cons_succ, i64_w, i32_w]
                   rfl
                  refine take_ (i := 5) (N := some 119) (v := ?_) (a' := ?_) #[true, true, true, true, true, true, false, false, false, false] rfl rfl (take_ofW HT_.out HW_.out (by kernel_rfl)) (fun _ _ _ h => h) (Or.inl ⟨by rfl, ?_⟩) hHeld ?_ ?_
                  rotate_left
                  ·rintro w' ⟨s0, s1, s2, s3⟩
                   go_simp
                   with_reducible rfl
                  rotate_left
                  ·simp only [Act.put, List.setIfInBounds_toArray, List.set_cons_zero, List.set_cons_succ, i64_w, i32_w]
                   rfl
                  refine xP1 (i := 6) (N := some 120) #[true, true, true, true, true, true, true, false, false, false] (any_of HT_.out (by kernel_rfl)) (h := ?_)
                  refine xP1 (i := 7) (N := some 121) #[true, true, true, true, true, true, true, true, false, false] (any_of HT_.out (by kernel_rfl)) (h := ?_)
                  refine one_ (i := 8) (N := some 122) #[true, true, true, true, true, true, true, true, true, false] rfl rfl (one_of HT_.out (by kernel_rfl)) (by decide) (fun K hK => ?_)
                  refine goes_ Try.func16 (by kernel_rfl) rfl #[.agg #[.slice Ao142 x521000_1.length co142, .slice Ao143 x521001_1.length co143, .int .i64 x521002_1], .int .i64 (wrap64 (1 + (Int.tmod (rd t521 (ji135)) 3)))] (by rfl) rfl rfl (by (try simp only [List.map_toArray, List.map_cons, List.map_nil]); first | done | (simp only [hji135]; rfl) | rfl | (simp only [List.length_drop, List.length_take]; rfl)) ?_
                  with_reducible refine (impl_MoveSome.calls k4 _ _ x521000_1 _ _ x521001_1 x521002_1 (wrap64 (1 + (Int.tmod (rd t521 (ji135)) 3))) t538 t541 t544 _ ?side1 ?side2 ?side3 ?side4 A138.out).mono ?_
                  (case side1 => exact xC ((rr HO_521000.out).2.2))
                  (case side2 => exact (rr HO_521000.out).2.1)
                  (case side3 => exact xC ((rr HO_521001.out).2.2))
                  (case side4 => exact (rr HO_521001.out).2.1)
                  rintro e w144 ⟨v539, v542, rfl, ho0, ho1, hb⟩
                  have HS3_ := (hb.cell (World.block_lt_of_cell? _ _ (hHeld.2.2.2))).trans (hHeld.2.2.2)
                  refine ⟨_, rfl, ?_⟩
                  replace HO_9 := am (rb (xR HO_9.out) hb)
                  replace HO_10 := am (rb (xR HO_10.out) hb)
                  have HO540 := am (Kd.R_lower (Kd.R_new' (Kd.R_new' (Kd.R_new' (Kd.R_new' ho0 (Kd.R_lt (xR HO_495000.out))) (Kd.R_lt (xR HO_495001.out))) (Kd.R_lt (xR HO_521000.out))) (Kd.R_lt (xR HO_521001.out))) (below_size (xW HB.out)))
                  have HO543 := am (Kd.R_lower (Kd.R_new' (Kd.R_new' (Kd.R_new' (Kd.R_new' ho1 (Kd.R_lt (xR HO_495000.out))) (Kd.R_lt (xR HO_495001.out))) (Kd.R_lt (xR HO_521000.out))) (Kd.R_lt (xR HO_521001.out))) (below_size (xW HB.out)))
                  replace HO_495000 := am (rm (ro (ro (rl (xR HO_495000.out) hb) (re ho0)) (re ho1)) (fun _ h_ => h_.1))
                  replace HO_495001 := am (rm (ro (ro (rl (xR HO_495001.out) hb) (re ho0)) (re ho1)) (fun _ h_ => h_.1))
                  replace HO_521000 := am (rm (ro (ro (rl (xR HO_521000.out) hb) (re ho0)) (re ho1)) (fun _ h_ => h_.1))
                  replace HO_521001 := am (rm (ro (ro (rl (xR HO_521001.out) hb) (re ho0)) (re ho1)) (fun _ h_ => h_.1))
                  replace BK494 := am (bb (xB BK494.out) hb)
                  replace BK520 := am (bb (xB BK520.out) hb)
                  replace HB := am (bs (xW HB.out) hb)
                  (try clear hb)
                  (try clear ho0)
                  (try clear ho1)
                  obtain ⟨Ao145, co145, eo145⟩ := Kd.R_slice HO540.out
                  (first | subst eo145 | (injection eo145 with f1_ f2_ f3_; have f4_ := f1_.symm; have f5_ := f3_.symm; clear f1_ f2_ f3_; subst f4_; subst f5_))
                  obtain ⟨Ao147, co147, eo147⟩ := Kd.R_slice HO543.out
                  (first | subst eo147 | (injection eo147 with f1_ f2_ f3_; have f4_ := f1_.symm; have f5_ := f3_.symm; clear f1_ f2_ f3_; subst f4_; subst f5_))
                  refine hK.out _ _ ⟨(blk_cell BK520.out 0).trans rfl, (blk_cell BK520.out 1).trans rfl, (blk_cell BK520.out 2).trans rfl, HS3_⟩ (fun hHeld => ?_)
                  clear hK K
                  refine xN1 (h := ?_)
                  refine last_ (i := 9) (N := none) #[true, true, true, true, true, true, true, true, true, true] rfl rfl (one_of HT_.out (by kernel_rfl)) (by decide) (fun K hK => ?_)
                  have hs146 : w144.cell? ⟨gb520, 0, none⟩ = some (.slice Ao142 x521000_1.length co142) := (blk_cell BK520.out 0).trans rfl
                  have hfs146 := blk_frozen BK520.out 0
                  have hns146_0 := NB494_520.out
                  have hms146_0 := NB520_494.out
                  have hs148 : w144.cell? ⟨gb520, 1, none⟩ = some (.slice Ao143 x521001_1.length co143) := (blk_cell BK520.out 1).trans rfl
                  have hfs148 := blk_frozen BK520.out 1
                  have hns148_0 := NB494_520.out
                  have hms148_0 := NB520_494.out
                  have hs149 : w144.cell? ⟨gb520, 2, none⟩ = some (.int .i64 x521002_1) := (blk_cell BK520.out 2).trans rfl
                  have hfs149 := blk_frozen BK520.out 2
                  have hns149_0 := NB494_520.out
                  have hms149_0 := NB520_494.out
                  refine skip_ (w1 := ?_) (by rfl) rfl ?_ ?_
                  rotate_left
                  ·go_simp
                   rfl
                  refine hK.out _ _ ?_
                  clear hK K
                  refine done_ (done_of HT_.out (by kernel_rfl)) ?_
                  try go_wp2
                  go_roundg k4
                  case measure => have := HK1.out; have := HJ81.out; have := HJ87.out; have := HK4.out; omega
                  case rel => exact ⟨(wrap64 (x11_1 + 1)), (t538), (t541), (t544), (.slice Ao145 t538.length co145), (.slice Ao147 t541.length co147), (xQ), H', ⟨by have := HK1.out; have := HJ81.out; have := HJ87.out; have := HK4.out; omega⟩, ⟨by (with_reducible repeat (first | apply ra | apply rn | apply rd)); exact rm (Kd.R_far (p := ⟨gb520, 2, none⟩) (Kd.R_far (p := ⟨gb520, 1, none⟩) (Kd.R_far (p := ⟨gb520, 0, none⟩) (Kd.R_types HO_9.out BK520.out (by decide)) (fun _ hk => by simp [hk]) (.slice Ao145 t538.length co145)) (fun _ hk => by simp [hk]) (.slice Ao147 t541.length co147)) (fun _ hk => by simp [hk]) (.int .i64 t544)) (fun _ hk => trivial)⟩, ⟨by (with_reducible repeat (first | apply ra | apply rn | apply rd)); exact rm (Kd.R_far (p := ⟨gb520, 2, none⟩) (Kd.R_far (p := ⟨gb520, 1, none⟩) (Kd.R_far (p := ⟨gb520, 0, none⟩) (Kd.R_types HO_10.out BK520.out (by decide)) (fun _ hk => by simp [hk]) (.slice Ao145 t538.length co145)) (fun _ hk => by simp [hk]) (.slice Ao147 t541.length co147)) (fun _ hk => by simp [hk]) (.int .i64 t544)) (fun _ hk => trivial)⟩, ⟨Kd.R_mono (xR HO_495000.out) xI⟩, ⟨Kd.R_mono (xR HO_495001.out) xI⟩, ⟨Kd.R_mono (xR HO540.out) xI⟩, ⟨Kd.R_mono (xR HO543.out) xI⟩, ⟨xB BK494.out⟩, ⟨xP BK520.out⟩, ⟨xW HB.out⟩⟩
                 ·rw [if_neg c137] at H
                  exact absurd H (by simp)
                ·rw [if_neg c136] at H
                 exact absurd H (by simp)
         ·replace c87 := Bool.eq_false_iff.mpr c87
          subst c87
          have H1 : (if (x521001_1.length : Int) = 0 then (if (x521000_1.length : Int) = (wrap64 (2 * (t495.length : Int))) then ((impl_TableOk.f kj81 x521000_1 x521001_1 x521002_1).bind fun t527 => (if t527 = true then ((impl_KeysOf.f kj81 x521000_1 x521001_1 x521002_1).bind fun t528 => ((laws_sameTexts.f kj81 t528 t524).bind fun t531 => (some t531))) else (some false))) else (some false)) else (some false)) = some r := by rw [if_neg (show ¬ (false = true) by decide)] at H; exact H
          clear H
          have H := H1
          clear H1
          by_cases c150 : (x521001_1.length : Int) = 0
          ·rw [if_pos c150] at H
           have c150b0 : ((x521001_1.length : Int) == 0) = true := beq_iff_eq.mpr c150
           have c150b1 : ((x521001_1.length : Int) != 0) = false := bne_eq_false_iff_eq.mpr c150
           clear c150
           by_cases c151 : (x521000_1.length : Int) = (wrap64 (2 * (t495.length : Int)))
           ·rw [if_pos c151] at H
            have c151b0 : ((x521000_1.length : Int) == (wrap64 (2 * (t495.length : Int)))) = true := beq_iff_eq.mpr c151
            have c151b1 : ((x521000_1.length : Int) != (wrap64 (2 * (t495.length : Int)))) = false := bne_eq_false_iff_eq.mpr c151
            clear c151
            replace H := Option.bind_eq_some_iff.mp H
            obtain ⟨t527, A1520, H⟩ := H
            try dsimp only at H
            have A152 := am A1520
            clear A1520
            by_cases c153 : t527 = true
            ·subst c153
             have H1 : ((impl_KeysOf.f kj81 x521000_1 x521001_1 x521002_1).bind fun t528 => ((laws_sameTexts.f kj81 t528 t524).bind fun t531 => (some t531))) = some r := by rw [if_pos rfl] at H; exact H
             clear H
             have H := H1
             clear H1
             replace H := Option.bind_eq_some_iff.mp H
             obtain ⟨t528, A1540, H⟩ := H
             try dsimp only at H
             have A154 := am A1540
             clear A1540
             replace H := Option.bind_eq_some_iff.mp H
             obtain ⟨t531, A1550, H⟩ := H
             replace H : (some t531) = some r := H
             have A155 := am A1550
             clear A1550
             obtain rfl := Option.some.inj H
             have hnb156 := NB520_494.out
             have hnc156 := NB494_520.out
             obtain ⟨hcz157_0, hcz157_1, hcz157_2, hfz157_0, hfz157_1, hfz157_2⟩ := xT3 (W := wc) BK520.out
             obtain ⟨Ao158, co158, eo158⟩ := Kd.R_slice HO_521001.out
             subst eo158
             obtain ⟨Ao159, co159, eo159⟩ := Kd.R_slice HO_521000.out
             subst eo159
             obtain ⟨hcz160_0, hcz160_1, hcz160_2, hfz160_0, hfz160_1, hfz160_2⟩ := xT3 (W := wc) BK494.out
             go_wp2_with (first | (go_at_call 18; (with_reducible refine (impl_TableOk.calls kj81 _ _ x521000_1 _ _ x521001_1 x521002_1 true _ ?side1 ?side2 ?side3 ?side4 A152.out).mono ?_); (case side1 => exact xC ((rr HO_521000.out).2.2)); (case side2 => exact (rr HO_521000.out).2.1); (case side3 => exact xC ((rr HO_521001.out).2.2)); (case side4 => exact (rr HO_521001.out).2.1); rintro e w161 ⟨rfl, hb⟩; replace HO_9 := am (rb (xR HO_9.out) hb); replace HO_10 := am (rb (xR HO_10.out) hb); replace HO_495000 := am (rb (xR HO_495000.out) hb); replace HO_495001 := am (rb (xR HO_495001.out) hb); replace HO_521000 := am (rb (xR HO_521000.out) hb); replace HO_521001 := am (rb (xR HO_521001.out) hb); replace BK494 := am (bb (xB BK494.out) hb); replace BK520 := am (bb (xB BK520.out) hb); replace HB := am (bs (xW HB.out) hb); (try clear hb); obtain ⟨hcz162_0, hcz162_1, hcz162_2, hfz162_0, hfz162_1, hfz162_2⟩ := xT3 (W := w161) BK520.out) | (go_at_call 20; (with_reducible refine (impl_KeysOf.calls kj81 _ _ x521000_1 _ _ x521001_1 x521002_1 t528 _ ?side1 ?side2 ?side3 ?side4 A154.out).mono ?_); (case side1 => exact xC ((rr HO_521000.out).2.2)); (case side2 => exact (rr HO_521000.out).2.1); (case side3 => exact xC ((rr HO_521001.out).2.2)); (case side4 => exact (rr HO_521001.out).2.1); rintro e w163 ⟨v529, rfl, ho0, hb⟩; replace HO_9 := am (rb (xR HO_9.out) hb); replace HO_495000 := am (rb (xR HO_495000.out) hb); replace HO_495001 := am (rb (xR HO_495001.out) hb); replace HO_521000 := am (rb (xR HO_521000.out) hb); replace HO_521001 := am (rb (xR HO_521001.out) hb); have HO530 := am (Kd.R_lower (Kd.R_new' ho0 (Kd.R_lt (xR HO_10.out))) (below_size (xW HB.out))); replace HO_10 := am (Kd.R_elder' (xR HO_10.out) (re ho0) hb); replace BK494 := am (bb (xB BK494.out) hb); replace BK520 := am (bb (xB BK520.out) hb); replace HB := am (bs (xW HB.out) hb); (try clear hb); (try clear ho0); obtain ⟨Ao164, co164, eo164⟩ := Kd.R_slice HO530.out; subst eo164; obtain ⟨Ao165, co165, eo165⟩ := Kd.R_slice HO_10.out; subst eo165) | (go_at_call 21; (with_reducible refine (laws_sameTexts.calls kj81 _ _ t528 _ _ t524 t531 _ ?side1 ?side2 ?side3 ?side4 A155.out).mono ?_); (case side1 => exact xC ((rr HO530.out).2.2)); (case side2 => exact (rr HO530.out).2.1); (case side3 => exact xC ((rr HO_10.out).2.2)); (case side4 => exact (rr HO_10.out).2.1); rintro e w' ⟨rfl, ⟨nd, rfl⟩⟩))
             go_ret
             exact ⟨xV, xW HB.out⟩
            ·replace c153 := Bool.eq_false_iff.mpr c153
             subst c153
             have H1 : (some false) = some r := by rw [if_neg (show ¬ (false = true) by decide)] at H; exact H
             clear H
             have H := H1
             clear H1
             obtain rfl := Option.some.inj H
             have hnb166 := NB520_494.out
             have hnc166 := NB494_520.out
             obtain ⟨hcz167_0, hcz167_1, hcz167_2, hfz167_0, hfz167_1, hfz167_2⟩ := xT3 (W := wc) BK520.out
             obtain ⟨Ao168, co168, eo168⟩ := Kd.R_slice HO_521001.out
             subst eo168
             obtain ⟨Ao169, co169, eo169⟩ := Kd.R_slice HO_521000.out
             subst eo169
             obtain ⟨hcz170_0, hcz170_1, hcz170_2, hfz170_0, hfz170_1, hfz170_2⟩ := xT3 (W := wc) BK494.out
             go_wp2_with (first | (go_at_call 18; (with_reducible refine (impl_TableOk.calls kj81 _ _ x521000_1 _ _ x521001_1 x521002_1 false _ ?side1 ?side2 ?side3 ?side4 A152.out).mono ?_); (case side1 => exact xC ((rr HO_521000.out).2.2)); (case side2 => exact (rr HO_521000.out).2.1); (case side3 => exact xC ((rr HO_521001.out).2.2)); (case side4 => exact (rr HO_521001.out).2.1); rintro e w171 ⟨rfl, hb⟩; replace HO_9 := am (rb (xR HO_9.out) hb); replace HO_10 := am (rb (xR HO_10.out) hb); replace HO_495000 := am (rb (xR HO_495000.out) hb); replace HO_495001 := am (rb (xR HO_495001.out) hb); replace HO_521000 := am (rb (xR HO_521000.out) hb); replace HO_521001 := am (rb (xR HO_521001.out) hb); replace BK494 := am (bb (xB BK494.out) hb); replace BK520 := am (bb (xB BK520.out) hb); replace HB := am (bs (xW HB.out) hb); (try clear hb); ))
             go_ret
             exact ⟨xV, xW HB.out⟩
           ·rw [if_neg c151] at H
            have c151b0 : ((x521000_1.length : Int) == (wrap64 (2 * (t495.length : Int)))) = false := beq_eq_false_iff_ne.mpr c151
            have c151b1 : ((x521000_1.length : Int) != (wrap64 (2 * (t495.length : Int)))) = true := bne_iff_ne.mpr c151
            obtain rfl := Option.some.inj H
            have hnb172 := NB520_494.out
            have hnc172 := NB494_520.out
            obtain ⟨hcz173_0, hcz173_1, hcz173_2, hfz173_0, hfz173_1, hfz173_2⟩ := xT3 (W := wc) BK520.out
            obtain ⟨Ao174, co174, eo174⟩ := Kd.R_slice HO_521001.out
            subst eo174
            obtain ⟨Ao175, co175, eo175⟩ := Kd.R_slice HO_521000.out
            subst eo175
            obtain ⟨hcz176_0, hcz176_1, hcz176_2, hfz176_0, hfz176_1, hfz176_2⟩ := xT3 (W := wc) BK494.out
            go_wp2
            go_ret
            exact ⟨xV, xW HB.out⟩
          ·rw [if_neg c150] at H
           have c150b0 : ((x521001_1.length : Int) == 0) = false := beq_eq_false_iff_ne.mpr c150
           have c150b1 : ((x521001_1.length : Int) != 0) = true := bne_iff_ne.mpr c150
           have c150b2 : ¬ (x521001_1 = []) := fun h_ => c150 (by rw [h_]; rfl)
           obtain rfl := Option.some.inj H
           have hnb177 := NB520_494.out
           have hnc177 := NB494_520.out
           obtain ⟨hcz178_0, hcz178_1, hcz178_2, hfz178_0, hfz178_1, hfz178_2⟩ := xT3 (W := wc) BK520.out
           obtain ⟨Ao179, co179, eo179⟩ := Kd.R_slice HO_521001.out
           subst eo179
           go_wp2
           go_ret
           exact ⟨xV, xW HB.out⟩
    ·replace c60 := Bool.eq_false_iff.mpr c60
     subst c60
     have H1 : (some ((t512.length : Int) == 0)) = some r := by rw [if_neg (show ¬ (false = true) by decide)] at H; exact H
     clear H
     have H := H1
     clear H1
     obtain rfl := Option.some.inj H
     go_enter Try.func3, Try.ntmps3
     go_wp2_with (first | ((with_reducible refine gate_callee (f := 14) rfl ?_); refine xG (some 18) 14 Try.func14 #[.slice A0 l0.length c0] (h := ?_); (with_reducible refine (laws_big.calls _ _ l0 false _ ?side1 ?side2 A2.out).mono ?_); (case side1 => exact xC (HR0.out)); (case side2 => exact HC0.out); rintro e w' ⟨rfl, ⟨nd, rfl⟩⟩; refine ⟨_, rfl, ?_⟩) | ((with_reducible refine gate_callee (f := 15) rfl ?_); refine xG (some 21) 15 Try.func15 #[.slice A0 l0.length c0] (h := ?_); (with_reducible refine (spec_DrawRightTable.calls k _ _ l0 t486 t489 t492 t493 _ ?side1 ?side2 A4.out).mono ?_); (case side1 => exact xC (HR0.out)); (case side2 => exact HC0.out); rintro e w180 ⟨v487, v490, rfl, ho0, ho1, hb⟩; refine ⟨_, rfl, ?_⟩; have HO488 := am (Kd.R_lower ho0 (below_size (xW HB.out))); have HO491 := am (Kd.R_lower ho1 (below_size (xW HB.out))); replace HB := am (bs (xW HB.out) hb); (try clear hb); (try clear ho0); (try clear ho1)) | ((with_reducible refine gate_dst (N := 3) rfl ?_); (try (refine gate_guard (by rfl) ?_; dsimp only)); refine xE (N := 3) (cs := #[.slice none 0 0, .slice none 0 0, .int .i64 0]) (t := 26) (h := ?_); intro gb494 hg w181 hbox hb; replace HO488 := am (rb (xR HO488.out) hb); replace HO491 := am (rb (xR HO491.out) hb); have BK494 := am (hbox); have GW494 := am (xS hg HB.out); have GE494 := am (xS hg HB.out); replace HB := am (bs (xW HB.out) hb); clear hb hbox hg; obtain ⟨Ao182, co182, eo182⟩ := Kd.R_slice HO488.out; subst eo182; obtain ⟨hcz183_0, hcz183_1, hcz183_2, hfz183_0, hfz183_1, hfz183_2⟩ := xT3 (W := w181) BK494.out; obtain ⟨Ao184, co184, eo184⟩ := Kd.R_slice HO491.out; subst eo184) | ((with_reducible refine gate_callee (f := 16) rfl ?_); refine xG (some 25) 16 Try.func16 #[.agg #[.slice Ao182 t486.length co182, .slice Ao184 t489.length co184, .int .i64 t492], .int .i64 64] (h := ?_); (with_reducible refine (impl_MoveSome.calls k _ _ t486 _ _ t489 t492 64 t495 t498 t501 _ ?side1 ?side2 ?side3 ?side4 A5.out).mono ?_); (case side1 => exact xD HO488.out); (case side2 => exact (rr HO488.out).2.1); (case side3 => exact xD HO491.out); (case side4 => exact (rr HO491.out).2.1); rintro e w185 ⟨v496, v499, rfl, ho0, ho1, hb⟩; refine ⟨_, rfl, ?_⟩; have HO497 := am (Kd.R_lower (Kd.R_new' (Kd.R_new' ho0 (Kd.R_lt (xR HO488.out))) (Kd.R_lt (xR HO491.out))) (below_size (xW HB.out))); have HO500 := am (Kd.R_lower (Kd.R_new' (Kd.R_new' ho1 (Kd.R_lt (xR HO488.out))) (Kd.R_lt (xR HO491.out))) (below_size (xW HB.out))); replace HO488 := am (rm (ro (ro (rl (xR HO488.out) hb) (re ho0)) (re ho1)) (fun _ h_ => h_.1)); replace HO491 := am (rm (ro (ro (rl (xR HO491.out) hb) (re ho0)) (re ho1)) (fun _ h_ => h_.1)); replace BK494 := am (bb (xP BK494.out) hb); replace HB := am (bs (xW HB.out) hb); (try clear hb); (try clear ho0); (try clear ho1); obtain ⟨Ao186, co186, eo186⟩ := Kd.R_slice HO497.out; subst eo186; obtain ⟨hcz187_0, hcz187_1, hcz187_2, hfz187_0, hfz187_1, hfz187_2⟩ := xT3 (W := w185) BK494.out; obtain ⟨Ao188, co188, eo188⟩ := Kd.R_slice HO500.out; subst eo188) | ((with_reducible refine gate_callee (f := 17) rfl ?_); refine xG (some 43) 17 Try.func17 #[.agg #[.slice Ao186 t495.length co186, .slice Ao188 t498.length co188, .int .i64 t501]] (h := ?_); (with_reducible refine (impl_GrowTable.calls k _ _ t495 _ _ t498 t501 t512 t515 t518 false _ ?side1 ?side2 ?side3 ?side4 A42.out).mono ?_); (case side1 => exact xD HO497.out); (case side2 => exact (rr HO497.out).2.1); (case side3 => exact xD HO500.out); (case side4 => exact (rr HO500.out).2.1); rintro e w189 ⟨v513, v516, rfl, ho0, ho1, hb⟩; refine ⟨_, rfl, ?_⟩; have HO514 := am (Kd.R_lower (Kd.R_new' (Kd.R_new' (Kd.R_new' (Kd.R_new' ho0 (Kd.R_lt (xR HO488.out))) (Kd.R_lt (xR HO491.out))) (Kd.R_lt (xR HO497.out))) (Kd.R_lt (xR HO500.out))) (below_size (xW HB.out))); have HO517 := am (Kd.R_lower (Kd.R_new' (Kd.R_new' (Kd.R_new' (Kd.R_new' ho1 (Kd.R_lt (xR HO488.out))) (Kd.R_lt (xR HO491.out))) (Kd.R_lt (xR HO497.out))) (Kd.R_lt (xR HO500.out))) (below_size (xW HB.out))); replace HO488 := am (rm (ro (ro (rl (xR HO488.out) hb) (re ho0)) (re ho1)) (fun _ h_ => h_.1)); replace HO491 := am (rm (ro (ro (rl (xR HO491.out) hb) (re ho0)) (re ho1)) (fun _ h_ => h_.1)); replace HO497 := am (rm (ro (ro (rl (xR HO497.out) hb) (re ho0)) (re ho1)) (fun _ h_ => h_.1)); replace HO500 := am (rm (ro (ro (rl (xR HO500.out) hb) (re ho0)) (re ho1)) (fun _ h_ => h_.1)); replace BK494 := am (bb (xP BK494.out) hb); replace HB := am (bs (xW HB.out) hb); (try clear hb); (try clear ho0); (try clear ho1)) | ((with_reducible refine gate_dst (N := 7) rfl ?_); (try (refine gate_guard (by rfl) ?_; dsimp only)); refine xE (N := 7) (cs := #[.slice none 0 0, .slice none 0 0, .int .i64 0]) (t := 26) (h := ?_); intro gb520 hg w190 hbox hb; replace HO488 := am (rb (xR HO488.out) hb); replace HO491 := am (rb (xR HO491.out) hb); replace HO497 := am (rb (xR HO497.out) hb); replace HO500 := am (rb (xR HO500.out) hb); replace HO514 := am (rb (xR HO514.out) hb); replace HO517 := am (rb (xR HO517.out) hb); have BK520 := am (hbox); have GW520 := am (xS hg HB.out); have GE520 := am (xS hg HB.out); replace HB := am (bs (xW HB.out) hb); have NB494_520 := am (xN hg BK494.out); have NB520_494 := am (xM hg BK494.out); replace BK494 := am (bb (xB BK494.out) hb); clear hb hbox hg; obtain ⟨Ao191, co191, eo191⟩ := Kd.R_slice HO514.out; subst eo191; have hnb192 := NB520_494.out; have hnc192 := NB494_520.out; obtain ⟨hcz193_0, hcz193_1, hcz193_2, hfz193_0, hfz193_1, hfz193_2⟩ := xT3 (W := w190) BK520.out; obtain ⟨Ao194, co194, eo194⟩ := Kd.R_slice HO517.out; subst eo194; obtain ⟨hcz195_0, hcz195_1, hcz195_2, hfz195_0, hfz195_1, hfz195_2⟩ := xT3 (W := w190) BK494.out))
     go_ret
     exact ⟨xV, xW HB.out⟩
def laws_FnGrows.Pure : Prop := ∀ (l0 : List Int), l0.length ≤ maxLen → l0.length * 1 ≤ 140737488351232 → (∀ x ∈ l0, (Lit.int .u8 x).wf = true) → ∃ k, laws_FnGrows.f k l0 = some true
theorem laws_FnGrows.walk (P : laws_FnGrows.Pure) (a0 : Option Addr) (len0 cap0 : Nat) (z0 : List Int) (w : World) (w0 : (a0 = none ∧ len0 = 0 ∧ cap0 = 0 ∧ z0 = []) ∨ ∃ x, a0 = some x ∧ len0 ≤ cap0 ∧ cap0 ≤ maxLen ∧ z0.length = cap0 ∧ (∀ i, i < z0.length → w.cell? (x.add i) = some (.int .u8 (z0.getD i 0))) ∧ ∀ n ∈ z0, (Lit.int .u8 n).wf = true) (y0 : len0 * 1 ≤ 140737488351232) :
  Calls Try.prog 3 #[.slice a0 len0 cap0] w fun e w' => e = .returned (.bool true) ∧ Below w.heap.size w w' := by
 obtain ⟨l0, rfl, hr0, hm0, hw0, hc0⟩ := ReadsInt.ofRowC w0
 obtain ⟨k, h⟩ := P l0 hm0 y0 hw0
 refine (laws_FnGrows.calls k _ _ l0 true w (Kd.C_of_reads (d := (0 : Int)) (h1 := fun _ => rfl) hr0) hc0 h).mono ?_
 rintro e w' ⟨rfl, hd⟩
 exact ⟨rfl, hd⟩
end Go.Proofs.Ytmahoekbedgbcaa.HFnGrows
