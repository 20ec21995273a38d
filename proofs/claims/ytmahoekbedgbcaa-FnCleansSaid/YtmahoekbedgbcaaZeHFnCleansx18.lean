/- What the row of the law needs of the printed and the plain texts. -/
import Derived.Test.YtmahoekbedgbcaaZeHX
import Derived.Test.YtmahoekbedgbcaaZeHFnCleansx0
import Derived.Test.YtmahoekbedgbcaaZeHFnCleansx2
import Derived.Test.YtmahoekbedgbcaaZeHFnCleansx10
import Derived.Test.YtmahoekbedgbcaaZeHFnCleansx12
import Derived.Test.YtmahoekbedgbcaaZeHFnCleansx13
import Derived.Test.YtmahoekbedgbcaaZeHFnCleansx14
import Derived.Test.YtmahoekbedgbcaaZeHFnCleansx15
import Derived.Test.YtmahoekbedgbcaaZeHFnCleansx17
namespace Go.Proofs.Ytmahoekbedgbcaa.HFnCleans
open Go.RowKit Go.Proofs.YtmahoekbedgbcaaW.PrintWords Go.Proofs.YtmahoekbedgbcaaW.PrintLast Go.Proofs.YtmahoekbedgbcaaW.PrintMore
attribute [local go_sem] max2_int min2_int max_two min_two max_three min_three max_four min_four
set_option linter.unusedVariables false
set_option linter.unusedSimpArgs false
open Go.Proofs.YtmahoekbedgbcaaW.PrintWords renaming blk_drewN → bn, blk_drew → bd, blk_alloc → ba, below_alloc → wa, pw_below_drewN → wn, below_drew1 → wd, below_set → ws, blk_below → bb, blk_kept → bk, below_step → bs
open Go.Proofs.YtmahoekbedgbcaaW.PrintWords.Kd renaming R_alloc → ra, R_drewN → rn, R_drew → rd, R_below → rb, R_mono → rm, R_apart' → rp, R_typed → rt, R_keptB → rk, R_base → re, R_reads' → rr
open Go.Proofs.YtmahoekbedgbcaaW.PrintMore.Kd renaming R_told → ro, R_old → rl
mutual
def laws_FnCleans.l0 : Nat → List ByteArray → Int → List (S57) → List (S57) → Int → List (S57) → List (S57) → Int → Option (Bool)
 | 0, _, _, _, _, _, _, _, _ => none
 | k + 1, x9, x10, x511000, x511001, x511002, x520000, x520001, x520002 => if x10 < (x9.length : Int) then (if 0 ≤ x10 then ((spec_SeekKey.f k x511000 x511001 x511002 (rdOf ByteArray.empty x9 x10)).bind fun bt533 => ((impl_SeekKey.f k x520000 x520001 x520002 (rdOf ByteArray.empty x9 x10)).bind fun bt536 => (if bt536.2 = true then (if bt533.1 = bt536.1 then (laws_FnCleans.l0 k x9 (wrap64 (x10 + 1)) x511000 x511001 x511002 x520000 x520001 x520002) else (some false)) else (some false)))) else (none)) else (laws_FnCleans.l1 k x9 0 x511000 x511001 x511002 x520000 x520001 x520002)
def laws_FnCleans.l1 : Nat → List ByteArray → Int → List (S57) → List (S57) → Int → List (S57) → List (S57) → Int → Option (Bool)
 | 0, _, _, _, _, _, _, _, _ => none
 | k + 1, x9, x15, x511000, x511001, x511002, x520000, x520001, x520002 => if x15 < (x520000.length : Int) then (if 0 ≤ x15 then (if ((rd_T57 x520000 x15).f1) = (-2) then (some false) else (laws_FnCleans.l1 k x9 (wrap64 (x15 + 1)) x511000 x511001 x511002 x520000 x520001 x520002)) else (none)) else ((spec_KeysOf.f k x511000 x511001 x511002).bind fun t539 => ((laws_sameTexts.f k x9 t539).bind fun t542 => (if t542 = true then ((impl_TableOk.f k x520000 x520001 x520002).bind fun t543 => (if t543 = true then (if (x520001.length : Int) = 0 then (some ((x520000.length : Int) == (x511000.length : Int))) else (some false)) else (some false))) else (some false))))
end
def laws_FnCleans.f (k : Nat) (l0 : List Int) : Option (Bool) := (laws_big.f l0).bind fun t501 => (if t501 = true then (some true) else ((spec_DrawRightTable.f k l0).bind fun bt502 => ((impl_CleanTable.f k bt502.1 bt502.2.1 bt502.2.2.1).bind fun bt511 => ((spec_CleanTable.f k bt502.1 bt502.2.1 bt502.2.2.1).bind fun bt520 => (if (bt511.2.2.2 != bt520.2.2.2) = true then (some false) else (if bt511.2.2.2 = true then ((impl_KeysOf.f k bt511.1 bt511.2.1 bt511.2.2.1).bind fun t529 => (laws_FnCleans.l0 k t529 0 bt502.1 bt502.2.1 bt502.2.2.1 bt511.1 bt511.2.1 bt511.2.2.1)) else (some ((bt511.1.length : Int) == 0))))))))
def laws_FnCleans.T14 : Bool × List (List Nat × List Nat) := (true, [([], []), ([], []), ([], []), ([1, 2], [1, 2]), ([3], [3]), ([0, 4], [0, 4]), ([5], [5]), ([6], [6]), ([6], [6]), ([7, 5, 0, 1, 2, 3, 4, 5, 6, 7], [7]), ([8, 9, 0, 1, 2, 3, 4, 5, 6, 7, 8, 9], [8])])
def laws_FnCleans.B14 : List Nat := [0, 0, 0, 6, 14, 31, 63, 127, 127, 255, 1023]
theorem laws_FnCleans.tab14 : rtab .any (opsOf Try.f13 14) = laws_FnCleans.T14 := by kernel_rfl
theorem laws_FnCleans.bits14 : waitsOk laws_FnCleans.T14.2 laws_FnCleans.B14 = true := by kernel_rfl
def laws_FnCleans.T15 : Bool × List (List Nat × List Nat) := (true, [([], []), ([], []), ([], []), ([1, 2], [1, 2]), ([3], [3]), ([0, 4], [0, 4]), ([5], [5]), ([6], [6]), ([6], [6]), ([7, 5, 0, 1, 2, 3, 4, 5, 6, 7], [7]), ([8, 9, 0, 1, 2, 3, 4, 5, 6, 7, 8, 9], [8])])
def laws_FnCleans.B15 : List Nat := [0, 0, 0, 6, 14, 31, 63, 127, 127, 255, 1023]
theorem laws_FnCleans.tab15 : rtab .any (opsOf Try.f13 15) = laws_FnCleans.T15 := by kernel_rfl
theorem laws_FnCleans.bits15 : waitsOk laws_FnCleans.T15.2 laws_FnCleans.B15 = true := by kernel_rfl
set_option maxHeartbeats 8000000 in
set_option maxRecDepth 100000 in
theorem laws_FnCleans.calls (k : Nat) (A0 : Option Addr) (c0 : Nat) (l0 : List Int) (r : Bool) (w : World) (hr0 : Kd.C (Kd.int .u8) w A0 l0.length l0) (hc0 : l0.length ≤ c0) (h : laws_FnCleans.f k l0 = some r) :
  Calls Try.prog 13 #[.slice A0 l0.length c0] w fun e w' => e = .returned (.bool r) ∧ Below w.heap.size w w' := by
 have hu26 := Try.underlying26
 have HR0 := am hr0
 have HC0 := am hc0
 clear hr0 hc0
 have HB := am (Below.refl w.heap.size w)
 have H : ((laws_big.f l0).bind fun t501 => (if t501 = true then (some true) else ((spec_DrawRightTable.f k l0).bind fun bt502 => ((impl_CleanTable.f k bt502.1 bt502.2.1 bt502.2.2.1).bind fun bt511 => ((spec_CleanTable.f k bt502.1 bt502.2.1 bt502.2.2.1).bind fun bt520 => (if (bt511.2.2.2 != bt520.2.2.2) = true then (some false) else (if bt511.2.2.2 = true then ((impl_KeysOf.f k bt511.1 bt511.2.1 bt511.2.2.1).bind fun t529 => (laws_FnCleans.l0 k t529 0 bt502.1 bt502.2.1 bt502.2.2.1 bt511.1 bt511.2.1 bt511.2.2.1)) else (some ((bt511.1.length : Int) == 0))))))))) = some r := h
 clear h
 replace H := Option.bind_eq_some_iff.mp H
 obtain ⟨t501, A20, H⟩ := H
 try dsimp only at H
 have A2 := am A20
 clear A20
 by_cases c3 : t501 = true
 ·subst c3
  have H1 : (some true) = some r := by rw [if_pos rfl] at H; exact H
  clear H
  have H := H1
  clear H1
  obtain rfl := Option.some.inj H
  go_enter Try.func13, Try.ntmps13
  go_wp2_with (first | ((with_reducible refine gate_callee (f := 14) rfl ?_); refine xG (some 17) 14 Try.func14 #[.slice A0 l0.length c0] (h := ?_); (with_reducible refine (laws_big.calls _ _ l0 true _ ?side1 ?side2 A2.out).mono ?_); (case side1 => exact xC (HR0.out)); (case side2 => exact HC0.out); rintro e w' ⟨rfl, ⟨nd, rfl⟩⟩; refine ⟨_, rfl, ?_⟩))
  go_ret
  exact ⟨xV, xW HB.out⟩
 ·replace c3 := Bool.eq_false_iff.mpr c3
  subst c3
  have H1 : ((spec_DrawRightTable.f k l0).bind fun bt502 => ((impl_CleanTable.f k bt502.1 bt502.2.1 bt502.2.2.1).bind fun bt511 => ((spec_CleanTable.f k bt502.1 bt502.2.1 bt502.2.2.1).bind fun bt520 => (if (bt511.2.2.2 != bt520.2.2.2) = true then (some false) else (if bt511.2.2.2 = true then ((impl_KeysOf.f k bt511.1 bt511.2.1 bt511.2.2.1).bind fun t529 => (laws_FnCleans.l0 k t529 0 bt502.1 bt502.2.1 bt502.2.2.1 bt511.1 bt511.2.1 bt511.2.2.1)) else (some ((bt511.1.length : Int) == 0))))))) = some r := by rw [if_neg (show ¬ (false = true) by decide)] at H; exact H
  clear H
  have H := H1
  clear H1
  replace H := Option.bind_eq_some_iff.mp H
  obtain ⟨⟨t502, t505, t508, t509⟩, A40, H⟩ := H
  try dsimp only at H
  have A4 := am A40
  clear A40
  replace H := Option.bind_eq_some_iff.mp H
  obtain ⟨⟨t511, t514, t517, t518⟩, A50, H⟩ := H
  try dsimp only at H
  have A5 := am A50
  clear A50
  replace H := Option.bind_eq_some_iff.mp H
  obtain ⟨⟨t520, t523, t526, t527⟩, A60, H⟩ := H
  try dsimp only at H
  have A6 := am A60
  clear A60
  by_cases c7 : (t518 != t527) = true
  ·rw [if_pos c7] at H
   have c7b0 : (t518 != t527) = true := c7
   (try (have c7b1 : decide (t518 = t527) = false := by simpa using c7))
   (try (have c7b2 : (t518 == t527) = false := by simpa using c7))
   (try (have c7b3 : ¬ (t518 = t527) := by simpa using c7))
   clear c7
   obtain rfl := Option.some.inj H
   go_enter Try.func13, Try.ntmps13
   go_wp2_with (first | ((with_reducible refine gate_callee (f := 14) rfl ?_); refine xG (some 17) 14 Try.func14 #[.slice A0 l0.length c0] (h := ?_); (with_reducible refine (laws_big.calls _ _ l0 false _ ?side1 ?side2 A2.out).mono ?_); (case side1 => exact xC (HR0.out)); (case side2 => exact HC0.out); rintro e w' ⟨rfl, ⟨nd, rfl⟩⟩; refine ⟨_, rfl, ?_⟩) | ((with_reducible refine gate_callee (f := 15) rfl ?_); refine xG (some 20) 15 Try.func15 #[.slice A0 l0.length c0] (h := ?_); (with_reducible refine (spec_DrawRightTable.calls k _ _ l0 t502 t505 t508 t509 _ ?side1 ?side2 A4.out).mono ?_); (case side1 => exact xC (HR0.out)); (case side2 => exact HC0.out); rintro e w8 ⟨v503, v506, rfl, ho0, ho1, hb⟩; refine ⟨_, rfl, ?_⟩; have HO504 := am (Kd.R_lower ho0 (below_size (xW HB.out))); have HO507 := am (Kd.R_lower ho1 (below_size (xW HB.out))); replace HB := am (bs (xW HB.out) hb); (try clear hb); (try clear ho0); (try clear ho1)) | ((with_reducible refine gate_dst (N := 3) rfl ?_); (try (refine gate_guard (by rfl) ?_; dsimp only)); refine xE (N := 3) (cs := #[.slice none 0 0, .slice none 0 0, .int .i64 0]) (t := 26) (h := ?_); intro gb510 hg w9 hbox hb; replace HO504 := am (rb (xR HO504.out) hb); replace HO507 := am (rb (xR HO507.out) hb); have BK510 := am (hbox); have GW510 := am (xS hg HB.out); have GE510 := am (xS hg HB.out); replace HB := am (bs (xW HB.out) hb); clear hb hbox hg; obtain ⟨Ao10, co10, eo10⟩ := Kd.R_slice HO504.out; subst eo10; obtain ⟨hcz11_0, hcz11_1, hcz11_2, hfz11_0, hfz11_1, hfz11_2⟩ := xT3 (W := w9) BK510.out; obtain ⟨Ao12, co12, eo12⟩ := Kd.R_slice HO507.out; subst eo12) | ((with_reducible refine gate_callee (f := 43) rfl ?_); refine xG (some 25) 43 Try.func43 #[.agg #[.slice Ao10 t502.length co10, .slice Ao12 t505.length co12, .int .i64 t508]] (h := ?_); (with_reducible refine (impl_CleanTable.calls k _ _ t502 _ _ t505 t508 t511 t514 t517 t518 _ ?side1 ?side2 ?side3 ?side4 A5.out).mono ?_); (case side1 => exact xD HO504.out); (case side2 => exact (rr HO504.out).2.1); (case side3 => exact xD HO507.out); (case side4 => exact (rr HO507.out).2.1); rintro e w13 ⟨v512, v515, rfl, ho0, ho1, hb⟩; refine ⟨_, rfl, ?_⟩; have HO513 := am (Kd.R_lower (Kd.R_new' (Kd.R_new' ho0 (Kd.R_lt (xR HO504.out))) (Kd.R_lt (xR HO507.out))) (below_size (xW HB.out))); have HO516 := am (Kd.R_lower (Kd.R_new' (Kd.R_new' ho1 (Kd.R_lt (xR HO504.out))) (Kd.R_lt (xR HO507.out))) (below_size (xW HB.out))); replace HO504 := am (rm (ro (ro (rl (xR HO504.out) hb) (re ho0)) (re ho1)) (fun _ h_ => h_.1)); replace HO507 := am (rm (ro (ro (rl (xR HO507.out) hb) (re ho0)) (re ho1)) (fun _ h_ => h_.1)); replace BK510 := am (bb (xP BK510.out) hb); replace HB := am (bs (xW HB.out) hb); (try clear hb); (try clear ho0); (try clear ho1)) | ((with_reducible refine gate_dst (N := 5) rfl ?_); (try (refine gate_guard (by rfl) ?_; dsimp only)); refine xE (N := 5) (cs := #[.slice none 0 0, .slice none 0 0, .int .i64 0]) (t := 26) (h := ?_); intro gb519 hg w14 hbox hb; replace HO504 := am (rb (xR HO504.out) hb); replace HO507 := am (rb (xR HO507.out) hb); replace HO513 := am (rb (xR HO513.out) hb); replace HO516 := am (rb (xR HO516.out) hb); have BK519 := am (hbox); have GW519 := am (xS hg HB.out); have GE519 := am (xS hg HB.out); replace HB := am (bs (xW HB.out) hb); have NB510_519 := am (xN hg BK510.out); have NB519_510 := am (xM hg BK510.out); replace BK510 := am (bb (xB BK510.out) hb); clear hb hbox hg; obtain ⟨Ao15, co15, eo15⟩ := Kd.R_slice HO513.out; subst eo15; have hnb16 := NB519_510.out; have hnc16 := NB510_519.out; obtain ⟨hcz17_0, hcz17_1, hcz17_2, hfz17_0, hfz17_1, hfz17_2⟩ := xT3 (W := w14) BK519.out; obtain ⟨Ao18, co18, eo18⟩ := Kd.R_slice HO516.out; subst eo18; obtain ⟨hcz19_0, hcz19_1, hcz19_2, hfz19_0, hfz19_1, hfz19_2⟩ := xT3 (W := w14) BK510.out) | ((with_reducible refine gate_callee (f := 42) rfl ?_); refine xG (some 30) 42 Try.func42 #[.agg #[.slice Ao10 t502.length co10, .slice Ao12 t505.length co12, .int .i64 t508]] (h := ?_); (with_reducible refine (spec_CleanTable.calls k _ _ t502 _ _ t505 t508 t520 t523 t526 t527 _ ?side1 ?side2 ?side3 ?side4 A6.out).mono ?_); (case side1 => exact xD HO504.out); (case side2 => exact (rr HO504.out).2.1); (case side3 => exact xD HO507.out); (case side4 => exact (rr HO507.out).2.1); rintro e w20 ⟨v521, v524, rfl, ho0, ho1, hb⟩; refine ⟨_, rfl, ?_⟩; have HO522 := am (Kd.R_lower (Kd.R_new' (Kd.R_new' (Kd.R_new' (Kd.R_new' ho0 (Kd.R_lt (xR HO504.out))) (Kd.R_lt (xR HO507.out))) (Kd.R_lt (xR HO513.out))) (Kd.R_lt (xR HO516.out))) (below_size (xW HB.out))); have HO525 := am (Kd.R_lower (Kd.R_new' (Kd.R_new' (Kd.R_new' (Kd.R_new' ho1 (Kd.R_lt (xR HO504.out))) (Kd.R_lt (xR HO507.out))) (Kd.R_lt (xR HO513.out))) (Kd.R_lt (xR HO516.out))) (below_size (xW HB.out))); replace HO504 := am (rm (ro (ro (rl (xR HO504.out) hb) (re ho0)) (re ho1)) (fun _ h_ => h_.1)); replace HO507 := am (rm (ro (ro (rl (xR HO507.out) hb) (re ho0)) (re ho1)) (fun _ h_ => h_.1)); replace HO513 := am (rm (ro (ro (rl (xR HO513.out) hb) (re ho0)) (re ho1)) (fun _ h_ => h_.1)); replace HO516 := am (rm (ro (ro (rl (xR HO516.out) hb) (re ho0)) (re ho1)) (fun _ h_ => h_.1)); replace BK510 := am (bb (xB BK510.out) hb); replace BK519 := am (bb (xP BK519.out) hb); replace HB := am (bs (xW HB.out) hb); (try clear hb); (try clear ho0); (try clear ho1)) | ((with_reducible refine gate_dst (N := 7) rfl ?_); (try (refine gate_guard (by rfl) ?_; dsimp only)); refine xE (N := 7) (cs := #[.slice none 0 0, .slice none 0 0, .int .i64 0]) (t := 26) (h := ?_); intro gb528 hg w21 hbox hb; replace HO504 := am (rb (xR HO504.out) hb); replace HO507 := am (rb (xR HO507.out) hb); replace HO513 := am (rb (xR HO513.out) hb); replace HO516 := am (rb (xR HO516.out) hb); replace HO522 := am (rb (xR HO522.out) hb); replace HO525 := am (rb (xR HO525.out) hb); have BK528 := am (hbox); have GW528 := am (xS hg HB.out); have GE528 := am (xS hg HB.out); replace HB := am (bs (xW HB.out) hb); have NB510_528 := am (xN hg BK510.out); have NB528_510 := am (xM hg BK510.out); replace BK510 := am (bb (xB BK510.out) hb); have NB519_528 := am (xN hg BK519.out); have NB528_519 := am (xM hg BK519.out); replace BK519 := am (bb (xB BK519.out) hb); clear hb hbox hg; obtain ⟨Ao22, co22, eo22⟩ := Kd.R_slice HO522.out; subst eo22; have hnb23 := NB528_510.out; have hnc23 := NB510_528.out; have hnb24 := NB528_519.out; have hnc24 := NB519_528.out; obtain ⟨hcz25_0, hcz25_1, hcz25_2, hfz25_0, hfz25_1, hfz25_2⟩ := xT3 (W := w21) BK528.out; obtain ⟨Ao26, co26, eo26⟩ := Kd.R_slice HO525.out; subst eo26))
   go_ret
   exact ⟨xV, xW HB.out⟩
  ·rw [if_neg c7] at H
   have c7b0 : (t518 != t527) = false := by simpa using c7
   (try (have c7b1 : decide (t518 = t527) = true := by simpa using c7))
   (try (have c7b2 : (t518 == t527) = true := by simpa using c7))
   clear c7
   by_cases c27 : t518 = true
   ·subst c27
    have H1 : ((impl_KeysOf.f k t511 t514 t517).bind fun t529 => (laws_FnCleans.l0 k t529 0 t502 t505 t508 t511 t514 t517)) = some r := by rw [if_pos rfl] at H; exact H
    clear H
    have H := H1
    clear H1
    replace H := Option.bind_eq_some_iff.mp H
    obtain ⟨t529, A280, H⟩ := H
    try dsimp only at H
    have A28 := am A280
    clear A280
    have H' := am H
    clear H
    go_enter Try.func13, Try.ntmps13
    go_wp2_with (first | ((with_reducible refine gate_callee (f := 14) rfl ?_); refine xG (some 17) 14 Try.func14 #[.slice A0 l0.length c0] (h := ?_); (with_reducible refine (laws_big.calls _ _ l0 false _ ?side1 ?side2 A2.out).mono ?_); (case side1 => exact xC (HR0.out)); (case side2 => exact HC0.out); rintro e w' ⟨rfl, ⟨nd, rfl⟩⟩; refine ⟨_, rfl, ?_⟩) | ((with_reducible refine gate_callee (f := 15) rfl ?_); refine xG (some 20) 15 Try.func15 #[.slice A0 l0.length c0] (h := ?_); (with_reducible refine (spec_DrawRightTable.calls k _ _ l0 t502 t505 t508 t509 _ ?side1 ?side2 A4.out).mono ?_); (case side1 => exact xC (HR0.out)); (case side2 => exact HC0.out); rintro e w29 ⟨v503, v506, rfl, ho0, ho1, hb⟩; refine ⟨_, rfl, ?_⟩; have HO504 := am (Kd.R_lower ho0 (below_size (xW HB.out))); have HO507 := am (Kd.R_lower ho1 (below_size (xW HB.out))); replace HB := am (bs (xW HB.out) hb); (try clear hb); (try clear ho0); (try clear ho1)) | ((with_reducible refine gate_dst (N := 3) rfl ?_); (try (refine gate_guard (by rfl) ?_; dsimp only)); refine xE (N := 3) (cs := #[.slice none 0 0, .slice none 0 0, .int .i64 0]) (t := 26) (h := ?_); intro gb510 hg w30 hbox hb; replace HO504 := am (rb (xR HO504.out) hb); replace HO507 := am (rb (xR HO507.out) hb); have BK510 := am (hbox); have GW510 := am (xS hg HB.out); have GE510 := am (xS hg HB.out); replace HB := am (bs (xW HB.out) hb); clear hb hbox hg; obtain ⟨Ao31, co31, eo31⟩ := Kd.R_slice HO504.out; subst eo31; obtain ⟨hcz32_0, hcz32_1, hcz32_2, hfz32_0, hfz32_1, hfz32_2⟩ := xT3 (W := w30) BK510.out; obtain ⟨Ao33, co33, eo33⟩ := Kd.R_slice HO507.out; subst eo33) | ((with_reducible refine gate_callee (f := 43) rfl ?_); refine xG (some 25) 43 Try.func43 #[.agg #[.slice Ao31 t502.length co31, .slice Ao33 t505.length co33, .int .i64 t508]] (h := ?_); (with_reducible refine (impl_CleanTable.calls k _ _ t502 _ _ t505 t508 t511 t514 t517 true _ ?side1 ?side2 ?side3 ?side4 A5.out).mono ?_); (case side1 => exact xD HO504.out); (case side2 => exact (rr HO504.out).2.1); (case side3 => exact xD HO507.out); (case side4 => exact (rr HO507.out).2.1); rintro e w34 ⟨v512, v515, rfl, ho0, ho1, hb⟩; refine ⟨_, rfl, ?_⟩; have HO513 := am (Kd.R_lower (Kd.R_new' (Kd.R_new' ho0 (Kd.R_lt (xR HO504.out))) (Kd.R_lt (xR HO507.out))) (below_size (xW HB.out))); have HO516 := am (Kd.R_lower (Kd.R_new' (Kd.R_new' ho1 (Kd.R_lt (xR HO504.out))) (Kd.R_lt (xR HO507.out))) (below_size (xW HB.out))); replace HO504 := am (rm (ro (ro (rl (xR HO504.out) hb) (re ho0)) (re ho1)) (fun _ h_ => h_.1)); replace HO507 := am (rm (ro (ro (rl (xR HO507.out) hb) (re ho0)) (re ho1)) (fun _ h_ => h_.1)); replace BK510 := am (bb (xP BK510.out) hb); replace HB := am (bs (xW HB.out) hb); (try clear hb); (try clear ho0); (try clear ho1)) | ((with_reducible refine gate_dst (N := 5) rfl ?_); (try (refine gate_guard (by rfl) ?_; dsimp only)); refine xE (N := 5) (cs := #[.slice none 0 0, .slice none 0 0, .int .i64 0]) (t := 26) (h := ?_); intro gb519 hg w35 hbox hb; replace HO504 := am (rb (xR HO504.out) hb); replace HO507 := am (rb (xR HO507.out) hb); replace HO513 := am (rb (xR HO513.out) hb); replace HO516 := am (rb (xR HO516.out) hb); have BK519 := am (hbox); have GW519 := am (xS hg HB.out); have GE519 := am (xS hg HB.out); replace HB := am (bs (xW HB.out) hb); have NB510_519 := am (xN hg BK510.out); have NB519_510 := am (xM hg BK510.out); replace BK510 := am (bb (xB BK510.out) hb); clear hb hbox hg; obtain ⟨Ao36, co36, eo36⟩ := Kd.R_slice HO513.out; subst eo36; have hnb37 := NB519_510.out; have hnc37 := NB510_519.out; obtain ⟨hcz38_0, hcz38_1, hcz38_2, hfz38_0, hfz38_1, hfz38_2⟩ := xT3 (W := w35) BK519.out; obtain ⟨Ao39, co39, eo39⟩ := Kd.R_slice HO516.out; subst eo39; obtain ⟨hcz40_0, hcz40_1, hcz40_2, hfz40_0, hfz40_1, hfz40_2⟩ := xT3 (W := w35) BK510.out) | ((with_reducible refine gate_callee (f := 42) rfl ?_); refine xG (some 30) 42 Try.func42 #[.agg #[.slice Ao31 t502.length co31, .slice Ao33 t505.length co33, .int .i64 t508]] (h := ?_); (with_reducible refine (spec_CleanTable.calls k _ _ t502 _ _ t505 t508 t520 t523 t526 t527 _ ?side1 ?side2 ?side3 ?side4 A6.out).mono ?_); (case side1 => exact xD HO504.out); (case side2 => exact (rr HO504.out).2.1); (case side3 => exact xD HO507.out); (case side4 => exact (rr HO507.out).2.1); rintro e w41 ⟨v521, v524, rfl, ho0, ho1, hb⟩; refine ⟨_, rfl, ?_⟩; have HO522 := am (Kd.R_lower (Kd.R_new' (Kd.R_new' (Kd.R_new' (Kd.R_new' ho0 (Kd.R_lt (xR HO504.out))) (Kd.R_lt (xR HO507.out))) (Kd.R_lt (xR HO513.out))) (Kd.R_lt (xR HO516.out))) (below_size (xW HB.out))); have HO525 := am (Kd.R_lower (Kd.R_new' (Kd.R_new' (Kd.R_new' (Kd.R_new' ho1 (Kd.R_lt (xR HO504.out))) (Kd.R_lt (xR HO507.out))) (Kd.R_lt (xR HO513.out))) (Kd.R_lt (xR HO516.out))) (below_size (xW HB.out))); replace HO504 := am (rm (ro (ro (rl (xR HO504.out) hb) (re ho0)) (re ho1)) (fun _ h_ => h_.1)); replace HO507 := am (rm (ro (ro (rl (xR HO507.out) hb) (re ho0)) (re ho1)) (fun _ h_ => h_.1)); replace HO513 := am (rm (ro (ro (rl (xR HO513.out) hb) (re ho0)) (re ho1)) (fun _ h_ => h_.1)); replace HO516 := am (rm (ro (ro (rl (xR HO516.out) hb) (re ho0)) (re ho1)) (fun _ h_ => h_.1)); replace BK510 := am (bb (xB BK510.out) hb); replace BK519 := am (bb (xP BK519.out) hb); replace HB := am (bs (xW HB.out) hb); (try clear hb); (try clear ho0); (try clear ho1)) | ((with_reducible refine gate_dst (N := 7) rfl ?_); (try (refine gate_guard (by rfl) ?_; dsimp only)); refine xE (N := 7) (cs := #[.slice none 0 0, .slice none 0 0, .int .i64 0]) (t := 26) (h := ?_); intro gb528 hg w42 hbox hb; replace HO504 := am (rb (xR HO504.out) hb); replace HO507 := am (rb (xR HO507.out) hb); replace HO513 := am (rb (xR HO513.out) hb); replace HO516 := am (rb (xR HO516.out) hb); replace HO522 := am (rb (xR HO522.out) hb); replace HO525 := am (rb (xR HO525.out) hb); have BK528 := am (hbox); have GW528 := am (xS hg HB.out); have GE528 := am (xS hg HB.out); replace HB := am (bs (xW HB.out) hb); have NB510_528 := am (xN hg BK510.out); have NB528_510 := am (xM hg BK510.out); replace BK510 := am (bb (xB BK510.out) hb); have NB519_528 := am (xN hg BK519.out); have NB528_519 := am (xM hg BK519.out); replace BK519 := am (bb (xB BK519.out) hb); clear hb hbox hg; obtain ⟨Ao43, co43, eo43⟩ := Kd.R_slice HO522.out; subst eo43; have hnb44 := NB528_510.out; have hnc44 := NB510_528.out; have hnb45 := NB528_519.out; have hnc45 := NB519_528.out; obtain ⟨hcz46_0, hcz46_1, hcz46_2, hfz46_0, hfz46_1, hfz46_2⟩ := xT3 (W := w42) BK528.out; obtain ⟨Ao47, co47, eo47⟩ := Kd.R_slice HO525.out; subst eo47; obtain ⟨hcz48_0, hcz48_1, hcz48_2, hfz48_0, hfz48_1, hfz48_2⟩ := xT3 (W := w42) BK519.out) | ((with_reducible refine gate_callee (f := 20) rfl ?_); refine xG (some 43) 20 Try.func20 #[.agg #[.slice Ao36 t511.length co36, .slice Ao39 t514.length co39, .int .i64 t517]] (h := ?_); (with_reducible refine (impl_KeysOf.calls k _ _ t511 _ _ t514 t517 t529 _ ?side1 ?side2 ?side3 ?side4 A28.out).mono ?_); (case side1 => exact xD HO513.out); (case side2 => exact (rr HO513.out).2.1); (case side3 => exact xD HO516.out); (case side4 => exact (rr HO516.out).2.1); rintro e w49 ⟨v530, rfl, ho0, hb⟩; refine ⟨_, rfl, ?_⟩; replace HO504 := am (rb (xR HO504.out) hb); replace HO507 := am (rb (xR HO507.out) hb); replace HO513 := am (rb (xR HO513.out) hb); replace HO516 := am (rb (xR HO516.out) hb); replace HO522 := am (rb (xR HO522.out) hb); replace HO525 := am (rb (xR HO525.out) hb); have HO531 := am (Kd.R_lower ho0 (below_size (xW HB.out))); replace BK510 := am (bb (xB BK510.out) hb); replace BK519 := am (bb (xB BK519.out) hb); replace BK528 := am (bb (xP BK528.out) hb); replace HB := am (bs (xW HB.out) hb); (try clear hb); (try clear ho0)))
    go_loopg [10] k (fun kq v10 w' => ∃ (x10_1 : Int), v10 = .int .i64 x10_1 ∧ Aside0 (laws_FnCleans.l0 kq t529 x10_1 t502 t505 t508 t511 t514 t517 = some r) ∧ Aside0 (kq ≤ k) ∧ Aside0 (Kd.R Kd.string 9 w' w.heap.size (fun _ => True) v530 t529) ∧ Aside0 (Kd.R k57 57 w' w.heap.size (fun k_ => some k_ ≠ ((.slice Ao33 t505.length co33) : Value).ownBlock ∧ some k_ ≠ ((.slice Ao36 t511.length co36) : Value).ownBlock ∧ some k_ ≠ ((.slice Ao39 t514.length co39) : Value).ownBlock ∧ some k_ ≠ ((.slice Ao43 t520.length co43) : Value).ownBlock ∧ some k_ ≠ ((.slice Ao47 t523.length co47) : Value).ownBlock) (.slice Ao31 t502.length co31) t502) ∧ Aside0 (Kd.R k57 57 w' w.heap.size (fun k_ => some k_ ≠ ((.slice Ao31 t502.length co31) : Value).ownBlock ∧ some k_ ≠ ((.slice Ao36 t511.length co36) : Value).ownBlock ∧ some k_ ≠ ((.slice Ao39 t514.length co39) : Value).ownBlock ∧ some k_ ≠ ((.slice Ao43 t520.length co43) : Value).ownBlock ∧ some k_ ≠ ((.slice Ao47 t523.length co47) : Value).ownBlock) (.slice Ao33 t505.length co33) t505) ∧ Aside0 (Kd.R k57 57 w' w.heap.size (fun k_ => some k_ ≠ ((.slice Ao31 t502.length co31) : Value).ownBlock ∧ some k_ ≠ ((.slice Ao33 t505.length co33) : Value).ownBlock ∧ some k_ ≠ ((.slice Ao39 t514.length co39) : Value).ownBlock ∧ some k_ ≠ ((.slice Ao43 t520.length co43) : Value).ownBlock ∧ some k_ ≠ ((.slice Ao47 t523.length co47) : Value).ownBlock) (.slice Ao36 t511.length co36) t511) ∧ Aside0 (Kd.R k57 57 w' w.heap.size (fun k_ => some k_ ≠ ((.slice Ao31 t502.length co31) : Value).ownBlock ∧ some k_ ≠ ((.slice Ao33 t505.length co33) : Value).ownBlock ∧ some k_ ≠ ((.slice Ao36 t511.length co36) : Value).ownBlock ∧ some k_ ≠ ((.slice Ao43 t520.length co43) : Value).ownBlock ∧ some k_ ≠ ((.slice Ao47 t523.length co47) : Value).ownBlock) (.slice Ao39 t514.length co39) t514) ∧ Aside0 (Kd.R k57 57 w' w.heap.size (fun k_ => some k_ ≠ ((.slice Ao31 t502.length co31) : Value).ownBlock ∧ some k_ ≠ ((.slice Ao33 t505.length co33) : Value).ownBlock ∧ some k_ ≠ ((.slice Ao36 t511.length co36) : Value).ownBlock ∧ some k_ ≠ ((.slice Ao39 t514.length co39) : Value).ownBlock ∧ some k_ ≠ ((.slice Ao47 t523.length co47) : Value).ownBlock) (.slice Ao43 t520.length co43) t520) ∧ Aside0 (Kd.R k57 57 w' w.heap.size (fun k_ => some k_ ≠ ((.slice Ao31 t502.length co31) : Value).ownBlock ∧ some k_ ≠ ((.slice Ao33 t505.length co33) : Value).ownBlock ∧ some k_ ≠ ((.slice Ao36 t511.length co36) : Value).ownBlock ∧ some k_ ≠ ((.slice Ao39 t514.length co39) : Value).ownBlock ∧ some k_ ≠ ((.slice Ao43 t520.length co43) : Value).ownBlock) (.slice Ao47 t523.length co47) t523) ∧ Aside0 (w'.heap[gb510]? = some (.cells #[(.slice Ao31 t502.length co31), (.slice Ao33 t505.length co33), .int .i64 t508] 26 (0, 0))) ∧ Aside0 (w'.heap[gb519]? = some (.cells #[(.slice Ao36 t511.length co36), (.slice Ao39 t514.length co39), .int .i64 t517] 26 (0, 0))) ∧ Aside0 (w'.heap[gb528]? = some (.cells #[(.slice Ao43 t520.length co43), (.slice Ao47 t523.length co47), .int .i64 t526] 26 (0, 0))) ∧ Aside0 (Below w.heap.size w w'))
    case atStart => exact ⟨(0), (xQ), H', ⟨Nat.le_refl _⟩, ⟨xR HO531.out⟩, ⟨Kd.R_mono (xR HO504.out) xI⟩, ⟨Kd.R_mono (xR HO507.out) xI⟩, ⟨Kd.R_mono (xR HO513.out) xI⟩, ⟨Kd.R_mono (xR HO516.out) xI⟩, ⟨Kd.R_mono (xR HO522.out) xI⟩, ⟨Kd.R_mono (xR HO525.out) xI⟩, ⟨xB BK510.out⟩, ⟨xB BK519.out⟩, ⟨xB BK528.out⟩, ⟨xW HB.out⟩⟩
    case round =>
     clear H'
     try clear c1
     try clear c2
     try clear p2
     try clear c3
     try clear c4
     try clear c7
     try clear c7b0
     try clear c7b1
     try clear c7b2
     try clear c13
     try clear c14
     try clear c15
     try clear c16
     try clear c20
     try clear c23
     try clear c24
     try clear c27
     try clear c37
     try clear c42
     try clear c43
     try clear c44
     try clear c45
     try clear hcz11_0
     try clear hcz11_1
     try clear hcz11_2
     try clear hcz17_0
     try clear hcz17_1
     try clear hcz17_2
     try clear hcz19_0
     try clear hcz19_1
     try clear hcz19_2
     try clear hcz25_0
     try clear hcz25_1
     try clear hcz25_2
     try clear hcz32_0
     try clear hcz32_1
     try clear hcz32_2
     try clear hcz38_0
     try clear hcz38_1
     try clear hcz38_2
     try clear hcz40_0
     try clear hcz40_1
     try clear hcz40_2
     try clear hcz46_0
     try clear hcz46_1
     try clear hcz46_2
     try clear hcz48_0
     try clear hcz48_1
     try clear hcz48_2
     try clear hfz11_0
     try clear hfz11_1
     try clear hfz11_2
     try clear hfz17_0
     try clear hfz17_1
     try clear hfz17_2
     try clear hfz19_0
     try clear hfz19_1
     try clear hfz19_2
     try clear hfz25_0
     try clear hfz25_1
     try clear hfz25_2
     try clear hfz32_0
     try clear hfz32_1
     try clear hfz32_2
     try clear hfz38_0
     try clear hfz38_1
     try clear hfz38_2
     try clear hfz40_0
     try clear hfz40_1
     try clear hfz40_2
     try clear hfz46_0
     try clear hfz46_1
     try clear hfz46_2
     try clear hfz48_0
     try clear hfz48_1
     try clear hfz48_2
     obtain ⟨x10_1, rfl, HA, HK1, HO_9, HO_511000, HO_511001, HO_520000, HO_520001, HO_529000, HO_529001, BK510, BK519, BK528, HB⟩ := hrel
     cases gk with
     | zero => exact absurd HA.out (by simp [laws_FnCleans.l0])
     | succ k1 =>
      have H := HA.out
      clear HA
      simp only [laws_FnCleans.l0] at H
      by_cases c50 : x10_1 < (t529.length : Int)
      ·rw [if_pos c50] at H
       have c50b0 : decide (x10_1 < (t529.length : Int)) = true := decide_eq_true c50
       clear c50
       by_cases c51 : 0 ≤ x10_1
       ·rw [if_pos c51] at H
        have c51b0 : decide (0 ≤ x10_1) = true := decide_eq_true c51
        clear c51
        replace H := Option.bind_eq_some_iff.mp H
        obtain ⟨⟨t533, t534⟩, A520, H⟩ := H
        try dsimp only at H
        have A52 := am A520
        clear A520
        replace H := Option.bind_eq_some_iff.mp H
        obtain ⟨⟨t536, t537⟩, A530, H⟩ := H
        try dsimp only at H
        have A53 := am A530
        clear A530
        by_cases c54 : t537 = true
        ·subst c54
         have H1 : (if t533 = t536 then (laws_FnCleans.l0 k1 t529 (wrap64 (x10_1 + 1)) t502 t505 t508 t511 t514 t517) else (some false)) = some r := by rw [if_pos rfl] at H; exact H
         clear H
         have H := H1
         clear H1
         by_cases c55 : t533 = t536
         ·rw [if_pos c55] at H
          have c55b0 : (t533 == t536) = true := beq_iff_eq.mpr c55
          have c55b1 : (t533 != t536) = false := bne_eq_false_iff_eq.mpr c55
          clear c55
          have H' := am H
          clear H
          obtain ⟨Ao56, co56, eo56⟩ := Kd.R_slice HO_9.out
          subst eo56
          try go_wp2
          replace HO_9 := am (Kd.R_drew HO_9.out)
          replace HO_511000 := am (Kd.R_drew HO_511000.out)
          replace HO_511001 := am (Kd.R_drew HO_511001.out)
          replace HO_520000 := am (Kd.R_drew HO_520000.out)
          replace HO_520001 := am (Kd.R_drew HO_520001.out)
          replace HO_529000 := am (Kd.R_drew HO_529000.out)
          replace HO_529001 := am (Kd.R_drew HO_529001.out)
          replace BK510 := am (blk_drew BK510.out)
          replace BK519 := am (blk_drew BK519.out)
          replace BK528 := am (blk_drew BK528.out)
          replace HB := am (below_drew1 HB.out)
          have p532 : 0 ≤ (x10_1 : Int) := of_decide_eq_true (by assumption)
          have q532 : x10_1 < (t529.length : Int) := of_decide_eq_true (by assumption)
          obtain ⟨ad532, e532, hx532_0⟩ := Kd.at_string (rr HO_9.out).2.2 x10_1 p532 q532
          cases e532
          replace p532 := eq_true p532
          replace q532 := eq_true q532
          refine start_ (n := 11) (S := fun w' => w'.cell? ⟨gb510, 0, none⟩ = some (.slice Ao31 t502.length co31) ∧ w'.cell? ⟨gb510, 1, none⟩ = some (.slice Ao33 t505.length co33) ∧ w'.cell? ⟨gb510, 2, none⟩ = some (.int .i64 t508) ∧ w'.cell? (ad532.add (x10_1).toNat) = some (.string (rdOf ByteArray.empty t529 x10_1))) (ds := []) #[false, false, false, false, false, false, false, false, false, false, false] (by kernel_rfl) rfl rfl ⟨(blk_cell BK510.out 0).trans rfl, (blk_cell BK510.out 1).trans rfl, (blk_cell BK510.out 2).trans rfl, hx532_0⟩ (fun hHeld => ?_); refine with_tabW laws_FnCleans.tab14 laws_FnCleans.bits14 (fun HT_ HW_ => ?_)
          generalize wr.drew = w57 at HO_9 HO_511000 HO_511001 HO_520000 HO_520001 HO_529000 HO_529001 BK510 BK519 BK528 HB hx532_0 hHeld ⊢
          refine xP1 (i := 1) (N := some 52) #[false, true, false, false, false, false, false, false, false, false, false] (any_of HT_.out (by kernel_rfl)) (h := ?_)
          refine xP1 (i := 2) (N := some 53) #[false, true, true, false, false, false, false, false, false, false, false] (any_of HT_.out (by kernel_rfl)) (h := ?_)
          refine xP1 (i := 3) (N := some 54) #[false, true, true, true, false, false, false, false, false, false, false] (any_of HT_.out (by kernel_rfl)) (h := ?_)
          refine take_ (i := 0) (N := some 51) (v := ?_) (a' := ?_) #[true, true, true, true, false, false, false, false, false, false, false] rfl rfl (take_ofW HT_.out HW_.out (by kernel_rfl)) (fun _ _ _ h => h) (Or.inl ⟨by rfl, ?_⟩) hHeld ?_ ?_
          rotate_left
          ·rintro w' ⟨s0, s1, s2, s3⟩
           go_simp
           with_reducible rfl
          rotate_left
          ·simp only [Act.put, List.setIfInBounds_toArray, List.set_cons_zero, List.set_cons_succ, i64_w, i32_w]
           rfl
          refine take_ (i := 4) (N := some 55) (v := ?_) (a' := ?_) #[true, true, true, true, true, false, false, false, false, false, false] rfl rfl (take_ofW HT_.out HW_.out (by kernel_rfl)) (fun _ _ _ h => h) (Or.inl ⟨by rfl, ?_⟩) hHeld ?_ ?_
          rotate_left
          ·rintro w' ⟨s0, s1, s2, s3⟩
           go_simp
           with_reducible rfl
          rotate_left
          ·simp only [Act.put, List.setIfInBounds_toArray, List.set_cons_zero, List.set_cons_succ, i64_w, i32_w]
           rfl
          refine one_ (i := 5) (N := some 56) #[true, true, true, true, true, true, false, false, false, false, false] rfl rfl (one_of HT_.out (by kernel_rfl)) (by decide) (fun K hK => ?_)
          refine xG1 22 Try.func22 #[.agg #[.slice Ao31 t502.length co31, .slice Ao33 t505.length co33, .int .i64 t508], .string (rdOf ByteArray.empty t529 x10_1)] (h := ?_)
          with_reducible refine (spec_SeekKey.calls k1 _ _ t502 _ _ t505 t508 (rdOf ByteArray.empty t529 x10_1) t533 t534 _ ?side1 ?side2 ?side3 ?side4 A52.out).mono ?_
          (case side1 => exact xC ((rr HO_511000.out).2.2))
          (case side2 => exact (rr HO_511000.out).2.1)
          (case side3 => exact xC ((rr HO_511001.out).2.2))
          (case side4 => exact (rr HO_511001.out).2.1)
          rintro e w58 ⟨rfl, hb⟩
          have HS3_ := (hb.cell (World.block_lt_of_cell? _ _ (hHeld.2.2.2))).trans (hHeld.2.2.2)
          refine ⟨_, rfl, ?_⟩
          replace HO_9 := am (rb (xR HO_9.out) hb)
          replace HO_511000 := am (rb (xR HO_511000.out) hb)
          replace HO_511001 := am (rb (xR HO_511001.out) hb)
          replace HO_520000 := am (rb (xR HO_520000.out) hb)
          replace HO_520001 := am (rb (xR HO_520001.out) hb)
          replace HO_529000 := am (rb (xR HO_529000.out) hb)
          replace HO_529001 := am (rb (xR HO_529001.out) hb)
          replace BK510 := am (bb (xB BK510.out) hb)
          replace BK519 := am (bb (xB BK519.out) hb)
          replace BK528 := am (bb (xB BK528.out) hb)
          replace HB := am (bs (xW HB.out) hb)
          (try clear hb)
          refine hK.out _ _ ⟨(blk_cell BK510.out 0).trans rfl, (blk_cell BK510.out 1).trans rfl, (blk_cell BK510.out 2).trans rfl, HS3_⟩ (fun hHeld => ?_)
          clear hK K
          refine xN1 (h := ?_)
          refine xP1 (i := 6) (N := some 50) #[true, true, true, true, true, true, true, false, false, false, false] (any_of HT_.out (by kernel_rfl)) (h := ?_)
          refine xP1 (i := 7) (N := some 57) #[true, true, true, true, true, true, true, true, false, false, false] (any_of HT_.out (by kernel_rfl)) (h := ?_)
          refine xP1 (i := 8) (N := some 58) #[true, true, true, true, true, true, true, true, true, false, false] (any_of HT_.out (by kernel_rfl)) (h := ?_)
          refine xP1 (i := 9) (N := some 11) #[true, true, true, true, true, true, true, true, true, true, false] (any_of HT_.out (by kernel_rfl)) (h := ?_)
          refine xP1 (i := 10) (N := some 12) #[true, true, true, true, true, true, true, true, true, true, true] (any_of HT_.out (by kernel_rfl)) (h := ?_)
          refine done_ (done_of HT_.out (by kernel_rfl)) ?_
          try go_wp2
          replace HO_9 := am (Kd.R_drew HO_9.out)
          replace HO_511000 := am (Kd.R_drew HO_511000.out)
          replace HO_511001 := am (Kd.R_drew HO_511001.out)
          replace HO_520000 := am (Kd.R_drew HO_520000.out)
          replace HO_520001 := am (Kd.R_drew HO_520001.out)
          replace HO_529000 := am (Kd.R_drew HO_529000.out)
          replace HO_529001 := am (Kd.R_drew HO_529001.out)
          replace BK510 := am (blk_drew BK510.out)
          replace BK519 := am (blk_drew BK519.out)
          replace BK528 := am (blk_drew BK528.out)
          replace HB := am (below_drew1 HB.out)
          have p535 : 0 ≤ (x10_1 : Int) := of_decide_eq_true (by assumption)
          have q535 : x10_1 < (t529.length : Int) := of_decide_eq_true (by assumption)
          obtain ⟨ad535, e535, hx535_0⟩ := Kd.at_string (rr HO_9.out).2.2 x10_1 p535 q535
          obtain rfl : ad532 = ad535 := (by injection e535)
          replace p535 := eq_true p535
          replace q535 := eq_true q535
          refine start_ (n := 11) (S := fun w' => w'.cell? ⟨gb519, 0, none⟩ = some (.slice Ao36 t511.length co36) ∧ w'.cell? ⟨gb519, 1, none⟩ = some (.slice Ao39 t514.length co39) ∧ w'.cell? ⟨gb519, 2, none⟩ = some (.int .i64 t517) ∧ w'.cell? (ad532.add (x10_1).toNat) = some (.string (rdOf ByteArray.empty t529 x10_1))) (ds := []) #[false, false, false, false, false, false, false, false, false, false, false] (by kernel_rfl) rfl rfl ⟨(blk_cell BK519.out 0).trans rfl, (blk_cell BK519.out 1).trans rfl, (blk_cell BK519.out 2).trans rfl, hx535_0⟩ (fun hHeld => ?_); refine with_tabW laws_FnCleans.tab15 laws_FnCleans.bits15 (fun HT_ HW_ => ?_)
          generalize w58.drew = w59 at HO_9 HO_511000 HO_511001 HO_520000 HO_520001 HO_529000 HO_529001 BK510 BK519 BK528 HB hx535_0 hHeld ⊢
          refine xP1 (i := 1) (N := some 61) #[false, true, false, false, false, false, false, false, false, false, false] (any_of HT_.out (by kernel_rfl)) (h := ?_)
          refine xP1 (i := 2) (N := some 62) #[false, true, true, false, false, false, false, false, false, false, false] (any_of HT_.out (by kernel_rfl)) (h := ?_)
          refine xP1 (i := 3) (N := some 63) #[false, true, true, true, false, false, false, false, false, false, false] (any_of HT_.out (by kernel_rfl)) (h := ?_)
          refine take_ (i := 0) (N := some 60) (v := ?_) (a' := ?_) #[true, true, true, true, false, false, false, false, false, false, false] rfl rfl (take_ofW HT_.out HW_.out (by kernel_rfl)) (fun _ _ _ h => h) (Or.inl ⟨by rfl, ?_⟩) hHeld ?_ ?_
          rotate_left
          ·rintro w' ⟨s0, s1, s2, s3⟩
           go_simp
           with_reducible rfl
          rotate_left
          ·simp only [Act.put, List.setIfInBounds_toArray, List.set_cons_zero, List.set_cons_succ, i64_w, i32_w]
           rfl
          refine take_ (i := 4) (N := some 64) (v := ?_) (a' := ?_) #[true, true, true, true, true, false, false, false, false, false, false] rfl rfl (take_ofW HT_.out HW_.out (by kernel_rfl)) (fun _ _ _ h => h) (Or.inl ⟨by rfl, ?_⟩) hHeld ?_ ?_
          rotate_left
          ·rintro w' ⟨s0, s1, s2, s3⟩
           go_simp
           with_reducible rfl
          rotate_left
          ·simp only [Act.put, List.setIfInBounds_toArray, List.set_cons_zero, List.set_cons_succ, i64_w, i32_w]
           rfl
          refine one_ (i := 5) (N := some 65) #[true, true, true, true, true, true, false, false, false, false, false] rfl rfl (one_of HT_.out (by kernel_rfl)) (by decide) (fun K hK => ?_)
          refine xG1 23 Try.func23 #[.agg #[.slice Ao36 t511.length co36, .slice Ao39 t514.length co39, .int .i64 t517], .string (rdOf ByteArray.empty t529 x10_1)] (h := ?_)
          with_reducible refine (impl_SeekKey.calls k1 _ _ t511 _ _ t514 t517 (rdOf ByteArray.empty t529 x10_1) t536 true _ ?side1 ?side2 ?side3 ?side4 A53.out).mono ?_
          (case side1 => exact xC ((rr HO_520000.out).2.2))
          (case side2 => exact (rr HO_520000.out).2.1)
          (case side3 => exact xC ((rr HO_520001.out).2.2))
          (case side4 => exact (rr HO_520001.out).2.1)
          rintro e w60 ⟨rfl, hb⟩
          have HS3_ := (hb.cell (World.block_lt_of_cell? _ _ (hHeld.2.2.2))).trans (hHeld.2.2.2)
          refine ⟨_, rfl, ?_⟩
          replace HO_9 := am (rb (xR HO_9.out) hb)
          replace HO_511000 := am (rb (xR HO_511000.out) hb)
          replace HO_511001 := am (rb (xR HO_511001.out) hb)
          replace HO_520000 := am (rb (xR HO_520000.out) hb)
          replace HO_520001 := am (rb (xR HO_520001.out) hb)
          replace HO_529000 := am (rb (xR HO_529000.out) hb)
          replace HO_529001 := am (rb (xR HO_529001.out) hb)
          replace BK510 := am (bb (xB BK510.out) hb)
          replace BK519 := am (bb (xB BK519.out) hb)
          replace BK528 := am (bb (xB BK528.out) hb)
          replace HB := am (bs (xW HB.out) hb)
          (try clear hb)
          refine hK.out _ _ ⟨(blk_cell BK519.out 0).trans rfl, (blk_cell BK519.out 1).trans rfl, (blk_cell BK519.out 2).trans rfl, HS3_⟩ (fun hHeld => ?_)
          clear hK K
          refine xN1 (h := ?_)
          refine xP1 (i := 6) (N := some 59) #[true, true, true, true, true, true, true, false, false, false, false] (any_of HT_.out (by kernel_rfl)) (h := ?_)
          refine xP1 (i := 7) (N := some 66) #[true, true, true, true, true, true, true, true, false, false, false] (any_of HT_.out (by kernel_rfl)) (h := ?_)
          refine xP1 (i := 8) (N := some 67) #[true, true, true, true, true, true, true, true, true, false, false] (any_of HT_.out (by kernel_rfl)) (h := ?_)
          refine xP1 (i := 9) (N := some 13) #[true, true, true, true, true, true, true, true, true, true, false] (any_of HT_.out (by kernel_rfl)) (h := ?_)
          refine xP1 (i := 10) (N := some 14) #[true, true, true, true, true, true, true, true, true, true, true] (any_of HT_.out (by kernel_rfl)) (h := ?_)
          refine done_ (done_of HT_.out (by kernel_rfl)) ?_
          try go_wp2
          go_roundg k1
          case measure => have := HK1.out; omega
          case rel => exact ⟨(wrap64 (x10_1 + 1)), (xQ), H', ⟨by have := HK1.out; omega⟩, ⟨xR HO_9.out⟩, ⟨xR HO_511000.out⟩, ⟨xR HO_511001.out⟩, ⟨xR HO_520000.out⟩, ⟨xR HO_520001.out⟩, ⟨xR HO_529000.out⟩, ⟨xR HO_529001.out⟩, ⟨xB BK510.out⟩, ⟨xB BK519.out⟩, ⟨xB BK528.out⟩, ⟨xW HB.out⟩⟩
         ·rw [if_neg c55] at H
          have c55b0 : (t533 == t536) = false := beq_eq_false_iff_ne.mpr c55
          have c55b1 : (t533 != t536) = true := bne_iff_ne.mpr c55
          obtain rfl := Option.some.inj H
          obtain ⟨Ao61, co61, eo61⟩ := Kd.R_slice HO_9.out
          subst eo61
          try go_wp2
          replace HO_9 := am (Kd.R_drew HO_9.out)
          replace HO_511000 := am (Kd.R_drew HO_511000.out)
          replace HO_511001 := am (Kd.R_drew HO_511001.out)
          replace HO_520000 := am (Kd.R_drew HO_520000.out)
          replace HO_520001 := am (Kd.R_drew HO_520001.out)
          replace HO_529000 := am (Kd.R_drew HO_529000.out)
          replace HO_529001 := am (Kd.R_drew HO_529001.out)
          replace BK510 := am (blk_drew BK510.out)
          replace BK519 := am (blk_drew BK519.out)
          replace BK528 := am (blk_drew BK528.out)
          replace HB := am (below_drew1 HB.out)
          have p532 : 0 ≤ (x10_1 : Int) := of_decide_eq_true (by assumption)
          have q532 : x10_1 < (t529.length : Int) := of_decide_eq_true (by assumption)
          obtain ⟨ad532, e532, hx532_0⟩ := Kd.at_string (rr HO_9.out).2.2 x10_1 p532 q532
          cases e532
          replace p532 := eq_true p532
          replace q532 := eq_true q532
          refine start_ (n := 11) (S := fun w' => w'.cell? ⟨gb510, 0, none⟩ = some (.slice Ao31 t502.length co31) ∧ w'.cell? ⟨gb510, 1, none⟩ = some (.slice Ao33 t505.length co33) ∧ w'.cell? ⟨gb510, 2, none⟩ = some (.int .i64 t508) ∧ w'.cell? (ad532.add (x10_1).toNat) = some (.string (rdOf ByteArray.empty t529 x10_1))) (ds := []) #[false, false, false, false, false, false, false, false, false, false, false] (by kernel_rfl) rfl rfl ⟨(blk_cell BK510.out 0).trans rfl, (blk_cell BK510.out 1).trans rfl, (blk_cell BK510.out 2).trans rfl, hx532_0⟩ (fun hHeld => ?_); refine with_tabW laws_FnCleans.tab14 laws_FnCleans.bits14 (fun HT_ HW_ => ?_)
          generalize wr.drew = w62 at HO_9 HO_511000 HO_511001 HO_520000 HO_520001 HO_529000 HO_529001 BK510 BK519 BK528 HB hx532_0 hHeld ⊢
          refine xP1 (i := 1) (N := some 52) #[false, true, false, false, false, false, false, false, false, false, false] (any_of HT_.out (by kernel_rfl)) (h := ?_)
          refine xP1 (i := 2) (N := some 53) #[false, true, true, false, false, false, false, false, false, false, false] (any_of HT_.out (by kernel_rfl)) (h := ?_)
          refine xP1 (i := 3) (N := some 54) #[false, true, true, true, false, false, false, false, false, false, false] (any_of HT_.out (by kernel_rfl)) (h := ?_)
          refine take_ (i := 0) (N := some 51) (v := ?_) (a' := ?_) #[true, true, true, true, false, false, false, false, false, false, false] rfl rfl (take_ofW HT_.out HW_.out (by kernel_rfl)) (fun _ _ _ h => h) (Or.inl ⟨by rfl, ?_⟩) hHeld ?_ ?_
          rotate_left
          ·rintro w' ⟨s0, s1, s2, s3⟩
           go_simp
           with_reducible rfl
          rotate_left
          ·simp only [Act.put, List.setIfInBounds_toArray, List.set_cons_zero, List.set_cons_succ, i64_w, i32_w]
           rfl
          refine take_ (i := 4) (N := some 55) (v := ?_) (a' := ?_) #[true, true, true, true, true, false, false, false, false, false, false] rfl rfl (take_ofW HT_.out HW_.out (by kernel_rfl)) (fun _ _ _ h => h) (Or.inl ⟨by rfl, ?_⟩) hHeld ?_ ?_
          rotate_left
          ·rintro w' ⟨s0, s1, s2, s3⟩
           go_simp
           with_reducible rfl
          rotate_left
          ·simp only [Act.put, List.setIfInBounds_toArray, List.set_cons_zero, List.set_cons_succ, i64_w, i32_w]
           rfl
          refine one_ (i := 5) (N := some 56) #[true, true, true, true, true, true, false, false, false, false, false] rfl rfl (one_of HT_.out (by kernel_rfl)) (by decide) (fun K hK => ?_)
          refine xG1 22 Try.func22 #[.agg #[.slice Ao31 t502.length co31, .slice Ao33 t505.length co33, .int .i64 t508], .string (rdOf ByteArray.empty t529 x10_1)] (h := ?_)
          with_reducible refine (spec_SeekKey.calls k1 _ _ t502 _ _ t505 t508 (rdOf ByteArray.empty t529 x10_1) t533 t534 _ ?side1 ?side2 ?side3 ?side4 A52.out).mono ?_
          (case side1 => exact xC ((rr HO_511000.out).2.2))
          (case side2 => exact (rr HO_511000.out).2.1)
          (case side3 => exact xC ((rr HO_511001.out).2.2))
          (case side4 => exact (rr HO_511001.out).2.1)
          rintro e w63 ⟨rfl, hb⟩
          have HS3_ := (hb.cell (World.block_lt_of_cell? _ _ (hHeld.2.2.2))).trans (hHeld.2.2.2)
          refine ⟨_, rfl, ?_⟩
          replace HO_9 := am (rb (xR HO_9.out) hb)
          replace HO_511000 := am (rb (xR HO_511000.out) hb)
          replace HO_511001 := am (rb (xR HO_511001.out) hb)
          replace HO_520000 := am (rb (xR HO_520000.out) hb)
          replace HO_520001 := am (rb (xR HO_520001.out) hb)
          replace HO_529000 := am (rb (xR HO_529000.out) hb)
          replace HO_529001 := am (rb (xR HO_529001.out) hb)
          replace BK510 := am (bb (xB BK510.out) hb)
          replace BK519 := am (bb (xB BK519.out) hb)
          replace BK528 := am (bb (xB BK528.out) hb)
          replace HB := am (bs (xW HB.out) hb)
          (try clear hb)
          refine hK.out _ _ ⟨(blk_cell BK510.out 0).trans rfl, (blk_cell BK510.out 1).trans rfl, (blk_cell BK510.out 2).trans rfl, HS3_⟩ (fun hHeld => ?_)
          clear hK K
          refine xN1 (h := ?_)
          refine xP1 (i := 6) (N := some 50) #[true, true, true, true, true, true, true, false, false, false, false] (any_of HT_.out (by kernel_rfl)) (h := ?_)
          refine xP1 (i := 7) (N := some 57) #[true, true, true, true, true, true, true, true, false, false, false] (any_of HT_.out (by kernel_rfl)) (h := ?_)
          refine xP1 (i := 8) (N := some 58) #[true, true, true, true, true, true, true, true, true, false, false] (any_of HT_.out (by kernel_rfl)) (h := ?_)
          refine xP1 (i := 9) (N := some 11) #[true, true, true, true, true, true, true, true, true, true, false] (any_of HT_.out (by kernel_rfl)) (h := ?_)
          refine xP1 (i := 10) (N := some 12) #[true, true, true, true, true, true, true, true, true, true, true] (any_of HT_.out (by kernel_rfl)) (h := ?_)
          refine done_ (done_of HT_.out (by kernel_rfl)) ?_
          try go_wp2
          replace HO_9 := am (Kd.R_drew HO_9.out)
          replace HO_511000 := am (Kd.R_drew HO_511000.out)
          replace HO_511001 := am (Kd.R_drew HO_511001.out)
          replace HO_520000 := am (Kd.R_drew HO_520000.out)
          replace HO_520001 := am (Kd.R_drew HO_520001.out)
          replace HO_529000 := am (Kd.R_drew HO_529000.out)
          replace HO_529001 := am (Kd.R_drew HO_529001.out)
          replace BK510 := am (blk_drew BK510.out)
          replace BK519 := am (blk_drew BK519.out)
          replace BK528 := am (blk_drew BK528.out)
          replace HB := am (below_drew1 HB.out)
          have p535 : 0 ≤ (x10_1 : Int) := of_decide_eq_true (by assumption)
          have q535 : x10_1 < (t529.length : Int) := of_decide_eq_true (by assumption)
          obtain ⟨ad535, e535, hx535_0⟩ := Kd.at_string (rr HO_9.out).2.2 x10_1 p535 q535
          obtain rfl : ad532 = ad535 := (by injection e535)
          replace p535 := eq_true p535
          replace q535 := eq_true q535
          refine start_ (n := 11) (S := fun w' => w'.cell? ⟨gb519, 0, none⟩ = some (.slice Ao36 t511.length co36) ∧ w'.cell? ⟨gb519, 1, none⟩ = some (.slice Ao39 t514.length co39) ∧ w'.cell? ⟨gb519, 2, none⟩ = some (.int .i64 t517) ∧ w'.cell? (ad532.add (x10_1).toNat) = some (.string (rdOf ByteArray.empty t529 x10_1))) (ds := []) #[false, false, false, false, false, false, false, false, false, false, false] (by kernel_rfl) rfl rfl ⟨(blk_cell BK519.out 0).trans rfl, (blk_cell BK519.out 1).trans rfl, (blk_cell BK519.out 2).trans rfl, hx535_0⟩ (fun hHeld => ?_); refine with_tabW laws_FnCleans.tab15 laws_FnCleans.bits15 (fun HT_ HW_ => ?_)
          generalize w63.drew = w64 at HO_9 HO_511000 HO_511001 HO_520000 HO_520001 HO_529000 HO_529001 BK510 BK519 BK528 HB hx535_0 hHeld ⊢
          refine xP1 (i := 1) (N := some 61) #[false, true, false, false, false, false, false, false, false, false, false] (any_of HT_.out (by kernel_rfl)) (h := ?_)
          refine xP1 (i := 2) (N := some 62) #[false, true, true, false, false, false, false, false, false, false, false] (any_of HT_.out (by kernel_rfl)) (h := ?_)
          refine xP1 (i := 3) (N := some 63) #[false, true, true, true, false, false, false, false, false, false, false] (any_of HT_.out (by kernel_rfl)) (h := ?_)
          refine take_ (i := 0) (N := some 60) (v := ?_) (a' := ?_) #[true, true, true, true, false, false, false, false, false, false, false] rfl rfl (take_ofW HT_.out HW_.out (by kernel_rfl)) (fun _ _ _ h => h) (Or.inl ⟨by rfl, ?_⟩) hHeld ?_ ?_
          rotate_left
          ·rintro w' ⟨s0, s1, s2, s3⟩
           go_simp
           with_reducible rfl
          rotate_left
          ·simp only [Act.put, List.setIfInBounds_toArray, List.set_cons_zero, List.set_cons_succ, i64_w, i32_w]
           rfl
          refine take_ (i := 4) (N := some 64) (v := ?_) (a' := ?_) #[true, true, true, true, true, false, false, false, false, false, false] rfl rfl (take_ofW HT_.out HW_.out (by kernel_rfl)) (fun _ _ _ h => h) (Or.inl ⟨by rfl, ?_⟩) hHeld ?_ ?_
          rotate_left
          ·rintro w' ⟨s0, s1, s2, s3⟩
           go_simp
           with_reducible rfl
          rotate_left
          ·simp only [Act.put, List.setIfInBounds_toArray, List.set_cons_zero, List.set_cons_succ, i64_w, i32_w]
           rfl
          refine one_ (i := 5) (N := some 65) #[true, true, true, true, true, true, false, false, false, false, false] rfl rfl (one_of HT_.out (by kernel_rfl)) (by decide) (fun K hK => ?_)
          refine xG1 23 Try.func23 #[.agg #[.slice Ao36 t511.length co36, .slice Ao39 t514.length co39, .int .i64 t517], .string (rdOf ByteArray.empty t529 x10_1)] (h := ?_)
          with_reducible refine (impl_SeekKey.calls k1 _ _ t511 _ _ t514 t517 (rdOf ByteArray.empty t529 x10_1) t536 true _ ?side1 ?side2 ?side3 ?side4 A53.out).mono ?_
          (case side1 => exact xC ((rr HO_520000.out).2.2))
          (case side2 => exact (rr HO_520000.out).2.1)
          (case side3 => exact xC ((rr HO_520001.out).2.2))
          (case side4 => exact (rr HO_520001.out).2.1)
          rintro e w65 ⟨rfl, hb⟩
          have HS3_ := (hb.cell (World.block_lt_of_cell? _ _ (hHeld.2.2.2))).trans (hHeld.2.2.2)
          refine ⟨_, rfl, ?_⟩
          replace HO_9 := am (rb (xR HO_9.out) hb)
          replace HO_511000 := am (rb (xR HO_511000.out) hb)
          replace HO_511001 := am (rb (xR HO_511001.out) hb)
          replace HO_520000 := am (rb (xR HO_520000.out) hb)
          replace HO_520001 := am (rb (xR HO_520001.out) hb)
          replace HO_529000 := am (rb (xR HO_529000.out) hb)
          replace HO_529001 := am (rb (xR HO_529001.out) hb)
          replace BK510 := am (bb (xB BK510.out) hb)
          replace BK519 := am (bb (xB BK519.out) hb)
          replace BK528 := am (bb (xB BK528.out) hb)
          replace HB := am (bs (xW HB.out) hb)
          (try clear hb)
          refine hK.out _ _ ⟨(blk_cell BK519.out 0).trans rfl, (blk_cell BK519.out 1).trans rfl, (blk_cell BK519.out 2).trans rfl, HS3_⟩ (fun hHeld => ?_)
          clear hK K
          refine xN1 (h := ?_)
          refine xP1 (i := 6) (N := some 59) #[true, true, true, true, true, true, true, false, false, false, false] (any_of HT_.out (by kernel_rfl)) (h := ?_)
          refine xP1 (i := 7) (N := some 66) #[true, true, true, true, true, true, true, true, false, false, false] (any_of HT_.out (by kernel_rfl)) (h := ?_)
          refine xP1 (i := 8) (N := some 67) #[true, true, true, true, true, true, true, true, true, false, false] (any_of HT_.out (by kernel_rfl)) (h := ?_)
          refine xP1 (i := 9) (N := some 13) #[true, true, true, true, true, true, true, true, true, true, false] (any_of HT_.out (by kernel_rfl)) (h := ?_)
          refine xP1 (i := 10) (N := some 14) #[true, true, true, true, true, true, true, true, true, true, true] (any_of HT_.out (by kernel_rfl)) (h := ?_)
          refine done_ (done_of HT_.out (by kernel_rfl)) ?_
          try go_wp2
          go_ret
          exact ⟨xV, xW HB.out⟩
        ·replace c54 := Bool.eq_false_iff.mpr c54
         subst c54
         have H1 : (some false) = some r := by rw [if_neg (show ¬ (false = true) by decide)] at H; exact H
         clear H
         have H := H1
         clear H1
         obtain rfl := Option.some.inj H
         obtain ⟨Ao66, co66, eo66⟩ := Kd.R_slice HO_9.out
         subst eo66
         try go_wp2
         replace HO_9 := am (Kd.R_drew HO_9.out)
         replace HO_511000 := am (Kd.R_drew HO_511000.out)
         replace HO_511001 := am (Kd.R_drew HO_511001.out)
         replace HO_520000 := am (Kd.R_drew HO_520000.out)
         replace HO_520001 := am (Kd.R_drew HO_520001.out)
         replace HO_529000 := am (Kd.R_drew HO_529000.out)
         replace HO_529001 := am (Kd.R_drew HO_529001.out)
         replace BK510 := am (blk_drew BK510.out)
         replace BK519 := am (blk_drew BK519.out)
         replace BK528 := am (blk_drew BK528.out)
         replace HB := am (below_drew1 HB.out)
         have p532 : 0 ≤ (x10_1 : Int) := of_decide_eq_true (by assumption)
         have q532 : x10_1 < (t529.length : Int) := of_decide_eq_true (by assumption)
         obtain ⟨ad532, e532, hx532_0⟩ := Kd.at_string (rr HO_9.out).2.2 x10_1 p532 q532
         cases e532
         replace p532 := eq_true p532
         replace q532 := eq_true q532
         refine start_ (n := 11) (S := fun w' => w'.cell? ⟨gb510, 0, none⟩ = some (.slice Ao31 t502.length co31) ∧ w'.cell? ⟨gb510, 1, none⟩ = some (.slice Ao33 t505.length co33) ∧ w'.cell? ⟨gb510, 2, none⟩ = some (.int .i64 t508) ∧ w'.cell? (ad532.add (x10_1).toNat) = some (.string (rdOf ByteArray.empty t529 x10_1))) (ds := []) #[false, false, false, false, false, false, false, false, false, false, false] (by kernel_rfl) rfl rfl ⟨(blk_cell BK510.out 0).trans rfl, (blk_cell BK510.out 1).trans rfl, (blk_cell BK510.out 2).trans rfl, hx532_0⟩ (fun hHeld => ?_); refine with_tabW laws_FnCleans.tab14 laws_FnCleans.bits14 (fun HT_ HW_ => ?_)
         generalize wr.drew = w67 at HO_9 HO_511000 HO_511001 HO_520000 HO_520001 HO_529000 HO_529001 BK510 BK519 BK528 HB hx532_0 hHeld ⊢
         refine xP1 (i := 1) (N := some 52) #[false, true, false, false, false, false, false, false, false, false, false] (any_of HT_.out (by kernel_rfl)) (h := ?_)
         refine xP1 (i := 2) (N := some 53) #[false, true, true, false, false, false, false, false, false, false, false] (any_of HT_.out (by kernel_rfl)) (h := ?_)
         refine xP1 (i := 3) (N := some 54) #[false, true, true, true, false, false, false, false, false, false, false] (any_of HT_.out (by kernel_rfl)) (h := ?_)
         refine take_ (i := 0) (N := some 51) (v := ?_) (a' := ?_) #[true, true, true, true, false, false, false, false, false, false, false] rfl rfl (take_ofW HT_.out HW_.out (by kernel_rfl)) (fun _ _ _ h => h) (Or.inl ⟨by rfl, ?_⟩) hHeld ?_ ?_
         rotate_left
         ·rintro w' ⟨s0, s1, s2, s3⟩
          go_simp
          with_reducible rfl
         rotate_left
         ·simp only [Act.put, List.setIfInBounds_toArray, List.set_cons_zero, List.set_cons_succ, i64_w, i32_w]
          rfl
         refine take_ (i := 4) (N := some 55) (v := ?_) (a' := ?_) #[true, true, true, true, true, false, false, false, false, false, false] rfl rfl (take_ofW HT_.out HW_.out (by kernel_rfl)) (fun _ _ _ h => h) (Or.inl ⟨by rfl, ?_⟩) hHeld ?_ ?_
         rotate_left
         ·rintro w' ⟨s0, s1, s2, s3⟩
          go_simp
          with_reducible rfl
         rotate_left
         ·simp only [Act.put, List.setIfInBounds_toArray, List.set_cons_zero, List.set_cons_succ, i64_w, i32_w]
          rfl
         refine one_ (i := 5) (N := some 56) #[true, true, true, true, true, true, false, false, false, false, false] rfl rfl (one_of HT_.out (by kernel_rfl)) (by decide) (fun K hK => ?_)
         refine xG1 22 Try.func22 #[.agg #[.slice Ao31 t502.length co31, .slice Ao33 t505.length co33, .int .i64 t508], .string (rdOf ByteArray.empty t529 x10_1)] (h := ?_)
         with_reducible refine (spec_SeekKey.calls k1 _ _ t502 _ _ t505 t508 (rdOf ByteArray.empty t529 x10_1) t533 t534 _ ?side1 ?side2 ?side3 ?side4 A52.out).mono ?_
         (case side1 => exact xC ((rr HO_511000.out).2.2))
         (case side2 => exact (rr HO_511000.out).2.1)
         (case side3 => exact xC ((rr HO_511001.out).2.2))
         (case side4 => exact (rr HO_511001.out).2.1)
         rintro e w68 ⟨rfl, hb⟩
         have HS3_ := (hb.cell (World.block_lt_of_cell? _ _ (hHeld.2.2.2))).trans (hHeld.2.2.2)
         refine ⟨_, rfl, ?_⟩
         replace HO_9 := am (rb (xR HO_9.out) hb)
         replace HO_511000 := am (rb (xR HO_511000.out) hb)
         replace HO_511001 := am (rb (xR HO_511001.out) hb)
         replace HO_520000 := am (rb (xR HO_520000.out) hb)
         replace HO_520001 := am (rb (xR HO_520001.out) hb)
         replace HO_529000 := am (rb (xR HO_529000.out) hb)
         replace HO_529001 := am (rb (xR HO_529001.out) hb)
         replace BK510 := am (bb (xB BK510.out) hb)
         replace BK519 := am (bb (xB BK519.out) hb)
         replace BK528 := am (bb (xB BK528.out) hb)
         replace HB := am (bs (xW HB.out) hb)
         (try clear hb)
         refine hK.out _ _ ⟨(blk_cell BK510.out 0).trans rfl, (blk_cell BK510.out 1).trans rfl, (blk_cell BK510.out 2).trans rfl, HS3_⟩ (fun hHeld => ?_)
         clear hK K
         refine xN1 (h := ?_)
         refine xP1 (i := 6) (N := some 50) #[true, true, true, true, true, true, true, false, false, false, false] (any_of HT_.out (by kernel_rfl)) (h := ?_)
         refine xP1 (i := 7) (N := some 57) #[true, true, true, true, true, true, true, true, false, false, false] (any_of HT_.out (by kernel_rfl)) (h := ?_)
         refine xP1 (i := 8) (N := some 58) #[true, true, true, true, true, true, true, true, true, false, false] (any_of HT_.out (by kernel_rfl)) (h := ?_)
         refine xP1 (i := 9) (N := some 11) #[true, true, true, true, true, true, true, true, true, true, false] (any_of HT_.out (by kernel_rfl)) (h := ?_)
         refine xP1 (i := 10) (N := some 12) #[true, true, true, true, true, true, true, true, true, true, true] (any_of HT_.out (by kernel_rfl)) (h := ?_)
         refine done_ (done_of HT_.out (by kernel_rfl)) ?_
         try go_wp2
         replace HO_9 := am (Kd.R_drew HO_9.out)
         replace HO_511000 := am (Kd.R_drew HO_511000.out)
         replace HO_511001 := am (Kd.R_drew HO_511001.out)
         replace HO_520000 := am (Kd.R_drew HO_520000.out)
         replace HO_520001 := am (Kd.R_drew HO_520001.out)
         replace HO_529000 := am (Kd.R_drew HO_529000.out)
         replace HO_529001 := am (Kd.R_drew HO_529001.out)
         replace BK510 := am (blk_drew BK510.out)
         replace BK519 := am (blk_drew BK519.out)
         replace BK528 := am (blk_drew BK528.out)
         replace HB := am (below_drew1 HB.out)
         have p535 : 0 ≤ (x10_1 : Int) := of_decide_eq_true (by assumption)
         have q535 : x10_1 < (t529.length : Int) := of_decide_eq_true (by assumption)
         obtain ⟨ad535, e535, hx535_0⟩ := Kd.at_string (rr HO_9.out).2.2 x10_1 p535 q535
         obtain rfl : ad532 = ad535 := (by injection e535)
         replace p535 := eq_true p535
         replace q535 := eq_true q535
         refine start_ (n := 11) (S := fun w' => w'.cell? ⟨gb519, 0, none⟩ = some (.slice Ao36 t511.length co36) ∧ w'.cell? ⟨gb519, 1, none⟩ = some (.slice Ao39 t514.length co39) ∧ w'.cell? ⟨gb519, 2, none⟩ = some (.int .i64 t517) ∧ w'.cell? (ad532.add (x10_1).toNat) = some (.string (rdOf ByteArray.empty t529 x10_1))) (ds := []) #[false, false, false, false, false, false, false, false, false, false, false] (by kernel_rfl) rfl rfl ⟨(blk_cell BK519.out 0).trans rfl, (blk_cell BK519.out 1).trans rfl, (blk_cell BK519.out 2).trans rfl, hx535_0⟩ (fun hHeld => ?_); refine with_tabW laws_FnCleans.tab15 laws_FnCleans.bits15 (fun HT_ HW_ => ?_)
         generalize w68.drew = w69 at HO_9 HO_511000 HO_511001 HO_520000 HO_520001 HO_529000 HO_529001 BK510 BK519 BK528 HB hx535_0 hHeld ⊢
         refine xP1 (i := 1) (N := some 61) #[false, true, false, false, false, false, false, false, false, false, false] (any_of HT_.out (by kernel_rfl)) (h := ?_)
         refine xP1 (i := 2) (N := some 62) #[false, true, true, false, false, false, false, false, false, false, false] (any_of HT_.out (by kernel_rfl)) (h := ?_)
         refine xP1 (i := 3) (N := some 63) #[false, true, true, true, false, false, false, false, false, false, false] (any_of HT_.out (by kernel_rfl)) (h := ?_)
         refine take_ (i := 0) (N := some 60) (v := ?_) (a' := ?_) #[true, true, true, true, false, false, false, false, false, false, false] rfl rfl (take_ofW HT_.out HW_.out (by kernel_rfl)) (fun _ _ _ h => h) (Or.inl ⟨by rfl, ?_⟩) hHeld ?_ ?_
         rotate_left
         ·rintro w' ⟨s0, s1, s2, s3⟩
          go_simp
          with_reducible rfl
         rotate_left
         ·simp only [Act.put, List.setIfInBounds_toArray, List.set_cons_zero, List.set_cons_succ, i64_w, i32_w]
          rfl
         refine take_ (i := 4) (N := some 64) (v := ?_) (a' := ?_) #[true, true, true, true, true, false, false, false, false, false, false] rfl rfl (take_ofW HT_.out HW_.out (by kernel_rfl)) (fun _ _ _ h => h) (Or.inl ⟨by rfl, ?_⟩) hHeld ?_ ?_
         rotate_left
         ·rintro w' ⟨s0, s1, s2, s3⟩
          go_simp
          with_reducible rfl
         rotate_left
         ·simp only [Act.put, List.setIfInBounds_toArray, List.set_cons_zero, List.set_cons_succ, i64_w, i32_w]
          rfl
         refine one_ (i := 5) (N := some 65) #[true, true, true, true, true, true, false, false, false, false, false] rfl rfl (one_of HT_.out (by kernel_rfl)) (by decide) (fun K hK => ?_)
         refine xG1 23 Try.func23 #[.agg #[.slice Ao36 t511.length co36, .slice Ao39 t514.length co39, .int .i64 t517], .string (rdOf ByteArray.empty t529 x10_1)] (h := ?_)
         with_reducible refine (impl_SeekKey.calls k1 _ _ t511 _ _ t514 t517 (rdOf ByteArray.empty t529 x10_1) t536 false _ ?side1 ?side2 ?side3 ?side4 A53.out).mono ?_
         (case side1 => exact xC ((rr HO_520000.out).2.2))
         (case side2 => exact (rr HO_520000.out).2.1)
         (case side3 => exact xC ((rr HO_520001.out).2.2))
         (case side4 => exact (rr HO_520001.out).2.1)
         rintro e w70 ⟨rfl, hb⟩
         have HS3_ := (hb.cell (World.block_lt_of_cell? _ _ (hHeld.2.2.2))).trans (hHeld.2.2.2)
         refine ⟨_, rfl, ?_⟩
         replace HO_9 := am (rb (xR HO_9.out) hb)
         replace HO_511000 := am (rb (xR HO_511000.out) hb)
         replace HO_511001 := am (rb (xR HO_511001.out) hb)
         replace HO_520000 := am (rb (xR HO_520000.out) hb)
         replace HO_520001 := am (rb (xR HO_520001.out) hb)
         replace HO_529000 := am (rb (xR HO_529000.out) hb)
         replace HO_529001 := am (rb (xR HO_529001.out) hb)
         replace BK510 := am (bb (xB BK510.out) hb)
         replace BK519 := am (bb (xB BK519.out) hb)
         replace BK528 := am (bb (xB BK528.out) hb)
         replace HB := am (bs (xW HB.out) hb)
         (try clear hb)
         refine hK.out _ _ ⟨(blk_cell BK519.out 0).trans rfl, (blk_cell BK519.out 1).trans rfl, (blk_cell BK519.out 2).trans rfl, HS3_⟩ (fun hHeld => ?_)
         clear hK K
         refine xN1 (h := ?_)
         refine xP1 (i := 6) (N := some 59) #[true, true, true, true, true, true, true, false, false, false, false] (any_of HT_.out (by kernel_rfl)) (h := ?_)
         refine xP1 (i := 7) (N := some 66) #[true, true, true, true, true, true, true, true, false, false, false] (any_of HT_.out (by kernel_rfl)) (h := ?_)
         refine xP1 (i := 8) (N := some 67) #[true, true, true, true, true, true, true, true, true, false, false] (any_of HT_.out (by kernel_rfl)) (h := ?_)
         refine xP1 (i := 9) (N := some 13) #[true, true, true, true, true, true, true, true, true, true, false] (any_of HT_.out (by kernel_rfl)) (h := ?_)
         refine xP1 (i := 10) (N := some 14) #[true, true, true, true, true, true, true, true, true, true, true] (any_of HT_.out (by kernel_rfl)) (h := ?_)
         refine done_ (done_of HT_.out (by kernel_rfl)) ?_
         try go_wp2
         go_ret
         exact ⟨xV, xW HB.out⟩
       ·rw [if_neg c51] at H
        exact absurd H (by simp)
      ·rw [if_neg c50] at H
       have c50b0 : decide (x10_1 < (t529.length : Int)) = false := decide_eq_false c50
       clear c50
       have H' := am H
       clear H
       obtain ⟨Ao71, co71, eo71⟩ := Kd.R_slice HO_9.out
       subst eo71
       go_wp2
       go_loopg [15] k1 (fun kq v15 w' => ∃ (x15_2 : Int), v15 = .int .i64 x15_2 ∧ Aside0 (laws_FnCleans.l1 kq t529 x15_2 t502 t505 t508 t511 t514 t517 = some r) ∧ Aside0 (kq ≤ k1) ∧ Aside0 (Kd.R Kd.string 9 w' w.heap.size (fun _ => True) (.slice Ao71 t529.length co71) t529) ∧ Aside0 (Kd.R k57 57 w' w.heap.size (fun k_ => some k_ ≠ ((.slice Ao33 t505.length co33) : Value).ownBlock ∧ some k_ ≠ ((.slice Ao36 t511.length co36) : Value).ownBlock ∧ some k_ ≠ ((.slice Ao39 t514.length co39) : Value).ownBlock ∧ some k_ ≠ ((.slice Ao43 t520.length co43) : Value).ownBlock ∧ some k_ ≠ ((.slice Ao47 t523.length co47) : Value).ownBlock) (.slice Ao31 t502.length co31) t502) ∧ Aside0 (Kd.R k57 57 w' w.heap.size (fun k_ => some k_ ≠ ((.slice Ao31 t502.length co31) : Value).ownBlock ∧ some k_ ≠ ((.slice Ao36 t511.length co36) : Value).ownBlock ∧ some k_ ≠ ((.slice Ao39 t514.length co39) : Value).ownBlock ∧ some k_ ≠ ((.slice Ao43 t520.length co43) : Value).ownBlock ∧ some k_ ≠ ((.slice Ao47 t523.length co47) : Value).ownBlock) (.slice Ao33 t505.length co33) t505) ∧ Aside0 (Kd.R k57 57 w' w.heap.size (fun k_ => some k_ ≠ ((.slice Ao31 t502.length co31) : Value).ownBlock ∧ some k_ ≠ ((.slice Ao33 t505.length co33) : Value).ownBlock ∧ some k_ ≠ ((.slice Ao39 t514.length co39) : Value).ownBlock ∧ some k_ ≠ ((.slice Ao43 t520.length co43) : Value).ownBlock ∧ some k_ ≠ ((.slice Ao47 t523.length co47) : Value).ownBlock) (.slice Ao36 t511.length co36) t511) ∧ Aside0 (Kd.R k57 57 w' w.heap.size (fun k_ => some k_ ≠ ((.slice Ao31 t502.length co31) : Value).ownBlock ∧ some k_ ≠ ((.slice Ao33 t505.length co33) : Value).ownBlock ∧ some k_ ≠ ((.slice Ao36 t511.length co36) : Value).ownBlock ∧ some k_ ≠ ((.slice Ao43 t520.length co43) : Value).ownBlock ∧ some k_ ≠ ((.slice Ao47 t523.length co47) : Value).ownBlock) (.slice Ao39 t514.length co39) t514) ∧ Aside0 (Kd.R k57 57 w' w.heap.size (fun k_ => some k_ ≠ ((.slice Ao31 t502.length co31) : Value).ownBlock ∧ some k_ ≠ ((.slice Ao33 t505.length co33) : Value).ownBlock ∧ some k_ ≠ ((.slice Ao36 t511.length co36) : Value).ownBlock ∧ some k_ ≠ ((.slice Ao39 t514.length co39) : Value).ownBlock ∧ some k_ ≠ ((.slice Ao47 t523.length co47) : Value).ownBlock) (.slice Ao43 t520.length co43) t520) ∧ Aside0 (Kd.R k57 57 w' w.heap.size (fun k_ => some k_ ≠ ((.slice Ao31 t502.length co31) : Value).ownBlock ∧ some k_ ≠ ((.slice Ao33 t505.length co33) : Value).ownBlock ∧ some k_ ≠ ((.slice Ao36 t511.length co36) : Value).ownBlock ∧ some k_ ≠ ((.slice Ao39 t514.length co39) : Value).ownBlock ∧ some k_ ≠ ((.slice Ao43 t520.length co43) : Value).ownBlock) (.slice Ao47 t523.length co47) t523) ∧ Aside0 (w'.heap[gb510]? = some (.cells #[(.slice Ao31 t502.length co31), (.slice Ao33 t505.length co33), .int .i64 t508] 26 (0, 0))) ∧ Aside0 (w'.heap[gb519]? = some (.cells #[(.slice Ao36 t511.length co36), (.slice Ao39 t514.length co39), .int .i64 t517] 26 (0, 0))) ∧ Aside0 (w'.heap[gb528]? = some (.cells #[(.slice Ao43 t520.length co43), (.slice Ao47 t523.length co47), .int .i64 t526] 26 (0, 0))) ∧ Aside0 (Below w.heap.size w w'))
       case atStart => exact ⟨(0), (xQ), H', ⟨Nat.le_refl _⟩, ⟨xR HO_9.out⟩, ⟨xR HO_511000.out⟩, ⟨xR HO_511001.out⟩, ⟨xR HO_520000.out⟩, ⟨xR HO_520001.out⟩, ⟨xR HO_529000.out⟩, ⟨xR HO_529001.out⟩, ⟨xB BK510.out⟩, ⟨xB BK519.out⟩, ⟨xB BK528.out⟩, ⟨xW HB.out⟩⟩
       case round =>
        clear H'
        try clear c2
        try clear p2
        try clear c5
        try clear p5
        try clear q5
        try clear hx5
        try clear c22
        try clear c23
        try clear c50
        try clear c50b0
        try clear c51
        try clear p53
        try clear q53
        try clear hx53
        try clear c54
        try clear hx532_0
        try clear hx535_0
        try clear p532
        try clear p535
        try clear q532
        try clear q535
        obtain ⟨x15_2, rfl, HA, HK2, HO_9, HO_511000, HO_511001, HO_520000, HO_520001, HO_529000, HO_529001, BK510, BK519, BK528, HB⟩ := hrel
        cases gk with
        | zero => exact absurd HA.out (by simp [laws_FnCleans.l1])
        | succ k2 =>
         have H := HA.out
         clear HA
         simp only [laws_FnCleans.l1] at H
         by_cases c72 : x15_2 < (t511.length : Int)
         ·rw [if_pos c72] at H
          have c72b0 : decide (x15_2 < (t511.length : Int)) = true := decide_eq_true c72
          clear c72
          by_cases c73 : 0 ≤ x15_2
          ·rw [if_pos c73] at H
           have c73b0 : decide (0 ≤ x15_2) = true := decide_eq_true c73
           clear c73
           by_cases c74 : ((rd_T57 t511 x15_2).f1) = (-2)
           ·rw [if_pos c74] at H
            have c74b0 : (((rd_T57 t511 x15_2).f1) == (-2)) = true := beq_iff_eq.mpr c74
            have c74b1 : (((rd_T57 t511 x15_2).f1) != (-2)) = false := bne_eq_false_iff_eq.mpr c74
            clear c74
            obtain rfl := Option.some.inj H
            have hnb75 := NB519_510.out
            have hnc75 := NB510_519.out
            have hnb76 := NB519_528.out
            have hnc76 := NB528_519.out
            obtain ⟨hcz77_0, hcz77_1, hcz77_2, hfz77_0, hfz77_1, hfz77_2⟩ := xT3 (W := wr) BK519.out
            have p538 : 0 ≤ (x15_2 : Int) := of_decide_eq_true (by assumption)
            have q538 : x15_2 < (t511.length : Int) := of_decide_eq_true (by assumption)
            obtain ⟨ad538, e538, hx538_0, hx538_1⟩ := at_T57 (rr HO_520000.out).2.2 x15_2 p538 q538
            cases e538
            replace p538 := eq_true p538
            replace q538 := eq_true q538
            go_wp2
            go_ret
            exact ⟨xV, xW HB.out⟩
           ·rw [if_neg c74] at H
            have c74b0 : (((rd_T57 t511 x15_2).f1) == (-2)) = false := beq_eq_false_iff_ne.mpr c74
            have c74b1 : (((rd_T57 t511 x15_2).f1) != (-2)) = true := bne_iff_ne.mpr c74
            have H' := am H
            clear H
            have hnb78 := NB519_510.out
            have hnc78 := NB510_519.out
            have hnb79 := NB519_528.out
            have hnc79 := NB528_519.out
            obtain ⟨hcz80_0, hcz80_1, hcz80_2, hfz80_0, hfz80_1, hfz80_2⟩ := xT3 (W := wr) BK519.out
            have p538 : 0 ≤ (x15_2 : Int) := of_decide_eq_true (by assumption)
            have q538 : x15_2 < (t511.length : Int) := of_decide_eq_true (by assumption)
            obtain ⟨ad538, e538, hx538_0, hx538_1⟩ := at_T57 (rr HO_520000.out).2.2 x15_2 p538 q538
            cases e538
            replace p538 := eq_true p538
            replace q538 := eq_true q538
            go_wp2
            go_roundg k2
            case measure => have := HK1.out; have := HK2.out; omega
            case rel => exact ⟨(wrap64 (x15_2 + 1)), (xQ), H', ⟨by have := HK1.out; have := HK2.out; omega⟩, ⟨xR HO_9.out⟩, ⟨xR HO_511000.out⟩, ⟨xR HO_511001.out⟩, ⟨xR HO_520000.out⟩, ⟨xR HO_520001.out⟩, ⟨xR HO_529000.out⟩, ⟨xR HO_529001.out⟩, ⟨xB BK510.out⟩, ⟨xB BK519.out⟩, ⟨xB BK528.out⟩, ⟨xW HB.out⟩⟩
          ·rw [if_neg c73] at H
           exact absurd H (by simp)
         ·rw [if_neg c72] at H
          have c72b0 : decide (x15_2 < (t511.length : Int)) = false := decide_eq_false c72
          clear c72
          replace H := Option.bind_eq_some_iff.mp H
          obtain ⟨t539, A810, H⟩ := H
          try dsimp only at H
          have A81 := am A810
          clear A810
          replace H := Option.bind_eq_some_iff.mp H
          obtain ⟨t542, A820, H⟩ := H
          try dsimp only at H
          have A82 := am A820
          clear A820
          by_cases c83 : t542 = true
          ·subst c83
           have H1 : ((impl_TableOk.f k2 t511 t514 t517).bind fun t543 => (if t543 = true then (if (t514.length : Int) = 0 then (some ((t511.length : Int) == (t502.length : Int))) else (some false)) else (some false))) = some r := by rw [if_pos rfl] at H; exact H
           clear H
           have H := H1
           clear H1
           replace H := Option.bind_eq_some_iff.mp H
           obtain ⟨t543, A840, H⟩ := H
           try dsimp only at H
           have A84 := am A840
           clear A840
           by_cases c85 : t543 = true
           ·subst c85
            have H1 : (if (t514.length : Int) = 0 then (some ((t511.length : Int) == (t502.length : Int))) else (some false)) = some r := by rw [if_pos rfl] at H; exact H
            clear H
            have H := H1
            clear H1
            by_cases c86 : (t514.length : Int) = 0
            ·rw [if_pos c86] at H
             have c86b0 : ((t514.length : Int) == 0) = true := beq_iff_eq.mpr c86
             have c86b1 : ((t514.length : Int) != 0) = false := bne_eq_false_iff_eq.mpr c86
             clear c86
             obtain rfl := Option.some.inj H
             have hnb87 := NB519_510.out
             have hnc87 := NB510_519.out
             have hnb88 := NB519_528.out
             have hnc88 := NB528_519.out
             obtain ⟨hcz89_0, hcz89_1, hcz89_2, hfz89_0, hfz89_1, hfz89_2⟩ := xT3 (W := wr) BK519.out
             have hnb90 := NB510_528.out
             have hnc90 := NB528_510.out
             obtain ⟨hcz91_0, hcz91_1, hcz91_2, hfz91_0, hfz91_1, hfz91_2⟩ := xT3 (W := wr) BK510.out
             go_wp2_with (first | ((with_reducible refine gate_callee (f := 28) rfl ?_); refine xG (some 91) 28 Try.func28 #[.agg #[.slice Ao31 t502.length co31, .slice Ao33 t505.length co33, .int .i64 t508]] (h := ?_); (with_reducible refine (spec_KeysOf.calls k2 _ _ t502 _ _ t505 t508 t539 _ ?side1 ?side2 ?side3 ?side4 A81.out).mono ?_); (case side1 => exact xC ((rr HO_511000.out).2.2)); (case side2 => exact (rr HO_511000.out).2.1); (case side3 => exact xC ((rr HO_511001.out).2.2)); (case side4 => exact (rr HO_511001.out).2.1); rintro e w92 ⟨v540, rfl, ho0, hb⟩; refine ⟨_, rfl, ?_⟩; replace HO_511000 := am (rb (xR HO_511000.out) hb); replace HO_511001 := am (rb (xR HO_511001.out) hb); replace HO_520000 := am (rb (xR HO_520000.out) hb); replace HO_520001 := am (rb (xR HO_520001.out) hb); replace HO_529000 := am (rb (xR HO_529000.out) hb); replace HO_529001 := am (rb (xR HO_529001.out) hb); have HO541 := am (Kd.R_lower (Kd.R_new' ho0 (Kd.R_lt (xR HO_9.out))) (below_size (xW HB.out))); replace HO_9 := am (Kd.R_elder' (xR HO_9.out) (re ho0) hb); replace BK510 := am (bb (xB BK510.out) hb); replace BK519 := am (bb (xB BK519.out) hb); replace BK528 := am (bb (xB BK528.out) hb); replace HB := am (bs (xW HB.out) hb); (try clear hb); (try clear ho0); obtain ⟨Ao93, co93, eo93⟩ := Kd.R_slice HO541.out; subst eo93) | ((with_reducible refine gate_callee (f := 21) rfl ?_); refine xG (some 92) 21 Try.func21 #[.slice Ao71 t529.length co71, .slice Ao93 t539.length co93] (h := ?_); (with_reducible refine (laws_sameTexts.calls k2 _ _ t529 _ _ t539 true _ ?side1 ?side2 ?side3 ?side4 A82.out).mono ?_); (case side1 => exact xC ((rr HO_9.out).2.2)); (case side2 => exact (rr HO_9.out).2.1); (case side3 => exact xC ((rr HO541.out).2.2)); (case side4 => exact (rr HO541.out).2.1); rintro e w' ⟨rfl, ⟨nd, rfl⟩⟩; refine ⟨_, rfl, ?_⟩; obtain ⟨hcz94_0, hcz94_1, hcz94_2, hfz94_0, hfz94_1, hfz94_2⟩ := xT3 (W := w92) BK519.out) | (go_at_call 18; (with_reducible refine (impl_TableOk.calls k2 _ _ t511 _ _ t514 t517 true _ ?side1 ?side2 ?side3 ?side4 A84.out).mono ?_); (case side1 => exact xC ((rr HO_520000.out).2.2)); (case side2 => exact (rr HO_520000.out).2.1); (case side3 => exact xC ((rr HO_520001.out).2.2)); (case side4 => exact (rr HO_520001.out).2.1); rintro e w95 ⟨rfl, hb⟩; replace HO_9 := am (rb (xR HO_9.out) hb); replace HO_511000 := am (rb (xR HO_511000.out) hb); replace HO_511001 := am (rb (xR HO_511001.out) hb); replace HO_520000 := am (rb (xR HO_520000.out) hb); replace HO_520001 := am (rb (xR HO_520001.out) hb); replace HO_529000 := am (rb (xR HO_529000.out) hb); replace HO_529001 := am (rb (xR HO_529001.out) hb); replace HO541 := am (rb (xR HO541.out) hb); replace BK510 := am (bb (xB BK510.out) hb); replace BK519 := am (bb (xB BK519.out) hb); replace BK528 := am (bb (xB BK528.out) hb); replace HB := am (bs (xW HB.out) hb); (try clear hb); obtain ⟨hcz96_0, hcz96_1, hcz96_2, hfz96_0, hfz96_1, hfz96_2⟩ := xT3 (W := w95) BK519.out; obtain ⟨hcz97_0, hcz97_1, hcz97_2, hfz97_0, hfz97_1, hfz97_2⟩ := xT3 (W := w95) BK510.out))
             go_ret
             exact ⟨xV, xW HB.out⟩
            ·rw [if_neg c86] at H
             have c86b0 : ((t514.length : Int) == 0) = false := beq_eq_false_iff_ne.mpr c86
             have c86b1 : ((t514.length : Int) != 0) = true := bne_iff_ne.mpr c86
             have c86b2 : ¬ (t514 = []) := fun h_ => c86 (by rw [h_]; rfl)
             obtain rfl := Option.some.inj H
             have hnb98 := NB519_510.out
             have hnc98 := NB510_519.out
             have hnb99 := NB519_528.out
             have hnc99 := NB528_519.out
             obtain ⟨hcz100_0, hcz100_1, hcz100_2, hfz100_0, hfz100_1, hfz100_2⟩ := xT3 (W := wr) BK519.out
             have hnb101 := NB510_528.out
             have hnc101 := NB528_510.out
             obtain ⟨hcz102_0, hcz102_1, hcz102_2, hfz102_0, hfz102_1, hfz102_2⟩ := xT3 (W := wr) BK510.out
             go_wp2_with (first | ((with_reducible refine gate_callee (f := 28) rfl ?_); refine xG (some 91) 28 Try.func28 #[.agg #[.slice Ao31 t502.length co31, .slice Ao33 t505.length co33, .int .i64 t508]] (h := ?_); (with_reducible refine (spec_KeysOf.calls k2 _ _ t502 _ _ t505 t508 t539 _ ?side1 ?side2 ?side3 ?side4 A81.out).mono ?_); (case side1 => exact xC ((rr HO_511000.out).2.2)); (case side2 => exact (rr HO_511000.out).2.1); (case side3 => exact xC ((rr HO_511001.out).2.2)); (case side4 => exact (rr HO_511001.out).2.1); rintro e w103 ⟨v540, rfl, ho0, hb⟩; refine ⟨_, rfl, ?_⟩; replace HO_511000 := am (rb (xR HO_511000.out) hb); replace HO_511001 := am (rb (xR HO_511001.out) hb); replace HO_520000 := am (rb (xR HO_520000.out) hb); replace HO_520001 := am (rb (xR HO_520001.out) hb); replace HO_529000 := am (rb (xR HO_529000.out) hb); replace HO_529001 := am (rb (xR HO_529001.out) hb); have HO541 := am (Kd.R_lower (Kd.R_new' ho0 (Kd.R_lt (xR HO_9.out))) (below_size (xW HB.out))); replace HO_9 := am (Kd.R_elder' (xR HO_9.out) (re ho0) hb); replace BK510 := am (bb (xB BK510.out) hb); replace BK519 := am (bb (xB BK519.out) hb); replace BK528 := am (bb (xB BK528.out) hb); replace HB := am (bs (xW HB.out) hb); (try clear hb); (try clear ho0); obtain ⟨Ao104, co104, eo104⟩ := Kd.R_slice HO541.out; subst eo104) | ((with_reducible refine gate_callee (f := 21) rfl ?_); refine xG (some 92) 21 Try.func21 #[.slice Ao71 t529.length co71, .slice Ao104 t539.length co104] (h := ?_); (with_reducible refine (laws_sameTexts.calls k2 _ _ t529 _ _ t539 true _ ?side1 ?side2 ?side3 ?side4 A82.out).mono ?_); (case side1 => exact xC ((rr HO_9.out).2.2)); (case side2 => exact (rr HO_9.out).2.1); (case side3 => exact xC ((rr HO541.out).2.2)); (case side4 => exact (rr HO541.out).2.1); rintro e w' ⟨rfl, ⟨nd, rfl⟩⟩; refine ⟨_, rfl, ?_⟩; obtain ⟨hcz105_0, hcz105_1, hcz105_2, hfz105_0, hfz105_1, hfz105_2⟩ := xT3 (W := w103) BK519.out) | (go_at_call 18; (with_reducible refine (impl_TableOk.calls k2 _ _ t511 _ _ t514 t517 true _ ?side1 ?side2 ?side3 ?side4 A84.out).mono ?_); (case side1 => exact xC ((rr HO_520000.out).2.2)); (case side2 => exact (rr HO_520000.out).2.1); (case side3 => exact xC ((rr HO_520001.out).2.2)); (case side4 => exact (rr HO_520001.out).2.1); rintro e w106 ⟨rfl, hb⟩; replace HO_9 := am (rb (xR HO_9.out) hb); replace HO_511000 := am (rb (xR HO_511000.out) hb); replace HO_511001 := am (rb (xR HO_511001.out) hb); replace HO_520000 := am (rb (xR HO_520000.out) hb); replace HO_520001 := am (rb (xR HO_520001.out) hb); replace HO_529000 := am (rb (xR HO_529000.out) hb); replace HO_529001 := am (rb (xR HO_529001.out) hb); replace HO541 := am (rb (xR HO541.out) hb); replace BK510 := am (bb (xB BK510.out) hb); replace BK519 := am (bb (xB BK519.out) hb); replace BK528 := am (bb (xB BK528.out) hb); replace HB := am (bs (xW HB.out) hb); (try clear hb); obtain ⟨hcz107_0, hcz107_1, hcz107_2, hfz107_0, hfz107_1, hfz107_2⟩ := xT3 (W := w106) BK519.out))
             go_ret
             exact ⟨xV, xW HB.out⟩
           ·replace c85 := Bool.eq_false_iff.mpr c85
            subst c85
            have H1 : (some false) = some r := by rw [if_neg (show ¬ (false = true) by decide)] at H; exact H
            clear H
            have H := H1
            clear H1
            obtain rfl := Option.some.inj H
            have hnb108 := NB519_510.out
            have hnc108 := NB510_519.out
            have hnb109 := NB519_528.out
            have hnc109 := NB528_519.out
            obtain ⟨hcz110_0, hcz110_1, hcz110_2, hfz110_0, hfz110_1, hfz110_2⟩ := xT3 (W := wr) BK519.out
            have hnb111 := NB510_528.out
            have hnc111 := NB528_510.out
            obtain ⟨hcz112_0, hcz112_1, hcz112_2, hfz112_0, hfz112_1, hfz112_2⟩ := xT3 (W := wr) BK510.out
            go_wp2_with (first | ((with_reducible refine gate_callee (f := 28) rfl ?_); refine xG (some 91) 28 Try.func28 #[.agg #[.slice Ao31 t502.length co31, .slice Ao33 t505.length co33, .int .i64 t508]] (h := ?_); (with_reducible refine (spec_KeysOf.calls k2 _ _ t502 _ _ t505 t508 t539 _ ?side1 ?side2 ?side3 ?side4 A81.out).mono ?_); (case side1 => exact xC ((rr HO_511000.out).2.2)); (case side2 => exact (rr HO_511000.out).2.1); (case side3 => exact xC ((rr HO_511001.out).2.2)); (case side4 => exact (rr HO_511001.out).2.1); rintro e w113 ⟨v540, rfl, ho0, hb⟩; refine ⟨_, rfl, ?_⟩; replace HO_511000 := am (rb (xR HO_511000.out) hb); replace HO_511001 := am (rb (xR HO_511001.out) hb); replace HO_520000 := am (rb (xR HO_520000.out) hb); replace HO_520001 := am (rb (xR HO_520001.out) hb); replace HO_529000 := am (rb (xR HO_529000.out) hb); replace HO_529001 := am (rb (xR HO_529001.out) hb); have HO541 := am (Kd.R_lower (Kd.R_new' ho0 (Kd.R_lt (xR HO_9.out))) (below_size (xW HB.out))); replace HO_9 := am (Kd.R_elder' (xR HO_9.out) (re ho0) hb); replace BK510 := am (bb (xB BK510.out) hb); replace BK519 := am (bb (xB BK519.out) hb); replace BK528 := am (bb (xB BK528.out) hb); replace HB := am (bs (xW HB.out) hb); (try clear hb); (try clear ho0); obtain ⟨Ao114, co114, eo114⟩ := Kd.R_slice HO541.out; subst eo114) | ((with_reducible refine gate_callee (f := 21) rfl ?_); refine xG (some 92) 21 Try.func21 #[.slice Ao71 t529.length co71, .slice Ao114 t539.length co114] (h := ?_); (with_reducible refine (laws_sameTexts.calls k2 _ _ t529 _ _ t539 true _ ?side1 ?side2 ?side3 ?side4 A82.out).mono ?_); (case side1 => exact xC ((rr HO_9.out).2.2)); (case side2 => exact (rr HO_9.out).2.1); (case side3 => exact xC ((rr HO541.out).2.2)); (case side4 => exact (rr HO541.out).2.1); rintro e w' ⟨rfl, ⟨nd, rfl⟩⟩; refine ⟨_, rfl, ?_⟩; obtain ⟨hcz115_0, hcz115_1, hcz115_2, hfz115_0, hfz115_1, hfz115_2⟩ := xT3 (W := w113) BK519.out) | (go_at_call 18; (with_reducible refine (impl_TableOk.calls k2 _ _ t511 _ _ t514 t517 false _ ?side1 ?side2 ?side3 ?side4 A84.out).mono ?_); (case side1 => exact xC ((rr HO_520000.out).2.2)); (case side2 => exact (rr HO_520000.out).2.1); (case side3 => exact xC ((rr HO_520001.out).2.2)); (case side4 => exact (rr HO_520001.out).2.1); rintro e w116 ⟨rfl, hb⟩; replace HO_9 := am (rb (xR HO_9.out) hb); replace HO_511000 := am (rb (xR HO_511000.out) hb); replace HO_511001 := am (rb (xR HO_511001.out) hb); replace HO_520000 := am (rb (xR HO_520000.out) hb); replace HO_520001 := am (rb (xR HO_520001.out) hb); replace HO_529000 := am (rb (xR HO_529000.out) hb); replace HO_529001 := am (rb (xR HO_529001.out) hb); replace HO541 := am (rb (xR HO541.out) hb); replace BK510 := am (bb (xB BK510.out) hb); replace BK519 := am (bb (xB BK519.out) hb); replace BK528 := am (bb (xB BK528.out) hb); replace HB := am (bs (xW HB.out) hb); (try clear hb); ))
            go_ret
            exact ⟨xV, xW HB.out⟩
          ·replace c83 := Bool.eq_false_iff.mpr c83
           subst c83
           have H1 : (some false) = some r := by rw [if_neg (show ¬ (false = true) by decide)] at H; exact H
           clear H
           have H := H1
           clear H1
           obtain rfl := Option.some.inj H
           have hnb117 := NB519_510.out
           have hnc117 := NB510_519.out
           have hnb118 := NB519_528.out
           have hnc118 := NB528_519.out
           obtain ⟨hcz119_0, hcz119_1, hcz119_2, hfz119_0, hfz119_1, hfz119_2⟩ := xT3 (W := wr) BK519.out
           have hnb120 := NB510_528.out
           have hnc120 := NB528_510.out
           obtain ⟨hcz121_0, hcz121_1, hcz121_2, hfz121_0, hfz121_1, hfz121_2⟩ := xT3 (W := wr) BK510.out
           go_wp2_with (first | ((with_reducible refine gate_callee (f := 28) rfl ?_); refine xG (some 91) 28 Try.func28 #[.agg #[.slice Ao31 t502.length co31, .slice Ao33 t505.length co33, .int .i64 t508]] (h := ?_); (with_reducible refine (spec_KeysOf.calls k2 _ _ t502 _ _ t505 t508 t539 _ ?side1 ?side2 ?side3 ?side4 A81.out).mono ?_); (case side1 => exact xC ((rr HO_511000.out).2.2)); (case side2 => exact (rr HO_511000.out).2.1); (case side3 => exact xC ((rr HO_511001.out).2.2)); (case side4 => exact (rr HO_511001.out).2.1); rintro e w122 ⟨v540, rfl, ho0, hb⟩; refine ⟨_, rfl, ?_⟩; replace HO_511000 := am (rb (xR HO_511000.out) hb); replace HO_511001 := am (rb (xR HO_511001.out) hb); replace HO_520000 := am (rb (xR HO_520000.out) hb); replace HO_520001 := am (rb (xR HO_520001.out) hb); replace HO_529000 := am (rb (xR HO_529000.out) hb); replace HO_529001 := am (rb (xR HO_529001.out) hb); have HO541 := am (Kd.R_lower (Kd.R_new' ho0 (Kd.R_lt (xR HO_9.out))) (below_size (xW HB.out))); replace HO_9 := am (Kd.R_elder' (xR HO_9.out) (re ho0) hb); replace BK510 := am (bb (xB BK510.out) hb); replace BK519 := am (bb (xB BK519.out) hb); replace BK528 := am (bb (xB BK528.out) hb); replace HB := am (bs (xW HB.out) hb); (try clear hb); (try clear ho0); obtain ⟨Ao123, co123, eo123⟩ := Kd.R_slice HO541.out; subst eo123) | ((with_reducible refine gate_callee (f := 21) rfl ?_); refine xG (some 92) 21 Try.func21 #[.slice Ao71 t529.length co71, .slice Ao123 t539.length co123] (h := ?_); (with_reducible refine (laws_sameTexts.calls k2 _ _ t529 _ _ t539 false _ ?side1 ?side2 ?side3 ?side4 A82.out).mono ?_); (case side1 => exact xC ((rr HO_9.out).2.2)); (case side2 => exact (rr HO_9.out).2.1); (case side3 => exact xC ((rr HO541.out).2.2)); (case side4 => exact (rr HO541.out).2.1); rintro e w' ⟨rfl, ⟨nd, rfl⟩⟩; refine ⟨_, rfl, ?_⟩))
           go_ret
           exact ⟨xV, xW HB.out⟩
   ·replace c27 := Bool.eq_false_iff.mpr c27
    subst c27
    have H1 : (some ((t511.length : Int) == 0)) = some r := by rw [if_neg (show ¬ (false = true) by decide)] at H; exact H
    clear H
    have H := H1
    clear H1
    obtain rfl := Option.some.inj H
    go_enter Try.func13, Try.ntmps13
    go_wp2_with (first | ((with_reducible refine gate_callee (f := 14) rfl ?_); refine xG (some 17) 14 Try.func14 #[.slice A0 l0.length c0] (h := ?_); (with_reducible refine (laws_big.calls _ _ l0 false _ ?side1 ?side2 A2.out).mono ?_); (case side1 => exact xC (HR0.out)); (case side2 => exact HC0.out); rintro e w' ⟨rfl, ⟨nd, rfl⟩⟩; refine ⟨_, rfl, ?_⟩) | ((with_reducible refine gate_callee (f := 15) rfl ?_); refine xG (some 20) 15 Try.func15 #[.slice A0 l0.length c0] (h := ?_); (with_reducible refine (spec_DrawRightTable.calls k _ _ l0 t502 t505 t508 t509 _ ?side1 ?side2 A4.out).mono ?_); (case side1 => exact xC (HR0.out)); (case side2 => exact HC0.out); rintro e w124 ⟨v503, v506, rfl, ho0, ho1, hb⟩; refine ⟨_, rfl, ?_⟩; have HO504 := am (Kd.R_lower ho0 (below_size (xW HB.out))); have HO507 := am (Kd.R_lower ho1 (below_size (xW HB.out))); replace HB := am (bs (xW HB.out) hb); (try clear hb); (try clear ho0); (try clear ho1)) | ((with_reducible refine gate_dst (N := 3) rfl ?_); (try (refine gate_guard (by rfl) ?_; dsimp only)); refine xE (N := 3) (cs := #[.slice none 0 0, .slice none 0 0, .int .i64 0]) (t := 26) (h := ?_); intro gb510 hg w125 hbox hb; replace HO504 := am (rb (xR HO504.out) hb); replace HO507 := am (rb (xR HO507.out) hb); have BK510 := am (hbox); have GW510 := am (xS hg HB.out); have GE510 := am (xS hg HB.out); replace HB := am (bs (xW HB.out) hb); clear hb hbox hg; obtain ⟨Ao126, co126, eo126⟩ := Kd.R_slice HO504.out; subst eo126; obtain ⟨hcz127_0, hcz127_1, hcz127_2, hfz127_0, hfz127_1, hfz127_2⟩ := xT3 (W := w125) BK510.out; obtain ⟨Ao128, co128, eo128⟩ := Kd.R_slice HO507.out; subst eo128) | ((with_reducible refine gate_callee (f := 43) rfl ?_); refine xG (some 25) 43 Try.func43 #[.agg #[.slice Ao126 t502.length co126, .slice Ao128 t505.length co128, .int .i64 t508]] (h := ?_); (with_reducible refine (impl_CleanTable.calls k _ _ t502 _ _ t505 t508 t511 t514 t517 false _ ?side1 ?side2 ?side3 ?side4 A5.out).mono ?_); (case side1 => exact xD HO504.out); (case side2 => exact (rr HO504.out).2.1); (case side3 => exact xD HO507.out); (case side4 => exact (rr HO507.out).2.1); rintro e w129 ⟨v512, v515, rfl, ho0, ho1, hb⟩; refine ⟨_, rfl, ?_⟩; have HO513 := am (Kd.R_lower (Kd.R_new' (Kd.R_new' ho0 (Kd.R_lt (xR HO504.out))) (Kd.R_lt (xR HO507.out))) (below_size (xW HB.out))); have HO516 := am (Kd.R_lower (Kd.R_new' (Kd.R_new' ho1 (Kd.R_lt (xR HO504.out))) (Kd.R_lt (xR HO507.out))) (below_size (xW HB.out))); replace HO504 := am (rm (ro (ro (rl (xR HO504.out) hb) (re ho0)) (re ho1)) (fun _ h_ => h_.1)); replace HO507 := am (rm (ro (ro (rl (xR HO507.out) hb) (re ho0)) (re ho1)) (fun _ h_ => h_.1)); replace BK510 := am (bb (xP BK510.out) hb); replace HB := am (bs (xW HB.out) hb); (try clear hb); (try clear ho0); (try clear ho1)) | ((with_reducible refine gate_dst (N := 5) rfl ?_); (try (refine gate_guard (by rfl) ?_; dsimp only)); refine xE (N := 5) (cs := #[.slice none 0 0, .slice none 0 0, .int .i64 0]) (t := 26) (h := ?_); intro gb519 hg w130 hbox hb; replace HO504 := am (rb (xR HO504.out) hb); replace HO507 := am (rb (xR HO507.out) hb); replace HO513 := am (rb (xR HO513.out) hb); replace HO516 := am (rb (xR HO516.out) hb); have BK519 := am (hbox); have GW519 := am (xS hg HB.out); have GE519 := am (xS hg HB.out); replace HB := am (bs (xW HB.out) hb); have NB510_519 := am (xN hg BK510.out); have NB519_510 := am (xM hg BK510.out); replace BK510 := am (bb (xB BK510.out) hb); clear hb hbox hg; obtain ⟨Ao131, co131, eo131⟩ := Kd.R_slice HO513.out; subst eo131; have hnb132 := NB519_510.out; have hnc132 := NB510_519.out; obtain ⟨hcz133_0, hcz133_1, hcz133_2, hfz133_0, hfz133_1, hfz133_2⟩ := xT3 (W := w130) BK519.out; obtain ⟨Ao134, co134, eo134⟩ := Kd.R_slice HO516.out; subst eo134; obtain ⟨hcz135_0, hcz135_1, hcz135_2, hfz135_0, hfz135_1, hfz135_2⟩ := xT3 (W := w130) BK510.out) | ((with_reducible refine gate_callee (f := 42) rfl ?_); refine xG (some 30) 42 Try.func42 #[.agg #[.slice Ao126 t502.length co126, .slice Ao128 t505.length co128, .int .i64 t508]] (h := ?_); (with_reducible refine (spec_CleanTable.calls k _ _ t502 _ _ t505 t508 t520 t523 t526 t527 _ ?side1 ?side2 ?side3 ?side4 A6.out).mono ?_); (case side1 => exact xD HO504.out); (case side2 => exact (rr HO504.out).2.1); (case side3 => exact xD HO507.out); (case side4 => exact (rr HO507.out).2.1); rintro e w136 ⟨v521, v524, rfl, ho0, ho1, hb⟩; refine ⟨_, rfl, ?_⟩; have HO522 := am (Kd.R_lower (Kd.R_new' (Kd.R_new' (Kd.R_new' (Kd.R_new' ho0 (Kd.R_lt (xR HO504.out))) (Kd.R_lt (xR HO507.out))) (Kd.R_lt (xR HO513.out))) (Kd.R_lt (xR HO516.out))) (below_size (xW HB.out))); have HO525 := am (Kd.R_lower (Kd.R_new' (Kd.R_new' (Kd.R_new' (Kd.R_new' ho1 (Kd.R_lt (xR HO504.out))) (Kd.R_lt (xR HO507.out))) (Kd.R_lt (xR HO513.out))) (Kd.R_lt (xR HO516.out))) (below_size (xW HB.out))); replace HO504 := am (rm (ro (ro (rl (xR HO504.out) hb) (re ho0)) (re ho1)) (fun _ h_ => h_.1)); replace HO507 := am (rm (ro (ro (rl (xR HO507.out) hb) (re ho0)) (re ho1)) (fun _ h_ => h_.1)); replace HO513 := am (rm (ro (ro (rl (xR HO513.out) hb) (re ho0)) (re ho1)) (fun _ h_ => h_.1)); replace HO516 := am (rm (ro (ro (rl (xR HO516.out) hb) (re ho0)) (re ho1)) (fun _ h_ => h_.1)); replace BK510 := am (bb (xB BK510.out) hb); replace BK519 := am (bb (xP BK519.out) hb); replace HB := am (bs (xW HB.out) hb); (try clear hb); (try clear ho0); (try clear ho1)) | ((with_reducible refine gate_dst (N := 7) rfl ?_); (try (refine gate_guard (by rfl) ?_; dsimp only)); refine xE (N := 7) (cs := #[.slice none 0 0, .slice none 0 0, .int .i64 0]) (t := 26) (h := ?_); intro gb528 hg w137 hbox hb; replace HO504 := am (rb (xR HO504.out) hb); replace HO507 := am (rb (xR HO507.out) hb); replace HO513 := am (rb (xR HO513.out) hb); replace HO516 := am (rb (xR HO516.out) hb); replace HO522 := am (rb (xR HO522.out) hb); replace HO525 := am (rb (xR HO525.out) hb); have BK528 := am (hbox); have GW528 := am (xS hg HB.out); have GE528 := am (xS hg HB.out); replace HB := am (bs (xW HB.out) hb); have NB510_528 := am (xN hg BK510.out); have NB528_510 := am (xM hg BK510.out); replace BK510 := am (bb (xB BK510.out) hb); have NB519_528 := am (xN hg BK519.out); have NB528_519 := am (xM hg BK519.out); replace BK519 := am (bb (xB BK519.out) hb); clear hb hbox hg; obtain ⟨Ao138, co138, eo138⟩ := Kd.R_slice HO522.out; subst eo138; have hnb139 := NB528_510.out; have hnc139 := NB510_528.out; have hnb140 := NB528_519.out; have hnc140 := NB519_528.out; obtain ⟨hcz141_0, hcz141_1, hcz141_2, hfz141_0, hfz141_1, hfz141_2⟩ := xT3 (W := w137) BK528.out; obtain ⟨Ao142, co142, eo142⟩ := Kd.R_slice HO525.out; subst eo142; obtain ⟨hcz143_0, hcz143_1, hcz143_2, hfz143_0, hfz143_1, hfz143_2⟩ := xT3 (W := w137) BK519.out))
    go_ret
    exact ⟨xV, xW HB.out⟩
def laws_FnCleans.Pure : Prop := ∀ (l0 : List Int), l0.length ≤ maxLen → l0.length * 1 ≤ 140737488351232 → (∀ x ∈ l0, (Lit.int .u8 x).wf = true) → ∃ k, laws_FnCleans.f k l0 = some true
theorem laws_FnCleans.walk (P : laws_FnCleans.Pure) (a0 : Option Addr) (len0 cap0 : Nat) (z0 : List Int) (w : World) (w0 : (a0 = none ∧ len0 = 0 ∧ cap0 = 0 ∧ z0 = []) ∨ ∃ x, a0 = some x ∧ len0 ≤ cap0 ∧ cap0 ≤ maxLen ∧ z0.length = cap0 ∧ (∀ i, i < z0.length → w.cell? (x.add i) = some (.int .u8 (z0.getD i 0))) ∧ ∀ n ∈ z0, (Lit.int .u8 n).wf = true) (y0 : len0 * 1 ≤ 140737488351232) :
  Calls Try.prog 13 #[.slice a0 len0 cap0] w fun e w' => e = .returned (.bool true) ∧ Below w.heap.size w w' := by
 obtain ⟨l0, rfl, hr0, hm0, hw0, hc0⟩ := ReadsInt.ofRowC w0
 obtain ⟨k, h⟩ := P l0 hm0 y0 hw0
 refine (laws_FnCleans.calls k _ _ l0 true w (Kd.C_of_reads (d := (0 : Int)) (h1 := fun _ => rfl) hr0) hc0 h).mono ?_
 rintro e w' ⟨rfl, hd⟩
 exact ⟨rfl, hd⟩
end Go.Proofs.Ytmahoekbedgbcaa.HFnCleans
