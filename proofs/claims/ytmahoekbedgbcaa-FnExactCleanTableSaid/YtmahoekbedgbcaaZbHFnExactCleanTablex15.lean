/- What the row of the law needs of the printed and the plain texts. -/
import Derived.Test.YtmahoekbedgbcaaZbHX
import Derived.Test.YtmahoekbedgbcaaZbHFnExactCleanTablex0
import Derived.Test.YtmahoekbedgbcaaZbHFnExactCleanTablex2
import Derived.Test.YtmahoekbedgbcaaZbHFnExactCleanTablex3
import Derived.Test.YtmahoekbedgbcaaZbHFnExactCleanTablex9
import Derived.Test.YtmahoekbedgbcaaZbHFnExactCleanTablex14
namespace Go.Proofs.Ytmahoekbedgbcaa.HFnExactCleanTable
open Go.RowKit Go.Proofs.YtmahoekbedgbcaaW.PrintWords Go.Proofs.YtmahoekbedgbcaaW.PrintLast Go.Proofs.YtmahoekbedgbcaaW.PrintMore
attribute [local go_sem] max2_int min2_int max_two min_two max_three min_three max_four min_four
set_option linter.unusedVariables false
set_option linter.unusedSimpArgs false
open Go.Proofs.YtmahoekbedgbcaaW.PrintWords renaming blk_drewN → bn, blk_drew → bd, blk_alloc → ba, below_alloc → wa, pw_below_drewN → wn, below_drew1 → wd, below_set → ws, blk_below → bb, blk_kept → bk, below_step → bs
open Go.Proofs.YtmahoekbedgbcaaW.PrintWords.Kd renaming R_alloc → ra, R_drewN → rn, R_drew → rd, R_below → rb, R_mono → rm, R_apart' → rp, R_typed → rt, R_keptB → rk, R_base → re, R_reads' → rr
open Go.Proofs.YtmahoekbedgbcaaW.PrintMore.Kd renaming R_told → ro, R_old → rl
mutual
def laws_FnExactCleanTable.j0 : Nat → Bool → Bool → Bool → List (S95) → List (S95) → Int → List (S57) → List (S57) → Int → List (S57) → List (S57) → Int → List (S57) → List (S57) → Int → Option (Bool)
 | 0, _, _, _, _, _, _, _, _, _, _, _, _, _, _, _ => none
 | k + 1, x5, x8, x40, x338000, x338001, x338002, x355000, x355001, x355002, x363000, x363001, x363002, x372000, x372001, x372002 => if x40 = true then (some false) else ((laws_toTable.f k x338000 x338001 x338002).bind fun bt373 => ((laws_eqTable.f k x363000 x363001 x363002 bt373.1 bt373.2.1 bt373.2.2).bind fun t380 => (if t380 = true then ((laws_markTable.f k x363000 x363001 x363002 1).bind fun bt381 => (if bt381.1 < 0 then (laws_FnExactCleanTable.j1 k x5 true x338000 x338001 x338002 x355000 x355001 x355002 x372000 x372001 x372002) else ((laws_eqTable.f k x372000 x372001 x372002 x355000 x355001 x355002).bind fun t384 => (if t384 = true then (laws_FnExactCleanTable.j1 k x5 (x8 != x5) x338000 x338001 x338002 x355000 x355001 x355002 x372000 x372001 x372002) else (laws_FnExactCleanTable.j1 k x5 true x338000 x338001 x338002 x355000 x355001 x355002 x372000 x372001 x372002))))) else (some false))))
def laws_FnExactCleanTable.j1 : Nat → Bool → Bool → List (S95) → List (S95) → Int → List (S57) → List (S57) → Int → List (S57) → List (S57) → Int → Option (Bool)
 | 0, _, _, _, _, _, _, _, _, _, _, _ => none
 | k + 1, x5, x61, x338000, x338001, x338002, x355000, x355001, x355002, x372000, x372001, x372002 => if x61 = true then (some false) else ((laws_markTable.f k x372000 x372001 x372002 1).bind fun bt385 => ((laws_heldTable.f k bt385.2.1 bt385.2.2 x372002 1).bind fun t388 => (if t388 < 0 then (some false) else (if t388 = bt385.1 then ((laws_toTable.f k x338000 x338001 x338002).bind fun bt389 => ((impl_CleanTable.f k bt389.1 bt389.2.1 bt389.2.2).bind fun bt396 => ((laws_eqTable.f k bt396.1 bt396.2.1 bt396.2.2.1 x355000 x355001 x355002).bind fun t405 => (if t405 = true then (laws_FnExactCleanTable.j2 k bt385.1 (bt396.2.2.2 != x5) bt385.2.1 bt385.2.2 x372002) else (laws_FnExactCleanTable.j2 k bt385.1 true bt385.2.1 bt385.2.2 x372002))))) else (some false)))))
def laws_FnExactCleanTable.j2 : Nat → Int → Bool → List (S57) → List (S57) → Int → Option (Bool)
 | 0, _, _, _, _, _ => none
 | k + 1, x10, x87, x372000, x372001, x372002 => if x87 = true then (some false) else ((laws_heldTable.f k x372000 x372001 x372002 1).bind fun t406 => (if t406 < 0 then (some false) else (if t406 = x10 then (some true) else (some false))))
end
def laws_FnExactCleanTable.f (k : Nat) (l0_0 : List (S95)) (l0_1 : List (S95)) (a0_2 : Int) : Option (Bool) := (laws_szTable.f k l0_0 l0_1 a0_2 1048576).bind fun t338 => (if t338 < 0 then (some true) else ((laws_toTable.f k l0_0 l0_1 a0_2).bind fun bt339 => ((spec_CleanTable.f k bt339.1 bt339.2.1 bt339.2.2).bind fun bt346 => ((laws_toTable.f k l0_0 l0_1 a0_2).bind fun bt355 => ((impl_CleanTable.f k bt355.1 bt355.2.1 bt355.2.2).bind fun bt363 => ((laws_eqTable.f k bt363.1 bt363.2.1 bt363.2.2.1 bt346.1 bt346.2.1 bt346.2.2.1).bind fun t372 => (if t372 = true then (laws_FnExactCleanTable.j0 k bt346.2.2.2 bt363.2.2.2 (bt363.2.2.2 != bt346.2.2.2) l0_0 l0_1 a0_2 bt346.1 bt346.2.1 bt346.2.2.1 bt355.1 bt355.2.1 bt355.2.2 bt363.1 bt363.2.1 bt363.2.2.1) else (laws_FnExactCleanTable.j0 k bt346.2.2.2 bt363.2.2.2 true l0_0 l0_1 a0_2 bt346.1 bt346.2.1 bt346.2.2.1 bt355.1 bt355.2.1 bt355.2.2 bt363.1 bt363.2.1 bt363.2.2.1))))))))
set_option maxHeartbeats 8000000 in
set_option maxRecDepth 100000 in
theorem laws_FnExactCleanTable.calls (k : Nat) (A0_0 : Option Addr) (c0_0 : Nat) (l0_0 : List (S95)) (A0_1 : Option Addr) (c0_1 : Nat) (l0_1 : List (S95)) (a0_2 : Int) (r : Bool) (w : World) (hr0_0 : Kd.C k95 w A0_0 l0_0.length l0_0) (hc0_0 : l0_0.length ≤ c0_0) (hr0_1 : Kd.C k95 w A0_1 l0_1.length l0_1) (hc0_1 : l0_1.length ≤ c0_1) (h : laws_FnExactCleanTable.f k l0_0 l0_1 a0_2 = some r) :
  Calls Try.prog 12 #[.agg #[.slice A0_0 l0_0.length c0_0, .slice A0_1 l0_1.length c0_1, .int .i64 a0_2]] w fun e w' => e = .returned (.bool r) ∧ Below w.heap.size w w' := by
 have hu42 := Try.underlying42
 have hu26 := Try.underlying26
 have HR0_0 := am hr0_0
 have HC0_0 := am hc0_0
 clear hr0_0 hc0_0
 have HR0_1 := am hr0_1
 have HC0_1 := am hc0_1
 clear hr0_1 hc0_1
 have HB := am (Below.refl w.heap.size w)
 have H : ((laws_szTable.f k l0_0 l0_1 a0_2 1048576).bind fun t338 => (if t338 < 0 then (some true) else ((laws_toTable.f k l0_0 l0_1 a0_2).bind fun bt339 => ((spec_CleanTable.f k bt339.1 bt339.2.1 bt339.2.2).bind fun bt346 => ((laws_toTable.f k l0_0 l0_1 a0_2).bind fun bt355 => ((impl_CleanTable.f k bt355.1 bt355.2.1 bt355.2.2).bind fun bt363 => ((laws_eqTable.f k bt363.1 bt363.2.1 bt363.2.2.1 bt346.1 bt346.2.1 bt346.2.2.1).bind fun t372 => (if t372 = true then (laws_FnExactCleanTable.j0 k bt346.2.2.2 bt363.2.2.2 (bt363.2.2.2 != bt346.2.2.2) l0_0 l0_1 a0_2 bt346.1 bt346.2.1 bt346.2.2.1 bt355.1 bt355.2.1 bt355.2.2 bt363.1 bt363.2.1 bt363.2.2.1) else (laws_FnExactCleanTable.j0 k bt346.2.2.2 bt363.2.2.2 true l0_0 l0_1 a0_2 bt346.1 bt346.2.1 bt346.2.2.1 bt355.1 bt355.2.1 bt355.2.2 bt363.1 bt363.2.1 bt363.2.2.1))))))))) = some r := h
 clear h
 replace H := Option.bind_eq_some_iff.mp H
 obtain ⟨t338, A20, H⟩ := H
 replace H : (if t338 < 0 then (some true) else ((laws_toTable.f k l0_0 l0_1 a0_2).bind fun bt339 => ((spec_CleanTable.f k bt339.1 bt339.2.1 bt339.2.2).bind fun bt346 => ((laws_toTable.f k l0_0 l0_1 a0_2).bind fun bt355 => ((impl_CleanTable.f k bt355.1 bt355.2.1 bt355.2.2).bind fun bt363 => ((laws_eqTable.f k bt363.1 bt363.2.1 bt363.2.2.1 bt346.1 bt346.2.1 bt346.2.2.1).bind fun t372 => (if t372 = true then (laws_FnExactCleanTable.j0 k bt346.2.2.2 bt363.2.2.2 (bt363.2.2.2 != bt346.2.2.2) l0_0 l0_1 a0_2 bt346.1 bt346.2.1 bt346.2.2.1 bt355.1 bt355.2.1 bt355.2.2 bt363.1 bt363.2.1 bt363.2.2.1) else (laws_FnExactCleanTable.j0 k bt346.2.2.2 bt363.2.2.2 true l0_0 l0_1 a0_2 bt346.1 bt346.2.1 bt346.2.2.1 bt355.1 bt355.2.1 bt355.2.2 bt363.1 bt363.2.1 bt363.2.2.1)))))))) = some r := H
 have A2 := am A20
 clear A20
 by_cases c3 : t338 < 0
 ·rw [if_pos c3] at H
  have c3b0 : decide (t338 < 0) = true := decide_eq_true c3
  clear c3
  obtain rfl := Option.some.inj H
  go_enter Try.func12, Try.ntmps12
  go_wp2_with (first | ((with_reducible refine gate_dst (N := 1) rfl ?_); refine xE (N := 1) (cs := #[.slice A0_0 l0_0.length c0_0, .slice A0_1 l0_1.length c0_1, .int .i64 a0_2]) (t := 42) (h := ?_); intro gb337 hg w4 hbox hb; have n0_ := am (bs (xW HB.out) hb); have n1_ := am (hbox); have n2_ := am (xS hg HB.out); have n3_ := am (xS hg HB.out); clear HB; have HB := n0_; have BK337 := n1_; have GW337 := n2_; have GE337 := n3_; clear n0_ n1_ n2_ n3_; clear hb hbox hg; obtain ⟨hcz5_0, hcz5_1, hcz5_2, hfz5_0, hfz5_1, hfz5_2⟩ := xT3 (W := w4) BK337.out) | ((with_reducible refine gate_callee (f := 24) rfl ?_); refine xG (some 16) 24 Try.func24 #[.agg #[.slice A0_0 l0_0.length c0_0, .slice A0_1 l0_1.length c0_1, .int .i64 a0_2], .int .i64 1048576] (h := ?_); (with_reducible refine (laws_szTable.calls k _ _ l0_0 _ _ l0_1 a0_2 1048576 t338 _ ?side1 ?side2 ?side3 ?side4 A2.out).mono ?_); (case side1 => exact xC (Kd.C_below HR0_0.out HB.out)); (case side2 => exact HC0_0.out); (case side3 => exact xC (Kd.C_below HR0_1.out HB.out)); (case side4 => exact HC0_1.out); rintro e w6 ⟨rfl, hb⟩; refine ⟨_, rfl, ?_⟩; have n0_ := am (bb (xB BK337.out) hb); have n1_ := am (bs (xW HB.out) hb); clear BK337; clear HB; have BK337 := n0_; have HB := n1_; clear n0_ n1_; (try clear hb); (try clear hb2); (try clear hk); (try clear hi)))
  go_ret
  exact ⟨xV, xW HB.out⟩
 ·rw [if_neg c3] at H
  have c3b0 : decide (t338 < 0) = false := decide_eq_false c3
  clear c3
  replace H := Option.bind_eq_some_iff.mp H
  obtain ⟨⟨t339, t342, t345⟩, A70, H⟩ := H
  replace H : ((spec_CleanTable.f k t339 t342 t345).bind fun bt346 => ((laws_toTable.f k l0_0 l0_1 a0_2).bind fun bt355 => ((impl_CleanTable.f k bt355.1 bt355.2.1 bt355.2.2).bind fun bt363 => ((laws_eqTable.f k bt363.1 bt363.2.1 bt363.2.2.1 bt346.1 bt346.2.1 bt346.2.2.1).bind fun t372 => (if t372 = true then (laws_FnExactCleanTable.j0 k bt346.2.2.2 bt363.2.2.2 (bt363.2.2.2 != bt346.2.2.2) l0_0 l0_1 a0_2 bt346.1 bt346.2.1 bt346.2.2.1 bt355.1 bt355.2.1 bt355.2.2 bt363.1 bt363.2.1 bt363.2.2.1) else (laws_FnExactCleanTable.j0 k bt346.2.2.2 bt363.2.2.2 true l0_0 l0_1 a0_2 bt346.1 bt346.2.1 bt346.2.2.1 bt355.1 bt355.2.1 bt355.2.2 bt363.1 bt363.2.1 bt363.2.2.1)))))) = some r := H
  have A7 := am A70
  clear A70
  replace H := Option.bind_eq_some_iff.mp H
  obtain ⟨⟨t346, t349, t352, t353⟩, A80, H⟩ := H
  replace H : ((laws_toTable.f k l0_0 l0_1 a0_2).bind fun bt355 => ((impl_CleanTable.f k bt355.1 bt355.2.1 bt355.2.2).bind fun bt363 => ((laws_eqTable.f k bt363.1 bt363.2.1 bt363.2.2.1 t346 t349 t352).bind fun t372 => (if t372 = true then (laws_FnExactCleanTable.j0 k t353 bt363.2.2.2 (bt363.2.2.2 != t353) l0_0 l0_1 a0_2 t346 t349 t352 bt355.1 bt355.2.1 bt355.2.2 bt363.1 bt363.2.1 bt363.2.2.1) else (laws_FnExactCleanTable.j0 k t353 bt363.2.2.2 true l0_0 l0_1 a0_2 t346 t349 t352 bt355.1 bt355.2.1 bt355.2.2 bt363.1 bt363.2.1 bt363.2.2.1))))) = some r := H
  have A8 := am A80
  clear A80
  replace H := Option.bind_eq_some_iff.mp H
  obtain ⟨⟨t355, t358, t361⟩, A90, H⟩ := H
  replace H : ((impl_CleanTable.f k t355 t358 t361).bind fun bt363 => ((laws_eqTable.f k bt363.1 bt363.2.1 bt363.2.2.1 t346 t349 t352).bind fun t372 => (if t372 = true then (laws_FnExactCleanTable.j0 k t353 bt363.2.2.2 (bt363.2.2.2 != t353) l0_0 l0_1 a0_2 t346 t349 t352 t355 t358 t361 bt363.1 bt363.2.1 bt363.2.2.1) else (laws_FnExactCleanTable.j0 k t353 bt363.2.2.2 true l0_0 l0_1 a0_2 t346 t349 t352 t355 t358 t361 bt363.1 bt363.2.1 bt363.2.2.1)))) = some r := H
  have A9 := am A90
  clear A90
  replace H := Option.bind_eq_some_iff.mp H
  obtain ⟨⟨t363, t366, t369, t370⟩, A100, H⟩ := H
  replace H : ((laws_eqTable.f k t363 t366 t369 t346 t349 t352).bind fun t372 => (if t372 = true then (laws_FnExactCleanTable.j0 k t353 t370 (t370 != t353) l0_0 l0_1 a0_2 t346 t349 t352 t355 t358 t361 t363 t366 t369) else (laws_FnExactCleanTable.j0 k t353 t370 true l0_0 l0_1 a0_2 t346 t349 t352 t355 t358 t361 t363 t366 t369))) = some r := H
  have A10 := am A100
  clear A100
  have HC11 := am H
  clear H
  go_enter Try.func12, Try.ntmps12
  go_upto_region 8 with (first | ((with_reducible refine gate_dst (N := 1) rfl ?_); refine xE (N := 1) (cs := #[.slice A0_0 l0_0.length c0_0, .slice A0_1 l0_1.length c0_1, .int .i64 a0_2]) (t := 42) (h := ?_); intro gb337 hg w12 hbox hb; have n0_ := am (bs (xW HB.out) hb); have n1_ := am (hbox); have n2_ := am (xS hg HB.out); have n3_ := am (xS hg HB.out); clear HB; have HB := n0_; have BK337 := n1_; have GW337 := n2_; have GE337 := n3_; clear n0_ n1_ n2_ n3_; clear hb hbox hg; obtain ⟨hcz13_0, hcz13_1, hcz13_2, hfz13_0, hfz13_1, hfz13_2⟩ := xT3 (W := w12) BK337.out) | ((with_reducible refine gate_callee (f := 24) rfl ?_); refine xG (some 16) 24 Try.func24 #[.agg #[.slice A0_0 l0_0.length c0_0, .slice A0_1 l0_1.length c0_1, .int .i64 a0_2], .int .i64 1048576] (h := ?_); (with_reducible refine (laws_szTable.calls k _ _ l0_0 _ _ l0_1 a0_2 1048576 t338 _ ?side1 ?side2 ?side3 ?side4 A2.out).mono ?_); (case side1 => exact xC (Kd.C_below HR0_0.out HB.out)); (case side2 => exact HC0_0.out); (case side3 => exact xC (Kd.C_below HR0_1.out HB.out)); (case side4 => exact HC0_1.out); rintro e w14 ⟨rfl, hb⟩; refine ⟨_, rfl, ?_⟩; have n0_ := am (bb (xB BK337.out) hb); have n1_ := am (bs (xW HB.out) hb); clear BK337; clear HB; have BK337 := n0_; have HB := n1_; clear n0_ n1_; (try clear hb); (try clear hb2); (try clear hk); (try clear hi); obtain ⟨hcz15_0, hcz15_1, hcz15_2, hfz15_0, hfz15_1, hfz15_2⟩ := xT3 (W := w14) BK337.out) | ((with_reducible refine gate_callee (f := 26) rfl ?_); refine xG (some 21) 26 Try.func26 #[.agg #[.slice A0_0 l0_0.length c0_0, .slice A0_1 l0_1.length c0_1, .int .i64 a0_2]] (h := ?_); (with_reducible refine (laws_toTable.calls k _ _ l0_0 _ _ l0_1 a0_2 t339 t342 t345 _ ?side1 ?side2 ?side3 ?side4 A7.out).mono ?_); (case side1 => exact xC (Kd.C_below HR0_0.out HB.out)); (case side2 => exact HC0_0.out); (case side3 => exact xC (Kd.C_below HR0_1.out HB.out)); (case side4 => exact HC0_1.out); rintro e w16 ⟨v340, v343, rfl, ho0, ho1, hb⟩; refine ⟨_, rfl, ?_⟩; have n0_ := am (Kd.R_lower ho0 (below_size (xW HB.out))); have n1_ := am (Kd.R_lower ho1 (below_size (xW HB.out))); have n2_ := am (bb (xB BK337.out) hb); have n3_ := am (bs (xW HB.out) hb); clear BK337; clear HB; have HO341 := n0_; have HO344 := n1_; have BK337 := n2_; have HB := n3_; clear n0_ n1_ n2_ n3_; (try clear hb); (try clear hb2); (try clear hk); (try clear hi); (try clear ho0); (try clear ho1); obtain ⟨Ao17, co17, eo17⟩ := Kd.R_slice HO341.out; subst eo17; obtain ⟨Ao18, co18, eo18⟩ := Kd.R_slice HO344.out; subst eo18) | ((with_reducible refine gate_callee (f := 42) rfl ?_); refine xG (some 22) 42 Try.func42 #[.agg #[.slice Ao17 t339.length co17, .slice Ao18 t342.length co18, .int .i64 t345]] (h := ?_); (with_reducible refine (spec_CleanTable.calls k _ _ t339 _ _ t342 t345 t346 t349 t352 t353 _ ?side1 ?side2 ?side3 ?side4 A8.out).mono ?_); (case side1 => exact xC ((rr HO341.out).2.2)); (case side2 => exact (rr HO341.out).2.1); (case side3 => exact xC ((rr HO344.out).2.2)); (case side4 => exact (rr HO344.out).2.1); rintro e w19 ⟨v347, v350, rfl, ho0, ho1, hb⟩; refine ⟨_, rfl, ?_⟩; have n0_ := am (rm (ro (ro (rl (xR HO341.out) hb) (re ho0)) (re ho1)) (fun _ h_ => h_.1)); have n1_ := am (rm (ro (ro (rl (xR HO344.out) hb) (re ho0)) (re ho1)) (fun _ h_ => h_.1)); have n2_ := am (Kd.R_lower (Kd.R_new' (Kd.R_new' ho0 (Kd.R_lt (xR HO341.out))) (Kd.R_lt (xR HO344.out))) (below_size (xW HB.out))); have n3_ := am (Kd.R_lower (Kd.R_new' (Kd.R_new' ho1 (Kd.R_lt (xR HO341.out))) (Kd.R_lt (xR HO344.out))) (below_size (xW HB.out))); have n4_ := am (bb (xB BK337.out) hb); have n5_ := am (bs (xW HB.out) hb); clear HO341; clear HO344; clear BK337; clear HB; have HO341 := n0_; have HO344 := n1_; have HO348 := n2_; have HO351 := n3_; have BK337 := n4_; have HB := n5_; clear n0_ n1_ n2_ n3_ n4_ n5_; (try clear hb); (try clear hb2); (try clear hk); (try clear hi); (try clear ho0); (try clear ho1)) | ((with_reducible refine gate_dst (N := 4) rfl ?_); refine xE (N := 4) (cs := #[.slice none 0 0, .slice none 0 0, .int .i64 0]) (t := 26) (h := ?_); intro gb354 hg w20 hbox hb; have n0_ := am (rb (xR HO341.out) hb); have n1_ := am (rb (xR HO344.out) hb); have n2_ := am (rb (xR HO348.out) hb); have n3_ := am (rb (xR HO351.out) hb); have n4_ := am (bb (xB BK337.out) hb); have n5_ := am (bs (xW HB.out) hb); have n6_ := am (hbox); have n7_ := am (xS hg HB.out); have n8_ := am (xS hg HB.out); have n9_ := am (xN hg BK337.out); have n10_ := am (xM hg BK337.out); clear HO341; clear HO344; clear HO348; clear HO351; clear BK337; clear HB; have HO341 := n0_; have HO344 := n1_; have HO348 := n2_; have HO351 := n3_; have BK337 := n4_; have HB := n5_; have BK354 := n6_; have GW354 := n7_; have GE354 := n8_; have NB337_354 := n9_; have NB354_337 := n10_; clear n0_ n1_ n2_ n3_ n4_ n5_ n6_ n7_ n8_ n9_ n10_; clear hb hbox hg; obtain ⟨Ao21, co21, eo21⟩ := Kd.R_slice HO348.out; subst eo21; have hnb22 := NB354_337.out; have hnc22 := NB337_354.out; obtain ⟨hcz23_0, hcz23_1, hcz23_2, hfz23_0, hfz23_1, hfz23_2⟩ := xT3 (W := w20) BK354.out; obtain ⟨Ao24, co24, eo24⟩ := Kd.R_slice HO351.out; subst eo24; obtain ⟨hcz25_0, hcz25_1, hcz25_2, hfz25_0, hfz25_1, hfz25_2⟩ := xT3 (W := w20) BK337.out) | ((with_reducible refine gate_callee (f := 26) rfl ?_); refine xG (some 26) 26 Try.func26 #[.agg #[.slice A0_0 l0_0.length c0_0, .slice A0_1 l0_1.length c0_1, .int .i64 a0_2]] (h := ?_); (with_reducible refine (laws_toTable.calls k _ _ l0_0 _ _ l0_1 a0_2 t355 t358 t361 _ ?side1 ?side2 ?side3 ?side4 A9.out).mono ?_); (case side1 => exact Kd.C_below HR0_0.out (xW HB.out)); (case side2 => exact HC0_0.out); (case side3 => exact Kd.C_below HR0_1.out (xW HB.out)); (case side4 => exact HC0_1.out); rintro e w26 ⟨v356, v359, rfl, ho0, ho1, hb⟩; refine ⟨_, rfl, ?_⟩; have n0_ := am (rm (ro (ro (rl (xR HO341.out) hb) (re ho0)) (re ho1)) (fun _ h_ => h_.1)); have n1_ := am (rm (ro (ro (rl (xR HO344.out) hb) (re ho0)) (re ho1)) (fun _ h_ => h_.1)); have n2_ := am (rm (ro (ro (rl (xR HO348.out) hb) (re ho0)) (re ho1)) (fun _ h_ => h_.1)); have n3_ := am (rm (ro (ro (rl (xR HO351.out) hb) (re ho0)) (re ho1)) (fun _ h_ => h_.1)); have n4_ := am (Kd.R_lower (Kd.R_new' (Kd.R_new' (Kd.R_new' (Kd.R_new' ho0 (Kd.R_lt (xR HO341.out))) (Kd.R_lt (xR HO344.out))) (Kd.R_lt (xR HO348.out))) (Kd.R_lt (xR HO351.out))) (below_size (xW HB.out))); have n5_ := am (Kd.R_lower (Kd.R_new' (Kd.R_new' (Kd.R_new' (Kd.R_new' ho1 (Kd.R_lt (xR HO341.out))) (Kd.R_lt (xR HO344.out))) (Kd.R_lt (xR HO348.out))) (Kd.R_lt (xR HO351.out))) (below_size (xW HB.out))); have n6_ := am (bb (xB BK337.out) hb); have n7_ := am (bb (xP BK354.out) hb); have n8_ := am (bs (xW HB.out) hb); clear HO341; clear HO344; clear HO348; clear HO351; clear BK337; clear BK354; clear HB; have HO341 := n0_; have HO344 := n1_; have HO348 := n2_; have HO351 := n3_; have HO357 := n4_; have HO360 := n5_; have BK337 := n6_; have BK354 := n7_; have HB := n8_; clear n0_ n1_ n2_ n3_ n4_ n5_ n6_ n7_ n8_; (try clear hb); (try clear hb2); (try clear hk); (try clear hi); (try clear ho0); (try clear ho1)) | ((with_reducible refine gate_dst (N := 6) rfl ?_); refine xE (N := 6) (cs := #[.slice none 0 0, .slice none 0 0, .int .i64 0]) (t := 26) (h := ?_); intro gb362 hg w27 hbox hb; have n0_ := am (rb (xR HO341.out) hb); have n1_ := am (rb (xR HO344.out) hb); have n2_ := am (rb (xR HO348.out) hb); have n3_ := am (rb (xR HO351.out) hb); have n4_ := am (rb (xR HO357.out) hb); have n5_ := am (rb (xR HO360.out) hb); have n6_ := am (bb (xB BK337.out) hb); have n7_ := am (bb (xB BK354.out) hb); have n8_ := am (bs (xW HB.out) hb); have n9_ := am (hbox); have n10_ := am (xS hg HB.out); have n11_ := am (xS hg HB.out); have n12_ := am (xN hg BK337.out); have n13_ := am (xM hg BK337.out); have n14_ := am (xN hg BK354.out); have n15_ := am (xM hg BK354.out); clear HO341; clear HO344; clear HO348; clear HO351; clear HO357; clear HO360; clear BK337; clear BK354; clear HB; have HO341 := n0_; have HO344 := n1_; have HO348 := n2_; have HO351 := n3_; have HO357 := n4_; have HO360 := n5_; have BK337 := n6_; have BK354 := n7_; have HB := n8_; have BK362 := n9_; have GW362 := n10_; have GE362 := n11_; have NB337_362 := n12_; have NB362_337 := n13_; have NB354_362 := n14_; have NB362_354 := n15_; clear n0_ n1_ n2_ n3_ n4_ n5_ n6_ n7_ n8_ n9_ n10_ n11_ n12_ n13_ n14_ n15_; clear hb hbox hg; obtain ⟨Ao28, co28, eo28⟩ := Kd.R_slice HO357.out; subst eo28; have hnb29 := NB362_337.out; have hnc29 := NB337_362.out; have hnb30 := NB362_354.out; have hnc30 := NB354_362.out; obtain ⟨hcz31_0, hcz31_1, hcz31_2, hfz31_0, hfz31_1, hfz31_2⟩ := xT3 (W := w27) BK362.out; obtain ⟨Ao32, co32, eo32⟩ := Kd.R_slice HO360.out; subst eo32) | ((with_reducible refine gate_callee (f := 43) rfl ?_); refine xG (some 29) 43 Try.func43 #[.agg #[.slice Ao28 t355.length co28, .slice Ao32 t358.length co32, .int .i64 t361]] (h := ?_); (with_reducible refine (impl_CleanTable.calls k _ _ t355 _ _ t358 t361 t363 t366 t369 t370 _ ?side1 ?side2 ?side3 ?side4 A10.out).mono ?_); (case side1 => exact xD HO357.out); (case side2 => exact (rr HO357.out).2.1); (case side3 => exact xD HO360.out); (case side4 => exact (rr HO360.out).2.1); rintro e w33 ⟨v364, v367, rfl, ho0, ho1, hb⟩; refine ⟨_, rfl, ?_⟩; have n0_ := am (rm (ro (ro (rl (xR HO341.out) hb) (re ho0)) (re ho1)) (fun _ h_ => h_.1)); have n1_ := am (rm (ro (ro (rl (xR HO344.out) hb) (re ho0)) (re ho1)) (fun _ h_ => h_.1)); have n2_ := am (rm (ro (ro (rl (xR HO348.out) hb) (re ho0)) (re ho1)) (fun _ h_ => h_.1)); have n3_ := am (rm (ro (ro (rl (xR HO351.out) hb) (re ho0)) (re ho1)) (fun _ h_ => h_.1)); have n4_ := am (rm (ro (ro (rl (xR HO357.out) hb) (re ho0)) (re ho1)) (fun _ h_ => h_.1)); have n5_ := am (rm (ro (ro (rl (xR HO360.out) hb) (re ho0)) (re ho1)) (fun _ h_ => h_.1)); have n6_ := am (Kd.R_lower (Kd.R_new' (Kd.R_new' (Kd.R_new' (Kd.R_new' (Kd.R_new' (Kd.R_new' ho0 (Kd.R_lt (xR HO341.out))) (Kd.R_lt (xR HO344.out))) (Kd.R_lt (xR HO348.out))) (Kd.R_lt (xR HO351.out))) (Kd.R_lt (xR HO357.out))) (Kd.R_lt (xR HO360.out))) (below_size (xW HB.out))); have n7_ := am (Kd.R_lower (Kd.R_new' (Kd.R_new' (Kd.R_new' (Kd.R_new' (Kd.R_new' (Kd.R_new' ho1 (Kd.R_lt (xR HO341.out))) (Kd.R_lt (xR HO344.out))) (Kd.R_lt (xR HO348.out))) (Kd.R_lt (xR HO351.out))) (Kd.R_lt (xR HO357.out))) (Kd.R_lt (xR HO360.out))) (below_size (xW HB.out))); have n8_ := am (bb (xB BK337.out) hb); have n9_ := am (bb (xB BK354.out) hb); have n10_ := am (bb (xP BK362.out) hb); have n11_ := am (bs (xW HB.out) hb); clear HO341; clear HO344; clear HO348; clear HO351; clear HO357; clear HO360; clear BK337; clear BK354; clear BK362; clear HB; have HO341 := n0_; have HO344 := n1_; have HO348 := n2_; have HO351 := n3_; have HO357 := n4_; have HO360 := n5_; have HO365 := n6_; have HO368 := n7_; have BK337 := n8_; have BK354 := n9_; have BK362 := n10_; have HB := n11_; clear n0_ n1_ n2_ n3_ n4_ n5_ n6_ n7_ n8_ n9_ n10_ n11_; (try clear hb); (try clear hb2); (try clear hk); (try clear hi); (try clear ho0); (try clear ho1)) | ((with_reducible refine gate_dst (N := 7) rfl ?_); refine xE (N := 7) (cs := #[.slice none 0 0, .slice none 0 0, .int .i64 0]) (t := 26) (h := ?_); intro gb371 hg w34 hbox hb; have n0_ := am (rb (xR HO341.out) hb); have n1_ := am (rb (xR HO344.out) hb); have n2_ := am (rb (xR HO348.out) hb); have n3_ := am (rb (xR HO351.out) hb); have n4_ := am (rb (xR HO357.out) hb); have n5_ := am (rb (xR HO360.out) hb); have n6_ := am (rb (xR HO365.out) hb); have n7_ := am (rb (xR HO368.out) hb); have n8_ := am (bb (xB BK337.out) hb); have n9_ := am (bb (xB BK354.out) hb); have n10_ := am (bb (xB BK362.out) hb); have n11_ := am (bs (xW HB.out) hb); have n12_ := am (hbox); have n13_ := am (xS hg HB.out); have n14_ := am (xS hg HB.out); have n15_ := am (xN hg BK337.out); have n16_ := am (xM hg BK337.out); have n17_ := am (xN hg BK354.out); have n18_ := am (xM hg BK354.out); have n19_ := am (xN hg BK362.out); have n20_ := am (xM hg BK362.out); clear HO341; clear HO344; clear HO348; clear HO351; clear HO357; clear HO360; clear HO365; clear HO368; clear BK337; clear BK354; clear BK362; clear HB; have HO341 := n0_; have HO344 := n1_; have HO348 := n2_; have HO351 := n3_; have HO357 := n4_; have HO360 := n5_; have HO365 := n6_; have HO368 := n7_; have BK337 := n8_; have BK354 := n9_; have BK362 := n10_; have HB := n11_; have BK371 := n12_; have GW371 := n13_; have GE371 := n14_; have NB337_371 := n15_; have NB371_337 := n16_; have NB354_371 := n17_; have NB371_354 := n18_; have NB362_371 := n19_; have NB371_362 := n20_; clear n0_ n1_ n2_ n3_ n4_ n5_ n6_ n7_ n8_ n9_ n10_ n11_ n12_ n13_ n14_ n15_ n16_ n17_ n18_ n19_ n20_; clear hb hbox hg; obtain ⟨Ao35, co35, eo35⟩ := Kd.R_slice HO365.out; subst eo35; have hnb36 := NB371_337.out; have hnc36 := NB337_371.out; have hnb37 := NB371_354.out; have hnc37 := NB354_371.out; have hnb38 := NB371_362.out; have hnc38 := NB362_371.out; obtain ⟨hcz39_0, hcz39_1, hcz39_2, hfz39_0, hfz39_1, hfz39_2⟩ := xT3 (W := w34) BK371.out; obtain ⟨Ao40, co40, eo40⟩ := Kd.R_slice HO368.out; subst eo40))
  (try simp only [Act.put, List.setIfInBounds_toArray, List.set_cons_zero, List.set_cons_succ])
  go_cut [40] (fun v40 wc => ∃ (kq : Nat) (x40_10 : Bool), v40 = .bool x40_10 ∧ Aside0 (laws_FnExactCleanTable.j0 kq t353 t370 x40_10 l0_0 l0_1 a0_2 t346 t349 t352 t355 t358 t361 t363 t366 t369 = some r) ∧ Aside0 (kq ≤ k) ∧ Aside0 (Kd.R k57 57 wc w.heap.size (fun k_ => some k_ ≠ ((.slice Ao24 t349.length co24) : Value).ownBlock ∧ some k_ ≠ ((.slice Ao28 t355.length co28) : Value).ownBlock ∧ some k_ ≠ ((.slice Ao32 t358.length co32) : Value).ownBlock ∧ some k_ ≠ ((.slice Ao35 t363.length co35) : Value).ownBlock ∧ some k_ ≠ ((.slice Ao40 t366.length co40) : Value).ownBlock) (.slice Ao21 t346.length co21) t346) ∧ Aside0 (Kd.R k57 57 wc w.heap.size (fun k_ => some k_ ≠ ((.slice Ao21 t346.length co21) : Value).ownBlock ∧ some k_ ≠ ((.slice Ao28 t355.length co28) : Value).ownBlock ∧ some k_ ≠ ((.slice Ao32 t358.length co32) : Value).ownBlock ∧ some k_ ≠ ((.slice Ao35 t363.length co35) : Value).ownBlock ∧ some k_ ≠ ((.slice Ao40 t366.length co40) : Value).ownBlock) (.slice Ao24 t349.length co24) t349) ∧ Aside0 (Kd.R k57 57 wc w.heap.size (fun k_ => some k_ ≠ ((.slice Ao21 t346.length co21) : Value).ownBlock ∧ some k_ ≠ ((.slice Ao24 t349.length co24) : Value).ownBlock ∧ some k_ ≠ ((.slice Ao32 t358.length co32) : Value).ownBlock ∧ some k_ ≠ ((.slice Ao35 t363.length co35) : Value).ownBlock ∧ some k_ ≠ ((.slice Ao40 t366.length co40) : Value).ownBlock) (.slice Ao28 t355.length co28) t355) ∧ Aside0 (Kd.R k57 57 wc w.heap.size (fun k_ => some k_ ≠ ((.slice Ao21 t346.length co21) : Value).ownBlock ∧ some k_ ≠ ((.slice Ao24 t349.length co24) : Value).ownBlock ∧ some k_ ≠ ((.slice Ao28 t355.length co28) : Value).ownBlock ∧ some k_ ≠ ((.slice Ao35 t363.length co35) : Value).ownBlock ∧ some k_ ≠ ((.slice Ao40 t366.length co40) : Value).ownBlock) (.slice Ao32 t358.length co32) t358) ∧ Aside0 (Kd.R k57 57 wc w.heap.size (fun k_ => some k_ ≠ ((.slice Ao21 t346.length co21) : Value).ownBlock ∧ some k_ ≠ ((.slice Ao24 t349.length co24) : Value).ownBlock ∧ some k_ ≠ ((.slice Ao28 t355.length co28) : Value).ownBlock ∧ some k_ ≠ ((.slice Ao32 t358.length co32) : Value).ownBlock ∧ some k_ ≠ ((.slice Ao40 t366.length co40) : Value).ownBlock) (.slice Ao35 t363.length co35) t363) ∧ Aside0 (Kd.R k57 57 wc w.heap.size (fun k_ => some k_ ≠ ((.slice Ao21 t346.length co21) : Value).ownBlock ∧ some k_ ≠ ((.slice Ao24 t349.length co24) : Value).ownBlock ∧ some k_ ≠ ((.slice Ao28 t355.length co28) : Value).ownBlock ∧ some k_ ≠ ((.slice Ao32 t358.length co32) : Value).ownBlock ∧ some k_ ≠ ((.slice Ao35 t363.length co35) : Value).ownBlock) (.slice Ao40 t366.length co40) t366) ∧ Aside0 (wc.heap[gb337]? = some (.cells #[(.slice A0_0 l0_0.length c0_0), (.slice A0_1 l0_1.length c0_1), .int .i64 a0_2] 42 (0, 0))) ∧ Aside0 (wc.heap[gb354]? = some (.cells #[(.slice Ao21 t346.length co21), (.slice Ao24 t349.length co24), .int .i64 t352] 26 (0, 0))) ∧ Aside0 (wc.heap[gb362]? = some (.cells #[(.slice Ao28 t355.length co28), (.slice Ao32 t358.length co32), .int .i64 t361] 26 (0, 0))) ∧ Aside0 (wc.heap[gb371]? = some (.cells #[(.slice Ao35 t363.length co35), (.slice Ao40 t366.length co40), .int .i64 t369] 26 (0, 0))) ∧ Aside0 (Below w.heap.size w wc))
  case first =>
   have H := HC11.out
   clear HC11
   replace H := Option.bind_eq_some_iff.mp H
   obtain ⟨t372, A410, H⟩ := H
   replace H : (if t372 = true then (laws_FnExactCleanTable.j0 k t353 t370 (t370 != t353) l0_0 l0_1 a0_2 t346 t349 t352 t355 t358 t361 t363 t366 t369) else (laws_FnExactCleanTable.j0 k t353 t370 true l0_0 l0_1 a0_2 t346 t349 t352 t355 t358 t361 t363 t366 t369)) = some r := H
   have A41 := am A410
   clear A410
   by_cases c42 : t372 = true
   ·subst c42
    have H1 : (laws_FnExactCleanTable.j0 k t353 t370 (t370 != t353) l0_0 l0_1 a0_2 t346 t349 t352 t355 t358 t361 t363 t366 t369) = some r := by rw [if_pos rfl] at H; exact H
    clear H
    have H := H1
    clear H1
    have H' := am H
    clear H
    have hnb43 := NB371_337.out
    have hnc43 := NB337_371.out
    have hnb44 := NB371_354.out
    have hnc44 := NB354_371.out
    have hnb45 := NB371_362.out
    have hnc45 := NB362_371.out
    obtain ⟨hcz46_0, hcz46_1, hcz46_2, hfz46_0, hfz46_1, hfz46_2⟩ := xT3 (W := w34) BK371.out
    have hnb47 := NB354_337.out
    have hnc47 := NB337_354.out
    have hnb48 := NB354_362.out
    have hnc48 := NB362_354.out
    obtain ⟨hcz49_0, hcz49_1, hcz49_2, hfz49_0, hfz49_1, hfz49_2⟩ := xT3 (W := w34) BK354.out
    go_wp2_with (first | ((with_reducible refine gate_callee (f := 27) rfl ?_); refine xG (some 34) 27 Try.func27 #[.agg #[.slice Ao35 t363.length co35, .slice Ao40 t366.length co40, .int .i64 t369], .agg #[.slice Ao21 t346.length co21, .slice Ao24 t349.length co24, .int .i64 t352]] (h := ?_); (with_reducible refine (laws_eqTable.calls k _ _ t363 _ _ t366 t369 _ _ t346 _ _ t349 t352 true _ ?side1 ?side2 ?side3 ?side4 ?side5 ?side6 ?side7 ?side8 A41.out).mono ?_); (case side1 => exact xD HO365.out); (case side2 => exact (rr HO365.out).2.1); (case side3 => exact xD HO368.out); (case side4 => exact (rr HO368.out).2.1); (case side5 => exact xD HO348.out); (case side6 => exact (rr HO348.out).2.1); (case side7 => exact xD HO351.out); (case side8 => exact (rr HO351.out).2.1); rintro e w50 ⟨rfl, hb⟩; refine ⟨_, rfl, ?_⟩; have n0_ := am (rb (xR HO341.out) hb); have n1_ := am (rb (xR HO344.out) hb); have n2_ := am (rb (xR HO348.out) hb); have n3_ := am (rb (xR HO351.out) hb); have n4_ := am (rb (xR HO357.out) hb); have n5_ := am (rb (xR HO360.out) hb); have n6_ := am (rb (xR HO365.out) hb); have n7_ := am (rb (xR HO368.out) hb); have n8_ := am (bb (xB BK337.out) hb); have n9_ := am (bb (xB BK354.out) hb); have n10_ := am (bb (xB BK362.out) hb); have n11_ := am (bb (xP BK371.out) hb); have n12_ := am (bs (xW HB.out) hb); clear HO341; clear HO344; clear HO348; clear HO351; clear HO357; clear HO360; clear HO365; clear HO368; clear BK337; clear BK354; clear BK362; clear BK371; clear HB; have HO341 := n0_; have HO344 := n1_; have HO348 := n2_; have HO351 := n3_; have HO357 := n4_; have HO360 := n5_; have HO365 := n6_; have HO368 := n7_; have BK337 := n8_; have BK354 := n9_; have BK362 := n10_; have BK371 := n11_; have HB := n12_; clear n0_ n1_ n2_ n3_ n4_ n5_ n6_ n7_ n8_ n9_ n10_ n11_ n12_; (try clear hb); (try clear hb2); (try clear hk); (try clear hi)))
    go_meet
    case rel => exact ⟨_, ((t370 != t353)), (xQ), H', ⟨by first | omega | exact Nat.le_refl _⟩, ⟨Kd.R_mono (xR HO348.out) xI⟩, ⟨Kd.R_mono (xR HO351.out) xI⟩, ⟨Kd.R_mono (xR HO357.out) xI⟩, ⟨Kd.R_mono (xR HO360.out) xI⟩, ⟨Kd.R_mono (xR HO365.out) xI⟩, ⟨Kd.R_mono (xR HO368.out) xI⟩, ⟨xB BK337.out⟩, ⟨xB BK354.out⟩, ⟨xB BK362.out⟩, ⟨xB BK371.out⟩, ⟨xW HB.out⟩⟩
   ·replace c42 := Bool.eq_false_iff.mpr c42
    subst c42
    have H1 : (laws_FnExactCleanTable.j0 k t353 t370 true l0_0 l0_1 a0_2 t346 t349 t352 t355 t358 t361 t363 t366 t369) = some r := by rw [if_neg (show ¬ (false = true) by decide)] at H; exact H
    clear H
    have H := H1
    clear H1
    have H' := am H
    clear H
    have hnb51 := NB371_337.out
    have hnc51 := NB337_371.out
    have hnb52 := NB371_354.out
    have hnc52 := NB354_371.out
    have hnb53 := NB371_362.out
    have hnc53 := NB362_371.out
    obtain ⟨hcz54_0, hcz54_1, hcz54_2, hfz54_0, hfz54_1, hfz54_2⟩ := xT3 (W := w34) BK371.out
    have hnb55 := NB354_337.out
    have hnc55 := NB337_354.out
    have hnb56 := NB354_362.out
    have hnc56 := NB362_354.out
    obtain ⟨hcz57_0, hcz57_1, hcz57_2, hfz57_0, hfz57_1, hfz57_2⟩ := xT3 (W := w34) BK354.out
    go_wp2_with (first | ((with_reducible refine gate_callee (f := 27) rfl ?_); refine xG (some 34) 27 Try.func27 #[.agg #[.slice Ao35 t363.length co35, .slice Ao40 t366.length co40, .int .i64 t369], .agg #[.slice Ao21 t346.length co21, .slice Ao24 t349.length co24, .int .i64 t352]] (h := ?_); (with_reducible refine (laws_eqTable.calls k _ _ t363 _ _ t366 t369 _ _ t346 _ _ t349 t352 false _ ?side1 ?side2 ?side3 ?side4 ?side5 ?side6 ?side7 ?side8 A41.out).mono ?_); (case side1 => exact xD HO365.out); (case side2 => exact (rr HO365.out).2.1); (case side3 => exact xD HO368.out); (case side4 => exact (rr HO368.out).2.1); (case side5 => exact xD HO348.out); (case side6 => exact (rr HO348.out).2.1); (case side7 => exact xD HO351.out); (case side8 => exact (rr HO351.out).2.1); rintro e w58 ⟨rfl, hb⟩; refine ⟨_, rfl, ?_⟩; have n0_ := am (rb (xR HO341.out) hb); have n1_ := am (rb (xR HO344.out) hb); have n2_ := am (rb (xR HO348.out) hb); have n3_ := am (rb (xR HO351.out) hb); have n4_ := am (rb (xR HO357.out) hb); have n5_ := am (rb (xR HO360.out) hb); have n6_ := am (rb (xR HO365.out) hb); have n7_ := am (rb (xR HO368.out) hb); have n8_ := am (bb (xB BK337.out) hb); have n9_ := am (bb (xB BK354.out) hb); have n10_ := am (bb (xB BK362.out) hb); have n11_ := am (bb (xP BK371.out) hb); have n12_ := am (bs (xW HB.out) hb); clear HO341; clear HO344; clear HO348; clear HO351; clear HO357; clear HO360; clear HO365; clear HO368; clear BK337; clear BK354; clear BK362; clear BK371; clear HB; have HO341 := n0_; have HO344 := n1_; have HO348 := n2_; have HO351 := n3_; have HO357 := n4_; have HO360 := n5_; have HO365 := n6_; have HO368 := n7_; have BK337 := n8_; have BK354 := n9_; have BK362 := n10_; have BK371 := n11_; have HB := n12_; clear n0_ n1_ n2_ n3_ n4_ n5_ n6_ n7_ n8_ n9_ n10_ n11_ n12_; (try clear hb); (try clear hb2); (try clear hk); (try clear hi)))
    go_meet
    case rel => exact ⟨_, (true), (xQ), H', ⟨by first | omega | exact Nat.le_refl _⟩, ⟨Kd.R_mono (xR HO348.out) xI⟩, ⟨Kd.R_mono (xR HO351.out) xI⟩, ⟨Kd.R_mono (xR HO357.out) xI⟩, ⟨Kd.R_mono (xR HO360.out) xI⟩, ⟨Kd.R_mono (xR HO365.out) xI⟩, ⟨Kd.R_mono (xR HO368.out) xI⟩, ⟨xB BK337.out⟩, ⟨xB BK354.out⟩, ⟨xB BK362.out⟩, ⟨xB BK371.out⟩, ⟨xW HB.out⟩⟩
  case rest =>
   clear HC11
   try clear c1
   try clear c2
   try clear p2
   try clear c3
   try clear c3b0
   try clear c4
   try clear c5
   try clear c12
   try clear c22
   try clear c24
   try clear c26
   try clear c27
   try clear c29
   try clear c30
   try clear c36
   try clear c37
   try clear c38
   try clear c42
   try clear c43
   try clear c44
   try clear c45
   try clear c47
   try clear c48
   try clear c51
   try clear c52
   try clear c53
   try clear c55
   try clear c56
   try clear hcz13_0
   try clear hcz13_1
   try clear hcz13_2
   try clear hcz15_0
   try clear hcz15_1
   try clear hcz15_2
   try clear hcz23_0
   try clear hcz23_1
   try clear hcz23_2
   try clear hcz25_0
   try clear hcz25_1
   try clear hcz25_2
   try clear hcz31_0
   try clear hcz31_1
   try clear hcz31_2
   try clear hcz39_0
   try clear hcz39_1
   try clear hcz39_2
   try clear hcz46_0
   try clear hcz46_1
   try clear hcz46_2
   try clear hcz49_0
   try clear hcz49_1
   try clear hcz49_2
   try clear hcz54_0
   try clear hcz54_1
   try clear hcz54_2
   try clear hcz57_0
   try clear hcz57_1
   try clear hcz57_2
   try clear hcz5_0
   try clear hcz5_1
   try clear hcz5_2
   try clear hfz13_0
   try clear hfz13_1
   try clear hfz13_2
   try clear hfz15_0
   try clear hfz15_1
   try clear hfz15_2
   try clear hfz23_0
   try clear hfz23_1
   try clear hfz23_2
   try clear hfz25_0
   try clear hfz25_1
   try clear hfz25_2
   try clear hfz31_0
   try clear hfz31_1
   try clear hfz31_2
   try clear hfz39_0
   try clear hfz39_1
   try clear hfz39_2
   try clear hfz46_0
   try clear hfz46_1
   try clear hfz46_2
   try clear hfz49_0
   try clear hfz49_1
   try clear hfz49_2
   try clear hfz54_0
   try clear hfz54_1
   try clear hfz54_2
   try clear hfz57_0
   try clear hfz57_1
   try clear hfz57_2
   try clear hfz5_0
   try clear hfz5_1
   try clear hfz5_2
   obtain ⟨kq, x40_10, rfl, HA, HJ10, HO_355000, HO_355001, HO_363000, HO_363001, HO_372000, HO_372001, BK337, BK354, BK362, BK371, HB⟩ := hcut
   cases kq with
   | zero => exact absurd HA.out (by simp [laws_FnExactCleanTable.j0])
   | succ kj10 =>
    have H := HA.out
    clear HA
    simp only [laws_FnExactCleanTable.j0] at H
    by_cases c59 : x40_10 = true
    ·subst c59
     have H1 : (some false) = some r := by rw [if_pos rfl] at H; exact H
     clear H
     have H := H1
     clear H1
     obtain rfl := Option.some.inj H
     go_wp2
     go_ret
     exact ⟨xV, xW HB.out⟩
    ·replace c59 := Bool.eq_false_iff.mpr c59
     subst c59
     have H1 : ((laws_toTable.f kj10 l0_0 l0_1 a0_2).bind fun bt373 => ((laws_eqTable.f kj10 t355 t358 t361 bt373.1 bt373.2.1 bt373.2.2).bind fun t380 => (if t380 = true then ((laws_markTable.f kj10 t355 t358 t361 1).bind fun bt381 => (if bt381.1 < 0 then (laws_FnExactCleanTable.j1 kj10 t353 true l0_0 l0_1 a0_2 t346 t349 t352 t363 t366 t369) else ((laws_eqTable.f kj10 t363 t366 t369 t346 t349 t352).bind fun t384 => (if t384 = true then (laws_FnExactCleanTable.j1 kj10 t353 (t370 != t353) l0_0 l0_1 a0_2 t346 t349 t352 t363 t366 t369) else (laws_FnExactCleanTable.j1 kj10 t353 true l0_0 l0_1 a0_2 t346 t349 t352 t363 t366 t369))))) else (some false)))) = some r := by rw [if_neg (show ¬ (false = true) by decide)] at H; exact H
     clear H
     have H := H1
     clear H1
     replace H := Option.bind_eq_some_iff.mp H
     obtain ⟨⟨t373, t376, t379⟩, A600, H⟩ := H
     replace H : ((laws_eqTable.f kj10 t355 t358 t361 t373 t376 t379).bind fun t380 => (if t380 = true then ((laws_markTable.f kj10 t355 t358 t361 1).bind fun bt381 => (if bt381.1 < 0 then (laws_FnExactCleanTable.j1 kj10 t353 true l0_0 l0_1 a0_2 t346 t349 t352 t363 t366 t369) else ((laws_eqTable.f kj10 t363 t366 t369 t346 t349 t352).bind fun t384 => (if t384 = true then (laws_FnExactCleanTable.j1 kj10 t353 (t370 != t353) l0_0 l0_1 a0_2 t346 t349 t352 t363 t366 t369) else (laws_FnExactCleanTable.j1 kj10 t353 true l0_0 l0_1 a0_2 t346 t349 t352 t363 t366 t369))))) else (some false))) = some r := H
     have A60 := am A600
     clear A600
     replace H := Option.bind_eq_some_iff.mp H
     obtain ⟨t380, A610, H⟩ := H
     replace H : (if t380 = true then ((laws_markTable.f kj10 t355 t358 t361 1).bind fun bt381 => (if bt381.1 < 0 then (laws_FnExactCleanTable.j1 kj10 t353 true l0_0 l0_1 a0_2 t346 t349 t352 t363 t366 t369) else ((laws_eqTable.f kj10 t363 t366 t369 t346 t349 t352).bind fun t384 => (if t384 = true then (laws_FnExactCleanTable.j1 kj10 t353 (t370 != t353) l0_0 l0_1 a0_2 t346 t349 t352 t363 t366 t369) else (laws_FnExactCleanTable.j1 kj10 t353 true l0_0 l0_1 a0_2 t346 t349 t352 t363 t366 t369))))) else (some false)) = some r := H
     have A61 := am A610
     clear A610
     by_cases c62 : t380 = true
     ·subst c62
      have H1 : ((laws_markTable.f kj10 t355 t358 t361 1).bind fun bt381 => (if bt381.1 < 0 then (laws_FnExactCleanTable.j1 kj10 t353 true l0_0 l0_1 a0_2 t346 t349 t352 t363 t366 t369) else ((laws_eqTable.f kj10 t363 t366 t369 t346 t349 t352).bind fun t384 => (if t384 = true then (laws_FnExactCleanTable.j1 kj10 t353 (t370 != t353) l0_0 l0_1 a0_2 t346 t349 t352 t363 t366 t369) else (laws_FnExactCleanTable.j1 kj10 t353 true l0_0 l0_1 a0_2 t346 t349 t352 t363 t366 t369))))) = some r := by rw [if_pos rfl] at H; exact H
      clear H
      have H := H1
      clear H1
      replace H := Option.bind_eq_some_iff.mp H
      obtain ⟨⟨t381, t382, t383⟩, A630, H⟩ := H
      replace H : (if t381 < 0 then (laws_FnExactCleanTable.j1 kj10 t353 true l0_0 l0_1 a0_2 t346 t349 t352 t363 t366 t369) else ((laws_eqTable.f kj10 t363 t366 t369 t346 t349 t352).bind fun t384 => (if t384 = true then (laws_FnExactCleanTable.j1 kj10 t353 (t370 != t353) l0_0 l0_1 a0_2 t346 t349 t352 t363 t366 t369) else (laws_FnExactCleanTable.j1 kj10 t353 true l0_0 l0_1 a0_2 t346 t349 t352 t363 t366 t369)))) = some r := H
      have A63 := am A630
      clear A630
      have HC64 := am H
      clear H
      try go_wp2
      have n0_ := am (Kd.R_drew HO_355000.out)
      have n1_ := am (Kd.R_drew HO_355001.out)
      have n2_ := am (Kd.R_drew HO_363000.out)
      have n3_ := am (Kd.R_drew HO_363001.out)
      have n4_ := am (Kd.R_drew HO_372000.out)
      have n5_ := am (Kd.R_drew HO_372001.out)
      have n6_ := am (blk_drew BK337.out)
      have n7_ := am (blk_drew BK354.out)
      have n8_ := am (blk_drew BK362.out)
      have n9_ := am (blk_drew BK371.out)
      have n10_ := am (below_drew1 HB.out)
      clear HO_355000
      clear HO_355001
      clear HO_363000
      clear HO_363001
      clear HO_372000
      clear HO_372001
      clear BK337
      clear BK354
      clear BK362
      clear BK371
      clear HB
      have HO_355000 := n0_
      have HO_355001 := n1_
      have HO_363000 := n2_
      have HO_363001 := n3_
      have HO_372000 := n4_
      have HO_372001 := n5_
      have BK337 := n6_
      have BK354 := n7_
      have BK362 := n8_
      have BK371 := n9_
      have HB := n10_
      clear n0_ n1_ n2_ n3_ n4_ n5_ n6_ n7_ n8_ n9_ n10_
      refine start_ (n := 5) (S := fun w' => w'.cell? ⟨gb362, 0, none⟩ = some (.slice Ao28 t355.length co28) ∧ w'.cell? ⟨gb362, 1, none⟩ = some (.slice Ao32 t358.length co32) ∧ w'.cell? ⟨gb362, 2, none⟩ = some (.int .i64 t361) ∧ w'.cell? ⟨gb337, 0, none⟩ = some (.slice A0_0 l0_0.length c0_0) ∧ w'.cell? ⟨gb337, 1, none⟩ = some (.slice A0_1 l0_1.length c0_1) ∧ w'.cell? ⟨gb337, 2, none⟩ = some (.int .i64 a0_2)) (ds := []) #[false, false, false, false, false] (by kernel_rfl) rfl rfl ⟨(blk_cell BK362.out 0).trans rfl, (blk_cell BK362.out 1).trans rfl, (blk_cell BK362.out 2).trans rfl, (blk_cell BK337.out 0).trans rfl, (blk_cell BK337.out 1).trans rfl, (blk_cell BK337.out 2).trans rfl⟩ (fun hHeld => ?_)
      generalize wc.drew = w65 at HO_355000 HO_355001 HO_363000 HO_363001 HO_372000 HO_372001 BK337 BK354 BK362 BK371 HB hHeld ⊢
      refine take_ (i := 0) (N := some 41) (v := ?_) (a' := ?_) #[true, false, false, false, false] rfl rfl (by kernel_rfl) (fun _ _ _ h => h) (Or.inl ⟨by rfl, ?_⟩) hHeld ?_ ?_
      rotate_left
      ·rintro w' ⟨s0, s1, s2, s3, s4, s5⟩
       go_simp
       with_reducible rfl
      rotate_left
      ·simp only [Act.put, List.setIfInBounds_toArray, List.set_cons_zero, List.set_cons_succ, i64_w, i32_w]
       rfl
      refine take_ (i := 1) (N := some 42) (v := ?_) (a' := ?_) #[true, true, false, false, false] rfl rfl (by kernel_rfl) (fun _ _ _ h => h) (Or.inl ⟨by rfl, ?_⟩) hHeld ?_ ?_
      rotate_left
      ·rintro w' ⟨s0, s1, s2, s3, s4, s5⟩
       go_simp
       with_reducible rfl
      rotate_left
      ·simp only [Act.put, List.setIfInBounds_toArray, List.set_cons_zero, List.set_cons_succ, i64_w, i32_w]
       rfl
      refine one_ (i := 2) (N := some 43) #[true, true, true, false, false] rfl rfl (by kernel_rfl) (by decide) (fun K hK => ?_)
      refine goes_ Try.func26 (by kernel_rfl) rfl #[.agg #[.slice A0_0 l0_0.length c0_0, .slice A0_1 l0_1.length c0_1, .int .i64 a0_2]] (by rfl) rfl rfl (by (try simp only [List.map_toArray, List.map_cons, List.map_nil]); first | done | rfl | (simp only [List.length_drop, List.length_take]; rfl)) ?_
      with_reducible refine (laws_toTable.calls kj10 _ _ l0_0 _ _ l0_1 a0_2 t373 t376 t379 _ ?side1 ?side2 ?side3 ?side4 A60.out).mono ?_
      (case side1 => exact xC (Kd.C_below HR0_0.out HB.out))
      (case side2 => exact HC0_0.out)
      (case side3 => exact xC (Kd.C_below HR0_1.out HB.out))
      (case side4 => exact HC0_1.out)
      rintro e w66 ⟨v374, v377, rfl, ho0, ho1, hb⟩
      refine ⟨_, rfl, ?_⟩
      have n0_ := am (rm (ro (ro (rl (xR HO_355000.out) hb) (re ho0)) (re ho1)) (fun _ h_ => h_.1))
      have n1_ := am (rm (ro (ro (rl (xR HO_355001.out) hb) (re ho0)) (re ho1)) (fun _ h_ => h_.1))
      have n2_ := am (rm (ro (ro (rl (xR HO_363000.out) hb) (re ho0)) (re ho1)) (fun _ h_ => h_.1))
      have n3_ := am (rm (ro (ro (rl (xR HO_363001.out) hb) (re ho0)) (re ho1)) (fun _ h_ => h_.1))
      have n4_ := am (rm (ro (ro (rl (xR HO_372000.out) hb) (re ho0)) (re ho1)) (fun _ h_ => h_.1))
      have n5_ := am (rm (ro (ro (rl (xR HO_372001.out) hb) (re ho0)) (re ho1)) (fun _ h_ => h_.1))
      have n6_ := am (Kd.R_lower (Kd.R_new' (Kd.R_new' (Kd.R_new' (Kd.R_new' (Kd.R_new' (Kd.R_new' ho0 (Kd.R_lt (xR HO_355000.out))) (Kd.R_lt (xR HO_355001.out))) (Kd.R_lt (xR HO_363000.out))) (Kd.R_lt (xR HO_363001.out))) (Kd.R_lt (xR HO_372000.out))) (Kd.R_lt (xR HO_372001.out))) (below_size (xW HB.out)))
      have n7_ := am (Kd.R_lower (Kd.R_new' (Kd.R_new' (Kd.R_new' (Kd.R_new' (Kd.R_new' (Kd.R_new' ho1 (Kd.R_lt (xR HO_355000.out))) (Kd.R_lt (xR HO_355001.out))) (Kd.R_lt (xR HO_363000.out))) (Kd.R_lt (xR HO_363001.out))) (Kd.R_lt (xR HO_372000.out))) (Kd.R_lt (xR HO_372001.out))) (below_size (xW HB.out)))
      have n8_ := am (bb (xB BK337.out) hb)
      have n9_ := am (bb (xB BK354.out) hb)
      have n10_ := am (bb (xB BK362.out) hb)
      have n11_ := am (bb (xB BK371.out) hb)
      have n12_ := am (bs (xW HB.out) hb)
      clear HO_355000
      clear HO_355001
      clear HO_363000
      clear HO_363001
      clear HO_372000
      clear HO_372001
      clear BK337
      clear BK354
      clear BK362
      clear BK371
      clear HB
      have HO_355000 := n0_
      have HO_355001 := n1_
      have HO_363000 := n2_
      have HO_363001 := n3_
      have HO_372000 := n4_
      have HO_372001 := n5_
      have HO375 := n6_
      have HO378 := n7_
      have BK337 := n8_
      have BK354 := n9_
      have BK362 := n10_
      have BK371 := n11_
      have HB := n12_
      clear n0_ n1_ n2_ n3_ n4_ n5_ n6_ n7_ n8_ n9_ n10_ n11_ n12_
      (try clear hb)
      (try clear hb2)
      (try clear hk)
      (try clear hi)
      (try clear ho0)
      (try clear ho1)
      obtain ⟨Ao67, co67, eo67⟩ := Kd.R_slice HO375.out
      (first | subst eo67 | (injection eo67 with f1_ f2_ f3_; have f4_ := f1_.symm; have f5_ := f3_.symm; clear f1_ f2_ f3_; subst f4_; subst f5_))
      obtain ⟨Ao68, co68, eo68⟩ := Kd.R_slice HO378.out
      (first | subst eo68 | (injection eo68 with f1_ f2_ f3_; have f4_ := f1_.symm; have f5_ := f3_.symm; clear f1_ f2_ f3_; subst f4_; subst f5_))
      refine hK.out _ _ ⟨(blk_cell BK362.out 0).trans rfl, (blk_cell BK362.out 1).trans rfl, (blk_cell BK362.out 2).trans rfl, (blk_cell BK337.out 0).trans rfl, (blk_cell BK337.out 1).trans rfl, (blk_cell BK337.out 2).trans rfl⟩ (fun hHeld => ?_)
      clear hK K
      refine norm_ (a' := ?_) ?_ ?_
      rotate_left
      ·show Act.put _ (some 43) _ = _
       simp only [Act.put, List.setIfInBounds_toArray, List.set_cons_zero, List.set_cons_succ, i64_w, i32_w]
       rfl
      refine one_ (i := 3) (N := some 44) #[true, true, true, true, false] rfl rfl (by kernel_rfl) (by decide) (fun K hK => ?_)
      refine goes_ Try.func27 (by kernel_rfl) rfl #[.agg #[.slice Ao28 t355.length co28, .slice Ao32 t358.length co32, .int .i64 t361], .agg #[.slice Ao67 t373.length co67, .slice Ao68 t376.length co68, .int .i64 t379]] (by rfl) rfl rfl (by (try simp only [List.map_toArray, List.map_cons, List.map_nil]); first | done | rfl | (simp only [List.length_drop, List.length_take]; rfl)) ?_
      with_reducible refine (laws_eqTable.calls kj10 _ _ t355 _ _ t358 t361 _ _ t373 _ _ t376 t379 true _ ?side1 ?side2 ?side3 ?side4 ?side5 ?side6 ?side7 ?side8 A61.out).mono ?_
      (case side1 => exact xC ((rr HO_363000.out).2.2))
      (case side2 => exact (rr HO_363000.out).2.1)
      (case side3 => exact xC ((rr HO_363001.out).2.2))
      (case side4 => exact (rr HO_363001.out).2.1)
      (case side5 => exact xC ((rr HO375.out).2.2))
      (case side6 => exact (rr HO375.out).2.1)
      (case side7 => exact xC ((rr HO378.out).2.2))
      (case side8 => exact (rr HO378.out).2.1)
      rintro e w69 ⟨rfl, hb⟩
      refine ⟨_, rfl, ?_⟩
      have n0_ := am (rb (xR HO_355000.out) hb)
      have n1_ := am (rb (xR HO_355001.out) hb)
      have n2_ := am (rb (xR HO_363000.out) hb)
      have n3_ := am (rb (xR HO_363001.out) hb)
      have n4_ := am (rb (xR HO_372000.out) hb)
      have n5_ := am (rb (xR HO_372001.out) hb)
      have n6_ := am (rb (xR HO375.out) hb)
      have n7_ := am (rb (xR HO378.out) hb)
      have n8_ := am (bb (xB BK337.out) hb)
      have n9_ := am (bb (xB BK354.out) hb)
      have n10_ := am (bb (xB BK362.out) hb)
      have n11_ := am (bb (xB BK371.out) hb)
      have n12_ := am (bs (xW HB.out) hb)
      clear HO_355000
      clear HO_355001
      clear HO_363000
      clear HO_363001
      clear HO_372000
      clear HO_372001
      clear HO375
      clear HO378
      clear BK337
      clear BK354
      clear BK362
      clear BK371
      clear HB
      have HO_355000 := n0_
      have HO_355001 := n1_
      have HO_363000 := n2_
      have HO_363001 := n3_
      have HO_372000 := n4_
      have HO_372001 := n5_
      have HO375 := n6_
      have HO378 := n7_
      have BK337 := n8_
      have BK354 := n9_
      have BK362 := n10_
      have BK371 := n11_
      have HB := n12_
      clear n0_ n1_ n2_ n3_ n4_ n5_ n6_ n7_ n8_ n9_ n10_ n11_ n12_
      (try clear hb)
      (try clear hb2)
      (try clear hk)
      (try clear hi)
      refine hK.out _ _ ⟨(blk_cell BK362.out 0).trans rfl, (blk_cell BK362.out 1).trans rfl, (blk_cell BK362.out 2).trans rfl, (blk_cell BK337.out 0).trans rfl, (blk_cell BK337.out 1).trans rfl, (blk_cell BK337.out 2).trans rfl⟩ (fun hHeld => ?_)
      clear hK K
      refine norm_ (a' := ?_) ?_ ?_
      rotate_left
      ·show Act.put _ (some 44) _ = _
       simp only [Act.put, List.setIfInBounds_toArray, List.set_cons_zero, List.set_cons_succ, i64_w, i32_w]
       rfl
      refine pure_ (i := 4) (N := some 45) (v := ?_) (a' := ?_) #[true, true, true, true, true] rfl rfl (by kernel_rfl) (fun _ _ _ h => h) (Or.inl ⟨by rfl, ?_⟩) ?_ ?_
      rotate_left
      ·intro w'
       go_simp
       with_reducible rfl
      rotate_left
      ·simp only [Act.put, List.setIfInBounds_toArray, List.set_cons_zero, List.set_cons_succ, i64_w, i32_w]
       rfl
      refine done_ (by kernel_rfl) ?_
      have hnb70 := NB362_337.out
      have hnc70 := NB337_362.out
      have hnb71 := NB362_354.out
      have hnc71 := NB354_362.out
      have hnb72 := NB362_371.out
      have hnc72 := NB371_362.out
      obtain ⟨hcz73_0, hcz73_1, hcz73_2, hfz73_0, hfz73_1, hfz73_2⟩ := xT3 (W := w69) BK362.out
      go_upto_region 14 with (first | ((with_reducible refine gate_callee (f := 30) rfl ?_); refine xG (some 48) 30 Try.func30 #[.agg #[.slice Ao28 t355.length co28, .slice Ao32 t358.length co32, .int .i64 t361], .int .i64 1] (h := ?_); (with_reducible refine (laws_markTable.calls kj10 (fun k_ => some k_ = (.slice Ao28 t355.length co28 : Value).ownBlock) (.slice Ao28 t355.length co28) t355 (fun k_ => some k_ = (.slice Ao32 t358.length co32 : Value).ownBlock) (.slice Ao32 t358.length co32) t358 t361 1 t381 t382 t383 w _ ?side1 ?side2 ?side3 ?side4 ?side5 A63.out).mono ?_); (case side1 => repeat (first | (with_reducible first | exact HB.out | apply wa | apply wn | apply wd | refine ws ?_ GE337.out | refine ws ?_ GE354.out | refine ws ?_ GE362.out | refine ws ?_ GE371.out) | exact HB.out)); (case side2 => exact Kd.R_tight rfl HO_363000.out); (case side3 => first | exact fun k_ e_ => (HO_363000.out.1 k_ e_.symm).1.1.2.2.1 | exact fun k_ e_ hs_ => by have hh_ := HO_363000.out.1 k_ e_.symm; revert hh_; simp [hs_]); (case side4 => exact Kd.R_tight rfl HO_363001.out); (case side5 => first | exact fun k_ e_ => (HO_363001.out.1 k_ e_.symm).1.1.2.2.1 | exact fun k_ e_ hs_ => by have hh_ := HO_363001.out.1 k_ e_.symm; revert hh_; simp [hs_]); rintro e w74 ⟨rfl, hy0, hy1, hb, hkp⟩; refine ⟨_, rfl, ?_⟩; have n0_ := am (rm (ok' := fun k_ => some k_ ≠ (.slice Ao24 t349.length co24 : Value).ownBlock ∧ some k_ ≠ (.slice Ao28 t355.length co28 : Value).ownBlock ∧ some k_ ≠ (.slice Ao32 t358.length co32 : Value).ownBlock ∧ some k_ ≠ (.slice Ao35 t363.length co35 : Value).ownBlock ∧ some k_ ≠ (.slice Ao40 t366.length co40 : Value).ownBlock ∧ some k_ ≠ (.slice Ao67 t373.length co67 : Value).ownBlock ∧ some k_ ≠ (.slice Ao68 t376.length co68 : Value).ownBlock) (rk (HO_355000.out) hkp (fun k_ hk_ hs_ => by rcases hs_ with e_ | e_ <;> (revert hk_; simp [e_]))) (fun k_ hk_ => by simp [hk_])); have n1_ := am (rm (ok' := fun k_ => some k_ ≠ (.slice Ao21 t346.length co21 : Value).ownBlock ∧ some k_ ≠ (.slice Ao28 t355.length co28 : Value).ownBlock ∧ some k_ ≠ (.slice Ao32 t358.length co32 : Value).ownBlock ∧ some k_ ≠ (.slice Ao35 t363.length co35 : Value).ownBlock ∧ some k_ ≠ (.slice Ao40 t366.length co40 : Value).ownBlock ∧ some k_ ≠ (.slice Ao67 t373.length co67 : Value).ownBlock ∧ some k_ ≠ (.slice Ao68 t376.length co68 : Value).ownBlock) (rk (HO_355001.out) hkp (fun k_ hk_ hs_ => by rcases hs_ with e_ | e_ <;> (revert hk_; simp [e_]))) (fun k_ hk_ => by simp [hk_])); have n2_ := am (Kd.R_reok rfl hy0 (fun k_ e_ => HO_363000.out.1 k_ e_)); have n3_ := am (Kd.R_reok rfl hy1 (fun k_ e_ => HO_363001.out.1 k_ e_)); have n4_ := am (rm (ok' := fun k_ => some k_ ≠ (.slice Ao21 t346.length co21 : Value).ownBlock ∧ some k_ ≠ (.slice Ao24 t349.length co24 : Value).ownBlock ∧ some k_ ≠ (.slice Ao28 t355.length co28 : Value).ownBlock ∧ some k_ ≠ (.slice Ao32 t358.length co32 : Value).ownBlock ∧ some k_ ≠ (.slice Ao40 t366.length co40 : Value).ownBlock ∧ some k_ ≠ (.slice Ao67 t373.length co67 : Value).ownBlock ∧ some k_ ≠ (.slice Ao68 t376.length co68 : Value).ownBlock) (rk (HO_372000.out) hkp (fun k_ hk_ hs_ => by rcases hs_ with e_ | e_ <;> (revert hk_; simp [e_]))) (fun k_ hk_ => by simp [hk_])); have n5_ := am (rm (ok' := fun k_ => some k_ ≠ (.slice Ao21 t346.length co21 : Value).ownBlock ∧ some k_ ≠ (.slice Ao24 t349.length co24 : Value).ownBlock ∧ some k_ ≠ (.slice Ao28 t355.length co28 : Value).ownBlock ∧ some k_ ≠ (.slice Ao32 t358.length co32 : Value).ownBlock ∧ some k_ ≠ (.slice Ao35 t363.length co35 : Value).ownBlock ∧ some k_ ≠ (.slice Ao67 t373.length co67 : Value).ownBlock ∧ some k_ ≠ (.slice Ao68 t376.length co68 : Value).ownBlock) (rk (HO_372001.out) hkp (fun k_ hk_ hs_ => by rcases hs_ with e_ | e_ <;> (revert hk_; simp [e_]))) (fun k_ hk_ => by simp [hk_])); have n6_ := am (bk (xB BK337.out) hkp (fun hs_ => Or.elim hs_ (fun e_ => (fun e_ => (Kd.R_ne HO_363000.out BK337.out (by decide)) e_) e_) (fun e_ => (fun e_ => (Kd.R_ne HO_363001.out BK337.out (by decide)) e_) e_))); have n7_ := am (bk (xB BK354.out) hkp (fun hs_ => Or.elim hs_ (fun e_ => (fun e_ => (Kd.R_ne HO_363000.out BK354.out (by decide)) e_) e_) (fun e_ => (fun e_ => (Kd.R_ne HO_363001.out BK354.out (by decide)) e_) e_))); have n8_ := am (bk (xB BK362.out) hkp (fun hs_ => Or.elim hs_ (fun e_ => (fun e_ => (Kd.R_ne HO_363000.out BK362.out (by decide)) e_) e_) (fun e_ => (fun e_ => (Kd.R_ne HO_363001.out BK362.out (by decide)) e_) e_))); have n9_ := am (bk (xB BK371.out) hkp (fun hs_ => Or.elim hs_ (fun e_ => (fun e_ => (Kd.R_ne HO_363000.out BK371.out (by decide)) e_) e_) (fun e_ => (fun e_ => (Kd.R_ne HO_363001.out BK371.out (by decide)) e_) e_))); have n10_ := am (rm (ok' := fun k_ => some k_ ≠ (.slice Ao21 t346.length co21 : Value).ownBlock ∧ some k_ ≠ (.slice Ao24 t349.length co24 : Value).ownBlock ∧ some k_ ≠ (.slice Ao28 t355.length co28 : Value).ownBlock ∧ some k_ ≠ (.slice Ao32 t358.length co32 : Value).ownBlock ∧ some k_ ≠ (.slice Ao35 t363.length co35 : Value).ownBlock ∧ some k_ ≠ (.slice Ao40 t366.length co40 : Value).ownBlock ∧ some k_ ≠ (.slice Ao68 t376.length co68 : Value).ownBlock) (rk (HO375.out) hkp (fun k_ hk_ hs_ => by rcases hs_ with e_ | e_ <;> (revert hk_; simp [e_]))) (fun k_ hk_ => by simp [hk_])); have n11_ := am (rm (ok' := fun k_ => some k_ ≠ (.slice Ao21 t346.length co21 : Value).ownBlock ∧ some k_ ≠ (.slice Ao24 t349.length co24 : Value).ownBlock ∧ some k_ ≠ (.slice Ao28 t355.length co28 : Value).ownBlock ∧ some k_ ≠ (.slice Ao32 t358.length co32 : Value).ownBlock ∧ some k_ ≠ (.slice Ao35 t363.length co35 : Value).ownBlock ∧ some k_ ≠ (.slice Ao40 t366.length co40 : Value).ownBlock ∧ some k_ ≠ (.slice Ao67 t373.length co67 : Value).ownBlock) (rk (HO378.out) hkp (fun k_ hk_ hs_ => by rcases hs_ with e_ | e_ <;> (revert hk_; simp [e_]))) (fun k_ hk_ => by simp [hk_])); have n12_ := am (hb); clear HO_355000; clear HO_355001; clear HO_363000; clear HO_363001; clear HO_372000; clear HO_372001; clear BK337; clear BK354; clear BK362; clear BK371; clear HO375; clear HO378; clear HB; have HO_355000 := n0_; have HO_355001 := n1_; have HO_363000 := n2_; have HO_363001 := n3_; have HO_372000 := n4_; have HO_372001 := n5_; have BK337 := n6_; have BK354 := n7_; have BK362 := n8_; have BK371 := n9_; have HO375 := n10_; have HO378 := n11_; have HB := n12_; clear n0_ n1_ n2_ n3_ n4_ n5_ n6_ n7_ n8_ n9_ n10_ n11_ n12_; (try clear hb); (try clear hkp); (try clear hy0); (try clear hy1)))
      (try simp only [Act.put, List.setIfInBounds_toArray, List.set_cons_zero, List.set_cons_succ])
      go_cut [61] (fun v61 wc => ∃ (kq : Nat) (x61_63 : Bool), v61 = .bool x61_63 ∧ Aside0 (laws_FnExactCleanTable.j1 kq t353 x61_63 l0_0 l0_1 a0_2 t346 t349 t352 t363 t366 t369 = some r) ∧ Aside0 (kq ≤ kj10) ∧ Aside0 (Kd.R k57 57 wc w.heap.size (fun k_ => some k_ ≠ ((.slice Ao24 t349.length co24) : Value).ownBlock ∧ some k_ ≠ ((.slice Ao28 t355.length co28) : Value).ownBlock ∧ some k_ ≠ ((.slice Ao32 t358.length co32) : Value).ownBlock ∧ some k_ ≠ ((.slice Ao35 t363.length co35) : Value).ownBlock ∧ some k_ ≠ ((.slice Ao40 t366.length co40) : Value).ownBlock) (.slice Ao21 t346.length co21) t346) ∧ Aside0 (Kd.R k57 57 wc w.heap.size (fun k_ => some k_ ≠ ((.slice Ao21 t346.length co21) : Value).ownBlock ∧ some k_ ≠ ((.slice Ao28 t355.length co28) : Value).ownBlock ∧ some k_ ≠ ((.slice Ao32 t358.length co32) : Value).ownBlock ∧ some k_ ≠ ((.slice Ao35 t363.length co35) : Value).ownBlock ∧ some k_ ≠ ((.slice Ao40 t366.length co40) : Value).ownBlock) (.slice Ao24 t349.length co24) t349) ∧ Aside0 (Kd.R k57 57 wc w.heap.size (fun k_ => some k_ ≠ ((.slice Ao21 t346.length co21) : Value).ownBlock ∧ some k_ ≠ ((.slice Ao24 t349.length co24) : Value).ownBlock ∧ some k_ ≠ ((.slice Ao32 t358.length co32) : Value).ownBlock ∧ some k_ ≠ ((.slice Ao35 t363.length co35) : Value).ownBlock ∧ some k_ ≠ ((.slice Ao40 t366.length co40) : Value).ownBlock) (.slice Ao28 t355.length co28) t382) ∧ Aside0 (Kd.R k57 57 wc w.heap.size (fun k_ => some k_ ≠ ((.slice Ao21 t346.length co21) : Value).ownBlock ∧ some k_ ≠ ((.slice Ao24 t349.length co24) : Value).ownBlock ∧ some k_ ≠ ((.slice Ao28 t355.length co28) : Value).ownBlock ∧ some k_ ≠ ((.slice Ao35 t363.length co35) : Value).ownBlock ∧ some k_ ≠ ((.slice Ao40 t366.length co40) : Value).ownBlock) (.slice Ao32 t358.length co32) t383) ∧ Aside0 (Kd.R k57 57 wc w.heap.size (fun k_ => some k_ ≠ ((.slice Ao21 t346.length co21) : Value).ownBlock ∧ some k_ ≠ ((.slice Ao24 t349.length co24) : Value).ownBlock ∧ some k_ ≠ ((.slice Ao28 t355.length co28) : Value).ownBlock ∧ some k_ ≠ ((.slice Ao32 t358.length co32) : Value).ownBlock ∧ some k_ ≠ ((.slice Ao40 t366.length co40) : Value).ownBlock) (.slice Ao35 t363.length co35) t363) ∧ Aside0 (Kd.R k57 57 wc w.heap.size (fun k_ => some k_ ≠ ((.slice Ao21 t346.length co21) : Value).ownBlock ∧ some k_ ≠ ((.slice Ao24 t349.length co24) : Value).ownBlock ∧ some k_ ≠ ((.slice Ao28 t355.length co28) : Value).ownBlock ∧ some k_ ≠ ((.slice Ao32 t358.length co32) : Value).ownBlock ∧ some k_ ≠ ((.slice Ao35 t363.length co35) : Value).ownBlock) (.slice Ao40 t366.length co40) t366) ∧ Aside0 (wc.heap[gb337]? = some (.cells #[(.slice A0_0 l0_0.length c0_0), (.slice A0_1 l0_1.length c0_1), .int .i64 a0_2] 42 (0, 0))) ∧ Aside0 (wc.heap[gb354]? = some (.cells #[(.slice Ao21 t346.length co21), (.slice Ao24 t349.length co24), .int .i64 t352] 26 (0, 0))) ∧ Aside0 (wc.heap[gb362]? = some (.cells #[(.slice Ao28 t355.length co28), (.slice Ao32 t358.length co32), .int .i64 t361] 26 (0, 0))) ∧ Aside0 (wc.heap[gb371]? = some (.cells #[(.slice Ao35 t363.length co35), (.slice Ao40 t366.length co40), .int .i64 t369] 26 (0, 0))) ∧ Aside0 (Below w.heap.size w wc))
      case first =>
       have H := HC64.out
       clear HC64
       by_cases c75 : t381 < 0
       ·rw [if_pos c75] at H
        have c75b0 : decide (t381 < 0) = true := decide_eq_true c75
        clear c75
        (first | rw [c75b0] | (simp only [i64_w, i32_w]; rw [c75b0]) | skip)
        have H' := am H
        clear H
        go_wp2
        go_meet
        case rel => exact ⟨_, (true), (xQ), H', ⟨by have := HJ10.out; first | omega | exact Nat.le_refl _⟩, ⟨Kd.R_mono (xR HO_355000.out) xI⟩, ⟨Kd.R_mono (xR HO_355001.out) xI⟩, ⟨Kd.R_mono (xR HO_363000.out) xI⟩, ⟨Kd.R_mono (xR HO_363001.out) xI⟩, ⟨Kd.R_mono (xR HO_372000.out) xI⟩, ⟨Kd.R_mono (xR HO_372001.out) xI⟩, ⟨xB BK337.out⟩, ⟨xB BK354.out⟩, ⟨xB BK362.out⟩, ⟨xB BK371.out⟩, ⟨xW HB.out⟩⟩
       ·rw [if_neg c75] at H
        have c75b0 : decide (t381 < 0) = false := decide_eq_false c75
        clear c75
        (first | rw [c75b0] | (simp only [i64_w, i32_w]; rw [c75b0]) | skip)
        replace H := Option.bind_eq_some_iff.mp H
        obtain ⟨t384, A760, H⟩ := H
        replace H : (if t384 = true then (laws_FnExactCleanTable.j1 kj10 t353 (t370 != t353) l0_0 l0_1 a0_2 t346 t349 t352 t363 t366 t369) else (laws_FnExactCleanTable.j1 kj10 t353 true l0_0 l0_1 a0_2 t346 t349 t352 t363 t366 t369)) = some r := H
        have A76 := am A760
        clear A760
        by_cases c77 : t384 = true
        ·subst c77
         have H1 : (laws_FnExactCleanTable.j1 kj10 t353 (t370 != t353) l0_0 l0_1 a0_2 t346 t349 t352 t363 t366 t369) = some r := by rw [if_pos rfl] at H; exact H
         clear H
         have H := H1
         clear H1
         have H' := am H
         clear H
         have hnb78 := NB371_337.out
         have hnc78 := NB337_371.out
         have hnb79 := NB371_354.out
         have hnc79 := NB354_371.out
         have hnb80 := NB371_362.out
         have hnc80 := NB362_371.out
         obtain ⟨hcz81_0, hcz81_1, hcz81_2, hfz81_0, hfz81_1, hfz81_2⟩ := xT3 (W := w74) BK371.out
         have hnb82 := NB354_337.out
         have hnc82 := NB337_354.out
         have hnb83 := NB354_362.out
         have hnc83 := NB362_354.out
         obtain ⟨hcz84_0, hcz84_1, hcz84_2, hfz84_0, hfz84_1, hfz84_2⟩ := xT3 (W := w74) BK354.out
         go_wp2_with (first | (go_at_call 27; (with_reducible refine (laws_eqTable.calls kj10 _ _ t363 _ _ t366 t369 _ _ t346 _ _ t349 t352 true _ ?side1 ?side2 ?side3 ?side4 ?side5 ?side6 ?side7 ?side8 A76.out).mono ?_); (case side1 => exact xC ((rr HO_372000.out).2.2)); (case side2 => exact (rr HO_372000.out).2.1); (case side3 => exact xC ((rr HO_372001.out).2.2)); (case side4 => exact (rr HO_372001.out).2.1); (case side5 => exact xC ((rr HO_355000.out).2.2)); (case side6 => exact (rr HO_355000.out).2.1); (case side7 => exact xC ((rr HO_355001.out).2.2)); (case side8 => exact (rr HO_355001.out).2.1); rintro e w85 ⟨rfl, hb⟩; have n0_ := am (rb (xR HO_355000.out) hb); have n1_ := am (rb (xR HO_355001.out) hb); have n2_ := am (rb (xR HO_363000.out) hb); have n3_ := am (rb (xR HO_363001.out) hb); have n4_ := am (rb (xR HO_372000.out) hb); have n5_ := am (rb (xR HO_372001.out) hb); have n6_ := am (rb (xR HO375.out) hb); have n7_ := am (rb (xR HO378.out) hb); have n8_ := am (bb (xB BK337.out) hb); have n9_ := am (bb (xB BK354.out) hb); have n10_ := am (bb (xB BK362.out) hb); have n11_ := am (bb (xB BK371.out) hb); have n12_ := am (bs (xW HB.out) hb); clear HO_355000; clear HO_355001; clear HO_363000; clear HO_363001; clear HO_372000; clear HO_372001; clear HO375; clear HO378; clear BK337; clear BK354; clear BK362; clear BK371; clear HB; have HO_355000 := n0_; have HO_355001 := n1_; have HO_363000 := n2_; have HO_363001 := n3_; have HO_372000 := n4_; have HO_372001 := n5_; have HO375 := n6_; have HO378 := n7_; have BK337 := n8_; have BK354 := n9_; have BK362 := n10_; have BK371 := n11_; have HB := n12_; clear n0_ n1_ n2_ n3_ n4_ n5_ n6_ n7_ n8_ n9_ n10_ n11_ n12_; (try clear hb); (try clear hb2); (try clear hk); (try clear hi)))
         go_meet
         case rel => exact ⟨_, ((t370 != t353)), (xQ), H', ⟨by have := HJ10.out; first | omega | exact Nat.le_refl _⟩, ⟨Kd.R_mono (xR HO_355000.out) xI⟩, ⟨Kd.R_mono (xR HO_355001.out) xI⟩, ⟨Kd.R_mono (xR HO_363000.out) xI⟩, ⟨Kd.R_mono (xR HO_363001.out) xI⟩, ⟨Kd.R_mono (xR HO_372000.out) xI⟩, ⟨Kd.R_mono (xR HO_372001.out) xI⟩, ⟨xB BK337.out⟩, ⟨xB BK354.out⟩, ⟨xB BK362.out⟩, ⟨xB BK371.out⟩, ⟨xW HB.out⟩⟩
        ·replace c77 := Bool.eq_false_iff.mpr c77
         subst c77
         have H1 : (laws_FnExactCleanTable.j1 kj10 t353 true l0_0 l0_1 a0_2 t346 t349 t352 t363 t366 t369) = some r := by rw [if_neg (show ¬ (false = true) by decide)] at H; exact H
         clear H
         have H := H1
         clear H1
         have H' := am H
         clear H
         have hnb86 := NB371_337.out
         have hnc86 := NB337_371.out
         have hnb87 := NB371_354.out
         have hnc87 := NB354_371.out
         have hnb88 := NB371_362.out
         have hnc88 := NB362_371.out
         obtain ⟨hcz89_0, hcz89_1, hcz89_2, hfz89_0, hfz89_1, hfz89_2⟩ := xT3 (W := w74) BK371.out
         have hnb90 := NB354_337.out
         have hnc90 := NB337_354.out
         have hnb91 := NB354_362.out
         have hnc91 := NB362_354.out
         obtain ⟨hcz92_0, hcz92_1, hcz92_2, hfz92_0, hfz92_1, hfz92_2⟩ := xT3 (W := w74) BK354.out
         go_wp2_with (first | (go_at_call 27; (with_reducible refine (laws_eqTable.calls kj10 _ _ t363 _ _ t366 t369 _ _ t346 _ _ t349 t352 false _ ?side1 ?side2 ?side3 ?side4 ?side5 ?side6 ?side7 ?side8 A76.out).mono ?_); (case side1 => exact xC ((rr HO_372000.out).2.2)); (case side2 => exact (rr HO_372000.out).2.1); (case side3 => exact xC ((rr HO_372001.out).2.2)); (case side4 => exact (rr HO_372001.out).2.1); (case side5 => exact xC ((rr HO_355000.out).2.2)); (case side6 => exact (rr HO_355000.out).2.1); (case side7 => exact xC ((rr HO_355001.out).2.2)); (case side8 => exact (rr HO_355001.out).2.1); rintro e w93 ⟨rfl, hb⟩; have n0_ := am (rb (xR HO_355000.out) hb); have n1_ := am (rb (xR HO_355001.out) hb); have n2_ := am (rb (xR HO_363000.out) hb); have n3_ := am (rb (xR HO_363001.out) hb); have n4_ := am (rb (xR HO_372000.out) hb); have n5_ := am (rb (xR HO_372001.out) hb); have n6_ := am (rb (xR HO375.out) hb); have n7_ := am (rb (xR HO378.out) hb); have n8_ := am (bb (xB BK337.out) hb); have n9_ := am (bb (xB BK354.out) hb); have n10_ := am (bb (xB BK362.out) hb); have n11_ := am (bb (xB BK371.out) hb); have n12_ := am (bs (xW HB.out) hb); clear HO_355000; clear HO_355001; clear HO_363000; clear HO_363001; clear HO_372000; clear HO_372001; clear HO375; clear HO378; clear BK337; clear BK354; clear BK362; clear BK371; clear HB; have HO_355000 := n0_; have HO_355001 := n1_; have HO_363000 := n2_; have HO_363001 := n3_; have HO_372000 := n4_; have HO_372001 := n5_; have HO375 := n6_; have HO378 := n7_; have BK337 := n8_; have BK354 := n9_; have BK362 := n10_; have BK371 := n11_; have HB := n12_; clear n0_ n1_ n2_ n3_ n4_ n5_ n6_ n7_ n8_ n9_ n10_ n11_ n12_; (try clear hb); (try clear hb2); (try clear hk); (try clear hi)))
         go_meet
         case rel => exact ⟨_, (true), (xQ), H', ⟨by have := HJ10.out; first | omega | exact Nat.le_refl _⟩, ⟨Kd.R_mono (xR HO_355000.out) xI⟩, ⟨Kd.R_mono (xR HO_355001.out) xI⟩, ⟨Kd.R_mono (xR HO_363000.out) xI⟩, ⟨Kd.R_mono (xR HO_363001.out) xI⟩, ⟨Kd.R_mono (xR HO_372000.out) xI⟩, ⟨Kd.R_mono (xR HO_372001.out) xI⟩, ⟨xB BK337.out⟩, ⟨xB BK354.out⟩, ⟨xB BK362.out⟩, ⟨xB BK371.out⟩, ⟨xW HB.out⟩⟩
      case rest =>
       clear HC64
       try clear c1
       try clear c2
       try clear p2
       try clear c3
       try clear c3b0
       try clear c4
       try clear c5
       try clear c6
       try clear c7
       try clear c8
       try clear c9
       try clear c12
       try clear c22
       try clear c24
       try clear c26
       try clear c27
       try clear c29
       try clear c30
       try clear c36
       try clear c37
       try clear c38
       try clear c42
       try clear c43
       try clear c44
       try clear c45
       try clear c47
       try clear c48
       try clear c51
       try clear c52
       try clear c53
       try clear c55
       try clear c56
       try clear c59
       try clear c62
       try clear c70
       try clear c71
       try clear c72
       try clear c75
       try clear c75b0
       try clear c77
       try clear c78
       try clear c79
       try clear c80
       try clear c82
       try clear c83
       try clear c86
       try clear c87
       try clear c88
       try clear c90
       try clear c91
       try clear hcz13_0
       try clear hcz13_1
       try clear hcz13_2
       try clear hcz15_0
       try clear hcz15_1
       try clear hcz15_2
       try clear hcz23_0
       try clear hcz23_1
       try clear hcz23_2
       try clear hcz25_0
       try clear hcz25_1
       try clear hcz25_2
       try clear hcz31_0
       try clear hcz31_1
       try clear hcz31_2
       try clear hcz39_0
       try clear hcz39_1
       try clear hcz39_2
       try clear hcz46_0
       try clear hcz46_1
       try clear hcz46_2
       try clear hcz49_0
       try clear hcz49_1
       try clear hcz49_2
       try clear hcz54_0
       try clear hcz54_1
       try clear hcz54_2
       try clear hcz57_0
       try clear hcz57_1
       try clear hcz57_2
       try clear hcz5_0
       try clear hcz5_1
       try clear hcz5_2
       try clear hcz73_0
       try clear hcz73_1
       try clear hcz73_2
       try clear hcz81_0
       try clear hcz81_1
       try clear hcz81_2
       try clear hcz84_0
       try clear hcz84_1
       try clear hcz84_2
       try clear hcz89_0
       try clear hcz89_1
       try clear hcz89_2
       try clear hcz92_0
       try clear hcz92_1
       try clear hcz92_2
       try clear hfz13_0
       try clear hfz13_1
       try clear hfz13_2
       try clear hfz15_0
       try clear hfz15_1
       try clear hfz15_2
       try clear hfz23_0
       try clear hfz23_1
       try clear hfz23_2
       try clear hfz25_0
       try clear hfz25_1
       try clear hfz25_2
       try clear hfz31_0
       try clear hfz31_1
       try clear hfz31_2
       try clear hfz39_0
       try clear hfz39_1
       try clear hfz39_2
       try clear hfz46_0
       try clear hfz46_1
       try clear hfz46_2
       try clear hfz49_0
       try clear hfz49_1
       try clear hfz49_2
       try clear hfz54_0
       try clear hfz54_1
       try clear hfz54_2
       try clear hfz57_0
       try clear hfz57_1
       try clear hfz57_2
       try clear hfz5_0
       try clear hfz5_1
       try clear hfz5_2
       try clear hfz73_0
       try clear hfz73_1
       try clear hfz73_2
       try clear hfz81_0
       try clear hfz81_1
       try clear hfz81_2
       try clear hfz84_0
       try clear hfz84_1
       try clear hfz84_2
       try clear hfz89_0
       try clear hfz89_1
       try clear hfz89_2
       try clear hfz92_0
       try clear hfz92_1
       try clear hfz92_2
       try clear p2
       obtain ⟨kq, x61_63, rfl, HA, HJ63, HO_355000, HO_355001, HO_363000, HO_363001, HO_372000, HO_372001, BK337, BK354, BK362, BK371, HB⟩ := hcut
       have hl363000_63 := (rr HO_363000.out).1
       rw [hl363000_63] at HO_363000
       (try simp only [hl363000_63])
       (try simp only [hl363000_63] at BK337)
       (try simp only [hl363000_63] at BK354)
       (try simp only [hl363000_63] at BK362)
       (try simp only [hl363000_63] at BK371)
       (try simp only [hl363000_63] at HO_355000)
       (try simp only [hl363000_63] at HO_355001)
       (try simp only [hl363000_63] at HO_363001)
       (try simp only [hl363000_63] at HO_372000)
       (try simp only [hl363000_63] at HO_372001)
       have hl363001_63 := (rr HO_363001.out).1
       rw [hl363001_63] at HO_363001
       (try simp only [hl363001_63])
       (try simp only [hl363001_63] at BK337)
       (try simp only [hl363001_63] at BK354)
       (try simp only [hl363001_63] at BK362)
       (try simp only [hl363001_63] at BK371)
       (try simp only [hl363001_63] at HO_355000)
       (try simp only [hl363001_63] at HO_355001)
       (try simp only [hl363001_63] at HO_363000)
       (try simp only [hl363001_63] at HO_372000)
       (try simp only [hl363001_63] at HO_372001)
       cases kq with
       | zero => exact absurd HA.out (by simp [laws_FnExactCleanTable.j1])
       | succ kj63 =>
        have H := HA.out
        clear HA
        simp only [laws_FnExactCleanTable.j1] at H
        by_cases c94 : x61_63 = true
        ·subst c94
         have H1 : (some false) = some r := by rw [if_pos rfl] at H; exact H
         clear H
         have H := H1
         clear H1
         obtain rfl := Option.some.inj H
         go_wp2
         go_ret
         exact ⟨xV, xW HB.out⟩
        ·replace c94 := Bool.eq_false_iff.mpr c94
         subst c94
         have H1 : ((laws_markTable.f kj63 t363 t366 t369 1).bind fun bt385 => ((laws_heldTable.f kj63 bt385.2.1 bt385.2.2 t369 1).bind fun t388 => (if t388 < 0 then (some false) else (if t388 = bt385.1 then ((laws_toTable.f kj63 l0_0 l0_1 a0_2).bind fun bt389 => ((impl_CleanTable.f kj63 bt389.1 bt389.2.1 bt389.2.2).bind fun bt396 => ((laws_eqTable.f kj63 bt396.1 bt396.2.1 bt396.2.2.1 t346 t349 t352).bind fun t405 => (if t405 = true then (laws_FnExactCleanTable.j2 kj63 bt385.1 (bt396.2.2.2 != t353) bt385.2.1 bt385.2.2 t369) else (laws_FnExactCleanTable.j2 kj63 bt385.1 true bt385.2.1 bt385.2.2 t369))))) else (some false))))) = some r := by rw [if_neg (show ¬ (false = true) by decide)] at H; exact H
         clear H
         have H := H1
         clear H1
         replace H := Option.bind_eq_some_iff.mp H
         obtain ⟨⟨t385, t386, t387⟩, A950, H⟩ := H
         replace H : ((laws_heldTable.f kj63 t386 t387 t369 1).bind fun t388 => (if t388 < 0 then (some false) else (if t388 = t385 then ((laws_toTable.f kj63 l0_0 l0_1 a0_2).bind fun bt389 => ((impl_CleanTable.f kj63 bt389.1 bt389.2.1 bt389.2.2).bind fun bt396 => ((laws_eqTable.f kj63 bt396.1 bt396.2.1 bt396.2.2.1 t346 t349 t352).bind fun t405 => (if t405 = true then (laws_FnExactCleanTable.j2 kj63 t385 (bt396.2.2.2 != t353) t386 t387 t369) else (laws_FnExactCleanTable.j2 kj63 t385 true t386 t387 t369))))) else (some false)))) = some r := H
         have A95 := am A950
         clear A950
         replace H := Option.bind_eq_some_iff.mp H
         obtain ⟨t388, A960, H⟩ := H
         replace H : (if t388 < 0 then (some false) else (if t388 = t385 then ((laws_toTable.f kj63 l0_0 l0_1 a0_2).bind fun bt389 => ((impl_CleanTable.f kj63 bt389.1 bt389.2.1 bt389.2.2).bind fun bt396 => ((laws_eqTable.f kj63 bt396.1 bt396.2.1 bt396.2.2.1 t346 t349 t352).bind fun t405 => (if t405 = true then (laws_FnExactCleanTable.j2 kj63 t385 (bt396.2.2.2 != t353) t386 t387 t369) else (laws_FnExactCleanTable.j2 kj63 t385 true t386 t387 t369))))) else (some false))) = some r := H
         have A96 := am A960
         clear A960
         by_cases c97 : t388 < 0
         ·rw [if_pos c97] at H
          have c97b0 : decide (t388 < 0) = true := decide_eq_true c97
          clear c97
          obtain rfl := Option.some.inj H
          have hnb98 := NB371_337.out
          have hnc98 := NB337_371.out
          have hnb99 := NB371_354.out
          have hnc99 := NB354_371.out
          have hnb100 := NB371_362.out
          have hnc100 := NB362_371.out
          obtain ⟨hcz101_0, hcz101_1, hcz101_2, hfz101_0, hfz101_1, hfz101_2⟩ := xT3 (W := wc) BK371.out
          go_wp2_with (first | ((with_reducible refine gate_callee (f := 30) rfl ?_); refine xG (some 64) 30 Try.func30 #[.agg #[.slice Ao35 t363.length co35, .slice Ao40 t366.length co40, .int .i64 t369], .int .i64 1] (h := ?_); (with_reducible refine (laws_markTable.calls kj63 (fun k_ => some k_ = (.slice Ao35 t363.length co35 : Value).ownBlock) (.slice Ao35 t363.length co35) t363 (fun k_ => some k_ = (.slice Ao40 t366.length co40 : Value).ownBlock) (.slice Ao40 t366.length co40) t366 t369 1 t385 t386 t387 w _ ?side1 ?side2 ?side3 ?side4 ?side5 A95.out).mono ?_); (case side1 => repeat (first | (with_reducible first | exact HB.out | apply wa | apply wn | apply wd | refine ws ?_ GE337.out | refine ws ?_ GE354.out | refine ws ?_ GE362.out | refine ws ?_ GE371.out) | exact HB.out)); (case side2 => exact Kd.R_tight rfl HO_372000.out); (case side3 => first | exact fun k_ e_ => (HO_372000.out.1 k_ e_.symm).2.2.2.2 | exact fun k_ e_ hs_ => by have hh_ := HO_372000.out.1 k_ e_.symm; revert hh_; simp [hs_]); (case side4 => exact Kd.R_tight rfl HO_372001.out); (case side5 => first | exact fun k_ e_ => (HO_372001.out.1 k_ e_.symm).2.2.2.2 | exact fun k_ e_ hs_ => by have hh_ := HO_372001.out.1 k_ e_.symm; revert hh_; simp [hs_]); rintro e w102 ⟨rfl, hy0, hy1, hb, hkp⟩; refine ⟨_, rfl, ?_⟩; have n0_ := am (rm (ok' := fun k_ => some k_ ≠ (.slice Ao24 t349.length co24 : Value).ownBlock ∧ some k_ ≠ (.slice Ao28 t382.length co28 : Value).ownBlock ∧ some k_ ≠ (.slice Ao32 t383.length co32 : Value).ownBlock ∧ some k_ ≠ (.slice Ao35 t363.length co35 : Value).ownBlock ∧ some k_ ≠ (.slice Ao40 t366.length co40 : Value).ownBlock) (rk (HO_355000.out) hkp (fun k_ hk_ hs_ => by rcases hs_ with e_ | e_ <;> (revert hk_; simp [e_]))) (fun k_ hk_ => by simp [hk_])); have n1_ := am (rm (ok' := fun k_ => some k_ ≠ (.slice Ao21 t346.length co21 : Value).ownBlock ∧ some k_ ≠ (.slice Ao28 t382.length co28 : Value).ownBlock ∧ some k_ ≠ (.slice Ao32 t383.length co32 : Value).ownBlock ∧ some k_ ≠ (.slice Ao35 t363.length co35 : Value).ownBlock ∧ some k_ ≠ (.slice Ao40 t366.length co40 : Value).ownBlock) (rk (HO_355001.out) hkp (fun k_ hk_ hs_ => by rcases hs_ with e_ | e_ <;> (revert hk_; simp [e_]))) (fun k_ hk_ => by simp [hk_])); have n2_ := am (rm (ok' := fun k_ => some k_ ≠ (.slice Ao21 t346.length co21 : Value).ownBlock ∧ some k_ ≠ (.slice Ao24 t349.length co24 : Value).ownBlock ∧ some k_ ≠ (.slice Ao32 t383.length co32 : Value).ownBlock ∧ some k_ ≠ (.slice Ao35 t363.length co35 : Value).ownBlock ∧ some k_ ≠ (.slice Ao40 t366.length co40 : Value).ownBlock) (rk (HO_363000.out) hkp (fun k_ hk_ hs_ => by rcases hs_ with e_ | e_ <;> (revert hk_; simp [e_]))) (fun k_ hk_ => by simp [hk_])); have n3_ := am (rm (ok' := fun k_ => some k_ ≠ (.slice Ao21 t346.length co21 : Value).ownBlock ∧ some k_ ≠ (.slice Ao24 t349.length co24 : Value).ownBlock ∧ some k_ ≠ (.slice Ao28 t382.length co28 : Value).ownBlock ∧ some k_ ≠ (.slice Ao35 t363.length co35 : Value).ownBlock ∧ some k_ ≠ (.slice Ao40 t366.length co40 : Value).ownBlock) (rk (HO_363001.out) hkp (fun k_ hk_ hs_ => by rcases hs_ with e_ | e_ <;> (revert hk_; simp [e_]))) (fun k_ hk_ => by simp [hk_])); have n4_ := am (Kd.R_reok rfl hy0 (fun k_ e_ => HO_372000.out.1 k_ e_)); have n5_ := am (Kd.R_reok rfl hy1 (fun k_ e_ => HO_372001.out.1 k_ e_)); have n6_ := am (bk (xB BK337.out) hkp (fun hs_ => Or.elim hs_ (fun e_ => (fun e_ => (Kd.R_ne HO_372000.out BK337.out (by decide)) e_) e_) (fun e_ => (fun e_ => (Kd.R_ne HO_372001.out BK337.out (by decide)) e_) e_))); have n7_ := am (bk (xB BK354.out) hkp (fun hs_ => Or.elim hs_ (fun e_ => (fun e_ => (Kd.R_ne HO_372000.out BK354.out (by decide)) e_) e_) (fun e_ => (fun e_ => (Kd.R_ne HO_372001.out BK354.out (by decide)) e_) e_))); have n8_ := am (bk (xB BK362.out) hkp (fun hs_ => Or.elim hs_ (fun e_ => (fun e_ => (Kd.R_ne HO_372000.out BK362.out (by decide)) e_) e_) (fun e_ => (fun e_ => (Kd.R_ne HO_372001.out BK362.out (by decide)) e_) e_))); have n9_ := am (bk (xB BK371.out) hkp (fun hs_ => Or.elim hs_ (fun e_ => (fun e_ => (Kd.R_ne HO_372000.out BK371.out (by decide)) e_) e_) (fun e_ => (fun e_ => (Kd.R_ne HO_372001.out BK371.out (by decide)) e_) e_))); have n10_ := am (hb); clear HO_355000; clear HO_355001; clear HO_363000; clear HO_363001; clear HO_372000; clear HO_372001; clear BK337; clear BK354; clear BK362; clear BK371; clear HB; have HO_355000 := n0_; have HO_355001 := n1_; have HO_363000 := n2_; have HO_363001 := n3_; have HO_372000 := n4_; have HO_372001 := n5_; have BK337 := n6_; have BK354 := n7_; have BK362 := n8_; have BK371 := n9_; have HB := n10_; clear n0_ n1_ n2_ n3_ n4_ n5_ n6_ n7_ n8_ n9_ n10_; (try clear hb); (try clear hkp); (try clear hy0); (try clear hy1); obtain ⟨hcz103_0, hcz103_1, hcz103_2, hfz103_0, hfz103_1, hfz103_2⟩ := xT3 (W := w102) BK371.out) | ((with_reducible refine gate_callee (f := 35) rfl ?_); refine goesL_ (some 67) rfl rfl Try.func35 (by kernel_rfl) rfl #[.agg #[.slice Ao35 t386.length co35, .slice Ao40 t387.length co40, .int .i64 t369], .int .i64 1] rfl (by (try simp only [List.map_toArray, List.map_cons, List.map_nil]); first | done | (rw [show t386.length = t363.length from (rr HO_372000.out).1.symm, show t387.length = t366.length from (rr HO_372001.out).1.symm] <;> rfl) | rfl | (simp only [List.length_drop, List.length_take]; rfl)) ?_; (with_reducible refine (laws_heldTable.calls kj63 _ _ t386 _ _ t387 t369 1 t388 _ ?side1 ?side2 ?side3 ?side4 A96.out).mono ?_); (case side1 => exact xC ((rr HO_372000.out).2.2)); (case side2 => rw [show t386.length = t363.length from (rr HO_372000.out).1.symm]; exact (rr HO_372000.out).2.1); (case side3 => exact xC ((rr HO_372001.out).2.2)); (case side4 => rw [show t387.length = t366.length from (rr HO_372001.out).1.symm]; exact (rr HO_372001.out).2.1); rintro e w104 ⟨rfl, hb⟩; refine ⟨_, rfl, ?_⟩; have n0_ := am (rb (xR HO_355000.out) hb); have n1_ := am (rb (xR HO_355001.out) hb); have n2_ := am (rb (xR HO_363000.out) hb); have n3_ := am (rb (xR HO_363001.out) hb); have n4_ := am (rb (xR HO_372000.out) hb); have n5_ := am (rb (xR HO_372001.out) hb); have n6_ := am (bb (xB BK337.out) hb); have n7_ := am (bb (xB BK354.out) hb); have n8_ := am (bb (xB BK362.out) hb); have n9_ := am (bb (xB BK371.out) hb); have n10_ := am (bs (xW HB.out) hb); clear HO_355000; clear HO_355001; clear HO_363000; clear HO_363001; clear HO_372000; clear HO_372001; clear BK337; clear BK354; clear BK362; clear BK371; clear HB; have HO_355000 := n0_; have HO_355001 := n1_; have HO_363000 := n2_; have HO_363001 := n3_; have HO_372000 := n4_; have HO_372001 := n5_; have BK337 := n6_; have BK354 := n7_; have BK362 := n8_; have BK371 := n9_; have HB := n10_; clear n0_ n1_ n2_ n3_ n4_ n5_ n6_ n7_ n8_ n9_ n10_; (try clear hb); (try clear hb2); (try clear hk); (try clear hi)))
          go_ret
          exact ⟨xV, xW HB.out⟩
         ·rw [if_neg c97] at H
          have c97b0 : decide (t388 < 0) = false := decide_eq_false c97
          clear c97
          by_cases c105 : t388 = t385
          ·rw [if_pos c105] at H
           have c105b0 : (t388 == t385) = true := beq_iff_eq.mpr c105
           have c105b1 : (t388 != t385) = false := bne_eq_false_iff_eq.mpr c105
           clear c105
           replace H := Option.bind_eq_some_iff.mp H
           obtain ⟨⟨t389, t392, t395⟩, A1060, H⟩ := H
           replace H : ((impl_CleanTable.f kj63 t389 t392 t395).bind fun bt396 => ((laws_eqTable.f kj63 bt396.1 bt396.2.1 bt396.2.2.1 t346 t349 t352).bind fun t405 => (if t405 = true then (laws_FnExactCleanTable.j2 kj63 t385 (bt396.2.2.2 != t353) t386 t387 t369) else (laws_FnExactCleanTable.j2 kj63 t385 true t386 t387 t369)))) = some r := H
           have A106 := am A1060
           clear A1060
           replace H := Option.bind_eq_some_iff.mp H
           obtain ⟨⟨t396, t399, t402, t403⟩, A1070, H⟩ := H
           replace H : ((laws_eqTable.f kj63 t396 t399 t402 t346 t349 t352).bind fun t405 => (if t405 = true then (laws_FnExactCleanTable.j2 kj63 t385 (t403 != t353) t386 t387 t369) else (laws_FnExactCleanTable.j2 kj63 t385 true t386 t387 t369))) = some r := H
           have A107 := am A1070
           clear A1070
           have HC108 := am H
           clear H
           have hnb109 := NB371_337.out
           have hnc109 := NB337_371.out
           have hnb110 := NB371_354.out
           have hnc110 := NB354_371.out
           have hnb111 := NB371_362.out
           have hnc111 := NB362_371.out
           obtain ⟨hcz112_0, hcz112_1, hcz112_2, hfz112_0, hfz112_1, hfz112_2⟩ := xT3 (W := wc) BK371.out
           go_upto_region 25 with (first | ((with_reducible refine gate_callee (f := 30) rfl ?_); refine xG (some 64) 30 Try.func30 #[.agg #[.slice Ao35 t363.length co35, .slice Ao40 t366.length co40, .int .i64 t369], .int .i64 1] (h := ?_); (with_reducible refine (laws_markTable.calls kj63 (fun k_ => some k_ = (.slice Ao35 t363.length co35 : Value).ownBlock) (.slice Ao35 t363.length co35) t363 (fun k_ => some k_ = (.slice Ao40 t366.length co40 : Value).ownBlock) (.slice Ao40 t366.length co40) t366 t369 1 t385 t386 t387 w _ ?side1 ?side2 ?side3 ?side4 ?side5 A95.out).mono ?_); (case side1 => repeat (first | (with_reducible first | exact HB.out | apply wa | apply wn | apply wd | refine ws ?_ GE337.out | refine ws ?_ GE354.out | refine ws ?_ GE362.out | refine ws ?_ GE371.out) | exact HB.out)); (case side2 => exact Kd.R_tight rfl HO_372000.out); (case side3 => first | exact fun k_ e_ => (HO_372000.out.1 k_ e_.symm).2.2.2.2 | exact fun k_ e_ hs_ => by have hh_ := HO_372000.out.1 k_ e_.symm; revert hh_; simp [hs_]); (case side4 => exact Kd.R_tight rfl HO_372001.out); (case side5 => first | exact fun k_ e_ => (HO_372001.out.1 k_ e_.symm).2.2.2.2 | exact fun k_ e_ hs_ => by have hh_ := HO_372001.out.1 k_ e_.symm; revert hh_; simp [hs_]); rintro e w113 ⟨rfl, hy0, hy1, hb, hkp⟩; refine ⟨_, rfl, ?_⟩; have n0_ := am (rm (ok' := fun k_ => some k_ ≠ (.slice Ao24 t349.length co24 : Value).ownBlock ∧ some k_ ≠ (.slice Ao28 t382.length co28 : Value).ownBlock ∧ some k_ ≠ (.slice Ao32 t383.length co32 : Value).ownBlock ∧ some k_ ≠ (.slice Ao35 t363.length co35 : Value).ownBlock ∧ some k_ ≠ (.slice Ao40 t366.length co40 : Value).ownBlock) (rk (HO_355000.out) hkp (fun k_ hk_ hs_ => by rcases hs_ with e_ | e_ <;> (revert hk_; simp [e_]))) (fun k_ hk_ => by simp [hk_])); have n1_ := am (rm (ok' := fun k_ => some k_ ≠ (.slice Ao21 t346.length co21 : Value).ownBlock ∧ some k_ ≠ (.slice Ao28 t382.length co28 : Value).ownBlock ∧ some k_ ≠ (.slice Ao32 t383.length co32 : Value).ownBlock ∧ some k_ ≠ (.slice Ao35 t363.length co35 : Value).ownBlock ∧ some k_ ≠ (.slice Ao40 t366.length co40 : Value).ownBlock) (rk (HO_355001.out) hkp (fun k_ hk_ hs_ => by rcases hs_ with e_ | e_ <;> (revert hk_; simp [e_]))) (fun k_ hk_ => by simp [hk_])); have n2_ := am (rm (ok' := fun k_ => some k_ ≠ (.slice Ao21 t346.length co21 : Value).ownBlock ∧ some k_ ≠ (.slice Ao24 t349.length co24 : Value).ownBlock ∧ some k_ ≠ (.slice Ao32 t383.length co32 : Value).ownBlock ∧ some k_ ≠ (.slice Ao35 t363.length co35 : Value).ownBlock ∧ some k_ ≠ (.slice Ao40 t366.length co40 : Value).ownBlock) (rk (HO_363000.out) hkp (fun k_ hk_ hs_ => by rcases hs_ with e_ | e_ <;> (revert hk_; simp [e_]))) (fun k_ hk_ => by simp [hk_])); have n3_ := am (rm (ok' := fun k_ => some k_ ≠ (.slice Ao21 t346.length co21 : Value).ownBlock ∧ some k_ ≠ (.slice Ao24 t349.length co24 : Value).ownBlock ∧ some k_ ≠ (.slice Ao28 t382.length co28 : Value).ownBlock ∧ some k_ ≠ (.slice Ao35 t363.length co35 : Value).ownBlock ∧ some k_ ≠ (.slice Ao40 t366.length co40 : Value).ownBlock) (rk (HO_363001.out) hkp (fun k_ hk_ hs_ => by rcases hs_ with e_ | e_ <;> (revert hk_; simp [e_]))) (fun k_ hk_ => by simp [hk_])); have n4_ := am (Kd.R_reok rfl hy0 (fun k_ e_ => HO_372000.out.1 k_ e_)); have n5_ := am (Kd.R_reok rfl hy1 (fun k_ e_ => HO_372001.out.1 k_ e_)); have n6_ := am (bk (xB BK337.out) hkp (fun hs_ => Or.elim hs_ (fun e_ => (fun e_ => (Kd.R_ne HO_372000.out BK337.out (by decide)) e_) e_) (fun e_ => (fun e_ => (Kd.R_ne HO_372001.out BK337.out (by decide)) e_) e_))); have n7_ := am (bk (xB BK354.out) hkp (fun hs_ => Or.elim hs_ (fun e_ => (fun e_ => (Kd.R_ne HO_372000.out BK354.out (by decide)) e_) e_) (fun e_ => (fun e_ => (Kd.R_ne HO_372001.out BK354.out (by decide)) e_) e_))); have n8_ := am (bk (xB BK362.out) hkp (fun hs_ => Or.elim hs_ (fun e_ => (fun e_ => (Kd.R_ne HO_372000.out BK362.out (by decide)) e_) e_) (fun e_ => (fun e_ => (Kd.R_ne HO_372001.out BK362.out (by decide)) e_) e_))); have n9_ := am (bk (xB BK371.out) hkp (fun hs_ => Or.elim hs_ (fun e_ => (fun e_ => (Kd.R_ne HO_372000.out BK371.out (by decide)) e_) e_) (fun e_ => (fun e_ => (Kd.R_ne HO_372001.out BK371.out (by decide)) e_) e_))); have n10_ := am (hb); clear HO_355000; clear HO_355001; clear HO_363000; clear HO_363001; clear HO_372000; clear HO_372001; clear BK337; clear BK354; clear BK362; clear BK371; clear HB; have HO_355000 := n0_; have HO_355001 := n1_; have HO_363000 := n2_; have HO_363001 := n3_; have HO_372000 := n4_; have HO_372001 := n5_; have BK337 := n6_; have BK354 := n7_; have BK362 := n8_; have BK371 := n9_; have HB := n10_; clear n0_ n1_ n2_ n3_ n4_ n5_ n6_ n7_ n8_ n9_ n10_; (try clear hb); (try clear hkp); (try clear hy0); (try clear hy1); obtain ⟨hcz114_0, hcz114_1, hcz114_2, hfz114_0, hfz114_1, hfz114_2⟩ := xT3 (W := w113) BK371.out) | ((with_reducible refine gate_callee (f := 35) rfl ?_); refine goesL_ (some 67) rfl rfl Try.func35 (by kernel_rfl) rfl #[.agg #[.slice Ao35 t386.length co35, .slice Ao40 t387.length co40, .int .i64 t369], .int .i64 1] rfl (by (try simp only [List.map_toArray, List.map_cons, List.map_nil]); first | done | (rw [show t386.length = t363.length from (rr HO_372000.out).1.symm, show t387.length = t366.length from (rr HO_372001.out).1.symm] <;> rfl) | rfl | (simp only [List.length_drop, List.length_take]; rfl)) ?_; (with_reducible refine (laws_heldTable.calls kj63 _ _ t386 _ _ t387 t369 1 t388 _ ?side1 ?side2 ?side3 ?side4 A96.out).mono ?_); (case side1 => exact xC ((rr HO_372000.out).2.2)); (case side2 => rw [show t386.length = t363.length from (rr HO_372000.out).1.symm]; exact (rr HO_372000.out).2.1); (case side3 => exact xC ((rr HO_372001.out).2.2)); (case side4 => rw [show t387.length = t366.length from (rr HO_372001.out).1.symm]; exact (rr HO_372001.out).2.1); rintro e w115 ⟨rfl, hb⟩; refine ⟨_, rfl, ?_⟩; have n0_ := am (rb (xR HO_355000.out) hb); have n1_ := am (rb (xR HO_355001.out) hb); have n2_ := am (rb (xR HO_363000.out) hb); have n3_ := am (rb (xR HO_363001.out) hb); have n4_ := am (rb (xR HO_372000.out) hb); have n5_ := am (rb (xR HO_372001.out) hb); have n6_ := am (bb (xB BK337.out) hb); have n7_ := am (bb (xB BK354.out) hb); have n8_ := am (bb (xB BK362.out) hb); have n9_ := am (bb (xB BK371.out) hb); have n10_ := am (bs (xW HB.out) hb); clear HO_355000; clear HO_355001; clear HO_363000; clear HO_363001; clear HO_372000; clear HO_372001; clear BK337; clear BK354; clear BK362; clear BK371; clear HB; have HO_355000 := n0_; have HO_355001 := n1_; have HO_363000 := n2_; have HO_363001 := n3_; have HO_372000 := n4_; have HO_372001 := n5_; have BK337 := n6_; have BK354 := n7_; have BK362 := n8_; have BK371 := n9_; have HB := n10_; clear n0_ n1_ n2_ n3_ n4_ n5_ n6_ n7_ n8_ n9_ n10_; (try clear hb); (try clear hb2); (try clear hk); (try clear hi); have hnb116 := NB337_354.out; have hnc116 := NB354_337.out; have hnb117 := NB337_362.out; have hnc117 := NB362_337.out; obtain ⟨hcz118_0, hcz118_1, hcz118_2, hfz118_0, hfz118_1, hfz118_2⟩ := xT3 (W := w115) BK337.out) | ((with_reducible refine gate_callee (f := 26) rfl ?_); refine xG (some 75) 26 Try.func26 #[.agg #[.slice A0_0 l0_0.length c0_0, .slice A0_1 l0_1.length c0_1, .int .i64 a0_2]] (h := ?_); (with_reducible refine (laws_toTable.calls kj63 _ _ l0_0 _ _ l0_1 a0_2 t389 t392 t395 _ ?side1 ?side2 ?side3 ?side4 A106.out).mono ?_); (case side1 => exact xC (Kd.C_below HR0_0.out HB.out)); (case side2 => exact HC0_0.out); (case side3 => exact xC (Kd.C_below HR0_1.out HB.out)); (case side4 => exact HC0_1.out); rintro e w119 ⟨v390, v393, rfl, ho0, ho1, hb⟩; refine ⟨_, rfl, ?_⟩; have n0_ := am (rm (ro (ro (rl (xR HO_355000.out) hb) (re ho0)) (re ho1)) (fun _ h_ => h_.1)); have n1_ := am (rm (ro (ro (rl (xR HO_355001.out) hb) (re ho0)) (re ho1)) (fun _ h_ => h_.1)); have n2_ := am (rm (ro (ro (rl (xR HO_363000.out) hb) (re ho0)) (re ho1)) (fun _ h_ => h_.1)); have n3_ := am (rm (ro (ro (rl (xR HO_363001.out) hb) (re ho0)) (re ho1)) (fun _ h_ => h_.1)); have n4_ := am (rm (ro (ro (rl (xR HO_372000.out) hb) (re ho0)) (re ho1)) (fun _ h_ => h_.1)); have n5_ := am (rm (ro (ro (rl (xR HO_372001.out) hb) (re ho0)) (re ho1)) (fun _ h_ => h_.1)); have n6_ := am (Kd.R_lower (Kd.R_new' (Kd.R_new' (Kd.R_new' (Kd.R_new' (Kd.R_new' (Kd.R_new' ho0 (Kd.R_lt (xR HO_355000.out))) (Kd.R_lt (xR HO_355001.out))) (Kd.R_lt (xR HO_363000.out))) (Kd.R_lt (xR HO_363001.out))) (Kd.R_lt (xR HO_372000.out))) (Kd.R_lt (xR HO_372001.out))) (below_size (xW HB.out))); have n7_ := am (Kd.R_lower (Kd.R_new' (Kd.R_new' (Kd.R_new' (Kd.R_new' (Kd.R_new' (Kd.R_new' ho1 (Kd.R_lt (xR HO_355000.out))) (Kd.R_lt (xR HO_355001.out))) (Kd.R_lt (xR HO_363000.out))) (Kd.R_lt (xR HO_363001.out))) (Kd.R_lt (xR HO_372000.out))) (Kd.R_lt (xR HO_372001.out))) (below_size (xW HB.out))); have n8_ := am (bb (xB BK337.out) hb); have n9_ := am (bb (xB BK354.out) hb); have n10_ := am (bb (xB BK362.out) hb); have n11_ := am (bb (xB BK371.out) hb); have n12_ := am (bs (xW HB.out) hb); clear HO_355000; clear HO_355001; clear HO_363000; clear HO_363001; clear HO_372000; clear HO_372001; clear BK337; clear BK354; clear BK362; clear BK371; clear HB; have HO_355000 := n0_; have HO_355001 := n1_; have HO_363000 := n2_; have HO_363001 := n3_; have HO_372000 := n4_; have HO_372001 := n5_; have HO391 := n6_; have HO394 := n7_; have BK337 := n8_; have BK354 := n9_; have BK362 := n10_; have BK371 := n11_; have HB := n12_; clear n0_ n1_ n2_ n3_ n4_ n5_ n6_ n7_ n8_ n9_ n10_ n11_ n12_; (try clear hb); (try clear hb2); (try clear hk); (try clear hi); (try clear ho0); (try clear ho1); obtain ⟨Ao120, co120, eo120⟩ := Kd.R_slice HO391.out; subst eo120; obtain ⟨Ao121, co121, eo121⟩ := Kd.R_slice HO394.out; subst eo121) | ((with_reducible refine gate_callee (f := 43) rfl ?_); refine xG (some 76) 43 Try.func43 #[.agg #[.slice Ao120 t389.length co120, .slice Ao121 t392.length co121, .int .i64 t395]] (h := ?_); (with_reducible refine (impl_CleanTable.calls kj63 _ _ t389 _ _ t392 t395 t396 t399 t402 t403 _ ?side1 ?side2 ?side3 ?side4 A107.out).mono ?_); (case side1 => exact xC ((rr HO391.out).2.2)); (case side2 => exact (rr HO391.out).2.1); (case side3 => exact xC ((rr HO394.out).2.2)); (case side4 => exact (rr HO394.out).2.1); rintro e w122 ⟨v397, v400, rfl, ho0, ho1, hb⟩; refine ⟨_, rfl, ?_⟩; have n0_ := am (rm (ro (ro (rl (xR HO_355000.out) hb) (re ho0)) (re ho1)) (fun _ h_ => h_.1)); have n1_ := am (rm (ro (ro (rl (xR HO_355001.out) hb) (re ho0)) (re ho1)) (fun _ h_ => h_.1)); have n2_ := am (rm (ro (ro (rl (xR HO_363000.out) hb) (re ho0)) (re ho1)) (fun _ h_ => h_.1)); have n3_ := am (rm (ro (ro (rl (xR HO_363001.out) hb) (re ho0)) (re ho1)) (fun _ h_ => h_.1)); have n4_ := am (rm (ro (ro (rl (xR HO_372000.out) hb) (re ho0)) (re ho1)) (fun _ h_ => h_.1)); have n5_ := am (rm (ro (ro (rl (xR HO_372001.out) hb) (re ho0)) (re ho1)) (fun _ h_ => h_.1)); have n6_ := am (rm (ro (ro (rl (xR HO391.out) hb) (re ho0)) (re ho1)) (fun _ h_ => h_.1)); have n7_ := am (rm (ro (ro (rl (xR HO394.out) hb) (re ho0)) (re ho1)) (fun _ h_ => h_.1)); have n8_ := am (Kd.R_lower (Kd.R_new' (Kd.R_new' (Kd.R_new' (Kd.R_new' (Kd.R_new' (Kd.R_new' (Kd.R_new' (Kd.R_new' ho0 (Kd.R_lt (xR HO_355000.out))) (Kd.R_lt (xR HO_355001.out))) (Kd.R_lt (xR HO_363000.out))) (Kd.R_lt (xR HO_363001.out))) (Kd.R_lt (xR HO_372000.out))) (Kd.R_lt (xR HO_372001.out))) (Kd.R_lt (xR HO391.out))) (Kd.R_lt (xR HO394.out))) (below_size (xW HB.out))); have n9_ := am (Kd.R_lower (Kd.R_new' (Kd.R_new' (Kd.R_new' (Kd.R_new' (Kd.R_new' (Kd.R_new' (Kd.R_new' (Kd.R_new' ho1 (Kd.R_lt (xR HO_355000.out))) (Kd.R_lt (xR HO_355001.out))) (Kd.R_lt (xR HO_363000.out))) (Kd.R_lt (xR HO_363001.out))) (Kd.R_lt (xR HO_372000.out))) (Kd.R_lt (xR HO_372001.out))) (Kd.R_lt (xR HO391.out))) (Kd.R_lt (xR HO394.out))) (below_size (xW HB.out))); have n10_ := am (bb (xB BK337.out) hb); have n11_ := am (bb (xB BK354.out) hb); have n12_ := am (bb (xB BK362.out) hb); have n13_ := am (bb (xB BK371.out) hb); have n14_ := am (bs (xW HB.out) hb); clear HO_355000; clear HO_355001; clear HO_363000; clear HO_363001; clear HO_372000; clear HO_372001; clear HO391; clear HO394; clear BK337; clear BK354; clear BK362; clear BK371; clear HB; have HO_355000 := n0_; have HO_355001 := n1_; have HO_363000 := n2_; have HO_363001 := n3_; have HO_372000 := n4_; have HO_372001 := n5_; have HO391 := n6_; have HO394 := n7_; have HO398 := n8_; have HO401 := n9_; have BK337 := n10_; have BK354 := n11_; have BK362 := n12_; have BK371 := n13_; have HB := n14_; clear n0_ n1_ n2_ n3_ n4_ n5_ n6_ n7_ n8_ n9_ n10_ n11_ n12_ n13_ n14_; (try clear hb); (try clear hb2); (try clear hk); (try clear hi); (try clear ho0); (try clear ho1)) | ((with_reducible refine gate_dst (N := 12) rfl ?_); refine xE (N := 12) (cs := #[.slice none 0 0, .slice none 0 0, .int .i64 0]) (t := 26) (h := ?_); intro gb404 hg w123 hbox hb; have n0_ := am (rb (xR HO_355000.out) hb); have n1_ := am (rb (xR HO_355001.out) hb); have n2_ := am (rb (xR HO_363000.out) hb); have n3_ := am (rb (xR HO_363001.out) hb); have n4_ := am (rb (xR HO_372000.out) hb); have n5_ := am (rb (xR HO_372001.out) hb); have n6_ := am (rb (xR HO391.out) hb); have n7_ := am (rb (xR HO394.out) hb); have n8_ := am (rb (xR HO398.out) hb); have n9_ := am (rb (xR HO401.out) hb); have n10_ := am (bb (xB BK337.out) hb); have n11_ := am (bb (xB BK354.out) hb); have n12_ := am (bb (xB BK362.out) hb); have n13_ := am (bb (xB BK371.out) hb); have n14_ := am (bs (xW HB.out) hb); have n15_ := am (hbox); have n16_ := am (xS hg HB.out); have n17_ := am (xS hg HB.out); have n18_ := am (xN hg BK337.out); have n19_ := am (xM hg BK337.out); have n20_ := am (xN hg BK354.out); have n21_ := am (xM hg BK354.out); have n22_ := am (xN hg BK362.out); have n23_ := am (xM hg BK362.out); have n24_ := am (xN hg BK371.out); have n25_ := am (xM hg BK371.out); clear HO_355000; clear HO_355001; clear HO_363000; clear HO_363001; clear HO_372000; clear HO_372001; clear HO391; clear HO394; clear HO398; clear HO401; clear BK337; clear BK354; clear BK362; clear BK371; clear HB; have HO_355000 := n0_; have HO_355001 := n1_; have HO_363000 := n2_; have HO_363001 := n3_; have HO_372000 := n4_; have HO_372001 := n5_; have HO391 := n6_; have HO394 := n7_; have HO398 := n8_; have HO401 := n9_; have BK337 := n10_; have BK354 := n11_; have BK362 := n12_; have BK371 := n13_; have HB := n14_; have BK404 := n15_; have GW404 := n16_; have GE404 := n17_; have NB337_404 := n18_; have NB404_337 := n19_; have NB354_404 := n20_; have NB404_354 := n21_; have NB362_404 := n22_; have NB404_362 := n23_; have NB371_404 := n24_; have NB404_371 := n25_; clear n0_ n1_ n2_ n3_ n4_ n5_ n6_ n7_ n8_ n9_ n10_ n11_ n12_ n13_ n14_ n15_ n16_ n17_ n18_ n19_ n20_ n21_ n22_ n23_ n24_ n25_; clear hb hbox hg; obtain ⟨Ao124, co124, eo124⟩ := Kd.R_slice HO398.out; subst eo124; have hnb125 := NB404_337.out; have hnc125 := NB337_404.out; have hnb126 := NB404_354.out; have hnc126 := NB354_404.out; have hnb127 := NB404_362.out; have hnc127 := NB362_404.out; have hnb128 := NB404_371.out; have hnc128 := NB371_404.out; obtain ⟨hcz129_0, hcz129_1, hcz129_2, hfz129_0, hfz129_1, hfz129_2⟩ := xT3 (W := w123) BK404.out; obtain ⟨Ao130, co130, eo130⟩ := Kd.R_slice HO401.out; subst eo130))
           (try simp only [Act.put, List.setIfInBounds_toArray, List.set_cons_zero, List.set_cons_succ])
           go_cut [87] (fun v87 wc => ∃ (kq : Nat) (x87_107 : Bool), v87 = .bool x87_107 ∧ Aside0 (laws_FnExactCleanTable.j2 kq t385 x87_107 t386 t387 t369 = some r) ∧ Aside0 (kq ≤ kj63) ∧ Aside0 (Kd.R k57 57 wc w.heap.size (fun k_ => some k_ ≠ ((.slice Ao24 t349.length co24) : Value).ownBlock ∧ some k_ ≠ ((.slice Ao28 t382.length co28) : Value).ownBlock ∧ some k_ ≠ ((.slice Ao32 t383.length co32) : Value).ownBlock ∧ some k_ ≠ ((.slice Ao35 t363.length co35) : Value).ownBlock ∧ some k_ ≠ ((.slice Ao40 t366.length co40) : Value).ownBlock ∧ some k_ ≠ ((.slice Ao124 t396.length co124) : Value).ownBlock ∧ some k_ ≠ ((.slice Ao130 t399.length co130) : Value).ownBlock) (.slice Ao21 t346.length co21) t346) ∧ Aside0 (Kd.R k57 57 wc w.heap.size (fun k_ => some k_ ≠ ((.slice Ao21 t346.length co21) : Value).ownBlock ∧ some k_ ≠ ((.slice Ao28 t382.length co28) : Value).ownBlock ∧ some k_ ≠ ((.slice Ao32 t383.length co32) : Value).ownBlock ∧ some k_ ≠ ((.slice Ao35 t363.length co35) : Value).ownBlock ∧ some k_ ≠ ((.slice Ao40 t366.length co40) : Value).ownBlock ∧ some k_ ≠ ((.slice Ao124 t396.length co124) : Value).ownBlock ∧ some k_ ≠ ((.slice Ao130 t399.length co130) : Value).ownBlock) (.slice Ao24 t349.length co24) t349) ∧ Aside0 (Kd.R k57 57 wc w.heap.size (fun k_ => some k_ ≠ ((.slice Ao21 t346.length co21) : Value).ownBlock ∧ some k_ ≠ ((.slice Ao24 t349.length co24) : Value).ownBlock ∧ some k_ ≠ ((.slice Ao32 t383.length co32) : Value).ownBlock ∧ some k_ ≠ ((.slice Ao35 t363.length co35) : Value).ownBlock ∧ some k_ ≠ ((.slice Ao40 t366.length co40) : Value).ownBlock ∧ some k_ ≠ ((.slice Ao124 t396.length co124) : Value).ownBlock ∧ some k_ ≠ ((.slice Ao130 t399.length co130) : Value).ownBlock) (.slice Ao28 t382.length co28) t382) ∧ Aside0 (Kd.R k57 57 wc w.heap.size (fun k_ => some k_ ≠ ((.slice Ao21 t346.length co21) : Value).ownBlock ∧ some k_ ≠ ((.slice Ao24 t349.length co24) : Value).ownBlock ∧ some k_ ≠ ((.slice Ao28 t382.length co28) : Value).ownBlock ∧ some k_ ≠ ((.slice Ao35 t363.length co35) : Value).ownBlock ∧ some k_ ≠ ((.slice Ao40 t366.length co40) : Value).ownBlock ∧ some k_ ≠ ((.slice Ao124 t396.length co124) : Value).ownBlock ∧ some k_ ≠ ((.slice Ao130 t399.length co130) : Value).ownBlock) (.slice Ao32 t383.length co32) t383) ∧ Aside0 (Kd.R k57 57 wc w.heap.size (fun k_ => some k_ ≠ ((.slice Ao21 t346.length co21) : Value).ownBlock ∧ some k_ ≠ ((.slice Ao24 t349.length co24) : Value).ownBlock ∧ some k_ ≠ ((.slice Ao28 t382.length co28) : Value).ownBlock ∧ some k_ ≠ ((.slice Ao32 t383.length co32) : Value).ownBlock ∧ some k_ ≠ ((.slice Ao40 t366.length co40) : Value).ownBlock ∧ some k_ ≠ ((.slice Ao124 t396.length co124) : Value).ownBlock ∧ some k_ ≠ ((.slice Ao130 t399.length co130) : Value).ownBlock) (.slice Ao35 t363.length co35) t386) ∧ Aside0 (Kd.R k57 57 wc w.heap.size (fun k_ => some k_ ≠ ((.slice Ao21 t346.length co21) : Value).ownBlock ∧ some k_ ≠ ((.slice Ao24 t349.length co24) : Value).ownBlock ∧ some k_ ≠ ((.slice Ao28 t382.length co28) : Value).ownBlock ∧ some k_ ≠ ((.slice Ao32 t383.length co32) : Value).ownBlock ∧ some k_ ≠ ((.slice Ao35 t363.length co35) : Value).ownBlock ∧ some k_ ≠ ((.slice Ao124 t396.length co124) : Value).ownBlock ∧ some k_ ≠ ((.slice Ao130 t399.length co130) : Value).ownBlock) (.slice Ao40 t366.length co40) t387) ∧ Aside0 (Kd.R k57 57 wc w.heap.size (fun k_ => some k_ ≠ ((.slice Ao21 t346.length co21) : Value).ownBlock ∧ some k_ ≠ ((.slice Ao24 t349.length co24) : Value).ownBlock ∧ some k_ ≠ ((.slice Ao28 t382.length co28) : Value).ownBlock ∧ some k_ ≠ ((.slice Ao32 t383.length co32) : Value).ownBlock ∧ some k_ ≠ ((.slice Ao35 t363.length co35) : Value).ownBlock ∧ some k_ ≠ ((.slice Ao40 t366.length co40) : Value).ownBlock ∧ some k_ ≠ ((.slice Ao130 t399.length co130) : Value).ownBlock) (.slice Ao124 t396.length co124) t396) ∧ Aside0 (Kd.R k57 57 wc w.heap.size (fun k_ => some k_ ≠ ((.slice Ao21 t346.length co21) : Value).ownBlock ∧ some k_ ≠ ((.slice Ao24 t349.length co24) : Value).ownBlock ∧ some k_ ≠ ((.slice Ao28 t382.length co28) : Value).ownBlock ∧ some k_ ≠ ((.slice Ao32 t383.length co32) : Value).ownBlock ∧ some k_ ≠ ((.slice Ao35 t363.length co35) : Value).ownBlock ∧ some k_ ≠ ((.slice Ao40 t366.length co40) : Value).ownBlock ∧ some k_ ≠ ((.slice Ao124 t396.length co124) : Value).ownBlock) (.slice Ao130 t399.length co130) t399) ∧ Aside0 (wc.heap[gb337]? = some (.cells #[(.slice A0_0 l0_0.length c0_0), (.slice A0_1 l0_1.length c0_1), .int .i64 a0_2] 42 (0, 0))) ∧ Aside0 (wc.heap[gb354]? = some (.cells #[(.slice Ao21 t346.length co21), (.slice Ao24 t349.length co24), .int .i64 t352] 26 (0, 0))) ∧ Aside0 (wc.heap[gb362]? = some (.cells #[(.slice Ao28 t382.length co28), (.slice Ao32 t383.length co32), .int .i64 t361] 26 (0, 0))) ∧ Aside0 (wc.heap[gb371]? = some (.cells #[(.slice Ao35 t363.length co35), (.slice Ao40 t366.length co40), .int .i64 t369] 26 (0, 0))) ∧ Aside0 (wc.heap[gb404]? = some (.cells #[(.slice Ao124 t396.length co124), (.slice Ao130 t399.length co130), .int .i64 t402] 26 (0, 0))) ∧ Aside0 (Below w.heap.size w wc))
           case first =>
            have H := HC108.out
            clear HC108
            replace H := Option.bind_eq_some_iff.mp H
            obtain ⟨t405, A1310, H⟩ := H
            replace H : (if t405 = true then (laws_FnExactCleanTable.j2 kj63 t385 (t403 != t353) t386 t387 t369) else (laws_FnExactCleanTable.j2 kj63 t385 true t386 t387 t369)) = some r := H
            have A131 := am A1310
            clear A1310
            by_cases c132 : t405 = true
            ·subst c132
             have H1 : (laws_FnExactCleanTable.j2 kj63 t385 (t403 != t353) t386 t387 t369) = some r := by rw [if_pos rfl] at H; exact H
             clear H
             have H := H1
             clear H1
             have H' := am H
             clear H
             have hnb133 := NB404_337.out
             have hnc133 := NB337_404.out
             have hnb134 := NB404_354.out
             have hnc134 := NB354_404.out
             have hnb135 := NB404_362.out
             have hnc135 := NB362_404.out
             have hnb136 := NB404_371.out
             have hnc136 := NB371_404.out
             obtain ⟨hcz137_0, hcz137_1, hcz137_2, hfz137_0, hfz137_1, hfz137_2⟩ := xT3 (W := w123) BK404.out
             have hnb138 := NB354_337.out
             have hnc138 := NB337_354.out
             have hnb139 := NB354_362.out
             have hnc139 := NB362_354.out
             have hnb140 := NB354_371.out
             have hnc140 := NB371_354.out
             obtain ⟨hcz141_0, hcz141_1, hcz141_2, hfz141_0, hfz141_1, hfz141_2⟩ := xT3 (W := w123) BK354.out
             go_wp2_with (first | ((with_reducible refine gate_callee (f := 27) rfl ?_); refine xG (some 81) 27 Try.func27 #[.agg #[.slice Ao124 t396.length co124, .slice Ao130 t399.length co130, .int .i64 t402], .agg #[.slice Ao21 t346.length co21, .slice Ao24 t349.length co24, .int .i64 t352]] (h := ?_); (with_reducible refine (laws_eqTable.calls kj63 _ _ t396 _ _ t399 t402 _ _ t346 _ _ t349 t352 true _ ?side1 ?side2 ?side3 ?side4 ?side5 ?side6 ?side7 ?side8 A131.out).mono ?_); (case side1 => exact xD HO398.out); (case side2 => exact (rr HO398.out).2.1); (case side3 => exact xD HO401.out); (case side4 => exact (rr HO401.out).2.1); (case side5 => exact xD HO_355000.out); (case side6 => exact (rr HO_355000.out).2.1); (case side7 => exact xD HO_355001.out); (case side8 => exact (rr HO_355001.out).2.1); rintro e w142 ⟨rfl, hb⟩; refine ⟨_, rfl, ?_⟩; have n0_ := am (rb (xR HO_355000.out) hb); have n1_ := am (rb (xR HO_355001.out) hb); have n2_ := am (rb (xR HO_363000.out) hb); have n3_ := am (rb (xR HO_363001.out) hb); have n4_ := am (rb (xR HO_372000.out) hb); have n5_ := am (rb (xR HO_372001.out) hb); have n6_ := am (rb (xR HO391.out) hb); have n7_ := am (rb (xR HO394.out) hb); have n8_ := am (rb (xR HO398.out) hb); have n9_ := am (rb (xR HO401.out) hb); have n10_ := am (bb (xB BK337.out) hb); have n11_ := am (bb (xB BK354.out) hb); have n12_ := am (bb (xB BK362.out) hb); have n13_ := am (bb (xB BK371.out) hb); have n14_ := am (bb (xP BK404.out) hb); have n15_ := am (bs (xW HB.out) hb); clear HO_355000; clear HO_355001; clear HO_363000; clear HO_363001; clear HO_372000; clear HO_372001; clear HO391; clear HO394; clear HO398; clear HO401; clear BK337; clear BK354; clear BK362; clear BK371; clear BK404; clear HB; have HO_355000 := n0_; have HO_355001 := n1_; have HO_363000 := n2_; have HO_363001 := n3_; have HO_372000 := n4_; have HO_372001 := n5_; have HO391 := n6_; have HO394 := n7_; have HO398 := n8_; have HO401 := n9_; have BK337 := n10_; have BK354 := n11_; have BK362 := n12_; have BK371 := n13_; have BK404 := n14_; have HB := n15_; clear n0_ n1_ n2_ n3_ n4_ n5_ n6_ n7_ n8_ n9_ n10_ n11_ n12_ n13_ n14_ n15_; (try clear hb); (try clear hb2); (try clear hk); (try clear hi)))
             go_meet
             case rel => exact ⟨_, ((t403 != t353)), (xQ), H', ⟨by have := HJ10.out; have := HJ63.out; first | omega | exact Nat.le_refl _⟩, ⟨by (try simp only [hl363000_63]); (try simp only [hl363001_63]); (with_reducible repeat (first | apply ra | apply rn | apply rd)); exact rm HO_355000.out (fun _ hk => by simp [hk])⟩, ⟨by (try simp only [hl363000_63]); (try simp only [hl363001_63]); (with_reducible repeat (first | apply ra | apply rn | apply rd)); exact rm HO_355001.out (fun _ hk => by simp [hk])⟩, ⟨by (try simp only [hl363000_63]); (try simp only [hl363001_63]); (with_reducible repeat (first | apply ra | apply rn | apply rd)); exact rm HO_363000.out (fun _ hk => by simp [hk])⟩, ⟨by (try simp only [hl363000_63]); (try simp only [hl363001_63]); (with_reducible repeat (first | apply ra | apply rn | apply rd)); exact rm HO_363001.out (fun _ hk => by simp [hk])⟩, ⟨by (try simp only [hl363000_63]); (try simp only [hl363001_63]); (with_reducible repeat (first | apply ra | apply rn | apply rd)); exact rm HO_372000.out (fun _ hk => by simp [hk])⟩, ⟨by (try simp only [hl363000_63]); (try simp only [hl363001_63]); (with_reducible repeat (first | apply ra | apply rn | apply rd)); exact rm HO_372001.out (fun _ hk => by simp [hk])⟩, ⟨by (try simp only [hl363000_63]); (try simp only [hl363001_63]); (with_reducible repeat (first | apply ra | apply rn | apply rd)); exact rm HO398.out (fun _ hk => by simp [hk])⟩, ⟨by (try simp only [hl363000_63]); (try simp only [hl363001_63]); (with_reducible repeat (first | apply ra | apply rn | apply rd)); exact rm HO401.out (fun _ hk => by simp [hk])⟩, ⟨by (try simp only [hl363000_63]); (try simp only [hl363001_63]); (with_reducible repeat (first | refine bn ?_ _ | refine bd ?_ | refine ba ?_ _)); exact BK337.out⟩, ⟨by (try simp only [hl363000_63]); (try simp only [hl363001_63]); (with_reducible repeat (first | refine bn ?_ _ | refine bd ?_ | refine ba ?_ _)); exact BK354.out⟩, ⟨by (try simp only [hl363000_63]); (try simp only [hl363001_63]); (with_reducible repeat (first | refine bn ?_ _ | refine bd ?_ | refine ba ?_ _)); exact BK362.out⟩, ⟨by (try simp only [hl363000_63]); (try simp only [hl363001_63]); (with_reducible repeat (first | refine bn ?_ _ | refine bd ?_ | refine ba ?_ _)); exact BK371.out⟩, ⟨by (try simp only [hl363000_63]); (try simp only [hl363001_63]); (with_reducible repeat (first | refine bn ?_ _ | refine bd ?_ | refine ba ?_ _)); exact BK404.out⟩, ⟨xW HB.out⟩⟩
            ·replace c132 := Bool.eq_false_iff.mpr c132
             subst c132
             have H1 : (laws_FnExactCleanTable.j2 kj63 t385 true t386 t387 t369) = some r := by rw [if_neg (show ¬ (false = true) by decide)] at H; exact H
             clear H
             have H := H1
             clear H1
             have H' := am H
             clear H
             have hnb143 := NB404_337.out
             have hnc143 := NB337_404.out
             have hnb144 := NB404_354.out
             have hnc144 := NB354_404.out
             have hnb145 := NB404_362.out
             have hnc145 := NB362_404.out
             have hnb146 := NB404_371.out
             have hnc146 := NB371_404.out
             obtain ⟨hcz147_0, hcz147_1, hcz147_2, hfz147_0, hfz147_1, hfz147_2⟩ := xT3 (W := w123) BK404.out
             have hnb148 := NB354_337.out
             have hnc148 := NB337_354.out
             have hnb149 := NB354_362.out
             have hnc149 := NB362_354.out
             have hnb150 := NB354_371.out
             have hnc150 := NB371_354.out
             obtain ⟨hcz151_0, hcz151_1, hcz151_2, hfz151_0, hfz151_1, hfz151_2⟩ := xT3 (W := w123) BK354.out
             go_wp2_with (first | ((with_reducible refine gate_callee (f := 27) rfl ?_); refine xG (some 81) 27 Try.func27 #[.agg #[.slice Ao124 t396.length co124, .slice Ao130 t399.length co130, .int .i64 t402], .agg #[.slice Ao21 t346.length co21, .slice Ao24 t349.length co24, .int .i64 t352]] (h := ?_); (with_reducible refine (laws_eqTable.calls kj63 _ _ t396 _ _ t399 t402 _ _ t346 _ _ t349 t352 false _ ?side1 ?side2 ?side3 ?side4 ?side5 ?side6 ?side7 ?side8 A131.out).mono ?_); (case side1 => exact xD HO398.out); (case side2 => exact (rr HO398.out).2.1); (case side3 => exact xD HO401.out); (case side4 => exact (rr HO401.out).2.1); (case side5 => exact xD HO_355000.out); (case side6 => exact (rr HO_355000.out).2.1); (case side7 => exact xD HO_355001.out); (case side8 => exact (rr HO_355001.out).2.1); rintro e w152 ⟨rfl, hb⟩; refine ⟨_, rfl, ?_⟩; have n0_ := am (rb (xR HO_355000.out) hb); have n1_ := am (rb (xR HO_355001.out) hb); have n2_ := am (rb (xR HO_363000.out) hb); have n3_ := am (rb (xR HO_363001.out) hb); have n4_ := am (rb (xR HO_372000.out) hb); have n5_ := am (rb (xR HO_372001.out) hb); have n6_ := am (rb (xR HO391.out) hb); have n7_ := am (rb (xR HO394.out) hb); have n8_ := am (rb (xR HO398.out) hb); have n9_ := am (rb (xR HO401.out) hb); have n10_ := am (bb (xB BK337.out) hb); have n11_ := am (bb (xB BK354.out) hb); have n12_ := am (bb (xB BK362.out) hb); have n13_ := am (bb (xB BK371.out) hb); have n14_ := am (bb (xP BK404.out) hb); have n15_ := am (bs (xW HB.out) hb); clear HO_355000; clear HO_355001; clear HO_363000; clear HO_363001; clear HO_372000; clear HO_372001; clear HO391; clear HO394; clear HO398; clear HO401; clear BK337; clear BK354; clear BK362; clear BK371; clear BK404; clear HB; have HO_355000 := n0_; have HO_355001 := n1_; have HO_363000 := n2_; have HO_363001 := n3_; have HO_372000 := n4_; have HO_372001 := n5_; have HO391 := n6_; have HO394 := n7_; have HO398 := n8_; have HO401 := n9_; have BK337 := n10_; have BK354 := n11_; have BK362 := n12_; have BK371 := n13_; have BK404 := n14_; have HB := n15_; clear n0_ n1_ n2_ n3_ n4_ n5_ n6_ n7_ n8_ n9_ n10_ n11_ n12_ n13_ n14_ n15_; (try clear hb); (try clear hb2); (try clear hk); (try clear hi)))
             go_meet
             case rel => exact ⟨_, (true), (xQ), H', ⟨by have := HJ10.out; have := HJ63.out; first | omega | exact Nat.le_refl _⟩, ⟨by (try simp only [hl363000_63]); (try simp only [hl363001_63]); (with_reducible repeat (first | apply ra | apply rn | apply rd)); exact rm HO_355000.out (fun _ hk => by simp [hk])⟩, ⟨by (try simp only [hl363000_63]); (try simp only [hl363001_63]); (with_reducible repeat (first | apply ra | apply rn | apply rd)); exact rm HO_355001.out (fun _ hk => by simp [hk])⟩, ⟨by (try simp only [hl363000_63]); (try simp only [hl363001_63]); (with_reducible repeat (first | apply ra | apply rn | apply rd)); exact rm HO_363000.out (fun _ hk => by simp [hk])⟩, ⟨by (try simp only [hl363000_63]); (try simp only [hl363001_63]); (with_reducible repeat (first | apply ra | apply rn | apply rd)); exact rm HO_363001.out (fun _ hk => by simp [hk])⟩, ⟨by (try simp only [hl363000_63]); (try simp only [hl363001_63]); (with_reducible repeat (first | apply ra | apply rn | apply rd)); exact rm HO_372000.out (fun _ hk => by simp [hk])⟩, ⟨by (try simp only [hl363000_63]); (try simp only [hl363001_63]); (with_reducible repeat (first | apply ra | apply rn | apply rd)); exact rm HO_372001.out (fun _ hk => by simp [hk])⟩, ⟨by (try simp only [hl363000_63]); (try simp only [hl363001_63]); (with_reducible repeat (first | apply ra | apply rn | apply rd)); exact rm HO398.out (fun _ hk => by simp [hk])⟩, ⟨by (try simp only [hl363000_63]); (try simp only [hl363001_63]); (with_reducible repeat (first | apply ra | apply rn | apply rd)); exact rm HO401.out (fun _ hk => by simp [hk])⟩, ⟨by (try simp only [hl363000_63]); (try simp only [hl363001_63]); (with_reducible repeat (first | refine bn ?_ _ | refine bd ?_ | refine ba ?_ _)); exact BK337.out⟩, ⟨by (try simp only [hl363000_63]); (try simp only [hl363001_63]); (with_reducible repeat (first | refine bn ?_ _ | refine bd ?_ | refine ba ?_ _)); exact BK354.out⟩, ⟨by (try simp only [hl363000_63]); (try simp only [hl363001_63]); (with_reducible repeat (first | refine bn ?_ _ | refine bd ?_ | refine ba ?_ _)); exact BK362.out⟩, ⟨by (try simp only [hl363000_63]); (try simp only [hl363001_63]); (with_reducible repeat (first | refine bn ?_ _ | refine bd ?_ | refine ba ?_ _)); exact BK371.out⟩, ⟨by (try simp only [hl363000_63]); (try simp only [hl363001_63]); (with_reducible repeat (first | refine bn ?_ _ | refine bd ?_ | refine ba ?_ _)); exact BK404.out⟩, ⟨xW HB.out⟩⟩
           case rest =>
            clear HC108
            try clear c1
            try clear c2
            try clear p2
            try clear c3
            try clear c3b0
            try clear c4
            try clear c5
            try clear c6
            try clear c7
            try clear c8
            try clear c9
            try clear c10
            try clear c11
            try clear c12
            try clear c13
            try clear c14
            try clear c15
            try clear c22
            try clear c24
            try clear c26
            try clear c27
            try clear c29
            try clear c30
            try clear c35
            try clear c36
            try clear c37
            try clear c38
            try clear c42
            try clear c43
            try clear c44
            try clear c45
            try clear c47
            try clear c48
            try clear c51
            try clear c52
            try clear c53
            try clear c55
            try clear c56
            try clear c59
            try clear c62
            try clear c70
            try clear c71
            try clear c72
            try clear c75
            try clear c75b0
            try clear c77
            try clear c78
            try clear c79
            try clear c80
            try clear c82
            try clear c83
            try clear c86
            try clear c87
            try clear c88
            try clear c90
            try clear c91
            try clear c94
            try clear c97
            try clear c97b0
            try clear c98
            try clear c99
            try clear c100
            try clear c105
            try clear c105b0
            try clear c105b1
            try clear c109
            try clear c110
            try clear c111
            try clear c116
            try clear c117
            try clear c125
            try clear c126
            try clear c127
            try clear c128
            try clear c132
            try clear c133
            try clear c134
            try clear c135
            try clear c136
            try clear c138
            try clear c139
            try clear c140
            try clear c143
            try clear c144
            try clear c145
            try clear c146
            try clear c148
            try clear c149
            try clear c150
            try clear hcz101_0
            try clear hcz101_1
            try clear hcz101_2
            try clear hcz103_0
            try clear hcz103_1
            try clear hcz103_2
            try clear hcz112_0
            try clear hcz112_1
            try clear hcz112_2
            try clear hcz114_0
            try clear hcz114_1
            try clear hcz114_2
            try clear hcz118_0
            try clear hcz118_1
            try clear hcz118_2
            try clear hcz129_0
            try clear hcz129_1
            try clear hcz129_2
            try clear hcz137_0
            try clear hcz137_1
            try clear hcz137_2
            try clear hcz13_0
            try clear hcz13_1
            try clear hcz13_2
            try clear hcz141_0
            try clear hcz141_1
            try clear hcz141_2
            try clear hcz147_0
            try clear hcz147_1
            try clear hcz147_2
            try clear hcz151_0
            try clear hcz151_1
            try clear hcz151_2
            try clear hcz15_0
            try clear hcz15_1
            try clear hcz15_2
            try clear hcz23_0
            try clear hcz23_1
            try clear hcz23_2
            try clear hcz25_0
            try clear hcz25_1
            try clear hcz25_2
            try clear hcz31_0
            try clear hcz31_1
            try clear hcz31_2
            try clear hcz39_0
            try clear hcz39_1
            try clear hcz39_2
            try clear hcz46_0
            try clear hcz46_1
            try clear hcz46_2
            try clear hcz49_0
            try clear hcz49_1
            try clear hcz49_2
            try clear hcz54_0
            try clear hcz54_1
            try clear hcz54_2
            try clear hcz57_0
            try clear hcz57_1
            try clear hcz57_2
            try clear hcz5_0
            try clear hcz5_1
            try clear hcz5_2
            try clear hcz73_0
            try clear hcz73_1
            try clear hcz73_2
            try clear hcz81_0
            try clear hcz81_1
            try clear hcz81_2
            try clear hcz84_0
            try clear hcz84_1
            try clear hcz84_2
            try clear hcz89_0
            try clear hcz89_1
            try clear hcz89_2
            try clear hcz92_0
            try clear hcz92_1
            try clear hcz92_2
            try clear hfz101_0
            try clear hfz101_1
            try clear hfz101_2
            try clear hfz103_0
            try clear hfz103_1
            try clear hfz103_2
            try clear hfz112_0
            try clear hfz112_1
            try clear hfz112_2
            try clear hfz114_0
            try clear hfz114_1
            try clear hfz114_2
            try clear hfz118_0
            try clear hfz118_1
            try clear hfz118_2
            try clear hfz129_0
            try clear hfz129_1
            try clear hfz129_2
            try clear hfz137_0
            try clear hfz137_1
            try clear hfz137_2
            try clear hfz13_0
            try clear hfz13_1
            try clear hfz13_2
            try clear hfz141_0
            try clear hfz141_1
            try clear hfz141_2
            try clear hfz147_0
            try clear hfz147_1
            try clear hfz147_2
            try clear hfz151_0
            try clear hfz151_1
            try clear hfz151_2
            try clear hfz15_0
            try clear hfz15_1
            try clear hfz15_2
            try clear hfz23_0
            try clear hfz23_1
            try clear hfz23_2
            try clear hfz25_0
            try clear hfz25_1
            try clear hfz25_2
            try clear hfz31_0
            try clear hfz31_1
            try clear hfz31_2
            try clear hfz39_0
            try clear hfz39_1
            try clear hfz39_2
            try clear hfz46_0
            try clear hfz46_1
            try clear hfz46_2
            try clear hfz49_0
            try clear hfz49_1
            try clear hfz49_2
            try clear hfz54_0
            try clear hfz54_1
            try clear hfz54_2
            try clear hfz57_0
            try clear hfz57_1
            try clear hfz57_2
            try clear hfz5_0
            try clear hfz5_1
            try clear hfz5_2
            try clear hfz73_0
            try clear hfz73_1
            try clear hfz73_2
            try clear hfz81_0
            try clear hfz81_1
            try clear hfz81_2
            try clear hfz84_0
            try clear hfz84_1
            try clear hfz84_2
            try clear hfz89_0
            try clear hfz89_1
            try clear hfz89_2
            try clear hfz92_0
            try clear hfz92_1
            try clear hfz92_2
            try clear p2
            obtain ⟨kq, x87_107, rfl, HA, HJ107, HO_355000, HO_355001, HO_363000, HO_363001, HO_372000, HO_372001, HO_405000, HO_405001, BK337, BK354, BK362, BK371, BK404, HB⟩ := hcut
            have hl372000_107 := (rr HO_372000.out).1
            rw [hl372000_107] at HO_372000
            (try simp only [hl372000_107])
            (try simp only [hl372000_107] at BK337)
            (try simp only [hl372000_107] at BK354)
            (try simp only [hl372000_107] at BK362)
            (try simp only [hl372000_107] at BK371)
            (try simp only [hl372000_107] at BK404)
            (try simp only [hl372000_107] at HO_355000)
            (try simp only [hl372000_107] at HO_355001)
            (try simp only [hl372000_107] at HO_363000)
            (try simp only [hl372000_107] at HO_363001)
            (try simp only [hl372000_107] at HO_372001)
            (try simp only [hl372000_107] at HO_405000)
            (try simp only [hl372000_107] at HO_405001)
            have hl372001_107 := (rr HO_372001.out).1
            rw [hl372001_107] at HO_372001
            (try simp only [hl372001_107])
            (try simp only [hl372001_107] at BK337)
            (try simp only [hl372001_107] at BK354)
            (try simp only [hl372001_107] at BK362)
            (try simp only [hl372001_107] at BK371)
            (try simp only [hl372001_107] at BK404)
            (try simp only [hl372001_107] at HO_355000)
            (try simp only [hl372001_107] at HO_355001)
            (try simp only [hl372001_107] at HO_363000)
            (try simp only [hl372001_107] at HO_363001)
            (try simp only [hl372001_107] at HO_372000)
            (try simp only [hl372001_107] at HO_405000)
            (try simp only [hl372001_107] at HO_405001)
            cases kq with
            | zero => exact absurd HA.out (by simp [laws_FnExactCleanTable.j2])
            | succ kj107 =>
             have H := HA.out
             clear HA
             simp only [laws_FnExactCleanTable.j2] at H
             by_cases c153 : x87_107 = true
             ·subst c153
              have H1 : (some false) = some r := by rw [if_pos rfl] at H; exact H
              clear H
              have H := H1
              clear H1
              obtain rfl := Option.some.inj H
              go_wp2
              go_ret
              exact ⟨xV, xW HB.out⟩
             ·replace c153 := Bool.eq_false_iff.mpr c153
              subst c153
              have H1 : ((laws_heldTable.f kj107 t386 t387 t369 1).bind fun t406 => (if t406 < 0 then (some false) else (if t406 = t385 then (some true) else (some false)))) = some r := by rw [if_neg (show ¬ (false = true) by decide)] at H; exact H
              clear H
              have H := H1
              clear H1
              replace H := Option.bind_eq_some_iff.mp H
              obtain ⟨t406, A1540, H⟩ := H
              replace H : (if t406 < 0 then (some false) else (if t406 = t385 then (some true) else (some false))) = some r := H
              have A154 := am A1540
              clear A1540
              by_cases c155 : t406 < 0
              ·rw [if_pos c155] at H
               have c155b0 : decide (t406 < 0) = true := decide_eq_true c155
               clear c155
               obtain rfl := Option.some.inj H
               have hnb156 := NB371_337.out
               have hnc156 := NB337_371.out
               have hnb157 := NB371_354.out
               have hnc157 := NB354_371.out
               have hnb158 := NB371_362.out
               have hnc158 := NB362_371.out
               have hnb159 := NB371_404.out
               have hnc159 := NB404_371.out
               obtain ⟨hcz160_0, hcz160_1, hcz160_2, hfz160_0, hfz160_1, hfz160_2⟩ := xT3 (W := wc) BK371.out
               go_wp2_with (first | ((with_reducible refine gate_callee (f := 35) rfl ?_); refine xG (some 90) 35 Try.func35 #[.agg #[.slice Ao35 t386.length co35, .slice Ao40 t387.length co40, .int .i64 t369], .int .i64 1] (h := ?_); (with_reducible refine (laws_heldTable.calls kj107 _ _ t386 _ _ t387 t369 1 t406 _ ?side1 ?side2 ?side3 ?side4 A154.out).mono ?_); (case side1 => exact xC ((rr HO_372000.out).2.2)); (case side2 => exact (rr HO_372000.out).2.1); (case side3 => exact xC ((rr HO_372001.out).2.2)); (case side4 => exact (rr HO_372001.out).2.1); rintro e w161 ⟨rfl, hb⟩; refine ⟨_, rfl, ?_⟩; have n0_ := am (rb (xR HO_355000.out) hb); have n1_ := am (rb (xR HO_355001.out) hb); have n2_ := am (rb (xR HO_363000.out) hb); have n3_ := am (rb (xR HO_363001.out) hb); have n4_ := am (rb (xR HO_372000.out) hb); have n5_ := am (rb (xR HO_372001.out) hb); have n6_ := am (rb (xR HO_405000.out) hb); have n7_ := am (rb (xR HO_405001.out) hb); have n8_ := am (bb (xB BK337.out) hb); have n9_ := am (bb (xB BK354.out) hb); have n10_ := am (bb (xB BK362.out) hb); have n11_ := am (bb (xB BK371.out) hb); have n12_ := am (bb (xB BK404.out) hb); have n13_ := am (bs (xW HB.out) hb); clear HO_355000; clear HO_355001; clear HO_363000; clear HO_363001; clear HO_372000; clear HO_372001; clear HO_405000; clear HO_405001; clear BK337; clear BK354; clear BK362; clear BK371; clear BK404; clear HB; have HO_355000 := n0_; have HO_355001 := n1_; have HO_363000 := n2_; have HO_363001 := n3_; have HO_372000 := n4_; have HO_372001 := n5_; have HO_405000 := n6_; have HO_405001 := n7_; have BK337 := n8_; have BK354 := n9_; have BK362 := n10_; have BK371 := n11_; have BK404 := n12_; have HB := n13_; clear n0_ n1_ n2_ n3_ n4_ n5_ n6_ n7_ n8_ n9_ n10_ n11_ n12_ n13_; (try clear hb); (try clear hb2); (try clear hk); (try clear hi)))
               go_ret
               exact ⟨xV, xW HB.out⟩
              ·rw [if_neg c155] at H
               have c155b0 : decide (t406 < 0) = false := decide_eq_false c155
               clear c155
               by_cases c162 : t406 = t385
               ·rw [if_pos c162] at H
                have c162b0 : (t406 == t385) = true := beq_iff_eq.mpr c162
                have c162b1 : (t406 != t385) = false := bne_eq_false_iff_eq.mpr c162
                clear c162
                obtain rfl := Option.some.inj H
                have hnb163 := NB371_337.out
                have hnc163 := NB337_371.out
                have hnb164 := NB371_354.out
                have hnc164 := NB354_371.out
                have hnb165 := NB371_362.out
                have hnc165 := NB362_371.out
                have hnb166 := NB371_404.out
                have hnc166 := NB404_371.out
                obtain ⟨hcz167_0, hcz167_1, hcz167_2, hfz167_0, hfz167_1, hfz167_2⟩ := xT3 (W := wc) BK371.out
                go_wp2_with (first | ((with_reducible refine gate_callee (f := 35) rfl ?_); refine xG (some 90) 35 Try.func35 #[.agg #[.slice Ao35 t386.length co35, .slice Ao40 t387.length co40, .int .i64 t369], .int .i64 1] (h := ?_); (with_reducible refine (laws_heldTable.calls kj107 _ _ t386 _ _ t387 t369 1 t406 _ ?side1 ?side2 ?side3 ?side4 A154.out).mono ?_); (case side1 => exact xC ((rr HO_372000.out).2.2)); (case side2 => exact (rr HO_372000.out).2.1); (case side3 => exact xC ((rr HO_372001.out).2.2)); (case side4 => exact (rr HO_372001.out).2.1); rintro e w168 ⟨rfl, hb⟩; refine ⟨_, rfl, ?_⟩; have n0_ := am (rb (xR HO_355000.out) hb); have n1_ := am (rb (xR HO_355001.out) hb); have n2_ := am (rb (xR HO_363000.out) hb); have n3_ := am (rb (xR HO_363001.out) hb); have n4_ := am (rb (xR HO_372000.out) hb); have n5_ := am (rb (xR HO_372001.out) hb); have n6_ := am (rb (xR HO_405000.out) hb); have n7_ := am (rb (xR HO_405001.out) hb); have n8_ := am (bb (xB BK337.out) hb); have n9_ := am (bb (xB BK354.out) hb); have n10_ := am (bb (xB BK362.out) hb); have n11_ := am (bb (xB BK371.out) hb); have n12_ := am (bb (xB BK404.out) hb); have n13_ := am (bs (xW HB.out) hb); clear HO_355000; clear HO_355001; clear HO_363000; clear HO_363001; clear HO_372000; clear HO_372001; clear HO_405000; clear HO_405001; clear BK337; clear BK354; clear BK362; clear BK371; clear BK404; clear HB; have HO_355000 := n0_; have HO_355001 := n1_; have HO_363000 := n2_; have HO_363001 := n3_; have HO_372000 := n4_; have HO_372001 := n5_; have HO_405000 := n6_; have HO_405001 := n7_; have BK337 := n8_; have BK354 := n9_; have BK362 := n10_; have BK371 := n11_; have BK404 := n12_; have HB := n13_; clear n0_ n1_ n2_ n3_ n4_ n5_ n6_ n7_ n8_ n9_ n10_ n11_ n12_ n13_; (try clear hb); (try clear hb2); (try clear hk); (try clear hi)))
                go_ret
                exact ⟨xV, xW HB.out⟩
               ·rw [if_neg c162] at H
                have c162b0 : (t406 == t385) = false := beq_eq_false_iff_ne.mpr c162
                have c162b1 : (t406 != t385) = true := bne_iff_ne.mpr c162
                obtain rfl := Option.some.inj H
                have hnb169 := NB371_337.out
                have hnc169 := NB337_371.out
                have hnb170 := NB371_354.out
                have hnc170 := NB354_371.out
                have hnb171 := NB371_362.out
                have hnc171 := NB362_371.out
                have hnb172 := NB371_404.out
                have hnc172 := NB404_371.out
                obtain ⟨hcz173_0, hcz173_1, hcz173_2, hfz173_0, hfz173_1, hfz173_2⟩ := xT3 (W := wc) BK371.out
                go_wp2_with (first | ((with_reducible refine gate_callee (f := 35) rfl ?_); refine xG (some 90) 35 Try.func35 #[.agg #[.slice Ao35 t386.length co35, .slice Ao40 t387.length co40, .int .i64 t369], .int .i64 1] (h := ?_); (with_reducible refine (laws_heldTable.calls kj107 _ _ t386 _ _ t387 t369 1 t406 _ ?side1 ?side2 ?side3 ?side4 A154.out).mono ?_); (case side1 => exact xC ((rr HO_372000.out).2.2)); (case side2 => exact (rr HO_372000.out).2.1); (case side3 => exact xC ((rr HO_372001.out).2.2)); (case side4 => exact (rr HO_372001.out).2.1); rintro e w174 ⟨rfl, hb⟩; refine ⟨_, rfl, ?_⟩; have n0_ := am (rb (xR HO_355000.out) hb); have n1_ := am (rb (xR HO_355001.out) hb); have n2_ := am (rb (xR HO_363000.out) hb); have n3_ := am (rb (xR HO_363001.out) hb); have n4_ := am (rb (xR HO_372000.out) hb); have n5_ := am (rb (xR HO_372001.out) hb); have n6_ := am (rb (xR HO_405000.out) hb); have n7_ := am (rb (xR HO_405001.out) hb); have n8_ := am (bb (xB BK337.out) hb); have n9_ := am (bb (xB BK354.out) hb); have n10_ := am (bb (xB BK362.out) hb); have n11_ := am (bb (xB BK371.out) hb); have n12_ := am (bb (xB BK404.out) hb); have n13_ := am (bs (xW HB.out) hb); clear HO_355000; clear HO_355001; clear HO_363000; clear HO_363001; clear HO_372000; clear HO_372001; clear HO_405000; clear HO_405001; clear BK337; clear BK354; clear BK362; clear BK371; clear BK404; clear HB; have HO_355000 := n0_; have HO_355001 := n1_; have HO_363000 := n2_; have HO_363001 := n3_; have HO_372000 := n4_; have HO_372001 := n5_; have HO_405000 := n6_; have HO_405001 := n7_; have BK337 := n8_; have BK354 := n9_; have BK362 := n10_; have BK371 := n11_; have BK404 := n12_; have HB := n13_; clear n0_ n1_ n2_ n3_ n4_ n5_ n6_ n7_ n8_ n9_ n10_ n11_ n12_ n13_; (try clear hb); (try clear hb2); (try clear hk); (try clear hi)))
                go_ret
                exact ⟨xV, xW HB.out⟩
          ·rw [if_neg c105] at H
           have c105b0 : (t388 == t385) = false := beq_eq_false_iff_ne.mpr c105
           have c105b1 : (t388 != t385) = true := bne_iff_ne.mpr c105
           obtain rfl := Option.some.inj H
           have hnb175 := NB371_337.out
           have hnc175 := NB337_371.out
           have hnb176 := NB371_354.out
           have hnc176 := NB354_371.out
           have hnb177 := NB371_362.out
           have hnc177 := NB362_371.out
           obtain ⟨hcz178_0, hcz178_1, hcz178_2, hfz178_0, hfz178_1, hfz178_2⟩ := xT3 (W := wc) BK371.out
           go_wp2_with (first | ((with_reducible refine gate_callee (f := 30) rfl ?_); refine xG (some 64) 30 Try.func30 #[.agg #[.slice Ao35 t363.length co35, .slice Ao40 t366.length co40, .int .i64 t369], .int .i64 1] (h := ?_); (with_reducible refine (laws_markTable.calls kj63 (fun k_ => some k_ = (.slice Ao35 t363.length co35 : Value).ownBlock) (.slice Ao35 t363.length co35) t363 (fun k_ => some k_ = (.slice Ao40 t366.length co40 : Value).ownBlock) (.slice Ao40 t366.length co40) t366 t369 1 t385 t386 t387 w _ ?side1 ?side2 ?side3 ?side4 ?side5 A95.out).mono ?_); (case side1 => repeat (first | (with_reducible first | exact HB.out | apply wa | apply wn | apply wd | refine ws ?_ GE337.out | refine ws ?_ GE354.out | refine ws ?_ GE362.out | refine ws ?_ GE371.out) | exact HB.out)); (case side2 => exact Kd.R_tight rfl HO_372000.out); (case side3 => first | exact fun k_ e_ => (HO_372000.out.1 k_ e_.symm).2.2.2.2 | exact fun k_ e_ hs_ => by have hh_ := HO_372000.out.1 k_ e_.symm; revert hh_; simp [hs_]); (case side4 => exact Kd.R_tight rfl HO_372001.out); (case side5 => first | exact fun k_ e_ => (HO_372001.out.1 k_ e_.symm).2.2.2.2 | exact fun k_ e_ hs_ => by have hh_ := HO_372001.out.1 k_ e_.symm; revert hh_; simp [hs_]); rintro e w179 ⟨rfl, hy0, hy1, hb, hkp⟩; refine ⟨_, rfl, ?_⟩; have n0_ := am (rm (ok' := fun k_ => some k_ ≠ (.slice Ao24 t349.length co24 : Value).ownBlock ∧ some k_ ≠ (.slice Ao28 t382.length co28 : Value).ownBlock ∧ some k_ ≠ (.slice Ao32 t383.length co32 : Value).ownBlock ∧ some k_ ≠ (.slice Ao35 t363.length co35 : Value).ownBlock ∧ some k_ ≠ (.slice Ao40 t366.length co40 : Value).ownBlock) (rk (HO_355000.out) hkp (fun k_ hk_ hs_ => by rcases hs_ with e_ | e_ <;> (revert hk_; simp [e_]))) (fun k_ hk_ => by simp [hk_])); have n1_ := am (rm (ok' := fun k_ => some k_ ≠ (.slice Ao21 t346.length co21 : Value).ownBlock ∧ some k_ ≠ (.slice Ao28 t382.length co28 : Value).ownBlock ∧ some k_ ≠ (.slice Ao32 t383.length co32 : Value).ownBlock ∧ some k_ ≠ (.slice Ao35 t363.length co35 : Value).ownBlock ∧ some k_ ≠ (.slice Ao40 t366.length co40 : Value).ownBlock) (rk (HO_355001.out) hkp (fun k_ hk_ hs_ => by rcases hs_ with e_ | e_ <;> (revert hk_; simp [e_]))) (fun k_ hk_ => by simp [hk_])); have n2_ := am (rm (ok' := fun k_ => some k_ ≠ (.slice Ao21 t346.length co21 : Value).ownBlock ∧ some k_ ≠ (.slice Ao24 t349.length co24 : Value).ownBlock ∧ some k_ ≠ (.slice Ao32 t383.length co32 : Value).ownBlock ∧ some k_ ≠ (.slice Ao35 t363.length co35 : Value).ownBlock ∧ some k_ ≠ (.slice Ao40 t366.length co40 : Value).ownBlock) (rk (HO_363000.out) hkp (fun k_ hk_ hs_ => by rcases hs_ with e_ | e_ <;> (revert hk_; simp [e_]))) (fun k_ hk_ => by simp [hk_])); have n3_ := am (rm (ok' := fun k_ => some k_ ≠ (.slice Ao21 t346.length co21 : Value).ownBlock ∧ some k_ ≠ (.slice Ao24 t349.length co24 : Value).ownBlock ∧ some k_ ≠ (.slice Ao28 t382.length co28 : Value).ownBlock ∧ some k_ ≠ (.slice Ao35 t363.length co35 : Value).ownBlock ∧ some k_ ≠ (.slice Ao40 t366.length co40 : Value).ownBlock) (rk (HO_363001.out) hkp (fun k_ hk_ hs_ => by rcases hs_ with e_ | e_ <;> (revert hk_; simp [e_]))) (fun k_ hk_ => by simp [hk_])); have n4_ := am (Kd.R_reok rfl hy0 (fun k_ e_ => HO_372000.out.1 k_ e_)); have n5_ := am (Kd.R_reok rfl hy1 (fun k_ e_ => HO_372001.out.1 k_ e_)); have n6_ := am (bk (xB BK337.out) hkp (fun hs_ => Or.elim hs_ (fun e_ => (fun e_ => (Kd.R_ne HO_372000.out BK337.out (by decide)) e_) e_) (fun e_ => (fun e_ => (Kd.R_ne HO_372001.out BK337.out (by decide)) e_) e_))); have n7_ := am (bk (xB BK354.out) hkp (fun hs_ => Or.elim hs_ (fun e_ => (fun e_ => (Kd.R_ne HO_372000.out BK354.out (by decide)) e_) e_) (fun e_ => (fun e_ => (Kd.R_ne HO_372001.out BK354.out (by decide)) e_) e_))); have n8_ := am (bk (xB BK362.out) hkp (fun hs_ => Or.elim hs_ (fun e_ => (fun e_ => (Kd.R_ne HO_372000.out BK362.out (by decide)) e_) e_) (fun e_ => (fun e_ => (Kd.R_ne HO_372001.out BK362.out (by decide)) e_) e_))); have n9_ := am (bk (xB BK371.out) hkp (fun hs_ => Or.elim hs_ (fun e_ => (fun e_ => (Kd.R_ne HO_372000.out BK371.out (by decide)) e_) e_) (fun e_ => (fun e_ => (Kd.R_ne HO_372001.out BK371.out (by decide)) e_) e_))); have n10_ := am (hb); clear HO_355000; clear HO_355001; clear HO_363000; clear HO_363001; clear HO_372000; clear HO_372001; clear BK337; clear BK354; clear BK362; clear BK371; clear HB; have HO_355000 := n0_; have HO_355001 := n1_; have HO_363000 := n2_; have HO_363001 := n3_; have HO_372000 := n4_; have HO_372001 := n5_; have BK337 := n6_; have BK354 := n7_; have BK362 := n8_; have BK371 := n9_; have HB := n10_; clear n0_ n1_ n2_ n3_ n4_ n5_ n6_ n7_ n8_ n9_ n10_; (try clear hb); (try clear hkp); (try clear hy0); (try clear hy1); obtain ⟨hcz180_0, hcz180_1, hcz180_2, hfz180_0, hfz180_1, hfz180_2⟩ := xT3 (W := w179) BK371.out) | ((with_reducible refine gate_callee (f := 35) rfl ?_); refine goesL_ (some 67) rfl rfl Try.func35 (by kernel_rfl) rfl #[.agg #[.slice Ao35 t386.length co35, .slice Ao40 t387.length co40, .int .i64 t369], .int .i64 1] rfl (by (try simp only [List.map_toArray, List.map_cons, List.map_nil]); first | done | (rw [show t386.length = t363.length from (rr HO_372000.out).1.symm, show t387.length = t366.length from (rr HO_372001.out).1.symm] <;> rfl) | rfl | (simp only [List.length_drop, List.length_take]; rfl)) ?_; (with_reducible refine (laws_heldTable.calls kj63 _ _ t386 _ _ t387 t369 1 t388 _ ?side1 ?side2 ?side3 ?side4 A96.out).mono ?_); (case side1 => exact xC ((rr HO_372000.out).2.2)); (case side2 => rw [show t386.length = t363.length from (rr HO_372000.out).1.symm]; exact (rr HO_372000.out).2.1); (case side3 => exact xC ((rr HO_372001.out).2.2)); (case side4 => rw [show t387.length = t366.length from (rr HO_372001.out).1.symm]; exact (rr HO_372001.out).2.1); rintro e w181 ⟨rfl, hb⟩; refine ⟨_, rfl, ?_⟩; have n0_ := am (rb (xR HO_355000.out) hb); have n1_ := am (rb (xR HO_355001.out) hb); have n2_ := am (rb (xR HO_363000.out) hb); have n3_ := am (rb (xR HO_363001.out) hb); have n4_ := am (rb (xR HO_372000.out) hb); have n5_ := am (rb (xR HO_372001.out) hb); have n6_ := am (bb (xB BK337.out) hb); have n7_ := am (bb (xB BK354.out) hb); have n8_ := am (bb (xB BK362.out) hb); have n9_ := am (bb (xB BK371.out) hb); have n10_ := am (bs (xW HB.out) hb); clear HO_355000; clear HO_355001; clear HO_363000; clear HO_363001; clear HO_372000; clear HO_372001; clear BK337; clear BK354; clear BK362; clear BK371; clear HB; have HO_355000 := n0_; have HO_355001 := n1_; have HO_363000 := n2_; have HO_363001 := n3_; have HO_372000 := n4_; have HO_372001 := n5_; have BK337 := n6_; have BK354 := n7_; have BK362 := n8_; have BK371 := n9_; have HB := n10_; clear n0_ n1_ n2_ n3_ n4_ n5_ n6_ n7_ n8_ n9_ n10_; (try clear hb); (try clear hb2); (try clear hk); (try clear hi)))
           go_ret
           exact ⟨xV, xW HB.out⟩
     ·replace c62 := Bool.eq_false_iff.mpr c62
      subst c62
      have H1 : (some false) = some r := by rw [if_neg (show ¬ (false = true) by decide)] at H; exact H
      clear H
      have H := H1
      clear H1
      obtain rfl := Option.some.inj H
      try go_wp2
      have n0_ := am (Kd.R_drew HO_355000.out)
      have n1_ := am (Kd.R_drew HO_355001.out)
      have n2_ := am (Kd.R_drew HO_363000.out)
      have n3_ := am (Kd.R_drew HO_363001.out)
      have n4_ := am (Kd.R_drew HO_372000.out)
      have n5_ := am (Kd.R_drew HO_372001.out)
      have n6_ := am (blk_drew BK337.out)
      have n7_ := am (blk_drew BK354.out)
      have n8_ := am (blk_drew BK362.out)
      have n9_ := am (blk_drew BK371.out)
      have n10_ := am (below_drew1 HB.out)
      clear HO_355000
      clear HO_355001
      clear HO_363000
      clear HO_363001
      clear HO_372000
      clear HO_372001
      clear BK337
      clear BK354
      clear BK362
      clear BK371
      clear HB
      have HO_355000 := n0_
      have HO_355001 := n1_
      have HO_363000 := n2_
      have HO_363001 := n3_
      have HO_372000 := n4_
      have HO_372001 := n5_
      have BK337 := n6_
      have BK354 := n7_
      have BK362 := n8_
      have BK371 := n9_
      have HB := n10_
      clear n0_ n1_ n2_ n3_ n4_ n5_ n6_ n7_ n8_ n9_ n10_
      refine start_ (n := 5) (S := fun w' => w'.cell? ⟨gb362, 0, none⟩ = some (.slice Ao28 t355.length co28) ∧ w'.cell? ⟨gb362, 1, none⟩ = some (.slice Ao32 t358.length co32) ∧ w'.cell? ⟨gb362, 2, none⟩ = some (.int .i64 t361) ∧ w'.cell? ⟨gb337, 0, none⟩ = some (.slice A0_0 l0_0.length c0_0) ∧ w'.cell? ⟨gb337, 1, none⟩ = some (.slice A0_1 l0_1.length c0_1) ∧ w'.cell? ⟨gb337, 2, none⟩ = some (.int .i64 a0_2)) (ds := []) #[false, false, false, false, false] (by kernel_rfl) rfl rfl ⟨(blk_cell BK362.out 0).trans rfl, (blk_cell BK362.out 1).trans rfl, (blk_cell BK362.out 2).trans rfl, (blk_cell BK337.out 0).trans rfl, (blk_cell BK337.out 1).trans rfl, (blk_cell BK337.out 2).trans rfl⟩ (fun hHeld => ?_)
      generalize wc.drew = w182 at HO_355000 HO_355001 HO_363000 HO_363001 HO_372000 HO_372001 BK337 BK354 BK362 BK371 HB hHeld ⊢
      refine take_ (i := 0) (N := some 41) (v := ?_) (a' := ?_) #[true, false, false, false, false] rfl rfl (by kernel_rfl) (fun _ _ _ h => h) (Or.inl ⟨by rfl, ?_⟩) hHeld ?_ ?_
      rotate_left
      ·rintro w' ⟨s0, s1, s2, s3, s4, s5⟩
       go_simp
       with_reducible rfl
      rotate_left
      ·simp only [Act.put, List.setIfInBounds_toArray, List.set_cons_zero, List.set_cons_succ, i64_w, i32_w]
       rfl
      refine take_ (i := 1) (N := some 42) (v := ?_) (a' := ?_) #[true, true, false, false, false] rfl rfl (by kernel_rfl) (fun _ _ _ h => h) (Or.inl ⟨by rfl, ?_⟩) hHeld ?_ ?_
      rotate_left
      ·rintro w' ⟨s0, s1, s2, s3, s4, s5⟩
       go_simp
       with_reducible rfl
      rotate_left
      ·simp only [Act.put, List.setIfInBounds_toArray, List.set_cons_zero, List.set_cons_succ, i64_w, i32_w]
       rfl
      refine one_ (i := 2) (N := some 43) #[true, true, true, false, false] rfl rfl (by kernel_rfl) (by decide) (fun K hK => ?_)
      refine goes_ Try.func26 (by kernel_rfl) rfl #[.agg #[.slice A0_0 l0_0.length c0_0, .slice A0_1 l0_1.length c0_1, .int .i64 a0_2]] (by rfl) rfl rfl (by (try simp only [List.map_toArray, List.map_cons, List.map_nil]); first | done | rfl | (simp only [List.length_drop, List.length_take]; rfl)) ?_
      with_reducible refine (laws_toTable.calls kj10 _ _ l0_0 _ _ l0_1 a0_2 t373 t376 t379 _ ?side1 ?side2 ?side3 ?side4 A60.out).mono ?_
      (case side1 => exact xC (Kd.C_below HR0_0.out HB.out))
      (case side2 => exact HC0_0.out)
      (case side3 => exact xC (Kd.C_below HR0_1.out HB.out))
      (case side4 => exact HC0_1.out)
      rintro e w183 ⟨v374, v377, rfl, ho0, ho1, hb⟩
      refine ⟨_, rfl, ?_⟩
      have n0_ := am (rm (ro (ro (rl (xR HO_355000.out) hb) (re ho0)) (re ho1)) (fun _ h_ => h_.1))
      have n1_ := am (rm (ro (ro (rl (xR HO_355001.out) hb) (re ho0)) (re ho1)) (fun _ h_ => h_.1))
      have n2_ := am (rm (ro (ro (rl (xR HO_363000.out) hb) (re ho0)) (re ho1)) (fun _ h_ => h_.1))
      have n3_ := am (rm (ro (ro (rl (xR HO_363001.out) hb) (re ho0)) (re ho1)) (fun _ h_ => h_.1))
      have n4_ := am (rm (ro (ro (rl (xR HO_372000.out) hb) (re ho0)) (re ho1)) (fun _ h_ => h_.1))
      have n5_ := am (rm (ro (ro (rl (xR HO_372001.out) hb) (re ho0)) (re ho1)) (fun _ h_ => h_.1))
      have n6_ := am (Kd.R_lower (Kd.R_new' (Kd.R_new' (Kd.R_new' (Kd.R_new' (Kd.R_new' (Kd.R_new' ho0 (Kd.R_lt (xR HO_355000.out))) (Kd.R_lt (xR HO_355001.out))) (Kd.R_lt (xR HO_363000.out))) (Kd.R_lt (xR HO_363001.out))) (Kd.R_lt (xR HO_372000.out))) (Kd.R_lt (xR HO_372001.out))) (below_size (xW HB.out)))
      have n7_ := am (Kd.R_lower (Kd.R_new' (Kd.R_new' (Kd.R_new' (Kd.R_new' (Kd.R_new' (Kd.R_new' ho1 (Kd.R_lt (xR HO_355000.out))) (Kd.R_lt (xR HO_355001.out))) (Kd.R_lt (xR HO_363000.out))) (Kd.R_lt (xR HO_363001.out))) (Kd.R_lt (xR HO_372000.out))) (Kd.R_lt (xR HO_372001.out))) (below_size (xW HB.out)))
      have n8_ := am (bb (xB BK337.out) hb)
      have n9_ := am (bb (xB BK354.out) hb)
      have n10_ := am (bb (xB BK362.out) hb)
      have n11_ := am (bb (xB BK371.out) hb)
      have n12_ := am (bs (xW HB.out) hb)
      clear HO_355000
      clear HO_355001
      clear HO_363000
      clear HO_363001
      clear HO_372000
      clear HO_372001
      clear BK337
      clear BK354
      clear BK362
      clear BK371
      clear HB
      have HO_355000 := n0_
      have HO_355001 := n1_
      have HO_363000 := n2_
      have HO_363001 := n3_
      have HO_372000 := n4_
      have HO_372001 := n5_
      have HO375 := n6_
      have HO378 := n7_
      have BK337 := n8_
      have BK354 := n9_
      have BK362 := n10_
      have BK371 := n11_
      have HB := n12_
      clear n0_ n1_ n2_ n3_ n4_ n5_ n6_ n7_ n8_ n9_ n10_ n11_ n12_
      (try clear hb)
      (try clear hb2)
      (try clear hk)
      (try clear hi)
      (try clear ho0)
      (try clear ho1)
      obtain ⟨Ao184, co184, eo184⟩ := Kd.R_slice HO375.out
      (first | subst eo184 | (injection eo184 with f1_ f2_ f3_; have f4_ := f1_.symm; have f5_ := f3_.symm; clear f1_ f2_ f3_; subst f4_; subst f5_))
      obtain ⟨Ao185, co185, eo185⟩ := Kd.R_slice HO378.out
      (first | subst eo185 | (injection eo185 with f1_ f2_ f3_; have f4_ := f1_.symm; have f5_ := f3_.symm; clear f1_ f2_ f3_; subst f4_; subst f5_))
      refine hK.out _ _ ⟨(blk_cell BK362.out 0).trans rfl, (blk_cell BK362.out 1).trans rfl, (blk_cell BK362.out 2).trans rfl, (blk_cell BK337.out 0).trans rfl, (blk_cell BK337.out 1).trans rfl, (blk_cell BK337.out 2).trans rfl⟩ (fun hHeld => ?_)
      clear hK K
      refine norm_ (a' := ?_) ?_ ?_
      rotate_left
      ·show Act.put _ (some 43) _ = _
       simp only [Act.put, List.setIfInBounds_toArray, List.set_cons_zero, List.set_cons_succ, i64_w, i32_w]
       rfl
      refine one_ (i := 3) (N := some 44) #[true, true, true, true, false] rfl rfl (by kernel_rfl) (by decide) (fun K hK => ?_)
      refine goes_ Try.func27 (by kernel_rfl) rfl #[.agg #[.slice Ao28 t355.length co28, .slice Ao32 t358.length co32, .int .i64 t361], .agg #[.slice Ao184 t373.length co184, .slice Ao185 t376.length co185, .int .i64 t379]] (by rfl) rfl rfl (by (try simp only [List.map_toArray, List.map_cons, List.map_nil]); first | done | rfl | (simp only [List.length_drop, List.length_take]; rfl)) ?_
      with_reducible refine (laws_eqTable.calls kj10 _ _ t355 _ _ t358 t361 _ _ t373 _ _ t376 t379 false _ ?side1 ?side2 ?side3 ?side4 ?side5 ?side6 ?side7 ?side8 A61.out).mono ?_
      (case side1 => exact xC ((rr HO_363000.out).2.2))
      (case side2 => exact (rr HO_363000.out).2.1)
      (case side3 => exact xC ((rr HO_363001.out).2.2))
      (case side4 => exact (rr HO_363001.out).2.1)
      (case side5 => exact xC ((rr HO375.out).2.2))
      (case side6 => exact (rr HO375.out).2.1)
      (case side7 => exact xC ((rr HO378.out).2.2))
      (case side8 => exact (rr HO378.out).2.1)
      rintro e w186 ⟨rfl, hb⟩
      refine ⟨_, rfl, ?_⟩
      have n0_ := am (rb (xR HO_355000.out) hb)
      have n1_ := am (rb (xR HO_355001.out) hb)
      have n2_ := am (rb (xR HO_363000.out) hb)
      have n3_ := am (rb (xR HO_363001.out) hb)
      have n4_ := am (rb (xR HO_372000.out) hb)
      have n5_ := am (rb (xR HO_372001.out) hb)
      have n6_ := am (rb (xR HO375.out) hb)
      have n7_ := am (rb (xR HO378.out) hb)
      have n8_ := am (bb (xB BK337.out) hb)
      have n9_ := am (bb (xB BK354.out) hb)
      have n10_ := am (bb (xB BK362.out) hb)
      have n11_ := am (bb (xB BK371.out) hb)
      have n12_ := am (bs (xW HB.out) hb)
      clear HO_355000
      clear HO_355001
      clear HO_363000
      clear HO_363001
      clear HO_372000
      clear HO_372001
      clear HO375
      clear HO378
      clear BK337
      clear BK354
      clear BK362
      clear BK371
      clear HB
      have HO_355000 := n0_
      have HO_355001 := n1_
      have HO_363000 := n2_
      have HO_363001 := n3_
      have HO_372000 := n4_
      have HO_372001 := n5_
      have HO375 := n6_
      have HO378 := n7_
      have BK337 := n8_
      have BK354 := n9_
      have BK362 := n10_
      have BK371 := n11_
      have HB := n12_
      clear n0_ n1_ n2_ n3_ n4_ n5_ n6_ n7_ n8_ n9_ n10_ n11_ n12_
      (try clear hb)
      (try clear hb2)
      (try clear hk)
      (try clear hi)
      refine hK.out _ _ ⟨(blk_cell BK362.out 0).trans rfl, (blk_cell BK362.out 1).trans rfl, (blk_cell BK362.out 2).trans rfl, (blk_cell BK337.out 0).trans rfl, (blk_cell BK337.out 1).trans rfl, (blk_cell BK337.out 2).trans rfl⟩ (fun hHeld => ?_)
      clear hK K
      refine norm_ (a' := ?_) ?_ ?_
      rotate_left
      ·show Act.put _ (some 44) _ = _
       simp only [Act.put, List.setIfInBounds_toArray, List.set_cons_zero, List.set_cons_succ, i64_w, i32_w]
       rfl
      refine pure_ (i := 4) (N := some 45) (v := ?_) (a' := ?_) #[true, true, true, true, true] rfl rfl (by kernel_rfl) (fun _ _ _ h => h) (Or.inl ⟨by rfl, ?_⟩) ?_ ?_
      rotate_left
      ·intro w'
       go_simp
       with_reducible rfl
      rotate_left
      ·simp only [Act.put, List.setIfInBounds_toArray, List.set_cons_zero, List.set_cons_succ, i64_w, i32_w]
       rfl
      refine done_ (by kernel_rfl) ?_
      try go_wp2
      go_ret
      exact ⟨xV, xW HB.out⟩
end Go.Proofs.Ytmahoekbedgbcaa.HFnExactCleanTable
