/- What the row of the law needs of the printed and the plain texts. -/
import Derived.Test.YtmahoekbedgbcaaZaHX
import Derived.Test.YtmahoekbedgbcaaZaHFnExactPutKeyx0
import Derived.Test.YtmahoekbedgbcaaZaHFnExactPutKeyx2
import Derived.Test.YtmahoekbedgbcaaZaHFnExactPutKeyx3
import Derived.Test.YtmahoekbedgbcaaZaHFnExactPutKeyx8
import Derived.Test.YtmahoekbedgbcaaZaHFnExactPutKeyx12
namespace Go.Proofs.Ytmahoekbedgbcaa.HFnExactPutKey
open Go.RowKit Go.Proofs.YtmahoekbedgbcaaW.PrintWords Go.Proofs.YtmahoekbedgbcaaW.PrintLast Go.Proofs.YtmahoekbedgbcaaW.PrintMore
attribute [local go_sem] max2_int min2_int max_two min_two max_three min_three max_four min_four
set_option linter.unusedVariables false
set_option linter.unusedSimpArgs false
open Go.Proofs.YtmahoekbedgbcaaW.PrintWords renaming blk_drewN → bn, blk_drew → bd, blk_alloc → ba, below_alloc → wa, pw_below_drewN → wn, below_drew1 → wd, below_set → ws, blk_below → bb, blk_kept → bk, below_step → bs
open Go.Proofs.YtmahoekbedgbcaaW.PrintWords.Kd renaming R_alloc → ra, R_drewN → rn, R_drew → rd, R_below → rb, R_mono → rm, R_apart' → rp, R_typed → rt, R_keptB → rk, R_base → re, R_reads' → rr
open Go.Proofs.YtmahoekbedgbcaaW.PrintMore.Kd renaming R_told → ro, R_old → rl
mutual
def laws_FnExactPutKey.j0 : Nat → ByteArray → Int → Bool → Bool → Bool → List (S95) → List (S95) → Int → List (S57) → List (S57) → Int → List (S57) → List (S57) → Int → List (S57) → List (S57) → Int → Option (Bool)
 | 0, _, _, _, _, _, _, _, _, _, _, _, _, _, _, _, _, _ => none
 | k + 1, x1, x2, x9, x12, x51, x305000, x305001, x305002, x322000, x322001, x322002, x330000, x330001, x330002, x339000, x339001, x339002 => if x51 = true then (some false) else ((laws_toTable.f k x305000 x305001 x305002).bind fun bt340 => ((laws_eqTable.f k x330000 x330001 x330002 bt340.1 bt340.2.1 bt340.2.2).bind fun t347 => (if t347 = true then ((laws_markTable.f k x330000 x330001 x330002 1).bind fun bt348 => (if bt348.1 < 0 then (laws_FnExactPutKey.j1 k x1 x2 x9 true x305000 x305001 x305002 x322000 x322001 x322002 x339000 x339001 x339002) else ((laws_eqTable.f k x339000 x339001 x339002 x322000 x322001 x322002).bind fun t351 => (if t351 = true then (laws_FnExactPutKey.j1 k x1 x2 x9 (x12 != x9) x305000 x305001 x305002 x322000 x322001 x322002 x339000 x339001 x339002) else (laws_FnExactPutKey.j1 k x1 x2 x9 true x305000 x305001 x305002 x322000 x322001 x322002 x339000 x339001 x339002))))) else (some false))))
def laws_FnExactPutKey.j1 : Nat → ByteArray → Int → Bool → Bool → List (S95) → List (S95) → Int → List (S57) → List (S57) → Int → List (S57) → List (S57) → Int → Option (Bool)
 | 0, _, _, _, _, _, _, _, _, _, _, _, _, _ => none
 | k + 1, x1, x2, x9, x72, x305000, x305001, x305002, x322000, x322001, x322002, x339000, x339001, x339002 => if x72 = true then (some false) else ((laws_markTable.f k x339000 x339001 x339002 1).bind fun bt352 => ((laws_heldTable.f k bt352.2.1 bt352.2.2 x339002 1).bind fun t355 => (if t355 < 0 then (some false) else (if t355 = bt352.1 then ((laws_toTable.f k x305000 x305001 x305002).bind fun bt356 => ((impl_PutKey.f k bt356.1 bt356.2.1 bt356.2.2 x1 x2).bind fun bt363 => ((laws_eqTable.f k bt363.1 bt363.2.1 bt363.2.2.1 x322000 x322001 x322002).bind fun t372 => (if t372 = true then (laws_FnExactPutKey.j2 k bt352.1 (bt363.2.2.2 != x9) bt352.2.1 bt352.2.2 x339002) else (laws_FnExactPutKey.j2 k bt352.1 true bt352.2.1 bt352.2.2 x339002))))) else (some false)))))
def laws_FnExactPutKey.j2 : Nat → Int → Bool → List (S57) → List (S57) → Int → Option (Bool)
 | 0, _, _, _, _, _ => none
 | k + 1, x14, x100, x339000, x339001, x339002 => if x100 = true then (some false) else ((laws_heldTable.f k x339000 x339001 x339002 1).bind fun t373 => (if t373 < 0 then (some false) else (if t373 = x14 then (some true) else (some false))))
end
def laws_FnExactPutKey.f (k : Nat) (l0_0 : List (S95)) (l0_1 : List (S95)) (a0_2 : Int) (a1 : ByteArray) (a2 : Int) : Option (Bool) := if (a1.size : Int) > 1048576 then (some true) else ((laws_szTable.f k l0_0 l0_1 a0_2 1048576).bind fun t305 => (if t305 < 0 then (some true) else ((laws_toTable.f k l0_0 l0_1 a0_2).bind fun bt306 => ((spec_PutKey.f k bt306.1 bt306.2.1 bt306.2.2 a1 a2).bind fun bt313 => ((laws_toTable.f k l0_0 l0_1 a0_2).bind fun bt322 => ((impl_PutKey.f k bt322.1 bt322.2.1 bt322.2.2 a1 a2).bind fun bt330 => ((laws_eqTable.f k bt330.1 bt330.2.1 bt330.2.2.1 bt313.1 bt313.2.1 bt313.2.2.1).bind fun t339 => (if t339 = true then (laws_FnExactPutKey.j0 k a1 a2 bt313.2.2.2 bt330.2.2.2 (bt330.2.2.2 != bt313.2.2.2) l0_0 l0_1 a0_2 bt313.1 bt313.2.1 bt313.2.2.1 bt322.1 bt322.2.1 bt322.2.2 bt330.1 bt330.2.1 bt330.2.2.1) else (laws_FnExactPutKey.j0 k a1 a2 bt313.2.2.2 bt330.2.2.2 true l0_0 l0_1 a0_2 bt313.1 bt313.2.1 bt313.2.2.1 bt322.1 bt322.2.1 bt322.2.2 bt330.1 bt330.2.1 bt330.2.2.1)))))))))
set_option maxHeartbeats 8000000 in
set_option maxRecDepth 100000 in
theorem laws_FnExactPutKey.calls (k : Nat) (A0_0 : Option Addr) (c0_0 : Nat) (l0_0 : List (S95)) (A0_1 : Option Addr) (c0_1 : Nat) (l0_1 : List (S95)) (a0_2 : Int) (a1 : ByteArray) (a2 : Int) (r : Bool) (w : World) (hr0_0 : Kd.C k95 w A0_0 l0_0.length l0_0) (hc0_0 : l0_0.length ≤ c0_0) (hr0_1 : Kd.C k95 w A0_1 l0_1.length l0_1) (hc0_1 : l0_1.length ≤ c0_1) (h : laws_FnExactPutKey.f k l0_0 l0_1 a0_2 a1 a2 = some r) :
  Calls Try.prog 9 #[.agg #[.slice A0_0 l0_0.length c0_0, .slice A0_1 l0_1.length c0_1, .int .i64 a0_2], .string a1, .int .i64 a2] w fun e w' => e = .returned (.bool r) ∧ Below w.heap.size w w' := by
 have hu42 := Try.underlying42
 have hu26 := Try.underlying26
 have HR0_0 := am hr0_0
 have HC0_0 := am hc0_0
 clear hr0_0 hc0_0
 have HR0_1 := am hr0_1
 have HC0_1 := am hc0_1
 clear hr0_1 hc0_1
 have HB := am (Below.refl w.heap.size w)
 have H : (if (a1.size : Int) > 1048576 then (some true) else ((laws_szTable.f k l0_0 l0_1 a0_2 1048576).bind fun t305 => (if t305 < 0 then (some true) else ((laws_toTable.f k l0_0 l0_1 a0_2).bind fun bt306 => ((spec_PutKey.f k bt306.1 bt306.2.1 bt306.2.2 a1 a2).bind fun bt313 => ((laws_toTable.f k l0_0 l0_1 a0_2).bind fun bt322 => ((impl_PutKey.f k bt322.1 bt322.2.1 bt322.2.2 a1 a2).bind fun bt330 => ((laws_eqTable.f k bt330.1 bt330.2.1 bt330.2.2.1 bt313.1 bt313.2.1 bt313.2.2.1).bind fun t339 => (if t339 = true then (laws_FnExactPutKey.j0 k a1 a2 bt313.2.2.2 bt330.2.2.2 (bt330.2.2.2 != bt313.2.2.2) l0_0 l0_1 a0_2 bt313.1 bt313.2.1 bt313.2.2.1 bt322.1 bt322.2.1 bt322.2.2 bt330.1 bt330.2.1 bt330.2.2.1) else (laws_FnExactPutKey.j0 k a1 a2 bt313.2.2.2 bt330.2.2.2 true l0_0 l0_1 a0_2 bt313.1 bt313.2.1 bt313.2.2.1 bt322.1 bt322.2.1 bt322.2.2 bt330.1 bt330.2.1 bt330.2.2.1)))))))))) = some r := h
 clear h
 by_cases c4 : (a1.size : Int) > 1048576
 ·rw [if_pos c4] at H
  have c4b0 : decide (1048576 < (a1.size : Int)) = true := decide_eq_true c4
  have c4b1 : decide (1048576 < a1.size) = true := decide_eq_true (by omega)
  clear c4
  obtain rfl := Option.some.inj H
  go_enter Try.func9, Try.ntmps9
  go_wp2_with (first | ((with_reducible refine gate_dst (N := 3) rfl ?_); refine xE (N := 3) (cs := #[.slice A0_0 l0_0.length c0_0, .slice A0_1 l0_1.length c0_1, .int .i64 a0_2]) (t := 42) (h := ?_); intro gb304 hg w5 hbox hb; have n0_ := am (bs (xW HB.out) hb); have n1_ := am (hbox); have n2_ := am (xS hg HB.out); have n3_ := am (xS hg HB.out); clear HB; have HB := n0_; have BK304 := n1_; have GW304 := n2_; have GE304 := n3_; clear n0_ n1_ n2_ n3_; clear hb hbox hg))
  go_ret
  exact ⟨xV, xW HB.out⟩
 ·rw [if_neg c4] at H
  have c4b0 : decide (1048576 < (a1.size : Int)) = false := decide_eq_false c4
  have c4b1 : decide (1048576 < a1.size) = false := decide_eq_false (by omega)
  clear c4
  replace H := Option.bind_eq_some_iff.mp H
  obtain ⟨t305, A60, H⟩ := H
  replace H : (if t305 < 0 then (some true) else ((laws_toTable.f k l0_0 l0_1 a0_2).bind fun bt306 => ((spec_PutKey.f k bt306.1 bt306.2.1 bt306.2.2 a1 a2).bind fun bt313 => ((laws_toTable.f k l0_0 l0_1 a0_2).bind fun bt322 => ((impl_PutKey.f k bt322.1 bt322.2.1 bt322.2.2 a1 a2).bind fun bt330 => ((laws_eqTable.f k bt330.1 bt330.2.1 bt330.2.2.1 bt313.1 bt313.2.1 bt313.2.2.1).bind fun t339 => (if t339 = true then (laws_FnExactPutKey.j0 k a1 a2 bt313.2.2.2 bt330.2.2.2 (bt330.2.2.2 != bt313.2.2.2) l0_0 l0_1 a0_2 bt313.1 bt313.2.1 bt313.2.2.1 bt322.1 bt322.2.1 bt322.2.2 bt330.1 bt330.2.1 bt330.2.2.1) else (laws_FnExactPutKey.j0 k a1 a2 bt313.2.2.2 bt330.2.2.2 true l0_0 l0_1 a0_2 bt313.1 bt313.2.1 bt313.2.2.1 bt322.1 bt322.2.1 bt322.2.2 bt330.1 bt330.2.1 bt330.2.2.1)))))))) = some r := H
  have A6 := am A60
  clear A60
  by_cases c7 : t305 < 0
  ·rw [if_pos c7] at H
   have c7b0 : decide (t305 < 0) = true := decide_eq_true c7
   clear c7
   obtain rfl := Option.some.inj H
   go_enter Try.func9, Try.ntmps9
   go_wp2_with (first | ((with_reducible refine gate_dst (N := 3) rfl ?_); refine xE (N := 3) (cs := #[.slice A0_0 l0_0.length c0_0, .slice A0_1 l0_1.length c0_1, .int .i64 a0_2]) (t := 42) (h := ?_); intro gb304 hg w8 hbox hb; have n0_ := am (bs (xW HB.out) hb); have n1_ := am (hbox); have n2_ := am (xS hg HB.out); have n3_ := am (xS hg HB.out); clear HB; have HB := n0_; have BK304 := n1_; have GW304 := n2_; have GE304 := n3_; clear n0_ n1_ n2_ n3_; clear hb hbox hg; obtain ⟨hcz9_0, hcz9_1, hcz9_2, hfz9_0, hfz9_1, hfz9_2⟩ := xT3 (W := w8) BK304.out) | ((with_reducible refine gate_callee (f := 24) rfl ?_); refine xG (some 23) 24 Try.func24 #[.agg #[.slice A0_0 l0_0.length c0_0, .slice A0_1 l0_1.length c0_1, .int .i64 a0_2], .int .i64 1048576] (h := ?_); (with_reducible refine (laws_szTable.calls k _ _ l0_0 _ _ l0_1 a0_2 1048576 t305 _ ?side1 ?side2 ?side3 ?side4 A6.out).mono ?_); (case side1 => exact xC (Kd.C_below HR0_0.out HB.out)); (case side2 => exact HC0_0.out); (case side3 => exact xC (Kd.C_below HR0_1.out HB.out)); (case side4 => exact HC0_1.out); rintro e w10 ⟨rfl, hb⟩; refine ⟨_, rfl, ?_⟩; have n0_ := am (bb (xB BK304.out) hb); have n1_ := am (bs (xW HB.out) hb); clear BK304; clear HB; have BK304 := n0_; have HB := n1_; clear n0_ n1_; (try clear hb); (try clear hb2); (try clear hk); (try clear hi)))
   go_ret
   exact ⟨xV, xW HB.out⟩
  ·rw [if_neg c7] at H
   have c7b0 : decide (t305 < 0) = false := decide_eq_false c7
   clear c7
   replace H := Option.bind_eq_some_iff.mp H
   obtain ⟨⟨t306, t309, t312⟩, A110, H⟩ := H
   replace H : ((spec_PutKey.f k t306 t309 t312 a1 a2).bind fun bt313 => ((laws_toTable.f k l0_0 l0_1 a0_2).bind fun bt322 => ((impl_PutKey.f k bt322.1 bt322.2.1 bt322.2.2 a1 a2).bind fun bt330 => ((laws_eqTable.f k bt330.1 bt330.2.1 bt330.2.2.1 bt313.1 bt313.2.1 bt313.2.2.1).bind fun t339 => (if t339 = true then (laws_FnExactPutKey.j0 k a1 a2 bt313.2.2.2 bt330.2.2.2 (bt330.2.2.2 != bt313.2.2.2) l0_0 l0_1 a0_2 bt313.1 bt313.2.1 bt313.2.2.1 bt322.1 bt322.2.1 bt322.2.2 bt330.1 bt330.2.1 bt330.2.2.1) else (laws_FnExactPutKey.j0 k a1 a2 bt313.2.2.2 bt330.2.2.2 true l0_0 l0_1 a0_2 bt313.1 bt313.2.1 bt313.2.2.1 bt322.1 bt322.2.1 bt322.2.2 bt330.1 bt330.2.1 bt330.2.2.1)))))) = some r := H
   have A11 := am A110
   clear A110
   replace H := Option.bind_eq_some_iff.mp H
   obtain ⟨⟨t313, t316, t319, t320⟩, A120, H⟩ := H
   replace H : ((laws_toTable.f k l0_0 l0_1 a0_2).bind fun bt322 => ((impl_PutKey.f k bt322.1 bt322.2.1 bt322.2.2 a1 a2).bind fun bt330 => ((laws_eqTable.f k bt330.1 bt330.2.1 bt330.2.2.1 t313 t316 t319).bind fun t339 => (if t339 = true then (laws_FnExactPutKey.j0 k a1 a2 t320 bt330.2.2.2 (bt330.2.2.2 != t320) l0_0 l0_1 a0_2 t313 t316 t319 bt322.1 bt322.2.1 bt322.2.2 bt330.1 bt330.2.1 bt330.2.2.1) else (laws_FnExactPutKey.j0 k a1 a2 t320 bt330.2.2.2 true l0_0 l0_1 a0_2 t313 t316 t319 bt322.1 bt322.2.1 bt322.2.2 bt330.1 bt330.2.1 bt330.2.2.1))))) = some r := H
   have A12 := am A120
   clear A120
   replace H := Option.bind_eq_some_iff.mp H
   obtain ⟨⟨t322, t325, t328⟩, A130, H⟩ := H
   replace H : ((impl_PutKey.f k t322 t325 t328 a1 a2).bind fun bt330 => ((laws_eqTable.f k bt330.1 bt330.2.1 bt330.2.2.1 t313 t316 t319).bind fun t339 => (if t339 = true then (laws_FnExactPutKey.j0 k a1 a2 t320 bt330.2.2.2 (bt330.2.2.2 != t320) l0_0 l0_1 a0_2 t313 t316 t319 t322 t325 t328 bt330.1 bt330.2.1 bt330.2.2.1) else (laws_FnExactPutKey.j0 k a1 a2 t320 bt330.2.2.2 true l0_0 l0_1 a0_2 t313 t316 t319 t322 t325 t328 bt330.1 bt330.2.1 bt330.2.2.1)))) = some r := H
   have A13 := am A130
   clear A130
   replace H := Option.bind_eq_some_iff.mp H
   obtain ⟨⟨t330, t333, t336, t337⟩, A140, H⟩ := H
   replace H : ((laws_eqTable.f k t330 t333 t336 t313 t316 t319).bind fun t339 => (if t339 = true then (laws_FnExactPutKey.j0 k a1 a2 t320 t337 (t337 != t320) l0_0 l0_1 a0_2 t313 t316 t319 t322 t325 t328 t330 t333 t336) else (laws_FnExactPutKey.j0 k a1 a2 t320 t337 true l0_0 l0_1 a0_2 t313 t316 t319 t322 t325 t328 t330 t333 t336))) = some r := H
   have A14 := am A140
   clear A140
   have HC15 := am H
   clear H
   go_enter Try.func9, Try.ntmps9
   go_upto_region 10 with (first | ((with_reducible refine gate_dst (N := 3) rfl ?_); refine xE (N := 3) (cs := #[.slice A0_0 l0_0.length c0_0, .slice A0_1 l0_1.length c0_1, .int .i64 a0_2]) (t := 42) (h := ?_); intro gb304 hg w16 hbox hb; have n0_ := am (bs (xW HB.out) hb); have n1_ := am (hbox); have n2_ := am (xS hg HB.out); have n3_ := am (xS hg HB.out); clear HB; have HB := n0_; have BK304 := n1_; have GW304 := n2_; have GE304 := n3_; clear n0_ n1_ n2_ n3_; clear hb hbox hg; obtain ⟨hcz17_0, hcz17_1, hcz17_2, hfz17_0, hfz17_1, hfz17_2⟩ := xT3 (W := w16) BK304.out) | ((with_reducible refine gate_callee (f := 24) rfl ?_); refine xG (some 23) 24 Try.func24 #[.agg #[.slice A0_0 l0_0.length c0_0, .slice A0_1 l0_1.length c0_1, .int .i64 a0_2], .int .i64 1048576] (h := ?_); (with_reducible refine (laws_szTable.calls k _ _ l0_0 _ _ l0_1 a0_2 1048576 t305 _ ?side1 ?side2 ?side3 ?side4 A6.out).mono ?_); (case side1 => exact xC (Kd.C_below HR0_0.out HB.out)); (case side2 => exact HC0_0.out); (case side3 => exact xC (Kd.C_below HR0_1.out HB.out)); (case side4 => exact HC0_1.out); rintro e w18 ⟨rfl, hb⟩; refine ⟨_, rfl, ?_⟩; have n0_ := am (bb (xB BK304.out) hb); have n1_ := am (bs (xW HB.out) hb); clear BK304; clear HB; have BK304 := n0_; have HB := n1_; clear n0_ n1_; (try clear hb); (try clear hb2); (try clear hk); (try clear hi); obtain ⟨hcz19_0, hcz19_1, hcz19_2, hfz19_0, hfz19_1, hfz19_2⟩ := xT3 (W := w18) BK304.out) | ((with_reducible refine gate_callee (f := 26) rfl ?_); refine xG (some 28) 26 Try.func26 #[.agg #[.slice A0_0 l0_0.length c0_0, .slice A0_1 l0_1.length c0_1, .int .i64 a0_2]] (h := ?_); (with_reducible refine (laws_toTable.calls k _ _ l0_0 _ _ l0_1 a0_2 t306 t309 t312 _ ?side1 ?side2 ?side3 ?side4 A11.out).mono ?_); (case side1 => exact xC (Kd.C_below HR0_0.out HB.out)); (case side2 => exact HC0_0.out); (case side3 => exact xC (Kd.C_below HR0_1.out HB.out)); (case side4 => exact HC0_1.out); rintro e w20 ⟨v307, v310, rfl, ho0, ho1, hb⟩; refine ⟨_, rfl, ?_⟩; have n0_ := am (Kd.R_lower ho0 (below_size (xW HB.out))); have n1_ := am (Kd.R_lower ho1 (below_size (xW HB.out))); have n2_ := am (bb (xB BK304.out) hb); have n3_ := am (bs (xW HB.out) hb); clear BK304; clear HB; have HO308 := n0_; have HO311 := n1_; have BK304 := n2_; have HB := n3_; clear n0_ n1_ n2_ n3_; (try clear hb); (try clear hb2); (try clear hk); (try clear hi); (try clear ho0); (try clear ho1); obtain ⟨Ao21, co21, eo21⟩ := Kd.R_slice HO308.out; subst eo21; obtain ⟨Ao22, co22, eo22⟩ := Kd.R_slice HO311.out; subst eo22) | ((with_reducible refine gate_callee (f := 37) rfl ?_); refine xG (some 31) 37 Try.func37 #[.agg #[.slice Ao21 t306.length co21, .slice Ao22 t309.length co22, .int .i64 t312], .string a1, .int .i64 a2] (h := ?_); (with_reducible refine (spec_PutKey.calls k _ _ t306 _ _ t309 t312 a1 a2 t313 t316 t319 t320 _ ?side1 ?side2 ?side3 ?side4 A12.out).mono ?_); (case side1 => exact xC ((rr HO308.out).2.2)); (case side2 => exact (rr HO308.out).2.1); (case side3 => exact xC ((rr HO311.out).2.2)); (case side4 => exact (rr HO311.out).2.1); rintro e w23 ⟨v314, v317, rfl, ho0, ho1, hb⟩; refine ⟨_, rfl, ?_⟩; have n0_ := am (rm (ro (ro (rl (xR HO308.out) hb) (re ho0)) (re ho1)) (fun _ h_ => h_.1)); have n1_ := am (rm (ro (ro (rl (xR HO311.out) hb) (re ho0)) (re ho1)) (fun _ h_ => h_.1)); have n2_ := am (Kd.R_lower (Kd.R_new' (Kd.R_new' ho0 (Kd.R_lt (xR HO308.out))) (Kd.R_lt (xR HO311.out))) (below_size (xW HB.out))); have n3_ := am (Kd.R_lower (Kd.R_new' (Kd.R_new' ho1 (Kd.R_lt (xR HO308.out))) (Kd.R_lt (xR HO311.out))) (below_size (xW HB.out))); have n4_ := am (bb (xB BK304.out) hb); have n5_ := am (bs (xW HB.out) hb); clear HO308; clear HO311; clear BK304; clear HB; have HO308 := n0_; have HO311 := n1_; have HO315 := n2_; have HO318 := n3_; have BK304 := n4_; have HB := n5_; clear n0_ n1_ n2_ n3_ n4_ n5_; (try clear hb); (try clear hb2); (try clear hk); (try clear hi); (try clear ho0); (try clear ho1)) | ((with_reducible refine gate_dst (N := 8) rfl ?_); refine xE (N := 8) (cs := #[.slice none 0 0, .slice none 0 0, .int .i64 0]) (t := 26) (h := ?_); intro gb321 hg w24 hbox hb; have n0_ := am (rb (xR HO308.out) hb); have n1_ := am (rb (xR HO311.out) hb); have n2_ := am (rb (xR HO315.out) hb); have n3_ := am (rb (xR HO318.out) hb); have n4_ := am (bb (xB BK304.out) hb); have n5_ := am (bs (xW HB.out) hb); have n6_ := am (hbox); have n7_ := am (xS hg HB.out); have n8_ := am (xS hg HB.out); have n9_ := am (xN hg BK304.out); have n10_ := am (xM hg BK304.out); clear HO308; clear HO311; clear HO315; clear HO318; clear BK304; clear HB; have HO308 := n0_; have HO311 := n1_; have HO315 := n2_; have HO318 := n3_; have BK304 := n4_; have HB := n5_; have BK321 := n6_; have GW321 := n7_; have GE321 := n8_; have NB304_321 := n9_; have NB321_304 := n10_; clear n0_ n1_ n2_ n3_ n4_ n5_ n6_ n7_ n8_ n9_ n10_; clear hb hbox hg; obtain ⟨Ao25, co25, eo25⟩ := Kd.R_slice HO315.out; subst eo25; have hnb26 := NB321_304.out; have hnc26 := NB304_321.out; obtain ⟨hcz27_0, hcz27_1, hcz27_2, hfz27_0, hfz27_1, hfz27_2⟩ := xT3 (W := w24) BK321.out; obtain ⟨Ao28, co28, eo28⟩ := Kd.R_slice HO318.out; subst eo28; obtain ⟨hcz29_0, hcz29_1, hcz29_2, hfz29_0, hfz29_1, hfz29_2⟩ := xT3 (W := w24) BK304.out) | ((with_reducible refine gate_callee (f := 26) rfl ?_); refine xG (some 35) 26 Try.func26 #[.agg #[.slice A0_0 l0_0.length c0_0, .slice A0_1 l0_1.length c0_1, .int .i64 a0_2]] (h := ?_); (with_reducible refine (laws_toTable.calls k _ _ l0_0 _ _ l0_1 a0_2 t322 t325 t328 _ ?side1 ?side2 ?side3 ?side4 A13.out).mono ?_); (case side1 => exact Kd.C_below HR0_0.out (xW HB.out)); (case side2 => exact HC0_0.out); (case side3 => exact Kd.C_below HR0_1.out (xW HB.out)); (case side4 => exact HC0_1.out); rintro e w30 ⟨v323, v326, rfl, ho0, ho1, hb⟩; refine ⟨_, rfl, ?_⟩; have n0_ := am (rm (ro (ro (rl (xR HO308.out) hb) (re ho0)) (re ho1)) (fun _ h_ => h_.1)); have n1_ := am (rm (ro (ro (rl (xR HO311.out) hb) (re ho0)) (re ho1)) (fun _ h_ => h_.1)); have n2_ := am (rm (ro (ro (rl (xR HO315.out) hb) (re ho0)) (re ho1)) (fun _ h_ => h_.1)); have n3_ := am (rm (ro (ro (rl (xR HO318.out) hb) (re ho0)) (re ho1)) (fun _ h_ => h_.1)); have n4_ := am (Kd.R_lower (Kd.R_new' (Kd.R_new' (Kd.R_new' (Kd.R_new' ho0 (Kd.R_lt (xR HO308.out))) (Kd.R_lt (xR HO311.out))) (Kd.R_lt (xR HO315.out))) (Kd.R_lt (xR HO318.out))) (below_size (xW HB.out))); have n5_ := am (Kd.R_lower (Kd.R_new' (Kd.R_new' (Kd.R_new' (Kd.R_new' ho1 (Kd.R_lt (xR HO308.out))) (Kd.R_lt (xR HO311.out))) (Kd.R_lt (xR HO315.out))) (Kd.R_lt (xR HO318.out))) (below_size (xW HB.out))); have n6_ := am (bb (xB BK304.out) hb); have n7_ := am (bb (xP BK321.out) hb); have n8_ := am (bs (xW HB.out) hb); clear HO308; clear HO311; clear HO315; clear HO318; clear BK304; clear BK321; clear HB; have HO308 := n0_; have HO311 := n1_; have HO315 := n2_; have HO318 := n3_; have HO324 := n4_; have HO327 := n5_; have BK304 := n6_; have BK321 := n7_; have HB := n8_; clear n0_ n1_ n2_ n3_ n4_ n5_ n6_ n7_ n8_; (try clear hb); (try clear hb2); (try clear hk); (try clear hi); (try clear ho0); (try clear ho1)) | ((with_reducible refine gate_dst (N := 10) rfl ?_); refine xE (N := 10) (cs := #[.slice none 0 0, .slice none 0 0, .int .i64 0]) (t := 26) (h := ?_); intro gb329 hg w31 hbox hb; have n0_ := am (rb (xR HO308.out) hb); have n1_ := am (rb (xR HO311.out) hb); have n2_ := am (rb (xR HO315.out) hb); have n3_ := am (rb (xR HO318.out) hb); have n4_ := am (rb (xR HO324.out) hb); have n5_ := am (rb (xR HO327.out) hb); have n6_ := am (bb (xB BK304.out) hb); have n7_ := am (bb (xB BK321.out) hb); have n8_ := am (bs (xW HB.out) hb); have n9_ := am (hbox); have n10_ := am (xS hg HB.out); have n11_ := am (xS hg HB.out); have n12_ := am (xN hg BK304.out); have n13_ := am (xM hg BK304.out); have n14_ := am (xN hg BK321.out); have n15_ := am (xM hg BK321.out); clear HO308; clear HO311; clear HO315; clear HO318; clear HO324; clear HO327; clear BK304; clear BK321; clear HB; have HO308 := n0_; have HO311 := n1_; have HO315 := n2_; have HO318 := n3_; have HO324 := n4_; have HO327 := n5_; have BK304 := n6_; have BK321 := n7_; have HB := n8_; have BK329 := n9_; have GW329 := n10_; have GE329 := n11_; have NB304_329 := n12_; have NB329_304 := n13_; have NB321_329 := n14_; have NB329_321 := n15_; clear n0_ n1_ n2_ n3_ n4_ n5_ n6_ n7_ n8_ n9_ n10_ n11_ n12_ n13_ n14_ n15_; clear hb hbox hg; obtain ⟨Ao32, co32, eo32⟩ := Kd.R_slice HO324.out; subst eo32; have hnb33 := NB329_304.out; have hnc33 := NB304_329.out; have hnb34 := NB329_321.out; have hnc34 := NB321_329.out; obtain ⟨hcz35_0, hcz35_1, hcz35_2, hfz35_0, hfz35_1, hfz35_2⟩ := xT3 (W := w31) BK329.out; obtain ⟨Ao36, co36, eo36⟩ := Kd.R_slice HO327.out; subst eo36) | ((with_reducible refine gate_callee (f := 38) rfl ?_); refine xG (some 40) 38 Try.func38 #[.agg #[.slice Ao32 t322.length co32, .slice Ao36 t325.length co36, .int .i64 t328], .string a1, .int .i64 a2] (h := ?_); (with_reducible refine (impl_PutKey.calls k _ _ t322 _ _ t325 t328 a1 a2 t330 t333 t336 t337 _ ?side1 ?side2 ?side3 ?side4 A14.out).mono ?_); (case side1 => exact xD HO324.out); (case side2 => exact (rr HO324.out).2.1); (case side3 => exact xD HO327.out); (case side4 => exact (rr HO327.out).2.1); rintro e w37 ⟨v331, v334, rfl, ho0, ho1, hb⟩; refine ⟨_, rfl, ?_⟩; have n0_ := am (rm (ro (ro (rl (xR HO308.out) hb) (re ho0)) (re ho1)) (fun _ h_ => h_.1)); have n1_ := am (rm (ro (ro (rl (xR HO311.out) hb) (re ho0)) (re ho1)) (fun _ h_ => h_.1)); have n2_ := am (rm (ro (ro (rl (xR HO315.out) hb) (re ho0)) (re ho1)) (fun _ h_ => h_.1)); have n3_ := am (rm (ro (ro (rl (xR HO318.out) hb) (re ho0)) (re ho1)) (fun _ h_ => h_.1)); have n4_ := am (rm (ro (ro (rl (xR HO324.out) hb) (re ho0)) (re ho1)) (fun _ h_ => h_.1)); have n5_ := am (rm (ro (ro (rl (xR HO327.out) hb) (re ho0)) (re ho1)) (fun _ h_ => h_.1)); have n6_ := am (Kd.R_lower (Kd.R_new' (Kd.R_new' (Kd.R_new' (Kd.R_new' (Kd.R_new' (Kd.R_new' ho0 (Kd.R_lt (xR HO308.out))) (Kd.R_lt (xR HO311.out))) (Kd.R_lt (xR HO315.out))) (Kd.R_lt (xR HO318.out))) (Kd.R_lt (xR HO324.out))) (Kd.R_lt (xR HO327.out))) (below_size (xW HB.out))); have n7_ := am (Kd.R_lower (Kd.R_new' (Kd.R_new' (Kd.R_new' (Kd.R_new' (Kd.R_new' (Kd.R_new' ho1 (Kd.R_lt (xR HO308.out))) (Kd.R_lt (xR HO311.out))) (Kd.R_lt (xR HO315.out))) (Kd.R_lt (xR HO318.out))) (Kd.R_lt (xR HO324.out))) (Kd.R_lt (xR HO327.out))) (below_size (xW HB.out))); have n8_ := am (bb (xB BK304.out) hb); have n9_ := am (bb (xB BK321.out) hb); have n10_ := am (bb (xP BK329.out) hb); have n11_ := am (bs (xW HB.out) hb); clear HO308; clear HO311; clear HO315; clear HO318; clear HO324; clear HO327; clear BK304; clear BK321; clear BK329; clear HB; have HO308 := n0_; have HO311 := n1_; have HO315 := n2_; have HO318 := n3_; have HO324 := n4_; have HO327 := n5_; have HO332 := n6_; have HO335 := n7_; have BK304 := n8_; have BK321 := n9_; have BK329 := n10_; have HB := n11_; clear n0_ n1_ n2_ n3_ n4_ n5_ n6_ n7_ n8_ n9_ n10_ n11_; (try clear hb); (try clear hb2); (try clear hk); (try clear hi); (try clear ho0); (try clear ho1)) | ((with_reducible refine gate_dst (N := 11) rfl ?_); refine xE (N := 11) (cs := #[.slice none 0 0, .slice none 0 0, .int .i64 0]) (t := 26) (h := ?_); intro gb338 hg w38 hbox hb; have n0_ := am (rb (xR HO308.out) hb); have n1_ := am (rb (xR HO311.out) hb); have n2_ := am (rb (xR HO315.out) hb); have n3_ := am (rb (xR HO318.out) hb); have n4_ := am (rb (xR HO324.out) hb); have n5_ := am (rb (xR HO327.out) hb); have n6_ := am (rb (xR HO332.out) hb); have n7_ := am (rb (xR HO335.out) hb); have n8_ := am (bb (xB BK304.out) hb); have n9_ := am (bb (xB BK321.out) hb); have n10_ := am (bb (xB BK329.out) hb); have n11_ := am (bs (xW HB.out) hb); have n12_ := am (hbox); have n13_ := am (xS hg HB.out); have n14_ := am (xS hg HB.out); have n15_ := am (xN hg BK304.out); have n16_ := am (xM hg BK304.out); have n17_ := am (xN hg BK321.out); have n18_ := am (xM hg BK321.out); have n19_ := am (xN hg BK329.out); have n20_ := am (xM hg BK329.out); clear HO308; clear HO311; clear HO315; clear HO318; clear HO324; clear HO327; clear HO332; clear HO335; clear BK304; clear BK321; clear BK329; clear HB; have HO308 := n0_; have HO311 := n1_; have HO315 := n2_; have HO318 := n3_; have HO324 := n4_; have HO327 := n5_; have HO332 := n6_; have HO335 := n7_; have BK304 := n8_; have BK321 := n9_; have BK329 := n10_; have HB := n11_; have BK338 := n12_; have GW338 := n13_; have GE338 := n14_; have NB304_338 := n15_; have NB338_304 := n16_; have NB321_338 := n17_; have NB338_321 := n18_; have NB329_338 := n19_; have NB338_329 := n20_; clear n0_ n1_ n2_ n3_ n4_ n5_ n6_ n7_ n8_ n9_ n10_ n11_ n12_ n13_ n14_ n15_ n16_ n17_ n18_ n19_ n20_; clear hb hbox hg; obtain ⟨Ao39, co39, eo39⟩ := Kd.R_slice HO332.out; subst eo39; have hnb40 := NB338_304.out; have hnc40 := NB304_338.out; have hnb41 := NB338_321.out; have hnc41 := NB321_338.out; have hnb42 := NB338_329.out; have hnc42 := NB329_338.out; obtain ⟨hcz43_0, hcz43_1, hcz43_2, hfz43_0, hfz43_1, hfz43_2⟩ := xT3 (W := w38) BK338.out; obtain ⟨Ao44, co44, eo44⟩ := Kd.R_slice HO335.out; subst eo44))
   (try simp only [Act.put, List.setIfInBounds_toArray, List.set_cons_zero, List.set_cons_succ])
   go_cut [51] (fun v51 wc => ∃ (kq : Nat) (x51_14 : Bool), v51 = .bool x51_14 ∧ Aside0 (laws_FnExactPutKey.j0 kq a1 a2 t320 t337 x51_14 l0_0 l0_1 a0_2 t313 t316 t319 t322 t325 t328 t330 t333 t336 = some r) ∧ Aside0 (kq ≤ k) ∧ Aside0 (Kd.R k57 57 wc w.heap.size (fun k_ => some k_ ≠ ((.slice Ao28 t316.length co28) : Value).ownBlock ∧ some k_ ≠ ((.slice Ao32 t322.length co32) : Value).ownBlock ∧ some k_ ≠ ((.slice Ao36 t325.length co36) : Value).ownBlock ∧ some k_ ≠ ((.slice Ao39 t330.length co39) : Value).ownBlock ∧ some k_ ≠ ((.slice Ao44 t333.length co44) : Value).ownBlock) (.slice Ao25 t313.length co25) t313) ∧ Aside0 (Kd.R k57 57 wc w.heap.size (fun k_ => some k_ ≠ ((.slice Ao25 t313.length co25) : Value).ownBlock ∧ some k_ ≠ ((.slice Ao32 t322.length co32) : Value).ownBlock ∧ some k_ ≠ ((.slice Ao36 t325.length co36) : Value).ownBlock ∧ some k_ ≠ ((.slice Ao39 t330.length co39) : Value).ownBlock ∧ some k_ ≠ ((.slice Ao44 t333.length co44) : Value).ownBlock) (.slice Ao28 t316.length co28) t316) ∧ Aside0 (Kd.R k57 57 wc w.heap.size (fun k_ => some k_ ≠ ((.slice Ao25 t313.length co25) : Value).ownBlock ∧ some k_ ≠ ((.slice Ao28 t316.length co28) : Value).ownBlock ∧ some k_ ≠ ((.slice Ao36 t325.length co36) : Value).ownBlock ∧ some k_ ≠ ((.slice Ao39 t330.length co39) : Value).ownBlock ∧ some k_ ≠ ((.slice Ao44 t333.length co44) : Value).ownBlock) (.slice Ao32 t322.length co32) t322) ∧ Aside0 (Kd.R k57 57 wc w.heap.size (fun k_ => some k_ ≠ ((.slice Ao25 t313.length co25) : Value).ownBlock ∧ some k_ ≠ ((.slice Ao28 t316.length co28) : Value).ownBlock ∧ some k_ ≠ ((.slice Ao32 t322.length co32) : Value).ownBlock ∧ some k_ ≠ ((.slice Ao39 t330.length co39) : Value).ownBlock ∧ some k_ ≠ ((.slice Ao44 t333.length co44) : Value).ownBlock) (.slice Ao36 t325.length co36) t325) ∧ Aside0 (Kd.R k57 57 wc w.heap.size (fun k_ => some k_ ≠ ((.slice Ao25 t313.length co25) : Value).ownBlock ∧ some k_ ≠ ((.slice Ao28 t316.length co28) : Value).ownBlock ∧ some k_ ≠ ((.slice Ao32 t322.length co32) : Value).ownBlock ∧ some k_ ≠ ((.slice Ao36 t325.length co36) : Value).ownBlock ∧ some k_ ≠ ((.slice Ao44 t333.length co44) : Value).ownBlock) (.slice Ao39 t330.length co39) t330) ∧ Aside0 (Kd.R k57 57 wc w.heap.size (fun k_ => some k_ ≠ ((.slice Ao25 t313.length co25) : Value).ownBlock ∧ some k_ ≠ ((.slice Ao28 t316.length co28) : Value).ownBlock ∧ some k_ ≠ ((.slice Ao32 t322.length co32) : Value).ownBlock ∧ some k_ ≠ ((.slice Ao36 t325.length co36) : Value).ownBlock ∧ some k_ ≠ ((.slice Ao39 t330.length co39) : Value).ownBlock) (.slice Ao44 t333.length co44) t333) ∧ Aside0 (wc.heap[gb304]? = some (.cells #[(.slice A0_0 l0_0.length c0_0), (.slice A0_1 l0_1.length c0_1), .int .i64 a0_2] 42 (0, 0))) ∧ Aside0 (wc.heap[gb321]? = some (.cells #[(.slice Ao25 t313.length co25), (.slice Ao28 t316.length co28), .int .i64 t319] 26 (0, 0))) ∧ Aside0 (wc.heap[gb329]? = some (.cells #[(.slice Ao32 t322.length co32), (.slice Ao36 t325.length co36), .int .i64 t328] 26 (0, 0))) ∧ Aside0 (wc.heap[gb338]? = some (.cells #[(.slice Ao39 t330.length co39), (.slice Ao44 t333.length co44), .int .i64 t336] 26 (0, 0))) ∧ Aside0 (Below w.heap.size w wc))
   case first =>
    have H := HC15.out
    clear HC15
    replace H := Option.bind_eq_some_iff.mp H
    obtain ⟨t339, A450, H⟩ := H
    replace H : (if t339 = true then (laws_FnExactPutKey.j0 k a1 a2 t320 t337 (t337 != t320) l0_0 l0_1 a0_2 t313 t316 t319 t322 t325 t328 t330 t333 t336) else (laws_FnExactPutKey.j0 k a1 a2 t320 t337 true l0_0 l0_1 a0_2 t313 t316 t319 t322 t325 t328 t330 t333 t336)) = some r := H
    have A45 := am A450
    clear A450
    by_cases c46 : t339 = true
    ·subst c46
     have H1 : (laws_FnExactPutKey.j0 k a1 a2 t320 t337 (t337 != t320) l0_0 l0_1 a0_2 t313 t316 t319 t322 t325 t328 t330 t333 t336) = some r := by rw [if_pos rfl] at H; exact H
     clear H
     have H := H1
     clear H1
     have H' := am H
     clear H
     have hnb47 := NB338_304.out
     have hnc47 := NB304_338.out
     have hnb48 := NB338_321.out
     have hnc48 := NB321_338.out
     have hnb49 := NB338_329.out
     have hnc49 := NB329_338.out
     obtain ⟨hcz50_0, hcz50_1, hcz50_2, hfz50_0, hfz50_1, hfz50_2⟩ := xT3 (W := w38) BK338.out
     have hnb51 := NB321_304.out
     have hnc51 := NB304_321.out
     have hnb52 := NB321_329.out
     have hnc52 := NB329_321.out
     obtain ⟨hcz53_0, hcz53_1, hcz53_2, hfz53_0, hfz53_1, hfz53_2⟩ := xT3 (W := w38) BK321.out
     go_wp2_with (first | ((with_reducible refine gate_callee (f := 27) rfl ?_); refine xG (some 45) 27 Try.func27 #[.agg #[.slice Ao39 t330.length co39, .slice Ao44 t333.length co44, .int .i64 t336], .agg #[.slice Ao25 t313.length co25, .slice Ao28 t316.length co28, .int .i64 t319]] (h := ?_); (with_reducible refine (laws_eqTable.calls k _ _ t330 _ _ t333 t336 _ _ t313 _ _ t316 t319 true _ ?side1 ?side2 ?side3 ?side4 ?side5 ?side6 ?side7 ?side8 A45.out).mono ?_); (case side1 => exact xD HO332.out); (case side2 => exact (rr HO332.out).2.1); (case side3 => exact xD HO335.out); (case side4 => exact (rr HO335.out).2.1); (case side5 => exact xD HO315.out); (case side6 => exact (rr HO315.out).2.1); (case side7 => exact xD HO318.out); (case side8 => exact (rr HO318.out).2.1); rintro e w54 ⟨rfl, hb⟩; refine ⟨_, rfl, ?_⟩; have n0_ := am (rb (xR HO308.out) hb); have n1_ := am (rb (xR HO311.out) hb); have n2_ := am (rb (xR HO315.out) hb); have n3_ := am (rb (xR HO318.out) hb); have n4_ := am (rb (xR HO324.out) hb); have n5_ := am (rb (xR HO327.out) hb); have n6_ := am (rb (xR HO332.out) hb); have n7_ := am (rb (xR HO335.out) hb); have n8_ := am (bb (xB BK304.out) hb); have n9_ := am (bb (xB BK321.out) hb); have n10_ := am (bb (xB BK329.out) hb); have n11_ := am (bb (xP BK338.out) hb); have n12_ := am (bs (xW HB.out) hb); clear HO308; clear HO311; clear HO315; clear HO318; clear HO324; clear HO327; clear HO332; clear HO335; clear BK304; clear BK321; clear BK329; clear BK338; clear HB; have HO308 := n0_; have HO311 := n1_; have HO315 := n2_; have HO318 := n3_; have HO324 := n4_; have HO327 := n5_; have HO332 := n6_; have HO335 := n7_; have BK304 := n8_; have BK321 := n9_; have BK329 := n10_; have BK338 := n11_; have HB := n12_; clear n0_ n1_ n2_ n3_ n4_ n5_ n6_ n7_ n8_ n9_ n10_ n11_ n12_; (try clear hb); (try clear hb2); (try clear hk); (try clear hi)))
     go_meet
     case rel => exact ⟨_, ((t337 != t320)), (xQ), H', ⟨by first | omega | exact Nat.le_refl _⟩, ⟨Kd.R_mono (xR HO315.out) xI⟩, ⟨Kd.R_mono (xR HO318.out) xI⟩, ⟨Kd.R_mono (xR HO324.out) xI⟩, ⟨Kd.R_mono (xR HO327.out) xI⟩, ⟨Kd.R_mono (xR HO332.out) xI⟩, ⟨Kd.R_mono (xR HO335.out) xI⟩, ⟨xB BK304.out⟩, ⟨xB BK321.out⟩, ⟨xB BK329.out⟩, ⟨xB BK338.out⟩, ⟨xW HB.out⟩⟩
    ·replace c46 := Bool.eq_false_iff.mpr c46
     subst c46
     have H1 : (laws_FnExactPutKey.j0 k a1 a2 t320 t337 true l0_0 l0_1 a0_2 t313 t316 t319 t322 t325 t328 t330 t333 t336) = some r := by rw [if_neg (show ¬ (false = true) by decide)] at H; exact H
     clear H
     have H := H1
     clear H1
     have H' := am H
     clear H
     have hnb55 := NB338_304.out
     have hnc55 := NB304_338.out
     have hnb56 := NB338_321.out
     have hnc56 := NB321_338.out
     have hnb57 := NB338_329.out
     have hnc57 := NB329_338.out
     obtain ⟨hcz58_0, hcz58_1, hcz58_2, hfz58_0, hfz58_1, hfz58_2⟩ := xT3 (W := w38) BK338.out
     have hnb59 := NB321_304.out
     have hnc59 := NB304_321.out
     have hnb60 := NB321_329.out
     have hnc60 := NB329_321.out
     obtain ⟨hcz61_0, hcz61_1, hcz61_2, hfz61_0, hfz61_1, hfz61_2⟩ := xT3 (W := w38) BK321.out
     go_wp2_with (first | ((with_reducible refine gate_callee (f := 27) rfl ?_); refine xG (some 45) 27 Try.func27 #[.agg #[.slice Ao39 t330.length co39, .slice Ao44 t333.length co44, .int .i64 t336], .agg #[.slice Ao25 t313.length co25, .slice Ao28 t316.length co28, .int .i64 t319]] (h := ?_); (with_reducible refine (laws_eqTable.calls k _ _ t330 _ _ t333 t336 _ _ t313 _ _ t316 t319 false _ ?side1 ?side2 ?side3 ?side4 ?side5 ?side6 ?side7 ?side8 A45.out).mono ?_); (case side1 => exact xD HO332.out); (case side2 => exact (rr HO332.out).2.1); (case side3 => exact xD HO335.out); (case side4 => exact (rr HO335.out).2.1); (case side5 => exact xD HO315.out); (case side6 => exact (rr HO315.out).2.1); (case side7 => exact xD HO318.out); (case side8 => exact (rr HO318.out).2.1); rintro e w62 ⟨rfl, hb⟩; refine ⟨_, rfl, ?_⟩; have n0_ := am (rb (xR HO308.out) hb); have n1_ := am (rb (xR HO311.out) hb); have n2_ := am (rb (xR HO315.out) hb); have n3_ := am (rb (xR HO318.out) hb); have n4_ := am (rb (xR HO324.out) hb); have n5_ := am (rb (xR HO327.out) hb); have n6_ := am (rb (xR HO332.out) hb); have n7_ := am (rb (xR HO335.out) hb); have n8_ := am (bb (xB BK304.out) hb); have n9_ := am (bb (xB BK321.out) hb); have n10_ := am (bb (xB BK329.out) hb); have n11_ := am (bb (xP BK338.out) hb); have n12_ := am (bs (xW HB.out) hb); clear HO308; clear HO311; clear HO315; clear HO318; clear HO324; clear HO327; clear HO332; clear HO335; clear BK304; clear BK321; clear BK329; clear BK338; clear HB; have HO308 := n0_; have HO311 := n1_; have HO315 := n2_; have HO318 := n3_; have HO324 := n4_; have HO327 := n5_; have HO332 := n6_; have HO335 := n7_; have BK304 := n8_; have BK321 := n9_; have BK329 := n10_; have BK338 := n11_; have HB := n12_; clear n0_ n1_ n2_ n3_ n4_ n5_ n6_ n7_ n8_ n9_ n10_ n11_ n12_; (try clear hb); (try clear hb2); (try clear hk); (try clear hi)))
     go_meet
     case rel => exact ⟨_, (true), (xQ), H', ⟨by first | omega | exact Nat.le_refl _⟩, ⟨Kd.R_mono (xR HO315.out) xI⟩, ⟨Kd.R_mono (xR HO318.out) xI⟩, ⟨Kd.R_mono (xR HO324.out) xI⟩, ⟨Kd.R_mono (xR HO327.out) xI⟩, ⟨Kd.R_mono (xR HO332.out) xI⟩, ⟨Kd.R_mono (xR HO335.out) xI⟩, ⟨xB BK304.out⟩, ⟨xB BK321.out⟩, ⟨xB BK329.out⟩, ⟨xB BK338.out⟩, ⟨xW HB.out⟩⟩
   case rest =>
    clear HC15
    try clear c2
    try clear p2
    try clear c3
    try clear c4
    try clear c4b0
    try clear c4b1
    try clear c5
    try clear c6
    try clear c7
    try clear c7b0
    try clear c9
    try clear c24
    try clear c26
    try clear c27
    try clear c33
    try clear c34
    try clear c37
    try clear c38
    try clear c40
    try clear c41
    try clear c42
    try clear c46
    try clear c47
    try clear c48
    try clear c49
    try clear c51
    try clear c52
    try clear c55
    try clear c56
    try clear c57
    try clear c59
    try clear c60
    try clear hcz17_0
    try clear hcz17_1
    try clear hcz17_2
    try clear hcz19_0
    try clear hcz19_1
    try clear hcz19_2
    try clear hcz27_0
    try clear hcz27_1
    try clear hcz27_2
    try clear hcz29_0
    try clear hcz29_1
    try clear hcz29_2
    try clear hcz35_0
    try clear hcz35_1
    try clear hcz35_2
    try clear hcz43_0
    try clear hcz43_1
    try clear hcz43_2
    try clear hcz50_0
    try clear hcz50_1
    try clear hcz50_2
    try clear hcz53_0
    try clear hcz53_1
    try clear hcz53_2
    try clear hcz58_0
    try clear hcz58_1
    try clear hcz58_2
    try clear hcz61_0
    try clear hcz61_1
    try clear hcz61_2
    try clear hcz9_0
    try clear hcz9_1
    try clear hcz9_2
    try clear hfz17_0
    try clear hfz17_1
    try clear hfz17_2
    try clear hfz19_0
    try clear hfz19_1
    try clear hfz19_2
    try clear hfz27_0
    try clear hfz27_1
    try clear hfz27_2
    try clear hfz29_0
    try clear hfz29_1
    try clear hfz29_2
    try clear hfz35_0
    try clear hfz35_1
    try clear hfz35_2
    try clear hfz43_0
    try clear hfz43_1
    try clear hfz43_2
    try clear hfz50_0
    try clear hfz50_1
    try clear hfz50_2
    try clear hfz53_0
    try clear hfz53_1
    try clear hfz53_2
    try clear hfz58_0
    try clear hfz58_1
    try clear hfz58_2
    try clear hfz61_0
    try clear hfz61_1
    try clear hfz61_2
    try clear hfz9_0
    try clear hfz9_1
    try clear hfz9_2
    obtain ⟨kq, x51_14, rfl, HA, HJ14, HO_322000, HO_322001, HO_330000, HO_330001, HO_339000, HO_339001, BK304, BK321, BK329, BK338, HB⟩ := hcut
    cases kq with
    | zero => exact absurd HA.out (by simp [laws_FnExactPutKey.j0])
    | succ kj14 =>
     have H := HA.out
     clear HA
     simp only [laws_FnExactPutKey.j0] at H
     by_cases c63 : x51_14 = true
     ·subst c63
      have H1 : (some false) = some r := by rw [if_pos rfl] at H; exact H
      clear H
      have H := H1
      clear H1
      obtain rfl := Option.some.inj H
      go_wp2
      go_ret
      exact ⟨xV, xW HB.out⟩
     ·replace c63 := Bool.eq_false_iff.mpr c63
      subst c63
      have H1 : ((laws_toTable.f kj14 l0_0 l0_1 a0_2).bind fun bt340 => ((laws_eqTable.f kj14 t322 t325 t328 bt340.1 bt340.2.1 bt340.2.2).bind fun t347 => (if t347 = true then ((laws_markTable.f kj14 t322 t325 t328 1).bind fun bt348 => (if bt348.1 < 0 then (laws_FnExactPutKey.j1 kj14 a1 a2 t320 true l0_0 l0_1 a0_2 t313 t316 t319 t330 t333 t336) else ((laws_eqTable.f kj14 t330 t333 t336 t313 t316 t319).bind fun t351 => (if t351 = true then (laws_FnExactPutKey.j1 kj14 a1 a2 t320 (t337 != t320) l0_0 l0_1 a0_2 t313 t316 t319 t330 t333 t336) else (laws_FnExactPutKey.j1 kj14 a1 a2 t320 true l0_0 l0_1 a0_2 t313 t316 t319 t330 t333 t336))))) else (some false)))) = some r := by rw [if_neg (show ¬ (false = true) by decide)] at H; exact H
      clear H
      have H := H1
      clear H1
      replace H := Option.bind_eq_some_iff.mp H
      obtain ⟨⟨t340, t343, t346⟩, A640, H⟩ := H
      replace H : ((laws_eqTable.f kj14 t322 t325 t328 t340 t343 t346).bind fun t347 => (if t347 = true then ((laws_markTable.f kj14 t322 t325 t328 1).bind fun bt348 => (if bt348.1 < 0 then (laws_FnExactPutKey.j1 kj14 a1 a2 t320 true l0_0 l0_1 a0_2 t313 t316 t319 t330 t333 t336) else ((laws_eqTable.f kj14 t330 t333 t336 t313 t316 t319).bind fun t351 => (if t351 = true then (laws_FnExactPutKey.j1 kj14 a1 a2 t320 (t337 != t320) l0_0 l0_1 a0_2 t313 t316 t319 t330 t333 t336) else (laws_FnExactPutKey.j1 kj14 a1 a2 t320 true l0_0 l0_1 a0_2 t313 t316 t319 t330 t333 t336))))) else (some false))) = some r := H
      have A64 := am A640
      clear A640
      replace H := Option.bind_eq_some_iff.mp H
      obtain ⟨t347, A650, H⟩ := H
      replace H : (if t347 = true then ((laws_markTable.f kj14 t322 t325 t328 1).bind fun bt348 => (if bt348.1 < 0 then (laws_FnExactPutKey.j1 kj14 a1 a2 t320 true l0_0 l0_1 a0_2 t313 t316 t319 t330 t333 t336) else ((laws_eqTable.f kj14 t330 t333 t336 t313 t316 t319).bind fun t351 => (if t351 = true then (laws_FnExactPutKey.j1 kj14 a1 a2 t320 (t337 != t320) l0_0 l0_1 a0_2 t313 t316 t319 t330 t333 t336) else (laws_FnExactPutKey.j1 kj14 a1 a2 t320 true l0_0 l0_1 a0_2 t313 t316 t319 t330 t333 t336))))) else (some false)) = some r := H
      have A65 := am A650
      clear A650
      by_cases c66 : t347 = true
      ·subst c66
       have H1 : ((laws_markTable.f kj14 t322 t325 t328 1).bind fun bt348 => (if bt348.1 < 0 then (laws_FnExactPutKey.j1 kj14 a1 a2 t320 true l0_0 l0_1 a0_2 t313 t316 t319 t330 t333 t336) else ((laws_eqTable.f kj14 t330 t333 t336 t313 t316 t319).bind fun t351 => (if t351 = true then (laws_FnExactPutKey.j1 kj14 a1 a2 t320 (t337 != t320) l0_0 l0_1 a0_2 t313 t316 t319 t330 t333 t336) else (laws_FnExactPutKey.j1 kj14 a1 a2 t320 true l0_0 l0_1 a0_2 t313 t316 t319 t330 t333 t336))))) = some r := by rw [if_pos rfl] at H; exact H
       clear H
       have H := H1
       clear H1
       replace H := Option.bind_eq_some_iff.mp H
       obtain ⟨⟨t348, t349, t350⟩, A670, H⟩ := H
       replace H : (if t348 < 0 then (laws_FnExactPutKey.j1 kj14 a1 a2 t320 true l0_0 l0_1 a0_2 t313 t316 t319 t330 t333 t336) else ((laws_eqTable.f kj14 t330 t333 t336 t313 t316 t319).bind fun t351 => (if t351 = true then (laws_FnExactPutKey.j1 kj14 a1 a2 t320 (t337 != t320) l0_0 l0_1 a0_2 t313 t316 t319 t330 t333 t336) else (laws_FnExactPutKey.j1 kj14 a1 a2 t320 true l0_0 l0_1 a0_2 t313 t316 t319 t330 t333 t336)))) = some r := H
       have A67 := am A670
       clear A670
       have HC68 := am H
       clear H
       try go_wp2
       have n0_ := am (Kd.R_drew HO_322000.out)
       have n1_ := am (Kd.R_drew HO_322001.out)
       have n2_ := am (Kd.R_drew HO_330000.out)
       have n3_ := am (Kd.R_drew HO_330001.out)
       have n4_ := am (Kd.R_drew HO_339000.out)
       have n5_ := am (Kd.R_drew HO_339001.out)
       have n6_ := am (blk_drew BK304.out)
       have n7_ := am (blk_drew BK321.out)
       have n8_ := am (blk_drew BK329.out)
       have n9_ := am (blk_drew BK338.out)
       have n10_ := am (below_drew1 HB.out)
       clear HO_322000
       clear HO_322001
       clear HO_330000
       clear HO_330001
       clear HO_339000
       clear HO_339001
       clear BK304
       clear BK321
       clear BK329
       clear BK338
       clear HB
       have HO_322000 := n0_
       have HO_322001 := n1_
       have HO_330000 := n2_
       have HO_330001 := n3_
       have HO_339000 := n4_
       have HO_339001 := n5_
       have BK304 := n6_
       have BK321 := n7_
       have BK329 := n8_
       have BK338 := n9_
       have HB := n10_
       clear n0_ n1_ n2_ n3_ n4_ n5_ n6_ n7_ n8_ n9_ n10_
       refine start_ (n := 5) (S := fun w' => w'.cell? ⟨gb329, 0, none⟩ = some (.slice Ao32 t322.length co32) ∧ w'.cell? ⟨gb329, 1, none⟩ = some (.slice Ao36 t325.length co36) ∧ w'.cell? ⟨gb329, 2, none⟩ = some (.int .i64 t328) ∧ w'.cell? ⟨gb304, 0, none⟩ = some (.slice A0_0 l0_0.length c0_0) ∧ w'.cell? ⟨gb304, 1, none⟩ = some (.slice A0_1 l0_1.length c0_1) ∧ w'.cell? ⟨gb304, 2, none⟩ = some (.int .i64 a0_2)) (ds := []) #[false, false, false, false, false] (by kernel_rfl) rfl rfl ⟨(blk_cell BK329.out 0).trans rfl, (blk_cell BK329.out 1).trans rfl, (blk_cell BK329.out 2).trans rfl, (blk_cell BK304.out 0).trans rfl, (blk_cell BK304.out 1).trans rfl, (blk_cell BK304.out 2).trans rfl⟩ (fun hHeld => ?_)
       generalize wc.drew = w69 at HO_322000 HO_322001 HO_330000 HO_330001 HO_339000 HO_339001 BK304 BK321 BK329 BK338 HB hHeld ⊢
       refine take_ (i := 0) (N := some 52) (v := ?_) (a' := ?_) #[true, false, false, false, false] rfl rfl (by kernel_rfl) (fun _ _ _ h => h) (Or.inl ⟨by rfl, ?_⟩) hHeld ?_ ?_
       rotate_left
       ·rintro w' ⟨s0, s1, s2, s3, s4, s5⟩
        go_simp
        with_reducible rfl
       rotate_left
       ·simp only [Act.put, List.setIfInBounds_toArray, List.set_cons_zero, List.set_cons_succ, i64_w, i32_w]
        rfl
       refine take_ (i := 1) (N := some 53) (v := ?_) (a' := ?_) #[true, true, false, false, false] rfl rfl (by kernel_rfl) (fun _ _ _ h => h) (Or.inl ⟨by rfl, ?_⟩) hHeld ?_ ?_
       rotate_left
       ·rintro w' ⟨s0, s1, s2, s3, s4, s5⟩
        go_simp
        with_reducible rfl
       rotate_left
       ·simp only [Act.put, List.setIfInBounds_toArray, List.set_cons_zero, List.set_cons_succ, i64_w, i32_w]
        rfl
       refine one_ (i := 2) (N := some 54) #[true, true, true, false, false] rfl rfl (by kernel_rfl) (by decide) (fun K hK => ?_)
       refine goes_ Try.func26 (by kernel_rfl) rfl #[.agg #[.slice A0_0 l0_0.length c0_0, .slice A0_1 l0_1.length c0_1, .int .i64 a0_2]] (by rfl) rfl rfl (by (try simp only [List.map_toArray, List.map_cons, List.map_nil]); first | done | rfl | (simp only [List.length_drop, List.length_take]; rfl)) ?_
       with_reducible refine (laws_toTable.calls kj14 _ _ l0_0 _ _ l0_1 a0_2 t340 t343 t346 _ ?side1 ?side2 ?side3 ?side4 A64.out).mono ?_
       (case side1 => exact xC (Kd.C_below HR0_0.out HB.out))
       (case side2 => exact HC0_0.out)
       (case side3 => exact xC (Kd.C_below HR0_1.out HB.out))
       (case side4 => exact HC0_1.out)
       rintro e w70 ⟨v341, v344, rfl, ho0, ho1, hb⟩
       refine ⟨_, rfl, ?_⟩
       have n0_ := am (rm (ro (ro (rl (xR HO_322000.out) hb) (re ho0)) (re ho1)) (fun _ h_ => h_.1))
       have n1_ := am (rm (ro (ro (rl (xR HO_322001.out) hb) (re ho0)) (re ho1)) (fun _ h_ => h_.1))
       have n2_ := am (rm (ro (ro (rl (xR HO_330000.out) hb) (re ho0)) (re ho1)) (fun _ h_ => h_.1))
       have n3_ := am (rm (ro (ro (rl (xR HO_330001.out) hb) (re ho0)) (re ho1)) (fun _ h_ => h_.1))
       have n4_ := am (rm (ro (ro (rl (xR HO_339000.out) hb) (re ho0)) (re ho1)) (fun _ h_ => h_.1))
       have n5_ := am (rm (ro (ro (rl (xR HO_339001.out) hb) (re ho0)) (re ho1)) (fun _ h_ => h_.1))
       have n6_ := am (Kd.R_lower (Kd.R_new' (Kd.R_new' (Kd.R_new' (Kd.R_new' (Kd.R_new' (Kd.R_new' ho0 (Kd.R_lt (xR HO_322000.out))) (Kd.R_lt (xR HO_322001.out))) (Kd.R_lt (xR HO_330000.out))) (Kd.R_lt (xR HO_330001.out))) (Kd.R_lt (xR HO_339000.out))) (Kd.R_lt (xR HO_339001.out))) (below_size (xW HB.out)))
       have n7_ := am (Kd.R_lower (Kd.R_new' (Kd.R_new' (Kd.R_new' (Kd.R_new' (Kd.R_new' (Kd.R_new' ho1 (Kd.R_lt (xR HO_322000.out))) (Kd.R_lt (xR HO_322001.out))) (Kd.R_lt (xR HO_330000.out))) (Kd.R_lt (xR HO_330001.out))) (Kd.R_lt (xR HO_339000.out))) (Kd.R_lt (xR HO_339001.out))) (below_size (xW HB.out)))
       have n8_ := am (bb (xB BK304.out) hb)
       have n9_ := am (bb (xB BK321.out) hb)
       have n10_ := am (bb (xB BK329.out) hb)
       have n11_ := am (bb (xB BK338.out) hb)
       have n12_ := am (bs (xW HB.out) hb)
       clear HO_322000
       clear HO_322001
       clear HO_330000
       clear HO_330001
       clear HO_339000
       clear HO_339001
       clear BK304
       clear BK321
       clear BK329
       clear BK338
       clear HB
       have HO_322000 := n0_
       have HO_322001 := n1_
       have HO_330000 := n2_
       have HO_330001 := n3_
       have HO_339000 := n4_
       have HO_339001 := n5_
       have HO342 := n6_
       have HO345 := n7_
       have BK304 := n8_
       have BK321 := n9_
       have BK329 := n10_
       have BK338 := n11_
       have HB := n12_
       clear n0_ n1_ n2_ n3_ n4_ n5_ n6_ n7_ n8_ n9_ n10_ n11_ n12_
       (try clear hb)
       (try clear hb2)
       (try clear hk)
       (try clear hi)
       (try clear ho0)
       (try clear ho1)
       obtain ⟨Ao71, co71, eo71⟩ := Kd.R_slice HO342.out
       (first | subst eo71 | (injection eo71 with f1_ f2_ f3_; have f4_ := f1_.symm; have f5_ := f3_.symm; clear f1_ f2_ f3_; subst f4_; subst f5_))
       obtain ⟨Ao72, co72, eo72⟩ := Kd.R_slice HO345.out
       (first | subst eo72 | (injection eo72 with f1_ f2_ f3_; have f4_ := f1_.symm; have f5_ := f3_.symm; clear f1_ f2_ f3_; subst f4_; subst f5_))
       refine hK.out _ _ ⟨(blk_cell BK329.out 0).trans rfl, (blk_cell BK329.out 1).trans rfl, (blk_cell BK329.out 2).trans rfl, (blk_cell BK304.out 0).trans rfl, (blk_cell BK304.out 1).trans rfl, (blk_cell BK304.out 2).trans rfl⟩ (fun hHeld => ?_)
       clear hK K
       refine norm_ (a' := ?_) ?_ ?_
       rotate_left
       ·show Act.put _ (some 54) _ = _
        simp only [Act.put, List.setIfInBounds_toArray, List.set_cons_zero, List.set_cons_succ, i64_w, i32_w]
        rfl
       refine one_ (i := 3) (N := some 55) #[true, true, true, true, false] rfl rfl (by kernel_rfl) (by decide) (fun K hK => ?_)
       refine goes_ Try.func27 (by kernel_rfl) rfl #[.agg #[.slice Ao32 t322.length co32, .slice Ao36 t325.length co36, .int .i64 t328], .agg #[.slice Ao71 t340.length co71, .slice Ao72 t343.length co72, .int .i64 t346]] (by rfl) rfl rfl (by (try simp only [List.map_toArray, List.map_cons, List.map_nil]); first | done | rfl | (simp only [List.length_drop, List.length_take]; rfl)) ?_
       with_reducible refine (laws_eqTable.calls kj14 _ _ t322 _ _ t325 t328 _ _ t340 _ _ t343 t346 true _ ?side1 ?side2 ?side3 ?side4 ?side5 ?side6 ?side7 ?side8 A65.out).mono ?_
       (case side1 => exact xC ((rr HO_330000.out).2.2))
       (case side2 => exact (rr HO_330000.out).2.1)
       (case side3 => exact xC ((rr HO_330001.out).2.2))
       (case side4 => exact (rr HO_330001.out).2.1)
       (case side5 => exact xC ((rr HO342.out).2.2))
       (case side6 => exact (rr HO342.out).2.1)
       (case side7 => exact xC ((rr HO345.out).2.2))
       (case side8 => exact (rr HO345.out).2.1)
       rintro e w73 ⟨rfl, hb⟩
       refine ⟨_, rfl, ?_⟩
       have n0_ := am (rb (xR HO_322000.out) hb)
       have n1_ := am (rb (xR HO_322001.out) hb)
       have n2_ := am (rb (xR HO_330000.out) hb)
       have n3_ := am (rb (xR HO_330001.out) hb)
       have n4_ := am (rb (xR HO_339000.out) hb)
       have n5_ := am (rb (xR HO_339001.out) hb)
       have n6_ := am (rb (xR HO342.out) hb)
       have n7_ := am (rb (xR HO345.out) hb)
       have n8_ := am (bb (xB BK304.out) hb)
       have n9_ := am (bb (xB BK321.out) hb)
       have n10_ := am (bb (xB BK329.out) hb)
       have n11_ := am (bb (xB BK338.out) hb)
       have n12_ := am (bs (xW HB.out) hb)
       clear HO_322000
       clear HO_322001
       clear HO_330000
       clear HO_330001
       clear HO_339000
       clear HO_339001
       clear HO342
       clear HO345
       clear BK304
       clear BK321
       clear BK329
       clear BK338
       clear HB
       have HO_322000 := n0_
       have HO_322001 := n1_
       have HO_330000 := n2_
       have HO_330001 := n3_
       have HO_339000 := n4_
       have HO_339001 := n5_
       have HO342 := n6_
       have HO345 := n7_
       have BK304 := n8_
       have BK321 := n9_
       have BK329 := n10_
       have BK338 := n11_
       have HB := n12_
       clear n0_ n1_ n2_ n3_ n4_ n5_ n6_ n7_ n8_ n9_ n10_ n11_ n12_
       (try clear hb)
       (try clear hb2)
       (try clear hk)
       (try clear hi)
       refine hK.out _ _ ⟨(blk_cell BK329.out 0).trans rfl, (blk_cell BK329.out 1).trans rfl, (blk_cell BK329.out 2).trans rfl, (blk_cell BK304.out 0).trans rfl, (blk_cell BK304.out 1).trans rfl, (blk_cell BK304.out 2).trans rfl⟩ (fun hHeld => ?_)
       clear hK K
       refine norm_ (a' := ?_) ?_ ?_
       rotate_left
       ·show Act.put _ (some 55) _ = _
        simp only [Act.put, List.setIfInBounds_toArray, List.set_cons_zero, List.set_cons_succ, i64_w, i32_w]
        rfl
       refine pure_ (i := 4) (N := some 56) (v := ?_) (a' := ?_) #[true, true, true, true, true] rfl rfl (by kernel_rfl) (fun _ _ _ h => h) (Or.inl ⟨by rfl, ?_⟩) ?_ ?_
       rotate_left
       ·intro w'
        go_simp
        with_reducible rfl
       rotate_left
       ·simp only [Act.put, List.setIfInBounds_toArray, List.set_cons_zero, List.set_cons_succ, i64_w, i32_w]
        rfl
       refine done_ (by kernel_rfl) ?_
       have hnb74 := NB329_304.out
       have hnc74 := NB304_329.out
       have hnb75 := NB329_321.out
       have hnc75 := NB321_329.out
       have hnb76 := NB329_338.out
       have hnc76 := NB338_329.out
       obtain ⟨hcz77_0, hcz77_1, hcz77_2, hfz77_0, hfz77_1, hfz77_2⟩ := xT3 (W := w73) BK329.out
       go_upto_region 16 with (first | ((with_reducible refine gate_callee (f := 30) rfl ?_); refine xG (some 59) 30 Try.func30 #[.agg #[.slice Ao32 t322.length co32, .slice Ao36 t325.length co36, .int .i64 t328], .int .i64 1] (h := ?_); (with_reducible refine (laws_markTable.calls kj14 (fun k_ => some k_ = (.slice Ao32 t322.length co32 : Value).ownBlock) (.slice Ao32 t322.length co32) t322 (fun k_ => some k_ = (.slice Ao36 t325.length co36 : Value).ownBlock) (.slice Ao36 t325.length co36) t325 t328 1 t348 t349 t350 w _ ?side1 ?side2 ?side3 ?side4 ?side5 A67.out).mono ?_); (case side1 => repeat (first | (with_reducible first | exact HB.out | apply wa | apply wn | apply wd | refine ws ?_ GE304.out | refine ws ?_ GE321.out | refine ws ?_ GE329.out | refine ws ?_ GE338.out) | exact HB.out)); (case side2 => exact Kd.R_tight rfl HO_330000.out); (case side3 => first | exact fun k_ e_ => (HO_330000.out.1 k_ e_.symm).1.1.2.2.1 | exact fun k_ e_ hs_ => by have hh_ := HO_330000.out.1 k_ e_.symm; revert hh_; simp [hs_]); (case side4 => exact Kd.R_tight rfl HO_330001.out); (case side5 => first | exact fun k_ e_ => (HO_330001.out.1 k_ e_.symm).1.1.2.2.1 | exact fun k_ e_ hs_ => by have hh_ := HO_330001.out.1 k_ e_.symm; revert hh_; simp [hs_]); rintro e w78 ⟨rfl, hy0, hy1, hb, hkp⟩; refine ⟨_, rfl, ?_⟩; have n0_ := am (rm (ok' := fun k_ => some k_ ≠ (.slice Ao28 t316.length co28 : Value).ownBlock ∧ some k_ ≠ (.slice Ao32 t322.length co32 : Value).ownBlock ∧ some k_ ≠ (.slice Ao36 t325.length co36 : Value).ownBlock ∧ some k_ ≠ (.slice Ao39 t330.length co39 : Value).ownBlock ∧ some k_ ≠ (.slice Ao44 t333.length co44 : Value).ownBlock ∧ some k_ ≠ (.slice Ao71 t340.length co71 : Value).ownBlock ∧ some k_ ≠ (.slice Ao72 t343.length co72 : Value).ownBlock) (rk (HO_322000.out) hkp (fun k_ hk_ hs_ => by rcases hs_ with e_ | e_ <;> (revert hk_; simp [e_]))) (fun k_ hk_ => by simp [hk_])); have n1_ := am (rm (ok' := fun k_ => some k_ ≠ (.slice Ao25 t313.length co25 : Value).ownBlock ∧ some k_ ≠ (.slice Ao32 t322.length co32 : Value).ownBlock ∧ some k_ ≠ (.slice Ao36 t325.length co36 : Value).ownBlock ∧ some k_ ≠ (.slice Ao39 t330.length co39 : Value).ownBlock ∧ some k_ ≠ (.slice Ao44 t333.length co44 : Value).ownBlock ∧ some k_ ≠ (.slice Ao71 t340.length co71 : Value).ownBlock ∧ some k_ ≠ (.slice Ao72 t343.length co72 : Value).ownBlock) (rk (HO_322001.out) hkp (fun k_ hk_ hs_ => by rcases hs_ with e_ | e_ <;> (revert hk_; simp [e_]))) (fun k_ hk_ => by simp [hk_])); have n2_ := am (Kd.R_reok rfl hy0 (fun k_ e_ => HO_330000.out.1 k_ e_)); have n3_ := am (Kd.R_reok rfl hy1 (fun k_ e_ => HO_330001.out.1 k_ e_)); have n4_ := am (rm (ok' := fun k_ => some k_ ≠ (.slice Ao25 t313.length co25 : Value).ownBlock ∧ some k_ ≠ (.slice Ao28 t316.length co28 : Value).ownBlock ∧ some k_ ≠ (.slice Ao32 t322.length co32 : Value).ownBlock ∧ some k_ ≠ (.slice Ao36 t325.length co36 : Value).ownBlock ∧ some k_ ≠ (.slice Ao44 t333.length co44 : Value).ownBlock ∧ some k_ ≠ (.slice Ao71 t340.length co71 : Value).ownBlock ∧ some k_ ≠ (.slice Ao72 t343.length co72 : Value).ownBlock) (rk (HO_339000.out) hkp (fun k_ hk_ hs_ => by rcases hs_ with e_ | e_ <;> (revert hk_; simp [e_]))) (fun k_ hk_ => by simp [hk_])); have n5_ := am (rm (ok' := fun k_ => some k_ ≠ (.slice Ao25 t313.length co25 : Value).ownBlock ∧ some k_ ≠ (.slice Ao28 t316.length co28 : Value).ownBlock ∧ some k_ ≠ (.slice Ao32 t322.length co32 : Value).ownBlock ∧ some k_ ≠ (.slice Ao36 t325.length co36 : Value).ownBlock ∧ some k_ ≠ (.slice Ao39 t330.length co39 : Value).ownBlock ∧ some k_ ≠ (.slice Ao71 t340.length co71 : Value).ownBlock ∧ some k_ ≠ (.slice Ao72 t343.length co72 : Value).ownBlock) (rk (HO_339001.out) hkp (fun k_ hk_ hs_ => by rcases hs_ with e_ | e_ <;> (revert hk_; simp [e_]))) (fun k_ hk_ => by simp [hk_])); have n6_ := am (bk (xB BK304.out) hkp (fun hs_ => Or.elim hs_ (fun e_ => (fun e_ => (Kd.R_ne HO_330000.out BK304.out (by decide)) e_) e_) (fun e_ => (fun e_ => (Kd.R_ne HO_330001.out BK304.out (by decide)) e_) e_))); have n7_ := am (bk (xB BK321.out) hkp (fun hs_ => Or.elim hs_ (fun e_ => (fun e_ => (Kd.R_ne HO_330000.out BK321.out (by decide)) e_) e_) (fun e_ => (fun e_ => (Kd.R_ne HO_330001.out BK321.out (by decide)) e_) e_))); have n8_ := am (bk (xB BK329.out) hkp (fun hs_ => Or.elim hs_ (fun e_ => (fun e_ => (Kd.R_ne HO_330000.out BK329.out (by decide)) e_) e_) (fun e_ => (fun e_ => (Kd.R_ne HO_330001.out BK329.out (by decide)) e_) e_))); have n9_ := am (bk (xB BK338.out) hkp (fun hs_ => Or.elim hs_ (fun e_ => (fun e_ => (Kd.R_ne HO_330000.out BK338.out (by decide)) e_) e_) (fun e_ => (fun e_ => (Kd.R_ne HO_330001.out BK338.out (by decide)) e_) e_))); have n10_ := am (rm (ok' := fun k_ => some k_ ≠ (.slice Ao25 t313.length co25 : Value).ownBlock ∧ some k_ ≠ (.slice Ao28 t316.length co28 : Value).ownBlock ∧ some k_ ≠ (.slice Ao32 t322.length co32 : Value).ownBlock ∧ some k_ ≠ (.slice Ao36 t325.length co36 : Value).ownBlock ∧ some k_ ≠ (.slice Ao39 t330.length co39 : Value).ownBlock ∧ some k_ ≠ (.slice Ao44 t333.length co44 : Value).ownBlock ∧ some k_ ≠ (.slice Ao72 t343.length co72 : Value).ownBlock) (rk (HO342.out) hkp (fun k_ hk_ hs_ => by rcases hs_ with e_ | e_ <;> (revert hk_; simp [e_]))) (fun k_ hk_ => by simp [hk_])); have n11_ := am (rm (ok' := fun k_ => some k_ ≠ (.slice Ao25 t313.length co25 : Value).ownBlock ∧ some k_ ≠ (.slice Ao28 t316.length co28 : Value).ownBlock ∧ some k_ ≠ (.slice Ao32 t322.length co32 : Value).ownBlock ∧ some k_ ≠ (.slice Ao36 t325.length co36 : Value).ownBlock ∧ some k_ ≠ (.slice Ao39 t330.length co39 : Value).ownBlock ∧ some k_ ≠ (.slice Ao44 t333.length co44 : Value).ownBlock ∧ some k_ ≠ (.slice Ao71 t340.length co71 : Value).ownBlock) (rk (HO345.out) hkp (fun k_ hk_ hs_ => by rcases hs_ with e_ | e_ <;> (revert hk_; simp [e_]))) (fun k_ hk_ => by simp [hk_])); have n12_ := am (hb); clear HO_322000; clear HO_322001; clear HO_330000; clear HO_330001; clear HO_339000; clear HO_339001; clear BK304; clear BK321; clear BK329; clear BK338; clear HO342; clear HO345; clear HB; have HO_322000 := n0_; have HO_322001 := n1_; have HO_330000 := n2_; have HO_330001 := n3_; have HO_339000 := n4_; have HO_339001 := n5_; have BK304 := n6_; have BK321 := n7_; have BK329 := n8_; have BK338 := n9_; have HO342 := n10_; have HO345 := n11_; have HB := n12_; clear n0_ n1_ n2_ n3_ n4_ n5_ n6_ n7_ n8_ n9_ n10_ n11_ n12_; (try clear hb); (try clear hkp); (try clear hy0); (try clear hy1)))
       (try simp only [Act.put, List.setIfInBounds_toArray, List.set_cons_zero, List.set_cons_succ])
       go_cut [72] (fun v72 wc => ∃ (kq : Nat) (x72_67 : Bool), v72 = .bool x72_67 ∧ Aside0 (laws_FnExactPutKey.j1 kq a1 a2 t320 x72_67 l0_0 l0_1 a0_2 t313 t316 t319 t330 t333 t336 = some r) ∧ Aside0 (kq ≤ kj14) ∧ Aside0 (Kd.R k57 57 wc w.heap.size (fun k_ => some k_ ≠ ((.slice Ao28 t316.length co28) : Value).ownBlock ∧ some k_ ≠ ((.slice Ao32 t322.length co32) : Value).ownBlock ∧ some k_ ≠ ((.slice Ao36 t325.length co36) : Value).ownBlock ∧ some k_ ≠ ((.slice Ao39 t330.length co39) : Value).ownBlock ∧ some k_ ≠ ((.slice Ao44 t333.length co44) : Value).ownBlock) (.slice Ao25 t313.length co25) t313) ∧ Aside0 (Kd.R k57 57 wc w.heap.size (fun k_ => some k_ ≠ ((.slice Ao25 t313.length co25) : Value).ownBlock ∧ some k_ ≠ ((.slice Ao32 t322.length co32) : Value).ownBlock ∧ some k_ ≠ ((.slice Ao36 t325.length co36) : Value).ownBlock ∧ some k_ ≠ ((.slice Ao39 t330.length co39) : Value).ownBlock ∧ some k_ ≠ ((.slice Ao44 t333.length co44) : Value).ownBlock) (.slice Ao28 t316.length co28) t316) ∧ Aside0 (Kd.R k57 57 wc w.heap.size (fun k_ => some k_ ≠ ((.slice Ao25 t313.length co25) : Value).ownBlock ∧ some k_ ≠ ((.slice Ao28 t316.length co28) : Value).ownBlock ∧ some k_ ≠ ((.slice Ao36 t325.length co36) : Value).ownBlock ∧ some k_ ≠ ((.slice Ao39 t330.length co39) : Value).ownBlock ∧ some k_ ≠ ((.slice Ao44 t333.length co44) : Value).ownBlock) (.slice Ao32 t322.length co32) t349) ∧ Aside0 (Kd.R k57 57 wc w.heap.size (fun k_ => some k_ ≠ ((.slice Ao25 t313.length co25) : Value).ownBlock ∧ some k_ ≠ ((.slice Ao28 t316.length co28) : Value).ownBlock ∧ some k_ ≠ ((.slice Ao32 t322.length co32) : Value).ownBlock ∧ some k_ ≠ ((.slice Ao39 t330.length co39) : Value).ownBlock ∧ some k_ ≠ ((.slice Ao44 t333.length co44) : Value).ownBlock) (.slice Ao36 t325.length co36) t350) ∧ Aside0 (Kd.R k57 57 wc w.heap.size (fun k_ => some k_ ≠ ((.slice Ao25 t313.length co25) : Value).ownBlock ∧ some k_ ≠ ((.slice Ao28 t316.length co28) : Value).ownBlock ∧ some k_ ≠ ((.slice Ao32 t322.length co32) : Value).ownBlock ∧ some k_ ≠ ((.slice Ao36 t325.length co36) : Value).ownBlock ∧ some k_ ≠ ((.slice Ao44 t333.length co44) : Value).ownBlock) (.slice Ao39 t330.length co39) t330) ∧ Aside0 (Kd.R k57 57 wc w.heap.size (fun k_ => some k_ ≠ ((.slice Ao25 t313.length co25) : Value).ownBlock ∧ some k_ ≠ ((.slice Ao28 t316.length co28) : Value).ownBlock ∧ some k_ ≠ ((.slice Ao32 t322.length co32) : Value).ownBlock ∧ some k_ ≠ ((.slice Ao36 t325.length co36) : Value).ownBlock ∧ some k_ ≠ ((.slice Ao39 t330.length co39) : Value).ownBlock) (.slice Ao44 t333.length co44) t333) ∧ Aside0 (wc.heap[gb304]? = some (.cells #[(.slice A0_0 l0_0.length c0_0), (.slice A0_1 l0_1.length c0_1), .int .i64 a0_2] 42 (0, 0))) ∧ Aside0 (wc.heap[gb321]? = some (.cells #[(.slice Ao25 t313.length co25), (.slice Ao28 t316.length co28), .int .i64 t319] 26 (0, 0))) ∧ Aside0 (wc.heap[gb329]? = some (.cells #[(.slice Ao32 t322.length co32), (.slice Ao36 t325.length co36), .int .i64 t328] 26 (0, 0))) ∧ Aside0 (wc.heap[gb338]? = some (.cells #[(.slice Ao39 t330.length co39), (.slice Ao44 t333.length co44), .int .i64 t336] 26 (0, 0))) ∧ Aside0 (Below w.heap.size w wc))
       case first =>
        have H := HC68.out
        clear HC68
        by_cases c79 : t348 < 0
        ·rw [if_pos c79] at H
         have c79b0 : decide (t348 < 0) = true := decide_eq_true c79
         clear c79
         (first | rw [c79b0] | (simp only [i64_w, i32_w]; rw [c79b0]) | skip)
         have H' := am H
         clear H
         go_wp2
         go_meet
         case rel => exact ⟨_, (true), (xQ), H', ⟨by have := HJ14.out; first | omega | exact Nat.le_refl _⟩, ⟨Kd.R_mono (xR HO_322000.out) xI⟩, ⟨Kd.R_mono (xR HO_322001.out) xI⟩, ⟨Kd.R_mono (xR HO_330000.out) xI⟩, ⟨Kd.R_mono (xR HO_330001.out) xI⟩, ⟨Kd.R_mono (xR HO_339000.out) xI⟩, ⟨Kd.R_mono (xR HO_339001.out) xI⟩, ⟨xB BK304.out⟩, ⟨xB BK321.out⟩, ⟨xB BK329.out⟩, ⟨xB BK338.out⟩, ⟨xW HB.out⟩⟩
        ·rw [if_neg c79] at H
         have c79b0 : decide (t348 < 0) = false := decide_eq_false c79
         clear c79
         (first | rw [c79b0] | (simp only [i64_w, i32_w]; rw [c79b0]) | skip)
         replace H := Option.bind_eq_some_iff.mp H
         obtain ⟨t351, A800, H⟩ := H
         replace H : (if t351 = true then (laws_FnExactPutKey.j1 kj14 a1 a2 t320 (t337 != t320) l0_0 l0_1 a0_2 t313 t316 t319 t330 t333 t336) else (laws_FnExactPutKey.j1 kj14 a1 a2 t320 true l0_0 l0_1 a0_2 t313 t316 t319 t330 t333 t336)) = some r := H
         have A80 := am A800
         clear A800
         by_cases c81 : t351 = true
         ·subst c81
          have H1 : (laws_FnExactPutKey.j1 kj14 a1 a2 t320 (t337 != t320) l0_0 l0_1 a0_2 t313 t316 t319 t330 t333 t336) = some r := by rw [if_pos rfl] at H; exact H
          clear H
          have H := H1
          clear H1
          have H' := am H
          clear H
          have hnb82 := NB338_304.out
          have hnc82 := NB304_338.out
          have hnb83 := NB338_321.out
          have hnc83 := NB321_338.out
          have hnb84 := NB338_329.out
          have hnc84 := NB329_338.out
          obtain ⟨hcz85_0, hcz85_1, hcz85_2, hfz85_0, hfz85_1, hfz85_2⟩ := xT3 (W := w78) BK338.out
          have hnb86 := NB321_304.out
          have hnc86 := NB304_321.out
          have hnb87 := NB321_329.out
          have hnc87 := NB329_321.out
          obtain ⟨hcz88_0, hcz88_1, hcz88_2, hfz88_0, hfz88_1, hfz88_2⟩ := xT3 (W := w78) BK321.out
          go_wp2_with (first | (go_at_call 27; (with_reducible refine (laws_eqTable.calls kj14 _ _ t330 _ _ t333 t336 _ _ t313 _ _ t316 t319 true _ ?side1 ?side2 ?side3 ?side4 ?side5 ?side6 ?side7 ?side8 A80.out).mono ?_); (case side1 => exact xC ((rr HO_339000.out).2.2)); (case side2 => exact (rr HO_339000.out).2.1); (case side3 => exact xC ((rr HO_339001.out).2.2)); (case side4 => exact (rr HO_339001.out).2.1); (case side5 => exact xC ((rr HO_322000.out).2.2)); (case side6 => exact (rr HO_322000.out).2.1); (case side7 => exact xC ((rr HO_322001.out).2.2)); (case side8 => exact (rr HO_322001.out).2.1); rintro e w89 ⟨rfl, hb⟩; have n0_ := am (rb (xR HO_322000.out) hb); have n1_ := am (rb (xR HO_322001.out) hb); have n2_ := am (rb (xR HO_330000.out) hb); have n3_ := am (rb (xR HO_330001.out) hb); have n4_ := am (rb (xR HO_339000.out) hb); have n5_ := am (rb (xR HO_339001.out) hb); have n6_ := am (rb (xR HO342.out) hb); have n7_ := am (rb (xR HO345.out) hb); have n8_ := am (bb (xB BK304.out) hb); have n9_ := am (bb (xB BK321.out) hb); have n10_ := am (bb (xB BK329.out) hb); have n11_ := am (bb (xB BK338.out) hb); have n12_ := am (bs (xW HB.out) hb); clear HO_322000; clear HO_322001; clear HO_330000; clear HO_330001; clear HO_339000; clear HO_339001; clear HO342; clear HO345; clear BK304; clear BK321; clear BK329; clear BK338; clear HB; have HO_322000 := n0_; have HO_322001 := n1_; have HO_330000 := n2_; have HO_330001 := n3_; have HO_339000 := n4_; have HO_339001 := n5_; have HO342 := n6_; have HO345 := n7_; have BK304 := n8_; have BK321 := n9_; have BK329 := n10_; have BK338 := n11_; have HB := n12_; clear n0_ n1_ n2_ n3_ n4_ n5_ n6_ n7_ n8_ n9_ n10_ n11_ n12_; (try clear hb); (try clear hb2); (try clear hk); (try clear hi)))
          go_meet
          case rel => exact ⟨_, ((t337 != t320)), (xQ), H', ⟨by have := HJ14.out; first | omega | exact Nat.le_refl _⟩, ⟨Kd.R_mono (xR HO_322000.out) xI⟩, ⟨Kd.R_mono (xR HO_322001.out) xI⟩, ⟨Kd.R_mono (xR HO_330000.out) xI⟩, ⟨Kd.R_mono (xR HO_330001.out) xI⟩, ⟨Kd.R_mono (xR HO_339000.out) xI⟩, ⟨Kd.R_mono (xR HO_339001.out) xI⟩, ⟨xB BK304.out⟩, ⟨xB BK321.out⟩, ⟨xB BK329.out⟩, ⟨xB BK338.out⟩, ⟨xW HB.out⟩⟩
         ·replace c81 := Bool.eq_false_iff.mpr c81
          subst c81
          have H1 : (laws_FnExactPutKey.j1 kj14 a1 a2 t320 true l0_0 l0_1 a0_2 t313 t316 t319 t330 t333 t336) = some r := by rw [if_neg (show ¬ (false = true) by decide)] at H; exact H
          clear H
          have H := H1
          clear H1
          have H' := am H
          clear H
          have hnb90 := NB338_304.out
          have hnc90 := NB304_338.out
          have hnb91 := NB338_321.out
          have hnc91 := NB321_338.out
          have hnb92 := NB338_329.out
          have hnc92 := NB329_338.out
          obtain ⟨hcz93_0, hcz93_1, hcz93_2, hfz93_0, hfz93_1, hfz93_2⟩ := xT3 (W := w78) BK338.out
          have hnb94 := NB321_304.out
          have hnc94 := NB304_321.out
          have hnb95 := NB321_329.out
          have hnc95 := NB329_321.out
          obtain ⟨hcz96_0, hcz96_1, hcz96_2, hfz96_0, hfz96_1, hfz96_2⟩ := xT3 (W := w78) BK321.out
          go_wp2_with (first | (go_at_call 27; (with_reducible refine (laws_eqTable.calls kj14 _ _ t330 _ _ t333 t336 _ _ t313 _ _ t316 t319 false _ ?side1 ?side2 ?side3 ?side4 ?side5 ?side6 ?side7 ?side8 A80.out).mono ?_); (case side1 => exact xC ((rr HO_339000.out).2.2)); (case side2 => exact (rr HO_339000.out).2.1); (case side3 => exact xC ((rr HO_339001.out).2.2)); (case side4 => exact (rr HO_339001.out).2.1); (case side5 => exact xC ((rr HO_322000.out).2.2)); (case side6 => exact (rr HO_322000.out).2.1); (case side7 => exact xC ((rr HO_322001.out).2.2)); (case side8 => exact (rr HO_322001.out).2.1); rintro e w97 ⟨rfl, hb⟩; have n0_ := am (rb (xR HO_322000.out) hb); have n1_ := am (rb (xR HO_322001.out) hb); have n2_ := am (rb (xR HO_330000.out) hb); have n3_ := am (rb (xR HO_330001.out) hb); have n4_ := am (rb (xR HO_339000.out) hb); have n5_ := am (rb (xR HO_339001.out) hb); have n6_ := am (rb (xR HO342.out) hb); have n7_ := am (rb (xR HO345.out) hb); have n8_ := am (bb (xB BK304.out) hb); have n9_ := am (bb (xB BK321.out) hb); have n10_ := am (bb (xB BK329.out) hb); have n11_ := am (bb (xB BK338.out) hb); have n12_ := am (bs (xW HB.out) hb); clear HO_322000; clear HO_322001; clear HO_330000; clear HO_330001; clear HO_339000; clear HO_339001; clear HO342; clear HO345; clear BK304; clear BK321; clear BK329; clear BK338; clear HB; have HO_322000 := n0_; have HO_322001 := n1_; have HO_330000 := n2_; have HO_330001 := n3_; have HO_339000 := n4_; have HO_339001 := n5_; have HO342 := n6_; have HO345 := n7_; have BK304 := n8_; have BK321 := n9_; have BK329 := n10_; have BK338 := n11_; have HB := n12_; clear n0_ n1_ n2_ n3_ n4_ n5_ n6_ n7_ n8_ n9_ n10_ n11_ n12_; (try clear hb); (try clear hb2); (try clear hk); (try clear hi)))
          go_meet
          case rel => exact ⟨_, (true), (xQ), H', ⟨by have := HJ14.out; first | omega | exact Nat.le_refl _⟩, ⟨Kd.R_mono (xR HO_322000.out) xI⟩, ⟨Kd.R_mono (xR HO_322001.out) xI⟩, ⟨Kd.R_mono (xR HO_330000.out) xI⟩, ⟨Kd.R_mono (xR HO_330001.out) xI⟩, ⟨Kd.R_mono (xR HO_339000.out) xI⟩, ⟨Kd.R_mono (xR HO_339001.out) xI⟩, ⟨xB BK304.out⟩, ⟨xB BK321.out⟩, ⟨xB BK329.out⟩, ⟨xB BK338.out⟩, ⟨xW HB.out⟩⟩
       case rest =>
        clear HC68
        try clear c2
        try clear p2
        try clear c3
        try clear c4
        try clear c4b0
        try clear c4b1
        try clear c5
        try clear c6
        try clear c7
        try clear c7b0
        try clear c8
        try clear c9
        try clear c24
        try clear c26
        try clear c27
        try clear c30
        try clear c33
        try clear c34
        try clear c37
        try clear c38
        try clear c40
        try clear c41
        try clear c42
        try clear c46
        try clear c47
        try clear c48
        try clear c49
        try clear c51
        try clear c52
        try clear c55
        try clear c56
        try clear c57
        try clear c59
        try clear c60
        try clear c63
        try clear c66
        try clear c74
        try clear c75
        try clear c76
        try clear c79
        try clear c79b0
        try clear c81
        try clear c82
        try clear c83
        try clear c84
        try clear c86
        try clear c87
        try clear c90
        try clear c91
        try clear c92
        try clear c94
        try clear c95
        try clear hcz17_0
        try clear hcz17_1
        try clear hcz17_2
        try clear hcz19_0
        try clear hcz19_1
        try clear hcz19_2
        try clear hcz27_0
        try clear hcz27_1
        try clear hcz27_2
        try clear hcz29_0
        try clear hcz29_1
        try clear hcz29_2
        try clear hcz35_0
        try clear hcz35_1
        try clear hcz35_2
        try clear hcz43_0
        try clear hcz43_1
        try clear hcz43_2
        try clear hcz50_0
        try clear hcz50_1
        try clear hcz50_2
        try clear hcz53_0
        try clear hcz53_1
        try clear hcz53_2
        try clear hcz58_0
        try clear hcz58_1
        try clear hcz58_2
        try clear hcz61_0
        try clear hcz61_1
        try clear hcz61_2
        try clear hcz77_0
        try clear hcz77_1
        try clear hcz77_2
        try clear hcz85_0
        try clear hcz85_1
        try clear hcz85_2
        try clear hcz88_0
        try clear hcz88_1
        try clear hcz88_2
        try clear hcz93_0
        try clear hcz93_1
        try clear hcz93_2
        try clear hcz96_0
        try clear hcz96_1
        try clear hcz96_2
        try clear hcz9_0
        try clear hcz9_1
        try clear hcz9_2
        try clear hfz17_0
        try clear hfz17_1
        try clear hfz17_2
        try clear hfz19_0
        try clear hfz19_1
        try clear hfz19_2
        try clear hfz27_0
        try clear hfz27_1
        try clear hfz27_2
        try clear hfz29_0
        try clear hfz29_1
        try clear hfz29_2
        try clear hfz35_0
        try clear hfz35_1
        try clear hfz35_2
        try clear hfz43_0
        try clear hfz43_1
        try clear hfz43_2
        try clear hfz50_0
        try clear hfz50_1
        try clear hfz50_2
        try clear hfz53_0
        try clear hfz53_1
        try clear hfz53_2
        try clear hfz58_0
        try clear hfz58_1
        try clear hfz58_2
        try clear hfz61_0
        try clear hfz61_1
        try clear hfz61_2
        try clear hfz77_0
        try clear hfz77_1
        try clear hfz77_2
        try clear hfz85_0
        try clear hfz85_1
        try clear hfz85_2
        try clear hfz88_0
        try clear hfz88_1
        try clear hfz88_2
        try clear hfz93_0
        try clear hfz93_1
        try clear hfz93_2
        try clear hfz96_0
        try clear hfz96_1
        try clear hfz96_2
        try clear hfz9_0
        try clear hfz9_1
        try clear hfz9_2
        try clear p2
        obtain ⟨kq, x72_67, rfl, HA, HJ67, HO_322000, HO_322001, HO_330000, HO_330001, HO_339000, HO_339001, BK304, BK321, BK329, BK338, HB⟩ := hcut
        have hl330000_67 := (rr HO_330000.out).1
        rw [hl330000_67] at HO_330000
        (try simp only [hl330000_67])
        (try simp only [hl330000_67] at BK304)
        (try simp only [hl330000_67] at BK321)
        (try simp only [hl330000_67] at BK329)
        (try simp only [hl330000_67] at BK338)
        (try simp only [hl330000_67] at HO_322000)
        (try simp only [hl330000_67] at HO_322001)
        (try simp only [hl330000_67] at HO_330001)
        (try simp only [hl330000_67] at HO_339000)
        (try simp only [hl330000_67] at HO_339001)
        have hl330001_67 := (rr HO_330001.out).1
        rw [hl330001_67] at HO_330001
        (try simp only [hl330001_67])
        (try simp only [hl330001_67] at BK304)
        (try simp only [hl330001_67] at BK321)
        (try simp only [hl330001_67] at BK329)
        (try simp only [hl330001_67] at BK338)
        (try simp only [hl330001_67] at HO_322000)
        (try simp only [hl330001_67] at HO_322001)
        (try simp only [hl330001_67] at HO_330000)
        (try simp only [hl330001_67] at HO_339000)
        (try simp only [hl330001_67] at HO_339001)
        cases kq with
        | zero => exact absurd HA.out (by simp [laws_FnExactPutKey.j1])
        | succ kj67 =>
         have H := HA.out
         clear HA
         simp only [laws_FnExactPutKey.j1] at H
         by_cases c98 : x72_67 = true
         ·subst c98
          have H1 : (some false) = some r := by rw [if_pos rfl] at H; exact H
          clear H
          have H := H1
          clear H1
          obtain rfl := Option.some.inj H
          go_wp2
          go_ret
          exact ⟨xV, xW HB.out⟩
         ·replace c98 := Bool.eq_false_iff.mpr c98
          subst c98
          have H1 : ((laws_markTable.f kj67 t330 t333 t336 1).bind fun bt352 => ((laws_heldTable.f kj67 bt352.2.1 bt352.2.2 t336 1).bind fun t355 => (if t355 < 0 then (some false) else (if t355 = bt352.1 then ((laws_toTable.f kj67 l0_0 l0_1 a0_2).bind fun bt356 => ((impl_PutKey.f kj67 bt356.1 bt356.2.1 bt356.2.2 a1 a2).bind fun bt363 => ((laws_eqTable.f kj67 bt363.1 bt363.2.1 bt363.2.2.1 t313 t316 t319).bind fun t372 => (if t372 = true then (laws_FnExactPutKey.j2 kj67 bt352.1 (bt363.2.2.2 != t320) bt352.2.1 bt352.2.2 t336) else (laws_FnExactPutKey.j2 kj67 bt352.1 true bt352.2.1 bt352.2.2 t336))))) else (some false))))) = some r := by rw [if_neg (show ¬ (false = true) by decide)] at H; exact H
          clear H
          have H := H1
          clear H1
          replace H := Option.bind_eq_some_iff.mp H
          obtain ⟨⟨t352, t353, t354⟩, A990, H⟩ := H
          replace H : ((laws_heldTable.f kj67 t353 t354 t336 1).bind fun t355 => (if t355 < 0 then (some false) else (if t355 = t352 then ((laws_toTable.f kj67 l0_0 l0_1 a0_2).bind fun bt356 => ((impl_PutKey.f kj67 bt356.1 bt356.2.1 bt356.2.2 a1 a2).bind fun bt363 => ((laws_eqTable.f kj67 bt363.1 bt363.2.1 bt363.2.2.1 t313 t316 t319).bind fun t372 => (if t372 = true then (laws_FnExactPutKey.j2 kj67 t352 (bt363.2.2.2 != t320) t353 t354 t336) else (laws_FnExactPutKey.j2 kj67 t352 true t353 t354 t336))))) else (some false)))) = some r := H
          have A99 := am A990
          clear A990
          replace H := Option.bind_eq_some_iff.mp H
          obtain ⟨t355, A1000, H⟩ := H
          replace H : (if t355 < 0 then (some false) else (if t355 = t352 then ((laws_toTable.f kj67 l0_0 l0_1 a0_2).bind fun bt356 => ((impl_PutKey.f kj67 bt356.1 bt356.2.1 bt356.2.2 a1 a2).bind fun bt363 => ((laws_eqTable.f kj67 bt363.1 bt363.2.1 bt363.2.2.1 t313 t316 t319).bind fun t372 => (if t372 = true then (laws_FnExactPutKey.j2 kj67 t352 (bt363.2.2.2 != t320) t353 t354 t336) else (laws_FnExactPutKey.j2 kj67 t352 true t353 t354 t336))))) else (some false))) = some r := H
          have A100 := am A1000
          clear A1000
          by_cases c101 : t355 < 0
          ·rw [if_pos c101] at H
           have c101b0 : decide (t355 < 0) = true := decide_eq_true c101
           clear c101
           obtain rfl := Option.some.inj H
           have hnb102 := NB338_304.out
           have hnc102 := NB304_338.out
           have hnb103 := NB338_321.out
           have hnc103 := NB321_338.out
           have hnb104 := NB338_329.out
           have hnc104 := NB329_338.out
           obtain ⟨hcz105_0, hcz105_1, hcz105_2, hfz105_0, hfz105_1, hfz105_2⟩ := xT3 (W := wc) BK338.out
           go_wp2_with (first | ((with_reducible refine gate_callee (f := 30) rfl ?_); refine xG (some 75) 30 Try.func30 #[.agg #[.slice Ao39 t330.length co39, .slice Ao44 t333.length co44, .int .i64 t336], .int .i64 1] (h := ?_); (with_reducible refine (laws_markTable.calls kj67 (fun k_ => some k_ = (.slice Ao39 t330.length co39 : Value).ownBlock) (.slice Ao39 t330.length co39) t330 (fun k_ => some k_ = (.slice Ao44 t333.length co44 : Value).ownBlock) (.slice Ao44 t333.length co44) t333 t336 1 t352 t353 t354 w _ ?side1 ?side2 ?side3 ?side4 ?side5 A99.out).mono ?_); (case side1 => repeat (first | (with_reducible first | exact HB.out | apply wa | apply wn | apply wd | refine ws ?_ GE304.out | refine ws ?_ GE321.out | refine ws ?_ GE329.out | refine ws ?_ GE338.out) | exact HB.out)); (case side2 => exact Kd.R_tight rfl HO_339000.out); (case side3 => first | exact fun k_ e_ => (HO_339000.out.1 k_ e_.symm).2.2.2.2 | exact fun k_ e_ hs_ => by have hh_ := HO_339000.out.1 k_ e_.symm; revert hh_; simp [hs_]); (case side4 => exact Kd.R_tight rfl HO_339001.out); (case side5 => first | exact fun k_ e_ => (HO_339001.out.1 k_ e_.symm).2.2.2.2 | exact fun k_ e_ hs_ => by have hh_ := HO_339001.out.1 k_ e_.symm; revert hh_; simp [hs_]); rintro e w106 ⟨rfl, hy0, hy1, hb, hkp⟩; refine ⟨_, rfl, ?_⟩; have n0_ := am (rm (ok' := fun k_ => some k_ ≠ (.slice Ao28 t316.length co28 : Value).ownBlock ∧ some k_ ≠ (.slice Ao32 t349.length co32 : Value).ownBlock ∧ some k_ ≠ (.slice Ao36 t350.length co36 : Value).ownBlock ∧ some k_ ≠ (.slice Ao39 t330.length co39 : Value).ownBlock ∧ some k_ ≠ (.slice Ao44 t333.length co44 : Value).ownBlock) (rk (HO_322000.out) hkp (fun k_ hk_ hs_ => by rcases hs_ with e_ | e_ <;> (revert hk_; simp [e_]))) (fun k_ hk_ => by simp [hk_])); have n1_ := am (rm (ok' := fun k_ => some k_ ≠ (.slice Ao25 t313.length co25 : Value).ownBlock ∧ some k_ ≠ (.slice Ao32 t349.length co32 : Value).ownBlock ∧ some k_ ≠ (.slice Ao36 t350.length co36 : Value).ownBlock ∧ some k_ ≠ (.slice Ao39 t330.length co39 : Value).ownBlock ∧ some k_ ≠ (.slice Ao44 t333.length co44 : Value).ownBlock) (rk (HO_322001.out) hkp (fun k_ hk_ hs_ => by rcases hs_ with e_ | e_ <;> (revert hk_; simp [e_]))) (fun k_ hk_ => by simp [hk_])); have n2_ := am (rm (ok' := fun k_ => some k_ ≠ (.slice Ao25 t313.length co25 : Value).ownBlock ∧ some k_ ≠ (.slice Ao28 t316.length co28 : Value).ownBlock ∧ some k_ ≠ (.slice Ao36 t350.length co36 : Value).ownBlock ∧ some k_ ≠ (.slice Ao39 t330.length co39 : Value).ownBlock ∧ some k_ ≠ (.slice Ao44 t333.length co44 : Value).ownBlock) (rk (HO_330000.out) hkp (fun k_ hk_ hs_ => by rcases hs_ with e_ | e_ <;> (revert hk_; simp [e_]))) (fun k_ hk_ => by simp [hk_])); have n3_ := am (rm (ok' := fun k_ => some k_ ≠ (.slice Ao25 t313.length co25 : Value).ownBlock ∧ some k_ ≠ (.slice Ao28 t316.length co28 : Value).ownBlock ∧ some k_ ≠ (.slice Ao32 t349.length co32 : Value).ownBlock ∧ some k_ ≠ (.slice Ao39 t330.length co39 : Value).ownBlock ∧ some k_ ≠ (.slice Ao44 t333.length co44 : Value).ownBlock) (rk (HO_330001.out) hkp (fun k_ hk_ hs_ => by rcases hs_ with e_ | e_ <;> (revert hk_; simp [e_]))) (fun k_ hk_ => by simp [hk_])); have n4_ := am (Kd.R_reok rfl hy0 (fun k_ e_ => HO_339000.out.1 k_ e_)); have n5_ := am (Kd.R_reok rfl hy1 (fun k_ e_ => HO_339001.out.1 k_ e_)); have n6_ := am (bk (xB BK304.out) hkp (fun hs_ => Or.elim hs_ (fun e_ => (fun e_ => (Kd.R_ne HO_339000.out BK304.out (by decide)) e_) e_) (fun e_ => (fun e_ => (Kd.R_ne HO_339001.out BK304.out (by decide)) e_) e_))); have n7_ := am (bk (xB BK321.out) hkp (fun hs_ => Or.elim hs_ (fun e_ => (fun e_ => (Kd.R_ne HO_339000.out BK321.out (by decide)) e_) e_) (fun e_ => (fun e_ => (Kd.R_ne HO_339001.out BK321.out (by decide)) e_) e_))); have n8_ := am (bk (xB BK329.out) hkp (fun hs_ => Or.elim hs_ (fun e_ => (fun e_ => (Kd.R_ne HO_339000.out BK329.out (by decide)) e_) e_) (fun e_ => (fun e_ => (Kd.R_ne HO_339001.out BK329.out (by decide)) e_) e_))); have n9_ := am (bk (xB BK338.out) hkp (fun hs_ => Or.elim hs_ (fun e_ => (fun e_ => (Kd.R_ne HO_339000.out BK338.out (by decide)) e_) e_) (fun e_ => (fun e_ => (Kd.R_ne HO_339001.out BK338.out (by decide)) e_) e_))); have n10_ := am (hb); clear HO_322000; clear HO_322001; clear HO_330000; clear HO_330001; clear HO_339000; clear HO_339001; clear BK304; clear BK321; clear BK329; clear BK338; clear HB; have HO_322000 := n0_; have HO_322001 := n1_; have HO_330000 := n2_; have HO_330001 := n3_; have HO_339000 := n4_; have HO_339001 := n5_; have BK304 := n6_; have BK321 := n7_; have BK329 := n8_; have BK338 := n9_; have HB := n10_; clear n0_ n1_ n2_ n3_ n4_ n5_ n6_ n7_ n8_ n9_ n10_; (try clear hb); (try clear hkp); (try clear hy0); (try clear hy1); obtain ⟨hcz107_0, hcz107_1, hcz107_2, hfz107_0, hfz107_1, hfz107_2⟩ := xT3 (W := w106) BK338.out) | ((with_reducible refine gate_callee (f := 35) rfl ?_); refine goesL_ (some 78) rfl rfl Try.func35 (by kernel_rfl) rfl #[.agg #[.slice Ao39 t353.length co39, .slice Ao44 t354.length co44, .int .i64 t336], .int .i64 1] rfl (by (try simp only [List.map_toArray, List.map_cons, List.map_nil]); first | done | (rw [show t353.length = t330.length from (rr HO_339000.out).1.symm, show t354.length = t333.length from (rr HO_339001.out).1.symm] <;> rfl) | rfl | (simp only [List.length_drop, List.length_take]; rfl)) ?_; (with_reducible refine (laws_heldTable.calls kj67 _ _ t353 _ _ t354 t336 1 t355 _ ?side1 ?side2 ?side3 ?side4 A100.out).mono ?_); (case side1 => exact xC ((rr HO_339000.out).2.2)); (case side2 => rw [show t353.length = t330.length from (rr HO_339000.out).1.symm]; exact (rr HO_339000.out).2.1); (case side3 => exact xC ((rr HO_339001.out).2.2)); (case side4 => rw [show t354.length = t333.length from (rr HO_339001.out).1.symm]; exact (rr HO_339001.out).2.1); rintro e w108 ⟨rfl, hb⟩; refine ⟨_, rfl, ?_⟩; have n0_ := am (rb (xR HO_322000.out) hb); have n1_ := am (rb (xR HO_322001.out) hb); have n2_ := am (rb (xR HO_330000.out) hb); have n3_ := am (rb (xR HO_330001.out) hb); have n4_ := am (rb (xR HO_339000.out) hb); have n5_ := am (rb (xR HO_339001.out) hb); have n6_ := am (bb (xB BK304.out) hb); have n7_ := am (bb (xB BK321.out) hb); have n8_ := am (bb (xB BK329.out) hb); have n9_ := am (bb (xB BK338.out) hb); have n10_ := am (bs (xW HB.out) hb); clear HO_322000; clear HO_322001; clear HO_330000; clear HO_330001; clear HO_339000; clear HO_339001; clear BK304; clear BK321; clear BK329; clear BK338; clear HB; have HO_322000 := n0_; have HO_322001 := n1_; have HO_330000 := n2_; have HO_330001 := n3_; have HO_339000 := n4_; have HO_339001 := n5_; have BK304 := n6_; have BK321 := n7_; have BK329 := n8_; have BK338 := n9_; have HB := n10_; clear n0_ n1_ n2_ n3_ n4_ n5_ n6_ n7_ n8_ n9_ n10_; (try clear hb); (try clear hb2); (try clear hk); (try clear hi)))
           go_ret
           exact ⟨xV, xW HB.out⟩
          ·rw [if_neg c101] at H
           have c101b0 : decide (t355 < 0) = false := decide_eq_false c101
           clear c101
           by_cases c109 : t355 = t352
           ·rw [if_pos c109] at H
            have c109b0 : (t355 == t352) = true := beq_iff_eq.mpr c109
            have c109b1 : (t355 != t352) = false := bne_eq_false_iff_eq.mpr c109
            clear c109
            replace H := Option.bind_eq_some_iff.mp H
            obtain ⟨⟨t356, t359, t362⟩, A1100, H⟩ := H
            replace H : ((impl_PutKey.f kj67 t356 t359 t362 a1 a2).bind fun bt363 => ((laws_eqTable.f kj67 bt363.1 bt363.2.1 bt363.2.2.1 t313 t316 t319).bind fun t372 => (if t372 = true then (laws_FnExactPutKey.j2 kj67 t352 (bt363.2.2.2 != t320) t353 t354 t336) else (laws_FnExactPutKey.j2 kj67 t352 true t353 t354 t336)))) = some r := H
            have A110 := am A1100
            clear A1100
            replace H := Option.bind_eq_some_iff.mp H
            obtain ⟨⟨t363, t366, t369, t370⟩, A1110, H⟩ := H
            replace H : ((laws_eqTable.f kj67 t363 t366 t369 t313 t316 t319).bind fun t372 => (if t372 = true then (laws_FnExactPutKey.j2 kj67 t352 (t370 != t320) t353 t354 t336) else (laws_FnExactPutKey.j2 kj67 t352 true t353 t354 t336))) = some r := H
            have A111 := am A1110
            clear A1110
            have HC112 := am H
            clear H
            have hnb113 := NB338_304.out
            have hnc113 := NB304_338.out
            have hnb114 := NB338_321.out
            have hnc114 := NB321_338.out
            have hnb115 := NB338_329.out
            have hnc115 := NB329_338.out
            obtain ⟨hcz116_0, hcz116_1, hcz116_2, hfz116_0, hfz116_1, hfz116_2⟩ := xT3 (W := wc) BK338.out
            go_upto_region 27 with (first | ((with_reducible refine gate_callee (f := 30) rfl ?_); refine xG (some 75) 30 Try.func30 #[.agg #[.slice Ao39 t330.length co39, .slice Ao44 t333.length co44, .int .i64 t336], .int .i64 1] (h := ?_); (with_reducible refine (laws_markTable.calls kj67 (fun k_ => some k_ = (.slice Ao39 t330.length co39 : Value).ownBlock) (.slice Ao39 t330.length co39) t330 (fun k_ => some k_ = (.slice Ao44 t333.length co44 : Value).ownBlock) (.slice Ao44 t333.length co44) t333 t336 1 t352 t353 t354 w _ ?side1 ?side2 ?side3 ?side4 ?side5 A99.out).mono ?_); (case side1 => repeat (first | (with_reducible first | exact HB.out | apply wa | apply wn | apply wd | refine ws ?_ GE304.out | refine ws ?_ GE321.out | refine ws ?_ GE329.out | refine ws ?_ GE338.out) | exact HB.out)); (case side2 => exact Kd.R_tight rfl HO_339000.out); (case side3 => first | exact fun k_ e_ => (HO_339000.out.1 k_ e_.symm).2.2.2.2 | exact fun k_ e_ hs_ => by have hh_ := HO_339000.out.1 k_ e_.symm; revert hh_; simp [hs_]); (case side4 => exact Kd.R_tight rfl HO_339001.out); (case side5 => first | exact fun k_ e_ => (HO_339001.out.1 k_ e_.symm).2.2.2.2 | exact fun k_ e_ hs_ => by have hh_ := HO_339001.out.1 k_ e_.symm; revert hh_; simp [hs_]); rintro e w117 ⟨rfl, hy0, hy1, hb, hkp⟩; refine ⟨_, rfl, ?_⟩; have n0_ := am (rm (ok' := fun k_ => some k_ ≠ (.slice Ao28 t316.length co28 : Value).ownBlock ∧ some k_ ≠ (.slice Ao32 t349.length co32 : Value).ownBlock ∧ some k_ ≠ (.slice Ao36 t350.length co36 : Value).ownBlock ∧ some k_ ≠ (.slice Ao39 t330.length co39 : Value).ownBlock ∧ some k_ ≠ (.slice Ao44 t333.length co44 : Value).ownBlock) (rk (HO_322000.out) hkp (fun k_ hk_ hs_ => by rcases hs_ with e_ | e_ <;> (revert hk_; simp [e_]))) (fun k_ hk_ => by simp [hk_])); have n1_ := am (rm (ok' := fun k_ => some k_ ≠ (.slice Ao25 t313.length co25 : Value).ownBlock ∧ some k_ ≠ (.slice Ao32 t349.length co32 : Value).ownBlock ∧ some k_ ≠ (.slice Ao36 t350.length co36 : Value).ownBlock ∧ some k_ ≠ (.slice Ao39 t330.length co39 : Value).ownBlock ∧ some k_ ≠ (.slice Ao44 t333.length co44 : Value).ownBlock) (rk (HO_322001.out) hkp (fun k_ hk_ hs_ => by rcases hs_ with e_ | e_ <;> (revert hk_; simp [e_]))) (fun k_ hk_ => by simp [hk_])); have n2_ := am (rm (ok' := fun k_ => some k_ ≠ (.slice Ao25 t313.length co25 : Value).ownBlock ∧ some k_ ≠ (.slice Ao28 t316.length co28 : Value).ownBlock ∧ some k_ ≠ (.slice Ao36 t350.length co36 : Value).ownBlock ∧ some k_ ≠ (.slice Ao39 t330.length co39 : Value).ownBlock ∧ some k_ ≠ (.slice Ao44 t333.length co44 : Value).ownBlock) (rk (HO_330000.out) hkp (fun k_ hk_ hs_ => by rcases hs_ with e_ | e_ <;> (revert hk_; simp [e_]))) (fun k_ hk_ => by simp [hk_])); have n3_ := am (rm (ok' := fun k_ => some k_ ≠ (.slice Ao25 t313.length co25 : Value).ownBlock ∧ some k_ ≠ (.slice Ao28 t316.length co28 : Value).ownBlock ∧ some k_ ≠ (.slice Ao32 t349.length co32 : Value).ownBlock ∧ some k_ ≠ (.slice Ao39 t330.length co39 : Value).ownBlock ∧ some k_ ≠ (.slice Ao44 t333.length co44 : Value).ownBlock) (rk (HO_330001.out) hkp (fun k_ hk_ hs_ => by rcases hs_ with e_ | e_ <;> (revert hk_; simp [e_]))) (fun k_ hk_ => by simp [hk_])); have n4_ := am (Kd.R_reok rfl hy0 (fun k_ e_ => HO_339000.out.1 k_ e_)); have n5_ := am (Kd.R_reok rfl hy1 (fun k_ e_ => HO_339001.out.1 k_ e_)); have n6_ := am (bk (xB BK304.out) hkp (fun hs_ => Or.elim hs_ (fun e_ => (fun e_ => (Kd.R_ne HO_339000.out BK304.out (by decide)) e_) e_) (fun e_ => (fun e_ => (Kd.R_ne HO_339001.out BK304.out (by decide)) e_) e_))); have n7_ := am (bk (xB BK321.out) hkp (fun hs_ => Or.elim hs_ (fun e_ => (fun e_ => (Kd.R_ne HO_339000.out BK321.out (by decide)) e_) e_) (fun e_ => (fun e_ => (Kd.R_ne HO_339001.out BK321.out (by decide)) e_) e_))); have n8_ := am (bk (xB BK329.out) hkp (fun hs_ => Or.elim hs_ (fun e_ => (fun e_ => (Kd.R_ne HO_339000.out BK329.out (by decide)) e_) e_) (fun e_ => (fun e_ => (Kd.R_ne HO_339001.out BK329.out (by decide)) e_) e_))); have n9_ := am (bk (xB BK338.out) hkp (fun hs_ => Or.elim hs_ (fun e_ => (fun e_ => (Kd.R_ne HO_339000.out BK338.out (by decide)) e_) e_) (fun e_ => (fun e_ => (Kd.R_ne HO_339001.out BK338.out (by decide)) e_) e_))); have n10_ := am (hb); clear HO_322000; clear HO_322001; clear HO_330000; clear HO_330001; clear HO_339000; clear HO_339001; clear BK304; clear BK321; clear BK329; clear BK338; clear HB; have HO_322000 := n0_; have HO_322001 := n1_; have HO_330000 := n2_; have HO_330001 := n3_; have HO_339000 := n4_; have HO_339001 := n5_; have BK304 := n6_; have BK321 := n7_; have BK329 := n8_; have BK338 := n9_; have HB := n10_; clear n0_ n1_ n2_ n3_ n4_ n5_ n6_ n7_ n8_ n9_ n10_; (try clear hb); (try clear hkp); (try clear hy0); (try clear hy1); obtain ⟨hcz118_0, hcz118_1, hcz118_2, hfz118_0, hfz118_1, hfz118_2⟩ := xT3 (W := w117) BK338.out) | ((with_reducible refine gate_callee (f := 35) rfl ?_); refine goesL_ (some 78) rfl rfl Try.func35 (by kernel_rfl) rfl #[.agg #[.slice Ao39 t353.length co39, .slice Ao44 t354.length co44, .int .i64 t336], .int .i64 1] rfl (by (try simp only [List.map_toArray, List.map_cons, List.map_nil]); first | done | (rw [show t353.length = t330.length from (rr HO_339000.out).1.symm, show t354.length = t333.length from (rr HO_339001.out).1.symm] <;> rfl) | rfl | (simp only [List.length_drop, List.length_take]; rfl)) ?_; (with_reducible refine (laws_heldTable.calls kj67 _ _ t353 _ _ t354 t336 1 t355 _ ?side1 ?side2 ?side3 ?side4 A100.out).mono ?_); (case side1 => exact xC ((rr HO_339000.out).2.2)); (case side2 => rw [show t353.length = t330.length from (rr HO_339000.out).1.symm]; exact (rr HO_339000.out).2.1); (case side3 => exact xC ((rr HO_339001.out).2.2)); (case side4 => rw [show t354.length = t333.length from (rr HO_339001.out).1.symm]; exact (rr HO_339001.out).2.1); rintro e w119 ⟨rfl, hb⟩; refine ⟨_, rfl, ?_⟩; have n0_ := am (rb (xR HO_322000.out) hb); have n1_ := am (rb (xR HO_322001.out) hb); have n2_ := am (rb (xR HO_330000.out) hb); have n3_ := am (rb (xR HO_330001.out) hb); have n4_ := am (rb (xR HO_339000.out) hb); have n5_ := am (rb (xR HO_339001.out) hb); have n6_ := am (bb (xB BK304.out) hb); have n7_ := am (bb (xB BK321.out) hb); have n8_ := am (bb (xB BK329.out) hb); have n9_ := am (bb (xB BK338.out) hb); have n10_ := am (bs (xW HB.out) hb); clear HO_322000; clear HO_322001; clear HO_330000; clear HO_330001; clear HO_339000; clear HO_339001; clear BK304; clear BK321; clear BK329; clear BK338; clear HB; have HO_322000 := n0_; have HO_322001 := n1_; have HO_330000 := n2_; have HO_330001 := n3_; have HO_339000 := n4_; have HO_339001 := n5_; have BK304 := n6_; have BK321 := n7_; have BK329 := n8_; have BK338 := n9_; have HB := n10_; clear n0_ n1_ n2_ n3_ n4_ n5_ n6_ n7_ n8_ n9_ n10_; (try clear hb); (try clear hb2); (try clear hk); (try clear hi); have hnb120 := NB304_321.out; have hnc120 := NB321_304.out; have hnb121 := NB304_329.out; have hnc121 := NB329_304.out; obtain ⟨hcz122_0, hcz122_1, hcz122_2, hfz122_0, hfz122_1, hfz122_2⟩ := xT3 (W := w119) BK304.out) | ((with_reducible refine gate_callee (f := 26) rfl ?_); refine xG (some 86) 26 Try.func26 #[.agg #[.slice A0_0 l0_0.length c0_0, .slice A0_1 l0_1.length c0_1, .int .i64 a0_2]] (h := ?_); (with_reducible refine (laws_toTable.calls kj67 _ _ l0_0 _ _ l0_1 a0_2 t356 t359 t362 _ ?side1 ?side2 ?side3 ?side4 A110.out).mono ?_); (case side1 => exact xC (Kd.C_below HR0_0.out HB.out)); (case side2 => exact HC0_0.out); (case side3 => exact xC (Kd.C_below HR0_1.out HB.out)); (case side4 => exact HC0_1.out); rintro e w123 ⟨v357, v360, rfl, ho0, ho1, hb⟩; refine ⟨_, rfl, ?_⟩; have n0_ := am (rm (ro (ro (rl (xR HO_322000.out) hb) (re ho0)) (re ho1)) (fun _ h_ => h_.1)); have n1_ := am (rm (ro (ro (rl (xR HO_322001.out) hb) (re ho0)) (re ho1)) (fun _ h_ => h_.1)); have n2_ := am (rm (ro (ro (rl (xR HO_330000.out) hb) (re ho0)) (re ho1)) (fun _ h_ => h_.1)); have n3_ := am (rm (ro (ro (rl (xR HO_330001.out) hb) (re ho0)) (re ho1)) (fun _ h_ => h_.1)); have n4_ := am (rm (ro (ro (rl (xR HO_339000.out) hb) (re ho0)) (re ho1)) (fun _ h_ => h_.1)); have n5_ := am (rm (ro (ro (rl (xR HO_339001.out) hb) (re ho0)) (re ho1)) (fun _ h_ => h_.1)); have n6_ := am (Kd.R_lower (Kd.R_new' (Kd.R_new' (Kd.R_new' (Kd.R_new' (Kd.R_new' (Kd.R_new' ho0 (Kd.R_lt (xR HO_322000.out))) (Kd.R_lt (xR HO_322001.out))) (Kd.R_lt (xR HO_330000.out))) (Kd.R_lt (xR HO_330001.out))) (Kd.R_lt (xR HO_339000.out))) (Kd.R_lt (xR HO_339001.out))) (below_size (xW HB.out))); have n7_ := am (Kd.R_lower (Kd.R_new' (Kd.R_new' (Kd.R_new' (Kd.R_new' (Kd.R_new' (Kd.R_new' ho1 (Kd.R_lt (xR HO_322000.out))) (Kd.R_lt (xR HO_322001.out))) (Kd.R_lt (xR HO_330000.out))) (Kd.R_lt (xR HO_330001.out))) (Kd.R_lt (xR HO_339000.out))) (Kd.R_lt (xR HO_339001.out))) (below_size (xW HB.out))); have n8_ := am (bb (xB BK304.out) hb); have n9_ := am (bb (xB BK321.out) hb); have n10_ := am (bb (xB BK329.out) hb); have n11_ := am (bb (xB BK338.out) hb); have n12_ := am (bs (xW HB.out) hb); clear HO_322000; clear HO_322001; clear HO_330000; clear HO_330001; clear HO_339000; clear HO_339001; clear BK304; clear BK321; clear BK329; clear BK338; clear HB; have HO_322000 := n0_; have HO_322001 := n1_; have HO_330000 := n2_; have HO_330001 := n3_; have HO_339000 := n4_; have HO_339001 := n5_; have HO358 := n6_; have HO361 := n7_; have BK304 := n8_; have BK321 := n9_; have BK329 := n10_; have BK338 := n11_; have HB := n12_; clear n0_ n1_ n2_ n3_ n4_ n5_ n6_ n7_ n8_ n9_ n10_ n11_ n12_; (try clear hb); (try clear hb2); (try clear hk); (try clear hi); (try clear ho0); (try clear ho1); obtain ⟨Ao124, co124, eo124⟩ := Kd.R_slice HO358.out; subst eo124; obtain ⟨Ao125, co125, eo125⟩ := Kd.R_slice HO361.out; subst eo125) | ((with_reducible refine gate_callee (f := 38) rfl ?_); refine xG (some 89) 38 Try.func38 #[.agg #[.slice Ao124 t356.length co124, .slice Ao125 t359.length co125, .int .i64 t362], .string a1, .int .i64 a2] (h := ?_); (with_reducible refine (impl_PutKey.calls kj67 _ _ t356 _ _ t359 t362 a1 a2 t363 t366 t369 t370 _ ?side1 ?side2 ?side3 ?side4 A111.out).mono ?_); (case side1 => exact xC ((rr HO358.out).2.2)); (case side2 => exact (rr HO358.out).2.1); (case side3 => exact xC ((rr HO361.out).2.2)); (case side4 => exact (rr HO361.out).2.1); rintro e w126 ⟨v364, v367, rfl, ho0, ho1, hb⟩; refine ⟨_, rfl, ?_⟩; have n0_ := am (rm (ro (ro (rl (xR HO_322000.out) hb) (re ho0)) (re ho1)) (fun _ h_ => h_.1)); have n1_ := am (rm (ro (ro (rl (xR HO_322001.out) hb) (re ho0)) (re ho1)) (fun _ h_ => h_.1)); have n2_ := am (rm (ro (ro (rl (xR HO_330000.out) hb) (re ho0)) (re ho1)) (fun _ h_ => h_.1)); have n3_ := am (rm (ro (ro (rl (xR HO_330001.out) hb) (re ho0)) (re ho1)) (fun _ h_ => h_.1)); have n4_ := am (rm (ro (ro (rl (xR HO_339000.out) hb) (re ho0)) (re ho1)) (fun _ h_ => h_.1)); have n5_ := am (rm (ro (ro (rl (xR HO_339001.out) hb) (re ho0)) (re ho1)) (fun _ h_ => h_.1)); have n6_ := am (rm (ro (ro (rl (xR HO358.out) hb) (re ho0)) (re ho1)) (fun _ h_ => h_.1)); have n7_ := am (rm (ro (ro (rl (xR HO361.out) hb) (re ho0)) (re ho1)) (fun _ h_ => h_.1)); have n8_ := am (Kd.R_lower (Kd.R_new' (Kd.R_new' (Kd.R_new' (Kd.R_new' (Kd.R_new' (Kd.R_new' (Kd.R_new' (Kd.R_new' ho0 (Kd.R_lt (xR HO_322000.out))) (Kd.R_lt (xR HO_322001.out))) (Kd.R_lt (xR HO_330000.out))) (Kd.R_lt (xR HO_330001.out))) (Kd.R_lt (xR HO_339000.out))) (Kd.R_lt (xR HO_339001.out))) (Kd.R_lt (xR HO358.out))) (Kd.R_lt (xR HO361.out))) (below_size (xW HB.out))); have n9_ := am (Kd.R_lower (Kd.R_new' (Kd.R_new' (Kd.R_new' (Kd.R_new' (Kd.R_new' (Kd.R_new' (Kd.R_new' (Kd.R_new' ho1 (Kd.R_lt (xR HO_322000.out))) (Kd.R_lt (xR HO_322001.out))) (Kd.R_lt (xR HO_330000.out))) (Kd.R_lt (xR HO_330001.out))) (Kd.R_lt (xR HO_339000.out))) (Kd.R_lt (xR HO_339001.out))) (Kd.R_lt (xR HO358.out))) (Kd.R_lt (xR HO361.out))) (below_size (xW HB.out))); have n10_ := am (bb (xB BK304.out) hb); have n11_ := am (bb (xB BK321.out) hb); have n12_ := am (bb (xB BK329.out) hb); have n13_ := am (bb (xB BK338.out) hb); have n14_ := am (bs (xW HB.out) hb); clear HO_322000; clear HO_322001; clear HO_330000; clear HO_330001; clear HO_339000; clear HO_339001; clear HO358; clear HO361; clear BK304; clear BK321; clear BK329; clear BK338; clear HB; have HO_322000 := n0_; have HO_322001 := n1_; have HO_330000 := n2_; have HO_330001 := n3_; have HO_339000 := n4_; have HO_339001 := n5_; have HO358 := n6_; have HO361 := n7_; have HO365 := n8_; have HO368 := n9_; have BK304 := n10_; have BK321 := n11_; have BK329 := n12_; have BK338 := n13_; have HB := n14_; clear n0_ n1_ n2_ n3_ n4_ n5_ n6_ n7_ n8_ n9_ n10_ n11_ n12_ n13_ n14_; (try clear hb); (try clear hb2); (try clear hk); (try clear hi); (try clear ho0); (try clear ho1)) | ((with_reducible refine gate_dst (N := 16) rfl ?_); refine xE (N := 16) (cs := #[.slice none 0 0, .slice none 0 0, .int .i64 0]) (t := 26) (h := ?_); intro gb371 hg w127 hbox hb; have n0_ := am (rb (xR HO_322000.out) hb); have n1_ := am (rb (xR HO_322001.out) hb); have n2_ := am (rb (xR HO_330000.out) hb); have n3_ := am (rb (xR HO_330001.out) hb); have n4_ := am (rb (xR HO_339000.out) hb); have n5_ := am (rb (xR HO_339001.out) hb); have n6_ := am (rb (xR HO358.out) hb); have n7_ := am (rb (xR HO361.out) hb); have n8_ := am (rb (xR HO365.out) hb); have n9_ := am (rb (xR HO368.out) hb); have n10_ := am (bb (xB BK304.out) hb); have n11_ := am (bb (xB BK321.out) hb); have n12_ := am (bb (xB BK329.out) hb); have n13_ := am (bb (xB BK338.out) hb); have n14_ := am (bs (xW HB.out) hb); have n15_ := am (hbox); have n16_ := am (xS hg HB.out); have n17_ := am (xS hg HB.out); have n18_ := am (xN hg BK304.out); have n19_ := am (xM hg BK304.out); have n20_ := am (xN hg BK321.out); have n21_ := am (xM hg BK321.out); have n22_ := am (xN hg BK329.out); have n23_ := am (xM hg BK329.out); have n24_ := am (xN hg BK338.out); have n25_ := am (xM hg BK338.out); clear HO_322000; clear HO_322001; clear HO_330000; clear HO_330001; clear HO_339000; clear HO_339001; clear HO358; clear HO361; clear HO365; clear HO368; clear BK304; clear BK321; clear BK329; clear BK338; clear HB; have HO_322000 := n0_; have HO_322001 := n1_; have HO_330000 := n2_; have HO_330001 := n3_; have HO_339000 := n4_; have HO_339001 := n5_; have HO358 := n6_; have HO361 := n7_; have HO365 := n8_; have HO368 := n9_; have BK304 := n10_; have BK321 := n11_; have BK329 := n12_; have BK338 := n13_; have HB := n14_; have BK371 := n15_; have GW371 := n16_; have GE371 := n17_; have NB304_371 := n18_; have NB371_304 := n19_; have NB321_371 := n20_; have NB371_321 := n21_; have NB329_371 := n22_; have NB371_329 := n23_; have NB338_371 := n24_; have NB371_338 := n25_; clear n0_ n1_ n2_ n3_ n4_ n5_ n6_ n7_ n8_ n9_ n10_ n11_ n12_ n13_ n14_ n15_ n16_ n17_ n18_ n19_ n20_ n21_ n22_ n23_ n24_ n25_; clear hb hbox hg; obtain ⟨Ao128, co128, eo128⟩ := Kd.R_slice HO365.out; subst eo128; have hnb129 := NB371_304.out; have hnc129 := NB304_371.out; have hnb130 := NB371_321.out; have hnc130 := NB321_371.out; have hnb131 := NB371_329.out; have hnc131 := NB329_371.out; have hnb132 := NB371_338.out; have hnc132 := NB338_371.out; obtain ⟨hcz133_0, hcz133_1, hcz133_2, hfz133_0, hfz133_1, hfz133_2⟩ := xT3 (W := w127) BK371.out; obtain ⟨Ao134, co134, eo134⟩ := Kd.R_slice HO368.out; subst eo134))
            (try simp only [Act.put, List.setIfInBounds_toArray, List.set_cons_zero, List.set_cons_succ])
            go_cut [100] (fun v100 wc => ∃ (kq : Nat) (x100_111 : Bool), v100 = .bool x100_111 ∧ Aside0 (laws_FnExactPutKey.j2 kq t352 x100_111 t353 t354 t336 = some r) ∧ Aside0 (kq ≤ kj67) ∧ Aside0 (Kd.R k57 57 wc w.heap.size (fun k_ => some k_ ≠ ((.slice Ao28 t316.length co28) : Value).ownBlock ∧ some k_ ≠ ((.slice Ao32 t349.length co32) : Value).ownBlock ∧ some k_ ≠ ((.slice Ao36 t350.length co36) : Value).ownBlock ∧ some k_ ≠ ((.slice Ao39 t330.length co39) : Value).ownBlock ∧ some k_ ≠ ((.slice Ao44 t333.length co44) : Value).ownBlock ∧ some k_ ≠ ((.slice Ao128 t363.length co128) : Value).ownBlock ∧ some k_ ≠ ((.slice Ao134 t366.length co134) : Value).ownBlock) (.slice Ao25 t313.length co25) t313) ∧ Aside0 (Kd.R k57 57 wc w.heap.size (fun k_ => some k_ ≠ ((.slice Ao25 t313.length co25) : Value).ownBlock ∧ some k_ ≠ ((.slice Ao32 t349.length co32) : Value).ownBlock ∧ some k_ ≠ ((.slice Ao36 t350.length co36) : Value).ownBlock ∧ some k_ ≠ ((.slice Ao39 t330.length co39) : Value).ownBlock ∧ some k_ ≠ ((.slice Ao44 t333.length co44) : Value).ownBlock ∧ some k_ ≠ ((.slice Ao128 t363.length co128) : Value).ownBlock ∧ some k_ ≠ ((.slice Ao134 t366.length co134) : Value).ownBlock) (.slice Ao28 t316.length co28) t316) ∧ Aside0 (Kd.R k57 57 wc w.heap.size (fun k_ => some k_ ≠ ((.slice Ao25 t313.length co25) : Value).ownBlock ∧ some k_ ≠ ((.slice Ao28 t316.length co28) : Value).ownBlock ∧ some k_ ≠ ((.slice Ao36 t350.length co36) : Value).ownBlock ∧ some k_ ≠ ((.slice Ao39 t330.length co39) : Value).ownBlock ∧ some k_ ≠ ((.slice Ao44 t333.length co44) : Value).ownBlock ∧ some k_ ≠ ((.slice Ao128 t363.length co128) : Value).ownBlock ∧ some k_ ≠ ((.slice Ao134 t366.length co134) : Value).ownBlock) (.slice Ao32 t349.length co32) t349) ∧ Aside0 (Kd.R k57 57 wc w.heap.size (fun k_ => some k_ ≠ ((.slice Ao25 t313.length co25) : Value).ownBlock ∧ some k_ ≠ ((.slice Ao28 t316.length co28) : Value).ownBlock ∧ some k_ ≠ ((.slice Ao32 t349.length co32) : Value).ownBlock ∧ some k_ ≠ ((.slice Ao39 t330.length co39) : Value).ownBlock ∧ some k_ ≠ ((.slice Ao44 t333.length co44) : Value).ownBlock ∧ some k_ ≠ ((.slice Ao128 t363.length co128) : Value).ownBlock ∧ some k_ ≠ ((.slice Ao134 t366.length co134) : Value).ownBlock) (.slice Ao36 t350.length co36) t350) ∧ Aside0 (Kd.R k57 57 wc w.heap.size (fun k_ => some k_ ≠ ((.slice Ao25 t313.length co25) : Value).ownBlock ∧ some k_ ≠ ((.slice Ao28 t316.length co28) : Value).ownBlock ∧ some k_ ≠ ((.slice Ao32 t349.length co32) : Value).ownBlock ∧ some k_ ≠ ((.slice Ao36 t350.length co36) : Value).ownBlock ∧ some k_ ≠ ((.slice Ao44 t333.length co44) : Value).ownBlock ∧ some k_ ≠ ((.slice Ao128 t363.length co128) : Value).ownBlock ∧ some k_ ≠ ((.slice Ao134 t366.length co134) : Value).ownBlock) (.slice Ao39 t330.length co39) t353) ∧ Aside0 (Kd.R k57 57 wc w.heap.size (fun k_ => some k_ ≠ ((.slice Ao25 t313.length co25) : Value).ownBlock ∧ some k_ ≠ ((.slice Ao28 t316.length co28) : Value).ownBlock ∧ some k_ ≠ ((.slice Ao32 t349.length co32) : Value).ownBlock ∧ some k_ ≠ ((.slice Ao36 t350.length co36) : Value).ownBlock ∧ some k_ ≠ ((.slice Ao39 t330.length co39) : Value).ownBlock ∧ some k_ ≠ ((.slice Ao128 t363.length co128) : Value).ownBlock ∧ some k_ ≠ ((.slice Ao134 t366.length co134) : Value).ownBlock) (.slice Ao44 t333.length co44) t354) ∧ Aside0 (Kd.R k57 57 wc w.heap.size (fun k_ => some k_ ≠ ((.slice Ao25 t313.length co25) : Value).ownBlock ∧ some k_ ≠ ((.slice Ao28 t316.length co28) : Value).ownBlock ∧ some k_ ≠ ((.slice Ao32 t349.length co32) : Value).ownBlock ∧ some k_ ≠ ((.slice Ao36 t350.length co36) : Value).ownBlock ∧ some k_ ≠ ((.slice Ao39 t330.length co39) : Value).ownBlock ∧ some k_ ≠ ((.slice Ao44 t333.length co44) : Value).ownBlock ∧ some k_ ≠ ((.slice Ao134 t366.length co134) : Value).ownBlock) (.slice Ao128 t363.length co128) t363) ∧ Aside0 (Kd.R k57 57 wc w.heap.size (fun k_ => some k_ ≠ ((.slice Ao25 t313.length co25) : Value).ownBlock ∧ some k_ ≠ ((.slice Ao28 t316.length co28) : Value).ownBlock ∧ some k_ ≠ ((.slice Ao32 t349.length co32) : Value).ownBlock ∧ some k_ ≠ ((.slice Ao36 t350.length co36) : Value).ownBlock ∧ some k_ ≠ ((.slice Ao39 t330.length co39) : Value).ownBlock ∧ some k_ ≠ ((.slice Ao44 t333.length co44) : Value).ownBlock ∧ some k_ ≠ ((.slice Ao128 t363.length co128) : Value).ownBlock) (.slice Ao134 t366.length co134) t366) ∧ Aside0 (wc.heap[gb304]? = some (.cells #[(.slice A0_0 l0_0.length c0_0), (.slice A0_1 l0_1.length c0_1), .int .i64 a0_2] 42 (0, 0))) ∧ Aside0 (wc.heap[gb321]? = some (.cells #[(.slice Ao25 t313.length co25), (.slice Ao28 t316.length co28), .int .i64 t319] 26 (0, 0))) ∧ Aside0 (wc.heap[gb329]? = some (.cells #[(.slice Ao32 t349.length co32), (.slice Ao36 t350.length co36), .int .i64 t328] 26 (0, 0))) ∧ Aside0 (wc.heap[gb338]? = some (.cells #[(.slice Ao39 t330.length co39), (.slice Ao44 t333.length co44), .int .i64 t336] 26 (0, 0))) ∧ Aside0 (wc.heap[gb371]? = some (.cells #[(.slice Ao128 t363.length co128), (.slice Ao134 t366.length co134), .int .i64 t369] 26 (0, 0))) ∧ Aside0 (Below w.heap.size w wc))
            case first =>
             have H := HC112.out
             clear HC112
             replace H := Option.bind_eq_some_iff.mp H
             obtain ⟨t372, A1350, H⟩ := H
             replace H : (if t372 = true then (laws_FnExactPutKey.j2 kj67 t352 (t370 != t320) t353 t354 t336) else (laws_FnExactPutKey.j2 kj67 t352 true t353 t354 t336)) = some r := H
             have A135 := am A1350
             clear A1350
             by_cases c136 : t372 = true
             ·subst c136
              have H1 : (laws_FnExactPutKey.j2 kj67 t352 (t370 != t320) t353 t354 t336) = some r := by rw [if_pos rfl] at H; exact H
              clear H
              have H := H1
              clear H1
              have H' := am H
              clear H
              have hnb137 := NB371_304.out
              have hnc137 := NB304_371.out
              have hnb138 := NB371_321.out
              have hnc138 := NB321_371.out
              have hnb139 := NB371_329.out
              have hnc139 := NB329_371.out
              have hnb140 := NB371_338.out
              have hnc140 := NB338_371.out
              obtain ⟨hcz141_0, hcz141_1, hcz141_2, hfz141_0, hfz141_1, hfz141_2⟩ := xT3 (W := w127) BK371.out
              have hnb142 := NB321_304.out
              have hnc142 := NB304_321.out
              have hnb143 := NB321_329.out
              have hnc143 := NB329_321.out
              have hnb144 := NB321_338.out
              have hnc144 := NB338_321.out
              obtain ⟨hcz145_0, hcz145_1, hcz145_2, hfz145_0, hfz145_1, hfz145_2⟩ := xT3 (W := w127) BK321.out
              go_wp2_with (first | ((with_reducible refine gate_callee (f := 27) rfl ?_); refine xG (some 94) 27 Try.func27 #[.agg #[.slice Ao128 t363.length co128, .slice Ao134 t366.length co134, .int .i64 t369], .agg #[.slice Ao25 t313.length co25, .slice Ao28 t316.length co28, .int .i64 t319]] (h := ?_); (with_reducible refine (laws_eqTable.calls kj67 _ _ t363 _ _ t366 t369 _ _ t313 _ _ t316 t319 true _ ?side1 ?side2 ?side3 ?side4 ?side5 ?side6 ?side7 ?side8 A135.out).mono ?_); (case side1 => exact xD HO365.out); (case side2 => exact (rr HO365.out).2.1); (case side3 => exact xD HO368.out); (case side4 => exact (rr HO368.out).2.1); (case side5 => exact xD HO_322000.out); (case side6 => exact (rr HO_322000.out).2.1); (case side7 => exact xD HO_322001.out); (case side8 => exact (rr HO_322001.out).2.1); rintro e w146 ⟨rfl, hb⟩; refine ⟨_, rfl, ?_⟩; have n0_ := am (rb (xR HO_322000.out) hb); have n1_ := am (rb (xR HO_322001.out) hb); have n2_ := am (rb (xR HO_330000.out) hb); have n3_ := am (rb (xR HO_330001.out) hb); have n4_ := am (rb (xR HO_339000.out) hb); have n5_ := am (rb (xR HO_339001.out) hb); have n6_ := am (rb (xR HO358.out) hb); have n7_ := am (rb (xR HO361.out) hb); have n8_ := am (rb (xR HO365.out) hb); have n9_ := am (rb (xR HO368.out) hb); have n10_ := am (bb (xB BK304.out) hb); have n11_ := am (bb (xB BK321.out) hb); have n12_ := am (bb (xB BK329.out) hb); have n13_ := am (bb (xB BK338.out) hb); have n14_ := am (bb (xP BK371.out) hb); have n15_ := am (bs (xW HB.out) hb); clear HO_322000; clear HO_322001; clear HO_330000; clear HO_330001; clear HO_339000; clear HO_339001; clear HO358; clear HO361; clear HO365; clear HO368; clear BK304; clear BK321; clear BK329; clear BK338; clear BK371; clear HB; have HO_322000 := n0_; have HO_322001 := n1_; have HO_330000 := n2_; have HO_330001 := n3_; have HO_339000 := n4_; have HO_339001 := n5_; have HO358 := n6_; have HO361 := n7_; have HO365 := n8_; have HO368 := n9_; have BK304 := n10_; have BK321 := n11_; have BK329 := n12_; have BK338 := n13_; have BK371 := n14_; have HB := n15_; clear n0_ n1_ n2_ n3_ n4_ n5_ n6_ n7_ n8_ n9_ n10_ n11_ n12_ n13_ n14_ n15_; (try clear hb); (try clear hb2); (try clear hk); (try clear hi)))
              go_meet
              case rel => exact ⟨_, ((t370 != t320)), (xQ), H', ⟨by have := HJ14.out; have := HJ67.out; first | omega | exact Nat.le_refl _⟩, ⟨by (try simp only [hl330000_67]); (try simp only [hl330001_67]); (with_reducible repeat (first | apply ra | apply rn | apply rd)); exact rm HO_322000.out (fun _ hk => by simp [hk])⟩, ⟨by (try simp only [hl330000_67]); (try simp only [hl330001_67]); (with_reducible repeat (first | apply ra | apply rn | apply rd)); exact rm HO_322001.out (fun _ hk => by simp [hk])⟩, ⟨by (try simp only [hl330000_67]); (try simp only [hl330001_67]); (with_reducible repeat (first | apply ra | apply rn | apply rd)); exact rm HO_330000.out (fun _ hk => by simp [hk])⟩, ⟨by (try simp only [hl330000_67]); (try simp only [hl330001_67]); (with_reducible repeat (first | apply ra | apply rn | apply rd)); exact rm HO_330001.out (fun _ hk => by simp [hk])⟩, ⟨by (try simp only [hl330000_67]); (try simp only [hl330001_67]); (with_reducible repeat (first | apply ra | apply rn | apply rd)); exact rm HO_339000.out (fun _ hk => by simp [hk])⟩, ⟨by (try simp only [hl330000_67]); (try simp only [hl330001_67]); (with_reducible repeat (first | apply ra | apply rn | apply rd)); exact rm HO_339001.out (fun _ hk => by simp [hk])⟩, ⟨by (try simp only [hl330000_67]); (try simp only [hl330001_67]); (with_reducible repeat (first | apply ra | apply rn | apply rd)); exact rm HO365.out (fun _ hk => by simp [hk])⟩, ⟨by (try simp only [hl330000_67]); (try simp only [hl330001_67]); (with_reducible repeat (first | apply ra | apply rn | apply rd)); exact rm HO368.out (fun _ hk => by simp [hk])⟩, ⟨by (try simp only [hl330000_67]); (try simp only [hl330001_67]); (with_reducible repeat (first | refine bn ?_ _ | refine bd ?_ | refine ba ?_ _)); exact BK304.out⟩, ⟨by (try simp only [hl330000_67]); (try simp only [hl330001_67]); (with_reducible repeat (first | refine bn ?_ _ | refine bd ?_ | refine ba ?_ _)); exact BK321.out⟩, ⟨by (try simp only [hl330000_67]); (try simp only [hl330001_67]); (with_reducible repeat (first | refine bn ?_ _ | refine bd ?_ | refine ba ?_ _)); exact BK329.out⟩, ⟨by (try simp only [hl330000_67]); (try simp only [hl330001_67]); (with_reducible repeat (first | refine bn ?_ _ | refine bd ?_ | refine ba ?_ _)); exact BK338.out⟩, ⟨by (try simp only [hl330000_67]); (try simp only [hl330001_67]); (with_reducible repeat (first | refine bn ?_ _ | refine bd ?_ | refine ba ?_ _)); exact BK371.out⟩, ⟨xW HB.out⟩⟩
             ·replace c136 := Bool.eq_false_iff.mpr c136
              subst c136
              have H1 : (laws_FnExactPutKey.j2 kj67 t352 true t353 t354 t336) = some r := by rw [if_neg (show ¬ (false = true) by decide)] at H; exact H
              clear H
              have H := H1
              clear H1
              have H' := am H
              clear H
              have hnb147 := NB371_304.out
              have hnc147 := NB304_371.out
              have hnb148 := NB371_321.out
              have hnc148 := NB321_371.out
              have hnb149 := NB371_329.out
              have hnc149 := NB329_371.out
              have hnb150 := NB371_338.out
              have hnc150 := NB338_371.out
              obtain ⟨hcz151_0, hcz151_1, hcz151_2, hfz151_0, hfz151_1, hfz151_2⟩ := xT3 (W := w127) BK371.out
              have hnb152 := NB321_304.out
              have hnc152 := NB304_321.out
              have hnb153 := NB321_329.out
              have hnc153 := NB329_321.out
              have hnb154 := NB321_338.out
              have hnc154 := NB338_321.out
              obtain ⟨hcz155_0, hcz155_1, hcz155_2, hfz155_0, hfz155_1, hfz155_2⟩ := xT3 (W := w127) BK321.out
              go_wp2_with (first | ((with_reducible refine gate_callee (f := 27) rfl ?_); refine xG (some 94) 27 Try.func27 #[.agg #[.slice Ao128 t363.length co128, .slice Ao134 t366.length co134, .int .i64 t369], .agg #[.slice Ao25 t313.length co25, .slice Ao28 t316.length co28, .int .i64 t319]] (h := ?_); (with_reducible refine (laws_eqTable.calls kj67 _ _ t363 _ _ t366 t369 _ _ t313 _ _ t316 t319 false _ ?side1 ?side2 ?side3 ?side4 ?side5 ?side6 ?side7 ?side8 A135.out).mono ?_); (case side1 => exact xD HO365.out); (case side2 => exact (rr HO365.out).2.1); (case side3 => exact xD HO368.out); (case side4 => exact (rr HO368.out).2.1); (case side5 => exact xD HO_322000.out); (case side6 => exact (rr HO_322000.out).2.1); (case side7 => exact xD HO_322001.out); (case side8 => exact (rr HO_322001.out).2.1); rintro e w156 ⟨rfl, hb⟩; refine ⟨_, rfl, ?_⟩; have n0_ := am (rb (xR HO_322000.out) hb); have n1_ := am (rb (xR HO_322001.out) hb); have n2_ := am (rb (xR HO_330000.out) hb); have n3_ := am (rb (xR HO_330001.out) hb); have n4_ := am (rb (xR HO_339000.out) hb); have n5_ := am (rb (xR HO_339001.out) hb); have n6_ := am (rb (xR HO358.out) hb); have n7_ := am (rb (xR HO361.out) hb); have n8_ := am (rb (xR HO365.out) hb); have n9_ := am (rb (xR HO368.out) hb); have n10_ := am (bb (xB BK304.out) hb); have n11_ := am (bb (xB BK321.out) hb); have n12_ := am (bb (xB BK329.out) hb); have n13_ := am (bb (xB BK338.out) hb); have n14_ := am (bb (xP BK371.out) hb); have n15_ := am (bs (xW HB.out) hb); clear HO_322000; clear HO_322001; clear HO_330000; clear HO_330001; clear HO_339000; clear HO_339001; clear HO358; clear HO361; clear HO365; clear HO368; clear BK304; clear BK321; clear BK329; clear BK338; clear BK371; clear HB; have HO_322000 := n0_; have HO_322001 := n1_; have HO_330000 := n2_; have HO_330001 := n3_; have HO_339000 := n4_; have HO_339001 := n5_; have HO358 := n6_; have HO361 := n7_; have HO365 := n8_; have HO368 := n9_; have BK304 := n10_; have BK321 := n11_; have BK329 := n12_; have BK338 := n13_; have BK371 := n14_; have HB := n15_; clear n0_ n1_ n2_ n3_ n4_ n5_ n6_ n7_ n8_ n9_ n10_ n11_ n12_ n13_ n14_ n15_; (try clear hb); (try clear hb2); (try clear hk); (try clear hi)))
              go_meet
              case rel => exact ⟨_, (true), (xQ), H', ⟨by have := HJ14.out; have := HJ67.out; first | omega | exact Nat.le_refl _⟩, ⟨by (try simp only [hl330000_67]); (try simp only [hl330001_67]); (with_reducible repeat (first | apply ra | apply rn | apply rd)); exact rm HO_322000.out (fun _ hk => by simp [hk])⟩, ⟨by (try simp only [hl330000_67]); (try simp only [hl330001_67]); (with_reducible repeat (first | apply ra | apply rn | apply rd)); exact rm HO_322001.out (fun _ hk => by simp [hk])⟩, ⟨by (try simp only [hl330000_67]); (try simp only [hl330001_67]); (with_reducible repeat (first | apply ra | apply rn | apply rd)); exact rm HO_330000.out (fun _ hk => by simp [hk])⟩, ⟨by (try simp only [hl330000_67]); (try simp only [hl330001_67]); (with_reducible repeat (first | apply ra | apply rn | apply rd)); exact rm HO_330001.out (fun _ hk => by simp [hk])⟩, ⟨by (try simp only [hl330000_67]); (try simp only [hl330001_67]); (with_reducible repeat (first | apply ra | apply rn | apply rd)); exact rm HO_339000.out (fun _ hk => by simp [hk])⟩, ⟨by (try simp only [hl330000_67]); (try simp only [hl330001_67]); (with_reducible repeat (first | apply ra | apply rn | apply rd)); exact rm HO_339001.out (fun _ hk => by simp [hk])⟩, ⟨by (try simp only [hl330000_67]); (try simp only [hl330001_67]); (with_reducible repeat (first | apply ra | apply rn | apply rd)); exact rm HO365.out (fun _ hk => by simp [hk])⟩, ⟨by (try simp only [hl330000_67]); (try simp only [hl330001_67]); (with_reducible repeat (first | apply ra | apply rn | apply rd)); exact rm HO368.out (fun _ hk => by simp [hk])⟩, ⟨by (try simp only [hl330000_67]); (try simp only [hl330001_67]); (with_reducible repeat (first | refine bn ?_ _ | refine bd ?_ | refine ba ?_ _)); exact BK304.out⟩, ⟨by (try simp only [hl330000_67]); (try simp only [hl330001_67]); (with_reducible repeat (first | refine bn ?_ _ | refine bd ?_ | refine ba ?_ _)); exact BK321.out⟩, ⟨by (try simp only [hl330000_67]); (try simp only [hl330001_67]); (with_reducible repeat (first | refine bn ?_ _ | refine bd ?_ | refine ba ?_ _)); exact BK329.out⟩, ⟨by (try simp only [hl330000_67]); (try simp only [hl330001_67]); (with_reducible repeat (first | refine bn ?_ _ | refine bd ?_ | refine ba ?_ _)); exact BK338.out⟩, ⟨by (try simp only [hl330000_67]); (try simp only [hl330001_67]); (with_reducible repeat (first | refine bn ?_ _ | refine bd ?_ | refine ba ?_ _)); exact BK371.out⟩, ⟨xW HB.out⟩⟩
            case rest =>
             clear HC112
             try clear c1
             try clear c2
             try clear p2
             try clear c3
             try clear c4
             try clear c4b0
             try clear c4b1
             try clear c5
             try clear c6
             try clear c7
             try clear c7b0
             try clear c8
             try clear c9
             try clear c10
             try clear c11
             try clear c12
             try clear c13
             try clear c14
             try clear c15
             try clear c24
             try clear c26
             try clear c27
             try clear c30
             try clear c33
             try clear c34
             try clear c35
             try clear c37
             try clear c38
             try clear c40
             try clear c41
             try clear c42
             try clear c46
             try clear c47
             try clear c48
             try clear c49
             try clear c51
             try clear c52
             try clear c55
             try clear c56
             try clear c57
             try clear c59
             try clear c60
             try clear c63
             try clear c66
             try clear c74
             try clear c75
             try clear c76
             try clear c79
             try clear c79b0
             try clear c81
             try clear c82
             try clear c83
             try clear c84
             try clear c86
             try clear c87
             try clear c90
             try clear c91
             try clear c92
             try clear c94
             try clear c95
             try clear c98
             try clear c101
             try clear c101b0
             try clear c102
             try clear c103
             try clear c104
             try clear c109
             try clear c109b0
             try clear c109b1
             try clear c113
             try clear c114
             try clear c115
             try clear c120
             try clear c121
             try clear c129
             try clear c130
             try clear c131
             try clear c132
             try clear c136
             try clear c137
             try clear c138
             try clear c139
             try clear c140
             try clear c142
             try clear c143
             try clear c144
             try clear c147
             try clear c148
             try clear c149
             try clear c150
             try clear c152
             try clear c153
             try clear c154
             try clear hcz105_0
             try clear hcz105_1
             try clear hcz105_2
             try clear hcz107_0
             try clear hcz107_1
             try clear hcz107_2
             try clear hcz116_0
             try clear hcz116_1
             try clear hcz116_2
             try clear hcz118_0
             try clear hcz118_1
             try clear hcz118_2
             try clear hcz122_0
             try clear hcz122_1
             try clear hcz122_2
             try clear hcz133_0
             try clear hcz133_1
             try clear hcz133_2
             try clear hcz141_0
             try clear hcz141_1
             try clear hcz141_2
             try clear hcz145_0
             try clear hcz145_1
             try clear hcz145_2
             try clear hcz151_0
             try clear hcz151_1
             try clear hcz151_2
             try clear hcz155_0
             try clear hcz155_1
             try clear hcz155_2
             try clear hcz17_0
             try clear hcz17_1
             try clear hcz17_2
             try clear hcz19_0
             try clear hcz19_1
             try clear hcz19_2
             try clear hcz27_0
             try clear hcz27_1
             try clear hcz27_2
             try clear hcz29_0
             try clear hcz29_1
             try clear hcz29_2
             try clear hcz35_0
             try clear hcz35_1
             try clear hcz35_2
             try clear hcz43_0
             try clear hcz43_1
             try clear hcz43_2
             try clear hcz50_0
             try clear hcz50_1
             try clear hcz50_2
             try clear hcz53_0
             try clear hcz53_1
             try clear hcz53_2
             try clear hcz58_0
             try clear hcz58_1
             try clear hcz58_2
             try clear hcz61_0
             try clear hcz61_1
             try clear hcz61_2
             try clear hcz77_0
             try clear hcz77_1
             try clear hcz77_2
             try clear hcz85_0
             try clear hcz85_1
             try clear hcz85_2
             try clear hcz88_0
             try clear hcz88_1
             try clear hcz88_2
             try clear hcz93_0
             try clear hcz93_1
             try clear hcz93_2
             try clear hcz96_0
             try clear hcz96_1
             try clear hcz96_2
             try clear hcz9_0
             try clear hcz9_1
             try clear hcz9_2
             try clear hfz105_0
             try clear hfz105_1
             try clear hfz105_2
             try clear hfz107_0
             try clear hfz107_1
             try clear hfz107_2
             try clear hfz116_0
             try clear hfz116_1
             try clear hfz116_2
             try clear hfz118_0
             try clear hfz118_1
             try clear hfz118_2
             try clear hfz122_0
             try clear hfz122_1
             try clear hfz122_2
             try clear hfz133_0
             try clear hfz133_1
             try clear hfz133_2
             try clear hfz141_0
             try clear hfz141_1
             try clear hfz141_2
             try clear hfz145_0
             try clear hfz145_1
             try clear hfz145_2
             try clear hfz151_0
             try clear hfz151_1
             try clear hfz151_2
             try clear hfz155_0
             try clear hfz155_1
             try clear hfz155_2
             try clear hfz17_0
             try clear hfz17_1
             try clear hfz17_2
             try clear hfz19_0
             try clear hfz19_1
             try clear hfz19_2
             try clear hfz27_0
             try clear hfz27_1
             try clear hfz27_2
             try clear hfz29_0
             try clear hfz29_1
             try clear hfz29_2
             try clear hfz35_0
             try clear hfz35_1
             try clear hfz35_2
             try clear hfz43_0
             try clear hfz43_1
             try clear hfz43_2
             try clear hfz50_0
             try clear hfz50_1
             try clear hfz50_2
             try clear hfz53_0
             try clear hfz53_1
             try clear hfz53_2
             try clear hfz58_0
             try clear hfz58_1
             try clear hfz58_2
             try clear hfz61_0
             try clear hfz61_1
             try clear hfz61_2
             try clear hfz77_0
             try clear hfz77_1
             try clear hfz77_2
             try clear hfz85_0
             try clear hfz85_1
             try clear hfz85_2
             try clear hfz88_0
             try clear hfz88_1
             try clear hfz88_2
             try clear hfz93_0
             try clear hfz93_1
             try clear hfz93_2
             try clear hfz96_0
             try clear hfz96_1
             try clear hfz96_2
             try clear hfz9_0
             try clear hfz9_1
             try clear hfz9_2
             try clear p2
             obtain ⟨kq, x100_111, rfl, HA, HJ111, HO_322000, HO_322001, HO_330000, HO_330001, HO_339000, HO_339001, HO_372000, HO_372001, BK304, BK321, BK329, BK338, BK371, HB⟩ := hcut
             have hl339000_111 := (rr HO_339000.out).1
             rw [hl339000_111] at HO_339000
             (try simp only [hl339000_111])
             (try simp only [hl339000_111] at BK304)
             (try simp only [hl339000_111] at BK321)
             (try simp only [hl339000_111] at BK329)
             (try simp only [hl339000_111] at BK338)
             (try simp only [hl339000_111] at BK371)
             (try simp only [hl339000_111] at HO_322000)
             (try simp only [hl339000_111] at HO_322001)
             (try simp only [hl339000_111] at HO_330000)
             (try simp only [hl339000_111] at HO_330001)
             (try simp only [hl339000_111] at HO_339001)
             (try simp only [hl339000_111] at HO_372000)
             (try simp only [hl339000_111] at HO_372001)
             have hl339001_111 := (rr HO_339001.out).1
             rw [hl339001_111] at HO_339001
             (try simp only [hl339001_111])
             (try simp only [hl339001_111] at BK304)
             (try simp only [hl339001_111] at BK321)
             (try simp only [hl339001_111] at BK329)
             (try simp only [hl339001_111] at BK338)
             (try simp only [hl339001_111] at BK371)
             (try simp only [hl339001_111] at HO_322000)
             (try simp only [hl339001_111] at HO_322001)
             (try simp only [hl339001_111] at HO_330000)
             (try simp only [hl339001_111] at HO_330001)
             (try simp only [hl339001_111] at HO_339000)
             (try simp only [hl339001_111] at HO_372000)
             (try simp only [hl339001_111] at HO_372001)
             cases kq with
             | zero => exact absurd HA.out (by simp [laws_FnExactPutKey.j2])
             | succ kj111 =>
              have H := HA.out
              clear HA
              simp only [laws_FnExactPutKey.j2] at H
              by_cases c157 : x100_111 = true
              ·subst c157
               have H1 : (some false) = some r := by rw [if_pos rfl] at H; exact H
               clear H
               have H := H1
               clear H1
               obtain rfl := Option.some.inj H
               go_wp2
               go_ret
               exact ⟨xV, xW HB.out⟩
              ·replace c157 := Bool.eq_false_iff.mpr c157
               subst c157
               have H1 : ((laws_heldTable.f kj111 t353 t354 t336 1).bind fun t373 => (if t373 < 0 then (some false) else (if t373 = t352 then (some true) else (some false)))) = some r := by rw [if_neg (show ¬ (false = true) by decide)] at H; exact H
               clear H
               have H := H1
               clear H1
               replace H := Option.bind_eq_some_iff.mp H
               obtain ⟨t373, A1580, H⟩ := H
               replace H : (if t373 < 0 then (some false) else (if t373 = t352 then (some true) else (some false))) = some r := H
               have A158 := am A1580
               clear A1580
               by_cases c159 : t373 < 0
               ·rw [if_pos c159] at H
                have c159b0 : decide (t373 < 0) = true := decide_eq_true c159
                clear c159
                obtain rfl := Option.some.inj H
                have hnb160 := NB338_304.out
                have hnc160 := NB304_338.out
                have hnb161 := NB338_321.out
                have hnc161 := NB321_338.out
                have hnb162 := NB338_329.out
                have hnc162 := NB329_338.out
                have hnb163 := NB338_371.out
                have hnc163 := NB371_338.out
                obtain ⟨hcz164_0, hcz164_1, hcz164_2, hfz164_0, hfz164_1, hfz164_2⟩ := xT3 (W := wc) BK338.out
                go_wp2_with (first | ((with_reducible refine gate_callee (f := 35) rfl ?_); refine xG (some 103) 35 Try.func35 #[.agg #[.slice Ao39 t353.length co39, .slice Ao44 t354.length co44, .int .i64 t336], .int .i64 1] (h := ?_); (with_reducible refine (laws_heldTable.calls kj111 _ _ t353 _ _ t354 t336 1 t373 _ ?side1 ?side2 ?side3 ?side4 A158.out).mono ?_); (case side1 => exact xC ((rr HO_339000.out).2.2)); (case side2 => exact (rr HO_339000.out).2.1); (case side3 => exact xC ((rr HO_339001.out).2.2)); (case side4 => exact (rr HO_339001.out).2.1); rintro e w165 ⟨rfl, hb⟩; refine ⟨_, rfl, ?_⟩; have n0_ := am (rb (xR HO_322000.out) hb); have n1_ := am (rb (xR HO_322001.out) hb); have n2_ := am (rb (xR HO_330000.out) hb); have n3_ := am (rb (xR HO_330001.out) hb); have n4_ := am (rb (xR HO_339000.out) hb); have n5_ := am (rb (xR HO_339001.out) hb); have n6_ := am (rb (xR HO_372000.out) hb); have n7_ := am (rb (xR HO_372001.out) hb); have n8_ := am (bb (xB BK304.out) hb); have n9_ := am (bb (xB BK321.out) hb); have n10_ := am (bb (xB BK329.out) hb); have n11_ := am (bb (xB BK338.out) hb); have n12_ := am (bb (xB BK371.out) hb); have n13_ := am (bs (xW HB.out) hb); clear HO_322000; clear HO_322001; clear HO_330000; clear HO_330001; clear HO_339000; clear HO_339001; clear HO_372000; clear HO_372001; clear BK304; clear BK321; clear BK329; clear BK338; clear BK371; clear HB; have HO_322000 := n0_; have HO_322001 := n1_; have HO_330000 := n2_; have HO_330001 := n3_; have HO_339000 := n4_; have HO_339001 := n5_; have HO_372000 := n6_; have HO_372001 := n7_; have BK304 := n8_; have BK321 := n9_; have BK329 := n10_; have BK338 := n11_; have BK371 := n12_; have HB := n13_; clear n0_ n1_ n2_ n3_ n4_ n5_ n6_ n7_ n8_ n9_ n10_ n11_ n12_ n13_; (try clear hb); (try clear hb2); (try clear hk); (try clear hi)))
                go_ret
                exact ⟨xV, xW HB.out⟩
               ·rw [if_neg c159] at H
                have c159b0 : decide (t373 < 0) = false := decide_eq_false c159
                clear c159
                by_cases c166 : t373 = t352
                ·rw [if_pos c166] at H
                 have c166b0 : (t373 == t352) = true := beq_iff_eq.mpr c166
                 have c166b1 : (t373 != t352) = false := bne_eq_false_iff_eq.mpr c166
                 clear c166
                 obtain rfl := Option.some.inj H
                 have hnb167 := NB338_304.out
                 have hnc167 := NB304_338.out
                 have hnb168 := NB338_321.out
                 have hnc168 := NB321_338.out
                 have hnb169 := NB338_329.out
                 have hnc169 := NB329_338.out
                 have hnb170 := NB338_371.out
                 have hnc170 := NB371_338.out
                 obtain ⟨hcz171_0, hcz171_1, hcz171_2, hfz171_0, hfz171_1, hfz171_2⟩ := xT3 (W := wc) BK338.out
                 go_wp2_with (first | ((with_reducible refine gate_callee (f := 35) rfl ?_); refine xG (some 103) 35 Try.func35 #[.agg #[.slice Ao39 t353.length co39, .slice Ao44 t354.length co44, .int .i64 t336], .int .i64 1] (h := ?_); (with_reducible refine (laws_heldTable.calls kj111 _ _ t353 _ _ t354 t336 1 t373 _ ?side1 ?side2 ?side3 ?side4 A158.out).mono ?_); (case side1 => exact xC ((rr HO_339000.out).2.2)); (case side2 => exact (rr HO_339000.out).2.1); (case side3 => exact xC ((rr HO_339001.out).2.2)); (case side4 => exact (rr HO_339001.out).2.1); rintro e w172 ⟨rfl, hb⟩; refine ⟨_, rfl, ?_⟩; have n0_ := am (rb (xR HO_322000.out) hb); have n1_ := am (rb (xR HO_322001.out) hb); have n2_ := am (rb (xR HO_330000.out) hb); have n3_ := am (rb (xR HO_330001.out) hb); have n4_ := am (rb (xR HO_339000.out) hb); have n5_ := am (rb (xR HO_339001.out) hb); have n6_ := am (rb (xR HO_372000.out) hb); have n7_ := am (rb (xR HO_372001.out) hb); have n8_ := am (bb (xB BK304.out) hb); have n9_ := am (bb (xB BK321.out) hb); have n10_ := am (bb (xB BK329.out) hb); have n11_ := am (bb (xB BK338.out) hb); have n12_ := am (bb (xB BK371.out) hb); have n13_ := am (bs (xW HB.out) hb); clear HO_322000; clear HO_322001; clear HO_330000; clear HO_330001; clear HO_339000; clear HO_339001; clear HO_372000; clear HO_372001; clear BK304; clear BK321; clear BK329; clear BK338; clear BK371; clear HB; have HO_322000 := n0_; have HO_322001 := n1_; have HO_330000 := n2_; have HO_330001 := n3_; have HO_339000 := n4_; have HO_339001 := n5_; have HO_372000 := n6_; have HO_372001 := n7_; have BK304 := n8_; have BK321 := n9_; have BK329 := n10_; have BK338 := n11_; have BK371 := n12_; have HB := n13_; clear n0_ n1_ n2_ n3_ n4_ n5_ n6_ n7_ n8_ n9_ n10_ n11_ n12_ n13_; (try clear hb); (try clear hb2); (try clear hk); (try clear hi)))
                 go_ret
                 exact ⟨xV, xW HB.out⟩
                ·rw [if_neg c166] at H
                 have c166b0 : (t373 == t352) = false := beq_eq_false_iff_ne.mpr c166
                 have c166b1 : (t373 != t352) = true := bne_iff_ne.mpr c166
                 obtain rfl := Option.some.inj H
                 have hnb173 := NB338_304.out
                 have hnc173 := NB304_338.out
                 have hnb174 := NB338_321.out
                 have hnc174 := NB321_338.out
                 have hnb175 := NB338_329.out
                 have hnc175 := NB329_338.out
                 have hnb176 := NB338_371.out
                 have hnc176 := NB371_338.out
                 obtain ⟨hcz177_0, hcz177_1, hcz177_2, hfz177_0, hfz177_1, hfz177_2⟩ := xT3 (W := wc) BK338.out
                 go_wp2_with (first | ((with_reducible refine gate_callee (f := 35) rfl ?_); refine xG (some 103) 35 Try.func35 #[.agg #[.slice Ao39 t353.length co39, .slice Ao44 t354.length co44, .int .i64 t336], .int .i64 1] (h := ?_); (with_reducible refine (laws_heldTable.calls kj111 _ _ t353 _ _ t354 t336 1 t373 _ ?side1 ?side2 ?side3 ?side4 A158.out).mono ?_); (case side1 => exact xC ((rr HO_339000.out).2.2)); (case side2 => exact (rr HO_339000.out).2.1); (case side3 => exact xC ((rr HO_339001.out).2.2)); (case side4 => exact (rr HO_339001.out).2.1); rintro e w178 ⟨rfl, hb⟩; refine ⟨_, rfl, ?_⟩; have n0_ := am (rb (xR HO_322000.out) hb); have n1_ := am (rb (xR HO_322001.out) hb); have n2_ := am (rb (xR HO_330000.out) hb); have n3_ := am (rb (xR HO_330001.out) hb); have n4_ := am (rb (xR HO_339000.out) hb); have n5_ := am (rb (xR HO_339001.out) hb); have n6_ := am (rb (xR HO_372000.out) hb); have n7_ := am (rb (xR HO_372001.out) hb); have n8_ := am (bb (xB BK304.out) hb); have n9_ := am (bb (xB BK321.out) hb); have n10_ := am (bb (xB BK329.out) hb); have n11_ := am (bb (xB BK338.out) hb); have n12_ := am (bb (xB BK371.out) hb); have n13_ := am (bs (xW HB.out) hb); clear HO_322000; clear HO_322001; clear HO_330000; clear HO_330001; clear HO_339000; clear HO_339001; clear HO_372000; clear HO_372001; clear BK304; clear BK321; clear BK329; clear BK338; clear BK371; clear HB; have HO_322000 := n0_; have HO_322001 := n1_; have HO_330000 := n2_; have HO_330001 := n3_; have HO_339000 := n4_; have HO_339001 := n5_; have HO_372000 := n6_; have HO_372001 := n7_; have BK304 := n8_; have BK321 := n9_; have BK329 := n10_; have BK338 := n11_; have BK371 := n12_; have HB := n13_; clear n0_ n1_ n2_ n3_ n4_ n5_ n6_ n7_ n8_ n9_ n10_ n11_ n12_ n13_; (try clear hb); (try clear hb2); (try clear hk); (try clear hi)))
                 go_ret
                 exact ⟨xV, xW HB.out⟩
           ·rw [if_neg c109] at H
            have c109b0 : (t355 == t352) = false := beq_eq_false_iff_ne.mpr c109
            have c109b1 : (t355 != t352) = true := bne_iff_ne.mpr c109
            obtain rfl := Option.some.inj H
            have hnb179 := NB338_304.out
            have hnc179 := NB304_338.out
            have hnb180 := NB338_321.out
            have hnc180 := NB321_338.out
            have hnb181 := NB338_329.out
            have hnc181 := NB329_338.out
            obtain ⟨hcz182_0, hcz182_1, hcz182_2, hfz182_0, hfz182_1, hfz182_2⟩ := xT3 (W := wc) BK338.out
            go_wp2_with (first | ((with_reducible refine gate_callee (f := 30) rfl ?_); refine xG (some 75) 30 Try.func30 #[.agg #[.slice Ao39 t330.length co39, .slice Ao44 t333.length co44, .int .i64 t336], .int .i64 1] (h := ?_); (with_reducible refine (laws_markTable.calls kj67 (fun k_ => some k_ = (.slice Ao39 t330.length co39 : Value).ownBlock) (.slice Ao39 t330.length co39) t330 (fun k_ => some k_ = (.slice Ao44 t333.length co44 : Value).ownBlock) (.slice Ao44 t333.length co44) t333 t336 1 t352 t353 t354 w _ ?side1 ?side2 ?side3 ?side4 ?side5 A99.out).mono ?_); (case side1 => repeat (first | (with_reducible first | exact HB.out | apply wa | apply wn | apply wd | refine ws ?_ GE304.out | refine ws ?_ GE321.out | refine ws ?_ GE329.out | refine ws ?_ GE338.out) | exact HB.out)); (case side2 => exact Kd.R_tight rfl HO_339000.out); (case side3 => first | exact fun k_ e_ => (HO_339000.out.1 k_ e_.symm).2.2.2.2 | exact fun k_ e_ hs_ => by have hh_ := HO_339000.out.1 k_ e_.symm; revert hh_; simp [hs_]); (case side4 => exact Kd.R_tight rfl HO_339001.out); (case side5 => first | exact fun k_ e_ => (HO_339001.out.1 k_ e_.symm).2.2.2.2 | exact fun k_ e_ hs_ => by have hh_ := HO_339001.out.1 k_ e_.symm; revert hh_; simp [hs_]); rintro e w183 ⟨rfl, hy0, hy1, hb, hkp⟩; refine ⟨_, rfl, ?_⟩; have n0_ := am (rm (ok' := fun k_ => some k_ ≠ (.slice Ao28 t316.length co28 : Value).ownBlock ∧ some k_ ≠ (.slice Ao32 t349.length co32 : Value).ownBlock ∧ some k_ ≠ (.slice Ao36 t350.length co36 : Value).ownBlock ∧ some k_ ≠ (.slice Ao39 t330.length co39 : Value).ownBlock ∧ some k_ ≠ (.slice Ao44 t333.length co44 : Value).ownBlock) (rk (HO_322000.out) hkp (fun k_ hk_ hs_ => by rcases hs_ with e_ | e_ <;> (revert hk_; simp [e_]))) (fun k_ hk_ => by simp [hk_])); have n1_ := am (rm (ok' := fun k_ => some k_ ≠ (.slice Ao25 t313.length co25 : Value).ownBlock ∧ some k_ ≠ (.slice Ao32 t349.length co32 : Value).ownBlock ∧ some k_ ≠ (.slice Ao36 t350.length co36 : Value).ownBlock ∧ some k_ ≠ (.slice Ao39 t330.length co39 : Value).ownBlock ∧ some k_ ≠ (.slice Ao44 t333.length co44 : Value).ownBlock) (rk (HO_322001.out) hkp (fun k_ hk_ hs_ => by rcases hs_ with e_ | e_ <;> (revert hk_; simp [e_]))) (fun k_ hk_ => by simp [hk_])); have n2_ := am (rm (ok' := fun k_ => some k_ ≠ (.slice Ao25 t313.length co25 : Value).ownBlock ∧ some k_ ≠ (.slice Ao28 t316.length co28 : Value).ownBlock ∧ some k_ ≠ (.slice Ao36 t350.length co36 : Value).ownBlock ∧ some k_ ≠ (.slice Ao39 t330.length co39 : Value).ownBlock ∧ some k_ ≠ (.slice Ao44 t333.length co44 : Value).ownBlock) (rk (HO_330000.out) hkp (fun k_ hk_ hs_ => by rcases hs_ with e_ | e_ <;> (revert hk_; simp [e_]))) (fun k_ hk_ => by simp [hk_])); have n3_ := am (rm (ok' := fun k_ => some k_ ≠ (.slice Ao25 t313.length co25 : Value).ownBlock ∧ some k_ ≠ (.slice Ao28 t316.length co28 : Value).ownBlock ∧ some k_ ≠ (.slice Ao32 t349.length co32 : Value).ownBlock ∧ some k_ ≠ (.slice Ao39 t330.length co39 : Value).ownBlock ∧ some k_ ≠ (.slice Ao44 t333.length co44 : Value).ownBlock) (rk (HO_330001.out) hkp (fun k_ hk_ hs_ => by rcases hs_ with e_ | e_ <;> (revert hk_; simp [e_]))) (fun k_ hk_ => by simp [hk_])); have n4_ := am (Kd.R_reok rfl hy0 (fun k_ e_ => HO_339000.out.1 k_ e_)); have n5_ := am (Kd.R_reok rfl hy1 (fun k_ e_ => HO_339001.out.1 k_ e_)); have n6_ := am (bk (xB BK304.out) hkp (fun hs_ => Or.elim hs_ (fun e_ => (fun e_ => (Kd.R_ne HO_339000.out BK304.out (by decide)) e_) e_) (fun e_ => (fun e_ => (Kd.R_ne HO_339001.out BK304.out (by decide)) e_) e_))); have n7_ := am (bk (xB BK321.out) hkp (fun hs_ => Or.elim hs_ (fun e_ => (fun e_ => (Kd.R_ne HO_339000.out BK321.out (by decide)) e_) e_) (fun e_ => (fun e_ => (Kd.R_ne HO_339001.out BK321.out (by decide)) e_) e_))); have n8_ := am (bk (xB BK329.out) hkp (fun hs_ => Or.elim hs_ (fun e_ => (fun e_ => (Kd.R_ne HO_339000.out BK329.out (by decide)) e_) e_) (fun e_ => (fun e_ => (Kd.R_ne HO_339001.out BK329.out (by decide)) e_) e_))); have n9_ := am (bk (xB BK338.out) hkp (fun hs_ => Or.elim hs_ (fun e_ => (fun e_ => (Kd.R_ne HO_339000.out BK338.out (by decide)) e_) e_) (fun e_ => (fun e_ => (Kd.R_ne HO_339001.out BK338.out (by decide)) e_) e_))); have n10_ := am (hb); clear HO_322000; clear HO_322001; clear HO_330000; clear HO_330001; clear HO_339000; clear HO_339001; clear BK304; clear BK321; clear BK329; clear BK338; clear HB; have HO_322000 := n0_; have HO_322001 := n1_; have HO_330000 := n2_; have HO_330001 := n3_; have HO_339000 := n4_; have HO_339001 := n5_; have BK304 := n6_; have BK321 := n7_; have BK329 := n8_; have BK338 := n9_; have HB := n10_; clear n0_ n1_ n2_ n3_ n4_ n5_ n6_ n7_ n8_ n9_ n10_; (try clear hb); (try clear hkp); (try clear hy0); (try clear hy1); obtain ⟨hcz184_0, hcz184_1, hcz184_2, hfz184_0, hfz184_1, hfz184_2⟩ := xT3 (W := w183) BK338.out) | ((with_reducible refine gate_callee (f := 35) rfl ?_); refine goesL_ (some 78) rfl rfl Try.func35 (by kernel_rfl) rfl #[.agg #[.slice Ao39 t353.length co39, .slice Ao44 t354.length co44, .int .i64 t336], .int .i64 1] rfl (by (try simp only [List.map_toArray, List.map_cons, List.map_nil]); first | done | (rw [show t353.length = t330.length from (rr HO_339000.out).1.symm, show t354.length = t333.length from (rr HO_339001.out).1.symm] <;> rfl) | rfl | (simp only [List.length_drop, List.length_take]; rfl)) ?_; (with_reducible refine (laws_heldTable.calls kj67 _ _ t353 _ _ t354 t336 1 t355 _ ?side1 ?side2 ?side3 ?side4 A100.out).mono ?_); (case side1 => exact xC ((rr HO_339000.out).2.2)); (case side2 => rw [show t353.length = t330.length from (rr HO_339000.out).1.symm]; exact (rr HO_339000.out).2.1); (case side3 => exact xC ((rr HO_339001.out).2.2)); (case side4 => rw [show t354.length = t333.length from (rr HO_339001.out).1.symm]; exact (rr HO_339001.out).2.1); rintro e w185 ⟨rfl, hb⟩; refine ⟨_, rfl, ?_⟩; have n0_ := am (rb (xR HO_322000.out) hb); have n1_ := am (rb (xR HO_322001.out) hb); have n2_ := am (rb (xR HO_330000.out) hb); have n3_ := am (rb (xR HO_330001.out) hb); have n4_ := am (rb (xR HO_339000.out) hb); have n5_ := am (rb (xR HO_339001.out) hb); have n6_ := am (bb (xB BK304.out) hb); have n7_ := am (bb (xB BK321.out) hb); have n8_ := am (bb (xB BK329.out) hb); have n9_ := am (bb (xB BK338.out) hb); have n10_ := am (bs (xW HB.out) hb); clear HO_322000; clear HO_322001; clear HO_330000; clear HO_330001; clear HO_339000; clear HO_339001; clear BK304; clear BK321; clear BK329; clear BK338; clear HB; have HO_322000 := n0_; have HO_322001 := n1_; have HO_330000 := n2_; have HO_330001 := n3_; have HO_339000 := n4_; have HO_339001 := n5_; have BK304 := n6_; have BK321 := n7_; have BK329 := n8_; have BK338 := n9_; have HB := n10_; clear n0_ n1_ n2_ n3_ n4_ n5_ n6_ n7_ n8_ n9_ n10_; (try clear hb); (try clear hb2); (try clear hk); (try clear hi)))
            go_ret
            exact ⟨xV, xW HB.out⟩
      ·replace c66 := Bool.eq_false_iff.mpr c66
       subst c66
       have H1 : (some false) = some r := by rw [if_neg (show ¬ (false = true) by decide)] at H; exact H
       clear H
       have H := H1
       clear H1
       obtain rfl := Option.some.inj H
       try go_wp2
       have n0_ := am (Kd.R_drew HO_322000.out)
       have n1_ := am (Kd.R_drew HO_322001.out)
       have n2_ := am (Kd.R_drew HO_330000.out)
       have n3_ := am (Kd.R_drew HO_330001.out)
       have n4_ := am (Kd.R_drew HO_339000.out)
       have n5_ := am (Kd.R_drew HO_339001.out)
       have n6_ := am (blk_drew BK304.out)
       have n7_ := am (blk_drew BK321.out)
       have n8_ := am (blk_drew BK329.out)
       have n9_ := am (blk_drew BK338.out)
       have n10_ := am (below_drew1 HB.out)
       clear HO_322000
       clear HO_322001
       clear HO_330000
       clear HO_330001
       clear HO_339000
       clear HO_339001
       clear BK304
       clear BK321
       clear BK329
       clear BK338
       clear HB
       have HO_322000 := n0_
       have HO_322001 := n1_
       have HO_330000 := n2_
       have HO_330001 := n3_
       have HO_339000 := n4_
       have HO_339001 := n5_
       have BK304 := n6_
       have BK321 := n7_
       have BK329 := n8_
       have BK338 := n9_
       have HB := n10_
       clear n0_ n1_ n2_ n3_ n4_ n5_ n6_ n7_ n8_ n9_ n10_
       refine start_ (n := 5) (S := fun w' => w'.cell? ⟨gb329, 0, none⟩ = some (.slice Ao32 t322.length co32) ∧ w'.cell? ⟨gb329, 1, none⟩ = some (.slice Ao36 t325.length co36) ∧ w'.cell? ⟨gb329, 2, none⟩ = some (.int .i64 t328) ∧ w'.cell? ⟨gb304, 0, none⟩ = some (.slice A0_0 l0_0.length c0_0) ∧ w'.cell? ⟨gb304, 1, none⟩ = some (.slice A0_1 l0_1.length c0_1) ∧ w'.cell? ⟨gb304, 2, none⟩ = some (.int .i64 a0_2)) (ds := []) #[false, false, false, false, false] (by kernel_rfl) rfl rfl ⟨(blk_cell BK329.out 0).trans rfl, (blk_cell BK329.out 1).trans rfl, (blk_cell BK329.out 2).trans rfl, (blk_cell BK304.out 0).trans rfl, (blk_cell BK304.out 1).trans rfl, (blk_cell BK304.out 2).trans rfl⟩ (fun hHeld => ?_)
       generalize wc.drew = w186 at HO_322000 HO_322001 HO_330000 HO_330001 HO_339000 HO_339001 BK304 BK321 BK329 BK338 HB hHeld ⊢
       refine take_ (i := 0) (N := some 52) (v := ?_) (a' := ?_) #[true, false, false, false, false] rfl rfl (by kernel_rfl) (fun _ _ _ h => h) (Or.inl ⟨by rfl, ?_⟩) hHeld ?_ ?_
       rotate_left
       ·rintro w' ⟨s0, s1, s2, s3, s4, s5⟩
        go_simp
        with_reducible rfl
       rotate_left
       ·simp only [Act.put, List.setIfInBounds_toArray, List.set_cons_zero, List.set_cons_succ, i64_w, i32_w]
        rfl
       refine take_ (i := 1) (N := some 53) (v := ?_) (a' := ?_) #[true, true, false, false, false] rfl rfl (by kernel_rfl) (fun _ _ _ h => h) (Or.inl ⟨by rfl, ?_⟩) hHeld ?_ ?_
       rotate_left
       ·rintro w' ⟨s0, s1, s2, s3, s4, s5⟩
        go_simp
        with_reducible rfl
       rotate_left
       ·simp only [Act.put, List.setIfInBounds_toArray, List.set_cons_zero, List.set_cons_succ, i64_w, i32_w]
        rfl
       refine one_ (i := 2) (N := some 54) #[true, true, true, false, false] rfl rfl (by kernel_rfl) (by decide) (fun K hK => ?_)
       refine goes_ Try.func26 (by kernel_rfl) rfl #[.agg #[.slice A0_0 l0_0.length c0_0, .slice A0_1 l0_1.length c0_1, .int .i64 a0_2]] (by rfl) rfl rfl (by (try simp only [List.map_toArray, List.map_cons, List.map_nil]); first | done | rfl | (simp only [List.length_drop, List.length_take]; rfl)) ?_
       with_reducible refine (laws_toTable.calls kj14 _ _ l0_0 _ _ l0_1 a0_2 t340 t343 t346 _ ?side1 ?side2 ?side3 ?side4 A64.out).mono ?_
       (case side1 => exact xC (Kd.C_below HR0_0.out HB.out))
       (case side2 => exact HC0_0.out)
       (case side3 => exact xC (Kd.C_below HR0_1.out HB.out))
       (case side4 => exact HC0_1.out)
       rintro e w187 ⟨v341, v344, rfl, ho0, ho1, hb⟩
       refine ⟨_, rfl, ?_⟩
       have n0_ := am (rm (ro (ro (rl (xR HO_322000.out) hb) (re ho0)) (re ho1)) (fun _ h_ => h_.1))
       have n1_ := am (rm (ro (ro (rl (xR HO_322001.out) hb) (re ho0)) (re ho1)) (fun _ h_ => h_.1))
       have n2_ := am (rm (ro (ro (rl (xR HO_330000.out) hb) (re ho0)) (re ho1)) (fun _ h_ => h_.1))
       have n3_ := am (rm (ro (ro (rl (xR HO_330001.out) hb) (re ho0)) (re ho1)) (fun _ h_ => h_.1))
       have n4_ := am (rm (ro (ro (rl (xR HO_339000.out) hb) (re ho0)) (re ho1)) (fun _ h_ => h_.1))
       have n5_ := am (rm (ro (ro (rl (xR HO_339001.out) hb) (re ho0)) (re ho1)) (fun _ h_ => h_.1))
       have n6_ := am (Kd.R_lower (Kd.R_new' (Kd.R_new' (Kd.R_new' (Kd.R_new' (Kd.R_new' (Kd.R_new' ho0 (Kd.R_lt (xR HO_322000.out))) (Kd.R_lt (xR HO_322001.out))) (Kd.R_lt (xR HO_330000.out))) (Kd.R_lt (xR HO_330001.out))) (Kd.R_lt (xR HO_339000.out))) (Kd.R_lt (xR HO_339001.out))) (below_size (xW HB.out)))
       have n7_ := am (Kd.R_lower (Kd.R_new' (Kd.R_new' (Kd.R_new' (Kd.R_new' (Kd.R_new' (Kd.R_new' ho1 (Kd.R_lt (xR HO_322000.out))) (Kd.R_lt (xR HO_322001.out))) (Kd.R_lt (xR HO_330000.out))) (Kd.R_lt (xR HO_330001.out))) (Kd.R_lt (xR HO_339000.out))) (Kd.R_lt (xR HO_339001.out))) (below_size (xW HB.out)))
       have n8_ := am (bb (xB BK304.out) hb)
       have n9_ := am (bb (xB BK321.out) hb)
       have n10_ := am (bb (xB BK329.out) hb)
       have n11_ := am (bb (xB BK338.out) hb)
       have n12_ := am (bs (xW HB.out) hb)
       clear HO_322000
       clear HO_322001
       clear HO_330000
       clear HO_330001
       clear HO_339000
       clear HO_339001
       clear BK304
       clear BK321
       clear BK329
       clear BK338
       clear HB
       have HO_322000 := n0_
       have HO_322001 := n1_
       have HO_330000 := n2_
       have HO_330001 := n3_
       have HO_339000 := n4_
       have HO_339001 := n5_
       have HO342 := n6_
       have HO345 := n7_
       have BK304 := n8_
       have BK321 := n9_
       have BK329 := n10_
       have BK338 := n11_
       have HB := n12_
       clear n0_ n1_ n2_ n3_ n4_ n5_ n6_ n7_ n8_ n9_ n10_ n11_ n12_
       (try clear hb)
       (try clear hb2)
       (try clear hk)
       (try clear hi)
       (try clear ho0)
       (try clear ho1)
       obtain ⟨Ao188, co188, eo188⟩ := Kd.R_slice HO342.out
       (first | subst eo188 | (injection eo188 with f1_ f2_ f3_; have f4_ := f1_.symm; have f5_ := f3_.symm; clear f1_ f2_ f3_; subst f4_; subst f5_))
       obtain ⟨Ao189, co189, eo189⟩ := Kd.R_slice HO345.out
       (first | subst eo189 | (injection eo189 with f1_ f2_ f3_; have f4_ := f1_.symm; have f5_ := f3_.symm; clear f1_ f2_ f3_; subst f4_; subst f5_))
       refine hK.out _ _ ⟨(blk_cell BK329.out 0).trans rfl, (blk_cell BK329.out 1).trans rfl, (blk_cell BK329.out 2).trans rfl, (blk_cell BK304.out 0).trans rfl, (blk_cell BK304.out 1).trans rfl, (blk_cell BK304.out 2).trans rfl⟩ (fun hHeld => ?_)
       clear hK K
       refine norm_ (a' := ?_) ?_ ?_
       rotate_left
       ·show Act.put _ (some 54) _ = _
        simp only [Act.put, List.setIfInBounds_toArray, List.set_cons_zero, List.set_cons_succ, i64_w, i32_w]
        rfl
       refine one_ (i := 3) (N := some 55) #[true, true, true, true, false] rfl rfl (by kernel_rfl) (by decide) (fun K hK => ?_)
       refine goes_ Try.func27 (by kernel_rfl) rfl #[.agg #[.slice Ao32 t322.length co32, .slice Ao36 t325.length co36, .int .i64 t328], .agg #[.slice Ao188 t340.length co188, .slice Ao189 t343.length co189, .int .i64 t346]] (by rfl) rfl rfl (by (try simp only [List.map_toArray, List.map_cons, List.map_nil]); first | done | rfl | (simp only [List.length_drop, List.length_take]; rfl)) ?_
       with_reducible refine (laws_eqTable.calls kj14 _ _ t322 _ _ t325 t328 _ _ t340 _ _ t343 t346 false _ ?side1 ?side2 ?side3 ?side4 ?side5 ?side6 ?side7 ?side8 A65.out).mono ?_
       (case side1 => exact xC ((rr HO_330000.out).2.2))
       (case side2 => exact (rr HO_330000.out).2.1)
       (case side3 => exact xC ((rr HO_330001.out).2.2))
       (case side4 => exact (rr HO_330001.out).2.1)
       (case side5 => exact xC ((rr HO342.out).2.2))
       (case side6 => exact (rr HO342.out).2.1)
       (case side7 => exact xC ((rr HO345.out).2.2))
       (case side8 => exact (rr HO345.out).2.1)
       rintro e w190 ⟨rfl, hb⟩
       refine ⟨_, rfl, ?_⟩
       have n0_ := am (rb (xR HO_322000.out) hb)
       have n1_ := am (rb (xR HO_322001.out) hb)
       have n2_ := am (rb (xR HO_330000.out) hb)
       have n3_ := am (rb (xR HO_330001.out) hb)
       have n4_ := am (rb (xR HO_339000.out) hb)
       have n5_ := am (rb (xR HO_339001.out) hb)
       have n6_ := am (rb (xR HO342.out) hb)
       have n7_ := am (rb (xR HO345.out) hb)
       have n8_ := am (bb (xB BK304.out) hb)
       have n9_ := am (bb (xB BK321.out) hb)
       have n10_ := am (bb (xB BK329.out) hb)
       have n11_ := am (bb (xB BK338.out) hb)
       have n12_ := am (bs (xW HB.out) hb)
       clear HO_322000
       clear HO_322001
       clear HO_330000
       clear HO_330001
       clear HO_339000
       clear HO_339001
       clear HO342
       clear HO345
       clear BK304
       clear BK321
       clear BK329
       clear BK338
       clear HB
       have HO_322000 := n0_
       have HO_322001 := n1_
       have HO_330000 := n2_
       have HO_330001 := n3_
       have HO_339000 := n4_
       have HO_339001 := n5_
       have HO342 := n6_
       have HO345 := n7_
       have BK304 := n8_
       have BK321 := n9_
       have BK329 := n10_
       have BK338 := n11_
       have HB := n12_
       clear n0_ n1_ n2_ n3_ n4_ n5_ n6_ n7_ n8_ n9_ n10_ n11_ n12_
       (try clear hb)
       (try clear hb2)
       (try clear hk)
       (try clear hi)
       refine hK.out _ _ ⟨(blk_cell BK329.out 0).trans rfl, (blk_cell BK329.out 1).trans rfl, (blk_cell BK329.out 2).trans rfl, (blk_cell BK304.out 0).trans rfl, (blk_cell BK304.out 1).trans rfl, (blk_cell BK304.out 2).trans rfl⟩ (fun hHeld => ?_)
       clear hK K
       refine norm_ (a' := ?_) ?_ ?_
       rotate_left
       ·show Act.put _ (some 55) _ = _
        simp only [Act.put, List.setIfInBounds_toArray, List.set_cons_zero, List.set_cons_succ, i64_w, i32_w]
        rfl
       refine pure_ (i := 4) (N := some 56) (v := ?_) (a' := ?_) #[true, true, true, true, true] rfl rfl (by kernel_rfl) (fun _ _ _ h => h) (Or.inl ⟨by rfl, ?_⟩) ?_ ?_
       rotate_left
       ·intro w'
        go_simp
        with_reducible rfl
       rotate_left
       ·simp only [Act.put, List.setIfInBounds_toArray, List.set_cons_zero, List.set_cons_succ, i64_w, i32_w]
        rfl
       refine done_ (by kernel_rfl) ?_
       try go_wp2
       go_ret
       exact ⟨xV, xW HB.out⟩
end Go.Proofs.Ytmahoekbedgbcaa.HFnExactPutKey
