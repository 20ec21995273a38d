/- What the row of the law needs of the printed and the plain texts. -/
import Derived.Test.YtmahoekbedgbcaaGTHFnExactGrowTablex0
import Derived.Test.YtmahoekbedgbcaaGTHFnExactGrowTablex5
import Derived.Test.YtmahoekbedgbcaaGTHFnExactGrowTablex6
import Derived.Test.YtmahoekbedgbcaaGTHFnExactGrowTablex7
import Derived.Test.YtmahoekbedgbcaaGTHFnExactGrowTablex10
namespace Go.Proofs.Ytmahoekbedgbcaa.HFnExactGrowTable
open Go.RowKit Go.Proofs.YtmahoekbedgbcaaW.PrintWords Go.Proofs.YtmahoekbedgbcaaW.PrintLast Go.Proofs.YtmahoekbedgbcaaW.PrintMore
attribute [local go_sem] max2_int min2_int max_two min_two max_three min_three max_four min_four
set_option linter.unusedVariables false
set_option linter.unusedSimpArgs false
theorem am {p : Prop} (h : p) : Aside0 p := ⟨h⟩
open Go.Proofs.YtmahoekbedgbcaaW.PrintWords renaming blk_drewN → bn, blk_drew → bd, blk_alloc → ba, below_alloc → wa, pw_below_drewN → wn, below_drew1 → wd, below_set → ws, blk_below → bb, blk_kept → bk, below_step → bs
open Go.Proofs.YtmahoekbedgbcaaW.PrintWords.Kd renaming R_alloc → ra, R_drewN → rn, R_drew → rd, R_below → rb, R_mono → rm, R_apart' → rp, R_typed → rt, R_keptB → rk, R_base → re, R_reads' → rr
open Go.Proofs.YtmahoekbedgbcaaW.PrintMore.Kd renaming R_told → ro, R_old → rl
mutual
def laws_FnExactGrowTable.j0 : Nat → Bool → Bool → Bool → List (S95) → List (S95) → Int → List (S57) → List (S57) → Int → List (S57) → List (S57) → Int → List (S57) → List (S57) → Int → Option (Bool)
 | 0, _, _, _, _, _, _, _, _, _, _, _, _, _, _, _ => none
 | k + 1, x5, x8, x40, x260000, x260001, x260002, x277000, x277001, x277002, x285000, x285001, x285002, x294000, x294001, x294002 => if x40 = true then (some false) else ((laws_toTable.f k x260000 x260001 x260002).bind fun bt295 => ((laws_eqTable.f k x285000 x285001 x285002 bt295.1 bt295.2.1 bt295.2.2).bind fun t302 => (if t302 = true then ((laws_markTable.f k x285000 x285001 x285002 1).bind fun bt303 => (if bt303.1 < 0 then (laws_FnExactGrowTable.j1 k x5 true x260000 x260001 x260002 x277000 x277001 x277002 x294000 x294001 x294002) else ((laws_eqTable.f k x294000 x294001 x294002 x277000 x277001 x277002).bind fun t306 => (if t306 = true then (laws_FnExactGrowTable.j1 k x5 (x8 != x5) x260000 x260001 x260002 x277000 x277001 x277002 x294000 x294001 x294002) else (laws_FnExactGrowTable.j1 k x5 true x260000 x260001 x260002 x277000 x277001 x277002 x294000 x294001 x294002))))) else (some false))))
def laws_FnExactGrowTable.j1 : Nat → Bool → Bool → List (S95) → List (S95) → Int → List (S57) → List (S57) → Int → List (S57) → List (S57) → Int → Option (Bool)
 | 0, _, _, _, _, _, _, _, _, _, _, _ => none
 | k + 1, x5, x61, x260000, x260001, x260002, x277000, x277001, x277002, x294000, x294001, x294002 => if x61 = true then (some false) else ((laws_markTable.f k x294000 x294001 x294002 1).bind fun bt307 => ((laws_heldTable.f k bt307.2.1 bt307.2.2 x294002 1).bind fun t310 => (if t310 < 0 then (some false) else (if t310 = bt307.1 then ((laws_toTable.f k x260000 x260001 x260002).bind fun bt311 => ((impl_GrowTable.f k bt311.1 bt311.2.1 bt311.2.2).bind fun bt318 => ((laws_eqTable.f k bt318.1 bt318.2.1 bt318.2.2.1 x277000 x277001 x277002).bind fun t327 => (if t327 = true then (laws_FnExactGrowTable.j2 k bt307.1 (bt318.2.2.2 != x5) bt307.2.1 bt307.2.2 x294002) else (laws_FnExactGrowTable.j2 k bt307.1 true bt307.2.1 bt307.2.2 x294002))))) else (some false)))))
def laws_FnExactGrowTable.j2 : Nat → Int → Bool → List (S57) → List (S57) → Int → Option (Bool)
 | 0, _, _, _, _, _ => none
 | k + 1, x10, x87, x294000, x294001, x294002 => if x87 = true then (some false) else ((laws_heldTable.f k x294000 x294001 x294002 1).bind fun t328 => (if t328 < 0 then (some false) else (if t328 = x10 then (some true) else (some false))))
end
def laws_FnExactGrowTable.f (k : Nat) (l0_0 : List (S95)) (l0_1 : List (S95)) (a0_2 : Int) : Option (Bool) := (laws_szTable.f k l0_0 l0_1 a0_2 1048576).bind fun t260 => (if t260 < 0 then (some true) else ((laws_toTable.f k l0_0 l0_1 a0_2).bind fun bt261 => ((spec_GrowTable.f k bt261.1 bt261.2.1 bt261.2.2).bind fun bt268 => ((laws_toTable.f k l0_0 l0_1 a0_2).bind fun bt277 => ((impl_GrowTable.f k bt277.1 bt277.2.1 bt277.2.2).bind fun bt285 => ((laws_eqTable.f k bt285.1 bt285.2.1 bt285.2.2.1 bt268.1 bt268.2.1 bt268.2.2.1).bind fun t294 => (if t294 = true then (laws_FnExactGrowTable.j0 k bt268.2.2.2 bt285.2.2.2 (bt285.2.2.2 != bt268.2.2.2) l0_0 l0_1 a0_2 bt268.1 bt268.2.1 bt268.2.2.1 bt277.1 bt277.2.1 bt277.2.2 bt285.1 bt285.2.1 bt285.2.2.1) else (laws_FnExactGrowTable.j0 k bt268.2.2.2 bt285.2.2.2 true l0_0 l0_1 a0_2 bt268.1 bt268.2.1 bt268.2.2.1 bt277.1 bt277.2.1 bt277.2.2 bt285.1 bt285.2.1 bt285.2.2.1))))))))
set_option maxHeartbeats 8000000 in
set_option maxRecDepth 100000 in
theorem laws_FnExactGrowTable.calls (k : Nat) (A0_0 : Option Addr) (c0_0 : Nat) (l0_0 : List (S95)) (A0_1 : Option Addr) (c0_1 : Nat) (l0_1 : List (S95)) (a0_2 : Int) (r : Bool) (w : World) (hr0_0 : Kd.C k95 w A0_0 l0_0.length l0_0) (hc0_0 : l0_0.length ≤ c0_0) (hr0_1 : Kd.C k95 w A0_1 l0_1.length l0_1) (hc0_1 : l0_1.length ≤ c0_1) (h : laws_FnExactGrowTable.f k l0_0 l0_1 a0_2 = some r) :
  Calls Try.prog 8 #[.agg #[.slice A0_0 l0_0.length c0_0, .slice A0_1 l0_1.length c0_1, .int .i64 a0_2]] w fun e w' => e = .returned (.bool r) ∧ Below w.heap.size w w' := by
 have hu42 := Try.underlying42
 have hu26 := Try.underlying26
 have HR0_0 := am hr0_0
 have HC0_0 := am hc0_0
 clear hr0_0 hc0_0
 have HR0_1 := am hr0_1
 have HC0_1 := am hc0_1
 clear hr0_1 hc0_1
 have HB := am (Below.refl w.heap.size w)
 have H : ((laws_szTable.f k l0_0 l0_1 a0_2 1048576).bind fun t260 => (if t260 < 0 then (some true) else ((laws_toTable.f k l0_0 l0_1 a0_2).bind fun bt261 => ((spec_GrowTable.f k bt261.1 bt261.2.1 bt261.2.2).bind fun bt268 => ((laws_toTable.f k l0_0 l0_1 a0_2).bind fun bt277 => ((impl_GrowTable.f k bt277.1 bt277.2.1 bt277.2.2).bind fun bt285 => ((laws_eqTable.f k bt285.1 bt285.2.1 bt285.2.2.1 bt268.1 bt268.2.1 bt268.2.2.1).bind fun t294 => (if t294 = true then (laws_FnExactGrowTable.j0 k bt268.2.2.2 bt285.2.2.2 (bt285.2.2.2 != bt268.2.2.2) l0_0 l0_1 a0_2 bt268.1 bt268.2.1 bt268.2.2.1 bt277.1 bt277.2.1 bt277.2.2 bt285.1 bt285.2.1 bt285.2.2.1) else (laws_FnExactGrowTable.j0 k bt268.2.2.2 bt285.2.2.2 true l0_0 l0_1 a0_2 bt268.1 bt268.2.1 bt268.2.2.1 bt277.1 bt277.2.1 bt277.2.2 bt285.1 bt285.2.1 bt285.2.2.1))))))))) = some r := h
 clear h
 replace H := Option.bind_eq_some_iff.mp H
 obtain ⟨t260, A20, H⟩ := H
 replace H : (if t260 < 0 then (some true) else ((laws_toTable.f k l0_0 l0_1 a0_2).bind fun bt261 => ((spec_GrowTable.f k bt261.1 bt261.2.1 bt261.2.2).bind fun bt268 => ((laws_toTable.f k l0_0 l0_1 a0_2).bind fun bt277 => ((impl_GrowTable.f k bt277.1 bt277.2.1 bt277.2.2).bind fun bt285 => ((laws_eqTable.f k bt285.1 bt285.2.1 bt285.2.2.1 bt268.1 bt268.2.1 bt268.2.2.1).bind fun t294 => (if t294 = true then (laws_FnExactGrowTable.j0 k bt268.2.2.2 bt285.2.2.2 (bt285.2.2.2 != bt268.2.2.2) l0_0 l0_1 a0_2 bt268.1 bt268.2.1 bt268.2.2.1 bt277.1 bt277.2.1 bt277.2.2 bt285.1 bt285.2.1 bt285.2.2.1) else (laws_FnExactGrowTable.j0 k bt268.2.2.2 bt285.2.2.2 true l0_0 l0_1 a0_2 bt268.1 bt268.2.1 bt268.2.2.1 bt277.1 bt277.2.1 bt277.2.2 bt285.1 bt285.2.1 bt285.2.2.1)))))))) = some r := H
 have A2 := am A20
 clear A20
 by_cases c3 : t260 < 0
 ·rw [if_pos c3] at H
  have c3b0 : decide (t260 < 0) = true := decide_eq_true c3
  clear c3
  obtain rfl := Option.some.inj H
  go_enter Try.func8, Try.ntmps8
  go_wp2_with (first | ((with_reducible refine gate_dst (N := 1) rfl ?_); refine box_event ?hg (N := 1) ?hd (cs := #[.slice A0_0 l0_0.length c0_0, .slice A0_1 l0_1.length c0_1, .int .i64 a0_2]) (t := 42) ?hr ?_; (case hd => rfl); (case hg => rfl); (case hr => first | (go_simp; done) | (go_simp; rfl)); intro gb259 hg w4 hbox hb; have n0_ := am (bs (by repeat (first | (with_reducible first | exact HB.out | apply wa | apply wn | apply wd) | exact HB.out)) hb); have n1_ := am (hbox); have n2_ := am ((by rw [hg]; exact (below_size (by repeat (first | (with_reducible first | exact HB.out | apply wa | apply wn | apply wd) | exact HB.out))) : w.heap.size ≤ gb259)); have n3_ := am ((by rw [hg]; exact (below_size (by repeat (first | (with_reducible first | exact HB.out | apply wa | apply wn | apply wd) | exact HB.out))) : w.heap.size ≤ gb259)); clear HB; have HB := n0_; have BK259 := n1_; have GW259 := n2_; have GE259 := n3_; clear n0_ n1_ n2_ n3_; clear hb hbox hg; have hcz5_0 : w4.cell? ⟨gb259, 0, none⟩ = some (.slice A0_0 l0_0.length c0_0) := (blk_cell BK259.out 0).trans rfl; have hcz5_1 : w4.cell? ⟨gb259, 1, none⟩ = some (.slice A0_1 l0_1.length c0_1) := (blk_cell BK259.out 1).trans rfl; have hcz5_2 : w4.cell? ⟨gb259, 2, none⟩ = some (.int .i64 a0_2) := (blk_cell BK259.out 2).trans rfl; have hfz5_0 := blk_frozen BK259.out 0; have hfz5_1 := blk_frozen BK259.out 1; have hfz5_2 := blk_frozen BK259.out 2) | ((with_reducible refine gate_callee (f := 24) rfl ?_); refine goesL_ (some 16) rfl rfl Try.func24 (by kernel_rfl) rfl #[.agg #[.slice A0_0 l0_0.length c0_0, .slice A0_1 l0_1.length c0_1, .int .i64 a0_2], .int .i64 1048576] rfl (by (try simp only [List.map_toArray, List.map_cons, List.map_nil]); first | done | rfl | (simp only [List.length_drop, List.length_take]; rfl)) ?_; (with_reducible refine (laws_szTable.calls k _ _ l0_0 _ _ l0_1 a0_2 1048576 t260 _ ?side1 ?side2 ?side3 ?side4 A2.out).mono ?_); (case side1 => repeat (first | exact (Kd.C_below HR0_0.out HB.out) | (with_reducible refine Kd.C_alloc ?_ _) | (with_reducible refine Kd.C_drewN ?_ _) | (with_reducible refine Kd.C_drew ?_))); (case side2 => exact HC0_0.out); (case side3 => repeat (first | exact (Kd.C_below HR0_1.out HB.out) | (with_reducible refine Kd.C_alloc ?_ _) | (with_reducible refine Kd.C_drewN ?_ _) | (with_reducible refine Kd.C_drew ?_))); (case side4 => exact HC0_1.out); rintro e w6 ⟨rfl, hb⟩; refine ⟨_, rfl, ?_⟩; have n0_ := am (bb (g := gb259) (o := .cells #[.slice A0_0 l0_0.length c0_0, .slice A0_1 l0_1.length c0_1, .int .i64 a0_2] 42 (0, 0)) (by (with_reducible repeat (first | refine bn ?_ _ | refine bd ?_ | refine ba ?_ _)); exact BK259.out) hb); have n1_ := am (bs (by repeat (first | (with_reducible first | exact HB.out | apply wa | apply wn | apply wd | refine ws ?_ GE259.out) | exact HB.out)) hb); clear BK259; clear HB; have BK259 := n0_; have HB := n1_; clear n0_ n1_; (try clear hb); (try clear hb2); (try clear hk); (try clear hi)))
  go_ret
  exact ⟨by first | rfl | (simp [errW_none, errW_some] <;> rfl) | (simp [*, errW_none, errW_some] <;> rfl), by repeat (first | (with_reducible first | exact HB.out | apply wa | apply wn | apply wd | refine ws ?_ GE259.out) | exact HB.out)⟩
 ·rw [if_neg c3] at H
  have c3b0 : decide (t260 < 0) = false := decide_eq_false c3
  clear c3
  replace H := Option.bind_eq_some_iff.mp H
  obtain ⟨⟨t261, t264, t267⟩, A70, H⟩ := H
  replace H : ((spec_GrowTable.f k t261 t264 t267).bind fun bt268 => ((laws_toTable.f k l0_0 l0_1 a0_2).bind fun bt277 => ((impl_GrowTable.f k bt277.1 bt277.2.1 bt277.2.2).bind fun bt285 => ((laws_eqTable.f k bt285.1 bt285.2.1 bt285.2.2.1 bt268.1 bt268.2.1 bt268.2.2.1).bind fun t294 => (if t294 = true then (laws_FnExactGrowTable.j0 k bt268.2.2.2 bt285.2.2.2 (bt285.2.2.2 != bt268.2.2.2) l0_0 l0_1 a0_2 bt268.1 bt268.2.1 bt268.2.2.1 bt277.1 bt277.2.1 bt277.2.2 bt285.1 bt285.2.1 bt285.2.2.1) else (laws_FnExactGrowTable.j0 k bt268.2.2.2 bt285.2.2.2 true l0_0 l0_1 a0_2 bt268.1 bt268.2.1 bt268.2.2.1 bt277.1 bt277.2.1 bt277.2.2 bt285.1 bt285.2.1 bt285.2.2.1)))))) = some r := H
  have A7 := am A70
  clear A70
  replace H := Option.bind_eq_some_iff.mp H
  obtain ⟨⟨t268, t271, t274, t275⟩, A80, H⟩ := H
  replace H : ((laws_toTable.f k l0_0 l0_1 a0_2).bind fun bt277 => ((impl_GrowTable.f k bt277.1 bt277.2.1 bt277.2.2).bind fun bt285 => ((laws_eqTable.f k bt285.1 bt285.2.1 bt285.2.2.1 t268 t271 t274).bind fun t294 => (if t294 = true then (laws_FnExactGrowTable.j0 k t275 bt285.2.2.2 (bt285.2.2.2 != t275) l0_0 l0_1 a0_2 t268 t271 t274 bt277.1 bt277.2.1 bt277.2.2 bt285.1 bt285.2.1 bt285.2.2.1) else (laws_FnExactGrowTable.j0 k t275 bt285.2.2.2 true l0_0 l0_1 a0_2 t268 t271 t274 bt277.1 bt277.2.1 bt277.2.2 bt285.1 bt285.2.1 bt285.2.2.1))))) = some r := H
  have A8 := am A80
  clear A80
  replace H := Option.bind_eq_some_iff.mp H
  obtain ⟨⟨t277, t280, t283⟩, A90, H⟩ := H
  replace H : ((impl_GrowTable.f k t277 t280 t283).bind fun bt285 => ((laws_eqTable.f k bt285.1 bt285.2.1 bt285.2.2.1 t268 t271 t274).bind fun t294 => (if t294 = true then (laws_FnExactGrowTable.j0 k t275 bt285.2.2.2 (bt285.2.2.2 != t275) l0_0 l0_1 a0_2 t268 t271 t274 t277 t280 t283 bt285.1 bt285.2.1 bt285.2.2.1) else (laws_FnExactGrowTable.j0 k t275 bt285.2.2.2 true l0_0 l0_1 a0_2 t268 t271 t274 t277 t280 t283 bt285.1 bt285.2.1 bt285.2.2.1)))) = some r := H
  have A9 := am A90
  clear A90
  replace H := Option.bind_eq_some_iff.mp H
  obtain ⟨⟨t285, t288, t291, t292⟩, A100, H⟩ := H
  replace H : ((laws_eqTable.f k t285 t288 t291 t268 t271 t274).bind fun t294 => (if t294 = true then (laws_FnExactGrowTable.j0 k t275 t292 (t292 != t275) l0_0 l0_1 a0_2 t268 t271 t274 t277 t280 t283 t285 t288 t291) else (laws_FnExactGrowTable.j0 k t275 t292 true l0_0 l0_1 a0_2 t268 t271 t274 t277 t280 t283 t285 t288 t291))) = some r := H
  have A10 := am A100
  clear A100
  have HC11 := am H
  clear H
  go_enter Try.func8, Try.ntmps8
  go_upto_region 8 with (first | ((with_reducible refine gate_dst (N := 1) rfl ?_); refine box_event ?hg (N := 1) ?hd (cs := #[.slice A0_0 l0_0.length c0_0, .slice A0_1 l0_1.length c0_1, .int .i64 a0_2]) (t := 42) ?hr ?_; (case hd => rfl); (case hg => rfl); (case hr => first | (go_simp; done) | (go_simp; rfl)); intro gb259 hg w12 hbox hb; have n0_ := am (bs (by repeat (first | (with_reducible first | exact HB.out | apply wa | apply wn | apply wd) | exact HB.out)) hb); have n1_ := am (hbox); have n2_ := am ((by rw [hg]; exact (below_size (by repeat (first | (with_reducible first | exact HB.out | apply wa | apply wn | apply wd) | exact HB.out))) : w.heap.size ≤ gb259)); have n3_ := am ((by rw [hg]; exact (below_size (by repeat (first | (with_reducible first | exact HB.out | apply wa | apply wn | apply wd) | exact HB.out))) : w.heap.size ≤ gb259)); clear HB; have HB := n0_; have BK259 := n1_; have GW259 := n2_; have GE259 := n3_; clear n0_ n1_ n2_ n3_; clear hb hbox hg; have hcz13_0 : w12.cell? ⟨gb259, 0, none⟩ = some (.slice A0_0 l0_0.length c0_0) := (blk_cell BK259.out 0).trans rfl; have hcz13_1 : w12.cell? ⟨gb259, 1, none⟩ = some (.slice A0_1 l0_1.length c0_1) := (blk_cell BK259.out 1).trans rfl; have hcz13_2 : w12.cell? ⟨gb259, 2, none⟩ = some (.int .i64 a0_2) := (blk_cell BK259.out 2).trans rfl; have hfz13_0 := blk_frozen BK259.out 0; have hfz13_1 := blk_frozen BK259.out 1; have hfz13_2 := blk_frozen BK259.out 2) | ((with_reducible refine gate_callee (f := 24) rfl ?_); refine goesL_ (some 16) rfl rfl Try.func24 (by kernel_rfl) rfl #[.agg #[.slice A0_0 l0_0.length c0_0, .slice A0_1 l0_1.length c0_1, .int .i64 a0_2], .int .i64 1048576] rfl (by (try simp only [List.map_toArray, List.map_cons, List.map_nil]); first | done | rfl | (simp only [List.length_drop, List.length_take]; rfl)) ?_; (with_reducible refine (laws_szTable.calls k _ _ l0_0 _ _ l0_1 a0_2 1048576 t260 _ ?side1 ?side2 ?side3 ?side4 A2.out).mono ?_); (case side1 => repeat (first | exact (Kd.C_below HR0_0.out HB.out) | (with_reducible refine Kd.C_alloc ?_ _) | (with_reducible refine Kd.C_drewN ?_ _) | (with_reducible refine Kd.C_drew ?_))); (case side2 => exact HC0_0.out); (case side3 => repeat (first | exact (Kd.C_below HR0_1.out HB.out) | (with_reducible refine Kd.C_alloc ?_ _) | (with_reducible refine Kd.C_drewN ?_ _) | (with_reducible refine Kd.C_drew ?_))); (case side4 => exact HC0_1.out); rintro e w14 ⟨rfl, hb⟩; refine ⟨_, rfl, ?_⟩; have n0_ := am (bb (g := gb259) (o := .cells #[.slice A0_0 l0_0.length c0_0, .slice A0_1 l0_1.length c0_1, .int .i64 a0_2] 42 (0, 0)) (by (with_reducible repeat (first | refine bn ?_ _ | refine bd ?_ | refine ba ?_ _)); exact BK259.out) hb); have n1_ := am (bs (by repeat (first | (with_reducible first | exact HB.out | apply wa | apply wn | apply wd | refine ws ?_ GE259.out) | exact HB.out)) hb); clear BK259; clear HB; have BK259 := n0_; have HB := n1_; clear n0_ n1_; (try clear hb); (try clear hb2); (try clear hk); (try clear hi); have hcz15_0 : w14.cell? ⟨gb259, 0, none⟩ = some (.slice A0_0 l0_0.length c0_0) := (blk_cell BK259.out 0).trans rfl; have hcz15_1 : w14.cell? ⟨gb259, 1, none⟩ = some (.slice A0_1 l0_1.length c0_1) := (blk_cell BK259.out 1).trans rfl; have hcz15_2 : w14.cell? ⟨gb259, 2, none⟩ = some (.int .i64 a0_2) := (blk_cell BK259.out 2).trans rfl; have hfz15_0 := blk_frozen BK259.out 0; have hfz15_1 := blk_frozen BK259.out 1; have hfz15_2 := blk_frozen BK259.out 2) | ((with_reducible refine gate_callee (f := 26) rfl ?_); refine goesL_ (some 21) rfl rfl Try.func26 (by kernel_rfl) rfl #[.agg #[.slice A0_0 l0_0.length c0_0, .slice A0_1 l0_1.length c0_1, .int .i64 a0_2]] rfl (by (try simp only [List.map_toArray, List.map_cons, List.map_nil]); first | done | rfl | (simp only [List.length_drop, List.length_take]; rfl)) ?_; (with_reducible refine (laws_toTable.calls k _ _ l0_0 _ _ l0_1 a0_2 t261 t264 t267 _ ?side1 ?side2 ?side3 ?side4 A7.out).mono ?_); (case side1 => repeat (first | exact (Kd.C_below HR0_0.out HB.out) | (with_reducible refine Kd.C_alloc ?_ _) | (with_reducible refine Kd.C_drewN ?_ _) | (with_reducible refine Kd.C_drew ?_))); (case side2 => exact HC0_0.out); (case side3 => repeat (first | exact (Kd.C_below HR0_1.out HB.out) | (with_reducible refine Kd.C_alloc ?_ _) | (with_reducible refine Kd.C_drewN ?_ _) | (with_reducible refine Kd.C_drew ?_))); (case side4 => exact HC0_1.out); rintro e w16 ⟨v262, v265, rfl, ho0, ho1, hb⟩; refine ⟨_, rfl, ?_⟩; have n0_ := am (Kd.R_lower ho0 (below_size (by repeat (first | (with_reducible first | exact HB.out | apply wa | apply wn | apply wd | refine ws ?_ GE259.out) | exact HB.out)))); have n1_ := am (Kd.R_lower ho1 (below_size (by repeat (first | (with_reducible first | exact HB.out | apply wa | apply wn | apply wd | refine ws ?_ GE259.out) | exact HB.out)))); have n2_ := am (bb (g := gb259) (o := .cells #[.slice A0_0 l0_0.length c0_0, .slice A0_1 l0_1.length c0_1, .int .i64 a0_2] 42 (0, 0)) (by (with_reducible repeat (first | refine bn ?_ _ | refine bd ?_ | refine ba ?_ _)); exact BK259.out) hb); have n3_ := am (bs (by repeat (first | (with_reducible first | exact HB.out | apply wa | apply wn | apply wd | refine ws ?_ GE259.out) | exact HB.out)) hb); clear BK259; clear HB; have HO263 := n0_; have HO266 := n1_; have BK259 := n2_; have HB := n3_; clear n0_ n1_ n2_ n3_; (try clear hb); (try clear hb2); (try clear hk); (try clear hi); (try clear ho0); (try clear ho1); obtain ⟨Ao17, co17, eo17⟩ := Kd.R_slice HO263.out; subst eo17; obtain ⟨Ao18, co18, eo18⟩ := Kd.R_slice HO266.out; subst eo18) | ((with_reducible refine gate_callee (f := 36) rfl ?_); refine goesL_ (some 22) rfl rfl Try.func36 (by kernel_rfl) rfl #[.agg #[.slice Ao17 t261.length co17, .slice Ao18 t264.length co18, .int .i64 t267]] rfl (by (try simp only [List.map_toArray, List.map_cons, List.map_nil]); first | done | rfl | (simp only [List.length_drop, List.length_take]; rfl)) ?_; (with_reducible refine (spec_GrowTable.calls k _ _ t261 _ _ t264 t267 t268 t271 t274 t275 _ ?side1 ?side2 ?side3 ?side4 A8.out).mono ?_); (case side1 => repeat (first | exact (rr HO263.out).2.2 | (with_reducible refine Kd.C_alloc ?_ _) | (with_reducible refine Kd.C_drewN ?_ _) | (with_reducible refine Kd.C_drew ?_))); (case side2 => exact (rr HO263.out).2.1); (case side3 => repeat (first | exact (rr HO266.out).2.2 | (with_reducible refine Kd.C_alloc ?_ _) | (with_reducible refine Kd.C_drewN ?_ _) | (with_reducible refine Kd.C_drew ?_))); (case side4 => exact (rr HO266.out).2.1); rintro e w19 ⟨v269, v272, rfl, ho0, ho1, hb⟩; refine ⟨_, rfl, ?_⟩; have n0_ := am (rm (ro (ro (rl (by (with_reducible repeat (first | apply ra | apply rn | apply rd)); exact HO263.out) hb) (re ho0)) (re ho1)) (fun _ h_ => h_.1)); have n1_ := am (rm (ro (ro (rl (by (with_reducible repeat (first | apply ra | apply rn | apply rd)); exact HO266.out) hb) (re ho0)) (re ho1)) (fun _ h_ => h_.1)); have n2_ := am (Kd.R_lower (Kd.R_new' (Kd.R_new' ho0 (Kd.R_lt (by (with_reducible repeat (first | apply ra | apply rn | apply rd)); exact HO263.out))) (Kd.R_lt (by (with_reducible repeat (first | apply ra | apply rn | apply rd)); exact HO266.out))) (below_size (by repeat (first | (with_reducible first | exact HB.out | apply wa | apply wn | apply wd | refine ws ?_ GE259.out) | exact HB.out)))); have n3_ := am (Kd.R_lower (Kd.R_new' (Kd.R_new' ho1 (Kd.R_lt (by (with_reducible repeat (first | apply ra | apply rn | apply rd)); exact HO263.out))) (Kd.R_lt (by (with_reducible repeat (first | apply ra | apply rn | apply rd)); exact HO266.out))) (below_size (by repeat (first | (with_reducible first | exact HB.out | apply wa | apply wn | apply wd | refine ws ?_ GE259.out) | exact HB.out)))); have n4_ := am (bb (g := gb259) (o := .cells #[.slice A0_0 l0_0.length c0_0, .slice A0_1 l0_1.length c0_1, .int .i64 a0_2] 42 (0, 0)) (by (with_reducible repeat (first | refine bn ?_ _ | refine bd ?_ | refine ba ?_ _)); exact BK259.out) hb); have n5_ := am (bs (by repeat (first | (with_reducible first | exact HB.out | apply wa | apply wn | apply wd | refine ws ?_ GE259.out) | exact HB.out)) hb); clear HO263; clear HO266; clear BK259; clear HB; have HO263 := n0_; have HO266 := n1_; have HO270 := n2_; have HO273 := n3_; have BK259 := n4_; have HB := n5_; clear n0_ n1_ n2_ n3_ n4_ n5_; (try clear hb); (try clear hb2); (try clear hk); (try clear hi); (try clear ho0); (try clear ho1)) | ((with_reducible refine gate_dst (N := 4) rfl ?_); refine box_event ?hg (N := 4) ?hd (cs := #[.slice none 0 0, .slice none 0 0, .int .i64 0]) (t := 26) ?hr ?_; (case hd => rfl); (case hg => rfl); (case hr => first | (go_simp; done) | (go_simp; rfl)); intro gb276 hg w20 hbox hb; have n0_ := am (rb (by (with_reducible repeat (first | apply ra | apply rn | apply rd)); exact HO263.out) hb); have n1_ := am (rb (by (with_reducible repeat (first | apply ra | apply rn | apply rd)); exact HO266.out) hb); have n2_ := am (rb (by (with_reducible repeat (first | apply ra | apply rn | apply rd)); exact HO270.out) hb); have n3_ := am (rb (by (with_reducible repeat (first | apply ra | apply rn | apply rd)); exact HO273.out) hb); have n4_ := am (bb (g := gb259) (o := .cells #[.slice A0_0 l0_0.length c0_0, .slice A0_1 l0_1.length c0_1, .int .i64 a0_2] 42 (0, 0)) (by (with_reducible repeat (first | refine bn ?_ _ | refine bd ?_ | refine ba ?_ _)); exact BK259.out) hb); have n5_ := am (bs (by repeat (first | (with_reducible first | exact HB.out | apply wa | apply wn | apply wd | refine ws ?_ GE259.out) | exact HB.out)) hb); have n6_ := am (hbox); have n7_ := am ((by rw [hg]; exact (below_size (by repeat (first | (with_reducible first | exact HB.out | apply wa | apply wn | apply wd | refine ws ?_ GE259.out) | exact HB.out))) : w.heap.size ≤ gb276)); have n8_ := am ((by rw [hg]; exact (below_size (by repeat (first | (with_reducible first | exact HB.out | apply wa | apply wn | apply wd | refine ws ?_ GE259.out) | exact HB.out))) : w.heap.size ≤ gb276)); have n9_ := am ((by rw [hg]; exact Nat.ne_of_lt (blk_lt (g := gb259) (o := .cells #[.slice A0_0 l0_0.length c0_0, .slice A0_1 l0_1.length c0_1, .int .i64 a0_2] 42 (0, 0)) (by (with_reducible repeat (first | refine bn ?_ _ | refine bd ?_ | refine ba ?_ _)); exact BK259.out)) : gb259 ≠ gb276)); have n10_ := am ((by rw [hg]; exact Nat.ne_of_gt (blk_lt (g := gb259) (o := .cells #[.slice A0_0 l0_0.length c0_0, .slice A0_1 l0_1.length c0_1, .int .i64 a0_2] 42 (0, 0)) (by (with_reducible repeat (first | refine bn ?_ _ | refine bd ?_ | refine ba ?_ _)); exact BK259.out)) : gb276 ≠ gb259)); clear HO263; clear HO266; clear HO270; clear HO273; clear BK259; clear HB; have HO263 := n0_; have HO266 := n1_; have HO270 := n2_; have HO273 := n3_; have BK259 := n4_; have HB := n5_; have BK276 := n6_; have GW276 := n7_; have GE276 := n8_; have NB259_276 := n9_; have NB276_259 := n10_; clear n0_ n1_ n2_ n3_ n4_ n5_ n6_ n7_ n8_ n9_ n10_; clear hb hbox hg; obtain ⟨Ao21, co21, eo21⟩ := Kd.R_slice HO270.out; subst eo21; have hnb22 := NB276_259.out; have hnc22 := NB259_276.out; have hcz23_0 : w20.cell? ⟨gb276, 0, none⟩ = some (.slice none 0 0) := (blk_cell BK276.out 0).trans rfl; have hcz23_1 : w20.cell? ⟨gb276, 1, none⟩ = some (.slice none 0 0) := (blk_cell BK276.out 1).trans rfl; have hcz23_2 : w20.cell? ⟨gb276, 2, none⟩ = some (.int .i64 0) := (blk_cell BK276.out 2).trans rfl; have hfz23_0 := blk_frozen BK276.out 0; have hfz23_1 := blk_frozen BK276.out 1; have hfz23_2 := blk_frozen BK276.out 2; obtain ⟨Ao24, co24, eo24⟩ := Kd.R_slice HO273.out; subst eo24; have hcz25_0 : w20.cell? ⟨gb259, 0, none⟩ = some (.slice A0_0 l0_0.length c0_0) := (blk_cell BK259.out 0).trans rfl; have hcz25_1 : w20.cell? ⟨gb259, 1, none⟩ = some (.slice A0_1 l0_1.length c0_1) := (blk_cell BK259.out 1).trans rfl; have hcz25_2 : w20.cell? ⟨gb259, 2, none⟩ = some (.int .i64 a0_2) := (blk_cell BK259.out 2).trans rfl; have hfz25_0 := blk_frozen BK259.out 0; have hfz25_1 := blk_frozen BK259.out 1; have hfz25_2 := blk_frozen BK259.out 2) | ((with_reducible refine gate_callee (f := 26) rfl ?_); refine goesL_ (some 26) rfl rfl Try.func26 (by kernel_rfl) rfl #[.agg #[.slice A0_0 l0_0.length c0_0, .slice A0_1 l0_1.length c0_1, .int .i64 a0_2]] rfl (by (try simp only [List.map_toArray, List.map_cons, List.map_nil]); first | done | rfl | (simp only [List.length_drop, List.length_take]; rfl)) ?_; (with_reducible refine (laws_toTable.calls k _ _ l0_0 _ _ l0_1 a0_2 t277 t280 t283 _ ?side1 ?side2 ?side3 ?side4 A9.out).mono ?_); (case side1 => exact Kd.C_below HR0_0.out (by repeat (first | (with_reducible first | exact HB.out | apply wa | apply wn | apply wd | refine ws ?_ GE259.out | refine ws ?_ GE276.out) | exact HB.out))); (case side2 => exact HC0_0.out); (case side3 => exact Kd.C_below HR0_1.out (by repeat (first | (with_reducible first | exact HB.out | apply wa | apply wn | apply wd | refine ws ?_ GE259.out | refine ws ?_ GE276.out) | exact HB.out))); (case side4 => exact HC0_1.out); rintro e w26 ⟨v278, v281, rfl, ho0, ho1, hb⟩; refine ⟨_, rfl, ?_⟩; have n0_ := am (rm (ro (ro (rl (by (with_reducible repeat (first | apply ra | apply rn | apply rd)); exact (rm (Kd.R_far (p := ⟨gb276, 2, none⟩) (Kd.R_far (p := ⟨gb276, 1, none⟩) (Kd.R_far (p := ⟨gb276, 0, none⟩) (Kd.R_types HO263.out BK276.out (by decide)) (fun _ hk => by simp [hk]) (.slice Ao21 t268.length co21)) (fun _ hk => by simp [hk]) (.slice Ao24 t271.length co24)) (fun _ hk => by simp [hk]) (.int .i64 t274)) (fun _ h_ => h_.1))) hb) (re ho0)) (re ho1)) (fun _ h_ => h_.1)); have n1_ := am (rm (ro (ro (rl (by (with_reducible repeat (first | apply ra | apply rn | apply rd)); exact (rm (Kd.R_far (p := ⟨gb276, 2, none⟩) (Kd.R_far (p := ⟨gb276, 1, none⟩) (Kd.R_far (p := ⟨gb276, 0, none⟩) (Kd.R_types HO266.out BK276.out (by decide)) (fun _ hk => by simp [hk]) (.slice Ao21 t268.length co21)) (fun _ hk => by simp [hk]) (.slice Ao24 t271.length co24)) (fun _ hk => by simp [hk]) (.int .i64 t274)) (fun _ h_ => h_.1))) hb) (re ho0)) (re ho1)) (fun _ h_ => h_.1)); have n2_ := am (rm (ro (ro (rl (by (with_reducible repeat (first | apply ra | apply rn | apply rd)); exact (rm (Kd.R_far (p := ⟨gb276, 2, none⟩) (Kd.R_far (p := ⟨gb276, 1, none⟩) (Kd.R_far (p := ⟨gb276, 0, none⟩) (Kd.R_types HO270.out BK276.out (by decide)) (fun _ hk => by simp [hk]) (.slice Ao21 t268.length co21)) (fun _ hk => by simp [hk]) (.slice Ao24 t271.length co24)) (fun _ hk => by simp [hk]) (.int .i64 t274)) (fun _ h_ => h_.1))) hb) (re ho0)) (re ho1)) (fun _ h_ => h_.1)); have n3_ := am (rm (ro (ro (rl (by (with_reducible repeat (first | apply ra | apply rn | apply rd)); exact (rm (Kd.R_far (p := ⟨gb276, 2, none⟩) (Kd.R_far (p := ⟨gb276, 1, none⟩) (Kd.R_far (p := ⟨gb276, 0, none⟩) (Kd.R_types HO273.out BK276.out (by decide)) (fun _ hk => by simp [hk]) (.slice Ao21 t268.length co21)) (fun _ hk => by simp [hk]) (.slice Ao24 t271.length co24)) (fun _ hk => by simp [hk]) (.int .i64 t274)) (fun _ h_ => h_.1))) hb) (re ho0)) (re ho1)) (fun _ h_ => h_.1)); have n4_ := am (Kd.R_lower (Kd.R_new' (Kd.R_new' (Kd.R_new' (Kd.R_new' ho0 (Kd.R_lt (by (with_reducible repeat (first | apply ra | apply rn | apply rd)); exact (rm (Kd.R_far (p := ⟨gb276, 2, none⟩) (Kd.R_far (p := ⟨gb276, 1, none⟩) (Kd.R_far (p := ⟨gb276, 0, none⟩) (Kd.R_types HO263.out BK276.out (by decide)) (fun _ hk => by simp [hk]) (.slice Ao21 t268.length co21)) (fun _ hk => by simp [hk]) (.slice Ao24 t271.length co24)) (fun _ hk => by simp [hk]) (.int .i64 t274)) (fun _ h_ => h_.1))))) (Kd.R_lt (by (with_reducible repeat (first | apply ra | apply rn | apply rd)); exact (rm (Kd.R_far (p := ⟨gb276, 2, none⟩) (Kd.R_far (p := ⟨gb276, 1, none⟩) (Kd.R_far (p := ⟨gb276, 0, none⟩) (Kd.R_types HO266.out BK276.out (by decide)) (fun _ hk => by simp [hk]) (.slice Ao21 t268.length co21)) (fun _ hk => by simp [hk]) (.slice Ao24 t271.length co24)) (fun _ hk => by simp [hk]) (.int .i64 t274)) (fun _ h_ => h_.1))))) (Kd.R_lt (by (with_reducible repeat (first | apply ra | apply rn | apply rd)); exact (rm (Kd.R_far (p := ⟨gb276, 2, none⟩) (Kd.R_far (p := ⟨gb276, 1, none⟩) (Kd.R_far (p := ⟨gb276, 0, none⟩) (Kd.R_types HO270.out BK276.out (by decide)) (fun _ hk => by simp [hk]) (.slice Ao21 t268.length co21)) (fun _ hk => by simp [hk]) (.slice Ao24 t271.length co24)) (fun _ hk => by simp [hk]) (.int .i64 t274)) (fun _ h_ => h_.1))))) (Kd.R_lt (by (with_reducible repeat (first | apply ra | apply rn | apply rd)); exact (rm (Kd.R_far (p := ⟨gb276, 2, none⟩) (Kd.R_far (p := ⟨gb276, 1, none⟩) (Kd.R_far (p := ⟨gb276, 0, none⟩) (Kd.R_types HO273.out BK276.out (by decide)) (fun _ hk => by simp [hk]) (.slice Ao21 t268.length co21)) (fun _ hk => by simp [hk]) (.slice Ao24 t271.length co24)) (fun _ hk => by simp [hk]) (.int .i64 t274)) (fun _ h_ => h_.1))))) (below_size (by repeat (first | (with_reducible first | exact HB.out | apply wa | apply wn | apply wd | refine ws ?_ GE259.out | refine ws ?_ GE276.out) | exact HB.out)))); have n5_ := am (Kd.R_lower (Kd.R_new' (Kd.R_new' (Kd.R_new' (Kd.R_new' ho1 (Kd.R_lt (by (with_reducible repeat (first | apply ra | apply rn | apply rd)); exact (rm (Kd.R_far (p := ⟨gb276, 2, none⟩) (Kd.R_far (p := ⟨gb276, 1, none⟩) (Kd.R_far (p := ⟨gb276, 0, none⟩) (Kd.R_types HO263.out BK276.out (by decide)) (fun _ hk => by simp [hk]) (.slice Ao21 t268.length co21)) (fun _ hk => by simp [hk]) (.slice Ao24 t271.length co24)) (fun _ hk => by simp [hk]) (.int .i64 t274)) (fun _ h_ => h_.1))))) (Kd.R_lt (by (with_reducible repeat (first | apply ra | apply rn | apply rd)); exact (rm (Kd.R_far (p := ⟨gb276, 2, none⟩) (Kd.R_far (p := ⟨gb276, 1, none⟩) (Kd.R_far (p := ⟨gb276, 0, none⟩) (Kd.R_types HO266.out BK276.out (by decide)) (fun _ hk => by simp [hk]) (.slice Ao21 t268.length co21)) (fun _ hk => by simp [hk]) (.slice Ao24 t271.length co24)) (fun _ hk => by simp [hk]) (.int .i64 t274)) (fun _ h_ => h_.1))))) (Kd.R_lt (by (with_reducible repeat (first | apply ra | apply rn | apply rd)); exact (rm (Kd.R_far (p := ⟨gb276, 2, none⟩) (Kd.R_far (p := ⟨gb276, 1, none⟩) (Kd.R_far (p := ⟨gb276, 0, none⟩) (Kd.R_types HO270.out BK276.out (by decide)) (fun _ hk => by simp [hk]) (.slice Ao21 t268.length co21)) (fun _ hk => by simp [hk]) (.slice Ao24 t271.length co24)) (fun _ hk => by simp [hk]) (.int .i64 t274)) (fun _ h_ => h_.1))))) (Kd.R_lt (by (with_reducible repeat (first | apply ra | apply rn | apply rd)); exact (rm (Kd.R_far (p := ⟨gb276, 2, none⟩) (Kd.R_far (p := ⟨gb276, 1, none⟩) (Kd.R_far (p := ⟨gb276, 0, none⟩) (Kd.R_types HO273.out BK276.out (by decide)) (fun _ hk => by simp [hk]) (.slice Ao21 t268.length co21)) (fun _ hk => by simp [hk]) (.slice Ao24 t271.length co24)) (fun _ hk => by simp [hk]) (.int .i64 t274)) (fun _ h_ => h_.1))))) (below_size (by repeat (first | (with_reducible first | exact HB.out | apply wa | apply wn | apply wd | refine ws ?_ GE259.out | refine ws ?_ GE276.out) | exact HB.out)))); have n6_ := am (bb (g := gb259) (o := .cells #[.slice A0_0 l0_0.length c0_0, .slice A0_1 l0_1.length c0_1, .int .i64 a0_2] 42 (0, 0)) (by (with_reducible repeat (first | refine bn ?_ _ | refine bd ?_ | refine ba ?_ _)); refine blk_far ?_ NB259_276.out _; (with_reducible repeat (first | refine bn ?_ _ | refine bd ?_ | refine ba ?_ _)); refine blk_far ?_ NB259_276.out _; (with_reducible repeat (first | refine bn ?_ _ | refine bd ?_ | refine ba ?_ _)); refine blk_far ?_ NB259_276.out _; (with_reducible repeat (first | refine bn ?_ _ | refine bd ?_ | refine ba ?_ _)); exact BK259.out) hb); have n7_ := am (bb (g := gb276) (o := .cells #[.slice Ao21 t268.length co21, .slice Ao24 t271.length co24, .int .i64 t274] 26 (0, 0)) (by (with_reducible repeat (first | refine bn ?_ _ | refine bd ?_ | refine ba ?_ _)); refine blk_put (cs := #[.slice Ao21 t268.length co21, .slice Ao24 t271.length co24, .int .i64 0]) ?_ 2 _ rfl; (with_reducible repeat (first | refine bn ?_ _ | refine bd ?_ | refine ba ?_ _)); refine blk_put (cs := #[.slice Ao21 t268.length co21, .slice none 0 0, .int .i64 0]) ?_ 1 _ rfl; (with_reducible repeat (first | refine bn ?_ _ | refine bd ?_ | refine ba ?_ _)); refine blk_put (cs := #[.slice none 0 0, .slice none 0 0, .int .i64 0]) ?_ 0 _ rfl; (with_reducible repeat (first | refine bn ?_ _ | refine bd ?_ | refine ba ?_ _)); exact BK276.out) hb); have n8_ := am (bs (by repeat (first | (with_reducible first | exact HB.out | apply wa | apply wn | apply wd | refine ws ?_ GE259.out | refine ws ?_ GE276.out) | exact HB.out)) hb); clear HO263; clear HO266; clear HO270; clear HO273; clear BK259; clear BK276; clear HB; have HO263 := n0_; have HO266 := n1_; have HO270 := n2_; have HO273 := n3_; have HO279 := n4_; have HO282 := n5_; have BK259 := n6_; have BK276 := n7_; have HB := n8_; clear n0_ n1_ n2_ n3_ n4_ n5_ n6_ n7_ n8_; (try clear hb); (try clear hb2); (try clear hk); (try clear hi); (try clear ho0); (try clear ho1)) | ((with_reducible refine gate_dst (N := 6) rfl ?_); refine box_event ?hg (N := 6) ?hd (cs := #[.slice none 0 0, .slice none 0 0, .int .i64 0]) (t := 26) ?hr ?_; (case hd => rfl); (case hg => rfl); (case hr => first | (go_simp; done) | (go_simp; rfl)); intro gb284 hg w27 hbox hb; have n0_ := am (rb (by (with_reducible repeat (first | apply ra | apply rn | apply rd)); exact HO263.out) hb); have n1_ := am (rb (by (with_reducible repeat (first | apply ra | apply rn | apply rd)); exact HO266.out) hb); have n2_ := am (rb (by (with_reducible repeat (first | apply ra | apply rn | apply rd)); exact HO270.out) hb); have n3_ := am (rb (by (with_reducible repeat (first | apply ra | apply rn | apply rd)); exact HO273.out) hb); have n4_ := am (rb (by (with_reducible repeat (first | apply ra | apply rn | apply rd)); exact HO279.out) hb); have n5_ := am (rb (by (with_reducible repeat (first | apply ra | apply rn | apply rd)); exact HO282.out) hb); have n6_ := am (bb (g := gb259) (o := .cells #[.slice A0_0 l0_0.length c0_0, .slice A0_1 l0_1.length c0_1, .int .i64 a0_2] 42 (0, 0)) (by (with_reducible repeat (first | refine bn ?_ _ | refine bd ?_ | refine ba ?_ _)); exact BK259.out) hb); have n7_ := am (bb (g := gb276) (o := .cells #[.slice Ao21 t268.length co21, .slice Ao24 t271.length co24, .int .i64 t274] 26 (0, 0)) (by (with_reducible repeat (first | refine bn ?_ _ | refine bd ?_ | refine ba ?_ _)); exact BK276.out) hb); have n8_ := am (bs (by repeat (first | (with_reducible first | exact HB.out | apply wa | apply wn | apply wd | refine ws ?_ GE259.out | refine ws ?_ GE276.out) | exact HB.out)) hb); have n9_ := am (hbox); have n10_ := am ((by rw [hg]; exact (below_size (by repeat (first | (with_reducible first | exact HB.out | apply wa | apply wn | apply wd | refine ws ?_ GE259.out | refine ws ?_ GE276.out) | exact HB.out))) : w.heap.size ≤ gb284)); have n11_ := am ((by rw [hg]; exact (below_size (by repeat (first | (with_reducible first | exact HB.out | apply wa | apply wn | apply wd | refine ws ?_ GE259.out | refine ws ?_ GE276.out) | exact HB.out))) : w.heap.size ≤ gb284)); have n12_ := am ((by rw [hg]; exact Nat.ne_of_lt (blk_lt (g := gb259) (o := .cells #[.slice A0_0 l0_0.length c0_0, .slice A0_1 l0_1.length c0_1, .int .i64 a0_2] 42 (0, 0)) (by (with_reducible repeat (first | refine bn ?_ _ | refine bd ?_ | refine ba ?_ _)); exact BK259.out)) : gb259 ≠ gb284)); have n13_ := am ((by rw [hg]; exact Nat.ne_of_gt (blk_lt (g := gb259) (o := .cells #[.slice A0_0 l0_0.length c0_0, .slice A0_1 l0_1.length c0_1, .int .i64 a0_2] 42 (0, 0)) (by (with_reducible repeat (first | refine bn ?_ _ | refine bd ?_ | refine ba ?_ _)); exact BK259.out)) : gb284 ≠ gb259)); have n14_ := am ((by rw [hg]; exact Nat.ne_of_lt (blk_lt (g := gb276) (o := .cells #[.slice Ao21 t268.length co21, .slice Ao24 t271.length co24, .int .i64 t274] 26 (0, 0)) (by (with_reducible repeat (first | refine bn ?_ _ | refine bd ?_ | refine ba ?_ _)); exact BK276.out)) : gb276 ≠ gb284)); have n15_ := am ((by rw [hg]; exact Nat.ne_of_gt (blk_lt (g := gb276) (o := .cells #[.slice Ao21 t268.length co21, .slice Ao24 t271.length co24, .int .i64 t274] 26 (0, 0)) (by (with_reducible repeat (first | refine bn ?_ _ | refine bd ?_ | refine ba ?_ _)); exact BK276.out)) : gb284 ≠ gb276)); clear HO263; clear HO266; clear HO270; clear HO273; clear HO279; clear HO282; clear BK259; clear BK276; clear HB; have HO263 := n0_; have HO266 := n1_; have HO270 := n2_; have HO273 := n3_; have HO279 := n4_; have HO282 := n5_; have BK259 := n6_; have BK276 := n7_; have HB := n8_; have BK284 := n9_; have GW284 := n10_; have GE284 := n11_; have NB259_284 := n12_; have NB284_259 := n13_; have NB276_284 := n14_; have NB284_276 := n15_; clear n0_ n1_ n2_ n3_ n4_ n5_ n6_ n7_ n8_ n9_ n10_ n11_ n12_ n13_ n14_ n15_; clear hb hbox hg; obtain ⟨Ao28, co28, eo28⟩ := Kd.R_slice HO279.out; subst eo28; have hnb29 := NB284_259.out; have hnc29 := NB259_284.out; have hnb30 := NB284_276.out; have hnc30 := NB276_284.out; have hcz31_0 : w27.cell? ⟨gb284, 0, none⟩ = some (.slice none 0 0) := (blk_cell BK284.out 0).trans rfl; have hcz31_1 : w27.cell? ⟨gb284, 1, none⟩ = some (.slice none 0 0) := (blk_cell BK284.out 1).trans rfl; have hcz31_2 : w27.cell? ⟨gb284, 2, none⟩ = some (.int .i64 0) := (blk_cell BK284.out 2).trans rfl; have hfz31_0 := blk_frozen BK284.out 0; have hfz31_1 := blk_frozen BK284.out 1; have hfz31_2 := blk_frozen BK284.out 2; obtain ⟨Ao32, co32, eo32⟩ := Kd.R_slice HO282.out; subst eo32) | ((with_reducible refine gate_callee (f := 17) rfl ?_); refine goesL_ (some 29) rfl rfl Try.func17 (by kernel_rfl) rfl #[.agg #[.slice Ao28 t277.length co28, .slice Ao32 t280.length co32, .int .i64 t283]] rfl (by (try simp only [List.map_toArray, List.map_cons, List.map_nil]); first | done | rfl | (simp only [List.length_drop, List.length_take]; rfl)) ?_; (with_reducible refine (impl_GrowTable.calls k _ _ t277 _ _ t280 t283 t285 t288 t291 t292 _ ?side1 ?side2 ?side3 ?side4 A10.out).mono ?_); (case side1 => refine (rr (e := 57) (base := w.heap.size) (ok := fun k_ => ((((some k_ ≠ (.slice Ao32 t280.length co32 : Value).ownBlock ∧ some k_ ≠ (.slice Ao17 t261.length co17 : Value).ownBlock) ∧ some k_ ≠ (.slice Ao18 t264.length co18 : Value).ownBlock) ∧ some k_ ≠ (.slice Ao21 t268.length co21 : Value).ownBlock) ∧ some k_ ≠ (.slice Ao24 t271.length co24 : Value).ownBlock)) (n := t277.length) (c := co28) ?_).2.2; exact (by (with_reducible repeat (first | apply ra | apply rn | apply rd)); exact (rm (Kd.R_far (p := ⟨gb284, 2, none⟩) (Kd.R_far (p := ⟨gb284, 1, none⟩) (Kd.R_far (p := ⟨gb284, 0, none⟩) (Kd.R_types HO279.out BK284.out (by decide)) (fun _ hk => by simp [hk]) (.slice Ao28 t277.length co28)) (fun _ hk => by simp [hk]) (.slice Ao32 t280.length co32)) (fun _ hk => by simp [hk]) (.int .i64 t283)) (fun _ h_ => h_.1)))); (case side2 => exact (rr HO279.out).2.1); (case side3 => refine (rr (e := 57) (base := w.heap.size) (ok := fun k_ => ((((some k_ ≠ (.slice Ao28 t277.length co28 : Value).ownBlock ∧ some k_ ≠ (.slice Ao17 t261.length co17 : Value).ownBlock) ∧ some k_ ≠ (.slice Ao18 t264.length co18 : Value).ownBlock) ∧ some k_ ≠ (.slice Ao21 t268.length co21 : Value).ownBlock) ∧ some k_ ≠ (.slice Ao24 t271.length co24 : Value).ownBlock)) (n := t280.length) (c := co32) ?_).2.2; exact (by (with_reducible repeat (first | apply ra | apply rn | apply rd)); exact (rm (Kd.R_far (p := ⟨gb284, 2, none⟩) (Kd.R_far (p := ⟨gb284, 1, none⟩) (Kd.R_far (p := ⟨gb284, 0, none⟩) (Kd.R_types HO282.out BK284.out (by decide)) (fun _ hk => by simp [hk]) (.slice Ao28 t277.length co28)) (fun _ hk => by simp [hk]) (.slice Ao32 t280.length co32)) (fun _ hk => by simp [hk]) (.int .i64 t283)) (fun _ h_ => h_.1)))); (case side4 => exact (rr HO282.out).2.1); rintro e w33 ⟨v286, v289, rfl, ho0, ho1, hb⟩; refine ⟨_, rfl, ?_⟩; have n0_ := am (rm (ro (ro (rl (by (with_reducible repeat (first | apply ra | apply rn | apply rd)); exact (rm (Kd.R_far (p := ⟨gb284, 2, none⟩) (Kd.R_far (p := ⟨gb284, 1, none⟩) (Kd.R_far (p := ⟨gb284, 0, none⟩) (Kd.R_types HO263.out BK284.out (by decide)) (fun _ hk => by simp [hk]) (.slice Ao28 t277.length co28)) (fun _ hk => by simp [hk]) (.slice Ao32 t280.length co32)) (fun _ hk => by simp [hk]) (.int .i64 t283)) (fun _ h_ => h_.1))) hb) (re ho0)) (re ho1)) (fun _ h_ => h_.1)); have n1_ := am (rm (ro (ro (rl (by (with_reducible repeat (first | apply ra | apply rn | apply rd)); exact (rm (Kd.R_far (p := ⟨gb284, 2, none⟩) (Kd.R_far (p := ⟨gb284, 1, none⟩) (Kd.R_far (p := ⟨gb284, 0, none⟩) (Kd.R_types HO266.out BK284.out (by decide)) (fun _ hk => by simp [hk]) (.slice Ao28 t277.length co28)) (fun _ hk => by simp [hk]) (.slice Ao32 t280.length co32)) (fun _ hk => by simp [hk]) (.int .i64 t283)) (fun _ h_ => h_.1))) hb) (re ho0)) (re ho1)) (fun _ h_ => h_.1)); have n2_ := am (rm (ro (ro (rl (by (with_reducible repeat (first | apply ra | apply rn | apply rd)); exact (rm (Kd.R_far (p := ⟨gb284, 2, none⟩) (Kd.R_far (p := ⟨gb284, 1, none⟩) (Kd.R_far (p := ⟨gb284, 0, none⟩) (Kd.R_types HO270.out BK284.out (by decide)) (fun _ hk => by simp [hk]) (.slice Ao28 t277.length co28)) (fun _ hk => by simp [hk]) (.slice Ao32 t280.length co32)) (fun _ hk => by simp [hk]) (.int .i64 t283)) (fun _ h_ => h_.1))) hb) (re ho0)) (re ho1)) (fun _ h_ => h_.1)); have n3_ := am (rm (ro (ro (rl (by (with_reducible repeat (first | apply ra | apply rn | apply rd)); exact (rm (Kd.R_far (p := ⟨gb284, 2, none⟩) (Kd.R_far (p := ⟨gb284, 1, none⟩) (Kd.R_far (p := ⟨gb284, 0, none⟩) (Kd.R_types HO273.out BK284.out (by decide)) (fun _ hk => by simp [hk]) (.slice Ao28 t277.length co28)) (fun _ hk => by simp [hk]) (.slice Ao32 t280.length co32)) (fun _ hk => by simp [hk]) (.int .i64 t283)) (fun _ h_ => h_.1))) hb) (re ho0)) (re ho1)) (fun _ h_ => h_.1)); have n4_ := am (rm (ro (ro (rl (by (with_reducible repeat (first | apply ra | apply rn | apply rd)); exact (rm (Kd.R_far (p := ⟨gb284, 2, none⟩) (Kd.R_far (p := ⟨gb284, 1, none⟩) (Kd.R_far (p := ⟨gb284, 0, none⟩) (Kd.R_types HO279.out BK284.out (by decide)) (fun _ hk => by simp [hk]) (.slice Ao28 t277.length co28)) (fun _ hk => by simp [hk]) (.slice Ao32 t280.length co32)) (fun _ hk => by simp [hk]) (.int .i64 t283)) (fun _ h_ => h_.1))) hb) (re ho0)) (re ho1)) (fun _ h_ => h_.1)); have n5_ := am (rm (ro (ro (rl (by (with_reducible repeat (first | apply ra | apply rn | apply rd)); exact (rm (Kd.R_far (p := ⟨gb284, 2, none⟩) (Kd.R_far (p := ⟨gb284, 1, none⟩) (Kd.R_far (p := ⟨gb284, 0, none⟩) (Kd.R_types HO282.out BK284.out (by decide)) (fun _ hk => by simp [hk]) (.slice Ao28 t277.length co28)) (fun _ hk => by simp [hk]) (.slice Ao32 t280.length co32)) (fun _ hk => by simp [hk]) (.int .i64 t283)) (fun _ h_ => h_.1))) hb) (re ho0)) (re ho1)) (fun _ h_ => h_.1)); have n6_ := am (Kd.R_lower (Kd.R_new' (Kd.R_new' (Kd.R_new' (Kd.R_new' (Kd.R_new' (Kd.R_new' ho0 (Kd.R_lt (by (with_reducible repeat (first | apply ra | apply rn | apply rd)); exact (rm (Kd.R_far (p := ⟨gb284, 2, none⟩) (Kd.R_far (p := ⟨gb284, 1, none⟩) (Kd.R_far (p := ⟨gb284, 0, none⟩) (Kd.R_types HO263.out BK284.out (by decide)) (fun _ hk => by simp [hk]) (.slice Ao28 t277.length co28)) (fun _ hk => by simp [hk]) (.slice Ao32 t280.length co32)) (fun _ hk => by simp [hk]) (.int .i64 t283)) (fun _ h_ => h_.1))))) (Kd.R_lt (by (with_reducible repeat (first | apply ra | apply rn | apply rd)); exact (rm (Kd.R_far (p := ⟨gb284, 2, none⟩) (Kd.R_far (p := ⟨gb284, 1, none⟩) (Kd.R_far (p := ⟨gb284, 0, none⟩) (Kd.R_types HO266.out BK284.out (by decide)) (fun _ hk => by simp [hk]) (.slice Ao28 t277.length co28)) (fun _ hk => by simp [hk]) (.slice Ao32 t280.length co32)) (fun _ hk => by simp [hk]) (.int .i64 t283)) (fun _ h_ => h_.1))))) (Kd.R_lt (by (with_reducible repeat (first | apply ra | apply rn | apply rd)); exact (rm (Kd.R_far (p := ⟨gb284, 2, none⟩) (Kd.R_far (p := ⟨gb284, 1, none⟩) (Kd.R_far (p := ⟨gb284, 0, none⟩) (Kd.R_types HO270.out BK284.out (by decide)) (fun _ hk => by simp [hk]) (.slice Ao28 t277.length co28)) (fun _ hk => by simp [hk]) (.slice Ao32 t280.length co32)) (fun _ hk => by simp [hk]) (.int .i64 t283)) (fun _ h_ => h_.1))))) (Kd.R_lt (by (with_reducible repeat (first | apply ra | apply rn | apply rd)); exact (rm (Kd.R_far (p := ⟨gb284, 2, none⟩) (Kd.R_far (p := ⟨gb284, 1, none⟩) (Kd.R_far (p := ⟨gb284, 0, none⟩) (Kd.R_types HO273.out BK284.out (by decide)) (fun _ hk => by simp [hk]) (.slice Ao28 t277.length co28)) (fun _ hk => by simp [hk]) (.slice Ao32 t280.length co32)) (fun _ hk => by simp [hk]) (.int .i64 t283)) (fun _ h_ => h_.1))))) (Kd.R_lt (by (with_reducible repeat (first | apply ra | apply rn | apply rd)); exact (rm (Kd.R_far (p := ⟨gb284, 2, none⟩) (Kd.R_far (p := ⟨gb284, 1, none⟩) (Kd.R_far (p := ⟨gb284, 0, none⟩) (Kd.R_types HO279.out BK284.out (by decide)) (fun _ hk => by simp [hk]) (.slice Ao28 t277.length co28)) (fun _ hk => by simp [hk]) (.slice Ao32 t280.length co32)) (fun _ hk => by simp [hk]) (.int .i64 t283)) (fun _ h_ => h_.1))))) (Kd.R_lt (by (with_reducible repeat (first | apply ra | apply rn | apply rd)); exact (rm (Kd.R_far (p := ⟨gb284, 2, none⟩) (Kd.R_far (p := ⟨gb284, 1, none⟩) (Kd.R_far (p := ⟨gb284, 0, none⟩) (Kd.R_types HO282.out BK284.out (by decide)) (fun _ hk => by simp [hk]) (.slice Ao28 t277.length co28)) (fun _ hk => by simp [hk]) (.slice Ao32 t280.length co32)) (fun _ hk => by simp [hk]) (.int .i64 t283)) (fun _ h_ => h_.1))))) (below_size (by repeat (first | (with_reducible first | exact HB.out | apply wa | apply wn | apply wd | refine ws ?_ GE259.out | refine ws ?_ GE276.out | refine ws ?_ GE284.out) | exact HB.out)))); have n7_ := am (Kd.R_lower (Kd.R_new' (Kd.R_new' (Kd.R_new' (Kd.R_new' (Kd.R_new' (Kd.R_new' ho1 (Kd.R_lt (by (with_reducible repeat (first | apply ra | apply rn | apply rd)); exact (rm (Kd.R_far (p := ⟨gb284, 2, none⟩) (Kd.R_far (p := ⟨gb284, 1, none⟩) (Kd.R_far (p := ⟨gb284, 0, none⟩) (Kd.R_types HO263.out BK284.out (by decide)) (fun _ hk => by simp [hk]) (.slice Ao28 t277.length co28)) (fun _ hk => by simp [hk]) (.slice Ao32 t280.length co32)) (fun _ hk => by simp [hk]) (.int .i64 t283)) (fun _ h_ => h_.1))))) (Kd.R_lt (by (with_reducible repeat (first | apply ra | apply rn | apply rd)); exact (rm (Kd.R_far (p := ⟨gb284, 2, none⟩) (Kd.R_far (p := ⟨gb284, 1, none⟩) (Kd.R_far (p := ⟨gb284, 0, none⟩) (Kd.R_types HO266.out BK284.out (by decide)) (fun _ hk => by simp [hk]) (.slice Ao28 t277.length co28)) (fun _ hk => by simp [hk]) (.slice Ao32 t280.length co32)) (fun _ hk => by simp [hk]) (.int .i64 t283)) (fun _ h_ => h_.1))))) (Kd.R_lt (by (with_reducible repeat (first | apply ra | apply rn | apply rd)); exact (rm (Kd.R_far (p := ⟨gb284, 2, none⟩) (Kd.R_far (p := ⟨gb284, 1, none⟩) (Kd.R_far (p := ⟨gb284, 0, none⟩) (Kd.R_types HO270.out BK284.out (by decide)) (fun _ hk => by simp [hk]) (.slice Ao28 t277.length co28)) (fun _ hk => by simp [hk]) (.slice Ao32 t280.length co32)) (fun _ hk => by simp [hk]) (.int .i64 t283)) (fun _ h_ => h_.1))))) (Kd.R_lt (by (with_reducible repeat (first | apply ra | apply rn | apply rd)); exact (rm (Kd.R_far (p := ⟨gb284, 2, none⟩) (Kd.R_far (p := ⟨gb284, 1, none⟩) (Kd.R_far (p := ⟨gb284, 0, none⟩) (Kd.R_types HO273.out BK284.out (by decide)) (fun _ hk => by simp [hk]) (.slice Ao28 t277.length co28)) (fun _ hk => by simp [hk]) (.slice Ao32 t280.length co32)) (fun _ hk => by simp [hk]) (.int .i64 t283)) (fun _ h_ => h_.1))))) (Kd.R_lt (by (with_reducible repeat (first | apply ra | apply rn | apply rd)); exact (rm (Kd.R_far (p := ⟨gb284, 2, none⟩) (Kd.R_far (p := ⟨gb284, 1, none⟩) (Kd.R_far (p := ⟨gb284, 0, none⟩) (Kd.R_types HO279.out BK284.out (by decide)) (fun _ hk => by simp [hk]) (.slice Ao28 t277.length co28)) (fun _ hk => by simp [hk]) (.slice Ao32 t280.length co32)) (fun _ hk => by simp [hk]) (.int .i64 t283)) (fun _ h_ => h_.1))))) (Kd.R_lt (by (with_reducible repeat (first | apply ra | apply rn | apply rd)); exact (rm (Kd.R_far (p := ⟨gb284, 2, none⟩) (Kd.R_far (p := ⟨gb284, 1, none⟩) (Kd.R_far (p := ⟨gb284, 0, none⟩) (Kd.R_types HO282.out BK284.out (by decide)) (fun _ hk => by simp [hk]) (.slice Ao28 t277.length co28)) (fun _ hk => by simp [hk]) (.slice Ao32 t280.length co32)) (fun _ hk => by simp [hk]) (.int .i64 t283)) (fun _ h_ => h_.1))))) (below_size (by repeat (first | (with_reducible first | exact HB.out | apply wa | apply wn | apply wd | refine ws ?_ GE259.out | refine ws ?_ GE276.out | refine ws ?_ GE284.out) | exact HB.out)))); have n8_ := am (bb (g := gb259) (o := .cells #[.slice A0_0 l0_0.length c0_0, .slice A0_1 l0_1.length c0_1, .int .i64 a0_2] 42 (0, 0)) (by (with_reducible repeat (first | refine bn ?_ _ | refine bd ?_ | refine ba ?_ _)); refine blk_far ?_ NB259_284.out _; (with_reducible repeat (first | refine bn ?_ _ | refine bd ?_ | refine ba ?_ _)); refine blk_far ?_ NB259_284.out _; (with_reducible repeat (first | refine bn ?_ _ | refine bd ?_ | refine ba ?_ _)); refine blk_far ?_ NB259_284.out _; (with_reducible repeat (first | refine bn ?_ _ | refine bd ?_ | refine ba ?_ _)); exact BK259.out) hb); have n9_ := am (bb (g := gb276) (o := .cells #[.slice Ao21 t268.length co21, .slice Ao24 t271.length co24, .int .i64 t274] 26 (0, 0)) (by (with_reducible repeat (first | refine bn ?_ _ | refine bd ?_ | refine ba ?_ _)); refine blk_far ?_ NB276_284.out _; (with_reducible repeat (first | refine bn ?_ _ | refine bd ?_ | refine ba ?_ _)); refine blk_far ?_ NB276_284.out _; (with_reducible repeat (first | refine bn ?_ _ | refine bd ?_ | refine ba ?_ _)); refine blk_far ?_ NB276_284.out _; (with_reducible repeat (first | refine bn ?_ _ | refine bd ?_ | refine ba ?_ _)); exact BK276.out) hb); have n10_ := am (bb (g := gb284) (o := .cells #[.slice Ao28 t277.length co28, .slice Ao32 t280.length co32, .int .i64 t283] 26 (0, 0)) (by (with_reducible repeat (first | refine bn ?_ _ | refine bd ?_ | refine ba ?_ _)); refine blk_put (cs := #[.slice Ao28 t277.length co28, .slice Ao32 t280.length co32, .int .i64 0]) ?_ 2 _ rfl; (with_reducible repeat (first | refine bn ?_ _ | refine bd ?_ | refine ba ?_ _)); refine blk_put (cs := #[.slice Ao28 t277.length co28, .slice none 0 0, .int .i64 0]) ?_ 1 _ rfl; (with_reducible repeat (first | refine bn ?_ _ | refine bd ?_ | refine ba ?_ _)); refine blk_put (cs := #[.slice none 0 0, .slice none 0 0, .int .i64 0]) ?_ 0 _ rfl; (with_reducible repeat (first | refine bn ?_ _ | refine bd ?_ | refine ba ?_ _)); exact BK284.out) hb); have n11_ := am (bs (by repeat (first | (with_reducible first | exact HB.out | apply wa | apply wn | apply wd | refine ws ?_ GE259.out | refine ws ?_ GE276.out | refine ws ?_ GE284.out) | exact HB.out)) hb); clear HO263; clear HO266; clear HO270; clear HO273; clear HO279; clear HO282; clear BK259; clear BK276; clear BK284; clear HB; have HO263 := n0_; have HO266 := n1_; have HO270 := n2_; have HO273 := n3_; have HO279 := n4_; have HO282 := n5_; have HO287 := n6_; have HO290 := n7_; have BK259 := n8_; have BK276 := n9_; have BK284 := n10_; have HB := n11_; clear n0_ n1_ n2_ n3_ n4_ n5_ n6_ n7_ n8_ n9_ n10_ n11_; (try clear hb); (try clear hb2); (try clear hk); (try clear hi); (try clear ho0); (try clear ho1)) | ((with_reducible refine gate_dst (N := 7) rfl ?_); refine box_event ?hg (N := 7) ?hd (cs := #[.slice none 0 0, .slice none 0 0, .int .i64 0]) (t := 26) ?hr ?_; (case hd => rfl); (case hg => rfl); (case hr => first | (go_simp; done) | (go_simp; rfl)); intro gb293 hg w34 hbox hb; have n0_ := am (rb (by (with_reducible repeat (first | apply ra | apply rn | apply rd)); exact HO263.out) hb); have n1_ := am (rb (by (with_reducible repeat (first | apply ra | apply rn | apply rd)); exact HO266.out) hb); have n2_ := am (rb (by (with_reducible repeat (first | apply ra | apply rn | apply rd)); exact HO270.out) hb); have n3_ := am (rb (by (with_reducible repeat (first | apply ra | apply rn | apply rd)); exact HO273.out) hb); have n4_ := am (rb (by (with_reducible repeat (first | apply ra | apply rn | apply rd)); exact HO279.out) hb); have n5_ := am (rb (by (with_reducible repeat (first | apply ra | apply rn | apply rd)); exact HO282.out) hb); have n6_ := am (rb (by (with_reducible repeat (first | apply ra | apply rn | apply rd)); exact HO287.out) hb); have n7_ := am (rb (by (with_reducible repeat (first | apply ra | apply rn | apply rd)); exact HO290.out) hb); have n8_ := am (bb (g := gb259) (o := .cells #[.slice A0_0 l0_0.length c0_0, .slice A0_1 l0_1.length c0_1, .int .i64 a0_2] 42 (0, 0)) (by (with_reducible repeat (first | refine bn ?_ _ | refine bd ?_ | refine ba ?_ _)); exact BK259.out) hb); have n9_ := am (bb (g := gb276) (o := .cells #[.slice Ao21 t268.length co21, .slice Ao24 t271.length co24, .int .i64 t274] 26 (0, 0)) (by (with_reducible repeat (first | refine bn ?_ _ | refine bd ?_ | refine ba ?_ _)); exact BK276.out) hb); have n10_ := am (bb (g := gb284) (o := .cells #[.slice Ao28 t277.length co28, .slice Ao32 t280.length co32, .int .i64 t283] 26 (0, 0)) (by (with_reducible repeat (first | refine bn ?_ _ | refine bd ?_ | refine ba ?_ _)); exact BK284.out) hb); have n11_ := am (bs (by repeat (first | (with_reducible first | exact HB.out | apply wa | apply wn | apply wd | refine ws ?_ GE259.out | refine ws ?_ GE276.out | refine ws ?_ GE284.out) | exact HB.out)) hb); have n12_ := am (hbox); have n13_ := am ((by rw [hg]; exact (below_size (by repeat (first | (with_reducible first | exact HB.out | apply wa | apply wn | apply wd | refine ws ?_ GE259.out | refine ws ?_ GE276.out | refine ws ?_ GE284.out) | exact HB.out))) : w.heap.size ≤ gb293)); have n14_ := am ((by rw [hg]; exact (below_size (by repeat (first | (with_reducible first | exact HB.out | apply wa | apply wn | apply wd | refine ws ?_ GE259.out | refine ws ?_ GE276.out | refine ws ?_ GE284.out) | exact HB.out))) : w.heap.size ≤ gb293)); have n15_ := am ((by rw [hg]; exact Nat.ne_of_lt (blk_lt (g := gb259) (o := .cells #[.slice A0_0 l0_0.length c0_0, .slice A0_1 l0_1.length c0_1, .int .i64 a0_2] 42 (0, 0)) (by (with_reducible repeat (first | refine bn ?_ _ | refine bd ?_ | refine ba ?_ _)); exact BK259.out)) : gb259 ≠ gb293)); have n16_ := am ((by rw [hg]; exact Nat.ne_of_gt (blk_lt (g := gb259) (o := .cells #[.slice A0_0 l0_0.length c0_0, .slice A0_1 l0_1.length c0_1, .int .i64 a0_2] 42 (0, 0)) (by (with_reducible repeat (first | refine bn ?_ _ | refine bd ?_ | refine ba ?_ _)); exact BK259.out)) : gb293 ≠ gb259)); have n17_ := am ((by rw [hg]; exact Nat.ne_of_lt (blk_lt (g := gb276) (o := .cells #[.slice Ao21 t268.length co21, .slice Ao24 t271.length co24, .int .i64 t274] 26 (0, 0)) (by (with_reducible repeat (first | refine bn ?_ _ | refine bd ?_ | refine ba ?_ _)); exact BK276.out)) : gb276 ≠ gb293)); have n18_ := am ((by rw [hg]; exact Nat.ne_of_gt (blk_lt (g := gb276) (o := .cells #[.slice Ao21 t268.length co21, .slice Ao24 t271.length co24, .int .i64 t274] 26 (0, 0)) (by (with_reducible repeat (first | refine bn ?_ _ | refine bd ?_ | refine ba ?_ _)); exact BK276.out)) : gb293 ≠ gb276)); have n19_ := am ((by rw [hg]; exact Nat.ne_of_lt (blk_lt (g := gb284) (o := .cells #[.slice Ao28 t277.length co28, .slice Ao32 t280.length co32, .int .i64 t283] 26 (0, 0)) (by (with_reducible repeat (first | refine bn ?_ _ | refine bd ?_ | refine ba ?_ _)); exact BK284.out)) : gb284 ≠ gb293)); have n20_ := am ((by rw [hg]; exact Nat.ne_of_gt (blk_lt (g := gb284) (o := .cells #[.slice Ao28 t277.length co28, .slice Ao32 t280.length co32, .int .i64 t283] 26 (0, 0)) (by (with_reducible repeat (first | refine bn ?_ _ | refine bd ?_ | refine ba ?_ _)); exact BK284.out)) : gb293 ≠ gb284)); clear HO263; clear HO266; clear HO270; clear HO273; clear HO279; clear HO282; clear HO287; clear HO290; clear BK259; clear BK276; clear BK284; clear HB; have HO263 := n0_; have HO266 := n1_; have HO270 := n2_; have HO273 := n3_; have HO279 := n4_; have HO282 := n5_; have HO287 := n6_; have HO290 := n7_; have BK259 := n8_; have BK276 := n9_; have BK284 := n10_; have HB := n11_; have BK293 := n12_; have GW293 := n13_; have GE293 := n14_; have NB259_293 := n15_; have NB293_259 := n16_; have NB276_293 := n17_; have NB293_276 := n18_; have NB284_293 := n19_; have NB293_284 := n20_; clear n0_ n1_ n2_ n3_ n4_ n5_ n6_ n7_ n8_ n9_ n10_ n11_ n12_ n13_ n14_ n15_ n16_ n17_ n18_ n19_ n20_; clear hb hbox hg; obtain ⟨Ao35, co35, eo35⟩ := Kd.R_slice HO287.out; subst eo35; have hnb36 := NB293_259.out; have hnc36 := NB259_293.out; have hnb37 := NB293_276.out; have hnc37 := NB276_293.out; have hnb38 := NB293_284.out; have hnc38 := NB284_293.out; have hcz39_0 : w34.cell? ⟨gb293, 0, none⟩ = some (.slice none 0 0) := (blk_cell BK293.out 0).trans rfl; have hcz39_1 : w34.cell? ⟨gb293, 1, none⟩ = some (.slice none 0 0) := (blk_cell BK293.out 1).trans rfl; have hcz39_2 : w34.cell? ⟨gb293, 2, none⟩ = some (.int .i64 0) := (blk_cell BK293.out 2).trans rfl; have hfz39_0 := blk_frozen BK293.out 0; have hfz39_1 := blk_frozen BK293.out 1; have hfz39_2 := blk_frozen BK293.out 2; obtain ⟨Ao40, co40, eo40⟩ := Kd.R_slice HO290.out; subst eo40))
  (try simp only [Act.put, List.setIfInBounds_toArray, List.set_cons_zero, List.set_cons_succ])
  go_cut [40] (fun v40 wc => ∃ (kq : Nat) (x40_10 : Bool), v40 = .bool x40_10 ∧ Aside0 (laws_FnExactGrowTable.j0 kq t275 t292 x40_10 l0_0 l0_1 a0_2 t268 t271 t274 t277 t280 t283 t285 t288 t291 = some r) ∧ Aside0 (kq ≤ k) ∧ Aside0 (Kd.R k57 57 wc w.heap.size (fun k_ => some k_ ≠ ((.slice Ao24 t271.length co24) : Value).ownBlock ∧ some k_ ≠ ((.slice Ao28 t277.length co28) : Value).ownBlock ∧ some k_ ≠ ((.slice Ao32 t280.length co32) : Value).ownBlock ∧ some k_ ≠ ((.slice Ao35 t285.length co35) : Value).ownBlock ∧ some k_ ≠ ((.slice Ao40 t288.length co40) : Value).ownBlock) (.slice Ao21 t268.length co21) t268) ∧ Aside0 (Kd.R k57 57 wc w.heap.size (fun k_ => some k_ ≠ ((.slice Ao21 t268.length co21) : Value).ownBlock ∧ some k_ ≠ ((.slice Ao28 t277.length co28) : Value).ownBlock ∧ some k_ ≠ ((.slice Ao32 t280.length co32) : Value).ownBlock ∧ some k_ ≠ ((.slice Ao35 t285.length co35) : Value).ownBlock ∧ some k_ ≠ ((.slice Ao40 t288.length co40) : Value).ownBlock) (.slice Ao24 t271.length co24) t271) ∧ Aside0 (Kd.R k57 57 wc w.heap.size (fun k_ => some k_ ≠ ((.slice Ao21 t268.length co21) : Value).ownBlock ∧ some k_ ≠ ((.slice Ao24 t271.length co24) : Value).ownBlock ∧ some k_ ≠ ((.slice Ao32 t280.length co32) : Value).ownBlock ∧ some k_ ≠ ((.slice Ao35 t285.length co35) : Value).ownBlock ∧ some k_ ≠ ((.slice Ao40 t288.length co40) : Value).ownBlock) (.slice Ao28 t277.length co28) t277) ∧ Aside0 (Kd.R k57 57 wc w.heap.size (fun k_ => some k_ ≠ ((.slice Ao21 t268.length co21) : Value).ownBlock ∧ some k_ ≠ ((.slice Ao24 t271.length co24) : Value).ownBlock ∧ some k_ ≠ ((.slice Ao28 t277.length co28) : Value).ownBlock ∧ some k_ ≠ ((.slice Ao35 t285.length co35) : Value).ownBlock ∧ some k_ ≠ ((.slice Ao40 t288.length co40) : Value).ownBlock) (.slice Ao32 t280.length co32) t280) ∧ Aside0 (Kd.R k57 57 wc w.heap.size (fun k_ => some k_ ≠ ((.slice Ao21 t268.length co21) : Value).ownBlock ∧ some k_ ≠ ((.slice Ao24 t271.length co24) : Value).ownBlock ∧ some k_ ≠ ((.slice Ao28 t277.length co28) : Value).ownBlock ∧ some k_ ≠ ((.slice Ao32 t280.length co32) : Value).ownBlock ∧ some k_ ≠ ((.slice Ao40 t288.length co40) : Value).ownBlock) (.slice Ao35 t285.length co35) t285) ∧ Aside0 (Kd.R k57 57 wc w.heap.size (fun k_ => some k_ ≠ ((.slice Ao21 t268.length co21) : Value).ownBlock ∧ some k_ ≠ ((.slice Ao24 t271.length co24) : Value).ownBlock ∧ some k_ ≠ ((.slice Ao28 t277.length co28) : Value).ownBlock ∧ some k_ ≠ ((.slice Ao32 t280.length co32) : Value).ownBlock ∧ some k_ ≠ ((.slice Ao35 t285.length co35) : Value).ownBlock) (.slice Ao40 t288.length co40) t288) ∧ Aside0 (wc.heap[gb259]? = some (.cells #[(.slice A0_0 l0_0.length c0_0), (.slice A0_1 l0_1.length c0_1), .int .i64 a0_2] 42 (0, 0))) ∧ Aside0 (wc.heap[gb276]? = some (.cells #[(.slice Ao21 t268.length co21), (.slice Ao24 t271.length co24), .int .i64 t274] 26 (0, 0))) ∧ Aside0 (wc.heap[gb284]? = some (.cells #[(.slice Ao28 t277.length co28), (.slice Ao32 t280.length co32), .int .i64 t283] 26 (0, 0))) ∧ Aside0 (wc.heap[gb293]? = some (.cells #[(.slice Ao35 t285.length co35), (.slice Ao40 t288.length co40), .int .i64 t291] 26 (0, 0))) ∧ Aside0 (Below w.heap.size w wc))
  case first =>
   have H := HC11.out
   clear HC11
   replace H := Option.bind_eq_some_iff.mp H
   obtain ⟨t294, A410, H⟩ := H
   replace H : (if t294 = true then (laws_FnExactGrowTable.j0 k t275 t292 (t292 != t275) l0_0 l0_1 a0_2 t268 t271 t274 t277 t280 t283 t285 t288 t291) else (laws_FnExactGrowTable.j0 k t275 t292 true l0_0 l0_1 a0_2 t268 t271 t274 t277 t280 t283 t285 t288 t291)) = some r := H
   have A41 := am A410
   clear A410
   by_cases c42 : t294 = true
   ·subst c42
    have H1 : (laws_FnExactGrowTable.j0 k t275 t292 (t292 != t275) l0_0 l0_1 a0_2 t268 t271 t274 t277 t280 t283 t285 t288 t291) = some r := by rw [if_pos rfl] at H; exact H
    clear H
    have H := H1
    clear H1
    have H' := am H
    clear H
    have hnb43 := NB293_259.out
    have hnc43 := NB259_293.out
    have hnb44 := NB293_276.out
    have hnc44 := NB276_293.out
    have hnb45 := NB293_284.out
    have hnc45 := NB284_293.out
    have hcz46_0 : w34.cell? ⟨gb293, 0, none⟩ = some (.slice none 0 0) := (blk_cell BK293.out 0).trans rfl
    have hcz46_1 : w34.cell? ⟨gb293, 1, none⟩ = some (.slice none 0 0) := (blk_cell BK293.out 1).trans rfl
    have hcz46_2 : w34.cell? ⟨gb293, 2, none⟩ = some (.int .i64 0) := (blk_cell BK293.out 2).trans rfl
    have hfz46_0 := blk_frozen BK293.out 0
    have hfz46_1 := blk_frozen BK293.out 1
    have hfz46_2 := blk_frozen BK293.out 2
    have hnb47 := NB276_259.out
    have hnc47 := NB259_276.out
    have hnb48 := NB276_284.out
    have hnc48 := NB284_276.out
    have hcz49_0 : w34.cell? ⟨gb276, 0, none⟩ = some (.slice Ao21 t268.length co21) := (blk_cell BK276.out 0).trans rfl
    have hcz49_1 : w34.cell? ⟨gb276, 1, none⟩ = some (.slice Ao24 t271.length co24) := (blk_cell BK276.out 1).trans rfl
    have hcz49_2 : w34.cell? ⟨gb276, 2, none⟩ = some (.int .i64 t274) := (blk_cell BK276.out 2).trans rfl
    have hfz49_0 := blk_frozen BK276.out 0
    have hfz49_1 := blk_frozen BK276.out 1
    have hfz49_2 := blk_frozen BK276.out 2
    go_wp2_with (first | ((with_reducible refine gate_callee (f := 27) rfl ?_); refine goesL_ (some 34) rfl rfl Try.func27 (by kernel_rfl) rfl #[.agg #[.slice Ao35 t285.length co35, .slice Ao40 t288.length co40, .int .i64 t291], .agg #[.slice Ao21 t268.length co21, .slice Ao24 t271.length co24, .int .i64 t274]] rfl (by (try simp only [List.map_toArray, List.map_cons, List.map_nil]); first | done | rfl | (simp only [List.length_drop, List.length_take]; rfl)) ?_; (with_reducible refine (laws_eqTable.calls k _ _ t285 _ _ t288 t291 _ _ t268 _ _ t271 t274 true _ ?side1 ?side2 ?side3 ?side4 ?side5 ?side6 ?side7 ?side8 A41.out).mono ?_); (case side1 => refine (rr (e := 57) (base := w.heap.size) (ok := fun k_ => ((((((some k_ ≠ (.slice Ao40 t288.length co40 : Value).ownBlock ∧ some k_ ≠ (.slice Ao17 t261.length co17 : Value).ownBlock) ∧ some k_ ≠ (.slice Ao18 t264.length co18 : Value).ownBlock) ∧ some k_ ≠ (.slice Ao21 t268.length co21 : Value).ownBlock) ∧ some k_ ≠ (.slice Ao24 t271.length co24 : Value).ownBlock) ∧ some k_ ≠ (.slice Ao28 t277.length co28 : Value).ownBlock) ∧ some k_ ≠ (.slice Ao32 t280.length co32 : Value).ownBlock)) (n := t285.length) (c := co35) ?_).2.2; exact (by (with_reducible repeat (first | apply ra | apply rn | apply rd)); exact (rm (Kd.R_far (p := ⟨gb293, 2, none⟩) (Kd.R_far (p := ⟨gb293, 1, none⟩) (Kd.R_far (p := ⟨gb293, 0, none⟩) (Kd.R_types HO287.out BK293.out (by decide)) (fun _ hk => by simp [hk]) (.slice Ao35 t285.length co35)) (fun _ hk => by simp [hk]) (.slice Ao40 t288.length co40)) (fun _ hk => by simp [hk]) (.int .i64 t291)) (fun _ h_ => h_.1)))); (case side2 => exact (rr HO287.out).2.1); (case side3 => refine (rr (e := 57) (base := w.heap.size) (ok := fun k_ => ((((((some k_ ≠ (.slice Ao35 t285.length co35 : Value).ownBlock ∧ some k_ ≠ (.slice Ao17 t261.length co17 : Value).ownBlock) ∧ some k_ ≠ (.slice Ao18 t264.length co18 : Value).ownBlock) ∧ some k_ ≠ (.slice Ao21 t268.length co21 : Value).ownBlock) ∧ some k_ ≠ (.slice Ao24 t271.length co24 : Value).ownBlock) ∧ some k_ ≠ (.slice Ao28 t277.length co28 : Value).ownBlock) ∧ some k_ ≠ (.slice Ao32 t280.length co32 : Value).ownBlock)) (n := t288.length) (c := co40) ?_).2.2; exact (by (with_reducible repeat (first | apply ra | apply rn | apply rd)); exact (rm (Kd.R_far (p := ⟨gb293, 2, none⟩) (Kd.R_far (p := ⟨gb293, 1, none⟩) (Kd.R_far (p := ⟨gb293, 0, none⟩) (Kd.R_types HO290.out BK293.out (by decide)) (fun _ hk => by simp [hk]) (.slice Ao35 t285.length co35)) (fun _ hk => by simp [hk]) (.slice Ao40 t288.length co40)) (fun _ hk => by simp [hk]) (.int .i64 t291)) (fun _ h_ => h_.1)))); (case side4 => exact (rr HO290.out).2.1); (case side5 => refine (rr (e := 57) (base := w.heap.size) (ok := fun k_ => ((((((some k_ ≠ (.slice Ao24 t271.length co24 : Value).ownBlock ∧ some k_ ≠ (.slice Ao17 t261.length co17 : Value).ownBlock) ∧ some k_ ≠ (.slice Ao18 t264.length co18 : Value).ownBlock) ∧ some k_ ≠ (.slice Ao28 t277.length co28 : Value).ownBlock) ∧ some k_ ≠ (.slice Ao32 t280.length co32 : Value).ownBlock) ∧ some k_ ≠ (.slice Ao35 t285.length co35 : Value).ownBlock) ∧ some k_ ≠ (.slice Ao40 t288.length co40 : Value).ownBlock)) (n := t268.length) (c := co21) ?_).2.2; exact (by (with_reducible repeat (first | apply ra | apply rn | apply rd)); exact (rm (Kd.R_far (p := ⟨gb293, 2, none⟩) (Kd.R_far (p := ⟨gb293, 1, none⟩) (Kd.R_far (p := ⟨gb293, 0, none⟩) (Kd.R_types HO270.out BK293.out (by decide)) (fun _ hk => by simp [hk]) (.slice Ao35 t285.length co35)) (fun _ hk => by simp [hk]) (.slice Ao40 t288.length co40)) (fun _ hk => by simp [hk]) (.int .i64 t291)) (fun _ h_ => h_.1)))); (case side6 => exact (rr HO270.out).2.1); (case side7 => refine (rr (e := 57) (base := w.heap.size) (ok := fun k_ => ((((((some k_ ≠ (.slice Ao21 t268.length co21 : Value).ownBlock ∧ some k_ ≠ (.slice Ao17 t261.length co17 : Value).ownBlock) ∧ some k_ ≠ (.slice Ao18 t264.length co18 : Value).ownBlock) ∧ some k_ ≠ (.slice Ao28 t277.length co28 : Value).ownBlock) ∧ some k_ ≠ (.slice Ao32 t280.length co32 : Value).ownBlock) ∧ some k_ ≠ (.slice Ao35 t285.length co35 : Value).ownBlock) ∧ some k_ ≠ (.slice Ao40 t288.length co40 : Value).ownBlock)) (n := t271.length) (c := co24) ?_).2.2; exact (by (with_reducible repeat (first | apply ra | apply rn | apply rd)); exact (rm (Kd.R_far (p := ⟨gb293, 2, none⟩) (Kd.R_far (p := ⟨gb293, 1, none⟩) (Kd.R_far (p := ⟨gb293, 0, none⟩) (Kd.R_types HO273.out BK293.out (by decide)) (fun _ hk => by simp [hk]) (.slice Ao35 t285.length co35)) (fun _ hk => by simp [hk]) (.slice Ao40 t288.length co40)) (fun _ hk => by simp [hk]) (.int .i64 t291)) (fun _ h_ => h_.1)))); (case side8 => exact (rr HO273.out).2.1); rintro e w50 ⟨rfl, hb⟩; refine ⟨_, rfl, ?_⟩; have n0_ := am (rb (by (with_reducible repeat (first | apply ra | apply rn | apply rd)); exact (rm (Kd.R_far (p := ⟨gb293, 2, none⟩) (Kd.R_far (p := ⟨gb293, 1, none⟩) (Kd.R_far (p := ⟨gb293, 0, none⟩) (Kd.R_types HO263.out BK293.out (by decide)) (fun _ hk => by simp [hk]) (.slice Ao35 t285.length co35)) (fun _ hk => by simp [hk]) (.slice Ao40 t288.length co40)) (fun _ hk => by simp [hk]) (.int .i64 t291)) (fun _ h_ => h_.1))) hb); have n1_ := am (rb (by (with_reducible repeat (first | apply ra | apply rn | apply rd)); exact (rm (Kd.R_far (p := ⟨gb293, 2, none⟩) (Kd.R_far (p := ⟨gb293, 1, none⟩) (Kd.R_far (p := ⟨gb293, 0, none⟩) (Kd.R_types HO266.out BK293.out (by decide)) (fun _ hk => by simp [hk]) (.slice Ao35 t285.length co35)) (fun _ hk => by simp [hk]) (.slice Ao40 t288.length co40)) (fun _ hk => by simp [hk]) (.int .i64 t291)) (fun _ h_ => h_.1))) hb); have n2_ := am (rb (by (with_reducible repeat (first | apply ra | apply rn | apply rd)); exact (rm (Kd.R_far (p := ⟨gb293, 2, none⟩) (Kd.R_far (p := ⟨gb293, 1, none⟩) (Kd.R_far (p := ⟨gb293, 0, none⟩) (Kd.R_types HO270.out BK293.out (by decide)) (fun _ hk => by simp [hk]) (.slice Ao35 t285.length co35)) (fun _ hk => by simp [hk]) (.slice Ao40 t288.length co40)) (fun _ hk => by simp [hk]) (.int .i64 t291)) (fun _ h_ => h_.1))) hb); have n3_ := am (rb (by (with_reducible repeat (first | apply ra | apply rn | apply rd)); exact (rm (Kd.R_far (p := ⟨gb293, 2, none⟩) (Kd.R_far (p := ⟨gb293, 1, none⟩) (Kd.R_far (p := ⟨gb293, 0, none⟩) (Kd.R_types HO273.out BK293.out (by decide)) (fun _ hk => by simp [hk]) (.slice Ao35 t285.length co35)) (fun _ hk => by simp [hk]) (.slice Ao40 t288.length co40)) (fun _ hk => by simp [hk]) (.int .i64 t291)) (fun _ h_ => h_.1))) hb); have n4_ := am (rb (by (with_reducible repeat (first | apply ra | apply rn | apply rd)); exact (rm (Kd.R_far (p := ⟨gb293, 2, none⟩) (Kd.R_far (p := ⟨gb293, 1, none⟩) (Kd.R_far (p := ⟨gb293, 0, none⟩) (Kd.R_types HO279.out BK293.out (by decide)) (fun _ hk => by simp [hk]) (.slice Ao35 t285.length co35)) (fun _ hk => by simp [hk]) (.slice Ao40 t288.length co40)) (fun _ hk => by simp [hk]) (.int .i64 t291)) (fun _ h_ => h_.1))) hb); have n5_ := am (rb (by (with_reducible repeat (first | apply ra | apply rn | apply rd)); exact (rm (Kd.R_far (p := ⟨gb293, 2, none⟩) (Kd.R_far (p := ⟨gb293, 1, none⟩) (Kd.R_far (p := ⟨gb293, 0, none⟩) (Kd.R_types HO282.out BK293.out (by decide)) (fun _ hk => by simp [hk]) (.slice Ao35 t285.length co35)) (fun _ hk => by simp [hk]) (.slice Ao40 t288.length co40)) (fun _ hk => by simp [hk]) (.int .i64 t291)) (fun _ h_ => h_.1))) hb); have n6_ := am (rb (by (with_reducible repeat (first | apply ra | apply rn | apply rd)); exact (rm (Kd.R_far (p := ⟨gb293, 2, none⟩) (Kd.R_far (p := ⟨gb293, 1, none⟩) (Kd.R_far (p := ⟨gb293, 0, none⟩) (Kd.R_types HO287.out BK293.out (by decide)) (fun _ hk => by simp [hk]) (.slice Ao35 t285.length co35)) (fun _ hk => by simp [hk]) (.slice Ao40 t288.length co40)) (fun _ hk => by simp [hk]) (.int .i64 t291)) (fun _ h_ => h_.1))) hb); have n7_ := am (rb (by (with_reducible repeat (first | apply ra | apply rn | apply rd)); exact (rm (Kd.R_far (p := ⟨gb293, 2, none⟩) (Kd.R_far (p := ⟨gb293, 1, none⟩) (Kd.R_far (p := ⟨gb293, 0, none⟩) (Kd.R_types HO290.out BK293.out (by decide)) (fun _ hk => by simp [hk]) (.slice Ao35 t285.length co35)) (fun _ hk => by simp [hk]) (.slice Ao40 t288.length co40)) (fun _ hk => by simp [hk]) (.int .i64 t291)) (fun _ h_ => h_.1))) hb); have n8_ := am (bb (g := gb259) (o := .cells #[.slice A0_0 l0_0.length c0_0, .slice A0_1 l0_1.length c0_1, .int .i64 a0_2] 42 (0, 0)) (by (with_reducible repeat (first | refine bn ?_ _ | refine bd ?_ | refine ba ?_ _)); refine blk_far ?_ NB259_293.out _; (with_reducible repeat (first | refine bn ?_ _ | refine bd ?_ | refine ba ?_ _)); refine blk_far ?_ NB259_293.out _; (with_reducible repeat (first | refine bn ?_ _ | refine bd ?_ | refine ba ?_ _)); refine blk_far ?_ NB259_293.out _; (with_reducible repeat (first | refine bn ?_ _ | refine bd ?_ | refine ba ?_ _)); exact BK259.out) hb); have n9_ := am (bb (g := gb276) (o := .cells #[.slice Ao21 t268.length co21, .slice Ao24 t271.length co24, .int .i64 t274] 26 (0, 0)) (by (with_reducible repeat (first | refine bn ?_ _ | refine bd ?_ | refine ba ?_ _)); refine blk_far ?_ NB276_293.out _; (with_reducible repeat (first | refine bn ?_ _ | refine bd ?_ | refine ba ?_ _)); refine blk_far ?_ NB276_293.out _; (with_reducible repeat (first | refine bn ?_ _ | refine bd ?_ | refine ba ?_ _)); refine blk_far ?_ NB276_293.out _; (with_reducible repeat (first | refine bn ?_ _ | refine bd ?_ | refine ba ?_ _)); exact BK276.out) hb); have n10_ := am (bb (g := gb284) (o := .cells #[.slice Ao28 t277.length co28, .slice Ao32 t280.length co32, .int .i64 t283] 26 (0, 0)) (by (with_reducible repeat (first | refine bn ?_ _ | refine bd ?_ | refine ba ?_ _)); refine blk_far ?_ NB284_293.out _; (with_reducible repeat (first | refine bn ?_ _ | refine bd ?_ | refine ba ?_ _)); refine blk_far ?_ NB284_293.out _; (with_reducible repeat (first | refine bn ?_ _ | refine bd ?_ | refine ba ?_ _)); refine blk_far ?_ NB284_293.out _; (with_reducible repeat (first | refine bn ?_ _ | refine bd ?_ | refine ba ?_ _)); exact BK284.out) hb); have n11_ := am (bb (g := gb293) (o := .cells #[.slice Ao35 t285.length co35, .slice Ao40 t288.length co40, .int .i64 t291] 26 (0, 0)) (by (with_reducible repeat (first | refine bn ?_ _ | refine bd ?_ | refine ba ?_ _)); refine blk_put (cs := #[.slice Ao35 t285.length co35, .slice Ao40 t288.length co40, .int .i64 0]) ?_ 2 _ rfl; (with_reducible repeat (first | refine bn ?_ _ | refine bd ?_ | refine ba ?_ _)); refine blk_put (cs := #[.slice Ao35 t285.length co35, .slice none 0 0, .int .i64 0]) ?_ 1 _ rfl; (with_reducible repeat (first | refine bn ?_ _ | refine bd ?_ | refine ba ?_ _)); refine blk_put (cs := #[.slice none 0 0, .slice none 0 0, .int .i64 0]) ?_ 0 _ rfl; (with_reducible repeat (first | refine bn ?_ _ | refine bd ?_ | refine ba ?_ _)); exact BK293.out) hb); have n12_ := am (bs (by repeat (first | (with_reducible first | exact HB.out | apply wa | apply wn | apply wd | refine ws ?_ GE259.out | refine ws ?_ GE276.out | refine ws ?_ GE284.out | refine ws ?_ GE293.out) | exact HB.out)) hb); clear HO263; clear HO266; clear HO270; clear HO273; clear HO279; clear HO282; clear HO287; clear HO290; clear BK259; clear BK276; clear BK284; clear BK293; clear HB; have HO263 := n0_; have HO266 := n1_; have HO270 := n2_; have HO273 := n3_; have HO279 := n4_; have HO282 := n5_; have HO287 := n6_; have HO290 := n7_; have BK259 := n8_; have BK276 := n9_; have BK284 := n10_; have BK293 := n11_; have HB := n12_; clear n0_ n1_ n2_ n3_ n4_ n5_ n6_ n7_ n8_ n9_ n10_ n11_ n12_; (try clear hb); (try clear hb2); (try clear hk); (try clear hi)))
    go_meet
    case rel => exact ⟨_, ((t292 != t275)), (by first | rfl | (simp; done) | (simp [*]; done) | (simp; generalize ByteArray.toList _ = z; cases z <;> rfl)), H', ⟨by first | omega | exact Nat.le_refl _⟩, ⟨by (with_reducible repeat (first | apply ra | apply rn | apply rd)); exact rm HO270.out (fun _ hk => by simp [hk])⟩, ⟨by (with_reducible repeat (first | apply ra | apply rn | apply rd)); exact rm HO273.out (fun _ hk => by simp [hk])⟩, ⟨by (with_reducible repeat (first | apply ra | apply rn | apply rd)); exact rm HO279.out (fun _ hk => by simp [hk])⟩, ⟨by (with_reducible repeat (first | apply ra | apply rn | apply rd)); exact rm HO282.out (fun _ hk => by simp [hk])⟩, ⟨by (with_reducible repeat (first | apply ra | apply rn | apply rd)); exact rm HO287.out (fun _ hk => by simp [hk])⟩, ⟨by (with_reducible repeat (first | apply ra | apply rn | apply rd)); exact rm HO290.out (fun _ hk => by simp [hk])⟩, ⟨by (with_reducible repeat (first | refine bn ?_ _ | refine bd ?_ | refine ba ?_ _)); exact BK259.out⟩, ⟨by (with_reducible repeat (first | refine bn ?_ _ | refine bd ?_ | refine ba ?_ _)); exact BK276.out⟩, ⟨by (with_reducible repeat (first | refine bn ?_ _ | refine bd ?_ | refine ba ?_ _)); exact BK284.out⟩, ⟨by (with_reducible repeat (first | refine bn ?_ _ | refine bd ?_ | refine ba ?_ _)); exact BK293.out⟩, ⟨by repeat (first | (with_reducible first | exact HB.out | apply wa | apply wn | apply wd | refine ws ?_ GE259.out | refine ws ?_ GE276.out | refine ws ?_ GE284.out | refine ws ?_ GE293.out) | exact HB.out)⟩⟩
   ·replace c42 := Bool.eq_false_iff.mpr c42
    subst c42
    have H1 : (laws_FnExactGrowTable.j0 k t275 t292 true l0_0 l0_1 a0_2 t268 t271 t274 t277 t280 t283 t285 t288 t291) = some r := by rw [if_neg (show ¬ (false = true) by decide)] at H; exact H
    clear H
    have H := H1
    clear H1
    have H' := am H
    clear H
    have hnb51 := NB293_259.out
    have hnc51 := NB259_293.out
    have hnb52 := NB293_276.out
    have hnc52 := NB276_293.out
    have hnb53 := NB293_284.out
    have hnc53 := NB284_293.out
    have hcz54_0 : w34.cell? ⟨gb293, 0, none⟩ = some (.slice none 0 0) := (blk_cell BK293.out 0).trans rfl
    have hcz54_1 : w34.cell? ⟨gb293, 1, none⟩ = some (.slice none 0 0) := (blk_cell BK293.out 1).trans rfl
    have hcz54_2 : w34.cell? ⟨gb293, 2, none⟩ = some (.int .i64 0) := (blk_cell BK293.out 2).trans rfl
    have hfz54_0 := blk_frozen BK293.out 0
    have hfz54_1 := blk_frozen BK293.out 1
    have hfz54_2 := blk_frozen BK293.out 2
    have hnb55 := NB276_259.out
    have hnc55 := NB259_276.out
    have hnb56 := NB276_284.out
    have hnc56 := NB284_276.out
    have hcz57_0 : w34.cell? ⟨gb276, 0, none⟩ = some (.slice Ao21 t268.length co21) := (blk_cell BK276.out 0).trans rfl
    have hcz57_1 : w34.cell? ⟨gb276, 1, none⟩ = some (.slice Ao24 t271.length co24) := (blk_cell BK276.out 1).trans rfl
    have hcz57_2 : w34.cell? ⟨gb276, 2, none⟩ = some (.int .i64 t274) := (blk_cell BK276.out 2).trans rfl
    have hfz57_0 := blk_frozen BK276.out 0
    have hfz57_1 := blk_frozen BK276.out 1
    have hfz57_2 := blk_frozen BK276.out 2
    go_wp2_with (first | ((with_reducible refine gate_callee (f := 27) rfl ?_); refine goesL_ (some 34) rfl rfl Try.func27 (by kernel_rfl) rfl #[.agg #[.slice Ao35 t285.length co35, .slice Ao40 t288.length co40, .int .i64 t291], .agg #[.slice Ao21 t268.length co21, .slice Ao24 t271.length co24, .int .i64 t274]] rfl (by (try simp only [List.map_toArray, List.map_cons, List.map_nil]); first | done | rfl | (simp only [List.length_drop, List.length_take]; rfl)) ?_; (with_reducible refine (laws_eqTable.calls k _ _ t285 _ _ t288 t291 _ _ t268 _ _ t271 t274 false _ ?side1 ?side2 ?side3 ?side4 ?side5 ?side6 ?side7 ?side8 A41.out).mono ?_); (case side1 => refine (rr (e := 57) (base := w.heap.size) (ok := fun k_ => ((((((some k_ ≠ (.slice Ao40 t288.length co40 : Value).ownBlock ∧ some k_ ≠ (.slice Ao17 t261.length co17 : Value).ownBlock) ∧ some k_ ≠ (.slice Ao18 t264.length co18 : Value).ownBlock) ∧ some k_ ≠ (.slice Ao21 t268.length co21 : Value).ownBlock) ∧ some k_ ≠ (.slice Ao24 t271.length co24 : Value).ownBlock) ∧ some k_ ≠ (.slice Ao28 t277.length co28 : Value).ownBlock) ∧ some k_ ≠ (.slice Ao32 t280.length co32 : Value).ownBlock)) (n := t285.length) (c := co35) ?_).2.2; exact (by (with_reducible repeat (first | apply ra | apply rn | apply rd)); exact (rm (Kd.R_far (p := ⟨gb293, 2, none⟩) (Kd.R_far (p := ⟨gb293, 1, none⟩) (Kd.R_far (p := ⟨gb293, 0, none⟩) (Kd.R_types HO287.out BK293.out (by decide)) (fun _ hk => by simp [hk]) (.slice Ao35 t285.length co35)) (fun _ hk => by simp [hk]) (.slice Ao40 t288.length co40)) (fun _ hk => by simp [hk]) (.int .i64 t291)) (fun _ h_ => h_.1)))); (case side2 => exact (rr HO287.out).2.1); (case side3 => refine (rr (e := 57) (base := w.heap.size) (ok := fun k_ => ((((((some k_ ≠ (.slice Ao35 t285.length co35 : Value).ownBlock ∧ some k_ ≠ (.slice Ao17 t261.length co17 : Value).ownBlock) ∧ some k_ ≠ (.slice Ao18 t264.length co18 : Value).ownBlock) ∧ some k_ ≠ (.slice Ao21 t268.length co21 : Value).ownBlock) ∧ some k_ ≠ (.slice Ao24 t271.length co24 : Value).ownBlock) ∧ some k_ ≠ (.slice Ao28 t277.length co28 : Value).ownBlock) ∧ some k_ ≠ (.slice Ao32 t280.length co32 : Value).ownBlock)) (n := t288.length) (c := co40) ?_).2.2; exact (by (with_reducible repeat (first | apply ra | apply rn | apply rd)); exact (rm (Kd.R_far (p := ⟨gb293, 2, none⟩) (Kd.R_far (p := ⟨gb293, 1, none⟩) (Kd.R_far (p := ⟨gb293, 0, none⟩) (Kd.R_types HO290.out BK293.out (by decide)) (fun _ hk => by simp [hk]) (.slice Ao35 t285.length co35)) (fun _ hk => by simp [hk]) (.slice Ao40 t288.length co40)) (fun _ hk => by simp [hk]) (.int .i64 t291)) (fun _ h_ => h_.1)))); (case side4 => exact (rr HO290.out).2.1); (case side5 => refine (rr (e := 57) (base := w.heap.size) (ok := fun k_ => ((((((some k_ ≠ (.slice Ao24 t271.length co24 : Value).ownBlock ∧ some k_ ≠ (.slice Ao17 t261.length co17 : Value).ownBlock) ∧ some k_ ≠ (.slice Ao18 t264.length co18 : Value).ownBlock) ∧ some k_ ≠ (.slice Ao28 t277.length co28 : Value).ownBlock) ∧ some k_ ≠ (.slice Ao32 t280.length co32 : Value).ownBlock) ∧ some k_ ≠ (.slice Ao35 t285.length co35 : Value).ownBlock) ∧ some k_ ≠ (.slice Ao40 t288.length co40 : Value).ownBlock)) (n := t268.length) (c := co21) ?_).2.2; exact (by (with_reducible repeat (first | apply ra | apply rn | apply rd)); exact (rm (Kd.R_far (p := ⟨gb293, 2, none⟩) (Kd.R_far (p := ⟨gb293, 1, none⟩) (Kd.R_far (p := ⟨gb293, 0, none⟩) (Kd.R_types HO270.out BK293.out (by decide)) (fun _ hk => by simp [hk]) (.slice Ao35 t285.length co35)) (fun _ hk => by simp [hk]) (.slice Ao40 t288.length co40)) (fun _ hk => by simp [hk]) (.int .i64 t291)) (fun _ h_ => h_.1)))); (case side6 => exact (rr HO270.out).2.1); (case side7 => refine (rr (e := 57) (base := w.heap.size) (ok := fun k_ => ((((((some k_ ≠ (.slice Ao21 t268.length co21 : Value).ownBlock ∧ some k_ ≠ (.slice Ao17 t261.length co17 : Value).ownBlock) ∧ some k_ ≠ (.slice Ao18 t264.length co18 : Value).ownBlock) ∧ some k_ ≠ (.slice Ao28 t277.length co28 : Value).ownBlock) ∧ some k_ ≠ (.slice Ao32 t280.length co32 : Value).ownBlock) ∧ some k_ ≠ (.slice Ao35 t285.length co35 : Value).ownBlock) ∧ some k_ ≠ (.slice Ao40 t288.length co40 : Value).ownBlock)) (n := t271.length) (c := co24) ?_).2.2; exact (by (with_reducible repeat (first | apply ra | apply rn | apply rd)); exact (rm (Kd.R_far (p := ⟨gb293, 2, none⟩) (Kd.R_far (p := ⟨gb293, 1, none⟩) (Kd.R_far (p := ⟨gb293, 0, none⟩) (Kd.R_types HO273.out BK293.out (by decide)) (fun _ hk => by simp [hk]) (.slice Ao35 t285.length co35)) (fun _ hk => by simp [hk]) (.slice Ao40 t288.length co40)) (fun _ hk => by simp [hk]) (.int .i64 t291)) (fun _ h_ => h_.1)))); (case side8 => exact (rr HO273.out).2.1); rintro e w58 ⟨rfl, hb⟩; refine ⟨_, rfl, ?_⟩; have n0_ := am (rb (by (with_reducible repeat (first | apply ra | apply rn | apply rd)); exact (rm (Kd.R_far (p := ⟨gb293, 2, none⟩) (Kd.R_far (p := ⟨gb293, 1, none⟩) (Kd.R_far (p := ⟨gb293, 0, none⟩) (Kd.R_types HO263.out BK293.out (by decide)) (fun _ hk => by simp [hk]) (.slice Ao35 t285.length co35)) (fun _ hk => by simp [hk]) (.slice Ao40 t288.length co40)) (fun _ hk => by simp [hk]) (.int .i64 t291)) (fun _ h_ => h_.1))) hb); have n1_ := am (rb (by (with_reducible repeat (first | apply ra | apply rn | apply rd)); exact (rm (Kd.R_far (p := ⟨gb293, 2, none⟩) (Kd.R_far (p := ⟨gb293, 1, none⟩) (Kd.R_far (p := ⟨gb293, 0, none⟩) (Kd.R_types HO266.out BK293.out (by decide)) (fun _ hk => by simp [hk]) (.slice Ao35 t285.length co35)) (fun _ hk => by simp [hk]) (.slice Ao40 t288.length co40)) (fun _ hk => by simp [hk]) (.int .i64 t291)) (fun _ h_ => h_.1))) hb); have n2_ := am (rb (by (with_reducible repeat (first | apply ra | apply rn | apply rd)); exact (rm (Kd.R_far (p := ⟨gb293, 2, none⟩) (Kd.R_far (p := ⟨gb293, 1, none⟩) (Kd.R_far (p := ⟨gb293, 0, none⟩) (Kd.R_types HO270.out BK293.out (by decide)) (fun _ hk => by simp [hk]) (.slice Ao35 t285.length co35)) (fun _ hk => by simp [hk]) (.slice Ao40 t288.length co40)) (fun _ hk => by simp [hk]) (.int .i64 t291)) (fun _ h_ => h_.1))) hb); have n3_ := am (rb (by (with_reducible repeat (first | apply ra | apply rn | apply rd)); exact (rm (Kd.R_far (p := ⟨gb293, 2, none⟩) (Kd.R_far (p := ⟨gb293, 1, none⟩) (Kd.R_far (p := ⟨gb293, 0, none⟩) (Kd.R_types HO273.out BK293.out (by decide)) (fun _ hk => by simp [hk]) (.slice Ao35 t285.length co35)) (fun _ hk => by simp [hk]) (.slice Ao40 t288.length co40)) (fun _ hk => by simp [hk]) (.int .i64 t291)) (fun _ h_ => h_.1))) hb); have n4_ := am (rb (by (with_reducible repeat (first | apply ra | apply rn | apply rd)); exact (rm (Kd.R_far (p := ⟨gb293, 2, none⟩) (Kd.R_far (p := ⟨gb293, 1, none⟩) (Kd.R_far (p := ⟨gb293, 0, none⟩) (Kd.R_types HO279.out BK293.out (by decide)) (fun _ hk => by simp [hk]) (.slice Ao35 t285.length co35)) (fun _ hk => by simp [hk]) (.slice Ao40 t288.length co40)) (fun _ hk => by simp [hk]) (.int .i64 t291)) (fun _ h_ => h_.1))) hb); have n5_ := am (rb (by (with_reducible repeat (first | apply ra | apply rn | apply rd)); exact (rm (Kd.R_far (p := ⟨gb293, 2, none⟩) (Kd.R_far (p := ⟨gb293, 1, none⟩) (Kd.R_far (p := ⟨gb293, 0, none⟩) (Kd.R_types HO282.out BK293.out (by decide)) (fun _ hk => by simp [hk]) (.slice Ao35 t285.length co35)) (fun _ hk => by simp [hk]) (.slice Ao40 t288.length co40)) (fun _ hk => by simp [hk]) (.int .i64 t291)) (fun _ h_ => h_.1))) hb); have n6_ := am (rb (by (with_reducible repeat (first | apply ra | apply rn | apply rd)); exact (rm (Kd.R_far (p := ⟨gb293, 2, none⟩) (Kd.R_far (p := ⟨gb293, 1, none⟩) (Kd.R_far (p := ⟨gb293, 0, none⟩) (Kd.R_types HO287.out BK293.out (by decide)) (fun _ hk => by simp [hk]) (.slice Ao35 t285.length co35)) (fun _ hk => by simp [hk]) (.slice Ao40 t288.length co40)) (fun _ hk => by simp [hk]) (.int .i64 t291)) (fun _ h_ => h_.1))) hb); have n7_ := am (rb (by (with_reducible repeat (first | apply ra | apply rn | apply rd)); exact (rm (Kd.R_far (p := ⟨gb293, 2, none⟩) (Kd.R_far (p := ⟨gb293, 1, none⟩) (Kd.R_far (p := ⟨gb293, 0, none⟩) (Kd.R_types HO290.out BK293.out (by decide)) (fun _ hk => by simp [hk]) (.slice Ao35 t285.length co35)) (fun _ hk => by simp [hk]) (.slice Ao40 t288.length co40)) (fun _ hk => by simp [hk]) (.int .i64 t291)) (fun _ h_ => h_.1))) hb); have n8_ := am (bb (g := gb259) (o := .cells #[.slice A0_0 l0_0.length c0_0, .slice A0_1 l0_1.length c0_1, .int .i64 a0_2] 42 (0, 0)) (by (with_reducible repeat (first | refine bn ?_ _ | refine bd ?_ | refine ba ?_ _)); refine blk_far ?_ NB259_293.out _; (with_reducible repeat (first | refine bn ?_ _ | refine bd ?_ | refine ba ?_ _)); refine blk_far ?_ NB259_293.out _; (with_reducible repeat (first | refine bn ?_ _ | refine bd ?_ | refine ba ?_ _)); refine blk_far ?_ NB259_293.out _; (with_reducible repeat (first | refine bn ?_ _ | refine bd ?_ | refine ba ?_ _)); exact BK259.out) hb); have n9_ := am (bb (g := gb276) (o := .cells #[.slice Ao21 t268.length co21, .slice Ao24 t271.length co24, .int .i64 t274] 26 (0, 0)) (by (with_reducible repeat (first | refine bn ?_ _ | refine bd ?_ | refine ba ?_ _)); refine blk_far ?_ NB276_293.out _; (with_reducible repeat (first | refine bn ?_ _ | refine bd ?_ | refine ba ?_ _)); refine blk_far ?_ NB276_293.out _; (with_reducible repeat (first | refine bn ?_ _ | refine bd ?_ | refine ba ?_ _)); refine blk_far ?_ NB276_293.out _; (with_reducible repeat (first | refine bn ?_ _ | refine bd ?_ | refine ba ?_ _)); exact BK276.out) hb); have n10_ := am (bb (g := gb284) (o := .cells #[.slice Ao28 t277.length co28, .slice Ao32 t280.length co32, .int .i64 t283] 26 (0, 0)) (by (with_reducible repeat (first | refine bn ?_ _ | refine bd ?_ | refine ba ?_ _)); refine blk_far ?_ NB284_293.out _; (with_reducible repeat (first | refine bn ?_ _ | refine bd ?_ | refine ba ?_ _)); refine blk_far ?_ NB284_293.out _; (with_reducible repeat (first | refine bn ?_ _ | refine bd ?_ | refine ba ?_ _)); refine blk_far ?_ NB284_293.out _; (with_reducible repeat (first | refine bn ?_ _ | refine bd ?_ | refine ba ?_ _)); exact BK284.out) hb); have n11_ := am (bb (g := gb293) (o := .cells #[.slice Ao35 t285.length co35, .slice Ao40 t288.length co40, .int .i64 t291] 26 (0, 0)) (by (with_reducible repeat (first | refine bn ?_ _ | refine bd ?_ | refine ba ?_ _)); refine blk_put (cs := #[.slice Ao35 t285.length co35, .slice Ao40 t288.length co40, .int .i64 0]) ?_ 2 _ rfl; (with_reducible repeat (first | refine bn ?_ _ | refine bd ?_ | refine ba ?_ _)); refine blk_put (cs := #[.slice Ao35 t285.length co35, .slice none 0 0, .int .i64 0]) ?_ 1 _ rfl; (with_reducible repeat (first | refine bn ?_ _ | refine bd ?_ | refine ba ?_ _)); refine blk_put (cs := #[.slice none 0 0, .slice none 0 0, .int .i64 0]) ?_ 0 _ rfl; (with_reducible repeat (first | refine bn ?_ _ | refine bd ?_ | refine ba ?_ _)); exact BK293.out) hb); have n12_ := am (bs (by repeat (first | (with_reducible first | exact HB.out | apply wa | apply wn | apply wd | refine ws ?_ GE259.out | refine ws ?_ GE276.out | refine ws ?_ GE284.out | refine ws ?_ GE293.out) | exact HB.out)) hb); clear HO263; clear HO266; clear HO270; clear HO273; clear HO279; clear HO282; clear HO287; clear HO290; clear BK259; clear BK276; clear BK284; clear BK293; clear HB; have HO263 := n0_; have HO266 := n1_; have HO270 := n2_; have HO273 := n3_; have HO279 := n4_; have HO282 := n5_; have HO287 := n6_; have HO290 := n7_; have BK259 := n8_; have BK276 := n9_; have BK284 := n10_; have BK293 := n11_; have HB := n12_; clear n0_ n1_ n2_ n3_ n4_ n5_ n6_ n7_ n8_ n9_ n10_ n11_ n12_; (try clear hb); (try clear hb2); (try clear hk); (try clear hi)))
    go_meet
    case rel => exact ⟨_, (true), (by first | rfl | (simp; done) | (simp [*]; done) | (simp; generalize ByteArray.toList _ = z; cases z <;> rfl)), H', ⟨by first | omega | exact Nat.le_refl _⟩, ⟨by (with_reducible repeat (first | apply ra | apply rn | apply rd)); exact rm HO270.out (fun _ hk => by simp [hk])⟩, ⟨by (with_reducible repeat (first | apply ra | apply rn | apply rd)); exact rm HO273.out (fun _ hk => by simp [hk])⟩, ⟨by (with_reducible repeat (first | apply ra | apply rn | apply rd)); exact rm HO279.out (fun _ hk => by simp [hk])⟩, ⟨by (with_reducible repeat (first | apply ra | apply rn | apply rd)); exact rm HO282.out (fun _ hk => by simp [hk])⟩, ⟨by (with_reducible repeat (first | apply ra | apply rn | apply rd)); exact rm HO287.out (fun _ hk => by simp [hk])⟩, ⟨by (with_reducible repeat (first | apply ra | apply rn | apply rd)); exact rm HO290.out (fun _ hk => by simp [hk])⟩, ⟨by (with_reducible repeat (first | refine bn ?_ _ | refine bd ?_ | refine ba ?_ _)); exact BK259.out⟩, ⟨by (with_reducible repeat (first | refine bn ?_ _ | refine bd ?_ | refine ba ?_ _)); exact BK276.out⟩, ⟨by (with_reducible repeat (first | refine bn ?_ _ | refine bd ?_ | refine ba ?_ _)); exact BK284.out⟩, ⟨by (with_reducible repeat (first | refine bn ?_ _ | refine bd ?_ | refine ba ?_ _)); exact BK293.out⟩, ⟨by repeat (first | (with_reducible first | exact HB.out | apply wa | apply wn | apply wd | refine ws ?_ GE259.out | refine ws ?_ GE276.out | refine ws ?_ GE284.out | refine ws ?_ GE293.out) | exact HB.out)⟩⟩
  case rest =>
   clear HC11
   try clear c1
   try clear c2
   try clear p2
   try clear c3
   try clear c3b0
   try clear c4
   try clear c5
   try clear c8
   try clear c17
   try clear c22
   try clear c24
   try clear c26
   try clear c27
   try clear c29
   try clear c30
   try clear c36
   try clear c37
   try clear c38
   try clear c42
   try clear c43
   try clear c44
   try clear c45
   try clear c47
   try clear c48
   try clear c51
   try clear c52
   try clear c53
   try clear c55
   try clear c56
   try clear hcz13_0
   try clear hcz13_1
   try clear hcz13_2
   try clear hcz15_0
   try clear hcz15_1
   try clear hcz15_2
   try clear hcz23_0
   try clear hcz23_1
   try clear hcz23_2
   try clear hcz25_0
   try clear hcz25_1
   try clear hcz25_2
   try clear hcz31_0
   try clear hcz31_1
   try clear hcz31_2
   try clear hcz39_0
   try clear hcz39_1
   try clear hcz39_2
   try clear hcz46_0
   try clear hcz46_1
   try clear hcz46_2
   try clear hcz49_0
   try clear hcz49_1
   try clear hcz49_2
   try clear hcz54_0
   try clear hcz54_1
   try clear hcz54_2
   try clear hcz57_0
   try clear hcz57_1
   try clear hcz57_2
   try clear hcz5_0
   try clear hcz5_1
   try clear hcz5_2
   try clear hfz13_0
   try clear hfz13_1
   try clear hfz13_2
   try clear hfz15_0
   try clear hfz15_1
   try clear hfz15_2
   try clear hfz23_0
   try clear hfz23_1
   try clear hfz23_2
   try clear hfz25_0
   try clear hfz25_1
   try clear hfz25_2
   try clear hfz31_0
   try clear hfz31_1
   try clear hfz31_2
   try clear hfz39_0
   try clear hfz39_1
   try clear hfz39_2
   try clear hfz46_0
   try clear hfz46_1
   try clear hfz46_2
   try clear hfz49_0
   try clear hfz49_1
   try clear hfz49_2
   try clear hfz54_0
   try clear hfz54_1
   try clear hfz54_2
   try clear hfz57_0
   try clear hfz57_1
   try clear hfz57_2
   try clear hfz5_0
   try clear hfz5_1
   try clear hfz5_2
   obtain ⟨kq, x40_10, rfl, HA, HJ10, HO_277000, HO_277001, HO_285000, HO_285001, HO_294000, HO_294001, BK259, BK276, BK284, BK293, HB⟩ := hcut
   cases kq with
   | zero => exact absurd HA.out (by simp [laws_FnExactGrowTable.j0])
   | succ kj10 =>
    have H := HA.out
    clear HA
    simp only [laws_FnExactGrowTable.j0] at H
    by_cases c59 : x40_10 = true
    ·subst c59
     have H1 : (some false) = some r := by rw [if_pos rfl] at H; exact H
     clear H
     have H := H1
     clear H1
     obtain rfl := Option.some.inj H
     go_wp2
     go_ret
     exact ⟨by first | rfl | (simp [errW_none, errW_some] <;> rfl) | (simp [*, errW_none, errW_some] <;> rfl), by repeat (first | (with_reducible first | exact HB.out | apply wa | apply wn | apply wd | refine ws ?_ GE259.out | refine ws ?_ GE276.out | refine ws ?_ GE284.out | refine ws ?_ GE293.out) | exact HB.out)⟩
    ·replace c59 := Bool.eq_false_iff.mpr c59
     subst c59
     have H1 : ((laws_toTable.f kj10 l0_0 l0_1 a0_2).bind fun bt295 => ((laws_eqTable.f kj10 t277 t280 t283 bt295.1 bt295.2.1 bt295.2.2).bind fun t302 => (if t302 = true then ((laws_markTable.f kj10 t277 t280 t283 1).bind fun bt303 => (if bt303.1 < 0 then (laws_FnExactGrowTable.j1 kj10 t275 true l0_0 l0_1 a0_2 t268 t271 t274 t285 t288 t291) else ((laws_eqTable.f kj10 t285 t288 t291 t268 t271 t274).bind fun t306 => (if t306 = true then (laws_FnExactGrowTable.j1 kj10 t275 (t292 != t275) l0_0 l0_1 a0_2 t268 t271 t274 t285 t288 t291) else (laws_FnExactGrowTable.j1 kj10 t275 true l0_0 l0_1 a0_2 t268 t271 t274 t285 t288 t291))))) else (some false)))) = some r := by rw [if_neg (show ¬ (false = true) by decide)] at H; exact H
     clear H
     have H := H1
     clear H1
     replace H := Option.bind_eq_some_iff.mp H
     obtain ⟨⟨t295, t298, t301⟩, A600, H⟩ := H
     replace H : ((laws_eqTable.f kj10 t277 t280 t283 t295 t298 t301).bind fun t302 => (if t302 = true then ((laws_markTable.f kj10 t277 t280 t283 1).bind fun bt303 => (if bt303.1 < 0 then (laws_FnExactGrowTable.j1 kj10 t275 true l0_0 l0_1 a0_2 t268 t271 t274 t285 t288 t291) else ((laws_eqTable.f kj10 t285 t288 t291 t268 t271 t274).bind fun t306 => (if t306 = true then (laws_FnExactGrowTable.j1 kj10 t275 (t292 != t275) l0_0 l0_1 a0_2 t268 t271 t274 t285 t288 t291) else (laws_FnExactGrowTable.j1 kj10 t275 true l0_0 l0_1 a0_2 t268 t271 t274 t285 t288 t291))))) else (some false))) = some r := H
     have A60 := am A600
     clear A600
     replace H := Option.bind_eq_some_iff.mp H
     obtain ⟨t302, A610, H⟩ := H
     replace H : (if t302 = true then ((laws_markTable.f kj10 t277 t280 t283 1).bind fun bt303 => (if bt303.1 < 0 then (laws_FnExactGrowTable.j1 kj10 t275 true l0_0 l0_1 a0_2 t268 t271 t274 t285 t288 t291) else ((laws_eqTable.f kj10 t285 t288 t291 t268 t271 t274).bind fun t306 => (if t306 = true then (laws_FnExactGrowTable.j1 kj10 t275 (t292 != t275) l0_0 l0_1 a0_2 t268 t271 t274 t285 t288 t291) else (laws_FnExactGrowTable.j1 kj10 t275 true l0_0 l0_1 a0_2 t268 t271 t274 t285 t288 t291))))) else (some false)) = some r := H
     have A61 := am A610
     clear A610
     by_cases c62 : t302 = true
     ·subst c62
      have H1 : ((laws_markTable.f kj10 t277 t280 t283 1).bind fun bt303 => (if bt303.1 < 0 then (laws_FnExactGrowTable.j1 kj10 t275 true l0_0 l0_1 a0_2 t268 t271 t274 t285 t288 t291) else ((laws_eqTable.f kj10 t285 t288 t291 t268 t271 t274).bind fun t306 => (if t306 = true then (laws_FnExactGrowTable.j1 kj10 t275 (t292 != t275) l0_0 l0_1 a0_2 t268 t271 t274 t285 t288 t291) else (laws_FnExactGrowTable.j1 kj10 t275 true l0_0 l0_1 a0_2 t268 t271 t274 t285 t288 t291))))) = some r := by rw [if_pos rfl] at H; exact H
      clear H
      have H := H1
      clear H1
      replace H := Option.bind_eq_some_iff.mp H
      obtain ⟨⟨t303, t304, t305⟩, A630, H⟩ := H
      replace H : (if t303 < 0 then (laws_FnExactGrowTable.j1 kj10 t275 true l0_0 l0_1 a0_2 t268 t271 t274 t285 t288 t291) else ((laws_eqTable.f kj10 t285 t288 t291 t268 t271 t274).bind fun t306 => (if t306 = true then (laws_FnExactGrowTable.j1 kj10 t275 (t292 != t275) l0_0 l0_1 a0_2 t268 t271 t274 t285 t288 t291) else (laws_FnExactGrowTable.j1 kj10 t275 true l0_0 l0_1 a0_2 t268 t271 t274 t285 t288 t291)))) = some r := H
      have A63 := am A630
      clear A630
      have HC64 := am H
      clear H
      try go_wp2
      have n0_ := am (Kd.R_drew HO_277000.out)
      have n1_ := am (Kd.R_drew HO_277001.out)
      have n2_ := am (Kd.R_drew HO_285000.out)
      have n3_ := am (Kd.R_drew HO_285001.out)
      have n4_ := am (Kd.R_drew HO_294000.out)
      have n5_ := am (Kd.R_drew HO_294001.out)
      have n6_ := am (blk_drew BK259.out)
      have n7_ := am (blk_drew BK276.out)
      have n8_ := am (blk_drew BK284.out)
      have n9_ := am (blk_drew BK293.out)
      have n10_ := am (below_drew1 HB.out)
      clear HO_277000
      clear HO_277001
      clear HO_285000
      clear HO_285001
      clear HO_294000
      clear HO_294001
      clear BK259
      clear BK276
      clear BK284
      clear BK293
      clear HB
      have HO_277000 := n0_
      have HO_277001 := n1_
      have HO_285000 := n2_
      have HO_285001 := n3_
      have HO_294000 := n4_
      have HO_294001 := n5_
      have BK259 := n6_
      have BK276 := n7_
      have BK284 := n8_
      have BK293 := n9_
      have HB := n10_
      clear n0_ n1_ n2_ n3_ n4_ n5_ n6_ n7_ n8_ n9_ n10_
      refine start_ (n := 5) (S := fun w' => w'.cell? ⟨gb284, 0, none⟩ = some (.slice Ao28 t277.length co28) ∧ w'.cell? ⟨gb284, 1, none⟩ = some (.slice Ao32 t280.length co32) ∧ w'.cell? ⟨gb284, 2, none⟩ = some (.int .i64 t283) ∧ w'.cell? ⟨gb259, 0, none⟩ = some (.slice A0_0 l0_0.length c0_0) ∧ w'.cell? ⟨gb259, 1, none⟩ = some (.slice A0_1 l0_1.length c0_1) ∧ w'.cell? ⟨gb259, 2, none⟩ = some (.int .i64 a0_2)) (ds := []) #[false, false, false, false, false] (by kernel_rfl) rfl rfl ⟨(blk_cell BK284.out 0).trans rfl, (blk_cell BK284.out 1).trans rfl, (blk_cell BK284.out 2).trans rfl, (blk_cell BK259.out 0).trans rfl, (blk_cell BK259.out 1).trans rfl, (blk_cell BK259.out 2).trans rfl⟩ (fun hHeld => ?_)
      generalize wc.drew = w65 at HO_277000 HO_277001 HO_285000 HO_285001 HO_294000 HO_294001 BK259 BK276 BK284 BK293 HB hHeld ⊢
      refine take_ (i := 0) (N := some 41) (v := ?_) (a' := ?_) #[true, false, false, false, false] rfl rfl (by kernel_rfl) (fun _ _ _ h => h) (Or.inl ⟨by rfl, ?_⟩) hHeld ?_ ?_
      rotate_left
      ·rintro w' ⟨s0, s1, s2, s3, s4, s5⟩
       go_simp
       with_reducible rfl
      rotate_left
      ·simp only [Act.put, List.setIfInBounds_toArray, List.set_cons_zero, List.set_cons_succ, i64_w, i32_w]
       rfl
      refine take_ (i := 1) (N := some 42) (v := ?_) (a' := ?_) #[true, true, false, false, false] rfl rfl (by kernel_rfl) (fun _ _ _ h => h) (Or.inl ⟨by rfl, ?_⟩) hHeld ?_ ?_
      rotate_left
      ·rintro w' ⟨s0, s1, s2, s3, s4, s5⟩
       go_simp
       with_reducible rfl
      rotate_left
      ·simp only [Act.put, List.setIfInBounds_toArray, List.set_cons_zero, List.set_cons_succ, i64_w, i32_w]
       rfl
      refine one_ (i := 2) (N := some 43) #[true, true, true, false, false] rfl rfl (by kernel_rfl) (by decide) (fun K hK => ?_)
      refine goes_ Try.func26 (by kernel_rfl) rfl #[.agg #[.slice A0_0 l0_0.length c0_0, .slice A0_1 l0_1.length c0_1, .int .i64 a0_2]] (by rfl) rfl rfl (by (try simp only [List.map_toArray, List.map_cons, List.map_nil]); first | done | rfl | (simp only [List.length_drop, List.length_take]; rfl)) ?_
      with_reducible refine (laws_toTable.calls kj10 _ _ l0_0 _ _ l0_1 a0_2 t295 t298 t301 _ ?side1 ?side2 ?side3 ?side4 A60.out).mono ?_
      (case side1 => repeat (first | exact (Kd.C_below HR0_0.out HB.out) | (with_reducible refine Kd.C_alloc ?_ _) | (with_reducible refine Kd.C_drewN ?_ _) | (with_reducible refine Kd.C_drew ?_)))
      (case side2 => exact HC0_0.out)
      (case side3 => repeat (first | exact (Kd.C_below HR0_1.out HB.out) | (with_reducible refine Kd.C_alloc ?_ _) | (with_reducible refine Kd.C_drewN ?_ _) | (with_reducible refine Kd.C_drew ?_)))
      (case side4 => exact HC0_1.out)
      rintro e w66 ⟨v296, v299, rfl, ho0, ho1, hb⟩
      refine ⟨_, rfl, ?_⟩
      have n0_ := am (rm (ro (ro (rl (by (with_reducible repeat (first | apply ra | apply rn | apply rd)); exact HO_277000.out) hb) (re ho0)) (re ho1)) (fun _ h_ => h_.1))
      have n1_ := am (rm (ro (ro (rl (by (with_reducible repeat (first | apply ra | apply rn | apply rd)); exact HO_277001.out) hb) (re ho0)) (re ho1)) (fun _ h_ => h_.1))
      have n2_ := am (rm (ro (ro (rl (by (with_reducible repeat (first | apply ra | apply rn | apply rd)); exact HO_285000.out) hb) (re ho0)) (re ho1)) (fun _ h_ => h_.1))
      have n3_ := am (rm (ro (ro (rl (by (with_reducible repeat (first | apply ra | apply rn | apply rd)); exact HO_285001.out) hb) (re ho0)) (re ho1)) (fun _ h_ => h_.1))
      have n4_ := am (rm (ro (ro (rl (by (with_reducible repeat (first | apply ra | apply rn | apply rd)); exact HO_294000.out) hb) (re ho0)) (re ho1)) (fun _ h_ => h_.1))
      have n5_ := am (rm (ro (ro (rl (by (with_reducible repeat (first | apply ra | apply rn | apply rd)); exact HO_294001.out) hb) (re ho0)) (re ho1)) (fun _ h_ => h_.1))
      have n6_ := am (Kd.R_lower (Kd.R_new' (Kd.R_new' (Kd.R_new' (Kd.R_new' (Kd.R_new' (Kd.R_new' ho0 (Kd.R_lt (by (with_reducible repeat (first | apply ra | apply rn | apply rd)); exact HO_277000.out))) (Kd.R_lt (by (with_reducible repeat (first | apply ra | apply rn | apply rd)); exact HO_277001.out))) (Kd.R_lt (by (with_reducible repeat (first | apply ra | apply rn | apply rd)); exact HO_285000.out))) (Kd.R_lt (by (with_reducible repeat (first | apply ra | apply rn | apply rd)); exact HO_285001.out))) (Kd.R_lt (by (with_reducible repeat (first | apply ra | apply rn | apply rd)); exact HO_294000.out))) (Kd.R_lt (by (with_reducible repeat (first | apply ra | apply rn | apply rd)); exact HO_294001.out))) (below_size (by repeat (first | (with_reducible first | exact HB.out | apply wa | apply wn | apply wd | refine ws ?_ GE259.out | refine ws ?_ GE276.out | refine ws ?_ GE284.out | refine ws ?_ GE293.out) | exact HB.out))))
      have n7_ := am (Kd.R_lower (Kd.R_new' (Kd.R_new' (Kd.R_new' (Kd.R_new' (Kd.R_new' (Kd.R_new' ho1 (Kd.R_lt (by (with_reducible repeat (first | apply ra | apply rn | apply rd)); exact HO_277000.out))) (Kd.R_lt (by (with_reducible repeat (first | apply ra | apply rn | apply rd)); exact HO_277001.out))) (Kd.R_lt (by (with_reducible repeat (first | apply ra | apply rn | apply rd)); exact HO_285000.out))) (Kd.R_lt (by (with_reducible repeat (first | apply ra | apply rn | apply rd)); exact HO_285001.out))) (Kd.R_lt (by (with_reducible repeat (first | apply ra | apply rn | apply rd)); exact HO_294000.out))) (Kd.R_lt (by (with_reducible repeat (first | apply ra | apply rn | apply rd)); exact HO_294001.out))) (below_size (by repeat (first | (with_reducible first | exact HB.out | apply wa | apply wn | apply wd | refine ws ?_ GE259.out | refine ws ?_ GE276.out | refine ws ?_ GE284.out | refine ws ?_ GE293.out) | exact HB.out))))
      have n8_ := am (bb (g := gb259) (o := .cells #[.slice A0_0 l0_0.length c0_0, .slice A0_1 l0_1.length c0_1, .int .i64 a0_2] 42 (0, 0)) (by (with_reducible repeat (first | refine bn ?_ _ | refine bd ?_ | refine ba ?_ _)); exact BK259.out) hb)
      have n9_ := am (bb (g := gb276) (o := .cells #[.slice Ao21 t268.length co21, .slice Ao24 t271.length co24, .int .i64 t274] 26 (0, 0)) (by (with_reducible repeat (first | refine bn ?_ _ | refine bd ?_ | refine ba ?_ _)); exact BK276.out) hb)
      have n10_ := am (bb (g := gb284) (o := .cells #[.slice Ao28 t277.length co28, .slice Ao32 t280.length co32, .int .i64 t283] 26 (0, 0)) (by (with_reducible repeat (first | refine bn ?_ _ | refine bd ?_ | refine ba ?_ _)); exact BK284.out) hb)
      have n11_ := am (bb (g := gb293) (o := .cells #[.slice Ao35 t285.length co35, .slice Ao40 t288.length co40, .int .i64 t291] 26 (0, 0)) (by (with_reducible repeat (first | refine bn ?_ _ | refine bd ?_ | refine ba ?_ _)); exact BK293.out) hb)
      have n12_ := am (bs (by repeat (first | (with_reducible first | exact HB.out | apply wa | apply wn | apply wd | refine ws ?_ GE259.out | refine ws ?_ GE276.out | refine ws ?_ GE284.out | refine ws ?_ GE293.out) | exact HB.out)) hb)
      clear HO_277000
      clear HO_277001
      clear HO_285000
      clear HO_285001
      clear HO_294000
      clear HO_294001
      clear BK259
      clear BK276
      clear BK284
      clear BK293
      clear HB
      have HO_277000 := n0_
      have HO_277001 := n1_
      have HO_285000 := n2_
      have HO_285001 := n3_
      have HO_294000 := n4_
      have HO_294001 := n5_
      have HO297 := n6_
      have HO300 := n7_
      have BK259 := n8_
      have BK276 := n9_
      have BK284 := n10_
      have BK293 := n11_
      have HB := n12_
      clear n0_ n1_ n2_ n3_ n4_ n5_ n6_ n7_ n8_ n9_ n10_ n11_ n12_
      (try clear hb)
      (try clear hb2)
      (try clear hk)
      (try clear hi)
      (try clear ho0)
      (try clear ho1)
      obtain ⟨Ao67, co67, eo67⟩ := Kd.R_slice HO297.out
      (first | subst eo67 | (injection eo67 with f1_ f2_ f3_; have f4_ := f1_.symm; have f5_ := f3_.symm; clear f1_ f2_ f3_; subst f4_; subst f5_))
      obtain ⟨Ao68, co68, eo68⟩ := Kd.R_slice HO300.out
      (first | subst eo68 | (injection eo68 with f1_ f2_ f3_; have f4_ := f1_.symm; have f5_ := f3_.symm; clear f1_ f2_ f3_; subst f4_; subst f5_))
      refine hK.out _ _ ⟨(blk_cell BK284.out 0).trans rfl, (blk_cell BK284.out 1).trans rfl, (blk_cell BK284.out 2).trans rfl, (blk_cell BK259.out 0).trans rfl, (blk_cell BK259.out 1).trans rfl, (blk_cell BK259.out 2).trans rfl⟩ (fun hHeld => ?_)
      clear hK K
      refine norm_ (a' := ?_) ?_ ?_
      rotate_left
      ·show Act.put _ (some 43) _ = _
       simp only [Act.put, List.setIfInBounds_toArray, List.set_cons_zero, List.set_cons_succ, i64_w, i32_w]
       rfl
      refine one_ (i := 3) (N := some 44) #[true, true, true, true, false] rfl rfl (by kernel_rfl) (by decide) (fun K hK => ?_)
      refine goes_ Try.func27 (by kernel_rfl) rfl #[.agg #[.slice Ao28 t277.length co28, .slice Ao32 t280.length co32, .int .i64 t283], .agg #[.slice Ao67 t295.length co67, .slice Ao68 t298.length co68, .int .i64 t301]] (by rfl) rfl rfl (by (try simp only [List.map_toArray, List.map_cons, List.map_nil]); first | done | rfl | (simp only [List.length_drop, List.length_take]; rfl)) ?_
      with_reducible refine (laws_eqTable.calls kj10 _ _ t277 _ _ t280 t283 _ _ t295 _ _ t298 t301 true _ ?side1 ?side2 ?side3 ?side4 ?side5 ?side6 ?side7 ?side8 A61.out).mono ?_
      (case side1 => repeat (first | exact (rr HO_285000.out).2.2 | (with_reducible refine Kd.C_alloc ?_ _) | (with_reducible refine Kd.C_drewN ?_ _) | (with_reducible refine Kd.C_drew ?_)))
      (case side2 => exact (rr HO_285000.out).2.1)
      (case side3 => repeat (first | exact (rr HO_285001.out).2.2 | (with_reducible refine Kd.C_alloc ?_ _) | (with_reducible refine Kd.C_drewN ?_ _) | (with_reducible refine Kd.C_drew ?_)))
      (case side4 => exact (rr HO_285001.out).2.1)
      (case side5 => repeat (first | exact (rr HO297.out).2.2 | (with_reducible refine Kd.C_alloc ?_ _) | (with_reducible refine Kd.C_drewN ?_ _) | (with_reducible refine Kd.C_drew ?_)))
      (case side6 => exact (rr HO297.out).2.1)
      (case side7 => repeat (first | exact (rr HO300.out).2.2 | (with_reducible refine Kd.C_alloc ?_ _) | (with_reducible refine Kd.C_drewN ?_ _) | (with_reducible refine Kd.C_drew ?_)))
      (case side8 => exact (rr HO300.out).2.1)
      rintro e w69 ⟨rfl, hb⟩
      refine ⟨_, rfl, ?_⟩
      have n0_ := am (rb (by (with_reducible repeat (first | apply ra | apply rn | apply rd)); exact HO_277000.out) hb)
      have n1_ := am (rb (by (with_reducible repeat (first | apply ra | apply rn | apply rd)); exact HO_277001.out) hb)
      have n2_ := am (rb (by (with_reducible repeat (first | apply ra | apply rn | apply rd)); exact HO_285000.out) hb)
      have n3_ := am (rb (by (with_reducible repeat (first | apply ra | apply rn | apply rd)); exact HO_285001.out) hb)
      have n4_ := am (rb (by (with_reducible repeat (first | apply ra | apply rn | apply rd)); exact HO_294000.out) hb)
      have n5_ := am (rb (by (with_reducible repeat (first | apply ra | apply rn | apply rd)); exact HO_294001.out) hb)
      have n6_ := am (rb (by (with_reducible repeat (first | apply ra | apply rn | apply rd)); exact HO297.out) hb)
      have n7_ := am (rb (by (with_reducible repeat (first | apply ra | apply rn | apply rd)); exact HO300.out) hb)
      have n8_ := am (bb (g := gb259) (o := .cells #[.slice A0_0 l0_0.length c0_0, .slice A0_1 l0_1.length c0_1, .int .i64 a0_2] 42 (0, 0)) (by (with_reducible repeat (first | refine bn ?_ _ | refine bd ?_ | refine ba ?_ _)); exact BK259.out) hb)
      have n9_ := am (bb (g := gb276) (o := .cells #[.slice Ao21 t268.length co21, .slice Ao24 t271.length co24, .int .i64 t274] 26 (0, 0)) (by (with_reducible repeat (first | refine bn ?_ _ | refine bd ?_ | refine ba ?_ _)); exact BK276.out) hb)
      have n10_ := am (bb (g := gb284) (o := .cells #[.slice Ao28 t277.length co28, .slice Ao32 t280.length co32, .int .i64 t283] 26 (0, 0)) (by (with_reducible repeat (first | refine bn ?_ _ | refine bd ?_ | refine ba ?_ _)); exact BK284.out) hb)
      have n11_ := am (bb (g := gb293) (o := .cells #[.slice Ao35 t285.length co35, .slice Ao40 t288.length co40, .int .i64 t291] 26 (0, 0)) (by (with_reducible repeat (first | refine bn ?_ _ | refine bd ?_ | refine ba ?_ _)); exact BK293.out) hb)
      have n12_ := am (bs (by repeat (first | (with_reducible first | exact HB.out | apply wa | apply wn | apply wd | refine ws ?_ GE259.out | refine ws ?_ GE276.out | refine ws ?_ GE284.out | refine ws ?_ GE293.out) | exact HB.out)) hb)
      clear HO_277000
      clear HO_277001
      clear HO_285000
      clear HO_285001
      clear HO_294000
      clear HO_294001
      clear HO297
      clear HO300
      clear BK259
      clear BK276
      clear BK284
      clear BK293
      clear HB
      have HO_277000 := n0_
      have HO_277001 := n1_
      have HO_285000 := n2_
      have HO_285001 := n3_
      have HO_294000 := n4_
      have HO_294001 := n5_
      have HO297 := n6_
      have HO300 := n7_
      have BK259 := n8_
      have BK276 := n9_
      have BK284 := n10_
      have BK293 := n11_
      have HB := n12_
      clear n0_ n1_ n2_ n3_ n4_ n5_ n6_ n7_ n8_ n9_ n10_ n11_ n12_
      (try clear hb)
      (try clear hb2)
      (try clear hk)
      (try clear hi)
      refine hK.out _ _ ⟨(blk_cell BK284.out 0).trans rfl, (blk_cell BK284.out 1).trans rfl, (blk_cell BK284.out 2).trans rfl, (blk_cell BK259.out 0).trans rfl, (blk_cell BK259.out 1).trans rfl, (blk_cell BK259.out 2).trans rfl⟩ (fun hHeld => ?_)
      clear hK K
      refine norm_ (a' := ?_) ?_ ?_
      rotate_left
      ·show Act.put _ (some 44) _ = _
       simp only [Act.put, List.setIfInBounds_toArray, List.set_cons_zero, List.set_cons_succ, i64_w, i32_w]
       rfl
      refine pure_ (i := 4) (N := some 45) (v := ?_) (a' := ?_) #[true, true, true, true, true] rfl rfl (by kernel_rfl) (fun _ _ _ h => h) (Or.inl ⟨by rfl, ?_⟩) ?_ ?_
      rotate_left
      ·intro w'
       go_simp
       with_reducible rfl
      rotate_left
      ·simp only [Act.put, List.setIfInBounds_toArray, List.set_cons_zero, List.set_cons_succ, i64_w, i32_w]
       rfl
      refine done_ (by kernel_rfl) ?_
      have hnb70 := NB284_259.out
      have hnc70 := NB259_284.out
      have hnb71 := NB284_276.out
      have hnc71 := NB276_284.out
      have hnb72 := NB284_293.out
      have hnc72 := NB293_284.out
      have hcz73_0 : w69.cell? ⟨gb284, 0, none⟩ = some (.slice Ao28 t277.length co28) := (blk_cell BK284.out 0).trans rfl
      have hcz73_1 : w69.cell? ⟨gb284, 1, none⟩ = some (.slice Ao32 t280.length co32) := (blk_cell BK284.out 1).trans rfl
      have hcz73_2 : w69.cell? ⟨gb284, 2, none⟩ = some (.int .i64 t283) := (blk_cell BK284.out 2).trans rfl
      have hfz73_0 := blk_frozen BK284.out 0
      have hfz73_1 := blk_frozen BK284.out 1
      have hfz73_2 := blk_frozen BK284.out 2
      go_upto_region 14 with (first | ((with_reducible refine gate_callee (f := 30) rfl ?_); refine goesL_ (some 48) rfl rfl Try.func30 (by kernel_rfl) rfl #[.agg #[.slice Ao28 t277.length co28, .slice Ao32 t280.length co32, .int .i64 t283], .int .i64 1] rfl (by (try simp only [List.map_toArray, List.map_cons, List.map_nil]); first | done | rfl | (simp only [List.length_drop, List.length_take]; rfl)) ?_; (with_reducible refine (laws_markTable.calls kj10 (fun k_ => some k_ = (.slice Ao28 t277.length co28 : Value).ownBlock) (.slice Ao28 t277.length co28) t277 (fun k_ => some k_ = (.slice Ao32 t280.length co32 : Value).ownBlock) (.slice Ao32 t280.length co32) t280 t283 1 t303 t304 t305 w _ ?side1 ?side2 ?side3 ?side4 ?side5 A63.out).mono ?_); (case side1 => repeat (first | (with_reducible first | exact HB.out | apply wa | apply wn | apply wd | refine ws ?_ GE259.out | refine ws ?_ GE276.out | refine ws ?_ GE284.out | refine ws ?_ GE293.out) | exact HB.out)); (case side2 => exact Kd.R_tight rfl HO_285000.out); (case side3 => first | exact fun k_ e_ => (HO_285000.out.1 k_ e_.symm).1.1.2.2.1 | exact fun k_ e_ hs_ => by have hh_ := HO_285000.out.1 k_ e_.symm; revert hh_; simp [hs_]); (case side4 => exact Kd.R_tight rfl HO_285001.out); (case side5 => first | exact fun k_ e_ => (HO_285001.out.1 k_ e_.symm).1.1.2.2.1 | exact fun k_ e_ hs_ => by have hh_ := HO_285001.out.1 k_ e_.symm; revert hh_; simp [hs_]); rintro e w74 ⟨rfl, hy0, hy1, hb, hkp⟩; refine ⟨_, rfl, ?_⟩; have n0_ := am (rm (ok' := fun k_ => some k_ ≠ (.slice Ao24 t271.length co24 : Value).ownBlock ∧ some k_ ≠ (.slice Ao28 t277.length co28 : Value).ownBlock ∧ some k_ ≠ (.slice Ao32 t280.length co32 : Value).ownBlock ∧ some k_ ≠ (.slice Ao35 t285.length co35 : Value).ownBlock ∧ some k_ ≠ (.slice Ao40 t288.length co40 : Value).ownBlock ∧ some k_ ≠ (.slice Ao67 t295.length co67 : Value).ownBlock ∧ some k_ ≠ (.slice Ao68 t298.length co68 : Value).ownBlock) (rk (HO_277000.out) hkp (fun k_ hk_ hs_ => by rcases hs_ with e_ | e_ <;> (revert hk_; simp [e_]))) (fun k_ hk_ => by simp [hk_])); have n1_ := am (rm (ok' := fun k_ => some k_ ≠ (.slice Ao21 t268.length co21 : Value).ownBlock ∧ some k_ ≠ (.slice Ao28 t277.length co28 : Value).ownBlock ∧ some k_ ≠ (.slice Ao32 t280.length co32 : Value).ownBlock ∧ some k_ ≠ (.slice Ao35 t285.length co35 : Value).ownBlock ∧ some k_ ≠ (.slice Ao40 t288.length co40 : Value).ownBlock ∧ some k_ ≠ (.slice Ao67 t295.length co67 : Value).ownBlock ∧ some k_ ≠ (.slice Ao68 t298.length co68 : Value).ownBlock) (rk (HO_277001.out) hkp (fun k_ hk_ hs_ => by rcases hs_ with e_ | e_ <;> (revert hk_; simp [e_]))) (fun k_ hk_ => by simp [hk_])); have n2_ := am (Kd.R_reok rfl hy0 (fun k_ e_ => HO_285000.out.1 k_ e_)); have n3_ := am (Kd.R_reok rfl hy1 (fun k_ e_ => HO_285001.out.1 k_ e_)); have n4_ := am (rm (ok' := fun k_ => some k_ ≠ (.slice Ao21 t268.length co21 : Value).ownBlock ∧ some k_ ≠ (.slice Ao24 t271.length co24 : Value).ownBlock ∧ some k_ ≠ (.slice Ao28 t277.length co28 : Value).ownBlock ∧ some k_ ≠ (.slice Ao32 t280.length co32 : Value).ownBlock ∧ some k_ ≠ (.slice Ao40 t288.length co40 : Value).ownBlock ∧ some k_ ≠ (.slice Ao67 t295.length co67 : Value).ownBlock ∧ some k_ ≠ (.slice Ao68 t298.length co68 : Value).ownBlock) (rk (HO_294000.out) hkp (fun k_ hk_ hs_ => by rcases hs_ with e_ | e_ <;> (revert hk_; simp [e_]))) (fun k_ hk_ => by simp [hk_])); have n5_ := am (rm (ok' := fun k_ => some k_ ≠ (.slice Ao21 t268.length co21 : Value).ownBlock ∧ some k_ ≠ (.slice Ao24 t271.length co24 : Value).ownBlock ∧ some k_ ≠ (.slice Ao28 t277.length co28 : Value).ownBlock ∧ some k_ ≠ (.slice Ao32 t280.length co32 : Value).ownBlock ∧ some k_ ≠ (.slice Ao35 t285.length co35 : Value).ownBlock ∧ some k_ ≠ (.slice Ao67 t295.length co67 : Value).ownBlock ∧ some k_ ≠ (.slice Ao68 t298.length co68 : Value).ownBlock) (rk (HO_294001.out) hkp (fun k_ hk_ hs_ => by rcases hs_ with e_ | e_ <;> (revert hk_; simp [e_]))) (fun k_ hk_ => by simp [hk_])); have n6_ := am (bk (by (with_reducible repeat (first | refine bn ?_ _ | refine bd ?_ | refine ba ?_ _)); exact BK259.out) hkp (fun hs_ => Or.elim hs_ (fun e_ => (fun e_ => (Kd.R_ne HO_285000.out BK259.out (by decide)) e_) e_) (fun e_ => (fun e_ => (Kd.R_ne HO_285001.out BK259.out (by decide)) e_) e_))); have n7_ := am (bk (by (with_reducible repeat (first | refine bn ?_ _ | refine bd ?_ | refine ba ?_ _)); exact BK276.out) hkp (fun hs_ => Or.elim hs_ (fun e_ => (fun e_ => (Kd.R_ne HO_285000.out BK276.out (by decide)) e_) e_) (fun e_ => (fun e_ => (Kd.R_ne HO_285001.out BK276.out (by decide)) e_) e_))); have n8_ := am (bk (by (with_reducible repeat (first | refine bn ?_ _ | refine bd ?_ | refine ba ?_ _)); exact BK284.out) hkp (fun hs_ => Or.elim hs_ (fun e_ => (fun e_ => (Kd.R_ne HO_285000.out BK284.out (by decide)) e_) e_) (fun e_ => (fun e_ => (Kd.R_ne HO_285001.out BK284.out (by decide)) e_) e_))); have n9_ := am (bk (by (with_reducible repeat (first | refine bn ?_ _ | refine bd ?_ | refine ba ?_ _)); exact BK293.out) hkp (fun hs_ => Or.elim hs_ (fun e_ => (fun e_ => (Kd.R_ne HO_285000.out BK293.out (by decide)) e_) e_) (fun e_ => (fun e_ => (Kd.R_ne HO_285001.out BK293.out (by decide)) e_) e_))); have n10_ := am (rm (ok' := fun k_ => some k_ ≠ (.slice Ao21 t268.length co21 : Value).ownBlock ∧ some k_ ≠ (.slice Ao24 t271.length co24 : Value).ownBlock ∧ some k_ ≠ (.slice Ao28 t277.length co28 : Value).ownBlock ∧ some k_ ≠ (.slice Ao32 t280.length co32 : Value).ownBlock ∧ some k_ ≠ (.slice Ao35 t285.length co35 : Value).ownBlock ∧ some k_ ≠ (.slice Ao40 t288.length co40 : Value).ownBlock ∧ some k_ ≠ (.slice Ao68 t298.length co68 : Value).ownBlock) (rk (HO297.out) hkp (fun k_ hk_ hs_ => by rcases hs_ with e_ | e_ <;> (revert hk_; simp [e_]))) (fun k_ hk_ => by simp [hk_])); have n11_ := am (rm (ok' := fun k_ => some k_ ≠ (.slice Ao21 t268.length co21 : Value).ownBlock ∧ some k_ ≠ (.slice Ao24 t271.length co24 : Value).ownBlock ∧ some k_ ≠ (.slice Ao28 t277.length co28 : Value).ownBlock ∧ some k_ ≠ (.slice Ao32 t280.length co32 : Value).ownBlock ∧ some k_ ≠ (.slice Ao35 t285.length co35 : Value).ownBlock ∧ some k_ ≠ (.slice Ao40 t288.length co40 : Value).ownBlock ∧ some k_ ≠ (.slice Ao67 t295.length co67 : Value).ownBlock) (rk (HO300.out) hkp (fun k_ hk_ hs_ => by rcases hs_ with e_ | e_ <;> (revert hk_; simp [e_]))) (fun k_ hk_ => by simp [hk_])); have n12_ := am (hb); clear HO_277000; clear HO_277001; clear HO_285000; clear HO_285001; clear HO_294000; clear HO_294001; clear BK259; clear BK276; clear BK284; clear BK293; clear HO297; clear HO300; clear HB; have HO_277000 := n0_; have HO_277001 := n1_; have HO_285000 := n2_; have HO_285001 := n3_; have HO_294000 := n4_; have HO_294001 := n5_; have BK259 := n6_; have BK276 := n7_; have BK284 := n8_; have BK293 := n9_; have HO297 := n10_; have HO300 := n11_; have HB := n12_; clear n0_ n1_ n2_ n3_ n4_ n5_ n6_ n7_ n8_ n9_ n10_ n11_ n12_; (try clear hb); (try clear hkp); (try clear hy0); (try clear hy1)))
      (try simp only [Act.put, List.setIfInBounds_toArray, List.set_cons_zero, List.set_cons_succ])
      go_cut [61] (fun v61 wc => ∃ (kq : Nat) (x61_63 : Bool), v61 = .bool x61_63 ∧ Aside0 (laws_FnExactGrowTable.j1 kq t275 x61_63 l0_0 l0_1 a0_2 t268 t271 t274 t285 t288 t291 = some r) ∧ Aside0 (kq ≤ kj10) ∧ Aside0 (Kd.R k57 57 wc w.heap.size (fun k_ => some k_ ≠ ((.slice Ao24 t271.length co24) : Value).ownBlock ∧ some k_ ≠ ((.slice Ao28 t277.length co28) : Value).ownBlock ∧ some k_ ≠ ((.slice Ao32 t280.length co32) : Value).ownBlock ∧ some k_ ≠ ((.slice Ao35 t285.length co35) : Value).ownBlock ∧ some k_ ≠ ((.slice Ao40 t288.length co40) : Value).ownBlock) (.slice Ao21 t268.length co21) t268) ∧ Aside0 (Kd.R k57 57 wc w.heap.size (fun k_ => some k_ ≠ ((.slice Ao21 t268.length co21) : Value).ownBlock ∧ some k_ ≠ ((.slice Ao28 t277.length co28) : Value).ownBlock ∧ some k_ ≠ ((.slice Ao32 t280.length co32) : Value).ownBlock ∧ some k_ ≠ ((.slice Ao35 t285.length co35) : Value).ownBlock ∧ some k_ ≠ ((.slice Ao40 t288.length co40) : Value).ownBlock) (.slice Ao24 t271.length co24) t271) ∧ Aside0 (Kd.R k57 57 wc w.heap.size (fun k_ => some k_ ≠ ((.slice Ao21 t268.length co21) : Value).ownBlock ∧ some k_ ≠ ((.slice Ao24 t271.length co24) : Value).ownBlock ∧ some k_ ≠ ((.slice Ao32 t280.length co32) : Value).ownBlock ∧ some k_ ≠ ((.slice Ao35 t285.length co35) : Value).ownBlock ∧ some k_ ≠ ((.slice Ao40 t288.length co40) : Value).ownBlock) (.slice Ao28 t277.length co28) t304) ∧ Aside0 (Kd.R k57 57 wc w.heap.size (fun k_ => some k_ ≠ ((.slice Ao21 t268.length co21) : Value).ownBlock ∧ some k_ ≠ ((.slice Ao24 t271.length co24) : Value).ownBlock ∧ some k_ ≠ ((.slice Ao28 t277.length co28) : Value).ownBlock ∧ some k_ ≠ ((.slice Ao35 t285.length co35) : Value).ownBlock ∧ some k_ ≠ ((.slice Ao40 t288.length co40) : Value).ownBlock) (.slice Ao32 t280.length co32) t305) ∧ Aside0 (Kd.R k57 57 wc w.heap.size (fun k_ => some k_ ≠ ((.slice Ao21 t268.length co21) : Value).ownBlock ∧ some k_ ≠ ((.slice Ao24 t271.length co24) : Value).ownBlock ∧ some k_ ≠ ((.slice Ao28 t277.length co28) : Value).ownBlock ∧ some k_ ≠ ((.slice Ao32 t280.length co32) : Value).ownBlock ∧ some k_ ≠ ((.slice Ao40 t288.length co40) : Value).ownBlock) (.slice Ao35 t285.length co35) t285) ∧ Aside0 (Kd.R k57 57 wc w.heap.size (fun k_ => some k_ ≠ ((.slice Ao21 t268.length co21) : Value).ownBlock ∧ some k_ ≠ ((.slice Ao24 t271.length co24) : Value).ownBlock ∧ some k_ ≠ ((.slice Ao28 t277.length co28) : Value).ownBlock ∧ some k_ ≠ ((.slice Ao32 t280.length co32) : Value).ownBlock ∧ some k_ ≠ ((.slice Ao35 t285.length co35) : Value).ownBlock) (.slice Ao40 t288.length co40) t288) ∧ Aside0 (wc.heap[gb259]? = some (.cells #[(.slice A0_0 l0_0.length c0_0), (.slice A0_1 l0_1.length c0_1), .int .i64 a0_2] 42 (0, 0))) ∧ Aside0 (wc.heap[gb276]? = some (.cells #[(.slice Ao21 t268.length co21), (.slice Ao24 t271.length co24), .int .i64 t274] 26 (0, 0))) ∧ Aside0 (wc.heap[gb284]? = some (.cells #[(.slice Ao28 t277.length co28), (.slice Ao32 t280.length co32), .int .i64 t283] 26 (0, 0))) ∧ Aside0 (wc.heap[gb293]? = some (.cells #[(.slice Ao35 t285.length co35), (.slice Ao40 t288.length co40), .int .i64 t291] 26 (0, 0))) ∧ Aside0 (Below w.heap.size w wc))
      case first =>
       have H := HC64.out
       clear HC64
       by_cases c75 : t303 < 0
       ·rw [if_pos c75] at H
        have c75b0 : decide (t303 < 0) = true := decide_eq_true c75
        clear c75
        (first | rw [c75b0] | (simp only [i64_w, i32_w]; rw [c75b0]) | skip)
        have H' := am H
        clear H
        go_wp2
        go_meet
        case rel => exact ⟨_, (true), (by first | rfl | (simp; done) | (simp [*]; done) | (simp; generalize ByteArray.toList _ = z; cases z <;> rfl)), H', ⟨by have := HJ10.out; first | omega | exact Nat.le_refl _⟩, ⟨by (with_reducible repeat (first | apply ra | apply rn | apply rd)); exact rm HO_277000.out (fun _ hk => by simp [hk])⟩, ⟨by (with_reducible repeat (first | apply ra | apply rn | apply rd)); exact rm HO_277001.out (fun _ hk => by simp [hk])⟩, ⟨by (with_reducible repeat (first | apply ra | apply rn | apply rd)); exact rm HO_285000.out (fun _ hk => by simp [hk])⟩, ⟨by (with_reducible repeat (first | apply ra | apply rn | apply rd)); exact rm HO_285001.out (fun _ hk => by simp [hk])⟩, ⟨by (with_reducible repeat (first | apply ra | apply rn | apply rd)); exact rm HO_294000.out (fun _ hk => by simp [hk])⟩, ⟨by (with_reducible repeat (first | apply ra | apply rn | apply rd)); exact rm HO_294001.out (fun _ hk => by simp [hk])⟩, ⟨by (with_reducible repeat (first | refine bn ?_ _ | refine bd ?_ | refine ba ?_ _)); exact BK259.out⟩, ⟨by (with_reducible repeat (first | refine bn ?_ _ | refine bd ?_ | refine ba ?_ _)); exact BK276.out⟩, ⟨by (with_reducible repeat (first | refine bn ?_ _ | refine bd ?_ | refine ba ?_ _)); exact BK284.out⟩, ⟨by (with_reducible repeat (first | refine bn ?_ _ | refine bd ?_ | refine ba ?_ _)); exact BK293.out⟩, ⟨by repeat (first | (with_reducible first | exact HB.out | apply wa | apply wn | apply wd | refine ws ?_ GE259.out | refine ws ?_ GE276.out | refine ws ?_ GE284.out | refine ws ?_ GE293.out) | exact HB.out)⟩⟩
       ·rw [if_neg c75] at H
        have c75b0 : decide (t303 < 0) = false := decide_eq_false c75
        clear c75
        (first | rw [c75b0] | (simp only [i64_w, i32_w]; rw [c75b0]) | skip)
        replace H := Option.bind_eq_some_iff.mp H
        obtain ⟨t306, A760, H⟩ := H
        replace H : (if t306 = true then (laws_FnExactGrowTable.j1 kj10 t275 (t292 != t275) l0_0 l0_1 a0_2 t268 t271 t274 t285 t288 t291) else (laws_FnExactGrowTable.j1 kj10 t275 true l0_0 l0_1 a0_2 t268 t271 t274 t285 t288 t291)) = some r := H
        have A76 := am A760
        clear A760
        by_cases c77 : t306 = true
        ·subst c77
         have H1 : (laws_FnExactGrowTable.j1 kj10 t275 (t292 != t275) l0_0 l0_1 a0_2 t268 t271 t274 t285 t288 t291) = some r := by rw [if_pos rfl] at H; exact H
         clear H
         have H := H1
         clear H1
         have H' := am H
         clear H
         have hnb78 := NB293_259.out
         have hnc78 := NB259_293.out
         have hnb79 := NB293_276.out
         have hnc79 := NB276_293.out
         have hnb80 := NB293_284.out
         have hnc80 := NB284_293.out
         have hcz81_0 : w74.cell? ⟨gb293, 0, none⟩ = some (.slice Ao35 t285.length co35) := (blk_cell BK293.out 0).trans rfl
         have hcz81_1 : w74.cell? ⟨gb293, 1, none⟩ = some (.slice Ao40 t288.length co40) := (blk_cell BK293.out 1).trans rfl
         have hcz81_2 : w74.cell? ⟨gb293, 2, none⟩ = some (.int .i64 t291) := (blk_cell BK293.out 2).trans rfl
         have hfz81_0 := blk_frozen BK293.out 0
         have hfz81_1 := blk_frozen BK293.out 1
         have hfz81_2 := blk_frozen BK293.out 2
         have hnb82 := NB276_259.out
         have hnc82 := NB259_276.out
         have hnb83 := NB276_284.out
         have hnc83 := NB284_276.out
         have hcz84_0 : w74.cell? ⟨gb276, 0, none⟩ = some (.slice Ao21 t268.length co21) := (blk_cell BK276.out 0).trans rfl
         have hcz84_1 : w74.cell? ⟨gb276, 1, none⟩ = some (.slice Ao24 t271.length co24) := (blk_cell BK276.out 1).trans rfl
         have hcz84_2 : w74.cell? ⟨gb276, 2, none⟩ = some (.int .i64 t274) := (blk_cell BK276.out 2).trans rfl
         have hfz84_0 := blk_frozen BK276.out 0
         have hfz84_1 := blk_frozen BK276.out 1
         have hfz84_2 := blk_frozen BK276.out 2
         go_wp2_with (first | (go_at_call 27; (with_reducible refine (laws_eqTable.calls kj10 _ _ t285 _ _ t288 t291 _ _ t268 _ _ t271 t274 true _ ?side1 ?side2 ?side3 ?side4 ?side5 ?side6 ?side7 ?side8 A76.out).mono ?_); (case side1 => repeat (first | exact (rr HO_294000.out).2.2 | (with_reducible refine Kd.C_alloc ?_ _) | (with_reducible refine Kd.C_drewN ?_ _) | (with_reducible refine Kd.C_drew ?_))); (case side2 => exact (rr HO_294000.out).2.1); (case side3 => repeat (first | exact (rr HO_294001.out).2.2 | (with_reducible refine Kd.C_alloc ?_ _) | (with_reducible refine Kd.C_drewN ?_ _) | (with_reducible refine Kd.C_drew ?_))); (case side4 => exact (rr HO_294001.out).2.1); (case side5 => repeat (first | exact (rr HO_277000.out).2.2 | (with_reducible refine Kd.C_alloc ?_ _) | (with_reducible refine Kd.C_drewN ?_ _) | (with_reducible refine Kd.C_drew ?_))); (case side6 => exact (rr HO_277000.out).2.1); (case side7 => repeat (first | exact (rr HO_277001.out).2.2 | (with_reducible refine Kd.C_alloc ?_ _) | (with_reducible refine Kd.C_drewN ?_ _) | (with_reducible refine Kd.C_drew ?_))); (case side8 => exact (rr HO_277001.out).2.1); rintro e w85 ⟨rfl, hb⟩; have n0_ := am (rb (by (with_reducible repeat (first | apply ra | apply rn | apply rd)); exact HO_277000.out) hb); have n1_ := am (rb (by (with_reducible repeat (first | apply ra | apply rn | apply rd)); exact HO_277001.out) hb); have n2_ := am (rb (by (with_reducible repeat (first | apply ra | apply rn | apply rd)); exact HO_285000.out) hb); have n3_ := am (rb (by (with_reducible repeat (first | apply ra | apply rn | apply rd)); exact HO_285001.out) hb); have n4_ := am (rb (by (with_reducible repeat (first | apply ra | apply rn | apply rd)); exact HO_294000.out) hb); have n5_ := am (rb (by (with_reducible repeat (first | apply ra | apply rn | apply rd)); exact HO_294001.out) hb); have n6_ := am (rb (by (with_reducible repeat (first | apply ra | apply rn | apply rd)); exact HO297.out) hb); have n7_ := am (rb (by (with_reducible repeat (first | apply ra | apply rn | apply rd)); exact HO300.out) hb); have n8_ := am (bb (g := gb259) (o := .cells #[.slice A0_0 l0_0.length c0_0, .slice A0_1 l0_1.length c0_1, .int .i64 a0_2] 42 (0, 0)) (by (with_reducible repeat (first | refine bn ?_ _ | refine bd ?_ | refine ba ?_ _)); exact BK259.out) hb); have n9_ := am (bb (g := gb276) (o := .cells #[.slice Ao21 t268.length co21, .slice Ao24 t271.length co24, .int .i64 t274] 26 (0, 0)) (by (with_reducible repeat (first | refine bn ?_ _ | refine bd ?_ | refine ba ?_ _)); exact BK276.out) hb); have n10_ := am (bb (g := gb284) (o := .cells #[.slice Ao28 t277.length co28, .slice Ao32 t280.length co32, .int .i64 t283] 26 (0, 0)) (by (with_reducible repeat (first | refine bn ?_ _ | refine bd ?_ | refine ba ?_ _)); exact BK284.out) hb); have n11_ := am (bb (g := gb293) (o := .cells #[.slice Ao35 t285.length co35, .slice Ao40 t288.length co40, .int .i64 t291] 26 (0, 0)) (by (with_reducible repeat (first | refine bn ?_ _ | refine bd ?_ | refine ba ?_ _)); exact BK293.out) hb); have n12_ := am (bs (by repeat (first | (with_reducible first | exact HB.out | apply wa | apply wn | apply wd | refine ws ?_ GE259.out | refine ws ?_ GE276.out | refine ws ?_ GE284.out | refine ws ?_ GE293.out) | exact HB.out)) hb); clear HO_277000; clear HO_277001; clear HO_285000; clear HO_285001; clear HO_294000; clear HO_294001; clear HO297; clear HO300; clear BK259; clear BK276; clear BK284; clear BK293; clear HB; have HO_277000 := n0_; have HO_277001 := n1_; have HO_285000 := n2_; have HO_285001 := n3_; have HO_294000 := n4_; have HO_294001 := n5_; have HO297 := n6_; have HO300 := n7_; have BK259 := n8_; have BK276 := n9_; have BK284 := n10_; have BK293 := n11_; have HB := n12_; clear n0_ n1_ n2_ n3_ n4_ n5_ n6_ n7_ n8_ n9_ n10_ n11_ n12_; (try clear hb); (try clear hb2); (try clear hk); (try clear hi)))
         go_meet
         case rel => exact ⟨_, ((t292 != t275)), (by first | rfl | (simp; done) | (simp [*]; done) | (simp; generalize ByteArray.toList _ = z; cases z <;> rfl)), H', ⟨by have := HJ10.out; first | omega | exact Nat.le_refl _⟩, ⟨by (with_reducible repeat (first | apply ra | apply rn | apply rd)); exact rm HO_277000.out (fun _ hk => by simp [hk])⟩, ⟨by (with_reducible repeat (first | apply ra | apply rn | apply rd)); exact rm HO_277001.out (fun _ hk => by simp [hk])⟩, ⟨by (with_reducible repeat (first | apply ra | apply rn | apply rd)); exact rm HO_285000.out (fun _ hk => by simp [hk])⟩, ⟨by (with_reducible repeat (first | apply ra | apply rn | apply rd)); exact rm HO_285001.out (fun _ hk => by simp [hk])⟩, ⟨by (with_reducible repeat (first | apply ra | apply rn | apply rd)); exact rm HO_294000.out (fun _ hk => by simp [hk])⟩, ⟨by (with_reducible repeat (first | apply ra | apply rn | apply rd)); exact rm HO_294001.out (fun _ hk => by simp [hk])⟩, ⟨by (with_reducible repeat (first | refine bn ?_ _ | refine bd ?_ | refine ba ?_ _)); exact BK259.out⟩, ⟨by (with_reducible repeat (first | refine bn ?_ _ | refine bd ?_ | refine ba ?_ _)); exact BK276.out⟩, ⟨by (with_reducible repeat (first | refine bn ?_ _ | refine bd ?_ | refine ba ?_ _)); exact BK284.out⟩, ⟨by (with_reducible repeat (first | refine bn ?_ _ | refine bd ?_ | refine ba ?_ _)); exact BK293.out⟩, ⟨by repeat (first | (with_reducible first | exact HB.out | apply wa | apply wn | apply wd | refine ws ?_ GE259.out | refine ws ?_ GE276.out | refine ws ?_ GE284.out | refine ws ?_ GE293.out) | exact HB.out)⟩⟩
        ·replace c77 := Bool.eq_false_iff.mpr c77
         subst c77
         have H1 : (laws_FnExactGrowTable.j1 kj10 t275 true l0_0 l0_1 a0_2 t268 t271 t274 t285 t288 t291) = some r := by rw [if_neg (show ¬ (false = true) by decide)] at H; exact H
         clear H
         have H := H1
         clear H1
         have H' := am H
         clear H
         have hnb86 := NB293_259.out
         have hnc86 := NB259_293.out
         have hnb87 := NB293_276.out
         have hnc87 := NB276_293.out
         have hnb88 := NB293_284.out
         have hnc88 := NB284_293.out
         have hcz89_0 : w74.cell? ⟨gb293, 0, none⟩ = some (.slice Ao35 t285.length co35) := (blk_cell BK293.out 0).trans rfl
         have hcz89_1 : w74.cell? ⟨gb293, 1, none⟩ = some (.slice Ao40 t288.length co40) := (blk_cell BK293.out 1).trans rfl
         have hcz89_2 : w74.cell? ⟨gb293, 2, none⟩ = some (.int .i64 t291) := (blk_cell BK293.out 2).trans rfl
         have hfz89_0 := blk_frozen BK293.out 0
         have hfz89_1 := blk_frozen BK293.out 1
         have hfz89_2 := blk_frozen BK293.out 2
         have hnb90 := NB276_259.out
         have hnc90 := NB259_276.out
         have hnb91 := NB276_284.out
         have hnc91 := NB284_276.out
         have hcz92_0 : w74.cell? ⟨gb276, 0, none⟩ = some (.slice Ao21 t268.length co21) := (blk_cell BK276.out 0).trans rfl
         have hcz92_1 : w74.cell? ⟨gb276, 1, none⟩ = some (.slice Ao24 t271.length co24) := (blk_cell BK276.out 1).trans rfl
         have hcz92_2 : w74.cell? ⟨gb276, 2, none⟩ = some (.int .i64 t274) := (blk_cell BK276.out 2).trans rfl
         have hfz92_0 := blk_frozen BK276.out 0
         have hfz92_1 := blk_frozen BK276.out 1
         have hfz92_2 := blk_frozen BK276.out 2
         go_wp2_with (first | (go_at_call 27; (with_reducible refine (laws_eqTable.calls kj10 _ _ t285 _ _ t288 t291 _ _ t268 _ _ t271 t274 false _ ?side1 ?side2 ?side3 ?side4 ?side5 ?side6 ?side7 ?side8 A76.out).mono ?_); (case side1 => repeat (first | exact (rr HO_294000.out).2.2 | (with_reducible refine Kd.C_alloc ?_ _) | (with_reducible refine Kd.C_drewN ?_ _) | (with_reducible refine Kd.C_drew ?_))); (case side2 => exact (rr HO_294000.out).2.1); (case side3 => repeat (first | exact (rr HO_294001.out).2.2 | (with_reducible refine Kd.C_alloc ?_ _) | (with_reducible refine Kd.C_drewN ?_ _) | (with_reducible refine Kd.C_drew ?_))); (case side4 => exact (rr HO_294001.out).2.1); (case side5 => repeat (first | exact (rr HO_277000.out).2.2 | (with_reducible refine Kd.C_alloc ?_ _) | (with_reducible refine Kd.C_drewN ?_ _) | (with_reducible refine Kd.C_drew ?_))); (case side6 => exact (rr HO_277000.out).2.1); (case side7 => repeat (first | exact (rr HO_277001.out).2.2 | (with_reducible refine Kd.C_alloc ?_ _) | (with_reducible refine Kd.C_drewN ?_ _) | (with_reducible refine Kd.C_drew ?_))); (case side8 => exact (rr HO_277001.out).2.1); rintro e w93 ⟨rfl, hb⟩; have n0_ := am (rb (by (with_reducible repeat (first | apply ra | apply rn | apply rd)); exact HO_277000.out) hb); have n1_ := am (rb (by (with_reducible repeat (first | apply ra | apply rn | apply rd)); exact HO_277001.out) hb); have n2_ := am (rb (by (with_reducible repeat (first | apply ra | apply rn | apply rd)); exact HO_285000.out) hb); have n3_ := am (rb (by (with_reducible repeat (first | apply ra | apply rn | apply rd)); exact HO_285001.out) hb); have n4_ := am (rb (by (with_reducible repeat (first | apply ra | apply rn | apply rd)); exact HO_294000.out) hb); have n5_ := am (rb (by (with_reducible repeat (first | apply ra | apply rn | apply rd)); exact HO_294001.out) hb); have n6_ := am (rb (by (with_reducible repeat (first | apply ra | apply rn | apply rd)); exact HO297.out) hb); have n7_ := am (rb (by (with_reducible repeat (first | apply ra | apply rn | apply rd)); exact HO300.out) hb); have n8_ := am (bb (g := gb259) (o := .cells #[.slice A0_0 l0_0.length c0_0, .slice A0_1 l0_1.length c0_1, .int .i64 a0_2] 42 (0, 0)) (by (with_reducible repeat (first | refine bn ?_ _ | refine bd ?_ | refine ba ?_ _)); exact BK259.out) hb); have n9_ := am (bb (g := gb276) (o := .cells #[.slice Ao21 t268.length co21, .slice Ao24 t271.length co24, .int .i64 t274] 26 (0, 0)) (by (with_reducible repeat (first | refine bn ?_ _ | refine bd ?_ | refine ba ?_ _)); exact BK276.out) hb); have n10_ := am (bb (g := gb284) (o := .cells #[.slice Ao28 t277.length co28, .slice Ao32 t280.length co32, .int .i64 t283] 26 (0, 0)) (by (with_reducible repeat (first | refine bn ?_ _ | refine bd ?_ | refine ba ?_ _)); exact BK284.out) hb); have n11_ := am (bb (g := gb293) (o := .cells #[.slice Ao35 t285.length co35, .slice Ao40 t288.length co40, .int .i64 t291] 26 (0, 0)) (by (with_reducible repeat (first | refine bn ?_ _ | refine bd ?_ | refine ba ?_ _)); exact BK293.out) hb); have n12_ := am (bs (by repeat (first | (with_reducible first | exact HB.out | apply wa | apply wn | apply wd | refine ws ?_ GE259.out | refine ws ?_ GE276.out | refine ws ?_ GE284.out | refine ws ?_ GE293.out) | exact HB.out)) hb); clear HO_277000; clear HO_277001; clear HO_285000; clear HO_285001; clear HO_294000; clear HO_294001; clear HO297; clear HO300; clear BK259; clear BK276; clear BK284; clear BK293; clear HB; have HO_277000 := n0_; have HO_277001 := n1_; have HO_285000 := n2_; have HO_285001 := n3_; have HO_294000 := n4_; have HO_294001 := n5_; have HO297 := n6_; have HO300 := n7_; have BK259 := n8_; have BK276 := n9_; have BK284 := n10_; have BK293 := n11_; have HB := n12_; clear n0_ n1_ n2_ n3_ n4_ n5_ n6_ n7_ n8_ n9_ n10_ n11_ n12_; (try clear hb); (try clear hb2); (try clear hk); (try clear hi)))
         go_meet
         case rel => exact ⟨_, (true), (by first | rfl | (simp; done) | (simp [*]; done) | (simp; generalize ByteArray.toList _ = z; cases z <;> rfl)), H', ⟨by have := HJ10.out; first | omega | exact Nat.le_refl _⟩, ⟨by (with_reducible repeat (first | apply ra | apply rn | apply rd)); exact rm HO_277000.out (fun _ hk => by simp [hk])⟩, ⟨by (with_reducible repeat (first | apply ra | apply rn | apply rd)); exact rm HO_277001.out (fun _ hk => by simp [hk])⟩, ⟨by (with_reducible repeat (first | apply ra | apply rn | apply rd)); exact rm HO_285000.out (fun _ hk => by simp [hk])⟩, ⟨by (with_reducible repeat (first | apply ra | apply rn | apply rd)); exact rm HO_285001.out (fun _ hk => by simp [hk])⟩, ⟨by (with_reducible repeat (first | apply ra | apply rn | apply rd)); exact rm HO_294000.out (fun _ hk => by simp [hk])⟩, ⟨by (with_reducible repeat (first | apply ra | apply rn | apply rd)); exact rm HO_294001.out (fun _ hk => by simp [hk])⟩, ⟨by (with_reducible repeat (first | refine bn ?_ _ | refine bd ?_ | refine ba ?_ _)); exact BK259.out⟩, ⟨by (with_reducible repeat (first | refine bn ?_ _ | refine bd ?_ | refine ba ?_ _)); exact BK276.out⟩, ⟨by (with_reducible repeat (first | refine bn ?_ _ | refine bd ?_ | refine ba ?_ _)); exact BK284.out⟩, ⟨by (with_reducible repeat (first | refine bn ?_ _ | refine bd ?_ | refine ba ?_ _)); exact BK293.out⟩, ⟨by repeat (first | (with_reducible first | exact HB.out | apply wa | apply wn | apply wd | refine ws ?_ GE259.out | refine ws ?_ GE276.out | refine ws ?_ GE284.out | refine ws ?_ GE293.out) | exact HB.out)⟩⟩
      case rest =>
       clear HC64
       try clear c1
       try clear c2
       try clear p2
       try clear c3
       try clear c3b0
       try clear c4
       try clear c5
       try clear c6
       try clear c7
       try clear c8
       try clear c9
       try clear c17
       try clear c22
       try clear c24
       try clear c26
       try clear c27
       try clear c29
       try clear c30
       try clear c36
       try clear c37
       try clear c38
       try clear c42
       try clear c43
       try clear c44
       try clear c45
       try clear c47
       try clear c48
       try clear c51
       try clear c52
       try clear c53
       try clear c55
       try clear c56
       try clear c59
       try clear c62
       try clear c70
       try clear c71
       try clear c72
       try clear c75
       try clear c75b0
       try clear c77
       try clear c78
       try clear c79
       try clear c80
       try clear c82
       try clear c83
       try clear c86
       try clear c87
       try clear c88
       try clear c90
       try clear c91
       try clear hcz13_0
       try clear hcz13_1
       try clear hcz13_2
       try clear hcz15_0
       try clear hcz15_1
       try clear hcz15_2
       try clear hcz23_0
       try clear hcz23_1
       try clear hcz23_2
       try clear hcz25_0
       try clear hcz25_1
       try clear hcz25_2
       try clear hcz31_0
       try clear hcz31_1
       try clear hcz31_2
       try clear hcz39_0
       try clear hcz39_1
       try clear hcz39_2
       try clear hcz46_0
       try clear hcz46_1
       try clear hcz46_2
       try clear hcz49_0
       try clear hcz49_1
       try clear hcz49_2
       try clear hcz54_0
       try clear hcz54_1
       try clear hcz54_2
       try clear hcz57_0
       try clear hcz57_1
       try clear hcz57_2
       try clear hcz5_0
       try clear hcz5_1
       try clear hcz5_2
       try clear hcz73_0
       try clear hcz73_1
       try clear hcz73_2
       try clear hcz81_0
       try clear hcz81_1
       try clear hcz81_2
       try clear hcz84_0
       try clear hcz84_1
       try clear hcz84_2
       try clear hcz89_0
       try clear hcz89_1
       try clear hcz89_2
       try clear hcz92_0
       try clear hcz92_1
       try clear hcz92_2
       try clear hfz13_0
       try clear hfz13_1
       try clear hfz13_2
       try clear hfz15_0
       try clear hfz15_1
       try clear hfz15_2
       try clear hfz23_0
       try clear hfz23_1
       try clear hfz23_2
       try clear hfz25_0
       try clear hfz25_1
       try clear hfz25_2
       try clear hfz31_0
       try clear hfz31_1
       try clear hfz31_2
       try clear hfz39_0
       try clear hfz39_1
       try clear hfz39_2
       try clear hfz46_0
       try clear hfz46_1
       try clear hfz46_2
       try clear hfz49_0
       try clear hfz49_1
       try clear hfz49_2
       try clear hfz54_0
       try clear hfz54_1
       try clear hfz54_2
       try clear hfz57_0
       try clear hfz57_1
       try clear hfz57_2
       try clear hfz5_0
       try clear hfz5_1
       try clear hfz5_2
       try clear hfz73_0
       try clear hfz73_1
       try clear hfz73_2
       try clear hfz81_0
       try clear hfz81_1
       try clear hfz81_2
       try clear hfz84_0
       try clear hfz84_1
       try clear hfz84_2
       try clear hfz89_0
       try clear hfz89_1
       try clear hfz89_2
       try clear hfz92_0
       try clear hfz92_1
       try clear hfz92_2
       try clear p2
       obtain ⟨kq, x61_63, rfl, HA, HJ63, HO_277000, HO_277001, HO_285000, HO_285001, HO_294000, HO_294001, BK259, BK276, BK284, BK293, HB⟩ := hcut
       have hl285000_63 := (rr HO_285000.out).1
       rw [hl285000_63] at HO_285000
       (try simp only [hl285000_63])
       (try simp only [hl285000_63] at BK259)
       (try simp only [hl285000_63] at BK276)
       (try simp only [hl285000_63] at BK284)
       (try simp only [hl285000_63] at BK293)
       (try simp only [hl285000_63] at HO_277000)
       (try simp only [hl285000_63] at HO_277001)
       (try simp only [hl285000_63] at HO_285001)
       (try simp only [hl285000_63] at HO_294000)
       (try simp only [hl285000_63] at HO_294001)
       have hl285001_63 := (rr HO_285001.out).1
       rw [hl285001_63] at HO_285001
       (try simp only [hl285001_63])
       (try simp only [hl285001_63] at BK259)
       (try simp only [hl285001_63] at BK276)
       (try simp only [hl285001_63] at BK284)
       (try simp only [hl285001_63] at BK293)
       (try simp only [hl285001_63] at HO_277000)
       (try simp only [hl285001_63] at HO_277001)
       (try simp only [hl285001_63] at HO_285000)
       (try simp only [hl285001_63] at HO_294000)
       (try simp only [hl285001_63] at HO_294001)
       cases kq with
       | zero => exact absurd HA.out (by simp [laws_FnExactGrowTable.j1])
       | succ kj63 =>
        have H := HA.out
        clear HA
        simp only [laws_FnExactGrowTable.j1] at H
        by_cases c94 : x61_63 = true
        ·subst c94
         have H1 : (some false) = some r := by rw [if_pos rfl] at H; exact H
         clear H
         have H := H1
         clear H1
         obtain rfl := Option.some.inj H
         go_wp2
         go_ret
         exact ⟨by first | rfl | (simp [errW_none, errW_some] <;> rfl) | (simp [*, errW_none, errW_some] <;> rfl), by repeat (first | (with_reducible first | exact HB.out | apply wa | apply wn | apply wd | refine ws ?_ GE259.out | refine ws ?_ GE276.out | refine ws ?_ GE284.out | refine ws ?_ GE293.out) | exact HB.out)⟩
        ·replace c94 := Bool.eq_false_iff.mpr c94
         subst c94
         have H1 : ((laws_markTable.f kj63 t285 t288 t291 1).bind fun bt307 => ((laws_heldTable.f kj63 bt307.2.1 bt307.2.2 t291 1).bind fun t310 => (if t310 < 0 then (some false) else (if t310 = bt307.1 then ((laws_toTable.f kj63 l0_0 l0_1 a0_2).bind fun bt311 => ((impl_GrowTable.f kj63 bt311.1 bt311.2.1 bt311.2.2).bind fun bt318 => ((laws_eqTable.f kj63 bt318.1 bt318.2.1 bt318.2.2.1 t268 t271 t274).bind fun t327 => (if t327 = true then (laws_FnExactGrowTable.j2 kj63 bt307.1 (bt318.2.2.2 != t275) bt307.2.1 bt307.2.2 t291) else (laws_FnExactGrowTable.j2 kj63 bt307.1 true bt307.2.1 bt307.2.2 t291))))) else (some false))))) = some r := by rw [if_neg (show ¬ (false = true) by decide)] at H; exact H
         clear H
         have H := H1
         clear H1
         replace H := Option.bind_eq_some_iff.mp H
         obtain ⟨⟨t307, t308, t309⟩, A950, H⟩ := H
         replace H : ((laws_heldTable.f kj63 t308 t309 t291 1).bind fun t310 => (if t310 < 0 then (some false) else (if t310 = t307 then ((laws_toTable.f kj63 l0_0 l0_1 a0_2).bind fun bt311 => ((impl_GrowTable.f kj63 bt311.1 bt311.2.1 bt311.2.2).bind fun bt318 => ((laws_eqTable.f kj63 bt318.1 bt318.2.1 bt318.2.2.1 t268 t271 t274).bind fun t327 => (if t327 = true then (laws_FnExactGrowTable.j2 kj63 t307 (bt318.2.2.2 != t275) t308 t309 t291) else (laws_FnExactGrowTable.j2 kj63 t307 true t308 t309 t291))))) else (some false)))) = some r := H
         have A95 := am A950
         clear A950
         replace H := Option.bind_eq_some_iff.mp H
         obtain ⟨t310, A960, H⟩ := H
         replace H : (if t310 < 0 then (some false) else (if t310 = t307 then ((laws_toTable.f kj63 l0_0 l0_1 a0_2).bind fun bt311 => ((impl_GrowTable.f kj63 bt311.1 bt311.2.1 bt311.2.2).bind fun bt318 => ((laws_eqTable.f kj63 bt318.1 bt318.2.1 bt318.2.2.1 t268 t271 t274).bind fun t327 => (if t327 = true then (laws_FnExactGrowTable.j2 kj63 t307 (bt318.2.2.2 != t275) t308 t309 t291) else (laws_FnExactGrowTable.j2 kj63 t307 true t308 t309 t291))))) else (some false))) = some r := H
         have A96 := am A960
         clear A960
         by_cases c97 : t310 < 0
         ·rw [if_pos c97] at H
          have c97b0 : decide (t310 < 0) = true := decide_eq_true c97
          clear c97
          obtain rfl := Option.some.inj H
          have hnb98 := NB293_259.out
          have hnc98 := NB259_293.out
          have hnb99 := NB293_276.out
          have hnc99 := NB276_293.out
          have hnb100 := NB293_284.out
          have hnc100 := NB284_293.out
          have hcz101_0 : wc.cell? ⟨gb293, 0, none⟩ = some (.slice Ao35 t285.length co35) := (blk_cell BK293.out 0).trans rfl
          have hcz101_1 : wc.cell? ⟨gb293, 1, none⟩ = some (.slice Ao40 t288.length co40) := (blk_cell BK293.out 1).trans rfl
          have hcz101_2 : wc.cell? ⟨gb293, 2, none⟩ = some (.int .i64 t291) := (blk_cell BK293.out 2).trans rfl
          have hfz101_0 := blk_frozen BK293.out 0
          have hfz101_1 := blk_frozen BK293.out 1
          have hfz101_2 := blk_frozen BK293.out 2
          go_wp2_with (first | ((with_reducible refine gate_callee (f := 30) rfl ?_); refine goesL_ (some 64) rfl rfl Try.func30 (by kernel_rfl) rfl #[.agg #[.slice Ao35 t285.length co35, .slice Ao40 t288.length co40, .int .i64 t291], .int .i64 1] rfl (by (try simp only [List.map_toArray, List.map_cons, List.map_nil]); first | done | rfl | (simp only [List.length_drop, List.length_take]; rfl)) ?_; (with_reducible refine (laws_markTable.calls kj63 (fun k_ => some k_ = (.slice Ao35 t285.length co35 : Value).ownBlock) (.slice Ao35 t285.length co35) t285 (fun k_ => some k_ = (.slice Ao40 t288.length co40 : Value).ownBlock) (.slice Ao40 t288.length co40) t288 t291 1 t307 t308 t309 w _ ?side1 ?side2 ?side3 ?side4 ?side5 A95.out).mono ?_); (case side1 => repeat (first | (with_reducible first | exact HB.out | apply wa | apply wn | apply wd | refine ws ?_ GE259.out | refine ws ?_ GE276.out | refine ws ?_ GE284.out | refine ws ?_ GE293.out) | exact HB.out)); (case side2 => exact Kd.R_tight rfl HO_294000.out); (case side3 => first | exact fun k_ e_ => (HO_294000.out.1 k_ e_.symm).2.2.2.2 | exact fun k_ e_ hs_ => by have hh_ := HO_294000.out.1 k_ e_.symm; revert hh_; simp [hs_]); (case side4 => exact Kd.R_tight rfl HO_294001.out); (case side5 => first | exact fun k_ e_ => (HO_294001.out.1 k_ e_.symm).2.2.2.2 | exact fun k_ e_ hs_ => by have hh_ := HO_294001.out.1 k_ e_.symm; revert hh_; simp [hs_]); rintro e w102 ⟨rfl, hy0, hy1, hb, hkp⟩; refine ⟨_, rfl, ?_⟩; have n0_ := am (rm (ok' := fun k_ => some k_ ≠ (.slice Ao24 t271.length co24 : Value).ownBlock ∧ some k_ ≠ (.slice Ao28 t304.length co28 : Value).ownBlock ∧ some k_ ≠ (.slice Ao32 t305.length co32 : Value).ownBlock ∧ some k_ ≠ (.slice Ao35 t285.length co35 : Value).ownBlock ∧ some k_ ≠ (.slice Ao40 t288.length co40 : Value).ownBlock) (rk (HO_277000.out) hkp (fun k_ hk_ hs_ => by rcases hs_ with e_ | e_ <;> (revert hk_; simp [e_]))) (fun k_ hk_ => by simp [hk_])); have n1_ := am (rm (ok' := fun k_ => some k_ ≠ (.slice Ao21 t268.length co21 : Value).ownBlock ∧ some k_ ≠ (.slice Ao28 t304.length co28 : Value).ownBlock ∧ some k_ ≠ (.slice Ao32 t305.length co32 : Value).ownBlock ∧ some k_ ≠ (.slice Ao35 t285.length co35 : Value).ownBlock ∧ some k_ ≠ (.slice Ao40 t288.length co40 : Value).ownBlock) (rk (HO_277001.out) hkp (fun k_ hk_ hs_ => by rcases hs_ with e_ | e_ <;> (revert hk_; simp [e_]))) (fun k_ hk_ => by simp [hk_])); have n2_ := am (rm (ok' := fun k_ => some k_ ≠ (.slice Ao21 t268.length co21 : Value).ownBlock ∧ some k_ ≠ (.slice Ao24 t271.length co24 : Value).ownBlock ∧ some k_ ≠ (.slice Ao32 t305.length co32 : Value).ownBlock ∧ some k_ ≠ (.slice Ao35 t285.length co35 : Value).ownBlock ∧ some k_ ≠ (.slice Ao40 t288.length co40 : Value).ownBlock) (rk (HO_285000.out) hkp (fun k_ hk_ hs_ => by rcases hs_ with e_ | e_ <;> (revert hk_; simp [e_]))) (fun k_ hk_ => by simp [hk_])); have n3_ := am (rm (ok' := fun k_ => some k_ ≠ (.slice Ao21 t268.length co21 : Value).ownBlock ∧ some k_ ≠ (.slice Ao24 t271.length co24 : Value).ownBlock ∧ some k_ ≠ (.slice Ao28 t304.length co28 : Value).ownBlock ∧ some k_ ≠ (.slice Ao35 t285.length co35 : Value).ownBlock ∧ some k_ ≠ (.slice Ao40 t288.length co40 : Value).ownBlock) (rk (HO_285001.out) hkp (fun k_ hk_ hs_ => by rcases hs_ with e_ | e_ <;> (revert hk_; simp [e_]))) (fun k_ hk_ => by simp [hk_])); have n4_ := am (Kd.R_reok rfl hy0 (fun k_ e_ => HO_294000.out.1 k_ e_)); have n5_ := am (Kd.R_reok rfl hy1 (fun k_ e_ => HO_294001.out.1 k_ e_)); have n6_ := am (bk (by (with_reducible repeat (first | refine bn ?_ _ | refine bd ?_ | refine ba ?_ _)); exact BK259.out) hkp (fun hs_ => Or.elim hs_ (fun e_ => (fun e_ => (Kd.R_ne HO_294000.out BK259.out (by decide)) e_) e_) (fun e_ => (fun e_ => (Kd.R_ne HO_294001.out BK259.out (by decide)) e_) e_))); have n7_ := am (bk (by (with_reducible repeat (first | refine bn ?_ _ | refine bd ?_ | refine ba ?_ _)); exact BK276.out) hkp (fun hs_ => Or.elim hs_ (fun e_ => (fun e_ => (Kd.R_ne HO_294000.out BK276.out (by decide)) e_) e_) (fun e_ => (fun e_ => (Kd.R_ne HO_294001.out BK276.out (by decide)) e_) e_))); have n8_ := am (bk (by (with_reducible repeat (first | refine bn ?_ _ | refine bd ?_ | refine ba ?_ _)); exact BK284.out) hkp (fun hs_ => Or.elim hs_ (fun e_ => (fun e_ => (Kd.R_ne HO_294000.out BK284.out (by decide)) e_) e_) (fun e_ => (fun e_ => (Kd.R_ne HO_294001.out BK284.out (by decide)) e_) e_))); have n9_ := am (bk (by (with_reducible repeat (first | refine bn ?_ _ | refine bd ?_ | refine ba ?_ _)); exact BK293.out) hkp (fun hs_ => Or.elim hs_ (fun e_ => (fun e_ => (Kd.R_ne HO_294000.out BK293.out (by decide)) e_) e_) (fun e_ => (fun e_ => (Kd.R_ne HO_294001.out BK293.out (by decide)) e_) e_))); have n10_ := am (hb); clear HO_277000; clear HO_277001; clear HO_285000; clear HO_285001; clear HO_294000; clear HO_294001; clear BK259; clear BK276; clear BK284; clear BK293; clear HB; have HO_277000 := n0_; have HO_277001 := n1_; have HO_285000 := n2_; have HO_285001 := n3_; have HO_294000 := n4_; have HO_294001 := n5_; have BK259 := n6_; have BK276 := n7_; have BK284 := n8_; have BK293 := n9_; have HB := n10_; clear n0_ n1_ n2_ n3_ n4_ n5_ n6_ n7_ n8_ n9_ n10_; (try clear hb); (try clear hkp); (try clear hy0); (try clear hy1); have hcz103_0 : w102.cell? ⟨gb293, 0, none⟩ = some (.slice Ao35 t285.length co35) := (blk_cell BK293.out 0).trans rfl; have hcz103_1 : w102.cell? ⟨gb293, 1, none⟩ = some (.slice Ao40 t288.length co40) := (blk_cell BK293.out 1).trans rfl; have hcz103_2 : w102.cell? ⟨gb293, 2, none⟩ = some (.int .i64 t291) := (blk_cell BK293.out 2).trans rfl; have hfz103_0 := blk_frozen BK293.out 0; have hfz103_1 := blk_frozen BK293.out 1; have hfz103_2 := blk_frozen BK293.out 2) | ((with_reducible refine gate_callee (f := 35) rfl ?_); refine goesL_ (some 67) rfl rfl Try.func35 (by kernel_rfl) rfl #[.agg #[.slice Ao35 t308.length co35, .slice Ao40 t309.length co40, .int .i64 t291], .int .i64 1] rfl (by (try simp only [List.map_toArray, List.map_cons, List.map_nil]); first | done | (rw [show t308.length = t285.length from (rr HO_294000.out).1.symm, show t309.length = t288.length from (rr HO_294001.out).1.symm] <;> rfl) | rfl | (simp only [List.length_drop, List.length_take]; rfl)) ?_; (with_reducible refine (laws_heldTable.calls kj63 _ _ t308 _ _ t309 t291 1 t310 _ ?side1 ?side2 ?side3 ?side4 A96.out).mono ?_); (case side1 => repeat (first | exact (rr HO_294000.out).2.2 | (with_reducible refine Kd.C_alloc ?_ _) | (with_reducible refine Kd.C_drewN ?_ _) | (with_reducible refine Kd.C_drew ?_))); (case side2 => rw [show t308.length = t285.length from (rr HO_294000.out).1.symm]; exact (rr HO_294000.out).2.1); (case side3 => repeat (first | exact (rr HO_294001.out).2.2 | (with_reducible refine Kd.C_alloc ?_ _) | (with_reducible refine Kd.C_drewN ?_ _) | (with_reducible refine Kd.C_drew ?_))); (case side4 => rw [show t309.length = t288.length from (rr HO_294001.out).1.symm]; exact (rr HO_294001.out).2.1); rintro e w104 ⟨rfl, hb⟩; refine ⟨_, rfl, ?_⟩; have n0_ := am (rb (by (with_reducible repeat (first | apply ra | apply rn | apply rd)); exact HO_277000.out) hb); have n1_ := am (rb (by (with_reducible repeat (first | apply ra | apply rn | apply rd)); exact HO_277001.out) hb); have n2_ := am (rb (by (with_reducible repeat (first | apply ra | apply rn | apply rd)); exact HO_285000.out) hb); have n3_ := am (rb (by (with_reducible repeat (first | apply ra | apply rn | apply rd)); exact HO_285001.out) hb); have n4_ := am (rb (by (with_reducible repeat (first | apply ra | apply rn | apply rd)); exact HO_294000.out) hb); have n5_ := am (rb (by (with_reducible repeat (first | apply ra | apply rn | apply rd)); exact HO_294001.out) hb); have n6_ := am (bb (g := gb259) (o := .cells #[.slice A0_0 l0_0.length c0_0, .slice A0_1 l0_1.length c0_1, .int .i64 a0_2] 42 (0, 0)) (by (with_reducible repeat (first | refine bn ?_ _ | refine bd ?_ | refine ba ?_ _)); exact BK259.out) hb); have n7_ := am (bb (g := gb276) (o := .cells #[.slice Ao21 t268.length co21, .slice Ao24 t271.length co24, .int .i64 t274] 26 (0, 0)) (by (with_reducible repeat (first | refine bn ?_ _ | refine bd ?_ | refine ba ?_ _)); exact BK276.out) hb); have n8_ := am (bb (g := gb284) (o := .cells #[.slice Ao28 t304.length co28, .slice Ao32 t305.length co32, .int .i64 t283] 26 (0, 0)) (by (with_reducible repeat (first | refine bn ?_ _ | refine bd ?_ | refine ba ?_ _)); exact BK284.out) hb); have n9_ := am (bb (g := gb293) (o := .cells #[.slice Ao35 t285.length co35, .slice Ao40 t288.length co40, .int .i64 t291] 26 (0, 0)) (by (with_reducible repeat (first | refine bn ?_ _ | refine bd ?_ | refine ba ?_ _)); exact BK293.out) hb); have n10_ := am (bs (by repeat (first | (with_reducible first | exact HB.out | apply wa | apply wn | apply wd | refine ws ?_ GE259.out | refine ws ?_ GE276.out | refine ws ?_ GE284.out | refine ws ?_ GE293.out) | exact HB.out)) hb); clear HO_277000; clear HO_277001; clear HO_285000; clear HO_285001; clear HO_294000; clear HO_294001; clear BK259; clear BK276; clear BK284; clear BK293; clear HB; have HO_277000 := n0_; have HO_277001 := n1_; have HO_285000 := n2_; have HO_285001 := n3_; have HO_294000 := n4_; have HO_294001 := n5_; have BK259 := n6_; have BK276 := n7_; have BK284 := n8_; have BK293 := n9_; have HB := n10_; clear n0_ n1_ n2_ n3_ n4_ n5_ n6_ n7_ n8_ n9_ n10_; (try clear hb); (try clear hb2); (try clear hk); (try clear hi)))
          go_ret
          exact ⟨by first | rfl | (simp [errW_none, errW_some] <;> rfl) | (simp [*, errW_none, errW_some] <;> rfl), by repeat (first | (with_reducible first | exact HB.out | apply wa | apply wn | apply wd | refine ws ?_ GE259.out | refine ws ?_ GE276.out | refine ws ?_ GE284.out | refine ws ?_ GE293.out) | exact HB.out)⟩
         ·rw [if_neg c97] at H
          have c97b0 : decide (t310 < 0) = false := decide_eq_false c97
          clear c97
          by_cases c105 : t310 = t307
          ·rw [if_pos c105] at H
           have c105b0 : (t310 == t307) = true := beq_iff_eq.mpr c105
           have c105b1 : (t310 != t307) = false := bne_eq_false_iff_eq.mpr c105
           clear c105
           replace H := Option.bind_eq_some_iff.mp H
           obtain ⟨⟨t311, t314, t317⟩, A1060, H⟩ := H
           replace H : ((impl_GrowTable.f kj63 t311 t314 t317).bind fun bt318 => ((laws_eqTable.f kj63 bt318.1 bt318.2.1 bt318.2.2.1 t268 t271 t274).bind fun t327 => (if t327 = true then (laws_FnExactGrowTable.j2 kj63 t307 (bt318.2.2.2 != t275) t308 t309 t291) else (laws_FnExactGrowTable.j2 kj63 t307 true t308 t309 t291)))) = some r := H
           have A106 := am A1060
           clear A1060
           replace H := Option.bind_eq_some_iff.mp H
           obtain ⟨⟨t318, t321, t324, t325⟩, A1070, H⟩ := H
           replace H : ((laws_eqTable.f kj63 t318 t321 t324 t268 t271 t274).bind fun t327 => (if t327 = true then (laws_FnExactGrowTable.j2 kj63 t307 (t325 != t275) t308 t309 t291) else (laws_FnExactGrowTable.j2 kj63 t307 true t308 t309 t291))) = some r := H
           have A107 := am A1070
           clear A1070
           have HC108 := am H
           clear H
           have hnb109 := NB293_259.out
           have hnc109 := NB259_293.out
           have hnb110 := NB293_276.out
           have hnc110 := NB276_293.out
           have hnb111 := NB293_284.out
           have hnc111 := NB284_293.out
           have hcz112_0 : wc.cell? ⟨gb293, 0, none⟩ = some (.slice Ao35 t285.length co35) := (blk_cell BK293.out 0).trans rfl
           have hcz112_1 : wc.cell? ⟨gb293, 1, none⟩ = some (.slice Ao40 t288.length co40) := (blk_cell BK293.out 1).trans rfl
           have hcz112_2 : wc.cell? ⟨gb293, 2, none⟩ = some (.int .i64 t291) := (blk_cell BK293.out 2).trans rfl
           have hfz112_0 := blk_frozen BK293.out 0
           have hfz112_1 := blk_frozen BK293.out 1
           have hfz112_2 := blk_frozen BK293.out 2
           go_upto_region 25 with (first | ((with_reducible refine gate_callee (f := 30) rfl ?_); refine goesL_ (some 64) rfl rfl Try.func30 (by kernel_rfl) rfl #[.agg #[.slice Ao35 t285.length co35, .slice Ao40 t288.length co40, .int .i64 t291], .int .i64 1] rfl (by (try simp only [List.map_toArray, List.map_cons, List.map_nil]); first | done | rfl | (simp only [List.length_drop, List.length_take]; rfl)) ?_; (with_reducible refine (laws_markTable.calls kj63 (fun k_ => some k_ = (.slice Ao35 t285.length co35 : Value).ownBlock) (.slice Ao35 t285.length co35) t285 (fun k_ => some k_ = (.slice Ao40 t288.length co40 : Value).ownBlock) (.slice Ao40 t288.length co40) t288 t291 1 t307 t308 t309 w _ ?side1 ?side2 ?side3 ?side4 ?side5 A95.out).mono ?_); (case side1 => repeat (first | (with_reducible first | exact HB.out | apply wa | apply wn | apply wd | refine ws ?_ GE259.out | refine ws ?_ GE276.out | refine ws ?_ GE284.out | refine ws ?_ GE293.out) | exact HB.out)); (case side2 => exact Kd.R_tight rfl HO_294000.out); (case side3 => first | exact fun k_ e_ => (HO_294000.out.1 k_ e_.symm).2.2.2.2 | exact fun k_ e_ hs_ => by have hh_ := HO_294000.out.1 k_ e_.symm; revert hh_; simp [hs_]); (case side4 => exact Kd.R_tight rfl HO_294001.out); (case side5 => first | exact fun k_ e_ => (HO_294001.out.1 k_ e_.symm).2.2.2.2 | exact fun k_ e_ hs_ => by have hh_ := HO_294001.out.1 k_ e_.symm; revert hh_; simp [hs_]); rintro e w113 ⟨rfl, hy0, hy1, hb, hkp⟩; refine ⟨_, rfl, ?_⟩; have n0_ := am (rm (ok' := fun k_ => some k_ ≠ (.slice Ao24 t271.length co24 : Value).ownBlock ∧ some k_ ≠ (.slice Ao28 t304.length co28 : Value).ownBlock ∧ some k_ ≠ (.slice Ao32 t305.length co32 : Value).ownBlock ∧ some k_ ≠ (.slice Ao35 t285.length co35 : Value).ownBlock ∧ some k_ ≠ (.slice Ao40 t288.length co40 : Value).ownBlock) (rk (HO_277000.out) hkp (fun k_ hk_ hs_ => by rcases hs_ with e_ | e_ <;> (revert hk_; simp [e_]))) (fun k_ hk_ => by simp [hk_])); have n1_ := am (rm (ok' := fun k_ => some k_ ≠ (.slice Ao21 t268.length co21 : Value).ownBlock ∧ some k_ ≠ (.slice Ao28 t304.length co28 : Value).ownBlock ∧ some k_ ≠ (.slice Ao32 t305.length co32 : Value).ownBlock ∧ some k_ ≠ (.slice Ao35 t285.length co35 : Value).ownBlock ∧ some k_ ≠ (.slice Ao40 t288.length co40 : Value).ownBlock) (rk (HO_277001.out) hkp (fun k_ hk_ hs_ => by rcases hs_ with e_ | e_ <;> (revert hk_; simp [e_]))) (fun k_ hk_ => by simp [hk_])); have n2_ := am (rm (ok' := fun k_ => some k_ ≠ (.slice Ao21 t268.length co21 : Value).ownBlock ∧ some k_ ≠ (.slice Ao24 t271.length co24 : Value).ownBlock ∧ some k_ ≠ (.slice Ao32 t305.length co32 : Value).ownBlock ∧ some k_ ≠ (.slice Ao35 t285.length co35 : Value).ownBlock ∧ some k_ ≠ (.slice Ao40 t288.length co40 : Value).ownBlock) (rk (HO_285000.out) hkp (fun k_ hk_ hs_ => by rcases hs_ with e_ | e_ <;> (revert hk_; simp [e_]))) (fun k_ hk_ => by simp [hk_])); have n3_ := am (rm (ok' := fun k_ => some k_ ≠ (.slice Ao21 t268.length co21 : Value).ownBlock ∧ some k_ ≠ (.slice Ao24 t271.length co24 : Value).ownBlock ∧ some k_ ≠ (.slice Ao28 t304.length co28 : Value).ownBlock ∧ some k_ ≠ (.slice Ao35 t285.length co35 : Value).ownBlock ∧ some k_ ≠ (.slice Ao40 t288.length co40 : Value).ownBlock) (rk (HO_285001.out) hkp (fun k_ hk_ hs_ => by rcases hs_ with e_ | e_ <;> (revert hk_; simp [e_]))) (fun k_ hk_ => by simp [hk_])); have n4_ := am (Kd.R_reok rfl hy0 (fun k_ e_ => HO_294000.out.1 k_ e_)); have n5_ := am (Kd.R_reok rfl hy1 (fun k_ e_ => HO_294001.out.1 k_ e_)); have n6_ := am (bk (by (with_reducible repeat (first | refine bn ?_ _ | refine bd ?_ | refine ba ?_ _)); exact BK259.out) hkp (fun hs_ => Or.elim hs_ (fun e_ => (fun e_ => (Kd.R_ne HO_294000.out BK259.out (by decide)) e_) e_) (fun e_ => (fun e_ => (Kd.R_ne HO_294001.out BK259.out (by decide)) e_) e_))); have n7_ := am (bk (by (with_reducible repeat (first | refine bn ?_ _ | refine bd ?_ | refine ba ?_ _)); exact BK276.out) hkp (fun hs_ => Or.elim hs_ (fun e_ => (fun e_ => (Kd.R_ne HO_294000.out BK276.out (by decide)) e_) e_) (fun e_ => (fun e_ => (Kd.R_ne HO_294001.out BK276.out (by decide)) e_) e_))); have n8_ := am (bk (by (with_reducible repeat (first | refine bn ?_ _ | refine bd ?_ | refine ba ?_ _)); exact BK284.out) hkp (fun hs_ => Or.elim hs_ (fun e_ => (fun e_ => (Kd.R_ne HO_294000.out BK284.out (by decide)) e_) e_) (fun e_ => (fun e_ => (Kd.R_ne HO_294001.out BK284.out (by decide)) e_) e_))); have n9_ := am (bk (by (with_reducible repeat (first | refine bn ?_ _ | refine bd ?_ | refine ba ?_ _)); exact BK293.out) hkp (fun hs_ => Or.elim hs_ (fun e_ => (fun e_ => (Kd.R_ne HO_294000.out BK293.out (by decide)) e_) e_) (fun e_ => (fun e_ => (Kd.R_ne HO_294001.out BK293.out (by decide)) e_) e_))); have n10_ := am (hb); clear HO_277000; clear HO_277001; clear HO_285000; clear HO_285001; clear HO_294000; clear HO_294001; clear BK259; clear BK276; clear BK284; clear BK293; clear HB; have HO_277000 := n0_; have HO_277001 := n1_; have HO_285000 := n2_; have HO_285001 := n3_; have HO_294000 := n4_; have HO_294001 := n5_; have BK259 := n6_; have BK276 := n7_; have BK284 := n8_; have BK293 := n9_; have HB := n10_; clear n0_ n1_ n2_ n3_ n4_ n5_ n6_ n7_ n8_ n9_ n10_; (try clear hb); (try clear hkp); (try clear hy0); (try clear hy1); have hcz114_0 : w113.cell? ⟨gb293, 0, none⟩ = some (.slice Ao35 t285.length co35) := (blk_cell BK293.out 0).trans rfl; have hcz114_1 : w113.cell? ⟨gb293, 1, none⟩ = some (.slice Ao40 t288.length co40) := (blk_cell BK293.out 1).trans rfl; have hcz114_2 : w113.cell? ⟨gb293, 2, none⟩ = some (.int .i64 t291) := (blk_cell BK293.out 2).trans rfl; have hfz114_0 := blk_frozen BK293.out 0; have hfz114_1 := blk_frozen BK293.out 1; have hfz114_2 := blk_frozen BK293.out 2) | ((with_reducible refine gate_callee (f := 35) rfl ?_); refine goesL_ (some 67) rfl rfl Try.func35 (by kernel_rfl) rfl #[.agg #[.slice Ao35 t308.length co35, .slice Ao40 t309.length co40, .int .i64 t291], .int .i64 1] rfl (by (try simp only [List.map_toArray, List.map_cons, List.map_nil]); first | done | (rw [show t308.length = t285.length from (rr HO_294000.out).1.symm, show t309.length = t288.length from (rr HO_294001.out).1.symm] <;> rfl) | rfl | (simp only [List.length_drop, List.length_take]; rfl)) ?_; (with_reducible refine (laws_heldTable.calls kj63 _ _ t308 _ _ t309 t291 1 t310 _ ?side1 ?side2 ?side3 ?side4 A96.out).mono ?_); (case side1 => repeat (first | exact (rr HO_294000.out).2.2 | (with_reducible refine Kd.C_alloc ?_ _) | (with_reducible refine Kd.C_drewN ?_ _) | (with_reducible refine Kd.C_drew ?_))); (case side2 => rw [show t308.length = t285.length from (rr HO_294000.out).1.symm]; exact (rr HO_294000.out).2.1); (case side3 => repeat (first | exact (rr HO_294001.out).2.2 | (with_reducible refine Kd.C_alloc ?_ _) | (with_reducible refine Kd.C_drewN ?_ _) | (with_reducible refine Kd.C_drew ?_))); (case side4 => rw [show t309.length = t288.length from (rr HO_294001.out).1.symm]; exact (rr HO_294001.out).2.1); rintro e w115 ⟨rfl, hb⟩; refine ⟨_, rfl, ?_⟩; have n0_ := am (rb (by (with_reducible repeat (first | apply ra | apply rn | apply rd)); exact HO_277000.out) hb); have n1_ := am (rb (by (with_reducible repeat (first | apply ra | apply rn | apply rd)); exact HO_277001.out) hb); have n2_ := am (rb (by (with_reducible repeat (first | apply ra | apply rn | apply rd)); exact HO_285000.out) hb); have n3_ := am (rb (by (with_reducible repeat (first | apply ra | apply rn | apply rd)); exact HO_285001.out) hb); have n4_ := am (rb (by (with_reducible repeat (first | apply ra | apply rn | apply rd)); exact HO_294000.out) hb); have n5_ := am (rb (by (with_reducible repeat (first | apply ra | apply rn | apply rd)); exact HO_294001.out) hb); have n6_ := am (bb (g := gb259) (o := .cells #[.slice A0_0 l0_0.length c0_0, .slice A0_1 l0_1.length c0_1, .int .i64 a0_2] 42 (0, 0)) (by (with_reducible repeat (first | refine bn ?_ _ | refine bd ?_ | refine ba ?_ _)); exact BK259.out) hb); have n7_ := am (bb (g := gb276) (o := .cells #[.slice Ao21 t268.length co21, .slice Ao24 t271.length co24, .int .i64 t274] 26 (0, 0)) (by (with_reducible repeat (first | refine bn ?_ _ | refine bd ?_ | refine ba ?_ _)); exact BK276.out) hb); have n8_ := am (bb (g := gb284) (o := .cells #[.slice Ao28 t304.length co28, .slice Ao32 t305.length co32, .int .i64 t283] 26 (0, 0)) (by (with_reducible repeat (first | refine bn ?_ _ | refine bd ?_ | refine ba ?_ _)); exact BK284.out) hb); have n9_ := am (bb (g := gb293) (o := .cells #[.slice Ao35 t285.length co35, .slice Ao40 t288.length co40, .int .i64 t291] 26 (0, 0)) (by (with_reducible repeat (first | refine bn ?_ _ | refine bd ?_ | refine ba ?_ _)); exact BK293.out) hb); have n10_ := am (bs (by repeat (first | (with_reducible first | exact HB.out | apply wa | apply wn | apply wd | refine ws ?_ GE259.out | refine ws ?_ GE276.out | refine ws ?_ GE284.out | refine ws ?_ GE293.out) | exact HB.out)) hb); clear HO_277000; clear HO_277001; clear HO_285000; clear HO_285001; clear HO_294000; clear HO_294001; clear BK259; clear BK276; clear BK284; clear BK293; clear HB; have HO_277000 := n0_; have HO_277001 := n1_; have HO_285000 := n2_; have HO_285001 := n3_; have HO_294000 := n4_; have HO_294001 := n5_; have BK259 := n6_; have BK276 := n7_; have BK284 := n8_; have BK293 := n9_; have HB := n10_; clear n0_ n1_ n2_ n3_ n4_ n5_ n6_ n7_ n8_ n9_ n10_; (try clear hb); (try clear hb2); (try clear hk); (try clear hi); have hnb116 := NB259_276.out; have hnc116 := NB276_259.out; have hnb117 := NB259_284.out; have hnc117 := NB284_259.out; have hcz118_0 : w115.cell? ⟨gb259, 0, none⟩ = some (.slice A0_0 l0_0.length c0_0) := (blk_cell BK259.out 0).trans rfl; have hcz118_1 : w115.cell? ⟨gb259, 1, none⟩ = some (.slice A0_1 l0_1.length c0_1) := (blk_cell BK259.out 1).trans rfl; have hcz118_2 : w115.cell? ⟨gb259, 2, none⟩ = some (.int .i64 a0_2) := (blk_cell BK259.out 2).trans rfl; have hfz118_0 := blk_frozen BK259.out 0; have hfz118_1 := blk_frozen BK259.out 1; have hfz118_2 := blk_frozen BK259.out 2) | ((with_reducible refine gate_callee (f := 26) rfl ?_); refine goesL_ (some 75) rfl rfl Try.func26 (by kernel_rfl) rfl #[.agg #[.slice A0_0 l0_0.length c0_0, .slice A0_1 l0_1.length c0_1, .int .i64 a0_2]] rfl (by (try simp only [List.map_toArray, List.map_cons, List.map_nil]); first | done | rfl | (simp only [List.length_drop, List.length_take]; rfl)) ?_; (with_reducible refine (laws_toTable.calls kj63 _ _ l0_0 _ _ l0_1 a0_2 t311 t314 t317 _ ?side1 ?side2 ?side3 ?side4 A106.out).mono ?_); (case side1 => repeat (first | exact (Kd.C_below HR0_0.out HB.out) | (with_reducible refine Kd.C_alloc ?_ _) | (with_reducible refine Kd.C_drewN ?_ _) | (with_reducible refine Kd.C_drew ?_))); (case side2 => exact HC0_0.out); (case side3 => repeat (first | exact (Kd.C_below HR0_1.out HB.out) | (with_reducible refine Kd.C_alloc ?_ _) | (with_reducible refine Kd.C_drewN ?_ _) | (with_reducible refine Kd.C_drew ?_))); (case side4 => exact HC0_1.out); rintro e w119 ⟨v312, v315, rfl, ho0, ho1, hb⟩; refine ⟨_, rfl, ?_⟩; have n0_ := am (rm (ro (ro (rl (by (with_reducible repeat (first | apply ra | apply rn | apply rd)); exact HO_277000.out) hb) (re ho0)) (re ho1)) (fun _ h_ => h_.1)); have n1_ := am (rm (ro (ro (rl (by (with_reducible repeat (first | apply ra | apply rn | apply rd)); exact HO_277001.out) hb) (re ho0)) (re ho1)) (fun _ h_ => h_.1)); have n2_ := am (rm (ro (ro (rl (by (with_reducible repeat (first | apply ra | apply rn | apply rd)); exact HO_285000.out) hb) (re ho0)) (re ho1)) (fun _ h_ => h_.1)); have n3_ := am (rm (ro (ro (rl (by (with_reducible repeat (first | apply ra | apply rn | apply rd)); exact HO_285001.out) hb) (re ho0)) (re ho1)) (fun _ h_ => h_.1)); have n4_ := am (rm (ro (ro (rl (by (with_reducible repeat (first | apply ra | apply rn | apply rd)); exact HO_294000.out) hb) (re ho0)) (re ho1)) (fun _ h_ => h_.1)); have n5_ := am (rm (ro (ro (rl (by (with_reducible repeat (first | apply ra | apply rn | apply rd)); exact HO_294001.out) hb) (re ho0)) (re ho1)) (fun _ h_ => h_.1)); have n6_ := am (Kd.R_lower (Kd.R_new' (Kd.R_new' (Kd.R_new' (Kd.R_new' (Kd.R_new' (Kd.R_new' ho0 (Kd.R_lt (by (with_reducible repeat (first | apply ra | apply rn | apply rd)); exact HO_277000.out))) (Kd.R_lt (by (with_reducible repeat (first | apply ra | apply rn | apply rd)); exact HO_277001.out))) (Kd.R_lt (by (with_reducible repeat (first | apply ra | apply rn | apply rd)); exact HO_285000.out))) (Kd.R_lt (by (with_reducible repeat (first | apply ra | apply rn | apply rd)); exact HO_285001.out))) (Kd.R_lt (by (with_reducible repeat (first | apply ra | apply rn | apply rd)); exact HO_294000.out))) (Kd.R_lt (by (with_reducible repeat (first | apply ra | apply rn | apply rd)); exact HO_294001.out))) (below_size (by repeat (first | (with_reducible first | exact HB.out | apply wa | apply wn | apply wd | refine ws ?_ GE259.out | refine ws ?_ GE276.out | refine ws ?_ GE284.out | refine ws ?_ GE293.out) | exact HB.out)))); have n7_ := am (Kd.R_lower (Kd.R_new' (Kd.R_new' (Kd.R_new' (Kd.R_new' (Kd.R_new' (Kd.R_new' ho1 (Kd.R_lt (by (with_reducible repeat (first | apply ra | apply rn | apply rd)); exact HO_277000.out))) (Kd.R_lt (by (with_reducible repeat (first | apply ra | apply rn | apply rd)); exact HO_277001.out))) (Kd.R_lt (by (with_reducible repeat (first | apply ra | apply rn | apply rd)); exact HO_285000.out))) (Kd.R_lt (by (with_reducible repeat (first | apply ra | apply rn | apply rd)); exact HO_285001.out))) (Kd.R_lt (by (with_reducible repeat (first | apply ra | apply rn | apply rd)); exact HO_294000.out))) (Kd.R_lt (by (with_reducible repeat (first | apply ra | apply rn | apply rd)); exact HO_294001.out))) (below_size (by repeat (first | (with_reducible first | exact HB.out | apply wa | apply wn | apply wd | refine ws ?_ GE259.out | refine ws ?_ GE276.out | refine ws ?_ GE284.out | refine ws ?_ GE293.out) | exact HB.out)))); have n8_ := am (bb (g := gb259) (o := .cells #[.slice A0_0 l0_0.length c0_0, .slice A0_1 l0_1.length c0_1, .int .i64 a0_2] 42 (0, 0)) (by (with_reducible repeat (first | refine bn ?_ _ | refine bd ?_ | refine ba ?_ _)); exact BK259.out) hb); have n9_ := am (bb (g := gb276) (o := .cells #[.slice Ao21 t268.length co21, .slice Ao24 t271.length co24, .int .i64 t274] 26 (0, 0)) (by (with_reducible repeat (first | refine bn ?_ _ | refine bd ?_ | refine ba ?_ _)); exact BK276.out) hb); have n10_ := am (bb (g := gb284) (o := .cells #[.slice Ao28 t304.length co28, .slice Ao32 t305.length co32, .int .i64 t283] 26 (0, 0)) (by (with_reducible repeat (first | refine bn ?_ _ | refine bd ?_ | refine ba ?_ _)); exact BK284.out) hb); have n11_ := am (bb (g := gb293) (o := .cells #[.slice Ao35 t285.length co35, .slice Ao40 t288.length co40, .int .i64 t291] 26 (0, 0)) (by (with_reducible repeat (first | refine bn ?_ _ | refine bd ?_ | refine ba ?_ _)); exact BK293.out) hb); have n12_ := am (bs (by repeat (first | (with_reducible first | exact HB.out | apply wa | apply wn | apply wd | refine ws ?_ GE259.out | refine ws ?_ GE276.out | refine ws ?_ GE284.out | refine ws ?_ GE293.out) | exact HB.out)) hb); clear HO_277000; clear HO_277001; clear HO_285000; clear HO_285001; clear HO_294000; clear HO_294001; clear BK259; clear BK276; clear BK284; clear BK293; clear HB; have HO_277000 := n0_; have HO_277001 := n1_; have HO_285000 := n2_; have HO_285001 := n3_; have HO_294000 := n4_; have HO_294001 := n5_; have HO313 := n6_; have HO316 := n7_; have BK259 := n8_; have BK276 := n9_; have BK284 := n10_; have BK293 := n11_; have HB := n12_; clear n0_ n1_ n2_ n3_ n4_ n5_ n6_ n7_ n8_ n9_ n10_ n11_ n12_; (try clear hb); (try clear hb2); (try clear hk); (try clear hi); (try clear ho0); (try clear ho1); obtain ⟨Ao120, co120, eo120⟩ := Kd.R_slice HO313.out; subst eo120; obtain ⟨Ao121, co121, eo121⟩ := Kd.R_slice HO316.out; subst eo121) | ((with_reducible refine gate_callee (f := 17) rfl ?_); refine goesL_ (some 76) rfl rfl Try.func17 (by kernel_rfl) rfl #[.agg #[.slice Ao120 t311.length co120, .slice Ao121 t314.length co121, .int .i64 t317]] rfl (by (try simp only [List.map_toArray, List.map_cons, List.map_nil]); first | done | rfl | (simp only [List.length_drop, List.length_take]; rfl)) ?_; (with_reducible refine (impl_GrowTable.calls kj63 _ _ t311 _ _ t314 t317 t318 t321 t324 t325 _ ?side1 ?side2 ?side3 ?side4 A107.out).mono ?_); (case side1 => repeat (first | exact (rr HO313.out).2.2 | (with_reducible refine Kd.C_alloc ?_ _) | (with_reducible refine Kd.C_drewN ?_ _) | (with_reducible refine Kd.C_drew ?_))); (case side2 => exact (rr HO313.out).2.1); (case side3 => repeat (first | exact (rr HO316.out).2.2 | (with_reducible refine Kd.C_alloc ?_ _) | (with_reducible refine Kd.C_drewN ?_ _) | (with_reducible refine Kd.C_drew ?_))); (case side4 => exact (rr HO316.out).2.1); rintro e w122 ⟨v319, v322, rfl, ho0, ho1, hb⟩; refine ⟨_, rfl, ?_⟩; have n0_ := am (rm (ro (ro (rl (by (with_reducible repeat (first | apply ra | apply rn | apply rd)); exact HO_277000.out) hb) (re ho0)) (re ho1)) (fun _ h_ => h_.1)); have n1_ := am (rm (ro (ro (rl (by (with_reducible repeat (first | apply ra | apply rn | apply rd)); exact HO_277001.out) hb) (re ho0)) (re ho1)) (fun _ h_ => h_.1)); have n2_ := am (rm (ro (ro (rl (by (with_reducible repeat (first | apply ra | apply rn | apply rd)); exact HO_285000.out) hb) (re ho0)) (re ho1)) (fun _ h_ => h_.1)); have n3_ := am (rm (ro (ro (rl (by (with_reducible repeat (first | apply ra | apply rn | apply rd)); exact HO_285001.out) hb) (re ho0)) (re ho1)) (fun _ h_ => h_.1)); have n4_ := am (rm (ro (ro (rl (by (with_reducible repeat (first | apply ra | apply rn | apply rd)); exact HO_294000.out) hb) (re ho0)) (re ho1)) (fun _ h_ => h_.1)); have n5_ := am (rm (ro (ro (rl (by (with_reducible repeat (first | apply ra | apply rn | apply rd)); exact HO_294001.out) hb) (re ho0)) (re ho1)) (fun _ h_ => h_.1)); have n6_ := am (rm (ro (ro (rl (by (with_reducible repeat (first | apply ra | apply rn | apply rd)); exact HO313.out) hb) (re ho0)) (re ho1)) (fun _ h_ => h_.1)); have n7_ := am (rm (ro (ro (rl (by (with_reducible repeat (first | apply ra | apply rn | apply rd)); exact HO316.out) hb) (re ho0)) (re ho1)) (fun _ h_ => h_.1)); have n8_ := am (Kd.R_lower (Kd.R_new' (Kd.R_new' (Kd.R_new' (Kd.R_new' (Kd.R_new' (Kd.R_new' (Kd.R_new' (Kd.R_new' ho0 (Kd.R_lt (by (with_reducible repeat (first | apply ra | apply rn | apply rd)); exact HO_277000.out))) (Kd.R_lt (by (with_reducible repeat (first | apply ra | apply rn | apply rd)); exact HO_277001.out))) (Kd.R_lt (by (with_reducible repeat (first | apply ra | apply rn | apply rd)); exact HO_285000.out))) (Kd.R_lt (by (with_reducible repeat (first | apply ra | apply rn | apply rd)); exact HO_285001.out))) (Kd.R_lt (by (with_reducible repeat (first | apply ra | apply rn | apply rd)); exact HO_294000.out))) (Kd.R_lt (by (with_reducible repeat (first | apply ra | apply rn | apply rd)); exact HO_294001.out))) (Kd.R_lt (by (with_reducible repeat (first | apply ra | apply rn | apply rd)); exact HO313.out))) (Kd.R_lt (by (with_reducible repeat (first | apply ra | apply rn | apply rd)); exact HO316.out))) (below_size (by repeat (first | (with_reducible first | exact HB.out | apply wa | apply wn | apply wd | refine ws ?_ GE259.out | refine ws ?_ GE276.out | refine ws ?_ GE284.out | refine ws ?_ GE293.out) | exact HB.out)))); have n9_ := am (Kd.R_lower (Kd.R_new' (Kd.R_new' (Kd.R_new' (Kd.R_new' (Kd.R_new' (Kd.R_new' (Kd.R_new' (Kd.R_new' ho1 (Kd.R_lt (by (with_reducible repeat (first | apply ra | apply rn | apply rd)); exact HO_277000.out))) (Kd.R_lt (by (with_reducible repeat (first | apply ra | apply rn | apply rd)); exact HO_277001.out))) (Kd.R_lt (by (with_reducible repeat (first | apply ra | apply rn | apply rd)); exact HO_285000.out))) (Kd.R_lt (by (with_reducible repeat (first | apply ra | apply rn | apply rd)); exact HO_285001.out))) (Kd.R_lt (by (with_reducible repeat (first | apply ra | apply rn | apply rd)); exact HO_294000.out))) (Kd.R_lt (by (with_reducible repeat (first | apply ra | apply rn | apply rd)); exact HO_294001.out))) (Kd.R_lt (by (with_reducible repeat (first | apply ra | apply rn | apply rd)); exact HO313.out))) (Kd.R_lt (by (with_reducible repeat (first | apply ra | apply rn | apply rd)); exact HO316.out))) (below_size (by repeat (first | (with_reducible first | exact HB.out | apply wa | apply wn | apply wd | refine ws ?_ GE259.out | refine ws ?_ GE276.out | refine ws ?_ GE284.out | refine ws ?_ GE293.out) | exact HB.out)))); have n10_ := am (bb (g := gb259) (o := .cells #[.slice A0_0 l0_0.length c0_0, .slice A0_1 l0_1.length c0_1, .int .i64 a0_2] 42 (0, 0)) (by (with_reducible repeat (first | refine bn ?_ _ | refine bd ?_ | refine ba ?_ _)); exact BK259.out) hb); have n11_ := am (bb (g := gb276) (o := .cells #[.slice Ao21 t268.length co21, .slice Ao24 t271.length co24, .int .i64 t274] 26 (0, 0)) (by (with_reducible repeat (first | refine bn ?_ _ | refine bd ?_ | refine ba ?_ _)); exact BK276.out) hb); have n12_ := am (bb (g := gb284) (o := .cells #[.slice Ao28 t304.length co28, .slice Ao32 t305.length co32, .int .i64 t283] 26 (0, 0)) (by (with_reducible repeat (first | refine bn ?_ _ | refine bd ?_ | refine ba ?_ _)); exact BK284.out) hb); have n13_ := am (bb (g := gb293) (o := .cells #[.slice Ao35 t285.length co35, .slice Ao40 t288.length co40, .int .i64 t291] 26 (0, 0)) (by (with_reducible repeat (first | refine bn ?_ _ | refine bd ?_ | refine ba ?_ _)); exact BK293.out) hb); have n14_ := am (bs (by repeat (first | (with_reducible first | exact HB.out | apply wa | apply wn | apply wd | refine ws ?_ GE259.out | refine ws ?_ GE276.out | refine ws ?_ GE284.out | refine ws ?_ GE293.out) | exact HB.out)) hb); clear HO_277000; clear HO_277001; clear HO_285000; clear HO_285001; clear HO_294000; clear HO_294001; clear HO313; clear HO316; clear BK259; clear BK276; clear BK284; clear BK293; clear HB; have HO_277000 := n0_; have HO_277001 := n1_; have HO_285000 := n2_; have HO_285001 := n3_; have HO_294000 := n4_; have HO_294001 := n5_; have HO313 := n6_; have HO316 := n7_; have HO320 := n8_; have HO323 := n9_; have BK259 := n10_; have BK276 := n11_; have BK284 := n12_; have BK293 := n13_; have HB := n14_; clear n0_ n1_ n2_ n3_ n4_ n5_ n6_ n7_ n8_ n9_ n10_ n11_ n12_ n13_ n14_; (try clear hb); (try clear hb2); (try clear hk); (try clear hi); (try clear ho0); (try clear ho1)) | ((with_reducible refine gate_dst (N := 12) rfl ?_); refine box_event ?hg (N := 12) ?hd (cs := #[.slice none 0 0, .slice none 0 0, .int .i64 0]) (t := 26) ?hr ?_; (case hd => rfl); (case hg => rfl); (case hr => first | (go_simp; done) | (go_simp; rfl)); intro gb326 hg w123 hbox hb; have n0_ := am (rb (by (with_reducible repeat (first | apply ra | apply rn | apply rd)); exact HO_277000.out) hb); have n1_ := am (rb (by (with_reducible repeat (first | apply ra | apply rn | apply rd)); exact HO_277001.out) hb); have n2_ := am (rb (by (with_reducible repeat (first | apply ra | apply rn | apply rd)); exact HO_285000.out) hb); have n3_ := am (rb (by (with_reducible repeat (first | apply ra | apply rn | apply rd)); exact HO_285001.out) hb); have n4_ := am (rb (by (with_reducible repeat (first | apply ra | apply rn | apply rd)); exact HO_294000.out) hb); have n5_ := am (rb (by (with_reducible repeat (first | apply ra | apply rn | apply rd)); exact HO_294001.out) hb); have n6_ := am (rb (by (with_reducible repeat (first | apply ra | apply rn | apply rd)); exact HO313.out) hb); have n7_ := am (rb (by (with_reducible repeat (first | apply ra | apply rn | apply rd)); exact HO316.out) hb); have n8_ := am (rb (by (with_reducible repeat (first | apply ra | apply rn | apply rd)); exact HO320.out) hb); have n9_ := am (rb (by (with_reducible repeat (first | apply ra | apply rn | apply rd)); exact HO323.out) hb); have n10_ := am (bb (g := gb259) (o := .cells #[.slice A0_0 l0_0.length c0_0, .slice A0_1 l0_1.length c0_1, .int .i64 a0_2] 42 (0, 0)) (by (with_reducible repeat (first | refine bn ?_ _ | refine bd ?_ | refine ba ?_ _)); exact BK259.out) hb); have n11_ := am (bb (g := gb276) (o := .cells #[.slice Ao21 t268.length co21, .slice Ao24 t271.length co24, .int .i64 t274] 26 (0, 0)) (by (with_reducible repeat (first | refine bn ?_ _ | refine bd ?_ | refine ba ?_ _)); exact BK276.out) hb); have n12_ := am (bb (g := gb284) (o := .cells #[.slice Ao28 t304.length co28, .slice Ao32 t305.length co32, .int .i64 t283] 26 (0, 0)) (by (with_reducible repeat (first | refine bn ?_ _ | refine bd ?_ | refine ba ?_ _)); exact BK284.out) hb); have n13_ := am (bb (g := gb293) (o := .cells #[.slice Ao35 t285.length co35, .slice Ao40 t288.length co40, .int .i64 t291] 26 (0, 0)) (by (with_reducible repeat (first | refine bn ?_ _ | refine bd ?_ | refine ba ?_ _)); exact BK293.out) hb); have n14_ := am (bs (by repeat (first | (with_reducible first | exact HB.out | apply wa | apply wn | apply wd | refine ws ?_ GE259.out | refine ws ?_ GE276.out | refine ws ?_ GE284.out | refine ws ?_ GE293.out) | exact HB.out)) hb); have n15_ := am (hbox); have n16_ := am ((by rw [hg]; exact (below_size (by repeat (first | (with_reducible first | exact HB.out | apply wa | apply wn | apply wd | refine ws ?_ GE259.out | refine ws ?_ GE276.out | refine ws ?_ GE284.out | refine ws ?_ GE293.out) | exact HB.out))) : w.heap.size ≤ gb326)); have n17_ := am ((by rw [hg]; exact (below_size (by repeat (first | (with_reducible first | exact HB.out | apply wa | apply wn | apply wd | refine ws ?_ GE259.out | refine ws ?_ GE276.out | refine ws ?_ GE284.out | refine ws ?_ GE293.out) | exact HB.out))) : w.heap.size ≤ gb326)); have n18_ := am ((by rw [hg]; exact Nat.ne_of_lt (blk_lt (g := gb259) (o := .cells #[.slice A0_0 l0_0.length c0_0, .slice A0_1 l0_1.length c0_1, .int .i64 a0_2] 42 (0, 0)) (by (with_reducible repeat (first | refine bn ?_ _ | refine bd ?_ | refine ba ?_ _)); exact BK259.out)) : gb259 ≠ gb326)); have n19_ := am ((by rw [hg]; exact Nat.ne_of_gt (blk_lt (g := gb259) (o := .cells #[.slice A0_0 l0_0.length c0_0, .slice A0_1 l0_1.length c0_1, .int .i64 a0_2] 42 (0, 0)) (by (with_reducible repeat (first | refine bn ?_ _ | refine bd ?_ | refine ba ?_ _)); exact BK259.out)) : gb326 ≠ gb259)); have n20_ := am ((by rw [hg]; exact Nat.ne_of_lt (blk_lt (g := gb276) (o := .cells #[.slice Ao21 t268.length co21, .slice Ao24 t271.length co24, .int .i64 t274] 26 (0, 0)) (by (with_reducible repeat (first | refine bn ?_ _ | refine bd ?_ | refine ba ?_ _)); exact BK276.out)) : gb276 ≠ gb326)); have n21_ := am ((by rw [hg]; exact Nat.ne_of_gt (blk_lt (g := gb276) (o := .cells #[.slice Ao21 t268.length co21, .slice Ao24 t271.length co24, .int .i64 t274] 26 (0, 0)) (by (with_reducible repeat (first | refine bn ?_ _ | refine bd ?_ | refine ba ?_ _)); exact BK276.out)) : gb326 ≠ gb276)); have n22_ := am ((by rw [hg]; exact Nat.ne_of_lt (blk_lt (g := gb284) (o := .cells #[.slice Ao28 t304.length co28, .slice Ao32 t305.length co32, .int .i64 t283] 26 (0, 0)) (by (with_reducible repeat (first | refine bn ?_ _ | refine bd ?_ | refine ba ?_ _)); exact BK284.out)) : gb284 ≠ gb326)); have n23_ := am ((by rw [hg]; exact Nat.ne_of_gt (blk_lt (g := gb284) (o := .cells #[.slice Ao28 t304.length co28, .slice Ao32 t305.length co32, .int .i64 t283] 26 (0, 0)) (by (with_reducible repeat (first | refine bn ?_ _ | refine bd ?_ | refine ba ?_ _)); exact BK284.out)) : gb326 ≠ gb284)); have n24_ := am ((by rw [hg]; exact Nat.ne_of_lt (blk_lt (g := gb293) (o := .cells #[.slice Ao35 t285.length co35, .slice Ao40 t288.length co40, .int .i64 t291] 26 (0, 0)) (by (with_reducible repeat (first | refine bn ?_ _ | refine bd ?_ | refine ba ?_ _)); exact BK293.out)) : gb293 ≠ gb326)); have n25_ := am ((by rw [hg]; exact Nat.ne_of_gt (blk_lt (g := gb293) (o := .cells #[.slice Ao35 t285.length co35, .slice Ao40 t288.length co40, .int .i64 t291] 26 (0, 0)) (by (with_reducible repeat (first | refine bn ?_ _ | refine bd ?_ | refine ba ?_ _)); exact BK293.out)) : gb326 ≠ gb293)); clear HO_277000; clear HO_277001; clear HO_285000; clear HO_285001; clear HO_294000; clear HO_294001; clear HO313; clear HO316; clear HO320; clear HO323; clear BK259; clear BK276; clear BK284; clear BK293; clear HB; have HO_277000 := n0_; have HO_277001 := n1_; have HO_285000 := n2_; have HO_285001 := n3_; have HO_294000 := n4_; have HO_294001 := n5_; have HO313 := n6_; have HO316 := n7_; have HO320 := n8_; have HO323 := n9_; have BK259 := n10_; have BK276 := n11_; have BK284 := n12_; have BK293 := n13_; have HB := n14_; have BK326 := n15_; have GW326 := n16_; have GE326 := n17_; have NB259_326 := n18_; have NB326_259 := n19_; have NB276_326 := n20_; have NB326_276 := n21_; have NB284_326 := n22_; have NB326_284 := n23_; have NB293_326 := n24_; have NB326_293 := n25_; clear n0_ n1_ n2_ n3_ n4_ n5_ n6_ n7_ n8_ n9_ n10_ n11_ n12_ n13_ n14_ n15_ n16_ n17_ n18_ n19_ n20_ n21_ n22_ n23_ n24_ n25_; clear hb hbox hg; obtain ⟨Ao124, co124, eo124⟩ := Kd.R_slice HO320.out; subst eo124; have hnb125 := NB326_259.out; have hnc125 := NB259_326.out; have hnb126 := NB326_276.out; have hnc126 := NB276_326.out; have hnb127 := NB326_284.out; have hnc127 := NB284_326.out; have hnb128 := NB326_293.out; have hnc128 := NB293_326.out; have hcz129_0 : w123.cell? ⟨gb326, 0, none⟩ = some (.slice none 0 0) := (blk_cell BK326.out 0).trans rfl; have hcz129_1 : w123.cell? ⟨gb326, 1, none⟩ = some (.slice none 0 0) := (blk_cell BK326.out 1).trans rfl; have hcz129_2 : w123.cell? ⟨gb326, 2, none⟩ = some (.int .i64 0) := (blk_cell BK326.out 2).trans rfl; have hfz129_0 := blk_frozen BK326.out 0; have hfz129_1 := blk_frozen BK326.out 1; have hfz129_2 := blk_frozen BK326.out 2; obtain ⟨Ao130, co130, eo130⟩ := Kd.R_slice HO323.out; subst eo130))
           (try simp only [Act.put, List.setIfInBounds_toArray, List.set_cons_zero, List.set_cons_succ])
           go_cut [87] (fun v87 wc => ∃ (kq : Nat) (x87_107 : Bool), v87 = .bool x87_107 ∧ Aside0 (laws_FnExactGrowTable.j2 kq t307 x87_107 t308 t309 t291 = some r) ∧ Aside0 (kq ≤ kj63) ∧ Aside0 (Kd.R k57 57 wc w.heap.size (fun k_ => some k_ ≠ ((.slice Ao24 t271.length co24) : Value).ownBlock ∧ some k_ ≠ ((.slice Ao28 t304.length co28) : Value).ownBlock ∧ some k_ ≠ ((.slice Ao32 t305.length co32) : Value).ownBlock ∧ some k_ ≠ ((.slice Ao35 t285.length co35) : Value).ownBlock ∧ some k_ ≠ ((.slice Ao40 t288.length co40) : Value).ownBlock ∧ some k_ ≠ ((.slice Ao124 t318.length co124) : Value).ownBlock ∧ some k_ ≠ ((.slice Ao130 t321.length co130) : Value).ownBlock) (.slice Ao21 t268.length co21) t268) ∧ Aside0 (Kd.R k57 57 wc w.heap.size (fun k_ => some k_ ≠ ((.slice Ao21 t268.length co21) : Value).ownBlock ∧ some k_ ≠ ((.slice Ao28 t304.length co28) : Value).ownBlock ∧ some k_ ≠ ((.slice Ao32 t305.length co32) : Value).ownBlock ∧ some k_ ≠ ((.slice Ao35 t285.length co35) : Value).ownBlock ∧ some k_ ≠ ((.slice Ao40 t288.length co40) : Value).ownBlock ∧ some k_ ≠ ((.slice Ao124 t318.length co124) : Value).ownBlock ∧ some k_ ≠ ((.slice Ao130 t321.length co130) : Value).ownBlock) (.slice Ao24 t271.length co24) t271) ∧ Aside0 (Kd.R k57 57 wc w.heap.size (fun k_ => some k_ ≠ ((.slice Ao21 t268.length co21) : Value).ownBlock ∧ some k_ ≠ ((.slice Ao24 t271.length co24) : Value).ownBlock ∧ some k_ ≠ ((.slice Ao32 t305.length co32) : Value).ownBlock ∧ some k_ ≠ ((.slice Ao35 t285.length co35) : Value).ownBlock ∧ some k_ ≠ ((.slice Ao40 t288.length co40) : Value).ownBlock ∧ some k_ ≠ ((.slice Ao124 t318.length co124) : Value).ownBlock ∧ some k_ ≠ ((.slice Ao130 t321.length co130) : Value).ownBlock) (.slice Ao28 t304.length co28) t304) ∧ Aside0 (Kd.R k57 57 wc w.heap.size (fun k_ => some k_ ≠ ((.slice Ao21 t268.length co21) : Value).ownBlock ∧ some k_ ≠ ((.slice Ao24 t271.length co24) : Value).ownBlock ∧ some k_ ≠ ((.slice Ao28 t304.length co28) : Value).ownBlock ∧ some k_ ≠ ((.slice Ao35 t285.length co35) : Value).ownBlock ∧ some k_ ≠ ((.slice Ao40 t288.length co40) : Value).ownBlock ∧ some k_ ≠ ((.slice Ao124 t318.length co124) : Value).ownBlock ∧ some k_ ≠ ((.slice Ao130 t321.length co130) : Value).ownBlock) (.slice Ao32 t305.length co32) t305) ∧ Aside0 (Kd.R k57 57 wc w.heap.size (fun k_ => some k_ ≠ ((.slice Ao21 t268.length co21) : Value).ownBlock ∧ some k_ ≠ ((.slice Ao24 t271.length co24) : Value).ownBlock ∧ some k_ ≠ ((.slice Ao28 t304.length co28) : Value).ownBlock ∧ some k_ ≠ ((.slice Ao32 t305.length co32) : Value).ownBlock ∧ some k_ ≠ ((.slice Ao40 t288.length co40) : Value).ownBlock ∧ some k_ ≠ ((.slice Ao124 t318.length co124) : Value).ownBlock ∧ some k_ ≠ ((.slice Ao130 t321.length co130) : Value).ownBlock) (.slice Ao35 t285.length co35) t308) ∧ Aside0 (Kd.R k57 57 wc w.heap.size (fun k_ => some k_ ≠ ((.slice Ao21 t268.length co21) : Value).ownBlock ∧ some k_ ≠ ((.slice Ao24 t271.length co24) : Value).ownBlock ∧ some k_ ≠ ((.slice Ao28 t304.length co28) : Value).ownBlock ∧ some k_ ≠ ((.slice Ao32 t305.length co32) : Value).ownBlock ∧ some k_ ≠ ((.slice Ao35 t285.length co35) : Value).ownBlock ∧ some k_ ≠ ((.slice Ao124 t318.length co124) : Value).ownBlock ∧ some k_ ≠ ((.slice Ao130 t321.length co130) : Value).ownBlock) (.slice Ao40 t288.length co40) t309) ∧ Aside0 (Kd.R k57 57 wc w.heap.size (fun k_ => some k_ ≠ ((.slice Ao21 t268.length co21) : Value).ownBlock ∧ some k_ ≠ ((.slice Ao24 t271.length co24) : Value).ownBlock ∧ some k_ ≠ ((.slice Ao28 t304.length co28) : Value).ownBlock ∧ some k_ ≠ ((.slice Ao32 t305.length co32) : Value).ownBlock ∧ some k_ ≠ ((.slice Ao35 t285.length co35) : Value).ownBlock ∧ some k_ ≠ ((.slice Ao40 t288.length co40) : Value).ownBlock ∧ some k_ ≠ ((.slice Ao130 t321.length co130) : Value).ownBlock) (.slice Ao124 t318.length co124) t318) ∧ Aside0 (Kd.R k57 57 wc w.heap.size (fun k_ => some k_ ≠ ((.slice Ao21 t268.length co21) : Value).ownBlock ∧ some k_ ≠ ((.slice Ao24 t271.length co24) : Value).ownBlock ∧ some k_ ≠ ((.slice Ao28 t304.length co28) : Value).ownBlock ∧ some k_ ≠ ((.slice Ao32 t305.length co32) : Value).ownBlock ∧ some k_ ≠ ((.slice Ao35 t285.length co35) : Value).ownBlock ∧ some k_ ≠ ((.slice Ao40 t288.length co40) : Value).ownBlock ∧ some k_ ≠ ((.slice Ao124 t318.length co124) : Value).ownBlock) (.slice Ao130 t321.length co130) t321) ∧ Aside0 (wc.heap[gb259]? = some (.cells #[(.slice A0_0 l0_0.length c0_0), (.slice A0_1 l0_1.length c0_1), .int .i64 a0_2] 42 (0, 0))) ∧ Aside0 (wc.heap[gb276]? = some (.cells #[(.slice Ao21 t268.length co21), (.slice Ao24 t271.length co24), .int .i64 t274] 26 (0, 0))) ∧ Aside0 (wc.heap[gb284]? = some (.cells #[(.slice Ao28 t304.length co28), (.slice Ao32 t305.length co32), .int .i64 t283] 26 (0, 0))) ∧ Aside0 (wc.heap[gb293]? = some (.cells #[(.slice Ao35 t285.length co35), (.slice Ao40 t288.length co40), .int .i64 t291] 26 (0, 0))) ∧ Aside0 (wc.heap[gb326]? = some (.cells #[(.slice Ao124 t318.length co124), (.slice Ao130 t321.length co130), .int .i64 t324] 26 (0, 0))) ∧ Aside0 (Below w.heap.size w wc))
           case first =>
            have H := HC108.out
            clear HC108
            replace H := Option.bind_eq_some_iff.mp H
            obtain ⟨t327, A1310, H⟩ := H
            replace H : (if t327 = true then (laws_FnExactGrowTable.j2 kj63 t307 (t325 != t275) t308 t309 t291) else (laws_FnExactGrowTable.j2 kj63 t307 true t308 t309 t291)) = some r := H
            have A131 := am A1310
            clear A1310
            by_cases c132 : t327 = true
            ·subst c132
             have H1 : (laws_FnExactGrowTable.j2 kj63 t307 (t325 != t275) t308 t309 t291) = some r := by rw [if_pos rfl] at H; exact H
             clear H
             have H := H1
             clear H1
             have H' := am H
             clear H
             have hnb133 := NB326_259.out
             have hnc133 := NB259_326.out
             have hnb134 := NB326_276.out
             have hnc134 := NB276_326.out
             have hnb135 := NB326_284.out
             have hnc135 := NB284_326.out
             have hnb136 := NB326_293.out
             have hnc136 := NB293_326.out
             have hcz137_0 : w123.cell? ⟨gb326, 0, none⟩ = some (.slice none 0 0) := (blk_cell BK326.out 0).trans rfl
             have hcz137_1 : w123.cell? ⟨gb326, 1, none⟩ = some (.slice none 0 0) := (blk_cell BK326.out 1).trans rfl
             have hcz137_2 : w123.cell? ⟨gb326, 2, none⟩ = some (.int .i64 0) := (blk_cell BK326.out 2).trans rfl
             have hfz137_0 := blk_frozen BK326.out 0
             have hfz137_1 := blk_frozen BK326.out 1
             have hfz137_2 := blk_frozen BK326.out 2
             have hnb138 := NB276_259.out
             have hnc138 := NB259_276.out
             have hnb139 := NB276_284.out
             have hnc139 := NB284_276.out
             have hnb140 := NB276_293.out
             have hnc140 := NB293_276.out
             have hcz141_0 : w123.cell? ⟨gb276, 0, none⟩ = some (.slice Ao21 t268.length co21) := (blk_cell BK276.out 0).trans rfl
             have hcz141_1 : w123.cell? ⟨gb276, 1, none⟩ = some (.slice Ao24 t271.length co24) := (blk_cell BK276.out 1).trans rfl
             have hcz141_2 : w123.cell? ⟨gb276, 2, none⟩ = some (.int .i64 t274) := (blk_cell BK276.out 2).trans rfl
             have hfz141_0 := blk_frozen BK276.out 0
             have hfz141_1 := blk_frozen BK276.out 1
             have hfz141_2 := blk_frozen BK276.out 2
             go_wp2_with (first | ((with_reducible refine gate_callee (f := 27) rfl ?_); refine goesL_ (some 81) rfl rfl Try.func27 (by kernel_rfl) rfl #[.agg #[.slice Ao124 t318.length co124, .slice Ao130 t321.length co130, .int .i64 t324], .agg #[.slice Ao21 t268.length co21, .slice Ao24 t271.length co24, .int .i64 t274]] rfl (by (try simp only [List.map_toArray, List.map_cons, List.map_nil]); first | done | rfl | (simp only [List.length_drop, List.length_take]; rfl)) ?_; (with_reducible refine (laws_eqTable.calls kj63 _ _ t318 _ _ t321 t324 _ _ t268 _ _ t271 t274 true _ ?side1 ?side2 ?side3 ?side4 ?side5 ?side6 ?side7 ?side8 A131.out).mono ?_); (case side1 => refine (rr (e := 57) (base := w.heap.size) (ok := fun k_ => ((((((((some k_ ≠ (.slice Ao130 t321.length co130 : Value).ownBlock ∧ some k_ ≠ (.slice Ao21 t268.length co21 : Value).ownBlock) ∧ some k_ ≠ (.slice Ao24 t271.length co24 : Value).ownBlock) ∧ some k_ ≠ (.slice Ao28 t304.length co28 : Value).ownBlock) ∧ some k_ ≠ (.slice Ao32 t305.length co32 : Value).ownBlock) ∧ some k_ ≠ (.slice Ao35 t285.length co35 : Value).ownBlock) ∧ some k_ ≠ (.slice Ao40 t288.length co40 : Value).ownBlock) ∧ some k_ ≠ (.slice Ao120 t311.length co120 : Value).ownBlock) ∧ some k_ ≠ (.slice Ao121 t314.length co121 : Value).ownBlock)) (n := t318.length) (c := co124) ?_).2.2; exact (by (with_reducible repeat (first | apply ra | apply rn | apply rd)); exact (rm (Kd.R_far (p := ⟨gb326, 2, none⟩) (Kd.R_far (p := ⟨gb326, 1, none⟩) (Kd.R_far (p := ⟨gb326, 0, none⟩) (Kd.R_types HO320.out BK326.out (by decide)) (fun _ hk => by simp [hk]) (.slice Ao124 t318.length co124)) (fun _ hk => by simp [hk]) (.slice Ao130 t321.length co130)) (fun _ hk => by simp [hk]) (.int .i64 t324)) (fun _ h_ => h_.1)))); (case side2 => exact (rr HO320.out).2.1); (case side3 => refine (rr (e := 57) (base := w.heap.size) (ok := fun k_ => ((((((((some k_ ≠ (.slice Ao124 t318.length co124 : Value).ownBlock ∧ some k_ ≠ (.slice Ao21 t268.length co21 : Value).ownBlock) ∧ some k_ ≠ (.slice Ao24 t271.length co24 : Value).ownBlock) ∧ some k_ ≠ (.slice Ao28 t304.length co28 : Value).ownBlock) ∧ some k_ ≠ (.slice Ao32 t305.length co32 : Value).ownBlock) ∧ some k_ ≠ (.slice Ao35 t285.length co35 : Value).ownBlock) ∧ some k_ ≠ (.slice Ao40 t288.length co40 : Value).ownBlock) ∧ some k_ ≠ (.slice Ao120 t311.length co120 : Value).ownBlock) ∧ some k_ ≠ (.slice Ao121 t314.length co121 : Value).ownBlock)) (n := t321.length) (c := co130) ?_).2.2; exact (by (with_reducible repeat (first | apply ra | apply rn | apply rd)); exact (rm (Kd.R_far (p := ⟨gb326, 2, none⟩) (Kd.R_far (p := ⟨gb326, 1, none⟩) (Kd.R_far (p := ⟨gb326, 0, none⟩) (Kd.R_types HO323.out BK326.out (by decide)) (fun _ hk => by simp [hk]) (.slice Ao124 t318.length co124)) (fun _ hk => by simp [hk]) (.slice Ao130 t321.length co130)) (fun _ hk => by simp [hk]) (.int .i64 t324)) (fun _ h_ => h_.1)))); (case side4 => exact (rr HO323.out).2.1); (case side5 => refine (rr (e := 57) (base := w.heap.size) (ok := fun k_ => (((((some k_ ≠ (.slice Ao24 t271.length co24 : Value).ownBlock ∧ (some k_ ≠ (.slice Ao28 t304.length co28 : Value).ownBlock ∧ (some k_ ≠ (.slice Ao32 t305.length co32 : Value).ownBlock ∧ (some k_ ≠ (.slice Ao35 t285.length co35 : Value).ownBlock ∧ some k_ ≠ (.slice Ao40 t288.length co40 : Value).ownBlock)))) ∧ some k_ ≠ (.slice Ao120 t311.length co120 : Value).ownBlock) ∧ some k_ ≠ (.slice Ao121 t314.length co121 : Value).ownBlock) ∧ some k_ ≠ (.slice Ao124 t318.length co124 : Value).ownBlock) ∧ some k_ ≠ (.slice Ao130 t321.length co130 : Value).ownBlock)) (n := t268.length) (c := co21) ?_).2.2; exact (by (with_reducible repeat (first | apply ra | apply rn | apply rd)); exact (rm (Kd.R_far (p := ⟨gb326, 2, none⟩) (Kd.R_far (p := ⟨gb326, 1, none⟩) (Kd.R_far (p := ⟨gb326, 0, none⟩) (Kd.R_types HO_277000.out BK326.out (by decide)) (fun _ hk => by simp [hk]) (.slice Ao124 t318.length co124)) (fun _ hk => by simp [hk]) (.slice Ao130 t321.length co130)) (fun _ hk => by simp [hk]) (.int .i64 t324)) (fun _ h_ => h_.1)))); (case side6 => exact (rr HO_277000.out).2.1); (case side7 => refine (rr (e := 57) (base := w.heap.size) (ok := fun k_ => (((((some k_ ≠ (.slice Ao21 t268.length co21 : Value).ownBlock ∧ (some k_ ≠ (.slice Ao28 t304.length co28 : Value).ownBlock ∧ (some k_ ≠ (.slice Ao32 t305.length co32 : Value).ownBlock ∧ (some k_ ≠ (.slice Ao35 t285.length co35 : Value).ownBlock ∧ some k_ ≠ (.slice Ao40 t288.length co40 : Value).ownBlock)))) ∧ some k_ ≠ (.slice Ao120 t311.length co120 : Value).ownBlock) ∧ some k_ ≠ (.slice Ao121 t314.length co121 : Value).ownBlock) ∧ some k_ ≠ (.slice Ao124 t318.length co124 : Value).ownBlock) ∧ some k_ ≠ (.slice Ao130 t321.length co130 : Value).ownBlock)) (n := t271.length) (c := co24) ?_).2.2; exact (by (with_reducible repeat (first | apply ra | apply rn | apply rd)); exact (rm (Kd.R_far (p := ⟨gb326, 2, none⟩) (Kd.R_far (p := ⟨gb326, 1, none⟩) (Kd.R_far (p := ⟨gb326, 0, none⟩) (Kd.R_types HO_277001.out BK326.out (by decide)) (fun _ hk => by simp [hk]) (.slice Ao124 t318.length co124)) (fun _ hk => by simp [hk]) (.slice Ao130 t321.length co130)) (fun _ hk => by simp [hk]) (.int .i64 t324)) (fun _ h_ => h_.1)))); (case side8 => exact (rr HO_277001.out).2.1); rintro e w142 ⟨rfl, hb⟩; refine ⟨_, rfl, ?_⟩; have n0_ := am (rb (by (with_reducible repeat (first | apply ra | apply rn | apply rd)); exact (rm (Kd.R_far (p := ⟨gb326, 2, none⟩) (Kd.R_far (p := ⟨gb326, 1, none⟩) (Kd.R_far (p := ⟨gb326, 0, none⟩) (Kd.R_types HO_277000.out BK326.out (by decide)) (fun _ hk => by simp [hk]) (.slice Ao124 t318.length co124)) (fun _ hk => by simp [hk]) (.slice Ao130 t321.length co130)) (fun _ hk => by simp [hk]) (.int .i64 t324)) (fun _ h_ => h_.1))) hb); have n1_ := am (rb (by (with_reducible repeat (first | apply ra | apply rn | apply rd)); exact (rm (Kd.R_far (p := ⟨gb326, 2, none⟩) (Kd.R_far (p := ⟨gb326, 1, none⟩) (Kd.R_far (p := ⟨gb326, 0, none⟩) (Kd.R_types HO_277001.out BK326.out (by decide)) (fun _ hk => by simp [hk]) (.slice Ao124 t318.length co124)) (fun _ hk => by simp [hk]) (.slice Ao130 t321.length co130)) (fun _ hk => by simp [hk]) (.int .i64 t324)) (fun _ h_ => h_.1))) hb); have n2_ := am (rb (by (with_reducible repeat (first | apply ra | apply rn | apply rd)); exact (rm (Kd.R_far (p := ⟨gb326, 2, none⟩) (Kd.R_far (p := ⟨gb326, 1, none⟩) (Kd.R_far (p := ⟨gb326, 0, none⟩) (Kd.R_types HO_285000.out BK326.out (by decide)) (fun _ hk => by simp [hk]) (.slice Ao124 t318.length co124)) (fun _ hk => by simp [hk]) (.slice Ao130 t321.length co130)) (fun _ hk => by simp [hk]) (.int .i64 t324)) (fun _ h_ => h_.1))) hb); have n3_ := am (rb (by (with_reducible repeat (first | apply ra | apply rn | apply rd)); exact (rm (Kd.R_far (p := ⟨gb326, 2, none⟩) (Kd.R_far (p := ⟨gb326, 1, none⟩) (Kd.R_far (p := ⟨gb326, 0, none⟩) (Kd.R_types HO_285001.out BK326.out (by decide)) (fun _ hk => by simp [hk]) (.slice Ao124 t318.length co124)) (fun _ hk => by simp [hk]) (.slice Ao130 t321.length co130)) (fun _ hk => by simp [hk]) (.int .i64 t324)) (fun _ h_ => h_.1))) hb); have n4_ := am (rb (by (with_reducible repeat (first | apply ra | apply rn | apply rd)); exact (rm (Kd.R_far (p := ⟨gb326, 2, none⟩) (Kd.R_far (p := ⟨gb326, 1, none⟩) (Kd.R_far (p := ⟨gb326, 0, none⟩) (Kd.R_types HO_294000.out BK326.out (by decide)) (fun _ hk => by simp [hk]) (.slice Ao124 t318.length co124)) (fun _ hk => by simp [hk]) (.slice Ao130 t321.length co130)) (fun _ hk => by simp [hk]) (.int .i64 t324)) (fun _ h_ => h_.1))) hb); have n5_ := am (rb (by (with_reducible repeat (first | apply ra | apply rn | apply rd)); exact (rm (Kd.R_far (p := ⟨gb326, 2, none⟩) (Kd.R_far (p := ⟨gb326, 1, none⟩) (Kd.R_far (p := ⟨gb326, 0, none⟩) (Kd.R_types HO_294001.out BK326.out (by decide)) (fun _ hk => by simp [hk]) (.slice Ao124 t318.length co124)) (fun _ hk => by simp [hk]) (.slice Ao130 t321.length co130)) (fun _ hk => by simp [hk]) (.int .i64 t324)) (fun _ h_ => h_.1))) hb); have n6_ := am (rb (by (with_reducible repeat (first | apply ra | apply rn | apply rd)); exact (rm (Kd.R_far (p := ⟨gb326, 2, none⟩) (Kd.R_far (p := ⟨gb326, 1, none⟩) (Kd.R_far (p := ⟨gb326, 0, none⟩) (Kd.R_types HO313.out BK326.out (by decide)) (fun _ hk => by simp [hk]) (.slice Ao124 t318.length co124)) (fun _ hk => by simp [hk]) (.slice Ao130 t321.length co130)) (fun _ hk => by simp [hk]) (.int .i64 t324)) (fun _ h_ => h_.1))) hb); have n7_ := am (rb (by (with_reducible repeat (first | apply ra | apply rn | apply rd)); exact (rm (Kd.R_far (p := ⟨gb326, 2, none⟩) (Kd.R_far (p := ⟨gb326, 1, none⟩) (Kd.R_far (p := ⟨gb326, 0, none⟩) (Kd.R_types HO316.out BK326.out (by decide)) (fun _ hk => by simp [hk]) (.slice Ao124 t318.length co124)) (fun _ hk => by simp [hk]) (.slice Ao130 t321.length co130)) (fun _ hk => by simp [hk]) (.int .i64 t324)) (fun _ h_ => h_.1))) hb); have n8_ := am (rb (by (with_reducible repeat (first | apply ra | apply rn | apply rd)); exact (rm (Kd.R_far (p := ⟨gb326, 2, none⟩) (Kd.R_far (p := ⟨gb326, 1, none⟩) (Kd.R_far (p := ⟨gb326, 0, none⟩) (Kd.R_types HO320.out BK326.out (by decide)) (fun _ hk => by simp [hk]) (.slice Ao124 t318.length co124)) (fun _ hk => by simp [hk]) (.slice Ao130 t321.length co130)) (fun _ hk => by simp [hk]) (.int .i64 t324)) (fun _ h_ => h_.1))) hb); have n9_ := am (rb (by (with_reducible repeat (first | apply ra | apply rn | apply rd)); exact (rm (Kd.R_far (p := ⟨gb326, 2, none⟩) (Kd.R_far (p := ⟨gb326, 1, none⟩) (Kd.R_far (p := ⟨gb326, 0, none⟩) (Kd.R_types HO323.out BK326.out (by decide)) (fun _ hk => by simp [hk]) (.slice Ao124 t318.length co124)) (fun _ hk => by simp [hk]) (.slice Ao130 t321.length co130)) (fun _ hk => by simp [hk]) (.int .i64 t324)) (fun _ h_ => h_.1))) hb); have n10_ := am (bb (g := gb259) (o := .cells #[.slice A0_0 l0_0.length c0_0, .slice A0_1 l0_1.length c0_1, .int .i64 a0_2] 42 (0, 0)) (by (with_reducible repeat (first | refine bn ?_ _ | refine bd ?_ | refine ba ?_ _)); refine blk_far ?_ NB259_326.out _; (with_reducible repeat (first | refine bn ?_ _ | refine bd ?_ | refine ba ?_ _)); refine blk_far ?_ NB259_326.out _; (with_reducible repeat (first | refine bn ?_ _ | refine bd ?_ | refine ba ?_ _)); refine blk_far ?_ NB259_326.out _; (with_reducible repeat (first | refine bn ?_ _ | refine bd ?_ | refine ba ?_ _)); exact BK259.out) hb); have n11_ := am (bb (g := gb276) (o := .cells #[.slice Ao21 t268.length co21, .slice Ao24 t271.length co24, .int .i64 t274] 26 (0, 0)) (by (with_reducible repeat (first | refine bn ?_ _ | refine bd ?_ | refine ba ?_ _)); refine blk_far ?_ NB276_326.out _; (with_reducible repeat (first | refine bn ?_ _ | refine bd ?_ | refine ba ?_ _)); refine blk_far ?_ NB276_326.out _; (with_reducible repeat (first | refine bn ?_ _ | refine bd ?_ | refine ba ?_ _)); refine blk_far ?_ NB276_326.out _; (with_reducible repeat (first | refine bn ?_ _ | refine bd ?_ | refine ba ?_ _)); exact BK276.out) hb); have n12_ := am (bb (g := gb284) (o := .cells #[.slice Ao28 t304.length co28, .slice Ao32 t305.length co32, .int .i64 t283] 26 (0, 0)) (by (with_reducible repeat (first | refine bn ?_ _ | refine bd ?_ | refine ba ?_ _)); refine blk_far ?_ NB284_326.out _; (with_reducible repeat (first | refine bn ?_ _ | refine bd ?_ | refine ba ?_ _)); refine blk_far ?_ NB284_326.out _; (with_reducible repeat (first | refine bn ?_ _ | refine bd ?_ | refine ba ?_ _)); refine blk_far ?_ NB284_326.out _; (with_reducible repeat (first | refine bn ?_ _ | refine bd ?_ | refine ba ?_ _)); exact BK284.out) hb); have n13_ := am (bb (g := gb293) (o := .cells #[.slice Ao35 t285.length co35, .slice Ao40 t288.length co40, .int .i64 t291] 26 (0, 0)) (by (with_reducible repeat (first | refine bn ?_ _ | refine bd ?_ | refine ba ?_ _)); refine blk_far ?_ NB293_326.out _; (with_reducible repeat (first | refine bn ?_ _ | refine bd ?_ | refine ba ?_ _)); refine blk_far ?_ NB293_326.out _; (with_reducible repeat (first | refine bn ?_ _ | refine bd ?_ | refine ba ?_ _)); refine blk_far ?_ NB293_326.out _; (with_reducible repeat (first | refine bn ?_ _ | refine bd ?_ | refine ba ?_ _)); exact BK293.out) hb); have n14_ := am (bb (g := gb326) (o := .cells #[.slice Ao124 t318.length co124, .slice Ao130 t321.length co130, .int .i64 t324] 26 (0, 0)) (by (with_reducible repeat (first | refine bn ?_ _ | refine bd ?_ | refine ba ?_ _)); refine blk_put (cs := #[.slice Ao124 t318.length co124, .slice Ao130 t321.length co130, .int .i64 0]) ?_ 2 _ rfl; (with_reducible repeat (first | refine bn ?_ _ | refine bd ?_ | refine ba ?_ _)); refine blk_put (cs := #[.slice Ao124 t318.length co124, .slice none 0 0, .int .i64 0]) ?_ 1 _ rfl; (with_reducible repeat (first | refine bn ?_ _ | refine bd ?_ | refine ba ?_ _)); refine blk_put (cs := #[.slice none 0 0, .slice none 0 0, .int .i64 0]) ?_ 0 _ rfl; (with_reducible repeat (first | refine bn ?_ _ | refine bd ?_ | refine ba ?_ _)); exact BK326.out) hb); have n15_ := am (bs (by repeat (first | (with_reducible first | exact HB.out | apply wa | apply wn | apply wd | refine ws ?_ GE259.out | refine ws ?_ GE276.out | refine ws ?_ GE284.out | refine ws ?_ GE293.out | refine ws ?_ GE326.out) | exact HB.out)) hb); clear HO_277000; clear HO_277001; clear HO_285000; clear HO_285001; clear HO_294000; clear HO_294001; clear HO313; clear HO316; clear HO320; clear HO323; clear BK259; clear BK276; clear BK284; clear BK293; clear BK326; clear HB; have HO_277000 := n0_; have HO_277001 := n1_; have HO_285000 := n2_; have HO_285001 := n3_; have HO_294000 := n4_; have HO_294001 := n5_; have HO313 := n6_; have HO316 := n7_; have HO320 := n8_; have HO323 := n9_; have BK259 := n10_; have BK276 := n11_; have BK284 := n12_; have BK293 := n13_; have BK326 := n14_; have HB := n15_; clear n0_ n1_ n2_ n3_ n4_ n5_ n6_ n7_ n8_ n9_ n10_ n11_ n12_ n13_ n14_ n15_; (try clear hb); (try clear hb2); (try clear hk); (try clear hi)))
             go_meet
             case rel => exact ⟨_, ((t325 != t275)), (by first | rfl | (simp; done) | (simp [*]; done) | (simp; generalize ByteArray.toList _ = z; cases z <;> rfl)), H', ⟨by have := HJ10.out; have := HJ63.out; first | omega | exact Nat.le_refl _⟩, ⟨by (try simp only [hl285000_63]); (try simp only [hl285001_63]); (with_reducible repeat (first | apply ra | apply rn | apply rd)); exact rm HO_277000.out (fun _ hk => by simp [hk])⟩, ⟨by (try simp only [hl285000_63]); (try simp only [hl285001_63]); (with_reducible repeat (first | apply ra | apply rn | apply rd)); exact rm HO_277001.out (fun _ hk => by simp [hk])⟩, ⟨by (try simp only [hl285000_63]); (try simp only [hl285001_63]); (with_reducible repeat (first | apply ra | apply rn | apply rd)); exact rm HO_285000.out (fun _ hk => by simp [hk])⟩, ⟨by (try simp only [hl285000_63]); (try simp only [hl285001_63]); (with_reducible repeat (first | apply ra | apply rn | apply rd)); exact rm HO_285001.out (fun _ hk => by simp [hk])⟩, ⟨by (try simp only [hl285000_63]); (try simp only [hl285001_63]); (with_reducible repeat (first | apply ra | apply rn | apply rd)); exact rm HO_294000.out (fun _ hk => by simp [hk])⟩, ⟨by (try simp only [hl285000_63]); (try simp only [hl285001_63]); (with_reducible repeat (first | apply ra | apply rn | apply rd)); exact rm HO_294001.out (fun _ hk => by simp [hk])⟩, ⟨by (try simp only [hl285000_63]); (try simp only [hl285001_63]); (with_reducible repeat (first | apply ra | apply rn | apply rd)); exact rm HO320.out (fun _ hk => by simp [hk])⟩, ⟨by (try simp only [hl285000_63]); (try simp only [hl285001_63]); (with_reducible repeat (first | apply ra | apply rn | apply rd)); exact rm HO323.out (fun _ hk => by simp [hk])⟩, ⟨by (try simp only [hl285000_63]); (try simp only [hl285001_63]); (with_reducible repeat (first | refine bn ?_ _ | refine bd ?_ | refine ba ?_ _)); exact BK259.out⟩, ⟨by (try simp only [hl285000_63]); (try simp only [hl285001_63]); (with_reducible repeat (first | refine bn ?_ _ | refine bd ?_ | refine ba ?_ _)); exact BK276.out⟩, ⟨by (try simp only [hl285000_63]); (try simp only [hl285001_63]); (with_reducible repeat (first | refine bn ?_ _ | refine bd ?_ | refine ba ?_ _)); exact BK284.out⟩, ⟨by (try simp only [hl285000_63]); (try simp only [hl285001_63]); (with_reducible repeat (first | refine bn ?_ _ | refine bd ?_ | refine ba ?_ _)); exact BK293.out⟩, ⟨by (try simp only [hl285000_63]); (try simp only [hl285001_63]); (with_reducible repeat (first | refine bn ?_ _ | refine bd ?_ | refine ba ?_ _)); exact BK326.out⟩, ⟨by repeat (first | (with_reducible first | exact HB.out | apply wa | apply wn | apply wd | refine ws ?_ GE259.out | refine ws ?_ GE276.out | refine ws ?_ GE284.out | refine ws ?_ GE293.out | refine ws ?_ GE326.out) | exact HB.out)⟩⟩
            ·replace c132 := Bool.eq_false_iff.mpr c132
             subst c132
             have H1 : (laws_FnExactGrowTable.j2 kj63 t307 true t308 t309 t291) = some r := by rw [if_neg (show ¬ (false = true) by decide)] at H; exact H
             clear H
             have H := H1
             clear H1
             have H' := am H
             clear H
             have hnb143 := NB326_259.out
             have hnc143 := NB259_326.out
             have hnb144 := NB326_276.out
             have hnc144 := NB276_326.out
             have hnb145 := NB326_284.out
             have hnc145 := NB284_326.out
             have hnb146 := NB326_293.out
             have hnc146 := NB293_326.out
             have hcz147_0 : w123.cell? ⟨gb326, 0, none⟩ = some (.slice none 0 0) := (blk_cell BK326.out 0).trans rfl
             have hcz147_1 : w123.cell? ⟨gb326, 1, none⟩ = some (.slice none 0 0) := (blk_cell BK326.out 1).trans rfl
             have hcz147_2 : w123.cell? ⟨gb326, 2, none⟩ = some (.int .i64 0) := (blk_cell BK326.out 2).trans rfl
             have hfz147_0 := blk_frozen BK326.out 0
             have hfz147_1 := blk_frozen BK326.out 1
             have hfz147_2 := blk_frozen BK326.out 2
             have hnb148 := NB276_259.out
             have hnc148 := NB259_276.out
             have hnb149 := NB276_284.out
             have hnc149 := NB284_276.out
             have hnb150 := NB276_293.out
             have hnc150 := NB293_276.out
             have hcz151_0 : w123.cell? ⟨gb276, 0, none⟩ = some (.slice Ao21 t268.length co21) := (blk_cell BK276.out 0).trans rfl
             have hcz151_1 : w123.cell? ⟨gb276, 1, none⟩ = some (.slice Ao24 t271.length co24) := (blk_cell BK276.out 1).trans rfl
             have hcz151_2 : w123.cell? ⟨gb276, 2, none⟩ = some (.int .i64 t274) := (blk_cell BK276.out 2).trans rfl
             have hfz151_0 := blk_frozen BK276.out 0
             have hfz151_1 := blk_frozen BK276.out 1
             have hfz151_2 := blk_frozen BK276.out 2
             go_wp2_with (first | ((with_reducible refine gate_callee (f := 27) rfl ?_); refine goesL_ (some 81) rfl rfl Try.func27 (by kernel_rfl) rfl #[.agg #[.slice Ao124 t318.length co124, .slice Ao130 t321.length co130, .int .i64 t324], .agg #[.slice Ao21 t268.length co21, .slice Ao24 t271.length co24, .int .i64 t274]] rfl (by (try simp only [List.map_toArray, List.map_cons, List.map_nil]); first | done | rfl | (simp only [List.length_drop, List.length_take]; rfl)) ?_; (with_reducible refine (laws_eqTable.calls kj63 _ _ t318 _ _ t321 t324 _ _ t268 _ _ t271 t274 false _ ?side1 ?side2 ?side3 ?side4 ?side5 ?side6 ?side7 ?side8 A131.out).mono ?_); (case side1 => refine (rr (e := 57) (base := w.heap.size) (ok := fun k_ => ((((((((some k_ ≠ (.slice Ao130 t321.length co130 : Value).ownBlock ∧ some k_ ≠ (.slice Ao21 t268.length co21 : Value).ownBlock) ∧ some k_ ≠ (.slice Ao24 t271.length co24 : Value).ownBlock) ∧ some k_ ≠ (.slice Ao28 t304.length co28 : Value).ownBlock) ∧ some k_ ≠ (.slice Ao32 t305.length co32 : Value).ownBlock) ∧ some k_ ≠ (.slice Ao35 t285.length co35 : Value).ownBlock) ∧ some k_ ≠ (.slice Ao40 t288.length co40 : Value).ownBlock) ∧ some k_ ≠ (.slice Ao120 t311.length co120 : Value).ownBlock) ∧ some k_ ≠ (.slice Ao121 t314.length co121 : Value).ownBlock)) (n := t318.length) (c := co124) ?_).2.2; exact (by (with_reducible repeat (first | apply ra | apply rn | apply rd)); exact (rm (Kd.R_far (p := ⟨gb326, 2, none⟩) (Kd.R_far (p := ⟨gb326, 1, none⟩) (Kd.R_far (p := ⟨gb326, 0, none⟩) (Kd.R_types HO320.out BK326.out (by decide)) (fun _ hk => by simp [hk]) (.slice Ao124 t318.length co124)) (fun _ hk => by simp [hk]) (.slice Ao130 t321.length co130)) (fun _ hk => by simp [hk]) (.int .i64 t324)) (fun _ h_ => h_.1)))); (case side2 => exact (rr HO320.out).2.1); (case side3 => refine (rr (e := 57) (base := w.heap.size) (ok := fun k_ => ((((((((some k_ ≠ (.slice Ao124 t318.length co124 : Value).ownBlock ∧ some k_ ≠ (.slice Ao21 t268.length co21 : Value).ownBlock) ∧ some k_ ≠ (.slice Ao24 t271.length co24 : Value).ownBlock) ∧ some k_ ≠ (.slice Ao28 t304.length co28 : Value).ownBlock) ∧ some k_ ≠ (.slice Ao32 t305.length co32 : Value).ownBlock) ∧ some k_ ≠ (.slice Ao35 t285.length co35 : Value).ownBlock) ∧ some k_ ≠ (.slice Ao40 t288.length co40 : Value).ownBlock) ∧ some k_ ≠ (.slice Ao120 t311.length co120 : Value).ownBlock) ∧ some k_ ≠ (.slice Ao121 t314.length co121 : Value).ownBlock)) (n := t321.length) (c := co130) ?_).2.2; exact (by (with_reducible repeat (first | apply ra | apply rn | apply rd)); exact (rm (Kd.R_far (p := ⟨gb326, 2, none⟩) (Kd.R_far (p := ⟨gb326, 1, none⟩) (Kd.R_far (p := ⟨gb326, 0, none⟩) (Kd.R_types HO323.out BK326.out (by decide)) (fun _ hk => by simp [hk]) (.slice Ao124 t318.length co124)) (fun _ hk => by simp [hk]) (.slice Ao130 t321.length co130)) (fun _ hk => by simp [hk]) (.int .i64 t324)) (fun _ h_ => h_.1)))); (case side4 => exact (rr HO323.out).2.1); (case side5 => refine (rr (e := 57) (base := w.heap.size) (ok := fun k_ => (((((some k_ ≠ (.slice Ao24 t271.length co24 : Value).ownBlock ∧ (some k_ ≠ (.slice Ao28 t304.length co28 : Value).ownBlock ∧ (some k_ ≠ (.slice Ao32 t305.length co32 : Value).ownBlock ∧ (some k_ ≠ (.slice Ao35 t285.length co35 : Value).ownBlock ∧ some k_ ≠ (.slice Ao40 t288.length co40 : Value).ownBlock)))) ∧ some k_ ≠ (.slice Ao120 t311.length co120 : Value).ownBlock) ∧ some k_ ≠ (.slice Ao121 t314.length co121 : Value).ownBlock) ∧ some k_ ≠ (.slice Ao124 t318.length co124 : Value).ownBlock) ∧ some k_ ≠ (.slice Ao130 t321.length co130 : Value).ownBlock)) (n := t268.length) (c := co21) ?_).2.2; exact (by (with_reducible repeat (first | apply ra | apply rn | apply rd)); exact (rm (Kd.R_far (p := ⟨gb326, 2, none⟩) (Kd.R_far (p := ⟨gb326, 1, none⟩) (Kd.R_far (p := ⟨gb326, 0, none⟩) (Kd.R_types HO_277000.out BK326.out (by decide)) (fun _ hk => by simp [hk]) (.slice Ao124 t318.length co124)) (fun _ hk => by simp [hk]) (.slice Ao130 t321.length co130)) (fun _ hk => by simp [hk]) (.int .i64 t324)) (fun _ h_ => h_.1)))); (case side6 => exact (rr HO_277000.out).2.1); (case side7 => refine (rr (e := 57) (base := w.heap.size) (ok := fun k_ => (((((some k_ ≠ (.slice Ao21 t268.length co21 : Value).ownBlock ∧ (some k_ ≠ (.slice Ao28 t304.length co28 : Value).ownBlock ∧ (some k_ ≠ (.slice Ao32 t305.length co32 : Value).ownBlock ∧ (some k_ ≠ (.slice Ao35 t285.length co35 : Value).ownBlock ∧ some k_ ≠ (.slice Ao40 t288.length co40 : Value).ownBlock)))) ∧ some k_ ≠ (.slice Ao120 t311.length co120 : Value).ownBlock) ∧ some k_ ≠ (.slice Ao121 t314.length co121 : Value).ownBlock) ∧ some k_ ≠ (.slice Ao124 t318.length co124 : Value).ownBlock) ∧ some k_ ≠ (.slice Ao130 t321.length co130 : Value).ownBlock)) (n := t271.length) (c := co24) ?_).2.2; exact (by (with_reducible repeat (first | apply ra | apply rn | apply rd)); exact (rm (Kd.R_far (p := ⟨gb326, 2, none⟩) (Kd.R_far (p := ⟨gb326, 1, none⟩) (Kd.R_far (p := ⟨gb326, 0, none⟩) (Kd.R_types HO_277001.out BK326.out (by decide)) (fun _ hk => by simp [hk]) (.slice Ao124 t318.length co124)) (fun _ hk => by simp [hk]) (.slice Ao130 t321.length co130)) (fun _ hk => by simp [hk]) (.int .i64 t324)) (fun _ h_ => h_.1)))); (case side8 => exact (rr HO_277001.out).2.1); rintro e w152 ⟨rfl, hb⟩; refine ⟨_, rfl, ?_⟩; have n0_ := am (rb (by (with_reducible repeat (first | apply ra | apply rn | apply rd)); exact (rm (Kd.R_far (p := ⟨gb326, 2, none⟩) (Kd.R_far (p := ⟨gb326, 1, none⟩) (Kd.R_far (p := ⟨gb326, 0, none⟩) (Kd.R_types HO_277000.out BK326.out (by decide)) (fun _ hk => by simp [hk]) (.slice Ao124 t318.length co124)) (fun _ hk => by simp [hk]) (.slice Ao130 t321.length co130)) (fun _ hk => by simp [hk]) (.int .i64 t324)) (fun _ h_ => h_.1))) hb); have n1_ := am (rb (by (with_reducible repeat (first | apply ra | apply rn | apply rd)); exact (rm (Kd.R_far (p := ⟨gb326, 2, none⟩) (Kd.R_far (p := ⟨gb326, 1, none⟩) (Kd.R_far (p := ⟨gb326, 0, none⟩) (Kd.R_types HO_277001.out BK326.out (by decide)) (fun _ hk => by simp [hk]) (.slice Ao124 t318.length co124)) (fun _ hk => by simp [hk]) (.slice Ao130 t321.length co130)) (fun _ hk => by simp [hk]) (.int .i64 t324)) (fun _ h_ => h_.1))) hb); have n2_ := am (rb (by (with_reducible repeat (first | apply ra | apply rn | apply rd)); exact (rm (Kd.R_far (p := ⟨gb326, 2, none⟩) (Kd.R_far (p := ⟨gb326, 1, none⟩) (Kd.R_far (p := ⟨gb326, 0, none⟩) (Kd.R_types HO_285000.out BK326.out (by decide)) (fun _ hk => by simp [hk]) (.slice Ao124 t318.length co124)) (fun _ hk => by simp [hk]) (.slice Ao130 t321.length co130)) (fun _ hk => by simp [hk]) (.int .i64 t324)) (fun _ h_ => h_.1))) hb); have n3_ := am (rb (by (with_reducible repeat (first | apply ra | apply rn | apply rd)); exact (rm (Kd.R_far (p := ⟨gb326, 2, none⟩) (Kd.R_far (p := ⟨gb326, 1, none⟩) (Kd.R_far (p := ⟨gb326, 0, none⟩) (Kd.R_types HO_285001.out BK326.out (by decide)) (fun _ hk => by simp [hk]) (.slice Ao124 t318.length co124)) (fun _ hk => by simp [hk]) (.slice Ao130 t321.length co130)) (fun _ hk => by simp [hk]) (.int .i64 t324)) (fun _ h_ => h_.1))) hb); have n4_ := am (rb (by (with_reducible repeat (first | apply ra | apply rn | apply rd)); exact (rm (Kd.R_far (p := ⟨gb326, 2, none⟩) (Kd.R_far (p := ⟨gb326, 1, none⟩) (Kd.R_far (p := ⟨gb326, 0, none⟩) (Kd.R_types HO_294000.out BK326.out (by decide)) (fun _ hk => by simp [hk]) (.slice Ao124 t318.length co124)) (fun _ hk => by simp [hk]) (.slice Ao130 t321.length co130)) (fun _ hk => by simp [hk]) (.int .i64 t324)) (fun _ h_ => h_.1))) hb); have n5_ := am (rb (by (with_reducible repeat (first | apply ra | apply rn | apply rd)); exact (rm (Kd.R_far (p := ⟨gb326, 2, none⟩) (Kd.R_far (p := ⟨gb326, 1, none⟩) (Kd.R_far (p := ⟨gb326, 0, none⟩) (Kd.R_types HO_294001.out BK326.out (by decide)) (fun _ hk => by simp [hk]) (.slice Ao124 t318.length co124)) (fun _ hk => by simp [hk]) (.slice Ao130 t321.length co130)) (fun _ hk => by simp [hk]) (.int .i64 t324)) (fun _ h_ => h_.1))) hb); have n6_ := am (rb (by (with_reducible repeat (first | apply ra | apply rn | apply rd)); exact (rm (Kd.R_far (p := ⟨gb326, 2, none⟩) (Kd.R_far (p := ⟨gb326, 1, none⟩) (Kd.R_far (p := ⟨gb326, 0, none⟩) (Kd.R_types HO313.out BK326.out (by decide)) (fun _ hk => by simp [hk]) (.slice Ao124 t318.length co124)) (fun _ hk => by simp [hk]) (.slice Ao130 t321.length co130)) (fun _ hk => by simp [hk]) (.int .i64 t324)) (fun _ h_ => h_.1))) hb); have n7_ := am (rb (by (with_reducible repeat (first | apply ra | apply rn | apply rd)); exact (rm (Kd.R_far (p := ⟨gb326, 2, none⟩) (Kd.R_far (p := ⟨gb326, 1, none⟩) (Kd.R_far (p := ⟨gb326, 0, none⟩) (Kd.R_types HO316.out BK326.out (by decide)) (fun _ hk => by simp [hk]) (.slice Ao124 t318.length co124)) (fun _ hk => by simp [hk]) (.slice Ao130 t321.length co130)) (fun _ hk => by simp [hk]) (.int .i64 t324)) (fun _ h_ => h_.1))) hb); have n8_ := am (rb (by (with_reducible repeat (first | apply ra | apply rn | apply rd)); exact (rm (Kd.R_far (p := ⟨gb326, 2, none⟩) (Kd.R_far (p := ⟨gb326, 1, none⟩) (Kd.R_far (p := ⟨gb326, 0, none⟩) (Kd.R_types HO320.out BK326.out (by decide)) (fun _ hk => by simp [hk]) (.slice Ao124 t318.length co124)) (fun _ hk => by simp [hk]) (.slice Ao130 t321.length co130)) (fun _ hk => by simp [hk]) (.int .i64 t324)) (fun _ h_ => h_.1))) hb); have n9_ := am (rb (by (with_reducible repeat (first | apply ra | apply rn | apply rd)); exact (rm (Kd.R_far (p := ⟨gb326, 2, none⟩) (Kd.R_far (p := ⟨gb326, 1, none⟩) (Kd.R_far (p := ⟨gb326, 0, none⟩) (Kd.R_types HO323.out BK326.out (by decide)) (fun _ hk => by simp [hk]) (.slice Ao124 t318.length co124)) (fun _ hk => by simp [hk]) (.slice Ao130 t321.length co130)) (fun _ hk => by simp [hk]) (.int .i64 t324)) (fun _ h_ => h_.1))) hb); have n10_ := am (bb (g := gb259) (o := .cells #[.slice A0_0 l0_0.length c0_0, .slice A0_1 l0_1.length c0_1, .int .i64 a0_2] 42 (0, 0)) (by (with_reducible repeat (first | refine bn ?_ _ | refine bd ?_ | refine ba ?_ _)); refine blk_far ?_ NB259_326.out _; (with_reducible repeat (first | refine bn ?_ _ | refine bd ?_ | refine ba ?_ _)); refine blk_far ?_ NB259_326.out _; (with_reducible repeat (first | refine bn ?_ _ | refine bd ?_ | refine ba ?_ _)); refine blk_far ?_ NB259_326.out _; (with_reducible repeat (first | refine bn ?_ _ | refine bd ?_ | refine ba ?_ _)); exact BK259.out) hb); have n11_ := am (bb (g := gb276) (o := .cells #[.slice Ao21 t268.length co21, .slice Ao24 t271.length co24, .int .i64 t274] 26 (0, 0)) (by (with_reducible repeat (first | refine bn ?_ _ | refine bd ?_ | refine ba ?_ _)); refine blk_far ?_ NB276_326.out _; (with_reducible repeat (first | refine bn ?_ _ | refine bd ?_ | refine ba ?_ _)); refine blk_far ?_ NB276_326.out _; (with_reducible repeat (first | refine bn ?_ _ | refine bd ?_ | refine ba ?_ _)); refine blk_far ?_ NB276_326.out _; (with_reducible repeat (first | refine bn ?_ _ | refine bd ?_ | refine ba ?_ _)); exact BK276.out) hb); have n12_ := am (bb (g := gb284) (o := .cells #[.slice Ao28 t304.length co28, .slice Ao32 t305.length co32, .int .i64 t283] 26 (0, 0)) (by (with_reducible repeat (first | refine bn ?_ _ | refine bd ?_ | refine ba ?_ _)); refine blk_far ?_ NB284_326.out _; (with_reducible repeat (first | refine bn ?_ _ | refine bd ?_ | refine ba ?_ _)); refine blk_far ?_ NB284_326.out _; (with_reducible repeat (first | refine bn ?_ _ | refine bd ?_ | refine ba ?_ _)); refine blk_far ?_ NB284_326.out _; (with_reducible repeat (first | refine bn ?_ _ | refine bd ?_ | refine ba ?_ _)); exact BK284.out) hb); have n13_ := am (bb (g := gb293) (o := .cells #[.slice Ao35 t285.length co35, .slice Ao40 t288.length co40, .int .i64 t291] 26 (0, 0)) (by (with_reducible repeat (first | refine bn ?_ _ | refine bd ?_ | refine ba ?_ _)); refine blk_far ?_ NB293_326.out _; (with_reducible repeat (first | refine bn ?_ _ | refine bd ?_ | refine ba ?_ _)); refine blk_far ?_ NB293_326.out _; (with_reducible repeat (first | refine bn ?_ _ | refine bd ?_ | refine ba ?_ _)); refine blk_far ?_ NB293_326.out _; (with_reducible repeat (first | refine bn ?_ _ | refine bd ?_ | refine ba ?_ _)); exact BK293.out) hb); have n14_ := am (bb (g := gb326) (o := .cells #[.slice Ao124 t318.length co124, .slice Ao130 t321.length co130, .int .i64 t324] 26 (0, 0)) (by (with_reducible repeat (first | refine bn ?_ _ | refine bd ?_ | refine ba ?_ _)); refine blk_put (cs := #[.slice Ao124 t318.length co124, .slice Ao130 t321.length co130, .int .i64 0]) ?_ 2 _ rfl; (with_reducible repeat (first | refine bn ?_ _ | refine bd ?_ | refine ba ?_ _)); refine blk_put (cs := #[.slice Ao124 t318.length co124, .slice none 0 0, .int .i64 0]) ?_ 1 _ rfl; (with_reducible repeat (first | refine bn ?_ _ | refine bd ?_ | refine ba ?_ _)); refine blk_put (cs := #[.slice none 0 0, .slice none 0 0, .int .i64 0]) ?_ 0 _ rfl; (with_reducible repeat (first | refine bn ?_ _ | refine bd ?_ | refine ba ?_ _)); exact BK326.out) hb); have n15_ := am (bs (by repeat (first | (with_reducible first | exact HB.out | apply wa | apply wn | apply wd | refine ws ?_ GE259.out | refine ws ?_ GE276.out | refine ws ?_ GE284.out | refine ws ?_ GE293.out | refine ws ?_ GE326.out) | exact HB.out)) hb); clear HO_277000; clear HO_277001; clear HO_285000; clear HO_285001; clear HO_294000; clear HO_294001; clear HO313; clear HO316; clear HO320; clear HO323; clear BK259; clear BK276; clear BK284; clear BK293; clear BK326; clear HB; have HO_277000 := n0_; have HO_277001 := n1_; have HO_285000 := n2_; have HO_285001 := n3_; have HO_294000 := n4_; have HO_294001 := n5_; have HO313 := n6_; have HO316 := n7_; have HO320 := n8_; have HO323 := n9_; have BK259 := n10_; have BK276 := n11_; have BK284 := n12_; have BK293 := n13_; have BK326 := n14_; have HB := n15_; clear n0_ n1_ n2_ n3_ n4_ n5_ n6_ n7_ n8_ n9_ n10_ n11_ n12_ n13_ n14_ n15_; (try clear hb); (try clear hb2); (try clear hk); (try clear hi)))
             go_meet
             case rel => exact ⟨_, (true), (by first | rfl | (simp; done) | (simp [*]; done) | (simp; generalize ByteArray.toList _ = z; cases z <;> rfl)), H', ⟨by have := HJ10.out; have := HJ63.out; first | omega | exact Nat.le_refl _⟩, ⟨by (try simp only [hl285000_63]); (try simp only [hl285001_63]); (with_reducible repeat (first | apply ra | apply rn | apply rd)); exact rm HO_277000.out (fun _ hk => by simp [hk])⟩, ⟨by (try simp only [hl285000_63]); (try simp only [hl285001_63]); (with_reducible repeat (first | apply ra | apply rn | apply rd)); exact rm HO_277001.out (fun _ hk => by simp [hk])⟩, ⟨by (try simp only [hl285000_63]); (try simp only [hl285001_63]); (with_reducible repeat (first | apply ra | apply rn | apply rd)); exact rm HO_285000.out (fun _ hk => by simp [hk])⟩, ⟨by (try simp only [hl285000_63]); (try simp only [hl285001_63]); (with_reducible repeat (first | apply ra | apply rn | apply rd)); exact rm HO_285001.out (fun _ hk => by simp [hk])⟩, ⟨by (try simp only [hl285000_63]); (try simp only [hl285001_63]); (with_reducible repeat (first | apply ra | apply rn | apply rd)); exact rm HO_294000.out (fun _ hk => by simp [hk])⟩, ⟨by (try simp only [hl285000_63]); (try simp only [hl285001_63]); (with_reducible repeat (first | apply ra | apply rn | apply rd)); exact rm HO_294001.out (fun _ hk => by simp [hk])⟩, ⟨by (try simp only [hl285000_63]); (try simp only [hl285001_63]); (with_reducible repeat (first | apply ra | apply rn | apply rd)); exact rm HO320.out (fun _ hk => by simp [hk])⟩, ⟨by (try simp only [hl285000_63]); (try simp only [hl285001_63]); (with_reducible repeat (first | apply ra | apply rn | apply rd)); exact rm HO323.out (fun _ hk => by simp [hk])⟩, ⟨by (try simp only [hl285000_63]); (try simp only [hl285001_63]); (with_reducible repeat (first | refine bn ?_ _ | refine bd ?_ | refine ba ?_ _)); exact BK259.out⟩, ⟨by (try simp only [hl285000_63]); (try simp only [hl285001_63]); (with_reducible repeat (first | refine bn ?_ _ | refine bd ?_ | refine ba ?_ _)); exact BK276.out⟩, ⟨by (try simp only [hl285000_63]); (try simp only [hl285001_63]); (with_reducible repeat (first | refine bn ?_ _ | refine bd ?_ | refine ba ?_ _)); exact BK284.out⟩, ⟨by (try simp only [hl285000_63]); (try simp only [hl285001_63]); (with_reducible repeat (first | refine bn ?_ _ | refine bd ?_ | refine ba ?_ _)); exact BK293.out⟩, ⟨by (try simp only [hl285000_63]); (try simp only [hl285001_63]); (with_reducible repeat (first | refine bn ?_ _ | refine bd ?_ | refine ba ?_ _)); exact BK326.out⟩, ⟨by repeat (first | (with_reducible first | exact HB.out | apply wa | apply wn | apply wd | refine ws ?_ GE259.out | refine ws ?_ GE276.out | refine ws ?_ GE284.out | refine ws ?_ GE293.out | refine ws ?_ GE326.out) | exact HB.out)⟩⟩
           case rest =>
            clear HC108
            try clear c1
            try clear c2
            try clear p2
            try clear c3
            try clear c3b0
            try clear c4
            try clear c5
            try clear c6
            try clear c7
            try clear c8
            try clear c9
            try clear c10
            try clear c11
            try clear c12
            try clear c13
            try clear c14
            try clear c15
            try clear c17
            try clear c22
            try clear c24
            try clear c26
            try clear c27
            try clear c29
            try clear c30
            try clear c35
            try clear c36
            try clear c37
            try clear c38
            try clear c42
            try clear c43
            try clear c44
            try clear c45
            try clear c47
            try clear c48
            try clear c51
            try clear c52
            try clear c53
            try clear c55
            try clear c56
            try clear c59
            try clear c62
            try clear c70
            try clear c71
            try clear c72
            try clear c75
            try clear c75b0
            try clear c77
            try clear c78
            try clear c79
            try clear c80
            try clear c82
            try clear c83
            try clear c86
            try clear c87
            try clear c88
            try clear c90
            try clear c91
            try clear c94
            try clear c97
            try clear c97b0
            try clear c98
            try clear c99
            try clear c100
            try clear c105
            try clear c105b0
            try clear c105b1
            try clear c109
            try clear c110
            try clear c111
            try clear c116
            try clear c117
            try clear c125
            try clear c126
            try clear c127
            try clear c128
            try clear c132
            try clear c133
            try clear c134
            try clear c135
            try clear c136
            try clear c138
            try clear c139
            try clear c140
            try clear c143
            try clear c144
            try clear c145
            try clear c146
            try clear c148
            try clear c149
            try clear c150
            try clear hcz101_0
            try clear hcz101_1
            try clear hcz101_2
            try clear hcz103_0
            try clear hcz103_1
            try clear hcz103_2
            try clear hcz112_0
            try clear hcz112_1
            try clear hcz112_2
            try clear hcz114_0
            try clear hcz114_1
            try clear hcz114_2
            try clear hcz118_0
            try clear hcz118_1
            try clear hcz118_2
            try clear hcz129_0
            try clear hcz129_1
            try clear hcz129_2
            try clear hcz137_0
            try clear hcz137_1
            try clear hcz137_2
            try clear hcz13_0
            try clear hcz13_1
            try clear hcz13_2
            try clear hcz141_0
            try clear hcz141_1
            try clear hcz141_2
            try clear hcz147_0
            try clear hcz147_1
            try clear hcz147_2
            try clear hcz151_0
            try clear hcz151_1
            try clear hcz151_2
            try clear hcz15_0
            try clear hcz15_1
            try clear hcz15_2
            try clear hcz23_0
            try clear hcz23_1
            try clear hcz23_2
            try clear hcz25_0
            try clear hcz25_1
            try clear hcz25_2
            try clear hcz31_0
            try clear hcz31_1
            try clear hcz31_2
            try clear hcz39_0
            try clear hcz39_1
            try clear hcz39_2
            try clear hcz46_0
            try clear hcz46_1
            try clear hcz46_2
            try clear hcz49_0
            try clear hcz49_1
            try clear hcz49_2
            try clear hcz54_0
            try clear hcz54_1
            try clear hcz54_2
            try clear hcz57_0
            try clear hcz57_1
            try clear hcz57_2
            try clear hcz5_0
            try clear hcz5_1
            try clear hcz5_2
            try clear hcz73_0
            try clear hcz73_1
            try clear hcz73_2
            try clear hcz81_0
            try clear hcz81_1
            try clear hcz81_2
            try clear hcz84_0
            try clear hcz84_1
            try clear hcz84_2
            try clear hcz89_0
            try clear hcz89_1
            try clear hcz89_2
            try clear hcz92_0
            try clear hcz92_1
            try clear hcz92_2
            try clear hfz101_0
            try clear hfz101_1
            try clear hfz101_2
            try clear hfz103_0
            try clear hfz103_1
            try clear hfz103_2
            try clear hfz112_0
            try clear hfz112_1
            try clear hfz112_2
            try clear hfz114_0
            try clear hfz114_1
            try clear hfz114_2
            try clear hfz118_0
            try clear hfz118_1
            try clear hfz118_2
            try clear hfz129_0
            try clear hfz129_1
            try clear hfz129_2
            try clear hfz137_0
            try clear hfz137_1
            try clear hfz137_2
            try clear hfz13_0
            try clear hfz13_1
            try clear hfz13_2
            try clear hfz141_0
            try clear hfz141_1
            try clear hfz141_2
            try clear hfz147_0
            try clear hfz147_1
            try clear hfz147_2
            try clear hfz151_0
            try clear hfz151_1
            try clear hfz151_2
            try clear hfz15_0
            try clear hfz15_1
            try clear hfz15_2
            try clear hfz23_0
            try clear hfz23_1
            try clear hfz23_2
            try clear hfz25_0
            try clear hfz25_1
            try clear hfz25_2
            try clear hfz31_0
            try clear hfz31_1
            try clear hfz31_2
            try clear hfz39_0
            try clear hfz39_1
            try clear hfz39_2
            try clear hfz46_0
            try clear hfz46_1
            try clear hfz46_2
            try clear hfz49_0
            try clear hfz49_1
            try clear hfz49_2
            try clear hfz54_0
            try clear hfz54_1
            try clear hfz54_2
            try clear hfz57_0
            try clear hfz57_1
            try clear hfz57_2
            try clear hfz5_0
            try clear hfz5_1
            try clear hfz5_2
            try clear hfz73_0
            try clear hfz73_1
            try clear hfz73_2
            try clear hfz81_0
            try clear hfz81_1
            try clear hfz81_2
            try clear hfz84_0
            try clear hfz84_1
            try clear hfz84_2
            try clear hfz89_0
            try clear hfz89_1
            try clear hfz89_2
            try clear hfz92_0
            try clear hfz92_1
            try clear hfz92_2
            try clear p2
            obtain ⟨kq, x87_107, rfl, HA, HJ107, HO_277000, HO_277001, HO_285000, HO_285001, HO_294000, HO_294001, HO_327000, HO_327001, BK259, BK276, BK284, BK293, BK326, HB⟩ := hcut
            have hl294000_107 := (rr HO_294000.out).1
            rw [hl294000_107] at HO_294000
            (try simp only [hl294000_107])
            (try simp only [hl294000_107] at BK259)
            (try simp only [hl294000_107] at BK276)
            (try simp only [hl294000_107] at BK284)
            (try simp only [hl294000_107] at BK293)
            (try simp only [hl294000_107] at BK326)
            (try simp only [hl294000_107] at HO_277000)
            (try simp only [hl294000_107] at HO_277001)
            (try simp only [hl294000_107] at HO_285000)
            (try simp only [hl294000_107] at HO_285001)
            (try simp only [hl294000_107] at HO_294001)
            (try simp only [hl294000_107] at HO_327000)
            (try simp only [hl294000_107] at HO_327001)
            have hl294001_107 := (rr HO_294001.out).1
            rw [hl294001_107] at HO_294001
            (try simp only [hl294001_107])
            (try simp only [hl294001_107] at BK259)
            (try simp only [hl294001_107] at BK276)
            (try simp only [hl294001_107] at BK284)
            (try simp only [hl294001_107] at BK293)
            (try simp only [hl294001_107] at BK326)
            (try simp only [hl294001_107] at HO_277000)
            (try simp only [hl294001_107] at HO_277001)
            (try simp only [hl294001_107] at HO_285000)
            (try simp only [hl294001_107] at HO_285001)
            (try simp only [hl294001_107] at HO_294000)
            (try simp only [hl294001_107] at HO_327000)
            (try simp only [hl294001_107] at HO_327001)
            cases kq with
            | zero => exact absurd HA.out (by simp [laws_FnExactGrowTable.j2])
            | succ kj107 =>
             have H := HA.out
             clear HA
             simp only [laws_FnExactGrowTable.j2] at H
             by_cases c153 : x87_107 = true
             ·subst c153
              have H1 : (some false) = some r := by rw [if_pos rfl] at H; exact H
              clear H
              have H := H1
              clear H1
              obtain rfl := Option.some.inj H
              go_wp2
              go_ret
              exact ⟨by first | rfl | (simp [errW_none, errW_some] <;> rfl) | (simp [*, errW_none, errW_some] <;> rfl), by repeat (first | (with_reducible first | exact HB.out | apply wa | apply wn | apply wd | refine ws ?_ GE259.out | refine ws ?_ GE276.out | refine ws ?_ GE284.out | refine ws ?_ GE293.out | refine ws ?_ GE326.out) | exact HB.out)⟩
             ·replace c153 := Bool.eq_false_iff.mpr c153
              subst c153
              have H1 : ((laws_heldTable.f kj107 t308 t309 t291 1).bind fun t328 => (if t328 < 0 then (some false) else (if t328 = t307 then (some true) else (some false)))) = some r := by rw [if_neg (show ¬ (false = true) by decide)] at H; exact H
              clear H
              have H := H1
              clear H1
              replace H := Option.bind_eq_some_iff.mp H
              obtain ⟨t328, A1540, H⟩ := H
              replace H : (if t328 < 0 then (some false) else (if t328 = t307 then (some true) else (some false))) = some r := H
              have A154 := am A1540
              clear A1540
              by_cases c155 : t328 < 0
              ·rw [if_pos c155] at H
               have c155b0 : decide (t328 < 0) = true := decide_eq_true c155
               clear c155
               obtain rfl := Option.some.inj H
               have hnb156 := NB293_259.out
               have hnc156 := NB259_293.out
               have hnb157 := NB293_276.out
               have hnc157 := NB276_293.out
               have hnb158 := NB293_284.out
               have hnc158 := NB284_293.out
               have hnb159 := NB293_326.out
               have hnc159 := NB326_293.out
               have hcz160_0 : wc.cell? ⟨gb293, 0, none⟩ = some (.slice Ao35 t308.length co35) := (blk_cell BK293.out 0).trans rfl
               have hcz160_1 : wc.cell? ⟨gb293, 1, none⟩ = some (.slice Ao40 t309.length co40) := (blk_cell BK293.out 1).trans rfl
               have hcz160_2 : wc.cell? ⟨gb293, 2, none⟩ = some (.int .i64 t291) := (blk_cell BK293.out 2).trans rfl
               have hfz160_0 := blk_frozen BK293.out 0
               have hfz160_1 := blk_frozen BK293.out 1
               have hfz160_2 := blk_frozen BK293.out 2
               go_wp2_with (first | ((with_reducible refine gate_callee (f := 35) rfl ?_); refine goesL_ (some 90) rfl rfl Try.func35 (by kernel_rfl) rfl #[.agg #[.slice Ao35 t308.length co35, .slice Ao40 t309.length co40, .int .i64 t291], .int .i64 1] rfl (by (try simp only [List.map_toArray, List.map_cons, List.map_nil]); first | done | rfl | (simp only [List.length_drop, List.length_take]; rfl)) ?_; (with_reducible refine (laws_heldTable.calls kj107 _ _ t308 _ _ t309 t291 1 t328 _ ?side1 ?side2 ?side3 ?side4 A154.out).mono ?_); (case side1 => repeat (first | exact (rr HO_294000.out).2.2 | (with_reducible refine Kd.C_alloc ?_ _) | (with_reducible refine Kd.C_drewN ?_ _) | (with_reducible refine Kd.C_drew ?_))); (case side2 => exact (rr HO_294000.out).2.1); (case side3 => repeat (first | exact (rr HO_294001.out).2.2 | (with_reducible refine Kd.C_alloc ?_ _) | (with_reducible refine Kd.C_drewN ?_ _) | (with_reducible refine Kd.C_drew ?_))); (case side4 => exact (rr HO_294001.out).2.1); rintro e w161 ⟨rfl, hb⟩; refine ⟨_, rfl, ?_⟩; have n0_ := am (rb (by (with_reducible repeat (first | apply ra | apply rn | apply rd)); exact HO_277000.out) hb); have n1_ := am (rb (by (with_reducible repeat (first | apply ra | apply rn | apply rd)); exact HO_277001.out) hb); have n2_ := am (rb (by (with_reducible repeat (first | apply ra | apply rn | apply rd)); exact HO_285000.out) hb); have n3_ := am (rb (by (with_reducible repeat (first | apply ra | apply rn | apply rd)); exact HO_285001.out) hb); have n4_ := am (rb (by (with_reducible repeat (first | apply ra | apply rn | apply rd)); exact HO_294000.out) hb); have n5_ := am (rb (by (with_reducible repeat (first | apply ra | apply rn | apply rd)); exact HO_294001.out) hb); have n6_ := am (rb (by (with_reducible repeat (first | apply ra | apply rn | apply rd)); exact HO_327000.out) hb); have n7_ := am (rb (by (with_reducible repeat (first | apply ra | apply rn | apply rd)); exact HO_327001.out) hb); have n8_ := am (bb (g := gb259) (o := .cells #[.slice A0_0 l0_0.length c0_0, .slice A0_1 l0_1.length c0_1, .int .i64 a0_2] 42 (0, 0)) (by (with_reducible repeat (first | refine bn ?_ _ | refine bd ?_ | refine ba ?_ _)); exact BK259.out) hb); have n9_ := am (bb (g := gb276) (o := .cells #[.slice Ao21 t268.length co21, .slice Ao24 t271.length co24, .int .i64 t274] 26 (0, 0)) (by (with_reducible repeat (first | refine bn ?_ _ | refine bd ?_ | refine ba ?_ _)); exact BK276.out) hb); have n10_ := am (bb (g := gb284) (o := .cells #[.slice Ao28 t304.length co28, .slice Ao32 t305.length co32, .int .i64 t283] 26 (0, 0)) (by (with_reducible repeat (first | refine bn ?_ _ | refine bd ?_ | refine ba ?_ _)); exact BK284.out) hb); have n11_ := am (bb (g := gb293) (o := .cells #[.slice Ao35 t308.length co35, .slice Ao40 t309.length co40, .int .i64 t291] 26 (0, 0)) (by (with_reducible repeat (first | refine bn ?_ _ | refine bd ?_ | refine ba ?_ _)); exact BK293.out) hb); have n12_ := am (bb (g := gb326) (o := .cells #[.slice Ao124 t318.length co124, .slice Ao130 t321.length co130, .int .i64 t324] 26 (0, 0)) (by (with_reducible repeat (first | refine bn ?_ _ | refine bd ?_ | refine ba ?_ _)); exact BK326.out) hb); have n13_ := am (bs (by repeat (first | (with_reducible first | exact HB.out | apply wa | apply wn | apply wd | refine ws ?_ GE259.out | refine ws ?_ GE276.out | refine ws ?_ GE284.out | refine ws ?_ GE293.out | refine ws ?_ GE326.out) | exact HB.out)) hb); clear HO_277000; clear HO_277001; clear HO_285000; clear HO_285001; clear HO_294000; clear HO_294001; clear HO_327000; clear HO_327001; clear BK259; clear BK276; clear BK284; clear BK293; clear BK326; clear HB; have HO_277000 := n0_; have HO_277001 := n1_; have HO_285000 := n2_; have HO_285001 := n3_; have HO_294000 := n4_; have HO_294001 := n5_; have HO_327000 := n6_; have HO_327001 := n7_; have BK259 := n8_; have BK276 := n9_; have BK284 := n10_; have BK293 := n11_; have BK326 := n12_; have HB := n13_; clear n0_ n1_ n2_ n3_ n4_ n5_ n6_ n7_ n8_ n9_ n10_ n11_ n12_ n13_; (try clear hb); (try clear hb2); (try clear hk); (try clear hi)))
               go_ret
               exact ⟨by first | rfl | (simp [errW_none, errW_some] <;> rfl) | (simp [*, errW_none, errW_some] <;> rfl), by repeat (first | (with_reducible first | exact HB.out | apply wa | apply wn | apply wd | refine ws ?_ GE259.out | refine ws ?_ GE276.out | refine ws ?_ GE284.out | refine ws ?_ GE293.out | refine ws ?_ GE326.out) | exact HB.out)⟩
              ·rw [if_neg c155] at H
               have c155b0 : decide (t328 < 0) = false := decide_eq_false c155
               clear c155
               by_cases c162 : t328 = t307
               ·rw [if_pos c162] at H
                have c162b0 : (t328 == t307) = true := beq_iff_eq.mpr c162
                have c162b1 : (t328 != t307) = false := bne_eq_false_iff_eq.mpr c162
                clear c162
                obtain rfl := Option.some.inj H
                have hnb163 := NB293_259.out
                have hnc163 := NB259_293.out
                have hnb164 := NB293_276.out
                have hnc164 := NB276_293.out
                have hnb165 := NB293_284.out
                have hnc165 := NB284_293.out
                have hnb166 := NB293_326.out
                have hnc166 := NB326_293.out
                have hcz167_0 : wc.cell? ⟨gb293, 0, none⟩ = some (.slice Ao35 t308.length co35) := (blk_cell BK293.out 0).trans rfl
                have hcz167_1 : wc.cell? ⟨gb293, 1, none⟩ = some (.slice Ao40 t309.length co40) := (blk_cell BK293.out 1).trans rfl
                have hcz167_2 : wc.cell? ⟨gb293, 2, none⟩ = some (.int .i64 t291) := (blk_cell BK293.out 2).trans rfl
                have hfz167_0 := blk_frozen BK293.out 0
                have hfz167_1 := blk_frozen BK293.out 1
                have hfz167_2 := blk_frozen BK293.out 2
                go_wp2_with (first | ((with_reducible refine gate_callee (f := 35) rfl ?_); refine goesL_ (some 90) rfl rfl Try.func35 (by kernel_rfl) rfl #[.agg #[.slice Ao35 t308.length co35, .slice Ao40 t309.length co40, .int .i64 t291], .int .i64 1] rfl (by (try simp only [List.map_toArray, List.map_cons, List.map_nil]); first | done | rfl | (simp only [List.length_drop, List.length_take]; rfl)) ?_; (with_reducible refine (laws_heldTable.calls kj107 _ _ t308 _ _ t309 t291 1 t328 _ ?side1 ?side2 ?side3 ?side4 A154.out).mono ?_); (case side1 => repeat (first | exact (rr HO_294000.out).2.2 | (with_reducible refine Kd.C_alloc ?_ _) | (with_reducible refine Kd.C_drewN ?_ _) | (with_reducible refine Kd.C_drew ?_))); (case side2 => exact (rr HO_294000.out).2.1); (case side3 => repeat (first | exact (rr HO_294001.out).2.2 | (with_reducible refine Kd.C_alloc ?_ _) | (with_reducible refine Kd.C_drewN ?_ _) | (with_reducible refine Kd.C_drew ?_))); (case side4 => exact (rr HO_294001.out).2.1); rintro e w168 ⟨rfl, hb⟩; refine ⟨_, rfl, ?_⟩; have n0_ := am (rb (by (with_reducible repeat (first | apply ra | apply rn | apply rd)); exact HO_277000.out) hb); have n1_ := am (rb (by (with_reducible repeat (first | apply ra | apply rn | apply rd)); exact HO_277001.out) hb); have n2_ := am (rb (by (with_reducible repeat (first | apply ra | apply rn | apply rd)); exact HO_285000.out) hb); have n3_ := am (rb (by (with_reducible repeat (first | apply ra | apply rn | apply rd)); exact HO_285001.out) hb); have n4_ := am (rb (by (with_reducible repeat (first | apply ra | apply rn | apply rd)); exact HO_294000.out) hb); have n5_ := am (rb (by (with_reducible repeat (first | apply ra | apply rn | apply rd)); exact HO_294001.out) hb); have n6_ := am (rb (by (with_reducible repeat (first | apply ra | apply rn | apply rd)); exact HO_327000.out) hb); have n7_ := am (rb (by (with_reducible repeat (first | apply ra | apply rn | apply rd)); exact HO_327001.out) hb); have n8_ := am (bb (g := gb259) (o := .cells #[.slice A0_0 l0_0.length c0_0, .slice A0_1 l0_1.length c0_1, .int .i64 a0_2] 42 (0, 0)) (by (with_reducible repeat (first | refine bn ?_ _ | refine bd ?_ | refine ba ?_ _)); exact BK259.out) hb); have n9_ := am (bb (g := gb276) (o := .cells #[.slice Ao21 t268.length co21, .slice Ao24 t271.length co24, .int .i64 t274] 26 (0, 0)) (by (with_reducible repeat (first | refine bn ?_ _ | refine bd ?_ | refine ba ?_ _)); exact BK276.out) hb); have n10_ := am (bb (g := gb284) (o := .cells #[.slice Ao28 t304.length co28, .slice Ao32 t305.length co32, .int .i64 t283] 26 (0, 0)) (by (with_reducible repeat (first | refine bn ?_ _ | refine bd ?_ | refine ba ?_ _)); exact BK284.out) hb); have n11_ := am (bb (g := gb293) (o := .cells #[.slice Ao35 t308.length co35, .slice Ao40 t309.length co40, .int .i64 t291] 26 (0, 0)) (by (with_reducible repeat (first | refine bn ?_ _ | refine bd ?_ | refine ba ?_ _)); exact BK293.out) hb); have n12_ := am (bb (g := gb326) (o := .cells #[.slice Ao124 t318.length co124, .slice Ao130 t321.length co130, .int .i64 t324] 26 (0, 0)) (by (with_reducible repeat (first | refine bn ?_ _ | refine bd ?_ | refine ba ?_ _)); exact BK326.out) hb); have n13_ := am (bs (by repeat (first | (with_reducible first | exact HB.out | apply wa | apply wn | apply wd | refine ws ?_ GE259.out | refine ws ?_ GE276.out | refine ws ?_ GE284.out | refine ws ?_ GE293.out | refine ws ?_ GE326.out) | exact HB.out)) hb); clear HO_277000; clear HO_277001; clear HO_285000; clear HO_285001; clear HO_294000; clear HO_294001; clear HO_327000; clear HO_327001; clear BK259; clear BK276; clear BK284; clear BK293; clear BK326; clear HB; have HO_277000 := n0_; have HO_277001 := n1_; have HO_285000 := n2_; have HO_285001 := n3_; have HO_294000 := n4_; have HO_294001 := n5_; have HO_327000 := n6_; have HO_327001 := n7_; have BK259 := n8_; have BK276 := n9_; have BK284 := n10_; have BK293 := n11_; have BK326 := n12_; have HB := n13_; clear n0_ n1_ n2_ n3_ n4_ n5_ n6_ n7_ n8_ n9_ n10_ n11_ n12_ n13_; (try clear hb); (try clear hb2); (try clear hk); (try clear hi)))
                go_ret
                exact ⟨by first | rfl | (simp [errW_none, errW_some] <;> rfl) | (simp [*, errW_none, errW_some] <;> rfl), by repeat (first | (with_reducible first | exact HB.out | apply wa | apply wn | apply wd | refine ws ?_ GE259.out | refine ws ?_ GE276.out | refine ws ?_ GE284.out | refine ws ?_ GE293.out | refine ws ?_ GE326.out) | exact HB.out)⟩
               ·rw [if_neg c162] at H
                have c162b0 : (t328 == t307) = false := beq_eq_false_iff_ne.mpr c162
                have c162b1 : (t328 != t307) = true := bne_iff_ne.mpr c162
                obtain rfl := Option.some.inj H
                have hnb169 := NB293_259.out
                have hnc169 := NB259_293.out
                have hnb170 := NB293_276.out
                have hnc170 := NB276_293.out
                have hnb171 := NB293_284.out
                have hnc171 := NB284_293.out
                have hnb172 := NB293_326.out
                have hnc172 := NB326_293.out
                have hcz173_0 : wc.cell? ⟨gb293, 0, none⟩ = some (.slice Ao35 t308.length co35) := (blk_cell BK293.out 0).trans rfl
                have hcz173_1 : wc.cell? ⟨gb293, 1, none⟩ = some (.slice Ao40 t309.length co40) := (blk_cell BK293.out 1).trans rfl
                have hcz173_2 : wc.cell? ⟨gb293, 2, none⟩ = some (.int .i64 t291) := (blk_cell BK293.out 2).trans rfl
                have hfz173_0 := blk_frozen BK293.out 0
                have hfz173_1 := blk_frozen BK293.out 1
                have hfz173_2 := blk_frozen BK293.out 2
                go_wp2_with (first | ((with_reducible refine gate_callee (f := 35) rfl ?_); refine goesL_ (some 90) rfl rfl Try.func35 (by kernel_rfl) rfl #[.agg #[.slice Ao35 t308.length co35, .slice Ao40 t309.length co40, .int .i64 t291], .int .i64 1] rfl (by (try simp only [List.map_toArray, List.map_cons, List.map_nil]); first | done | rfl | (simp only [List.length_drop, List.length_take]; rfl)) ?_; (with_reducible refine (laws_heldTable.calls kj107 _ _ t308 _ _ t309 t291 1 t328 _ ?side1 ?side2 ?side3 ?side4 A154.out).mono ?_); (case side1 => repeat (first | exact (rr HO_294000.out).2.2 | (with_reducible refine Kd.C_alloc ?_ _) | (with_reducible refine Kd.C_drewN ?_ _) | (with_reducible refine Kd.C_drew ?_))); (case side2 => exact (rr HO_294000.out).2.1); (case side3 => repeat (first | exact (rr HO_294001.out).2.2 | (with_reducible refine Kd.C_alloc ?_ _) | (with_reducible refine Kd.C_drewN ?_ _) | (with_reducible refine Kd.C_drew ?_))); (case side4 => exact (rr HO_294001.out).2.1); rintro e w174 ⟨rfl, hb⟩; refine ⟨_, rfl, ?_⟩; have n0_ := am (rb (by (with_reducible repeat (first | apply ra | apply rn | apply rd)); exact HO_277000.out) hb); have n1_ := am (rb (by (with_reducible repeat (first | apply ra | apply rn | apply rd)); exact HO_277001.out) hb); have n2_ := am (rb (by (with_reducible repeat (first | apply ra | apply rn | apply rd)); exact HO_285000.out) hb); have n3_ := am (rb (by (with_reducible repeat (first | apply ra | apply rn | apply rd)); exact HO_285001.out) hb); have n4_ := am (rb (by (with_reducible repeat (first | apply ra | apply rn | apply rd)); exact HO_294000.out) hb); have n5_ := am (rb (by (with_reducible repeat (first | apply ra | apply rn | apply rd)); exact HO_294001.out) hb); have n6_ := am (rb (by (with_reducible repeat (first | apply ra | apply rn | apply rd)); exact HO_327000.out) hb); have n7_ := am (rb (by (with_reducible repeat (first | apply ra | apply rn | apply rd)); exact HO_327001.out) hb); have n8_ := am (bb (g := gb259) (o := .cells #[.slice A0_0 l0_0.length c0_0, .slice A0_1 l0_1.length c0_1, .int .i64 a0_2] 42 (0, 0)) (by (with_reducible repeat (first | refine bn ?_ _ | refine bd ?_ | refine ba ?_ _)); exact BK259.out) hb); have n9_ := am (bb (g := gb276) (o := .cells #[.slice Ao21 t268.length co21, .slice Ao24 t271.length co24, .int .i64 t274] 26 (0, 0)) (by (with_reducible repeat (first | refine bn ?_ _ | refine bd ?_ | refine ba ?_ _)); exact BK276.out) hb); have n10_ := am (bb (g := gb284) (o := .cells #[.slice Ao28 t304.length co28, .slice Ao32 t305.length co32, .int .i64 t283] 26 (0, 0)) (by (with_reducible repeat (first | refine bn ?_ _ | refine bd ?_ | refine ba ?_ _)); exact BK284.out) hb); have n11_ := am (bb (g := gb293) (o := .cells #[.slice Ao35 t308.length co35, .slice Ao40 t309.length co40, .int .i64 t291] 26 (0, 0)) (by (with_reducible repeat (first | refine bn ?_ _ | refine bd ?_ | refine ba ?_ _)); exact BK293.out) hb); have n12_ := am (bb (g := gb326) (o := .cells #[.slice Ao124 t318.length co124, .slice Ao130 t321.length co130, .int .i64 t324] 26 (0, 0)) (by (with_reducible repeat (first | refine bn ?_ _ | refine bd ?_ | refine ba ?_ _)); exact BK326.out) hb); have n13_ := am (bs (by repeat (first | (with_reducible first | exact HB.out | apply wa | apply wn | apply wd | refine ws ?_ GE259.out | refine ws ?_ GE276.out | refine ws ?_ GE284.out | refine ws ?_ GE293.out | refine ws ?_ GE326.out) | exact HB.out)) hb); clear HO_277000; clear HO_277001; clear HO_285000; clear HO_285001; clear HO_294000; clear HO_294001; clear HO_327000; clear HO_327001; clear BK259; clear BK276; clear BK284; clear BK293; clear BK326; clear HB; have HO_277000 := n0_; have HO_277001 := n1_; have HO_285000 := n2_; have HO_285001 := n3_; have HO_294000 := n4_; have HO_294001 := n5_; have HO_327000 := n6_; have HO_327001 := n7_; have BK259 := n8_; have BK276 := n9_; have BK284 := n10_; have BK293 := n11_; have BK326 := n12_; have HB := n13_; clear n0_ n1_ n2_ n3_ n4_ n5_ n6_ n7_ n8_ n9_ n10_ n11_ n12_ n13_; (try clear hb); (try clear hb2); (try clear hk); (try clear hi)))
                go_ret
                exact ⟨by first | rfl | (simp [errW_none, errW_some] <;> rfl) | (simp [*, errW_none, errW_some] <;> rfl), by repeat (first | (with_reducible first | exact HB.out | apply wa | apply wn | apply wd | refine ws ?_ GE259.out | refine ws ?_ GE276.out | refine ws ?_ GE284.out | refine ws ?_ GE293.out | refine ws ?_ GE326.out) | exact HB.out)⟩
          ·rw [if_neg c105] at H
           have c105b0 : (t310 == t307) = false := beq_eq_false_iff_ne.mpr c105
           have c105b1 : (t310 != t307) = true := bne_iff_ne.mpr c105
           obtain rfl := Option.some.inj H
           have hnb175 := NB293_259.out
           have hnc175 := NB259_293.out
           have hnb176 := NB293_276.out
           have hnc176 := NB276_293.out
           have hnb177 := NB293_284.out
           have hnc177 := NB284_293.out
           have hcz178_0 : wc.cell? ⟨gb293, 0, none⟩ = some (.slice Ao35 t285.length co35) := (blk_cell BK293.out 0).trans rfl
           have hcz178_1 : wc.cell? ⟨gb293, 1, none⟩ = some (.slice Ao40 t288.length co40) := (blk_cell BK293.out 1).trans rfl
           have hcz178_2 : wc.cell? ⟨gb293, 2, none⟩ = some (.int .i64 t291) := (blk_cell BK293.out 2).trans rfl
           have hfz178_0 := blk_frozen BK293.out 0
           have hfz178_1 := blk_frozen BK293.out 1
           have hfz178_2 := blk_frozen BK293.out 2
           go_wp2_with (first | ((with_reducible refine gate_callee (f := 30) rfl ?_); refine goesL_ (some 64) rfl rfl Try.func30 (by kernel_rfl) rfl #[.agg #[.slice Ao35 t285.length co35, .slice Ao40 t288.length co40, .int .i64 t291], .int .i64 1] rfl (by (try simp only [List.map_toArray, List.map_cons, List.map_nil]); first | done | rfl | (simp only [List.length_drop, List.length_take]; rfl)) ?_; (with_reducible refine (laws_markTable.calls kj63 (fun k_ => some k_ = (.slice Ao35 t285.length co35 : Value).ownBlock) (.slice Ao35 t285.length co35) t285 (fun k_ => some k_ = (.slice Ao40 t288.length co40 : Value).ownBlock) (.slice Ao40 t288.length co40) t288 t291 1 t307 t308 t309 w _ ?side1 ?side2 ?side3 ?side4 ?side5 A95.out).mono ?_); (case side1 => repeat (first | (with_reducible first | exact HB.out | apply wa | apply wn | apply wd | refine ws ?_ GE259.out | refine ws ?_ GE276.out | refine ws ?_ GE284.out | refine ws ?_ GE293.out) | exact HB.out)); (case side2 => exact Kd.R_tight rfl HO_294000.out); (case side3 => first | exact fun k_ e_ => (HO_294000.out.1 k_ e_.symm).2.2.2.2 | exact fun k_ e_ hs_ => by have hh_ := HO_294000.out.1 k_ e_.symm; revert hh_; simp [hs_]); (case side4 => exact Kd.R_tight rfl HO_294001.out); (case side5 => first | exact fun k_ e_ => (HO_294001.out.1 k_ e_.symm).2.2.2.2 | exact fun k_ e_ hs_ => by have hh_ := HO_294001.out.1 k_ e_.symm; revert hh_; simp [hs_]); rintro e w179 ⟨rfl, hy0, hy1, hb, hkp⟩; refine ⟨_, rfl, ?_⟩; have n0_ := am (rm (ok' := fun k_ => some k_ ≠ (.slice Ao24 t271.length co24 : Value).ownBlock ∧ some k_ ≠ (.slice Ao28 t304.length co28 : Value).ownBlock ∧ some k_ ≠ (.slice Ao32 t305.length co32 : Value).ownBlock ∧ some k_ ≠ (.slice Ao35 t285.length co35 : Value).ownBlock ∧ some k_ ≠ (.slice Ao40 t288.length co40 : Value).ownBlock) (rk (HO_277000.out) hkp (fun k_ hk_ hs_ => by rcases hs_ with e_ | e_ <;> (revert hk_; simp [e_]))) (fun k_ hk_ => by simp [hk_])); have n1_ := am (rm (ok' := fun k_ => some k_ ≠ (.slice Ao21 t268.length co21 : Value).ownBlock ∧ some k_ ≠ (.slice Ao28 t304.length co28 : Value).ownBlock ∧ some k_ ≠ (.slice Ao32 t305.length co32 : Value).ownBlock ∧ some k_ ≠ (.slice Ao35 t285.length co35 : Value).ownBlock ∧ some k_ ≠ (.slice Ao40 t288.length co40 : Value).ownBlock) (rk (HO_277001.out) hkp (fun k_ hk_ hs_ => by rcases hs_ with e_ | e_ <;> (revert hk_; simp [e_]))) (fun k_ hk_ => by simp [hk_])); have n2_ := am (rm (ok' := fun k_ => some k_ ≠ (.slice Ao21 t268.length co21 : Value).ownBlock ∧ some k_ ≠ (.slice Ao24 t271.length co24 : Value).ownBlock ∧ some k_ ≠ (.slice Ao32 t305.length co32 : Value).ownBlock ∧ some k_ ≠ (.slice Ao35 t285.length co35 : Value).ownBlock ∧ some k_ ≠ (.slice Ao40 t288.length co40 : Value).ownBlock) (rk (HO_285000.out) hkp (fun k_ hk_ hs_ => by rcases hs_ with e_ | e_ <;> (revert hk_; simp [e_]))) (fun k_ hk_ => by simp [hk_])); have n3_ := am (rm (ok' := fun k_ => some k_ ≠ (.slice Ao21 t268.length co21 : Value).ownBlock ∧ some k_ ≠ (.slice Ao24 t271.length co24 : Value).ownBlock ∧ some k_ ≠ (.slice Ao28 t304.length co28 : Value).ownBlock ∧ some k_ ≠ (.slice Ao35 t285.length co35 : Value).ownBlock ∧ some k_ ≠ (.slice Ao40 t288.length co40 : Value).ownBlock) (rk (HO_285001.out) hkp (fun k_ hk_ hs_ => by rcases hs_ with e_ | e_ <;> (revert hk_; simp [e_]))) (fun k_ hk_ => by simp [hk_])); have n4_ := am (Kd.R_reok rfl hy0 (fun k_ e_ => HO_294000.out.1 k_ e_)); have n5_ := am (Kd.R_reok rfl hy1 (fun k_ e_ => HO_294001.out.1 k_ e_)); have n6_ := am (bk (by (with_reducible repeat (first | refine bn ?_ _ | refine bd ?_ | refine ba ?_ _)); exact BK259.out) hkp (fun hs_ => Or.elim hs_ (fun e_ => (fun e_ => (Kd.R_ne HO_294000.out BK259.out (by decide)) e_) e_) (fun e_ => (fun e_ => (Kd.R_ne HO_294001.out BK259.out (by decide)) e_) e_))); have n7_ := am (bk (by (with_reducible repeat (first | refine bn ?_ _ | refine bd ?_ | refine ba ?_ _)); exact BK276.out) hkp (fun hs_ => Or.elim hs_ (fun e_ => (fun e_ => (Kd.R_ne HO_294000.out BK276.out (by decide)) e_) e_) (fun e_ => (fun e_ => (Kd.R_ne HO_294001.out BK276.out (by decide)) e_) e_))); have n8_ := am (bk (by (with_reducible repeat (first | refine bn ?_ _ | refine bd ?_ | refine ba ?_ _)); exact BK284.out) hkp (fun hs_ => Or.elim hs_ (fun e_ => (fun e_ => (Kd.R_ne HO_294000.out BK284.out (by decide)) e_) e_) (fun e_ => (fun e_ => (Kd.R_ne HO_294001.out BK284.out (by decide)) e_) e_))); have n9_ := am (bk (by (with_reducible repeat (first | refine bn ?_ _ | refine bd ?_ | refine ba ?_ _)); exact BK293.out) hkp (fun hs_ => Or.elim hs_ (fun e_ => (fun e_ => (Kd.R_ne HO_294000.out BK293.out (by decide)) e_) e_) (fun e_ => (fun e_ => (Kd.R_ne HO_294001.out BK293.out (by decide)) e_) e_))); have n10_ := am (hb); clear HO_277000; clear HO_277001; clear HO_285000; clear HO_285001; clear HO_294000; clear HO_294001; clear BK259; clear BK276; clear BK284; clear BK293; clear HB; have HO_277000 := n0_; have HO_277001 := n1_; have HO_285000 := n2_; have HO_285001 := n3_; have HO_294000 := n4_; have HO_294001 := n5_; have BK259 := n6_; have BK276 := n7_; have BK284 := n8_; have BK293 := n9_; have HB := n10_; clear n0_ n1_ n2_ n3_ n4_ n5_ n6_ n7_ n8_ n9_ n10_; (try clear hb); (try clear hkp); (try clear hy0); (try clear hy1); have hcz180_0 : w179.cell? ⟨gb293, 0, none⟩ = some (.slice Ao35 t285.length co35) := (blk_cell BK293.out 0).trans rfl; have hcz180_1 : w179.cell? ⟨gb293, 1, none⟩ = some (.slice Ao40 t288.length co40) := (blk_cell BK293.out 1).trans rfl; have hcz180_2 : w179.cell? ⟨gb293, 2, none⟩ = some (.int .i64 t291) := (blk_cell BK293.out 2).trans rfl; have hfz180_0 := blk_frozen BK293.out 0; have hfz180_1 := blk_frozen BK293.out 1; have hfz180_2 := blk_frozen BK293.out 2) | ((with_reducible refine gate_callee (f := 35) rfl ?_); refine goesL_ (some 67) rfl rfl Try.func35 (by kernel_rfl) rfl #[.agg #[.slice Ao35 t308.length co35, .slice Ao40 t309.length co40, .int .i64 t291], .int .i64 1] rfl (by (try simp only [List.map_toArray, List.map_cons, List.map_nil]); first | done | (rw [show t308.length = t285.length from (rr HO_294000.out).1.symm, show t309.length = t288.length from (rr HO_294001.out).1.symm] <;> rfl) | rfl | (simp only [List.length_drop, List.length_take]; rfl)) ?_; (with_reducible refine (laws_heldTable.calls kj63 _ _ t308 _ _ t309 t291 1 t310 _ ?side1 ?side2 ?side3 ?side4 A96.out).mono ?_); (case side1 => repeat (first | exact (rr HO_294000.out).2.2 | (with_reducible refine Kd.C_alloc ?_ _) | (with_reducible refine Kd.C_drewN ?_ _) | (with_reducible refine Kd.C_drew ?_))); (case side2 => rw [show t308.length = t285.length from (rr HO_294000.out).1.symm]; exact (rr HO_294000.out).2.1); (case side3 => repeat (first | exact (rr HO_294001.out).2.2 | (with_reducible refine Kd.C_alloc ?_ _) | (with_reducible refine Kd.C_drewN ?_ _) | (with_reducible refine Kd.C_drew ?_))); (case side4 => rw [show t309.length = t288.length from (rr HO_294001.out).1.symm]; exact (rr HO_294001.out).2.1); rintro e w181 ⟨rfl, hb⟩; refine ⟨_, rfl, ?_⟩; have n0_ := am (rb (by (with_reducible repeat (first | apply ra | apply rn | apply rd)); exact HO_277000.out) hb); have n1_ := am (rb (by (with_reducible repeat (first | apply ra | apply rn | apply rd)); exact HO_277001.out) hb); have n2_ := am (rb (by (with_reducible repeat (first | apply ra | apply rn | apply rd)); exact HO_285000.out) hb); have n3_ := am (rb (by (with_reducible repeat (first | apply ra | apply rn | apply rd)); exact HO_285001.out) hb); have n4_ := am (rb (by (with_reducible repeat (first | apply ra | apply rn | apply rd)); exact HO_294000.out) hb); have n5_ := am (rb (by (with_reducible repeat (first | apply ra | apply rn | apply rd)); exact HO_294001.out) hb); have n6_ := am (bb (g := gb259) (o := .cells #[.slice A0_0 l0_0.length c0_0, .slice A0_1 l0_1.length c0_1, .int .i64 a0_2] 42 (0, 0)) (by (with_reducible repeat (first | refine bn ?_ _ | refine bd ?_ | refine ba ?_ _)); exact BK259.out) hb); have n7_ := am (bb (g := gb276) (o := .cells #[.slice Ao21 t268.length co21, .slice Ao24 t271.length co24, .int .i64 t274] 26 (0, 0)) (by (with_reducible repeat (first | refine bn ?_ _ | refine bd ?_ | refine ba ?_ _)); exact BK276.out) hb); have n8_ := am (bb (g := gb284) (o := .cells #[.slice Ao28 t304.length co28, .slice Ao32 t305.length co32, .int .i64 t283] 26 (0, 0)) (by (with_reducible repeat (first | refine bn ?_ _ | refine bd ?_ | refine ba ?_ _)); exact BK284.out) hb); have n9_ := am (bb (g := gb293) (o := .cells #[.slice Ao35 t285.length co35, .slice Ao40 t288.length co40, .int .i64 t291] 26 (0, 0)) (by (with_reducible repeat (first | refine bn ?_ _ | refine bd ?_ | refine ba ?_ _)); exact BK293.out) hb); have n10_ := am (bs (by repeat (first | (with_reducible first | exact HB.out | apply wa | apply wn | apply wd | refine ws ?_ GE259.out | refine ws ?_ GE276.out | refine ws ?_ GE284.out | refine ws ?_ GE293.out) | exact HB.out)) hb); clear HO_277000; clear HO_277001; clear HO_285000; clear HO_285001; clear HO_294000; clear HO_294001; clear BK259; clear BK276; clear BK284; clear BK293; clear HB; have HO_277000 := n0_; have HO_277001 := n1_; have HO_285000 := n2_; have HO_285001 := n3_; have HO_294000 := n4_; have HO_294001 := n5_; have BK259 := n6_; have BK276 := n7_; have BK284 := n8_; have BK293 := n9_; have HB := n10_; clear n0_ n1_ n2_ n3_ n4_ n5_ n6_ n7_ n8_ n9_ n10_; (try clear hb); (try clear hb2); (try clear hk); (try clear hi)))
           go_ret
           exact ⟨by first | rfl | (simp [errW_none, errW_some] <;> rfl) | (simp [*, errW_none, errW_some] <;> rfl), by repeat (first | (with_reducible first | exact HB.out | apply wa | apply wn | apply wd | refine ws ?_ GE259.out | refine ws ?_ GE276.out | refine ws ?_ GE284.out | refine ws ?_ GE293.out) | exact HB.out)⟩
     ·replace c62 := Bool.eq_false_iff.mpr c62
      subst c62
      have H1 : (some false) = some r := by rw [if_neg (show ¬ (false = true) by decide)] at H; exact H
      clear H
      have H := H1
      clear H1
      obtain rfl := Option.some.inj H
      try go_wp2
      have n0_ := am (Kd.R_drew HO_277000.out)
      have n1_ := am (Kd.R_drew HO_277001.out)
      have n2_ := am (Kd.R_drew HO_285000.out)
      have n3_ := am (Kd.R_drew HO_285001.out)
      have n4_ := am (Kd.R_drew HO_294000.out)
      have n5_ := am (Kd.R_drew HO_294001.out)
      have n6_ := am (blk_drew BK259.out)
      have n7_ := am (blk_drew BK276.out)
      have n8_ := am (blk_drew BK284.out)
      have n9_ := am (blk_drew BK293.out)
      have n10_ := am (below_drew1 HB.out)
      clear HO_277000
      clear HO_277001
      clear HO_285000
      clear HO_285001
      clear HO_294000
      clear HO_294001
      clear BK259
      clear BK276
      clear BK284
      clear BK293
      clear HB
      have HO_277000 := n0_
      have HO_277001 := n1_
      have HO_285000 := n2_
      have HO_285001 := n3_
      have HO_294000 := n4_
      have HO_294001 := n5_
      have BK259 := n6_
      have BK276 := n7_
      have BK284 := n8_
      have BK293 := n9_
      have HB := n10_
      clear n0_ n1_ n2_ n3_ n4_ n5_ n6_ n7_ n8_ n9_ n10_
      refine start_ (n := 5) (S := fun w' => w'.cell? ⟨gb284, 0, none⟩ = some (.slice Ao28 t277.length co28) ∧ w'.cell? ⟨gb284, 1, none⟩ = some (.slice Ao32 t280.length co32) ∧ w'.cell? ⟨gb284, 2, none⟩ = some (.int .i64 t283) ∧ w'.cell? ⟨gb259, 0, none⟩ = some (.slice A0_0 l0_0.length c0_0) ∧ w'.cell? ⟨gb259, 1, none⟩ = some (.slice A0_1 l0_1.length c0_1) ∧ w'.cell? ⟨gb259, 2, none⟩ = some (.int .i64 a0_2)) (ds := []) #[false, false, false, false, false] (by kernel_rfl) rfl rfl ⟨(blk_cell BK284.out 0).trans rfl, (blk_cell BK284.out 1).trans rfl, (blk_cell BK284.out 2).trans rfl, (blk_cell BK259.out 0).trans rfl, (blk_cell BK259.out 1).trans rfl, (blk_cell BK259.out 2).trans rfl⟩ (fun hHeld => ?_)
      generalize wc.drew = w182 at HO_277000 HO_277001 HO_285000 HO_285001 HO_294000 HO_294001 BK259 BK276 BK284 BK293 HB hHeld ⊢
      refine take_ (i := 0) (N := some 41) (v := ?_) (a' := ?_) #[true, false, false, false, false] rfl rfl (by kernel_rfl) (fun _ _ _ h => h) (Or.inl ⟨by rfl, ?_⟩) hHeld ?_ ?_
      rotate_left
      ·rintro w' ⟨s0, s1, s2, s3, s4, s5⟩
       go_simp
       with_reducible rfl
      rotate_left
      ·simp only [Act.put, List.setIfInBounds_toArray, List.set_cons_zero, List.set_cons_succ, i64_w, i32_w]
       rfl
      refine take_ (i := 1) (N := some 42) (v := ?_) (a' := ?_) #[true, true, false, false, false] rfl rfl (by kernel_rfl) (fun _ _ _ h => h) (Or.inl ⟨by rfl, ?_⟩) hHeld ?_ ?_
      rotate_left
      ·rintro w' ⟨s0, s1, s2, s3, s4, s5⟩
       go_simp
       with_reducible rfl
      rotate_left
      ·simp only [Act.put, List.setIfInBounds_toArray, List.set_cons_zero, List.set_cons_succ, i64_w, i32_w]
       rfl
      refine one_ (i := 2) (N := some 43) #[true, true, true, false, false] rfl rfl (by kernel_rfl) (by decide) (fun K hK => ?_)
      refine goes_ Try.func26 (by kernel_rfl) rfl #[.agg #[.slice A0_0 l0_0.length c0_0, .slice A0_1 l0_1.length c0_1, .int .i64 a0_2]] (by rfl) rfl rfl (by (try simp only [List.map_toArray, List.map_cons, List.map_nil]); first | done | rfl | (simp only [List.length_drop, List.length_take]; rfl)) ?_
      with_reducible refine (laws_toTable.calls kj10 _ _ l0_0 _ _ l0_1 a0_2 t295 t298 t301 _ ?side1 ?side2 ?side3 ?side4 A60.out).mono ?_
      (case side1 => repeat (first | exact (Kd.C_below HR0_0.out HB.out) | (with_reducible refine Kd.C_alloc ?_ _) | (with_reducible refine Kd.C_drewN ?_ _) | (with_reducible refine Kd.C_drew ?_)))
      (case side2 => exact HC0_0.out)
      (case side3 => repeat (first | exact (Kd.C_below HR0_1.out HB.out) | (with_reducible refine Kd.C_alloc ?_ _) | (with_reducible refine Kd.C_drewN ?_ _) | (with_reducible refine Kd.C_drew ?_)))
      (case side4 => exact HC0_1.out)
      rintro e w183 ⟨v296, v299, rfl, ho0, ho1, hb⟩
      refine ⟨_, rfl, ?_⟩
      have n0_ := am (rm (ro (ro (rl (by (with_reducible repeat (first | apply ra | apply rn | apply rd)); exact HO_277000.out) hb) (re ho0)) (re ho1)) (fun _ h_ => h_.1))
      have n1_ := am (rm (ro (ro (rl (by (with_reducible repeat (first | apply ra | apply rn | apply rd)); exact HO_277001.out) hb) (re ho0)) (re ho1)) (fun _ h_ => h_.1))
      have n2_ := am (rm (ro (ro (rl (by (with_reducible repeat (first | apply ra | apply rn | apply rd)); exact HO_285000.out) hb) (re ho0)) (re ho1)) (fun _ h_ => h_.1))
      have n3_ := am (rm (ro (ro (rl (by (with_reducible repeat (first | apply ra | apply rn | apply rd)); exact HO_285001.out) hb) (re ho0)) (re ho1)) (fun _ h_ => h_.1))
      have n4_ := am (rm (ro (ro (rl (by (with_reducible repeat (first | apply ra | apply rn | apply rd)); exact HO_294000.out) hb) (re ho0)) (re ho1)) (fun _ h_ => h_.1))
      have n5_ := am (rm (ro (ro (rl (by (with_reducible repeat (first | apply ra | apply rn | apply rd)); exact HO_294001.out) hb) (re ho0)) (re ho1)) (fun _ h_ => h_.1))
      have n6_ := am (Kd.R_lower (Kd.R_new' (Kd.R_new' (Kd.R_new' (Kd.R_new' (Kd.R_new' (Kd.R_new' ho0 (Kd.R_lt (by (with_reducible repeat (first | apply ra | apply rn | apply rd)); exact HO_277000.out))) (Kd.R_lt (by (with_reducible repeat (first | apply ra | apply rn | apply rd)); exact HO_277001.out))) (Kd.R_lt (by (with_reducible repeat (first | apply ra | apply rn | apply rd)); exact HO_285000.out))) (Kd.R_lt (by (with_reducible repeat (first | apply ra | apply rn | apply rd)); exact HO_285001.out))) (Kd.R_lt (by (with_reducible repeat (first | apply ra | apply rn | apply rd)); exact HO_294000.out))) (Kd.R_lt (by (with_reducible repeat (first | apply ra | apply rn | apply rd)); exact HO_294001.out))) (below_size (by repeat (first | (with_reducible first | exact HB.out | apply wa | apply wn | apply wd | refine ws ?_ GE259.out | refine ws ?_ GE276.out | refine ws ?_ GE284.out | refine ws ?_ GE293.out) | exact HB.out))))
      have n7_ := am (Kd.R_lower (Kd.R_new' (Kd.R_new' (Kd.R_new' (Kd.R_new' (Kd.R_new' (Kd.R_new' ho1 (Kd.R_lt (by (with_reducible repeat (first | apply ra | apply rn | apply rd)); exact HO_277000.out))) (Kd.R_lt (by (with_reducible repeat (first | apply ra | apply rn | apply rd)); exact HO_277001.out))) (Kd.R_lt (by (with_reducible repeat (first | apply ra | apply rn | apply rd)); exact HO_285000.out))) (Kd.R_lt (by (with_reducible repeat (first | apply ra | apply rn | apply rd)); exact HO_285001.out))) (Kd.R_lt (by (with_reducible repeat (first | apply ra | apply rn | apply rd)); exact HO_294000.out))) (Kd.R_lt (by (with_reducible repeat (first | apply ra | apply rn | apply rd)); exact HO_294001.out))) (below_size (by repeat (first | (with_reducible first | exact HB.out | apply wa | apply wn | apply wd | refine ws ?_ GE259.out | refine ws ?_ GE276.out | refine ws ?_ GE284.out | refine ws ?_ GE293.out) | exact HB.out))))
      have n8_ := am (bb (g := gb259) (o := .cells #[.slice A0_0 l0_0.length c0_0, .slice A0_1 l0_1.length c0_1, .int .i64 a0_2] 42 (0, 0)) (by (with_reducible repeat (first | refine bn ?_ _ | refine bd ?_ | refine ba ?_ _)); exact BK259.out) hb)
      have n9_ := am (bb (g := gb276) (o := .cells #[.slice Ao21 t268.length co21, .slice Ao24 t271.length co24, .int .i64 t274] 26 (0, 0)) (by (with_reducible repeat (first | refine bn ?_ _ | refine bd ?_ | refine ba ?_ _)); exact BK276.out) hb)
      have n10_ := am (bb (g := gb284) (o := .cells #[.slice Ao28 t277.length co28, .slice Ao32 t280.length co32, .int .i64 t283] 26 (0, 0)) (by (with_reducible repeat (first | refine bn ?_ _ | refine bd ?_ | refine ba ?_ _)); exact BK284.out) hb)
      have n11_ := am (bb (g := gb293) (o := .cells #[.slice Ao35 t285.length co35, .slice Ao40 t288.length co40, .int .i64 t291] 26 (0, 0)) (by (with_reducible repeat (first | refine bn ?_ _ | refine bd ?_ | refine ba ?_ _)); exact BK293.out) hb)
      have n12_ := am (bs (by repeat (first | (with_reducible first | exact HB.out | apply wa | apply wn | apply wd | refine ws ?_ GE259.out | refine ws ?_ GE276.out | refine ws ?_ GE284.out | refine ws ?_ GE293.out) | exact HB.out)) hb)
      clear HO_277000
      clear HO_277001
      clear HO_285000
      clear HO_285001
      clear HO_294000
      clear HO_294001
      clear BK259
      clear BK276
      clear BK284
      clear BK293
      clear HB
      have HO_277000 := n0_
      have HO_277001 := n1_
      have HO_285000 := n2_
      have HO_285001 := n3_
      have HO_294000 := n4_
      have HO_294001 := n5_
      have HO297 := n6_
      have HO300 := n7_
      have BK259 := n8_
      have BK276 := n9_
      have BK284 := n10_
      have BK293 := n11_
      have HB := n12_
      clear n0_ n1_ n2_ n3_ n4_ n5_ n6_ n7_ n8_ n9_ n10_ n11_ n12_
      (try clear hb)
      (try clear hb2)
      (try clear hk)
      (try clear hi)
      (try clear ho0)
      (try clear ho1)
      obtain ⟨Ao184, co184, eo184⟩ := Kd.R_slice HO297.out
      (first | subst eo184 | (injection eo184 with f1_ f2_ f3_; have f4_ := f1_.symm; have f5_ := f3_.symm; clear f1_ f2_ f3_; subst f4_; subst f5_))
      obtain ⟨Ao185, co185, eo185⟩ := Kd.R_slice HO300.out
      (first | subst eo185 | (injection eo185 with f1_ f2_ f3_; have f4_ := f1_.symm; have f5_ := f3_.symm; clear f1_ f2_ f3_; subst f4_; subst f5_))
      refine hK.out _ _ ⟨(blk_cell BK284.out 0).trans rfl, (blk_cell BK284.out 1).trans rfl, (blk_cell BK284.out 2).trans rfl, (blk_cell BK259.out 0).trans rfl, (blk_cell BK259.out 1).trans rfl, (blk_cell BK259.out 2).trans rfl⟩ (fun hHeld => ?_)
      clear hK K
      refine norm_ (a' := ?_) ?_ ?_
      rotate_left
      ·show Act.put _ (some 43) _ = _
       simp only [Act.put, List.setIfInBounds_toArray, List.set_cons_zero, List.set_cons_succ, i64_w, i32_w]
       rfl
      refine one_ (i := 3) (N := some 44) #[true, true, true, true, false] rfl rfl (by kernel_rfl) (by decide) (fun K hK => ?_)
      refine goes_ Try.func27 (by kernel_rfl) rfl #[.agg #[.slice Ao28 t277.length co28, .slice Ao32 t280.length co32, .int .i64 t283], .agg #[.slice Ao184 t295.length co184, .slice Ao185 t298.length co185, .int .i64 t301]] (by rfl) rfl rfl (by (try simp only [List.map_toArray, List.map_cons, List.map_nil]); first | done | rfl | (simp only [List.length_drop, List.length_take]; rfl)) ?_
      with_reducible refine (laws_eqTable.calls kj10 _ _ t277 _ _ t280 t283 _ _ t295 _ _ t298 t301 false _ ?side1 ?side2 ?side3 ?side4 ?side5 ?side6 ?side7 ?side8 A61.out).mono ?_
      (case side1 => repeat (first | exact (rr HO_285000.out).2.2 | (with_reducible refine Kd.C_alloc ?_ _) | (with_reducible refine Kd.C_drewN ?_ _) | (with_reducible refine Kd.C_drew ?_)))
      (case side2 => exact (rr HO_285000.out).2.1)
      (case side3 => repeat (first | exact (rr HO_285001.out).2.2 | (with_reducible refine Kd.C_alloc ?_ _) | (with_reducible refine Kd.C_drewN ?_ _) | (with_reducible refine Kd.C_drew ?_)))
      (case side4 => exact (rr HO_285001.out).2.1)
      (case side5 => repeat (first | exact (rr HO297.out).2.2 | (with_reducible refine Kd.C_alloc ?_ _) | (with_reducible refine Kd.C_drewN ?_ _) | (with_reducible refine Kd.C_drew ?_)))
      (case side6 => exact (rr HO297.out).2.1)
      (case side7 => repeat (first | exact (rr HO300.out).2.2 | (with_reducible refine Kd.C_alloc ?_ _) | (with_reducible refine Kd.C_drewN ?_ _) | (with_reducible refine Kd.C_drew ?_)))
      (case side8 => exact (rr HO300.out).2.1)
      rintro e w186 ⟨rfl, hb⟩
      refine ⟨_, rfl, ?_⟩
      have n0_ := am (rb (by (with_reducible repeat (first | apply ra | apply rn | apply rd)); exact HO_277000.out) hb)
      have n1_ := am (rb (by (with_reducible repeat (first | apply ra | apply rn | apply rd)); exact HO_277001.out) hb)
      have n2_ := am (rb (by (with_reducible repeat (first | apply ra | apply rn | apply rd)); exact HO_285000.out) hb)
      have n3_ := am (rb (by (with_reducible repeat (first | apply ra | apply rn | apply rd)); exact HO_285001.out) hb)
      have n4_ := am (rb (by (with_reducible repeat (first | apply ra | apply rn | apply rd)); exact HO_294000.out) hb)
      have n5_ := am (rb (by (with_reducible repeat (first | apply ra | apply rn | apply rd)); exact HO_294001.out) hb)
      have n6_ := am (rb (by (with_reducible repeat (first | apply ra | apply rn | apply rd)); exact HO297.out) hb)
      have n7_ := am (rb (by (with_reducible repeat (first | apply ra | apply rn | apply rd)); exact HO300.out) hb)
      have n8_ := am (bb (g := gb259) (o := .cells #[.slice A0_0 l0_0.length c0_0, .slice A0_1 l0_1.length c0_1, .int .i64 a0_2] 42 (0, 0)) (by (with_reducible repeat (first | refine bn ?_ _ | refine bd ?_ | refine ba ?_ _)); exact BK259.out) hb)
      have n9_ := am (bb (g := gb276) (o := .cells #[.slice Ao21 t268.length co21, .slice Ao24 t271.length co24, .int .i64 t274] 26 (0, 0)) (by (with_reducible repeat (first | refine bn ?_ _ | refine bd ?_ | refine ba ?_ _)); exact BK276.out) hb)
      have n10_ := am (bb (g := gb284) (o := .cells #[.slice Ao28 t277.length co28, .slice Ao32 t280.length co32, .int .i64 t283] 26 (0, 0)) (by (with_reducible repeat (first | refine bn ?_ _ | refine bd ?_ | refine ba ?_ _)); exact BK284.out) hb)
      have n11_ := am (bb (g := gb293) (o := .cells #[.slice Ao35 t285.length co35, .slice Ao40 t288.length co40, .int .i64 t291] 26 (0, 0)) (by (with_reducible repeat (first | refine bn ?_ _ | refine bd ?_ | refine ba ?_ _)); exact BK293.out) hb)
      have n12_ := am (bs (by repeat (first | (with_reducible first | exact HB.out | apply wa | apply wn | apply wd | refine ws ?_ GE259.out | refine ws ?_ GE276.out | refine ws ?_ GE284.out | refine ws ?_ GE293.out) | exact HB.out)) hb)
      clear HO_277000
      clear HO_277001
      clear HO_285000
      clear HO_285001
      clear HO_294000
      clear HO_294001
      clear HO297
      clear HO300
      clear BK259
      clear BK276
      clear BK284
      clear BK293
      clear HB
      have HO_277000 := n0_
      have HO_277001 := n1_
      have HO_285000 := n2_
      have HO_285001 := n3_
      have HO_294000 := n4_
      have HO_294001 := n5_
      have HO297 := n6_
      have HO300 := n7_
      have BK259 := n8_
      have BK276 := n9_
      have BK284 := n10_
      have BK293 := n11_
      have HB := n12_
      clear n0_ n1_ n2_ n3_ n4_ n5_ n6_ n7_ n8_ n9_ n10_ n11_ n12_
      (try clear hb)
      (try clear hb2)
      (try clear hk)
      (try clear hi)
      refine hK.out _ _ ⟨(blk_cell BK284.out 0).trans rfl, (blk_cell BK284.out 1).trans rfl, (blk_cell BK284.out 2).trans rfl, (blk_cell BK259.out 0).trans rfl, (blk_cell BK259.out 1).trans rfl, (blk_cell BK259.out 2).trans rfl⟩ (fun hHeld => ?_)
      clear hK K
      refine norm_ (a' := ?_) ?_ ?_
      rotate_left
      ·show Act.put _ (some 44) _ = _
       simp only [Act.put, List.setIfInBounds_toArray, List.set_cons_zero, List.set_cons_succ, i64_w, i32_w]
       rfl
      refine pure_ (i := 4) (N := some 45) (v := ?_) (a' := ?_) #[true, true, true, true, true] rfl rfl (by kernel_rfl) (fun _ _ _ h => h) (Or.inl ⟨by rfl, ?_⟩) ?_ ?_
      rotate_left
      ·intro w'
       go_simp
       with_reducible rfl
      rotate_left
      ·simp only [Act.put, List.setIfInBounds_toArray, List.set_cons_zero, List.set_cons_succ, i64_w, i32_w]
       rfl
      refine done_ (by kernel_rfl) ?_
      try go_wp2
      go_ret
      exact ⟨by first | rfl | (simp [errW_none, errW_some] <;> rfl) | (simp [*, errW_none, errW_some] <;> rfl), by repeat (first | (with_reducible first | exact HB.out | apply wa | apply wn | apply wd | refine ws ?_ GE259.out | refine ws ?_ GE276.out | refine ws ?_ GE284.out | refine ws ?_ GE293.out) | exact HB.out)⟩
end Go.Proofs.Ytmahoekbedgbcaa.HFnExactGrowTable
