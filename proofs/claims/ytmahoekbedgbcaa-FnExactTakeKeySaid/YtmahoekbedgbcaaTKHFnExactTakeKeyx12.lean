/- What the row of the law needs of the printed and the plain texts. -/
import Derived.Test.YtmahoekbedgbcaaTKHFnExactTakeKeyx0
import Derived.Test.YtmahoekbedgbcaaTKHFnExactTakeKeyx2
import Derived.Test.YtmahoekbedgbcaaTKHFnExactTakeKeyx3
import Derived.Test.YtmahoekbedgbcaaTKHFnExactTakeKeyx6
import Derived.Test.YtmahoekbedgbcaaTKHFnExactTakeKeyx10
import Derived.Test.YtmahoekbedgbcaaTKHFnExactTakeKeyx11
namespace Go.Proofs.Ytmahoekbedgbcaa.HFnExactTakeKey
open Go.RowKit Go.Proofs.YtmahoekbedgbcaaW.PrintWords Go.Proofs.YtmahoekbedgbcaaW.PrintLast Go.Proofs.YtmahoekbedgbcaaW.PrintMore
attribute [local go_sem] max2_int min2_int max_two min_two max_three min_three max_four min_four
set_option linter.unusedVariables false
set_option linter.unusedSimpArgs false
theorem am {p : Prop} (h : p) : Aside0 p := ⟨h⟩
open Go.Proofs.YtmahoekbedgbcaaW.PrintWords renaming blk_drewN → bn, blk_drew → bd, blk_alloc → ba, below_alloc → wa, pw_below_drewN → wn, below_drew1 → wd, below_set → ws, blk_below → bb, blk_kept → bk, below_step → bs
open Go.Proofs.YtmahoekbedgbcaaW.PrintWords.Kd renaming R_alloc → ra, R_drewN → rn, R_drew → rd, R_below → rb, R_mono → rm, R_apart' → rp, R_typed → rt, R_keptB → rk, R_base → re, R_reads' → rr
open Go.Proofs.YtmahoekbedgbcaaW.PrintMore.Kd renaming R_told → ro, R_old → rl
mutual
def laws_FnExactTakeKey.j0 : Nat → ByteArray → Bool → Bool → Bool → List (S95) → List (S95) → Int → List (S57) → List (S57) → Int → List (S57) → List (S57) → Int → List (S57) → List (S57) → Int → Option (Bool)
 | 0, _, _, _, _, _, _, _, _, _, _, _, _, _, _, _, _ => none
 | k + 1, x1, x7, x10, x47, x283000, x283001, x283002, x300000, x300001, x300002, x308000, x308001, x308002, x317000, x317001, x317002 => if x47 = true then (some false) else ((laws_toTable.f k x283000 x283001 x283002).bind fun bt318 => ((laws_eqTable.f k x308000 x308001 x308002 bt318.1 bt318.2.1 bt318.2.2).bind fun t325 => (if t325 = true then ((laws_markTable.f k x308000 x308001 x308002 1).bind fun bt326 => (if bt326.1 < 0 then (laws_FnExactTakeKey.j1 k x1 x7 true x283000 x283001 x283002 x300000 x300001 x300002 x317000 x317001 x317002) else ((laws_eqTable.f k x317000 x317001 x317002 x300000 x300001 x300002).bind fun t329 => (if t329 = true then (laws_FnExactTakeKey.j1 k x1 x7 (x10 != x7) x283000 x283001 x283002 x300000 x300001 x300002 x317000 x317001 x317002) else (laws_FnExactTakeKey.j1 k x1 x7 true x283000 x283001 x283002 x300000 x300001 x300002 x317000 x317001 x317002))))) else (some false))))
def laws_FnExactTakeKey.j1 : Nat → ByteArray → Bool → Bool → List (S95) → List (S95) → Int → List (S57) → List (S57) → Int → List (S57) → List (S57) → Int → Option (Bool)
 | 0, _, _, _, _, _, _, _, _, _, _, _, _ => none
 | k + 1, x1, x7, x68, x283000, x283001, x283002, x300000, x300001, x300002, x317000, x317001, x317002 => if x68 = true then (some false) else ((laws_markTable.f k x317000 x317001 x317002 1).bind fun bt330 => ((laws_heldTable.f k bt330.2.1 bt330.2.2 x317002 1).bind fun t333 => (if t333 < 0 then (some false) else (if t333 = bt330.1 then ((laws_toTable.f k x283000 x283001 x283002).bind fun bt334 => ((impl_TakeKey.f k bt334.1 bt334.2.1 bt334.2.2 x1).bind fun bt341 => ((laws_eqTable.f k bt341.1 bt341.2.1 bt341.2.2.1 x300000 x300001 x300002).bind fun t350 => (if t350 = true then (laws_FnExactTakeKey.j2 k bt330.1 (bt341.2.2.2 != x7) bt330.2.1 bt330.2.2 x317002) else (laws_FnExactTakeKey.j2 k bt330.1 true bt330.2.1 bt330.2.2 x317002))))) else (some false)))))
def laws_FnExactTakeKey.j2 : Nat → Int → Bool → List (S57) → List (S57) → Int → Option (Bool)
 | 0, _, _, _, _, _ => none
 | k + 1, x12, x95, x317000, x317001, x317002 => if x95 = true then (some false) else ((laws_heldTable.f k x317000 x317001 x317002 1).bind fun t351 => (if t351 < 0 then (some false) else (if t351 = x12 then (some true) else (some false))))
end
def laws_FnExactTakeKey.f (k : Nat) (l0_0 : List (S95)) (l0_1 : List (S95)) (a0_2 : Int) (a1 : ByteArray) : Option (Bool) := if (a1.size : Int) > 1048576 then (some true) else ((laws_szTable.f k l0_0 l0_1 a0_2 1048576).bind fun t283 => (if t283 < 0 then (some true) else ((laws_toTable.f k l0_0 l0_1 a0_2).bind fun bt284 => ((spec_TakeKey.f k bt284.1 bt284.2.1 bt284.2.2 a1).bind fun bt291 => ((laws_toTable.f k l0_0 l0_1 a0_2).bind fun bt300 => ((impl_TakeKey.f k bt300.1 bt300.2.1 bt300.2.2 a1).bind fun bt308 => ((laws_eqTable.f k bt308.1 bt308.2.1 bt308.2.2.1 bt291.1 bt291.2.1 bt291.2.2.1).bind fun t317 => (if t317 = true then (laws_FnExactTakeKey.j0 k a1 bt291.2.2.2 bt308.2.2.2 (bt308.2.2.2 != bt291.2.2.2) l0_0 l0_1 a0_2 bt291.1 bt291.2.1 bt291.2.2.1 bt300.1 bt300.2.1 bt300.2.2 bt308.1 bt308.2.1 bt308.2.2.1) else (laws_FnExactTakeKey.j0 k a1 bt291.2.2.2 bt308.2.2.2 true l0_0 l0_1 a0_2 bt291.1 bt291.2.1 bt291.2.2.1 bt300.1 bt300.2.1 bt300.2.2 bt308.1 bt308.2.1 bt308.2.2.1)))))))))
set_option maxHeartbeats 8000000 in
set_option maxRecDepth 100000 in
theorem laws_FnExactTakeKey.calls (k : Nat) (A0_0 : Option Addr) (c0_0 : Nat) (l0_0 : List (S95)) (A0_1 : Option Addr) (c0_1 : Nat) (l0_1 : List (S95)) (a0_2 : Int) (a1 : ByteArray) (r : Bool) (w : World) (hr0_0 : Kd.C k95 w A0_0 l0_0.length l0_0) (hc0_0 : l0_0.length ≤ c0_0) (hr0_1 : Kd.C k95 w A0_1 l0_1.length l0_1) (hc0_1 : l0_1.length ≤ c0_1) (h : laws_FnExactTakeKey.f k l0_0 l0_1 a0_2 a1 = some r) :
  Calls Try.prog 7 #[.agg #[.slice A0_0 l0_0.length c0_0, .slice A0_1 l0_1.length c0_1, .int .i64 a0_2], .string a1] w fun e w' => e = .returned (.bool r) ∧ Below w.heap.size w w' := by
 have hu42 := Try.underlying42
 have hu26 := Try.underlying26
 have HR0_0 := am hr0_0
 have HC0_0 := am hc0_0
 clear hr0_0 hc0_0
 have HR0_1 := am hr0_1
 have HC0_1 := am hc0_1
 clear hr0_1 hc0_1
 have HB := am (Below.refl w.heap.size w)
 have H : (if (a1.size : Int) > 1048576 then (some true) else ((laws_szTable.f k l0_0 l0_1 a0_2 1048576).bind fun t283 => (if t283 < 0 then (some true) else ((laws_toTable.f k l0_0 l0_1 a0_2).bind fun bt284 => ((spec_TakeKey.f k bt284.1 bt284.2.1 bt284.2.2 a1).bind fun bt291 => ((laws_toTable.f k l0_0 l0_1 a0_2).bind fun bt300 => ((impl_TakeKey.f k bt300.1 bt300.2.1 bt300.2.2 a1).bind fun bt308 => ((laws_eqTable.f k bt308.1 bt308.2.1 bt308.2.2.1 bt291.1 bt291.2.1 bt291.2.2.1).bind fun t317 => (if t317 = true then (laws_FnExactTakeKey.j0 k a1 bt291.2.2.2 bt308.2.2.2 (bt308.2.2.2 != bt291.2.2.2) l0_0 l0_1 a0_2 bt291.1 bt291.2.1 bt291.2.2.1 bt300.1 bt300.2.1 bt300.2.2 bt308.1 bt308.2.1 bt308.2.2.1) else (laws_FnExactTakeKey.j0 k a1 bt291.2.2.2 bt308.2.2.2 true l0_0 l0_1 a0_2 bt291.1 bt291.2.1 bt291.2.2.1 bt300.1 bt300.2.1 bt300.2.2 bt308.1 bt308.2.1 bt308.2.2.1)))))))))) = some r := h
 clear h
 by_cases c3 : (a1.size : Int) > 1048576
 ·rw [if_pos c3] at H
  have c3b0 : decide (1048576 < (a1.size : Int)) = true := decide_eq_true c3
  have c3b1 : decide (1048576 < a1.size) = true := decide_eq_true (by omega)
  clear c3
  obtain rfl := Option.some.inj H
  go_enter Try.func7, Try.ntmps7
  go_wp2_with (first | ((with_reducible refine gate_dst (N := 2) rfl ?_); refine box_event ?hg (N := 2) ?hd (cs := #[.slice A0_0 l0_0.length c0_0, .slice A0_1 l0_1.length c0_1, .int .i64 a0_2]) (t := 42) ?hr ?_; (case hd => rfl); (case hg => rfl); (case hr => first | (go_simp; done) | (go_simp; rfl)); intro gb282 hg w4 hbox hb; have n0_ := am (bs (by repeat (first | (with_reducible first | exact HB.out | apply wa | apply wn | apply wd) | exact HB.out)) hb); have n1_ := am (hbox); have n2_ := am ((by rw [hg]; exact (below_size (by repeat (first | (with_reducible first | exact HB.out | apply wa | apply wn | apply wd) | exact HB.out))) : w.heap.size ≤ gb282)); have n3_ := am ((by rw [hg]; exact (below_size (by repeat (first | (with_reducible first | exact HB.out | apply wa | apply wn | apply wd) | exact HB.out))) : w.heap.size ≤ gb282)); clear HB; have HB := n0_; have BK282 := n1_; have GW282 := n2_; have GE282 := n3_; clear n0_ n1_ n2_ n3_; clear hb hbox hg))
  go_ret
  exact ⟨by first | rfl | (simp [errW_none, errW_some] <;> rfl) | (simp [*, errW_none, errW_some] <;> rfl), by repeat (first | (with_reducible first | exact HB.out | apply wa | apply wn | apply wd | refine ws ?_ GE282.out) | exact HB.out)⟩
 ·rw [if_neg c3] at H
  have c3b0 : decide (1048576 < (a1.size : Int)) = false := decide_eq_false c3
  have c3b1 : decide (1048576 < a1.size) = false := decide_eq_false (by omega)
  clear c3
  replace H := Option.bind_eq_some_iff.mp H
  obtain ⟨t283, A50, H⟩ := H
  replace H : (if t283 < 0 then (some true) else ((laws_toTable.f k l0_0 l0_1 a0_2).bind fun bt284 => ((spec_TakeKey.f k bt284.1 bt284.2.1 bt284.2.2 a1).bind fun bt291 => ((laws_toTable.f k l0_0 l0_1 a0_2).bind fun bt300 => ((impl_TakeKey.f k bt300.1 bt300.2.1 bt300.2.2 a1).bind fun bt308 => ((laws_eqTable.f k bt308.1 bt308.2.1 bt308.2.2.1 bt291.1 bt291.2.1 bt291.2.2.1).bind fun t317 => (if t317 = true then (laws_FnExactTakeKey.j0 k a1 bt291.2.2.2 bt308.2.2.2 (bt308.2.2.2 != bt291.2.2.2) l0_0 l0_1 a0_2 bt291.1 bt291.2.1 bt291.2.2.1 bt300.1 bt300.2.1 bt300.2.2 bt308.1 bt308.2.1 bt308.2.2.1) else (laws_FnExactTakeKey.j0 k a1 bt291.2.2.2 bt308.2.2.2 true l0_0 l0_1 a0_2 bt291.1 bt291.2.1 bt291.2.2.1 bt300.1 bt300.2.1 bt300.2.2 bt308.1 bt308.2.1 bt308.2.2.1)))))))) = some r := H
  have A5 := am A50
  clear A50
  by_cases c6 : t283 < 0
  ·rw [if_pos c6] at H
   have c6b0 : decide (t283 < 0) = true := decide_eq_true c6
   clear c6
   obtain rfl := Option.some.inj H
   go_enter Try.func7, Try.ntmps7
   go_wp2_with (first | ((with_reducible refine gate_dst (N := 2) rfl ?_); refine box_event ?hg (N := 2) ?hd (cs := #[.slice A0_0 l0_0.length c0_0, .slice A0_1 l0_1.length c0_1, .int .i64 a0_2]) (t := 42) ?hr ?_; (case hd => rfl); (case hg => rfl); (case hr => first | (go_simp; done) | (go_simp; rfl)); intro gb282 hg w7 hbox hb; have n0_ := am (bs (by repeat (first | (with_reducible first | exact HB.out | apply wa | apply wn | apply wd) | exact HB.out)) hb); have n1_ := am (hbox); have n2_ := am ((by rw [hg]; exact (below_size (by repeat (first | (with_reducible first | exact HB.out | apply wa | apply wn | apply wd) | exact HB.out))) : w.heap.size ≤ gb282)); have n3_ := am ((by rw [hg]; exact (below_size (by repeat (first | (with_reducible first | exact HB.out | apply wa | apply wn | apply wd) | exact HB.out))) : w.heap.size ≤ gb282)); clear HB; have HB := n0_; have BK282 := n1_; have GW282 := n2_; have GE282 := n3_; clear n0_ n1_ n2_ n3_; clear hb hbox hg; have hcz8_0 : w7.cell? ⟨gb282, 0, none⟩ = some (.slice A0_0 l0_0.length c0_0) := (blk_cell BK282.out 0).trans rfl; have hcz8_1 : w7.cell? ⟨gb282, 1, none⟩ = some (.slice A0_1 l0_1.length c0_1) := (blk_cell BK282.out 1).trans rfl; have hcz8_2 : w7.cell? ⟨gb282, 2, none⟩ = some (.int .i64 a0_2) := (blk_cell BK282.out 2).trans rfl; have hfz8_0 := blk_frozen BK282.out 0; have hfz8_1 := blk_frozen BK282.out 1; have hfz8_2 := blk_frozen BK282.out 2) | ((with_reducible refine gate_callee (f := 24) rfl ?_); refine goesL_ (some 21) rfl rfl Try.func24 (by kernel_rfl) rfl #[.agg #[.slice A0_0 l0_0.length c0_0, .slice A0_1 l0_1.length c0_1, .int .i64 a0_2], .int .i64 1048576] rfl (by (try simp only [List.map_toArray, List.map_cons, List.map_nil]); first | done | rfl | (simp only [List.length_drop, List.length_take]; rfl)) ?_; (with_reducible refine (laws_szTable.calls k _ _ l0_0 _ _ l0_1 a0_2 1048576 t283 _ ?side1 ?side2 ?side3 ?side4 A5.out).mono ?_); (case side1 => repeat (first | exact (Kd.C_below HR0_0.out HB.out) | (with_reducible refine Kd.C_alloc ?_ _) | (with_reducible refine Kd.C_drewN ?_ _) | (with_reducible refine Kd.C_drew ?_))); (case side2 => exact HC0_0.out); (case side3 => repeat (first | exact (Kd.C_below HR0_1.out HB.out) | (with_reducible refine Kd.C_alloc ?_ _) | (with_reducible refine Kd.C_drewN ?_ _) | (with_reducible refine Kd.C_drew ?_))); (case side4 => exact HC0_1.out); rintro e w9 ⟨rfl, hb⟩; refine ⟨_, rfl, ?_⟩; have n0_ := am (bb (g := gb282) (o := .cells #[.slice A0_0 l0_0.length c0_0, .slice A0_1 l0_1.length c0_1, .int .i64 a0_2] 42 (0, 0)) (by (with_reducible repeat (first | refine bn ?_ _ | refine bd ?_ | refine ba ?_ _)); exact BK282.out) hb); have n1_ := am (bs (by repeat (first | (with_reducible first | exact HB.out | apply wa | apply wn | apply wd | refine ws ?_ GE282.out) | exact HB.out)) hb); clear BK282; clear HB; have BK282 := n0_; have HB := n1_; clear n0_ n1_; (try clear hb); (try clear hb2); (try clear hk); (try clear hi)))
   go_ret
   exact ⟨by first | rfl | (simp [errW_none, errW_some] <;> rfl) | (simp [*, errW_none, errW_some] <;> rfl), by repeat (first | (with_reducible first | exact HB.out | apply wa | apply wn | apply wd | refine ws ?_ GE282.out) | exact HB.out)⟩
  ·rw [if_neg c6] at H
   have c6b0 : decide (t283 < 0) = false := decide_eq_false c6
   clear c6
   replace H := Option.bind_eq_some_iff.mp H
   obtain ⟨⟨t284, t287, t290⟩, A100, H⟩ := H
   replace H : ((spec_TakeKey.f k t284 t287 t290 a1).bind fun bt291 => ((laws_toTable.f k l0_0 l0_1 a0_2).bind fun bt300 => ((impl_TakeKey.f k bt300.1 bt300.2.1 bt300.2.2 a1).bind fun bt308 => ((laws_eqTable.f k bt308.1 bt308.2.1 bt308.2.2.1 bt291.1 bt291.2.1 bt291.2.2.1).bind fun t317 => (if t317 = true then (laws_FnExactTakeKey.j0 k a1 bt291.2.2.2 bt308.2.2.2 (bt308.2.2.2 != bt291.2.2.2) l0_0 l0_1 a0_2 bt291.1 bt291.2.1 bt291.2.2.1 bt300.1 bt300.2.1 bt300.2.2 bt308.1 bt308.2.1 bt308.2.2.1) else (laws_FnExactTakeKey.j0 k a1 bt291.2.2.2 bt308.2.2.2 true l0_0 l0_1 a0_2 bt291.1 bt291.2.1 bt291.2.2.1 bt300.1 bt300.2.1 bt300.2.2 bt308.1 bt308.2.1 bt308.2.2.1)))))) = some r := H
   have A10 := am A100
   clear A100
   replace H := Option.bind_eq_some_iff.mp H
   obtain ⟨⟨t291, t294, t297, t298⟩, A110, H⟩ := H
   replace H : ((laws_toTable.f k l0_0 l0_1 a0_2).bind fun bt300 => ((impl_TakeKey.f k bt300.1 bt300.2.1 bt300.2.2 a1).bind fun bt308 => ((laws_eqTable.f k bt308.1 bt308.2.1 bt308.2.2.1 t291 t294 t297).bind fun t317 => (if t317 = true then (laws_FnExactTakeKey.j0 k a1 t298 bt308.2.2.2 (bt308.2.2.2 != t298) l0_0 l0_1 a0_2 t291 t294 t297 bt300.1 bt300.2.1 bt300.2.2 bt308.1 bt308.2.1 bt308.2.2.1) else (laws_FnExactTakeKey.j0 k a1 t298 bt308.2.2.2 true l0_0 l0_1 a0_2 t291 t294 t297 bt300.1 bt300.2.1 bt300.2.2 bt308.1 bt308.2.1 bt308.2.2.1))))) = some r := H
   have A11 := am A110
   clear A110
   replace H := Option.bind_eq_some_iff.mp H
   obtain ⟨⟨t300, t303, t306⟩, A120, H⟩ := H
   replace H : ((impl_TakeKey.f k t300 t303 t306 a1).bind fun bt308 => ((laws_eqTable.f k bt308.1 bt308.2.1 bt308.2.2.1 t291 t294 t297).bind fun t317 => (if t317 = true then (laws_FnExactTakeKey.j0 k a1 t298 bt308.2.2.2 (bt308.2.2.2 != t298) l0_0 l0_1 a0_2 t291 t294 t297 t300 t303 t306 bt308.1 bt308.2.1 bt308.2.2.1) else (laws_FnExactTakeKey.j0 k a1 t298 bt308.2.2.2 true l0_0 l0_1 a0_2 t291 t294 t297 t300 t303 t306 bt308.1 bt308.2.1 bt308.2.2.1)))) = some r := H
   have A12 := am A120
   clear A120
   replace H := Option.bind_eq_some_iff.mp H
   obtain ⟨⟨t308, t311, t314, t315⟩, A130, H⟩ := H
   replace H : ((laws_eqTable.f k t308 t311 t314 t291 t294 t297).bind fun t317 => (if t317 = true then (laws_FnExactTakeKey.j0 k a1 t298 t315 (t315 != t298) l0_0 l0_1 a0_2 t291 t294 t297 t300 t303 t306 t308 t311 t314) else (laws_FnExactTakeKey.j0 k a1 t298 t315 true l0_0 l0_1 a0_2 t291 t294 t297 t300 t303 t306 t308 t311 t314))) = some r := H
   have A13 := am A130
   clear A130
   have HC14 := am H
   clear H
   go_enter Try.func7, Try.ntmps7
   go_upto_region 10 with (first | ((with_reducible refine gate_dst (N := 2) rfl ?_); refine box_event ?hg (N := 2) ?hd (cs := #[.slice A0_0 l0_0.length c0_0, .slice A0_1 l0_1.length c0_1, .int .i64 a0_2]) (t := 42) ?hr ?_; (case hd => rfl); (case hg => rfl); (case hr => first | (go_simp; done) | (go_simp; rfl)); intro gb282 hg w15 hbox hb; have n0_ := am (bs (by repeat (first | (with_reducible first | exact HB.out | apply wa | apply wn | apply wd) | exact HB.out)) hb); have n1_ := am (hbox); have n2_ := am ((by rw [hg]; exact (below_size (by repeat (first | (with_reducible first | exact HB.out | apply wa | apply wn | apply wd) | exact HB.out))) : w.heap.size ≤ gb282)); have n3_ := am ((by rw [hg]; exact (below_size (by repeat (first | (with_reducible first | exact HB.out | apply wa | apply wn | apply wd) | exact HB.out))) : w.heap.size ≤ gb282)); clear HB; have HB := n0_; have BK282 := n1_; have GW282 := n2_; have GE282 := n3_; clear n0_ n1_ n2_ n3_; clear hb hbox hg; have hcz16_0 : w15.cell? ⟨gb282, 0, none⟩ = some (.slice A0_0 l0_0.length c0_0) := (blk_cell BK282.out 0).trans rfl; have hcz16_1 : w15.cell? ⟨gb282, 1, none⟩ = some (.slice A0_1 l0_1.length c0_1) := (blk_cell BK282.out 1).trans rfl; have hcz16_2 : w15.cell? ⟨gb282, 2, none⟩ = some (.int .i64 a0_2) := (blk_cell BK282.out 2).trans rfl; have hfz16_0 := blk_frozen BK282.out 0; have hfz16_1 := blk_frozen BK282.out 1; have hfz16_2 := blk_frozen BK282.out 2) | ((with_reducible refine gate_callee (f := 24) rfl ?_); refine goesL_ (some 21) rfl rfl Try.func24 (by kernel_rfl) rfl #[.agg #[.slice A0_0 l0_0.length c0_0, .slice A0_1 l0_1.length c0_1, .int .i64 a0_2], .int .i64 1048576] rfl (by (try simp only [List.map_toArray, List.map_cons, List.map_nil]); first | done | rfl | (simp only [List.length_drop, List.length_take]; rfl)) ?_; (with_reducible refine (laws_szTable.calls k _ _ l0_0 _ _ l0_1 a0_2 1048576 t283 _ ?side1 ?side2 ?side3 ?side4 A5.out).mono ?_); (case side1 => repeat (first | exact (Kd.C_below HR0_0.out HB.out) | (with_reducible refine Kd.C_alloc ?_ _) | (with_reducible refine Kd.C_drewN ?_ _) | (with_reducible refine Kd.C_drew ?_))); (case side2 => exact HC0_0.out); (case side3 => repeat (first | exact (Kd.C_below HR0_1.out HB.out) | (with_reducible refine Kd.C_alloc ?_ _) | (with_reducible refine Kd.C_drewN ?_ _) | (with_reducible refine Kd.C_drew ?_))); (case side4 => exact HC0_1.out); rintro e w17 ⟨rfl, hb⟩; refine ⟨_, rfl, ?_⟩; have n0_ := am (bb (g := gb282) (o := .cells #[.slice A0_0 l0_0.length c0_0, .slice A0_1 l0_1.length c0_1, .int .i64 a0_2] 42 (0, 0)) (by (with_reducible repeat (first | refine bn ?_ _ | refine bd ?_ | refine ba ?_ _)); exact BK282.out) hb); have n1_ := am (bs (by repeat (first | (with_reducible first | exact HB.out | apply wa | apply wn | apply wd | refine ws ?_ GE282.out) | exact HB.out)) hb); clear BK282; clear HB; have BK282 := n0_; have HB := n1_; clear n0_ n1_; (try clear hb); (try clear hb2); (try clear hk); (try clear hi); have hcz18_0 : w17.cell? ⟨gb282, 0, none⟩ = some (.slice A0_0 l0_0.length c0_0) := (blk_cell BK282.out 0).trans rfl; have hcz18_1 : w17.cell? ⟨gb282, 1, none⟩ = some (.slice A0_1 l0_1.length c0_1) := (blk_cell BK282.out 1).trans rfl; have hcz18_2 : w17.cell? ⟨gb282, 2, none⟩ = some (.int .i64 a0_2) := (blk_cell BK282.out 2).trans rfl; have hfz18_0 := blk_frozen BK282.out 0; have hfz18_1 := blk_frozen BK282.out 1; have hfz18_2 := blk_frozen BK282.out 2) | ((with_reducible refine gate_callee (f := 26) rfl ?_); refine goesL_ (some 26) rfl rfl Try.func26 (by kernel_rfl) rfl #[.agg #[.slice A0_0 l0_0.length c0_0, .slice A0_1 l0_1.length c0_1, .int .i64 a0_2]] rfl (by (try simp only [List.map_toArray, List.map_cons, List.map_nil]); first | done | rfl | (simp only [List.length_drop, List.length_take]; rfl)) ?_; (with_reducible refine (laws_toTable.calls k _ _ l0_0 _ _ l0_1 a0_2 t284 t287 t290 _ ?side1 ?side2 ?side3 ?side4 A10.out).mono ?_); (case side1 => repeat (first | exact (Kd.C_below HR0_0.out HB.out) | (with_reducible refine Kd.C_alloc ?_ _) | (with_reducible refine Kd.C_drewN ?_ _) | (with_reducible refine Kd.C_drew ?_))); (case side2 => exact HC0_0.out); (case side3 => repeat (first | exact (Kd.C_below HR0_1.out HB.out) | (with_reducible refine Kd.C_alloc ?_ _) | (with_reducible refine Kd.C_drewN ?_ _) | (with_reducible refine Kd.C_drew ?_))); (case side4 => exact HC0_1.out); rintro e w19 ⟨v285, v288, rfl, ho0, ho1, hb⟩; refine ⟨_, rfl, ?_⟩; have n0_ := am (Kd.R_lower ho0 (below_size (by repeat (first | (with_reducible first | exact HB.out | apply wa | apply wn | apply wd | refine ws ?_ GE282.out) | exact HB.out)))); have n1_ := am (Kd.R_lower ho1 (below_size (by repeat (first | (with_reducible first | exact HB.out | apply wa | apply wn | apply wd | refine ws ?_ GE282.out) | exact HB.out)))); have n2_ := am (bb (g := gb282) (o := .cells #[.slice A0_0 l0_0.length c0_0, .slice A0_1 l0_1.length c0_1, .int .i64 a0_2] 42 (0, 0)) (by (with_reducible repeat (first | refine bn ?_ _ | refine bd ?_ | refine ba ?_ _)); exact BK282.out) hb); have n3_ := am (bs (by repeat (first | (with_reducible first | exact HB.out | apply wa | apply wn | apply wd | refine ws ?_ GE282.out) | exact HB.out)) hb); clear BK282; clear HB; have HO286 := n0_; have HO289 := n1_; have BK282 := n2_; have HB := n3_; clear n0_ n1_ n2_ n3_; (try clear hb); (try clear hb2); (try clear hk); (try clear hi); (try clear ho0); (try clear ho1); obtain ⟨Ao20, co20, eo20⟩ := Kd.R_slice HO286.out; subst eo20; obtain ⟨Ao21, co21, eo21⟩ := Kd.R_slice HO289.out; subst eo21) | ((with_reducible refine gate_callee (f := 33) rfl ?_); refine goesL_ (some 28) rfl rfl Try.func33 (by kernel_rfl) rfl #[.agg #[.slice Ao20 t284.length co20, .slice Ao21 t287.length co21, .int .i64 t290], .string a1] rfl (by (try simp only [List.map_toArray, List.map_cons, List.map_nil]); first | done | rfl | (simp only [List.length_drop, List.length_take]; rfl)) ?_; (with_reducible refine (spec_TakeKey.calls k _ _ t284 _ _ t287 t290 a1 t291 t294 t297 t298 _ ?side1 ?side2 ?side3 ?side4 A11.out).mono ?_); (case side1 => repeat (first | exact (rr HO286.out).2.2 | (with_reducible refine Kd.C_alloc ?_ _) | (with_reducible refine Kd.C_drewN ?_ _) | (with_reducible refine Kd.C_drew ?_))); (case side2 => exact (rr HO286.out).2.1); (case side3 => repeat (first | exact (rr HO289.out).2.2 | (with_reducible refine Kd.C_alloc ?_ _) | (with_reducible refine Kd.C_drewN ?_ _) | (with_reducible refine Kd.C_drew ?_))); (case side4 => exact (rr HO289.out).2.1); rintro e w22 ⟨v292, v295, rfl, ho0, ho1, hb⟩; refine ⟨_, rfl, ?_⟩; have n0_ := am (rm (ro (ro (rl (by (with_reducible repeat (first | apply ra | apply rn | apply rd)); exact HO286.out) hb) (re ho0)) (re ho1)) (fun _ h_ => h_.1)); have n1_ := am (rm (ro (ro (rl (by (with_reducible repeat (first | apply ra | apply rn | apply rd)); exact HO289.out) hb) (re ho0)) (re ho1)) (fun _ h_ => h_.1)); have n2_ := am (Kd.R_lower (Kd.R_new' (Kd.R_new' ho0 (Kd.R_lt (by (with_reducible repeat (first | apply ra | apply rn | apply rd)); exact HO286.out))) (Kd.R_lt (by (with_reducible repeat (first | apply ra | apply rn | apply rd)); exact HO289.out))) (below_size (by repeat (first | (with_reducible first | exact HB.out | apply wa | apply wn | apply wd | refine ws ?_ GE282.out) | exact HB.out)))); have n3_ := am (Kd.R_lower (Kd.R_new' (Kd.R_new' ho1 (Kd.R_lt (by (with_reducible repeat (first | apply ra | apply rn | apply rd)); exact HO286.out))) (Kd.R_lt (by (with_reducible repeat (first | apply ra | apply rn | apply rd)); exact HO289.out))) (below_size (by repeat (first | (with_reducible first | exact HB.out | apply wa | apply wn | apply wd | refine ws ?_ GE282.out) | exact HB.out)))); have n4_ := am (bb (g := gb282) (o := .cells #[.slice A0_0 l0_0.length c0_0, .slice A0_1 l0_1.length c0_1, .int .i64 a0_2] 42 (0, 0)) (by (with_reducible repeat (first | refine bn ?_ _ | refine bd ?_ | refine ba ?_ _)); exact BK282.out) hb); have n5_ := am (bs (by repeat (first | (with_reducible first | exact HB.out | apply wa | apply wn | apply wd | refine ws ?_ GE282.out) | exact HB.out)) hb); clear HO286; clear HO289; clear BK282; clear HB; have HO286 := n0_; have HO289 := n1_; have HO293 := n2_; have HO296 := n3_; have BK282 := n4_; have HB := n5_; clear n0_ n1_ n2_ n3_ n4_ n5_; (try clear hb); (try clear hb2); (try clear hk); (try clear hi); (try clear ho0); (try clear ho1)) | ((with_reducible refine gate_dst (N := 6) rfl ?_); refine box_event ?hg (N := 6) ?hd (cs := #[.slice none 0 0, .slice none 0 0, .int .i64 0]) (t := 26) ?hr ?_; (case hd => rfl); (case hg => rfl); (case hr => first | (go_simp; done) | (go_simp; rfl)); intro gb299 hg w23 hbox hb; have n0_ := am (rb (by (with_reducible repeat (first | apply ra | apply rn | apply rd)); exact HO286.out) hb); have n1_ := am (rb (by (with_reducible repeat (first | apply ra | apply rn | apply rd)); exact HO289.out) hb); have n2_ := am (rb (by (with_reducible repeat (first | apply ra | apply rn | apply rd)); exact HO293.out) hb); have n3_ := am (rb (by (with_reducible repeat (first | apply ra | apply rn | apply rd)); exact HO296.out) hb); have n4_ := am (bb (g := gb282) (o := .cells #[.slice A0_0 l0_0.length c0_0, .slice A0_1 l0_1.length c0_1, .int .i64 a0_2] 42 (0, 0)) (by (with_reducible repeat (first | refine bn ?_ _ | refine bd ?_ | refine ba ?_ _)); exact BK282.out) hb); have n5_ := am (bs (by repeat (first | (with_reducible first | exact HB.out | apply wa | apply wn | apply wd | refine ws ?_ GE282.out) | exact HB.out)) hb); have n6_ := am (hbox); have n7_ := am ((by rw [hg]; exact (below_size (by repeat (first | (with_reducible first | exact HB.out | apply wa | apply wn | apply wd | refine ws ?_ GE282.out) | exact HB.out))) : w.heap.size ≤ gb299)); have n8_ := am ((by rw [hg]; exact (below_size (by repeat (first | (with_reducible first | exact HB.out | apply wa | apply wn | apply wd | refine ws ?_ GE282.out) | exact HB.out))) : w.heap.size ≤ gb299)); have n9_ := am ((by rw [hg]; exact Nat.ne_of_lt (blk_lt (g := gb282) (o := .cells #[.slice A0_0 l0_0.length c0_0, .slice A0_1 l0_1.length c0_1, .int .i64 a0_2] 42 (0, 0)) (by (with_reducible repeat (first | refine bn ?_ _ | refine bd ?_ | refine ba ?_ _)); exact BK282.out)) : gb282 ≠ gb299)); have n10_ := am ((by rw [hg]; exact Nat.ne_of_gt (blk_lt (g := gb282) (o := .cells #[.slice A0_0 l0_0.length c0_0, .slice A0_1 l0_1.length c0_1, .int .i64 a0_2] 42 (0, 0)) (by (with_reducible repeat (first | refine bn ?_ _ | refine bd ?_ | refine ba ?_ _)); exact BK282.out)) : gb299 ≠ gb282)); clear HO286; clear HO289; clear HO293; clear HO296; clear BK282; clear HB; have HO286 := n0_; have HO289 := n1_; have HO293 := n2_; have HO296 := n3_; have BK282 := n4_; have HB := n5_; have BK299 := n6_; have GW299 := n7_; have GE299 := n8_; have NB282_299 := n9_; have NB299_282 := n10_; clear n0_ n1_ n2_ n3_ n4_ n5_ n6_ n7_ n8_ n9_ n10_; clear hb hbox hg; obtain ⟨Ao24, co24, eo24⟩ := Kd.R_slice HO293.out; subst eo24; have hnb25 := NB299_282.out; have hnc25 := NB282_299.out; have hcz26_0 : w23.cell? ⟨gb299, 0, none⟩ = some (.slice none 0 0) := (blk_cell BK299.out 0).trans rfl; have hcz26_1 : w23.cell? ⟨gb299, 1, none⟩ = some (.slice none 0 0) := (blk_cell BK299.out 1).trans rfl; have hcz26_2 : w23.cell? ⟨gb299, 2, none⟩ = some (.int .i64 0) := (blk_cell BK299.out 2).trans rfl; have hfz26_0 := blk_frozen BK299.out 0; have hfz26_1 := blk_frozen BK299.out 1; have hfz26_2 := blk_frozen BK299.out 2; obtain ⟨Ao27, co27, eo27⟩ := Kd.R_slice HO296.out; subst eo27; have hcz28_0 : w23.cell? ⟨gb282, 0, none⟩ = some (.slice A0_0 l0_0.length c0_0) := (blk_cell BK282.out 0).trans rfl; have hcz28_1 : w23.cell? ⟨gb282, 1, none⟩ = some (.slice A0_1 l0_1.length c0_1) := (blk_cell BK282.out 1).trans rfl; have hcz28_2 : w23.cell? ⟨gb282, 2, none⟩ = some (.int .i64 a0_2) := (blk_cell BK282.out 2).trans rfl; have hfz28_0 := blk_frozen BK282.out 0; have hfz28_1 := blk_frozen BK282.out 1; have hfz28_2 := blk_frozen BK282.out 2) | ((with_reducible refine gate_callee (f := 26) rfl ?_); refine goesL_ (some 32) rfl rfl Try.func26 (by kernel_rfl) rfl #[.agg #[.slice A0_0 l0_0.length c0_0, .slice A0_1 l0_1.length c0_1, .int .i64 a0_2]] rfl (by (try simp only [List.map_toArray, List.map_cons, List.map_nil]); first | done | rfl | (simp only [List.length_drop, List.length_take]; rfl)) ?_; (with_reducible refine (laws_toTable.calls k _ _ l0_0 _ _ l0_1 a0_2 t300 t303 t306 _ ?side1 ?side2 ?side3 ?side4 A12.out).mono ?_); (case side1 => exact Kd.C_below HR0_0.out (by repeat (first | (with_reducible first | exact HB.out | apply wa | apply wn | apply wd | refine ws ?_ GE282.out | refine ws ?_ GE299.out) | exact HB.out))); (case side2 => exact HC0_0.out); (case side3 => exact Kd.C_below HR0_1.out (by repeat (first | (with_reducible first | exact HB.out | apply wa | apply wn | apply wd | refine ws ?_ GE282.out | refine ws ?_ GE299.out) | exact HB.out))); (case side4 => exact HC0_1.out); rintro e w29 ⟨v301, v304, rfl, ho0, ho1, hb⟩; refine ⟨_, rfl, ?_⟩; have n0_ := am (rm (ro (ro (rl (by (with_reducible repeat (first | apply ra | apply rn | apply rd)); exact (rm (Kd.R_far (p := ⟨gb299, 2, none⟩) (Kd.R_far (p := ⟨gb299, 1, none⟩) (Kd.R_far (p := ⟨gb299, 0, none⟩) (Kd.R_types HO286.out BK299.out (by decide)) (fun _ hk => by simp [hk]) (.slice Ao24 t291.length co24)) (fun _ hk => by simp [hk]) (.slice Ao27 t294.length co27)) (fun _ hk => by simp [hk]) (.int .i64 t297)) (fun _ h_ => h_.1))) hb) (re ho0)) (re ho1)) (fun _ h_ => h_.1)); have n1_ := am (rm (ro (ro (rl (by (with_reducible repeat (first | apply ra | apply rn | apply rd)); exact (rm (Kd.R_far (p := ⟨gb299, 2, none⟩) (Kd.R_far (p := ⟨gb299, 1, none⟩) (Kd.R_far (p := ⟨gb299, 0, none⟩) (Kd.R_types HO289.out BK299.out (by decide)) (fun _ hk => by simp [hk]) (.slice Ao24 t291.length co24)) (fun _ hk => by simp [hk]) (.slice Ao27 t294.length co27)) (fun _ hk => by simp [hk]) (.int .i64 t297)) (fun _ h_ => h_.1))) hb) (re ho0)) (re ho1)) (fun _ h_ => h_.1)); have n2_ := am (rm (ro (ro (rl (by (with_reducible repeat (first | apply ra | apply rn | apply rd)); exact (rm (Kd.R_far (p := ⟨gb299, 2, none⟩) (Kd.R_far (p := ⟨gb299, 1, none⟩) (Kd.R_far (p := ⟨gb299, 0, none⟩) (Kd.R_types HO293.out BK299.out (by decide)) (fun _ hk => by simp [hk]) (.slice Ao24 t291.length co24)) (fun _ hk => by simp [hk]) (.slice Ao27 t294.length co27)) (fun _ hk => by simp [hk]) (.int .i64 t297)) (fun _ h_ => h_.1))) hb) (re ho0)) (re ho1)) (fun _ h_ => h_.1)); have n3_ := am (rm (ro (ro (rl (by (with_reducible repeat (first | apply ra | apply rn | apply rd)); exact (rm (Kd.R_far (p := ⟨gb299, 2, none⟩) (Kd.R_far (p := ⟨gb299, 1, none⟩) (Kd.R_far (p := ⟨gb299, 0, none⟩) (Kd.R_types HO296.out BK299.out (by decide)) (fun _ hk => by simp [hk]) (.slice Ao24 t291.length co24)) (fun _ hk => by simp [hk]) (.slice Ao27 t294.length co27)) (fun _ hk => by simp [hk]) (.int .i64 t297)) (fun _ h_ => h_.1))) hb) (re ho0)) (re ho1)) (fun _ h_ => h_.1)); have n4_ := am (Kd.R_lower (Kd.R_new' (Kd.R_new' (Kd.R_new' (Kd.R_new' ho0 (Kd.R_lt (by (with_reducible repeat (first | apply ra | apply rn | apply rd)); exact (rm (Kd.R_far (p := ⟨gb299, 2, none⟩) (Kd.R_far (p := ⟨gb299, 1, none⟩) (Kd.R_far (p := ⟨gb299, 0, none⟩) (Kd.R_types HO286.out BK299.out (by decide)) (fun _ hk => by simp [hk]) (.slice Ao24 t291.length co24)) (fun _ hk => by simp [hk]) (.slice Ao27 t294.length co27)) (fun _ hk => by simp [hk]) (.int .i64 t297)) (fun _ h_ => h_.1))))) (Kd.R_lt (by (with_reducible repeat (first | apply ra | apply rn | apply rd)); exact (rm (Kd.R_far (p := ⟨gb299, 2, none⟩) (Kd.R_far (p := ⟨gb299, 1, none⟩) (Kd.R_far (p := ⟨gb299, 0, none⟩) (Kd.R_types HO289.out BK299.out (by decide)) (fun _ hk => by simp [hk]) (.slice Ao24 t291.length co24)) (fun _ hk => by simp [hk]) (.slice Ao27 t294.length co27)) (fun _ hk => by simp [hk]) (.int .i64 t297)) (fun _ h_ => h_.1))))) (Kd.R_lt (by (with_reducible repeat (first | apply ra | apply rn | apply rd)); exact (rm (Kd.R_far (p := ⟨gb299, 2, none⟩) (Kd.R_far (p := ⟨gb299, 1, none⟩) (Kd.R_far (p := ⟨gb299, 0, none⟩) (Kd.R_types HO293.out BK299.out (by decide)) (fun _ hk => by simp [hk]) (.slice Ao24 t291.length co24)) (fun _ hk => by simp [hk]) (.slice Ao27 t294.length co27)) (fun _ hk => by simp [hk]) (.int .i64 t297)) (fun _ h_ => h_.1))))) (Kd.R_lt (by (with_reducible repeat (first | apply ra | apply rn | apply rd)); exact (rm (Kd.R_far (p := ⟨gb299, 2, none⟩) (Kd.R_far (p := ⟨gb299, 1, none⟩) (Kd.R_far (p := ⟨gb299, 0, none⟩) (Kd.R_types HO296.out BK299.out (by decide)) (fun _ hk => by simp [hk]) (.slice Ao24 t291.length co24)) (fun _ hk => by simp [hk]) (.slice Ao27 t294.length co27)) (fun _ hk => by simp [hk]) (.int .i64 t297)) (fun _ h_ => h_.1))))) (below_size (by repeat (first | (with_reducible first | exact HB.out | apply wa | apply wn | apply wd | refine ws ?_ GE282.out | refine ws ?_ GE299.out) | exact HB.out)))); have n5_ := am (Kd.R_lower (Kd.R_new' (Kd.R_new' (Kd.R_new' (Kd.R_new' ho1 (Kd.R_lt (by (with_reducible repeat (first | apply ra | apply rn | apply rd)); exact (rm (Kd.R_far (p := ⟨gb299, 2, none⟩) (Kd.R_far (p := ⟨gb299, 1, none⟩) (Kd.R_far (p := ⟨gb299, 0, none⟩) (Kd.R_types HO286.out BK299.out (by decide)) (fun _ hk => by simp [hk]) (.slice Ao24 t291.length co24)) (fun _ hk => by simp [hk]) (.slice Ao27 t294.length co27)) (fun _ hk => by simp [hk]) (.int .i64 t297)) (fun _ h_ => h_.1))))) (Kd.R_lt (by (with_reducible repeat (first | apply ra | apply rn | apply rd)); exact (rm (Kd.R_far (p := ⟨gb299, 2, none⟩) (Kd.R_far (p := ⟨gb299, 1, none⟩) (Kd.R_far (p := ⟨gb299, 0, none⟩) (Kd.R_types HO289.out BK299.out (by decide)) (fun _ hk => by simp [hk]) (.slice Ao24 t291.length co24)) (fun _ hk => by simp [hk]) (.slice Ao27 t294.length co27)) (fun _ hk => by simp [hk]) (.int .i64 t297)) (fun _ h_ => h_.1))))) (Kd.R_lt (by (with_reducible repeat (first | apply ra | apply rn | apply rd)); exact (rm (Kd.R_far (p := ⟨gb299, 2, none⟩) (Kd.R_far (p := ⟨gb299, 1, none⟩) (Kd.R_far (p := ⟨gb299, 0, none⟩) (Kd.R_types HO293.out BK299.out (by decide)) (fun _ hk => by simp [hk]) (.slice Ao24 t291.length co24)) (fun _ hk => by simp [hk]) (.slice Ao27 t294.length co27)) (fun _ hk => by simp [hk]) (.int .i64 t297)) (fun _ h_ => h_.1))))) (Kd.R_lt (by (with_reducible repeat (first | apply ra | apply rn | apply rd)); exact (rm (Kd.R_far (p := ⟨gb299, 2, none⟩) (Kd.R_far (p := ⟨gb299, 1, none⟩) (Kd.R_far (p := ⟨gb299, 0, none⟩) (Kd.R_types HO296.out BK299.out (by decide)) (fun _ hk => by simp [hk]) (.slice Ao24 t291.length co24)) (fun _ hk => by simp [hk]) (.slice Ao27 t294.length co27)) (fun _ hk => by simp [hk]) (.int .i64 t297)) (fun _ h_ => h_.1))))) (below_size (by repeat (first | (with_reducible first | exact HB.out | apply wa | apply wn | apply wd | refine ws ?_ GE282.out | refine ws ?_ GE299.out) | exact HB.out)))); have n6_ := am (bb (g := gb282) (o := .cells #[.slice A0_0 l0_0.length c0_0, .slice A0_1 l0_1.length c0_1, .int .i64 a0_2] 42 (0, 0)) (by (with_reducible repeat (first | refine bn ?_ _ | refine bd ?_ | refine ba ?_ _)); refine blk_far ?_ NB282_299.out _; (with_reducible repeat (first | refine bn ?_ _ | refine bd ?_ | refine ba ?_ _)); refine blk_far ?_ NB282_299.out _; (with_reducible repeat (first | refine bn ?_ _ | refine bd ?_ | refine ba ?_ _)); refine blk_far ?_ NB282_299.out _; (with_reducible repeat (first | refine bn ?_ _ | refine bd ?_ | refine ba ?_ _)); exact BK282.out) hb); have n7_ := am (bb (g := gb299) (o := .cells #[.slice Ao24 t291.length co24, .slice Ao27 t294.length co27, .int .i64 t297] 26 (0, 0)) (by (with_reducible repeat (first | refine bn ?_ _ | refine bd ?_ | refine ba ?_ _)); refine blk_put (cs := #[.slice Ao24 t291.length co24, .slice Ao27 t294.length co27, .int .i64 0]) ?_ 2 _ rfl; (with_reducible repeat (first | refine bn ?_ _ | refine bd ?_ | refine ba ?_ _)); refine blk_put (cs := #[.slice Ao24 t291.length co24, .slice none 0 0, .int .i64 0]) ?_ 1 _ rfl; (with_reducible repeat (first | refine bn ?_ _ | refine bd ?_ | refine ba ?_ _)); refine blk_put (cs := #[.slice none 0 0, .slice none 0 0, .int .i64 0]) ?_ 0 _ rfl; (with_reducible repeat (first | refine bn ?_ _ | refine bd ?_ | refine ba ?_ _)); exact BK299.out) hb); have n8_ := am (bs (by repeat (first | (with_reducible first | exact HB.out | apply wa | apply wn | apply wd | refine ws ?_ GE282.out | refine ws ?_ GE299.out) | exact HB.out)) hb); clear HO286; clear HO289; clear HO293; clear HO296; clear BK282; clear BK299; clear HB; have HO286 := n0_; have HO289 := n1_; have HO293 := n2_; have HO296 := n3_; have HO302 := n4_; have HO305 := n5_; have BK282 := n6_; have BK299 := n7_; have HB := n8_; clear n0_ n1_ n2_ n3_ n4_ n5_ n6_ n7_ n8_; (try clear hb); (try clear hb2); (try clear hk); (try clear hi); (try clear ho0); (try clear ho1)) | ((with_reducible refine gate_dst (N := 8) rfl ?_); refine box_event ?hg (N := 8) ?hd (cs := #[.slice none 0 0, .slice none 0 0, .int .i64 0]) (t := 26) ?hr ?_; (case hd => rfl); (case hg => rfl); (case hr => first | (go_simp; done) | (go_simp; rfl)); intro gb307 hg w30 hbox hb; have n0_ := am (rb (by (with_reducible repeat (first | apply ra | apply rn | apply rd)); exact HO286.out) hb); have n1_ := am (rb (by (with_reducible repeat (first | apply ra | apply rn | apply rd)); exact HO289.out) hb); have n2_ := am (rb (by (with_reducible repeat (first | apply ra | apply rn | apply rd)); exact HO293.out) hb); have n3_ := am (rb (by (with_reducible repeat (first | apply ra | apply rn | apply rd)); exact HO296.out) hb); have n4_ := am (rb (by (with_reducible repeat (first | apply ra | apply rn | apply rd)); exact HO302.out) hb); have n5_ := am (rb (by (with_reducible repeat (first | apply ra | apply rn | apply rd)); exact HO305.out) hb); have n6_ := am (bb (g := gb282) (o := .cells #[.slice A0_0 l0_0.length c0_0, .slice A0_1 l0_1.length c0_1, .int .i64 a0_2] 42 (0, 0)) (by (with_reducible repeat (first | refine bn ?_ _ | refine bd ?_ | refine ba ?_ _)); exact BK282.out) hb); have n7_ := am (bb (g := gb299) (o := .cells #[.slice Ao24 t291.length co24, .slice Ao27 t294.length co27, .int .i64 t297] 26 (0, 0)) (by (with_reducible repeat (first | refine bn ?_ _ | refine bd ?_ | refine ba ?_ _)); exact BK299.out) hb); have n8_ := am (bs (by repeat (first | (with_reducible first | exact HB.out | apply wa | apply wn | apply wd | refine ws ?_ GE282.out | refine ws ?_ GE299.out) | exact HB.out)) hb); have n9_ := am (hbox); have n10_ := am ((by rw [hg]; exact (below_size (by repeat (first | (with_reducible first | exact HB.out | apply wa | apply wn | apply wd | refine ws ?_ GE282.out | refine ws ?_ GE299.out) | exact HB.out))) : w.heap.size ≤ gb307)); have n11_ := am ((by rw [hg]; exact (below_size (by repeat (first | (with_reducible first | exact HB.out | apply wa | apply wn | apply wd | refine ws ?_ GE282.out | refine ws ?_ GE299.out) | exact HB.out))) : w.heap.size ≤ gb307)); have n12_ := am ((by rw [hg]; exact Nat.ne_of_lt (blk_lt (g := gb282) (o := .cells #[.slice A0_0 l0_0.length c0_0, .slice A0_1 l0_1.length c0_1, .int .i64 a0_2] 42 (0, 0)) (by (with_reducible repeat (first | refine bn ?_ _ | refine bd ?_ | refine ba ?_ _)); exact BK282.out)) : gb282 ≠ gb307)); have n13_ := am ((by rw [hg]; exact Nat.ne_of_gt (blk_lt (g := gb282) (o := .cells #[.slice A0_0 l0_0.length c0_0, .slice A0_1 l0_1.length c0_1, .int .i64 a0_2] 42 (0, 0)) (by (with_reducible repeat (first | refine bn ?_ _ | refine bd ?_ | refine ba ?_ _)); exact BK282.out)) : gb307 ≠ gb282)); have n14_ := am ((by rw [hg]; exact Nat.ne_of_lt (blk_lt (g := gb299) (o := .cells #[.slice Ao24 t291.length co24, .slice Ao27 t294.length co27, .int .i64 t297] 26 (0, 0)) (by (with_reducible repeat (first | refine bn ?_ _ | refine bd ?_ | refine ba ?_ _)); exact BK299.out)) : gb299 ≠ gb307)); have n15_ := am ((by rw [hg]; exact Nat.ne_of_gt (blk_lt (g := gb299) (o := .cells #[.slice Ao24 t291.length co24, .slice Ao27 t294.length co27, .int .i64 t297] 26 (0, 0)) (by (with_reducible repeat (first | refine bn ?_ _ | refine bd ?_ | refine ba ?_ _)); exact BK299.out)) : gb307 ≠ gb299)); clear HO286; clear HO289; clear HO293; clear HO296; clear HO302; clear HO305; clear BK282; clear BK299; clear HB; have HO286 := n0_; have HO289 := n1_; have HO293 := n2_; have HO296 := n3_; have HO302 := n4_; have HO305 := n5_; have BK282 := n6_; have BK299 := n7_; have HB := n8_; have BK307 := n9_; have GW307 := n10_; have GE307 := n11_; have NB282_307 := n12_; have NB307_282 := n13_; have NB299_307 := n14_; have NB307_299 := n15_; clear n0_ n1_ n2_ n3_ n4_ n5_ n6_ n7_ n8_ n9_ n10_ n11_ n12_ n13_ n14_ n15_; clear hb hbox hg; obtain ⟨Ao31, co31, eo31⟩ := Kd.R_slice HO302.out; subst eo31; have hnb32 := NB307_282.out; have hnc32 := NB282_307.out; have hnb33 := NB307_299.out; have hnc33 := NB299_307.out; have hcz34_0 : w30.cell? ⟨gb307, 0, none⟩ = some (.slice none 0 0) := (blk_cell BK307.out 0).trans rfl; have hcz34_1 : w30.cell? ⟨gb307, 1, none⟩ = some (.slice none 0 0) := (blk_cell BK307.out 1).trans rfl; have hcz34_2 : w30.cell? ⟨gb307, 2, none⟩ = some (.int .i64 0) := (blk_cell BK307.out 2).trans rfl; have hfz34_0 := blk_frozen BK307.out 0; have hfz34_1 := blk_frozen BK307.out 1; have hfz34_2 := blk_frozen BK307.out 2; obtain ⟨Ao35, co35, eo35⟩ := Kd.R_slice HO305.out; subst eo35) | ((with_reducible refine gate_callee (f := 34) rfl ?_); refine goesL_ (some 36) rfl rfl Try.func34 (by kernel_rfl) rfl #[.agg #[.slice Ao31 t300.length co31, .slice Ao35 t303.length co35, .int .i64 t306], .string a1] rfl (by (try simp only [List.map_toArray, List.map_cons, List.map_nil]); first | done | rfl | (simp only [List.length_drop, List.length_take]; rfl)) ?_; (with_reducible refine (impl_TakeKey.calls k _ _ t300 _ _ t303 t306 a1 t308 t311 t314 t315 _ ?side1 ?side2 ?side3 ?side4 A13.out).mono ?_); (case side1 => refine (rr (e := 57) (base := w.heap.size) (ok := fun k_ => ((((some k_ ≠ (.slice Ao35 t303.length co35 : Value).ownBlock ∧ some k_ ≠ (.slice Ao20 t284.length co20 : Value).ownBlock) ∧ some k_ ≠ (.slice Ao21 t287.length co21 : Value).ownBlock) ∧ some k_ ≠ (.slice Ao24 t291.length co24 : Value).ownBlock) ∧ some k_ ≠ (.slice Ao27 t294.length co27 : Value).ownBlock)) (n := t300.length) (c := co31) ?_).2.2; exact (by (with_reducible repeat (first | apply ra | apply rn | apply rd)); exact (rm (Kd.R_far (p := ⟨gb307, 2, none⟩) (Kd.R_far (p := ⟨gb307, 1, none⟩) (Kd.R_far (p := ⟨gb307, 0, none⟩) (Kd.R_types HO302.out BK307.out (by decide)) (fun _ hk => by simp [hk]) (.slice Ao31 t300.length co31)) (fun _ hk => by simp [hk]) (.slice Ao35 t303.length co35)) (fun _ hk => by simp [hk]) (.int .i64 t306)) (fun _ h_ => h_.1)))); (case side2 => exact (rr HO302.out).2.1); (case side3 => refine (rr (e := 57) (base := w.heap.size) (ok := fun k_ => ((((some k_ ≠ (.slice Ao31 t300.length co31 : Value).ownBlock ∧ some k_ ≠ (.slice Ao20 t284.length co20 : Value).ownBlock) ∧ some k_ ≠ (.slice Ao21 t287.length co21 : Value).ownBlock) ∧ some k_ ≠ (.slice Ao24 t291.length co24 : Value).ownBlock) ∧ some k_ ≠ (.slice Ao27 t294.length co27 : Value).ownBlock)) (n := t303.length) (c := co35) ?_).2.2; exact (by (with_reducible repeat (first | apply ra | apply rn | apply rd)); exact (rm (Kd.R_far (p := ⟨gb307, 2, none⟩) (Kd.R_far (p := ⟨gb307, 1, none⟩) (Kd.R_far (p := ⟨gb307, 0, none⟩) (Kd.R_types HO305.out BK307.out (by decide)) (fun _ hk => by simp [hk]) (.slice Ao31 t300.length co31)) (fun _ hk => by simp [hk]) (.slice Ao35 t303.length co35)) (fun _ hk => by simp [hk]) (.int .i64 t306)) (fun _ h_ => h_.1)))); (case side4 => exact (rr HO305.out).2.1); rintro e w36 ⟨v309, v312, rfl, ho0, ho1, hb⟩; refine ⟨_, rfl, ?_⟩; have n0_ := am (rm (ro (ro (rl (by (with_reducible repeat (first | apply ra | apply rn | apply rd)); exact (rm (Kd.R_far (p := ⟨gb307, 2, none⟩) (Kd.R_far (p := ⟨gb307, 1, none⟩) (Kd.R_far (p := ⟨gb307, 0, none⟩) (Kd.R_types HO286.out BK307.out (by decide)) (fun _ hk => by simp [hk]) (.slice Ao31 t300.length co31)) (fun _ hk => by simp [hk]) (.slice Ao35 t303.length co35)) (fun _ hk => by simp [hk]) (.int .i64 t306)) (fun _ h_ => h_.1))) hb) (re ho0)) (re ho1)) (fun _ h_ => h_.1)); have n1_ := am (rm (ro (ro (rl (by (with_reducible repeat (first | apply ra | apply rn | apply rd)); exact (rm (Kd.R_far (p := ⟨gb307, 2, none⟩) (Kd.R_far (p := ⟨gb307, 1, none⟩) (Kd.R_far (p := ⟨gb307, 0, none⟩) (Kd.R_types HO289.out BK307.out (by decide)) (fun _ hk => by simp [hk]) (.slice Ao31 t300.length co31)) (fun _ hk => by simp [hk]) (.slice Ao35 t303.length co35)) (fun _ hk => by simp [hk]) (.int .i64 t306)) (fun _ h_ => h_.1))) hb) (re ho0)) (re ho1)) (fun _ h_ => h_.1)); have n2_ := am (rm (ro (ro (rl (by (with_reducible repeat (first | apply ra | apply rn | apply rd)); exact (rm (Kd.R_far (p := ⟨gb307, 2, none⟩) (Kd.R_far (p := ⟨gb307, 1, none⟩) (Kd.R_far (p := ⟨gb307, 0, none⟩) (Kd.R_types HO293.out BK307.out (by decide)) (fun _ hk => by simp [hk]) (.slice Ao31 t300.length co31)) (fun _ hk => by simp [hk]) (.slice Ao35 t303.length co35)) (fun _ hk => by simp [hk]) (.int .i64 t306)) (fun _ h_ => h_.1))) hb) (re ho0)) (re ho1)) (fun _ h_ => h_.1)); have n3_ := am (rm (ro (ro (rl (by (with_reducible repeat (first | apply ra | apply rn | apply rd)); exact (rm (Kd.R_far (p := ⟨gb307, 2, none⟩) (Kd.R_far (p := ⟨gb307, 1, none⟩) (Kd.R_far (p := ⟨gb307, 0, none⟩) (Kd.R_types HO296.out BK307.out (by decide)) (fun _ hk => by simp [hk]) (.slice Ao31 t300.length co31)) (fun _ hk => by simp [hk]) (.slice Ao35 t303.length co35)) (fun _ hk => by simp [hk]) (.int .i64 t306)) (fun _ h_ => h_.1))) hb) (re ho0)) (re ho1)) (fun _ h_ => h_.1)); have n4_ := am (rm (ro (ro (rl (by (with_reducible repeat (first | apply ra | apply rn | apply rd)); exact (rm (Kd.R_far (p := ⟨gb307, 2, none⟩) (Kd.R_far (p := ⟨gb307, 1, none⟩) (Kd.R_far (p := ⟨gb307, 0, none⟩) (Kd.R_types HO302.out BK307.out (by decide)) (fun _ hk => by simp [hk]) (.slice Ao31 t300.length co31)) (fun _ hk => by simp [hk]) (.slice Ao35 t303.length co35)) (fun _ hk => by simp [hk]) (.int .i64 t306)) (fun _ h_ => h_.1))) hb) (re ho0)) (re ho1)) (fun _ h_ => h_.1)); have n5_ := am (rm (ro (ro (rl (by (with_reducible repeat (first | apply ra | apply rn | apply rd)); exact (rm (Kd.R_far (p := ⟨gb307, 2, none⟩) (Kd.R_far (p := ⟨gb307, 1, none⟩) (Kd.R_far (p := ⟨gb307, 0, none⟩) (Kd.R_types HO305.out BK307.out (by decide)) (fun _ hk => by simp [hk]) (.slice Ao31 t300.length co31)) (fun _ hk => by simp [hk]) (.slice Ao35 t303.length co35)) (fun _ hk => by simp [hk]) (.int .i64 t306)) (fun _ h_ => h_.1))) hb) (re ho0)) (re ho1)) (fun _ h_ => h_.1)); have n6_ := am (Kd.R_lower (Kd.R_new' (Kd.R_new' (Kd.R_new' (Kd.R_new' (Kd.R_new' (Kd.R_new' ho0 (Kd.R_lt (by (with_reducible repeat (first | apply ra | apply rn | apply rd)); exact (rm (Kd.R_far (p := ⟨gb307, 2, none⟩) (Kd.R_far (p := ⟨gb307, 1, none⟩) (Kd.R_far (p := ⟨gb307, 0, none⟩) (Kd.R_types HO286.out BK307.out (by decide)) (fun _ hk => by simp [hk]) (.slice Ao31 t300.length co31)) (fun _ hk => by simp [hk]) (.slice Ao35 t303.length co35)) (fun _ hk => by simp [hk]) (.int .i64 t306)) (fun _ h_ => h_.1))))) (Kd.R_lt (by (with_reducible repeat (first | apply ra | apply rn | apply rd)); exact (rm (Kd.R_far (p := ⟨gb307, 2, none⟩) (Kd.R_far (p := ⟨gb307, 1, none⟩) (Kd.R_far (p := ⟨gb307, 0, none⟩) (Kd.R_types HO289.out BK307.out (by decide)) (fun _ hk => by simp [hk]) (.slice Ao31 t300.length co31)) (fun _ hk => by simp [hk]) (.slice Ao35 t303.length co35)) (fun _ hk => by simp [hk]) (.int .i64 t306)) (fun _ h_ => h_.1))))) (Kd.R_lt (by (with_reducible repeat (first | apply ra | apply rn | apply rd)); exact (rm (Kd.R_far (p := ⟨gb307, 2, none⟩) (Kd.R_far (p := ⟨gb307, 1, none⟩) (Kd.R_far (p := ⟨gb307, 0, none⟩) (Kd.R_types HO293.out BK307.out (by decide)) (fun _ hk => by simp [hk]) (.slice Ao31 t300.length co31)) (fun _ hk => by simp [hk]) (.slice Ao35 t303.length co35)) (fun _ hk => by simp [hk]) (.int .i64 t306)) (fun _ h_ => h_.1))))) (Kd.R_lt (by (with_reducible repeat (first | apply ra | apply rn | apply rd)); exact (rm (Kd.R_far (p := ⟨gb307, 2, none⟩) (Kd.R_far (p := ⟨gb307, 1, none⟩) (Kd.R_far (p := ⟨gb307, 0, none⟩) (Kd.R_types HO296.out BK307.out (by decide)) (fun _ hk => by simp [hk]) (.slice Ao31 t300.length co31)) (fun _ hk => by simp [hk]) (.slice Ao35 t303.length co35)) (fun _ hk => by simp [hk]) (.int .i64 t306)) (fun _ h_ => h_.1))))) (Kd.R_lt (by (with_reducible repeat (first | apply ra | apply rn | apply rd)); exact (rm (Kd.R_far (p := ⟨gb307, 2, none⟩) (Kd.R_far (p := ⟨gb307, 1, none⟩) (Kd.R_far (p := ⟨gb307, 0, none⟩) (Kd.R_types HO302.out BK307.out (by decide)) (fun _ hk => by simp [hk]) (.slice Ao31 t300.length co31)) (fun _ hk => by simp [hk]) (.slice Ao35 t303.length co35)) (fun _ hk => by simp [hk]) (.int .i64 t306)) (fun _ h_ => h_.1))))) (Kd.R_lt (by (with_reducible repeat (first | apply ra | apply rn | apply rd)); exact (rm (Kd.R_far (p := ⟨gb307, 2, none⟩) (Kd.R_far (p := ⟨gb307, 1, none⟩) (Kd.R_far (p := ⟨gb307, 0, none⟩) (Kd.R_types HO305.out BK307.out (by decide)) (fun _ hk => by simp [hk]) (.slice Ao31 t300.length co31)) (fun _ hk => by simp [hk]) (.slice Ao35 t303.length co35)) (fun _ hk => by simp [hk]) (.int .i64 t306)) (fun _ h_ => h_.1))))) (below_size (by repeat (first | (with_reducible first | exact HB.out | apply wa | apply wn | apply wd | refine ws ?_ GE282.out | refine ws ?_ GE299.out | refine ws ?_ GE307.out) | exact HB.out)))); have n7_ := am (Kd.R_lower (Kd.R_new' (Kd.R_new' (Kd.R_new' (Kd.R_new' (Kd.R_new' (Kd.R_new' ho1 (Kd.R_lt (by (with_reducible repeat (first | apply ra | apply rn | apply rd)); exact (rm (Kd.R_far (p := ⟨gb307, 2, none⟩) (Kd.R_far (p := ⟨gb307, 1, none⟩) (Kd.R_far (p := ⟨gb307, 0, none⟩) (Kd.R_types HO286.out BK307.out (by decide)) (fun _ hk => by simp [hk]) (.slice Ao31 t300.length co31)) (fun _ hk => by simp [hk]) (.slice Ao35 t303.length co35)) (fun _ hk => by simp [hk]) (.int .i64 t306)) (fun _ h_ => h_.1))))) (Kd.R_lt (by (with_reducible repeat (first | apply ra | apply rn | apply rd)); exact (rm (Kd.R_far (p := ⟨gb307, 2, none⟩) (Kd.R_far (p := ⟨gb307, 1, none⟩) (Kd.R_far (p := ⟨gb307, 0, none⟩) (Kd.R_types HO289.out BK307.out (by decide)) (fun _ hk => by simp [hk]) (.slice Ao31 t300.length co31)) (fun _ hk => by simp [hk]) (.slice Ao35 t303.length co35)) (fun _ hk => by simp [hk]) (.int .i64 t306)) (fun _ h_ => h_.1))))) (Kd.R_lt (by (with_reducible repeat (first | apply ra | apply rn | apply rd)); exact (rm (Kd.R_far (p := ⟨gb307, 2, none⟩) (Kd.R_far (p := ⟨gb307, 1, none⟩) (Kd.R_far (p := ⟨gb307, 0, none⟩) (Kd.R_types HO293.out BK307.out (by decide)) (fun _ hk => by simp [hk]) (.slice Ao31 t300.length co31)) (fun _ hk => by simp [hk]) (.slice Ao35 t303.length co35)) (fun _ hk => by simp [hk]) (.int .i64 t306)) (fun _ h_ => h_.1))))) (Kd.R_lt (by (with_reducible repeat (first | apply ra | apply rn | apply rd)); exact (rm (Kd.R_far (p := ⟨gb307, 2, none⟩) (Kd.R_far (p := ⟨gb307, 1, none⟩) (Kd.R_far (p := ⟨gb307, 0, none⟩) (Kd.R_types HO296.out BK307.out (by decide)) (fun _ hk => by simp [hk]) (.slice Ao31 t300.length co31)) (fun _ hk => by simp [hk]) (.slice Ao35 t303.length co35)) (fun _ hk => by simp [hk]) (.int .i64 t306)) (fun _ h_ => h_.1))))) (Kd.R_lt (by (with_reducible repeat (first | apply ra | apply rn | apply rd)); exact (rm (Kd.R_far (p := ⟨gb307, 2, none⟩) (Kd.R_far (p := ⟨gb307, 1, none⟩) (Kd.R_far (p := ⟨gb307, 0, none⟩) (Kd.R_types HO302.out BK307.out (by decide)) (fun _ hk => by simp [hk]) (.slice Ao31 t300.length co31)) (fun _ hk => by simp [hk]) (.slice Ao35 t303.length co35)) (fun _ hk => by simp [hk]) (.int .i64 t306)) (fun _ h_ => h_.1))))) (Kd.R_lt (by (with_reducible repeat (first | apply ra | apply rn | apply rd)); exact (rm (Kd.R_far (p := ⟨gb307, 2, none⟩) (Kd.R_far (p := ⟨gb307, 1, none⟩) (Kd.R_far (p := ⟨gb307, 0, none⟩) (Kd.R_types HO305.out BK307.out (by decide)) (fun _ hk => by simp [hk]) (.slice Ao31 t300.length co31)) (fun _ hk => by simp [hk]) (.slice Ao35 t303.length co35)) (fun _ hk => by simp [hk]) (.int .i64 t306)) (fun _ h_ => h_.1))))) (below_size (by repeat (first | (with_reducible first | exact HB.out | apply wa | apply wn | apply wd | refine ws ?_ GE282.out | refine ws ?_ GE299.out | refine ws ?_ GE307.out) | exact HB.out)))); have n8_ := am (bb (g := gb282) (o := .cells #[.slice A0_0 l0_0.length c0_0, .slice A0_1 l0_1.length c0_1, .int .i64 a0_2] 42 (0, 0)) (by (with_reducible repeat (first | refine bn ?_ _ | refine bd ?_ | refine ba ?_ _)); refine blk_far ?_ NB282_307.out _; (with_reducible repeat (first | refine bn ?_ _ | refine bd ?_ | refine ba ?_ _)); refine blk_far ?_ NB282_307.out _; (with_reducible repeat (first | refine bn ?_ _ | refine bd ?_ | refine ba ?_ _)); refine blk_far ?_ NB282_307.out _; (with_reducible repeat (first | refine bn ?_ _ | refine bd ?_ | refine ba ?_ _)); exact BK282.out) hb); have n9_ := am (bb (g := gb299) (o := .cells #[.slice Ao24 t291.length co24, .slice Ao27 t294.length co27, .int .i64 t297] 26 (0, 0)) (by (with_reducible repeat (first | refine bn ?_ _ | refine bd ?_ | refine ba ?_ _)); refine blk_far ?_ NB299_307.out _; (with_reducible repeat (first | refine bn ?_ _ | refine bd ?_ | refine ba ?_ _)); refine blk_far ?_ NB299_307.out _; (with_reducible repeat (first | refine bn ?_ _ | refine bd ?_ | refine ba ?_ _)); refine blk_far ?_ NB299_307.out _; (with_reducible repeat (first | refine bn ?_ _ | refine bd ?_ | refine ba ?_ _)); exact BK299.out) hb); have n10_ := am (bb (g := gb307) (o := .cells #[.slice Ao31 t300.length co31, .slice Ao35 t303.length co35, .int .i64 t306] 26 (0, 0)) (by (with_reducible repeat (first | refine bn ?_ _ | refine bd ?_ | refine ba ?_ _)); refine blk_put (cs := #[.slice Ao31 t300.length co31, .slice Ao35 t303.length co35, .int .i64 0]) ?_ 2 _ rfl; (with_reducible repeat (first | refine bn ?_ _ | refine bd ?_ | refine ba ?_ _)); refine blk_put (cs := #[.slice Ao31 t300.length co31, .slice none 0 0, .int .i64 0]) ?_ 1 _ rfl; (with_reducible repeat (first | refine bn ?_ _ | refine bd ?_ | refine ba ?_ _)); refine blk_put (cs := #[.slice none 0 0, .slice none 0 0, .int .i64 0]) ?_ 0 _ rfl; (with_reducible repeat (first | refine bn ?_ _ | refine bd ?_ | refine ba ?_ _)); exact BK307.out) hb); have n11_ := am (bs (by repeat (first | (with_reducible first | exact HB.out | apply wa | apply wn | apply wd | refine ws ?_ GE282.out | refine ws ?_ GE299.out | refine ws ?_ GE307.out) | exact HB.out)) hb); clear HO286; clear HO289; clear HO293; clear HO296; clear HO302; clear HO305; clear BK282; clear BK299; clear BK307; clear HB; have HO286 := n0_; have HO289 := n1_; have HO293 := n2_; have HO296 := n3_; have HO302 := n4_; have HO305 := n5_; have HO310 := n6_; have HO313 := n7_; have BK282 := n8_; have BK299 := n9_; have BK307 := n10_; have HB := n11_; clear n0_ n1_ n2_ n3_ n4_ n5_ n6_ n7_ n8_ n9_ n10_ n11_; (try clear hb); (try clear hb2); (try clear hk); (try clear hi); (try clear ho0); (try clear ho1)) | ((with_reducible refine gate_dst (N := 9) rfl ?_); refine box_event ?hg (N := 9) ?hd (cs := #[.slice none 0 0, .slice none 0 0, .int .i64 0]) (t := 26) ?hr ?_; (case hd => rfl); (case hg => rfl); (case hr => first | (go_simp; done) | (go_simp; rfl)); intro gb316 hg w37 hbox hb; have n0_ := am (rb (by (with_reducible repeat (first | apply ra | apply rn | apply rd)); exact HO286.out) hb); have n1_ := am (rb (by (with_reducible repeat (first | apply ra | apply rn | apply rd)); exact HO289.out) hb); have n2_ := am (rb (by (with_reducible repeat (first | apply ra | apply rn | apply rd)); exact HO293.out) hb); have n3_ := am (rb (by (with_reducible repeat (first | apply ra | apply rn | apply rd)); exact HO296.out) hb); have n4_ := am (rb (by (with_reducible repeat (first | apply ra | apply rn | apply rd)); exact HO302.out) hb); have n5_ := am (rb (by (with_reducible repeat (first | apply ra | apply rn | apply rd)); exact HO305.out) hb); have n6_ := am (rb (by (with_reducible repeat (first | apply ra | apply rn | apply rd)); exact HO310.out) hb); have n7_ := am (rb (by (with_reducible repeat (first | apply ra | apply rn | apply rd)); exact HO313.out) hb); have n8_ := am (bb (g := gb282) (o := .cells #[.slice A0_0 l0_0.length c0_0, .slice A0_1 l0_1.length c0_1, .int .i64 a0_2] 42 (0, 0)) (by (with_reducible repeat (first | refine bn ?_ _ | refine bd ?_ | refine ba ?_ _)); exact BK282.out) hb); have n9_ := am (bb (g := gb299) (o := .cells #[.slice Ao24 t291.length co24, .slice Ao27 t294.length co27, .int .i64 t297] 26 (0, 0)) (by (with_reducible repeat (first | refine bn ?_ _ | refine bd ?_ | refine ba ?_ _)); exact BK299.out) hb); have n10_ := am (bb (g := gb307) (o := .cells #[.slice Ao31 t300.length co31, .slice Ao35 t303.length co35, .int .i64 t306] 26 (0, 0)) (by (with_reducible repeat (first | refine bn ?_ _ | refine bd ?_ | refine ba ?_ _)); exact BK307.out) hb); have n11_ := am (bs (by repeat (first | (with_reducible first | exact HB.out | apply wa | apply wn | apply wd | refine ws ?_ GE282.out | refine ws ?_ GE299.out | refine ws ?_ GE307.out) | exact HB.out)) hb); have n12_ := am (hbox); have n13_ := am ((by rw [hg]; exact (below_size (by repeat (first | (with_reducible first | exact HB.out | apply wa | apply wn | apply wd | refine ws ?_ GE282.out | refine ws ?_ GE299.out | refine ws ?_ GE307.out) | exact HB.out))) : w.heap.size ≤ gb316)); have n14_ := am ((by rw [hg]; exact (below_size (by repeat (first | (with_reducible first | exact HB.out | apply wa | apply wn | apply wd | refine ws ?_ GE282.out | refine ws ?_ GE299.out | refine ws ?_ GE307.out) | exact HB.out))) : w.heap.size ≤ gb316)); have n15_ := am ((by rw [hg]; exact Nat.ne_of_lt (blk_lt (g := gb282) (o := .cells #[.slice A0_0 l0_0.length c0_0, .slice A0_1 l0_1.length c0_1, .int .i64 a0_2] 42 (0, 0)) (by (with_reducible repeat (first | refine bn ?_ _ | refine bd ?_ | refine ba ?_ _)); exact BK282.out)) : gb282 ≠ gb316)); have n16_ := am ((by rw [hg]; exact Nat.ne_of_gt (blk_lt (g := gb282) (o := .cells #[.slice A0_0 l0_0.length c0_0, .slice A0_1 l0_1.length c0_1, .int .i64 a0_2] 42 (0, 0)) (by (with_reducible repeat (first | refine bn ?_ _ | refine bd ?_ | refine ba ?_ _)); exact BK282.out)) : gb316 ≠ gb282)); have n17_ := am ((by rw [hg]; exact Nat.ne_of_lt (blk_lt (g := gb299) (o := .cells #[.slice Ao24 t291.length co24, .slice Ao27 t294.length co27, .int .i64 t297] 26 (0, 0)) (by (with_reducible repeat (first | refine bn ?_ _ | refine bd ?_ | refine ba ?_ _)); exact BK299.out)) : gb299 ≠ gb316)); have n18_ := am ((by rw [hg]; exact Nat.ne_of_gt (blk_lt (g := gb299) (o := .cells #[.slice Ao24 t291.length co24, .slice Ao27 t294.length co27, .int .i64 t297] 26 (0, 0)) (by (with_reducible repeat (first | refine bn ?_ _ | refine bd ?_ | refine ba ?_ _)); exact BK299.out)) : gb316 ≠ gb299)); have n19_ := am ((by rw [hg]; exact Nat.ne_of_lt (blk_lt (g := gb307) (o := .cells #[.slice Ao31 t300.length co31, .slice Ao35 t303.length co35, .int .i64 t306] 26 (0, 0)) (by (with_reducible repeat (first | refine bn ?_ _ | refine bd ?_ | refine ba ?_ _)); exact BK307.out)) : gb307 ≠ gb316)); have n20_ := am ((by rw [hg]; exact Nat.ne_of_gt (blk_lt (g := gb307) (o := .cells #[.slice Ao31 t300.length co31, .slice Ao35 t303.length co35, .int .i64 t306] 26 (0, 0)) (by (with_reducible repeat (first | refine bn ?_ _ | refine bd ?_ | refine ba ?_ _)); exact BK307.out)) : gb316 ≠ gb307)); clear HO286; clear HO289; clear HO293; clear HO296; clear HO302; clear HO305; clear HO310; clear HO313; clear BK282; clear BK299; clear BK307; clear HB; have HO286 := n0_; have HO289 := n1_; have HO293 := n2_; have HO296 := n3_; have HO302 := n4_; have HO305 := n5_; have HO310 := n6_; have HO313 := n7_; have BK282 := n8_; have BK299 := n9_; have BK307 := n10_; have HB := n11_; have BK316 := n12_; have GW316 := n13_; have GE316 := n14_; have NB282_316 := n15_; have NB316_282 := n16_; have NB299_316 := n17_; have NB316_299 := n18_; have NB307_316 := n19_; have NB316_307 := n20_; clear n0_ n1_ n2_ n3_ n4_ n5_ n6_ n7_ n8_ n9_ n10_ n11_ n12_ n13_ n14_ n15_ n16_ n17_ n18_ n19_ n20_; clear hb hbox hg; obtain ⟨Ao38, co38, eo38⟩ := Kd.R_slice HO310.out; subst eo38; have hnb39 := NB316_282.out; have hnc39 := NB282_316.out; have hnb40 := NB316_299.out; have hnc40 := NB299_316.out; have hnb41 := NB316_307.out; have hnc41 := NB307_316.out; have hcz42_0 : w37.cell? ⟨gb316, 0, none⟩ = some (.slice none 0 0) := (blk_cell BK316.out 0).trans rfl; have hcz42_1 : w37.cell? ⟨gb316, 1, none⟩ = some (.slice none 0 0) := (blk_cell BK316.out 1).trans rfl; have hcz42_2 : w37.cell? ⟨gb316, 2, none⟩ = some (.int .i64 0) := (blk_cell BK316.out 2).trans rfl; have hfz42_0 := blk_frozen BK316.out 0; have hfz42_1 := blk_frozen BK316.out 1; have hfz42_2 := blk_frozen BK316.out 2; obtain ⟨Ao43, co43, eo43⟩ := Kd.R_slice HO313.out; subst eo43))
   (try simp only [Act.put, List.setIfInBounds_toArray, List.set_cons_zero, List.set_cons_succ])
   go_cut [47] (fun v47 wc => ∃ (kq : Nat) (x47_13 : Bool), v47 = .bool x47_13 ∧ Aside0 (laws_FnExactTakeKey.j0 kq a1 t298 t315 x47_13 l0_0 l0_1 a0_2 t291 t294 t297 t300 t303 t306 t308 t311 t314 = some r) ∧ Aside0 (kq ≤ k) ∧ Aside0 (Kd.R k57 57 wc w.heap.size (fun k_ => some k_ ≠ ((.slice Ao27 t294.length co27) : Value).ownBlock ∧ some k_ ≠ ((.slice Ao31 t300.length co31) : Value).ownBlock ∧ some k_ ≠ ((.slice Ao35 t303.length co35) : Value).ownBlock ∧ some k_ ≠ ((.slice Ao38 t308.length co38) : Value).ownBlock ∧ some k_ ≠ ((.slice Ao43 t311.length co43) : Value).ownBlock) (.slice Ao24 t291.length co24) t291) ∧ Aside0 (Kd.R k57 57 wc w.heap.size (fun k_ => some k_ ≠ ((.slice Ao24 t291.length co24) : Value).ownBlock ∧ some k_ ≠ ((.slice Ao31 t300.length co31) : Value).ownBlock ∧ some k_ ≠ ((.slice Ao35 t303.length co35) : Value).ownBlock ∧ some k_ ≠ ((.slice Ao38 t308.length co38) : Value).ownBlock ∧ some k_ ≠ ((.slice Ao43 t311.length co43) : Value).ownBlock) (.slice Ao27 t294.length co27) t294) ∧ Aside0 (Kd.R k57 57 wc w.heap.size (fun k_ => some k_ ≠ ((.slice Ao24 t291.length co24) : Value).ownBlock ∧ some k_ ≠ ((.slice Ao27 t294.length co27) : Value).ownBlock ∧ some k_ ≠ ((.slice Ao35 t303.length co35) : Value).ownBlock ∧ some k_ ≠ ((.slice Ao38 t308.length co38) : Value).ownBlock ∧ some k_ ≠ ((.slice Ao43 t311.length co43) : Value).ownBlock) (.slice Ao31 t300.length co31) t300) ∧ Aside0 (Kd.R k57 57 wc w.heap.size (fun k_ => some k_ ≠ ((.slice Ao24 t291.length co24) : Value).ownBlock ∧ some k_ ≠ ((.slice Ao27 t294.length co27) : Value).ownBlock ∧ some k_ ≠ ((.slice Ao31 t300.length co31) : Value).ownBlock ∧ some k_ ≠ ((.slice Ao38 t308.length co38) : Value).ownBlock ∧ some k_ ≠ ((.slice Ao43 t311.length co43) : Value).ownBlock) (.slice Ao35 t303.length co35) t303) ∧ Aside0 (Kd.R k57 57 wc w.heap.size (fun k_ => some k_ ≠ ((.slice Ao24 t291.length co24) : Value).ownBlock ∧ some k_ ≠ ((.slice Ao27 t294.length co27) : Value).ownBlock ∧ some k_ ≠ ((.slice Ao31 t300.length co31) : Value).ownBlock ∧ some k_ ≠ ((.slice Ao35 t303.length co35) : Value).ownBlock ∧ some k_ ≠ ((.slice Ao43 t311.length co43) : Value).ownBlock) (.slice Ao38 t308.length co38) t308) ∧ Aside0 (Kd.R k57 57 wc w.heap.size (fun k_ => some k_ ≠ ((.slice Ao24 t291.length co24) : Value).ownBlock ∧ some k_ ≠ ((.slice Ao27 t294.length co27) : Value).ownBlock ∧ some k_ ≠ ((.slice Ao31 t300.length co31) : Value).ownBlock ∧ some k_ ≠ ((.slice Ao35 t303.length co35) : Value).ownBlock ∧ some k_ ≠ ((.slice Ao38 t308.length co38) : Value).ownBlock) (.slice Ao43 t311.length co43) t311) ∧ Aside0 (wc.heap[gb282]? = some (.cells #[(.slice A0_0 l0_0.length c0_0), (.slice A0_1 l0_1.length c0_1), .int .i64 a0_2] 42 (0, 0))) ∧ Aside0 (wc.heap[gb299]? = some (.cells #[(.slice Ao24 t291.length co24), (.slice Ao27 t294.length co27), .int .i64 t297] 26 (0, 0))) ∧ Aside0 (wc.heap[gb307]? = some (.cells #[(.slice Ao31 t300.length co31), (.slice Ao35 t303.length co35), .int .i64 t306] 26 (0, 0))) ∧ Aside0 (wc.heap[gb316]? = some (.cells #[(.slice Ao38 t308.length co38), (.slice Ao43 t311.length co43), .int .i64 t314] 26 (0, 0))) ∧ Aside0 (Below w.heap.size w wc))
   case first =>
    have H := HC14.out
    clear HC14
    replace H := Option.bind_eq_some_iff.mp H
    obtain ⟨t317, A440, H⟩ := H
    replace H : (if t317 = true then (laws_FnExactTakeKey.j0 k a1 t298 t315 (t315 != t298) l0_0 l0_1 a0_2 t291 t294 t297 t300 t303 t306 t308 t311 t314) else (laws_FnExactTakeKey.j0 k a1 t298 t315 true l0_0 l0_1 a0_2 t291 t294 t297 t300 t303 t306 t308 t311 t314)) = some r := H
    have A44 := am A440
    clear A440
    by_cases c45 : t317 = true
    ·subst c45
     have H1 : (laws_FnExactTakeKey.j0 k a1 t298 t315 (t315 != t298) l0_0 l0_1 a0_2 t291 t294 t297 t300 t303 t306 t308 t311 t314) = some r := by rw [if_pos rfl] at H; exact H
     clear H
     have H := H1
     clear H1
     have H' := am H
     clear H
     have hnb46 := NB316_282.out
     have hnc46 := NB282_316.out
     have hnb47 := NB316_299.out
     have hnc47 := NB299_316.out
     have hnb48 := NB316_307.out
     have hnc48 := NB307_316.out
     have hcz49_0 : w37.cell? ⟨gb316, 0, none⟩ = some (.slice none 0 0) := (blk_cell BK316.out 0).trans rfl
     have hcz49_1 : w37.cell? ⟨gb316, 1, none⟩ = some (.slice none 0 0) := (blk_cell BK316.out 1).trans rfl
     have hcz49_2 : w37.cell? ⟨gb316, 2, none⟩ = some (.int .i64 0) := (blk_cell BK316.out 2).trans rfl
     have hfz49_0 := blk_frozen BK316.out 0
     have hfz49_1 := blk_frozen BK316.out 1
     have hfz49_2 := blk_frozen BK316.out 2
     have hnb50 := NB299_282.out
     have hnc50 := NB282_299.out
     have hnb51 := NB299_307.out
     have hnc51 := NB307_299.out
     have hcz52_0 : w37.cell? ⟨gb299, 0, none⟩ = some (.slice Ao24 t291.length co24) := (blk_cell BK299.out 0).trans rfl
     have hcz52_1 : w37.cell? ⟨gb299, 1, none⟩ = some (.slice Ao27 t294.length co27) := (blk_cell BK299.out 1).trans rfl
     have hcz52_2 : w37.cell? ⟨gb299, 2, none⟩ = some (.int .i64 t297) := (blk_cell BK299.out 2).trans rfl
     have hfz52_0 := blk_frozen BK299.out 0
     have hfz52_1 := blk_frozen BK299.out 1
     have hfz52_2 := blk_frozen BK299.out 2
     go_wp2_with (first | ((with_reducible refine gate_callee (f := 27) rfl ?_); refine goesL_ (some 41) rfl rfl Try.func27 (by kernel_rfl) rfl #[.agg #[.slice Ao38 t308.length co38, .slice Ao43 t311.length co43, .int .i64 t314], .agg #[.slice Ao24 t291.length co24, .slice Ao27 t294.length co27, .int .i64 t297]] rfl (by (try simp only [List.map_toArray, List.map_cons, List.map_nil]); first | done | rfl | (simp only [List.length_drop, List.length_take]; rfl)) ?_; (with_reducible refine (laws_eqTable.calls k _ _ t308 _ _ t311 t314 _ _ t291 _ _ t294 t297 true _ ?side1 ?side2 ?side3 ?side4 ?side5 ?side6 ?side7 ?side8 A44.out).mono ?_); (case side1 => refine (rr (e := 57) (base := w.heap.size) (ok := fun k_ => ((((((some k_ ≠ (.slice Ao43 t311.length co43 : Value).ownBlock ∧ some k_ ≠ (.slice Ao20 t284.length co20 : Value).ownBlock) ∧ some k_ ≠ (.slice Ao21 t287.length co21 : Value).ownBlock) ∧ some k_ ≠ (.slice Ao24 t291.length co24 : Value).ownBlock) ∧ some k_ ≠ (.slice Ao27 t294.length co27 : Value).ownBlock) ∧ some k_ ≠ (.slice Ao31 t300.length co31 : Value).ownBlock) ∧ some k_ ≠ (.slice Ao35 t303.length co35 : Value).ownBlock)) (n := t308.length) (c := co38) ?_).2.2; exact (by (with_reducible repeat (first | apply ra | apply rn | apply rd)); exact (rm (Kd.R_far (p := ⟨gb316, 2, none⟩) (Kd.R_far (p := ⟨gb316, 1, none⟩) (Kd.R_far (p := ⟨gb316, 0, none⟩) (Kd.R_types HO310.out BK316.out (by decide)) (fun _ hk => by simp [hk]) (.slice Ao38 t308.length co38)) (fun _ hk => by simp [hk]) (.slice Ao43 t311.length co43)) (fun _ hk => by simp [hk]) (.int .i64 t314)) (fun _ h_ => h_.1)))); (case side2 => exact (rr HO310.out).2.1); (case side3 => refine (rr (e := 57) (base := w.heap.size) (ok := fun k_ => ((((((some k_ ≠ (.slice Ao38 t308.length co38 : Value).ownBlock ∧ some k_ ≠ (.slice Ao20 t284.length co20 : Value).ownBlock) ∧ some k_ ≠ (.slice Ao21 t287.length co21 : Value).ownBlock) ∧ some k_ ≠ (.slice Ao24 t291.length co24 : Value).ownBlock) ∧ some k_ ≠ (.slice Ao27 t294.length co27 : Value).ownBlock) ∧ some k_ ≠ (.slice Ao31 t300.length co31 : Value).ownBlock) ∧ some k_ ≠ (.slice Ao35 t303.length co35 : Value).ownBlock)) (n := t311.length) (c := co43) ?_).2.2; exact (by (with_reducible repeat (first | apply ra | apply rn | apply rd)); exact (rm (Kd.R_far (p := ⟨gb316, 2, none⟩) (Kd.R_far (p := ⟨gb316, 1, none⟩) (Kd.R_far (p := ⟨gb316, 0, none⟩) (Kd.R_types HO313.out BK316.out (by decide)) (fun _ hk => by simp [hk]) (.slice Ao38 t308.length co38)) (fun _ hk => by simp [hk]) (.slice Ao43 t311.length co43)) (fun _ hk => by simp [hk]) (.int .i64 t314)) (fun _ h_ => h_.1)))); (case side4 => exact (rr HO313.out).2.1); (case side5 => refine (rr (e := 57) (base := w.heap.size) (ok := fun k_ => ((((((some k_ ≠ (.slice Ao27 t294.length co27 : Value).ownBlock ∧ some k_ ≠ (.slice Ao20 t284.length co20 : Value).ownBlock) ∧ some k_ ≠ (.slice Ao21 t287.length co21 : Value).ownBlock) ∧ some k_ ≠ (.slice Ao31 t300.length co31 : Value).ownBlock) ∧ some k_ ≠ (.slice Ao35 t303.length co35 : Value).ownBlock) ∧ some k_ ≠ (.slice Ao38 t308.length co38 : Value).ownBlock) ∧ some k_ ≠ (.slice Ao43 t311.length co43 : Value).ownBlock)) (n := t291.length) (c := co24) ?_).2.2; exact (by (with_reducible repeat (first | apply ra | apply rn | apply rd)); exact (rm (Kd.R_far (p := ⟨gb316, 2, none⟩) (Kd.R_far (p := ⟨gb316, 1, none⟩) (Kd.R_far (p := ⟨gb316, 0, none⟩) (Kd.R_types HO293.out BK316.out (by decide)) (fun _ hk => by simp [hk]) (.slice Ao38 t308.length co38)) (fun _ hk => by simp [hk]) (.slice Ao43 t311.length co43)) (fun _ hk => by simp [hk]) (.int .i64 t314)) (fun _ h_ => h_.1)))); (case side6 => exact (rr HO293.out).2.1); (case side7 => refine (rr (e := 57) (base := w.heap.size) (ok := fun k_ => ((((((some k_ ≠ (.slice Ao24 t291.length co24 : Value).ownBlock ∧ some k_ ≠ (.slice Ao20 t284.length co20 : Value).ownBlock) ∧ some k_ ≠ (.slice Ao21 t287.length co21 : Value).ownBlock) ∧ some k_ ≠ (.slice Ao31 t300.length co31 : Value).ownBlock) ∧ some k_ ≠ (.slice Ao35 t303.length co35 : Value).ownBlock) ∧ some k_ ≠ (.slice Ao38 t308.length co38 : Value).ownBlock) ∧ some k_ ≠ (.slice Ao43 t311.length co43 : Value).ownBlock)) (n := t294.length) (c := co27) ?_).2.2; exact (by (with_reducible repeat (first | apply ra | apply rn | apply rd)); exact (rm (Kd.R_far (p := ⟨gb316, 2, none⟩) (Kd.R_far (p := ⟨gb316, 1, none⟩) (Kd.R_far (p := ⟨gb316, 0, none⟩) (Kd.R_types HO296.out BK316.out (by decide)) (fun _ hk => by simp [hk]) (.slice Ao38 t308.length co38)) (fun _ hk => by simp [hk]) (.slice Ao43 t311.length co43)) (fun _ hk => by simp [hk]) (.int .i64 t314)) (fun _ h_ => h_.1)))); (case side8 => exact (rr HO296.out).2.1); rintro e w53 ⟨rfl, hb⟩; refine ⟨_, rfl, ?_⟩; have n0_ := am (rb (by (with_reducible repeat (first | apply ra | apply rn | apply rd)); exact (rm (Kd.R_far (p := ⟨gb316, 2, none⟩) (Kd.R_far (p := ⟨gb316, 1, none⟩) (Kd.R_far (p := ⟨gb316, 0, none⟩) (Kd.R_types HO286.out BK316.out (by decide)) (fun _ hk => by simp [hk]) (.slice Ao38 t308.length co38)) (fun _ hk => by simp [hk]) (.slice Ao43 t311.length co43)) (fun _ hk => by simp [hk]) (.int .i64 t314)) (fun _ h_ => h_.1))) hb); have n1_ := am (rb (by (with_reducible repeat (first | apply ra | apply rn | apply rd)); exact (rm (Kd.R_far (p := ⟨gb316, 2, none⟩) (Kd.R_far (p := ⟨gb316, 1, none⟩) (Kd.R_far (p := ⟨gb316, 0, none⟩) (Kd.R_types HO289.out BK316.out (by decide)) (fun _ hk => by simp [hk]) (.slice Ao38 t308.length co38)) (fun _ hk => by simp [hk]) (.slice Ao43 t311.length co43)) (fun _ hk => by simp [hk]) (.int .i64 t314)) (fun _ h_ => h_.1))) hb); have n2_ := am (rb (by (with_reducible repeat (first | apply ra | apply rn | apply rd)); exact (rm (Kd.R_far (p := ⟨gb316, 2, none⟩) (Kd.R_far (p := ⟨gb316, 1, none⟩) (Kd.R_far (p := ⟨gb316, 0, none⟩) (Kd.R_types HO293.out BK316.out (by decide)) (fun _ hk => by simp [hk]) (.slice Ao38 t308.length co38)) (fun _ hk => by simp [hk]) (.slice Ao43 t311.length co43)) (fun _ hk => by simp [hk]) (.int .i64 t314)) (fun _ h_ => h_.1))) hb); have n3_ := am (rb (by (with_reducible repeat (first | apply ra | apply rn | apply rd)); exact (rm (Kd.R_far (p := ⟨gb316, 2, none⟩) (Kd.R_far (p := ⟨gb316, 1, none⟩) (Kd.R_far (p := ⟨gb316, 0, none⟩) (Kd.R_types HO296.out BK316.out (by decide)) (fun _ hk => by simp [hk]) (.slice Ao38 t308.length co38)) (fun _ hk => by simp [hk]) (.slice Ao43 t311.length co43)) (fun _ hk => by simp [hk]) (.int .i64 t314)) (fun _ h_ => h_.1))) hb); have n4_ := am (rb (by (with_reducible repeat (first | apply ra | apply rn | apply rd)); exact (rm (Kd.R_far (p := ⟨gb316, 2, none⟩) (Kd.R_far (p := ⟨gb316, 1, none⟩) (Kd.R_far (p := ⟨gb316, 0, none⟩) (Kd.R_types HO302.out BK316.out (by decide)) (fun _ hk => by simp [hk]) (.slice Ao38 t308.length co38)) (fun _ hk => by simp [hk]) (.slice Ao43 t311.length co43)) (fun _ hk => by simp [hk]) (.int .i64 t314)) (fun _ h_ => h_.1))) hb); have n5_ := am (rb (by (with_reducible repeat (first | apply ra | apply rn | apply rd)); exact (rm (Kd.R_far (p := ⟨gb316, 2, none⟩) (Kd.R_far (p := ⟨gb316, 1, none⟩) (Kd.R_far (p := ⟨gb316, 0, none⟩) (Kd.R_types HO305.out BK316.out (by decide)) (fun _ hk => by simp [hk]) (.slice Ao38 t308.length co38)) (fun _ hk => by simp [hk]) (.slice Ao43 t311.length co43)) (fun _ hk => by simp [hk]) (.int .i64 t314)) (fun _ h_ => h_.1))) hb); have n6_ := am (rb (by (with_reducible repeat (first | apply ra | apply rn | apply rd)); exact (rm (Kd.R_far (p := ⟨gb316, 2, none⟩) (Kd.R_far (p := ⟨gb316, 1, none⟩) (Kd.R_far (p := ⟨gb316, 0, none⟩) (Kd.R_types HO310.out BK316.out (by decide)) (fun _ hk => by simp [hk]) (.slice Ao38 t308.length co38)) (fun _ hk => by simp [hk]) (.slice Ao43 t311.length co43)) (fun _ hk => by simp [hk]) (.int .i64 t314)) (fun _ h_ => h_.1))) hb); have n7_ := am (rb (by (with_reducible repeat (first | apply ra | apply rn | apply rd)); exact (rm (Kd.R_far (p := ⟨gb316, 2, none⟩) (Kd.R_far (p := ⟨gb316, 1, none⟩) (Kd.R_far (p := ⟨gb316, 0, none⟩) (Kd.R_types HO313.out BK316.out (by decide)) (fun _ hk => by simp [hk]) (.slice Ao38 t308.length co38)) (fun _ hk => by simp [hk]) (.slice Ao43 t311.length co43)) (fun _ hk => by simp [hk]) (.int .i64 t314)) (fun _ h_ => h_.1))) hb); have n8_ := am (bb (g := gb282) (o := .cells #[.slice A0_0 l0_0.length c0_0, .slice A0_1 l0_1.length c0_1, .int .i64 a0_2] 42 (0, 0)) (by (with_reducible repeat (first | refine bn ?_ _ | refine bd ?_ | refine ba ?_ _)); refine blk_far ?_ NB282_316.out _; (with_reducible repeat (first | refine bn ?_ _ | refine bd ?_ | refine ba ?_ _)); refine blk_far ?_ NB282_316.out _; (with_reducible repeat (first | refine bn ?_ _ | refine bd ?_ | refine ba ?_ _)); refine blk_far ?_ NB282_316.out _; (with_reducible repeat (first | refine bn ?_ _ | refine bd ?_ | refine ba ?_ _)); exact BK282.out) hb); have n9_ := am (bb (g := gb299) (o := .cells #[.slice Ao24 t291.length co24, .slice Ao27 t294.length co27, .int .i64 t297] 26 (0, 0)) (by (with_reducible repeat (first | refine bn ?_ _ | refine bd ?_ | refine ba ?_ _)); refine blk_far ?_ NB299_316.out _; (with_reducible repeat (first | refine bn ?_ _ | refine bd ?_ | refine ba ?_ _)); refine blk_far ?_ NB299_316.out _; (with_reducible repeat (first | refine bn ?_ _ | refine bd ?_ | refine ba ?_ _)); refine blk_far ?_ NB299_316.out _; (with_reducible repeat (first | refine bn ?_ _ | refine bd ?_ | refine ba ?_ _)); exact BK299.out) hb); have n10_ := am (bb (g := gb307) (o := .cells #[.slice Ao31 t300.length co31, .slice Ao35 t303.length co35, .int .i64 t306] 26 (0, 0)) (by (with_reducible repeat (first | refine bn ?_ _ | refine bd ?_ | refine ba ?_ _)); refine blk_far ?_ NB307_316.out _; (with_reducible repeat (first | refine bn ?_ _ | refine bd ?_ | refine ba ?_ _)); refine blk_far ?_ NB307_316.out _; (with_reducible repeat (first | refine bn ?_ _ | refine bd ?_ | refine ba ?_ _)); refine blk_far ?_ NB307_316.out _; (with_reducible repeat (first | refine bn ?_ _ | refine bd ?_ | refine ba ?_ _)); exact BK307.out) hb); have n11_ := am (bb (g := gb316) (o := .cells #[.slice Ao38 t308.length co38, .slice Ao43 t311.length co43, .int .i64 t314] 26 (0, 0)) (by (with_reducible repeat (first | refine bn ?_ _ | refine bd ?_ | refine ba ?_ _)); refine blk_put (cs := #[.slice Ao38 t308.length co38, .slice Ao43 t311.length co43, .int .i64 0]) ?_ 2 _ rfl; (with_reducible repeat (first | refine bn ?_ _ | refine bd ?_ | refine ba ?_ _)); refine blk_put (cs := #[.slice Ao38 t308.length co38, .slice none 0 0, .int .i64 0]) ?_ 1 _ rfl; (with_reducible repeat (first | refine bn ?_ _ | refine bd ?_ | refine ba ?_ _)); refine blk_put (cs := #[.slice none 0 0, .slice none 0 0, .int .i64 0]) ?_ 0 _ rfl; (with_reducible repeat (first | refine bn ?_ _ | refine bd ?_ | refine ba ?_ _)); exact BK316.out) hb); have n12_ := am (bs (by repeat (first | (with_reducible first | exact HB.out | apply wa | apply wn | apply wd | refine ws ?_ GE282.out | refine ws ?_ GE299.out | refine ws ?_ GE307.out | refine ws ?_ GE316.out) | exact HB.out)) hb); clear HO286; clear HO289; clear HO293; clear HO296; clear HO302; clear HO305; clear HO310; clear HO313; clear BK282; clear BK299; clear BK307; clear BK316; clear HB; have HO286 := n0_; have HO289 := n1_; have HO293 := n2_; have HO296 := n3_; have HO302 := n4_; have HO305 := n5_; have HO310 := n6_; have HO313 := n7_; have BK282 := n8_; have BK299 := n9_; have BK307 := n10_; have BK316 := n11_; have HB := n12_; clear n0_ n1_ n2_ n3_ n4_ n5_ n6_ n7_ n8_ n9_ n10_ n11_ n12_; (try clear hb); (try clear hb2); (try clear hk); (try clear hi)))
     go_meet
     case rel => exact ⟨_, ((t315 != t298)), (by first | rfl | (simp; done) | (simp [*]; done) | (simp; generalize ByteArray.toList _ = z; cases z <;> rfl)), H', ⟨by first | omega | exact Nat.le_refl _⟩, ⟨by (with_reducible repeat (first | apply ra | apply rn | apply rd)); exact rm HO293.out (fun _ hk => by simp [hk])⟩, ⟨by (with_reducible repeat (first | apply ra | apply rn | apply rd)); exact rm HO296.out (fun _ hk => by simp [hk])⟩, ⟨by (with_reducible repeat (first | apply ra | apply rn | apply rd)); exact rm HO302.out (fun _ hk => by simp [hk])⟩, ⟨by (with_reducible repeat (first | apply ra | apply rn | apply rd)); exact rm HO305.out (fun _ hk => by simp [hk])⟩, ⟨by (with_reducible repeat (first | apply ra | apply rn | apply rd)); exact rm HO310.out (fun _ hk => by simp [hk])⟩, ⟨by (with_reducible repeat (first | apply ra | apply rn | apply rd)); exact rm HO313.out (fun _ hk => by simp [hk])⟩, ⟨by (with_reducible repeat (first | refine bn ?_ _ | refine bd ?_ | refine ba ?_ _)); exact BK282.out⟩, ⟨by (with_reducible repeat (first | refine bn ?_ _ | refine bd ?_ | refine ba ?_ _)); exact BK299.out⟩, ⟨by (with_reducible repeat (first | refine bn ?_ _ | refine bd ?_ | refine ba ?_ _)); exact BK307.out⟩, ⟨by (with_reducible repeat (first | refine bn ?_ _ | refine bd ?_ | refine ba ?_ _)); exact BK316.out⟩, ⟨by repeat (first | (with_reducible first | exact HB.out | apply wa | apply wn | apply wd | refine ws ?_ GE282.out | refine ws ?_ GE299.out | refine ws ?_ GE307.out | refine ws ?_ GE316.out) | exact HB.out)⟩⟩
    ·replace c45 := Bool.eq_false_iff.mpr c45
     subst c45
     have H1 : (laws_FnExactTakeKey.j0 k a1 t298 t315 true l0_0 l0_1 a0_2 t291 t294 t297 t300 t303 t306 t308 t311 t314) = some r := by rw [if_neg (show ¬ (false = true) by decide)] at H; exact H
     clear H
     have H := H1
     clear H1
     have H' := am H
     clear H
     have hnb54 := NB316_282.out
     have hnc54 := NB282_316.out
     have hnb55 := NB316_299.out
     have hnc55 := NB299_316.out
     have hnb56 := NB316_307.out
     have hnc56 := NB307_316.out
     have hcz57_0 : w37.cell? ⟨gb316, 0, none⟩ = some (.slice none 0 0) := (blk_cell BK316.out 0).trans rfl
     have hcz57_1 : w37.cell? ⟨gb316, 1, none⟩ = some (.slice none 0 0) := (blk_cell BK316.out 1).trans rfl
     have hcz57_2 : w37.cell? ⟨gb316, 2, none⟩ = some (.int .i64 0) := (blk_cell BK316.out 2).trans rfl
     have hfz57_0 := blk_frozen BK316.out 0
     have hfz57_1 := blk_frozen BK316.out 1
     have hfz57_2 := blk_frozen BK316.out 2
     have hnb58 := NB299_282.out
     have hnc58 := NB282_299.out
     have hnb59 := NB299_307.out
     have hnc59 := NB307_299.out
     have hcz60_0 : w37.cell? ⟨gb299, 0, none⟩ = some (.slice Ao24 t291.length co24) := (blk_cell BK299.out 0).trans rfl
     have hcz60_1 : w37.cell? ⟨gb299, 1, none⟩ = some (.slice Ao27 t294.length co27) := (blk_cell BK299.out 1).trans rfl
     have hcz60_2 : w37.cell? ⟨gb299, 2, none⟩ = some (.int .i64 t297) := (blk_cell BK299.out 2).trans rfl
     have hfz60_0 := blk_frozen BK299.out 0
     have hfz60_1 := blk_frozen BK299.out 1
     have hfz60_2 := blk_frozen BK299.out 2
     go_wp2_with (first | ((with_reducible refine gate_callee (f := 27) rfl ?_); refine goesL_ (some 41) rfl rfl Try.func27 (by kernel_rfl) rfl #[.agg #[.slice Ao38 t308.length co38, .slice Ao43 t311.length co43, .int .i64 t314], .agg #[.slice Ao24 t291.length co24, .slice Ao27 t294.length co27, .int .i64 t297]] rfl (by (try simp only [List.map_toArray, List.map_cons, List.map_nil]); first | done | rfl | (simp only [List.length_drop, List.length_take]; rfl)) ?_; (with_reducible refine (laws_eqTable.calls k _ _ t308 _ _ t311 t314 _ _ t291 _ _ t294 t297 false _ ?side1 ?side2 ?side3 ?side4 ?side5 ?side6 ?side7 ?side8 A44.out).mono ?_); (case side1 => refine (rr (e := 57) (base := w.heap.size) (ok := fun k_ => ((((((some k_ ≠ (.slice Ao43 t311.length co43 : Value).ownBlock ∧ some k_ ≠ (.slice Ao20 t284.length co20 : Value).ownBlock) ∧ some k_ ≠ (.slice Ao21 t287.length co21 : Value).ownBlock) ∧ some k_ ≠ (.slice Ao24 t291.length co24 : Value).ownBlock) ∧ some k_ ≠ (.slice Ao27 t294.length co27 : Value).ownBlock) ∧ some k_ ≠ (.slice Ao31 t300.length co31 : Value).ownBlock) ∧ some k_ ≠ (.slice Ao35 t303.length co35 : Value).ownBlock)) (n := t308.length) (c := co38) ?_).2.2; exact (by (with_reducible repeat (first | apply ra | apply rn | apply rd)); exact (rm (Kd.R_far (p := ⟨gb316, 2, none⟩) (Kd.R_far (p := ⟨gb316, 1, none⟩) (Kd.R_far (p := ⟨gb316, 0, none⟩) (Kd.R_types HO310.out BK316.out (by decide)) (fun _ hk => by simp [hk]) (.slice Ao38 t308.length co38)) (fun _ hk => by simp [hk]) (.slice Ao43 t311.length co43)) (fun _ hk => by simp [hk]) (.int .i64 t314)) (fun _ h_ => h_.1)))); (case side2 => exact (rr HO310.out).2.1); (case side3 => refine (rr (e := 57) (base := w.heap.size) (ok := fun k_ => ((((((some k_ ≠ (.slice Ao38 t308.length co38 : Value).ownBlock ∧ some k_ ≠ (.slice Ao20 t284.length co20 : Value).ownBlock) ∧ some k_ ≠ (.slice Ao21 t287.length co21 : Value).ownBlock) ∧ some k_ ≠ (.slice Ao24 t291.length co24 : Value).ownBlock) ∧ some k_ ≠ (.slice Ao27 t294.length co27 : Value).ownBlock) ∧ some k_ ≠ (.slice Ao31 t300.length co31 : Value).ownBlock) ∧ some k_ ≠ (.slice Ao35 t303.length co35 : Value).ownBlock)) (n := t311.length) (c := co43) ?_).2.2; exact (by (with_reducible repeat (first | apply ra | apply rn | apply rd)); exact (rm (Kd.R_far (p := ⟨gb316, 2, none⟩) (Kd.R_far (p := ⟨gb316, 1, none⟩) (Kd.R_far (p := ⟨gb316, 0, none⟩) (Kd.R_types HO313.out BK316.out (by decide)) (fun _ hk => by simp [hk]) (.slice Ao38 t308.length co38)) (fun _ hk => by simp [hk]) (.slice Ao43 t311.length co43)) (fun _ hk => by simp [hk]) (.int .i64 t314)) (fun _ h_ => h_.1)))); (case side4 => exact (rr HO313.out).2.1); (case side5 => refine (rr (e := 57) (base := w.heap.size) (ok := fun k_ => ((((((some k_ ≠ (.slice Ao27 t294.length co27 : Value).ownBlock ∧ some k_ ≠ (.slice Ao20 t284.length co20 : Value).ownBlock) ∧ some k_ ≠ (.slice Ao21 t287.length co21 : Value).ownBlock) ∧ some k_ ≠ (.slice Ao31 t300.length co31 : Value).ownBlock) ∧ some k_ ≠ (.slice Ao35 t303.length co35 : Value).ownBlock) ∧ some k_ ≠ (.slice Ao38 t308.length co38 : Value).ownBlock) ∧ some k_ ≠ (.slice Ao43 t311.length co43 : Value).ownBlock)) (n := t291.length) (c := co24) ?_).2.2; exact (by (with_reducible repeat (first | apply ra | apply rn | apply rd)); exact (rm (Kd.R_far (p := ⟨gb316, 2, none⟩) (Kd.R_far (p := ⟨gb316, 1, none⟩) (Kd.R_far (p := ⟨gb316, 0, none⟩) (Kd.R_types HO293.out BK316.out (by decide)) (fun _ hk => by simp [hk]) (.slice Ao38 t308.length co38)) (fun _ hk => by simp [hk]) (.slice Ao43 t311.length co43)) (fun _ hk => by simp [hk]) (.int .i64 t314)) (fun _ h_ => h_.1)))); (case side6 => exact (rr HO293.out).2.1); (case side7 => refine (rr (e := 57) (base := w.heap.size) (ok := fun k_ => ((((((some k_ ≠ (.slice Ao24 t291.length co24 : Value).ownBlock ∧ some k_ ≠ (.slice Ao20 t284.length co20 : Value).ownBlock) ∧ some k_ ≠ (.slice Ao21 t287.length co21 : Value).ownBlock) ∧ some k_ ≠ (.slice Ao31 t300.length co31 : Value).ownBlock) ∧ some k_ ≠ (.slice Ao35 t303.length co35 : Value).ownBlock) ∧ some k_ ≠ (.slice Ao38 t308.length co38 : Value).ownBlock) ∧ some k_ ≠ (.slice Ao43 t311.length co43 : Value).ownBlock)) (n := t294.length) (c := co27) ?_).2.2; exact (by (with_reducible repeat (first | apply ra | apply rn | apply rd)); exact (rm (Kd.R_far (p := ⟨gb316, 2, none⟩) (Kd.R_far (p := ⟨gb316, 1, none⟩) (Kd.R_far (p := ⟨gb316, 0, none⟩) (Kd.R_types HO296.out BK316.out (by decide)) (fun _ hk => by simp [hk]) (.slice Ao38 t308.length co38)) (fun _ hk => by simp [hk]) (.slice Ao43 t311.length co43)) (fun _ hk => by simp [hk]) (.int .i64 t314)) (fun _ h_ => h_.1)))); (case side8 => exact (rr HO296.out).2.1); rintro e w61 ⟨rfl, hb⟩; refine ⟨_, rfl, ?_⟩; have n0_ := am (rb (by (with_reducible repeat (first | apply ra | apply rn | apply rd)); exact (rm (Kd.R_far (p := ⟨gb316, 2, none⟩) (Kd.R_far (p := ⟨gb316, 1, none⟩) (Kd.R_far (p := ⟨gb316, 0, none⟩) (Kd.R_types HO286.out BK316.out (by decide)) (fun _ hk => by simp [hk]) (.slice Ao38 t308.length co38)) (fun _ hk => by simp [hk]) (.slice Ao43 t311.length co43)) (fun _ hk => by simp [hk]) (.int .i64 t314)) (fun _ h_ => h_.1))) hb); have n1_ := am (rb (by (with_reducible repeat (first | apply ra | apply rn | apply rd)); exact (rm (Kd.R_far (p := ⟨gb316, 2, none⟩) (Kd.R_far (p := ⟨gb316, 1, none⟩) (Kd.R_far (p := ⟨gb316, 0, none⟩) (Kd.R_types HO289.out BK316.out (by decide)) (fun _ hk => by simp [hk]) (.slice Ao38 t308.length co38)) (fun _ hk => by simp [hk]) (.slice Ao43 t311.length co43)) (fun _ hk => by simp [hk]) (.int .i64 t314)) (fun _ h_ => h_.1))) hb); have n2_ := am (rb (by (with_reducible repeat (first | apply ra | apply rn | apply rd)); exact (rm (Kd.R_far (p := ⟨gb316, 2, none⟩) (Kd.R_far (p := ⟨gb316, 1, none⟩) (Kd.R_far (p := ⟨gb316, 0, none⟩) (Kd.R_types HO293.out BK316.out (by decide)) (fun _ hk => by simp [hk]) (.slice Ao38 t308.length co38)) (fun _ hk => by simp [hk]) (.slice Ao43 t311.length co43)) (fun _ hk => by simp [hk]) (.int .i64 t314)) (fun _ h_ => h_.1))) hb); have n3_ := am (rb (by (with_reducible repeat (first | apply ra | apply rn | apply rd)); exact (rm (Kd.R_far (p := ⟨gb316, 2, none⟩) (Kd.R_far (p := ⟨gb316, 1, none⟩) (Kd.R_far (p := ⟨gb316, 0, none⟩) (Kd.R_types HO296.out BK316.out (by decide)) (fun _ hk => by simp [hk]) (.slice Ao38 t308.length co38)) (fun _ hk => by simp [hk]) (.slice Ao43 t311.length co43)) (fun _ hk => by simp [hk]) (.int .i64 t314)) (fun _ h_ => h_.1))) hb); have n4_ := am (rb (by (with_reducible repeat (first | apply ra | apply rn | apply rd)); exact (rm (Kd.R_far (p := ⟨gb316, 2, none⟩) (Kd.R_far (p := ⟨gb316, 1, none⟩) (Kd.R_far (p := ⟨gb316, 0, none⟩) (Kd.R_types HO302.out BK316.out (by decide)) (fun _ hk => by simp [hk]) (.slice Ao38 t308.length co38)) (fun _ hk => by simp [hk]) (.slice Ao43 t311.length co43)) (fun _ hk => by simp [hk]) (.int .i64 t314)) (fun _ h_ => h_.1))) hb); have n5_ := am (rb (by (with_reducible repeat (first | apply ra | apply rn | apply rd)); exact (rm (Kd.R_far (p := ⟨gb316, 2, none⟩) (Kd.R_far (p := ⟨gb316, 1, none⟩) (Kd.R_far (p := ⟨gb316, 0, none⟩) (Kd.R_types HO305.out BK316.out (by decide)) (fun _ hk => by simp [hk]) (.slice Ao38 t308.length co38)) (fun _ hk => by simp [hk]) (.slice Ao43 t311.length co43)) (fun _ hk => by simp [hk]) (.int .i64 t314)) (fun _ h_ => h_.1))) hb); have n6_ := am (rb (by (with_reducible repeat (first | apply ra | apply rn | apply rd)); exact (rm (Kd.R_far (p := ⟨gb316, 2, none⟩) (Kd.R_far (p := ⟨gb316, 1, none⟩) (Kd.R_far (p := ⟨gb316, 0, none⟩) (Kd.R_types HO310.out BK316.out (by decide)) (fun _ hk => by simp [hk]) (.slice Ao38 t308.length co38)) (fun _ hk => by simp [hk]) (.slice Ao43 t311.length co43)) (fun _ hk => by simp [hk]) (.int .i64 t314)) (fun _ h_ => h_.1))) hb); have n7_ := am (rb (by (with_reducible repeat (first | apply ra | apply rn | apply rd)); exact (rm (Kd.R_far (p := ⟨gb316, 2, none⟩) (Kd.R_far (p := ⟨gb316, 1, none⟩) (Kd.R_far (p := ⟨gb316, 0, none⟩) (Kd.R_types HO313.out BK316.out (by decide)) (fun _ hk => by simp [hk]) (.slice Ao38 t308.length co38)) (fun _ hk => by simp [hk]) (.slice Ao43 t311.length co43)) (fun _ hk => by simp [hk]) (.int .i64 t314)) (fun _ h_ => h_.1))) hb); have n8_ := am (bb (g := gb282) (o := .cells #[.slice A0_0 l0_0.length c0_0, .slice A0_1 l0_1.length c0_1, .int .i64 a0_2] 42 (0, 0)) (by (with_reducible repeat (first | refine bn ?_ _ | refine bd ?_ | refine ba ?_ _)); refine blk_far ?_ NB282_316.out _; (with_reducible repeat (first | refine bn ?_ _ | refine bd ?_ | refine ba ?_ _)); refine blk_far ?_ NB282_316.out _; (with_reducible repeat (first | refine bn ?_ _ | refine bd ?_ | refine ba ?_ _)); refine blk_far ?_ NB282_316.out _; (with_reducible repeat (first | refine bn ?_ _ | refine bd ?_ | refine ba ?_ _)); exact BK282.out) hb); have n9_ := am (bb (g := gb299) (o := .cells #[.slice Ao24 t291.length co24, .slice Ao27 t294.length co27, .int .i64 t297] 26 (0, 0)) (by (with_reducible repeat (first | refine bn ?_ _ | refine bd ?_ | refine ba ?_ _)); refine blk_far ?_ NB299_316.out _; (with_reducible repeat (first | refine bn ?_ _ | refine bd ?_ | refine ba ?_ _)); refine blk_far ?_ NB299_316.out _; (with_reducible repeat (first | refine bn ?_ _ | refine bd ?_ | refine ba ?_ _)); refine blk_far ?_ NB299_316.out _; (with_reducible repeat (first | refine bn ?_ _ | refine bd ?_ | refine ba ?_ _)); exact BK299.out) hb); have n10_ := am (bb (g := gb307) (o := .cells #[.slice Ao31 t300.length co31, .slice Ao35 t303.length co35, .int .i64 t306] 26 (0, 0)) (by (with_reducible repeat (first | refine bn ?_ _ | refine bd ?_ | refine ba ?_ _)); refine blk_far ?_ NB307_316.out _; (with_reducible repeat (first | refine bn ?_ _ | refine bd ?_ | refine ba ?_ _)); refine blk_far ?_ NB307_316.out _; (with_reducible repeat (first | refine bn ?_ _ | refine bd ?_ | refine ba ?_ _)); refine blk_far ?_ NB307_316.out _; (with_reducible repeat (first | refine bn ?_ _ | refine bd ?_ | refine ba ?_ _)); exact BK307.out) hb); have n11_ := am (bb (g := gb316) (o := .cells #[.slice Ao38 t308.length co38, .slice Ao43 t311.length co43, .int .i64 t314] 26 (0, 0)) (by (with_reducible repeat (first | refine bn ?_ _ | refine bd ?_ | refine ba ?_ _)); refine blk_put (cs := #[.slice Ao38 t308.length co38, .slice Ao43 t311.length co43, .int .i64 0]) ?_ 2 _ rfl; (with_reducible repeat (first | refine bn ?_ _ | refine bd ?_ | refine ba ?_ _)); refine blk_put (cs := #[.slice Ao38 t308.length co38, .slice none 0 0, .int .i64 0]) ?_ 1 _ rfl; (with_reducible repeat (first | refine bn ?_ _ | refine bd ?_ | refine ba ?_ _)); refine blk_put (cs := #[.slice none 0 0, .slice none 0 0, .int .i64 0]) ?_ 0 _ rfl; (with_reducible repeat (first | refine bn ?_ _ | refine bd ?_ | refine ba ?_ _)); exact BK316.out) hb); have n12_ := am (bs (by repeat (first | (with_reducible first | exact HB.out | apply wa | apply wn | apply wd | refine ws ?_ GE282.out | refine ws ?_ GE299.out | refine ws ?_ GE307.out | refine ws ?_ GE316.out) | exact HB.out)) hb); clear HO286; clear HO289; clear HO293; clear HO296; clear HO302; clear HO305; clear HO310; clear HO313; clear BK282; clear BK299; clear BK307; clear BK316; clear HB; have HO286 := n0_; have HO289 := n1_; have HO293 := n2_; have HO296 := n3_; have HO302 := n4_; have HO305 := n5_; have HO310 := n6_; have HO313 := n7_; have BK282 := n8_; have BK299 := n9_; have BK307 := n10_; have BK316 := n11_; have HB := n12_; clear n0_ n1_ n2_ n3_ n4_ n5_ n6_ n7_ n8_ n9_ n10_ n11_ n12_; (try clear hb); (try clear hb2); (try clear hk); (try clear hi)))
     go_meet
     case rel => exact ⟨_, (true), (by first | rfl | (simp; done) | (simp [*]; done) | (simp; generalize ByteArray.toList _ = z; cases z <;> rfl)), H', ⟨by first | omega | exact Nat.le_refl _⟩, ⟨by (with_reducible repeat (first | apply ra | apply rn | apply rd)); exact rm HO293.out (fun _ hk => by simp [hk])⟩, ⟨by (with_reducible repeat (first | apply ra | apply rn | apply rd)); exact rm HO296.out (fun _ hk => by simp [hk])⟩, ⟨by (with_reducible repeat (first | apply ra | apply rn | apply rd)); exact rm HO302.out (fun _ hk => by simp [hk])⟩, ⟨by (with_reducible repeat (first | apply ra | apply rn | apply rd)); exact rm HO305.out (fun _ hk => by simp [hk])⟩, ⟨by (with_reducible repeat (first | apply ra | apply rn | apply rd)); exact rm HO310.out (fun _ hk => by simp [hk])⟩, ⟨by (with_reducible repeat (first | apply ra | apply rn | apply rd)); exact rm HO313.out (fun _ hk => by simp [hk])⟩, ⟨by (with_reducible repeat (first | refine bn ?_ _ | refine bd ?_ | refine ba ?_ _)); exact BK282.out⟩, ⟨by (with_reducible repeat (first | refine bn ?_ _ | refine bd ?_ | refine ba ?_ _)); exact BK299.out⟩, ⟨by (with_reducible repeat (first | refine bn ?_ _ | refine bd ?_ | refine ba ?_ _)); exact BK307.out⟩, ⟨by (with_reducible repeat (first | refine bn ?_ _ | refine bd ?_ | refine ba ?_ _)); exact BK316.out⟩, ⟨by repeat (first | (with_reducible first | exact HB.out | apply wa | apply wn | apply wd | refine ws ?_ GE282.out | refine ws ?_ GE299.out | refine ws ?_ GE307.out | refine ws ?_ GE316.out) | exact HB.out)⟩⟩
   case rest =>
    clear HC14
    try clear c2
    try clear p2
    try clear c3
    try clear c3b0
    try clear c3b1
    try clear c4
    try clear c5
    try clear c6
    try clear c6b0
    try clear c7
    try clear c24
    try clear c25
    try clear c26
    try clear c27
    try clear c32
    try clear c33
    try clear c34
    try clear c39
    try clear c40
    try clear c41
    try clear c45
    try clear c46
    try clear c47
    try clear c48
    try clear c50
    try clear c51
    try clear c54
    try clear c55
    try clear c56
    try clear c58
    try clear c59
    try clear hcz16_0
    try clear hcz16_1
    try clear hcz16_2
    try clear hcz18_0
    try clear hcz18_1
    try clear hcz18_2
    try clear hcz26_0
    try clear hcz26_1
    try clear hcz26_2
    try clear hcz28_0
    try clear hcz28_1
    try clear hcz28_2
    try clear hcz34_0
    try clear hcz34_1
    try clear hcz34_2
    try clear hcz42_0
    try clear hcz42_1
    try clear hcz42_2
    try clear hcz49_0
    try clear hcz49_1
    try clear hcz49_2
    try clear hcz52_0
    try clear hcz52_1
    try clear hcz52_2
    try clear hcz57_0
    try clear hcz57_1
    try clear hcz57_2
    try clear hcz60_0
    try clear hcz60_1
    try clear hcz60_2
    try clear hcz8_0
    try clear hcz8_1
    try clear hcz8_2
    try clear hfz16_0
    try clear hfz16_1
    try clear hfz16_2
    try clear hfz18_0
    try clear hfz18_1
    try clear hfz18_2
    try clear hfz26_0
    try clear hfz26_1
    try clear hfz26_2
    try clear hfz28_0
    try clear hfz28_1
    try clear hfz28_2
    try clear hfz34_0
    try clear hfz34_1
    try clear hfz34_2
    try clear hfz42_0
    try clear hfz42_1
    try clear hfz42_2
    try clear hfz49_0
    try clear hfz49_1
    try clear hfz49_2
    try clear hfz52_0
    try clear hfz52_1
    try clear hfz52_2
    try clear hfz57_0
    try clear hfz57_1
    try clear hfz57_2
    try clear hfz60_0
    try clear hfz60_1
    try clear hfz60_2
    try clear hfz8_0
    try clear hfz8_1
    try clear hfz8_2
    obtain ⟨kq, x47_13, rfl, HA, HJ13, HO_300000, HO_300001, HO_308000, HO_308001, HO_317000, HO_317001, BK282, BK299, BK307, BK316, HB⟩ := hcut
    cases kq with
    | zero => exact absurd HA.out (by simp [laws_FnExactTakeKey.j0])
    | succ kj13 =>
     have H := HA.out
     clear HA
     simp only [laws_FnExactTakeKey.j0] at H
     by_cases c62 : x47_13 = true
     ·subst c62
      have H1 : (some false) = some r := by rw [if_pos rfl] at H; exact H
      clear H
      have H := H1
      clear H1
      obtain rfl := Option.some.inj H
      go_wp2
      go_ret
      exact ⟨by first | rfl | (simp [errW_none, errW_some] <;> rfl) | (simp [*, errW_none, errW_some] <;> rfl), by repeat (first | (with_reducible first | exact HB.out | apply wa | apply wn | apply wd | refine ws ?_ GE282.out | refine ws ?_ GE299.out | refine ws ?_ GE307.out | refine ws ?_ GE316.out) | exact HB.out)⟩
     ·replace c62 := Bool.eq_false_iff.mpr c62
      subst c62
      have H1 : ((laws_toTable.f kj13 l0_0 l0_1 a0_2).bind fun bt318 => ((laws_eqTable.f kj13 t300 t303 t306 bt318.1 bt318.2.1 bt318.2.2).bind fun t325 => (if t325 = true then ((laws_markTable.f kj13 t300 t303 t306 1).bind fun bt326 => (if bt326.1 < 0 then (laws_FnExactTakeKey.j1 kj13 a1 t298 true l0_0 l0_1 a0_2 t291 t294 t297 t308 t311 t314) else ((laws_eqTable.f kj13 t308 t311 t314 t291 t294 t297).bind fun t329 => (if t329 = true then (laws_FnExactTakeKey.j1 kj13 a1 t298 (t315 != t298) l0_0 l0_1 a0_2 t291 t294 t297 t308 t311 t314) else (laws_FnExactTakeKey.j1 kj13 a1 t298 true l0_0 l0_1 a0_2 t291 t294 t297 t308 t311 t314))))) else (some false)))) = some r := by rw [if_neg (show ¬ (false = true) by decide)] at H; exact H
      clear H
      have H := H1
      clear H1
      replace H := Option.bind_eq_some_iff.mp H
      obtain ⟨⟨t318, t321, t324⟩, A630, H⟩ := H
      replace H : ((laws_eqTable.f kj13 t300 t303 t306 t318 t321 t324).bind fun t325 => (if t325 = true then ((laws_markTable.f kj13 t300 t303 t306 1).bind fun bt326 => (if bt326.1 < 0 then (laws_FnExactTakeKey.j1 kj13 a1 t298 true l0_0 l0_1 a0_2 t291 t294 t297 t308 t311 t314) else ((laws_eqTable.f kj13 t308 t311 t314 t291 t294 t297).bind fun t329 => (if t329 = true then (laws_FnExactTakeKey.j1 kj13 a1 t298 (t315 != t298) l0_0 l0_1 a0_2 t291 t294 t297 t308 t311 t314) else (laws_FnExactTakeKey.j1 kj13 a1 t298 true l0_0 l0_1 a0_2 t291 t294 t297 t308 t311 t314))))) else (some false))) = some r := H
      have A63 := am A630
      clear A630
      replace H := Option.bind_eq_some_iff.mp H
      obtain ⟨t325, A640, H⟩ := H
      replace H : (if t325 = true then ((laws_markTable.f kj13 t300 t303 t306 1).bind fun bt326 => (if bt326.1 < 0 then (laws_FnExactTakeKey.j1 kj13 a1 t298 true l0_0 l0_1 a0_2 t291 t294 t297 t308 t311 t314) else ((laws_eqTable.f kj13 t308 t311 t314 t291 t294 t297).bind fun t329 => (if t329 = true then (laws_FnExactTakeKey.j1 kj13 a1 t298 (t315 != t298) l0_0 l0_1 a0_2 t291 t294 t297 t308 t311 t314) else (laws_FnExactTakeKey.j1 kj13 a1 t298 true l0_0 l0_1 a0_2 t291 t294 t297 t308 t311 t314))))) else (some false)) = some r := H
      have A64 := am A640
      clear A640
      by_cases c65 : t325 = true
      ·subst c65
       have H1 : ((laws_markTable.f kj13 t300 t303 t306 1).bind fun bt326 => (if bt326.1 < 0 then (laws_FnExactTakeKey.j1 kj13 a1 t298 true l0_0 l0_1 a0_2 t291 t294 t297 t308 t311 t314) else ((laws_eqTable.f kj13 t308 t311 t314 t291 t294 t297).bind fun t329 => (if t329 = true then (laws_FnExactTakeKey.j1 kj13 a1 t298 (t315 != t298) l0_0 l0_1 a0_2 t291 t294 t297 t308 t311 t314) else (laws_FnExactTakeKey.j1 kj13 a1 t298 true l0_0 l0_1 a0_2 t291 t294 t297 t308 t311 t314))))) = some r := by rw [if_pos rfl] at H; exact H
       clear H
       have H := H1
       clear H1
       replace H := Option.bind_eq_some_iff.mp H
       obtain ⟨⟨t326, t327, t328⟩, A660, H⟩ := H
       replace H : (if t326 < 0 then (laws_FnExactTakeKey.j1 kj13 a1 t298 true l0_0 l0_1 a0_2 t291 t294 t297 t308 t311 t314) else ((laws_eqTable.f kj13 t308 t311 t314 t291 t294 t297).bind fun t329 => (if t329 = true then (laws_FnExactTakeKey.j1 kj13 a1 t298 (t315 != t298) l0_0 l0_1 a0_2 t291 t294 t297 t308 t311 t314) else (laws_FnExactTakeKey.j1 kj13 a1 t298 true l0_0 l0_1 a0_2 t291 t294 t297 t308 t311 t314)))) = some r := H
       have A66 := am A660
       clear A660
       have HC67 := am H
       clear H
       try go_wp2
       have n0_ := am (Kd.R_drew HO_300000.out)
       have n1_ := am (Kd.R_drew HO_300001.out)
       have n2_ := am (Kd.R_drew HO_308000.out)
       have n3_ := am (Kd.R_drew HO_308001.out)
       have n4_ := am (Kd.R_drew HO_317000.out)
       have n5_ := am (Kd.R_drew HO_317001.out)
       have n6_ := am (blk_drew BK282.out)
       have n7_ := am (blk_drew BK299.out)
       have n8_ := am (blk_drew BK307.out)
       have n9_ := am (blk_drew BK316.out)
       have n10_ := am (below_drew1 HB.out)
       clear HO_300000
       clear HO_300001
       clear HO_308000
       clear HO_308001
       clear HO_317000
       clear HO_317001
       clear BK282
       clear BK299
       clear BK307
       clear BK316
       clear HB
       have HO_300000 := n0_
       have HO_300001 := n1_
       have HO_308000 := n2_
       have HO_308001 := n3_
       have HO_317000 := n4_
       have HO_317001 := n5_
       have BK282 := n6_
       have BK299 := n7_
       have BK307 := n8_
       have BK316 := n9_
       have HB := n10_
       clear n0_ n1_ n2_ n3_ n4_ n5_ n6_ n7_ n8_ n9_ n10_
       refine start_ (n := 5) (S := fun w' => w'.cell? ⟨gb307, 0, none⟩ = some (.slice Ao31 t300.length co31) ∧ w'.cell? ⟨gb307, 1, none⟩ = some (.slice Ao35 t303.length co35) ∧ w'.cell? ⟨gb307, 2, none⟩ = some (.int .i64 t306) ∧ w'.cell? ⟨gb282, 0, none⟩ = some (.slice A0_0 l0_0.length c0_0) ∧ w'.cell? ⟨gb282, 1, none⟩ = some (.slice A0_1 l0_1.length c0_1) ∧ w'.cell? ⟨gb282, 2, none⟩ = some (.int .i64 a0_2)) (ds := []) #[false, false, false, false, false] (by kernel_rfl) rfl rfl ⟨(blk_cell BK307.out 0).trans rfl, (blk_cell BK307.out 1).trans rfl, (blk_cell BK307.out 2).trans rfl, (blk_cell BK282.out 0).trans rfl, (blk_cell BK282.out 1).trans rfl, (blk_cell BK282.out 2).trans rfl⟩ (fun hHeld => ?_)
       generalize wc.drew = w68 at HO_300000 HO_300001 HO_308000 HO_308001 HO_317000 HO_317001 BK282 BK299 BK307 BK316 HB hHeld ⊢
       refine take_ (i := 0) (N := some 48) (v := ?_) (a' := ?_) #[true, false, false, false, false] rfl rfl (by kernel_rfl) (fun _ _ _ h => h) (Or.inl ⟨by rfl, ?_⟩) hHeld ?_ ?_
       rotate_left
       ·rintro w' ⟨s0, s1, s2, s3, s4, s5⟩
        go_simp
        with_reducible rfl
       rotate_left
       ·simp only [Act.put, List.setIfInBounds_toArray, List.set_cons_zero, List.set_cons_succ, i64_w, i32_w]
        rfl
       refine take_ (i := 1) (N := some 49) (v := ?_) (a' := ?_) #[true, true, false, false, false] rfl rfl (by kernel_rfl) (fun _ _ _ h => h) (Or.inl ⟨by rfl, ?_⟩) hHeld ?_ ?_
       rotate_left
       ·rintro w' ⟨s0, s1, s2, s3, s4, s5⟩
        go_simp
        with_reducible rfl
       rotate_left
       ·simp only [Act.put, List.setIfInBounds_toArray, List.set_cons_zero, List.set_cons_succ, i64_w, i32_w]
        rfl
       refine one_ (i := 2) (N := some 50) #[true, true, true, false, false] rfl rfl (by kernel_rfl) (by decide) (fun K hK => ?_)
       refine goes_ Try.func26 (by kernel_rfl) rfl #[.agg #[.slice A0_0 l0_0.length c0_0, .slice A0_1 l0_1.length c0_1, .int .i64 a0_2]] (by rfl) rfl rfl (by (try simp only [List.map_toArray, List.map_cons, List.map_nil]); first | done | rfl | (simp only [List.length_drop, List.length_take]; rfl)) ?_
       with_reducible refine (laws_toTable.calls kj13 _ _ l0_0 _ _ l0_1 a0_2 t318 t321 t324 _ ?side1 ?side2 ?side3 ?side4 A63.out).mono ?_
       (case side1 => repeat (first | exact (Kd.C_below HR0_0.out HB.out) | (with_reducible refine Kd.C_alloc ?_ _) | (with_reducible refine Kd.C_drewN ?_ _) | (with_reducible refine Kd.C_drew ?_)))
       (case side2 => exact HC0_0.out)
       (case side3 => repeat (first | exact (Kd.C_below HR0_1.out HB.out) | (with_reducible refine Kd.C_alloc ?_ _) | (with_reducible refine Kd.C_drewN ?_ _) | (with_reducible refine Kd.C_drew ?_)))
       (case side4 => exact HC0_1.out)
       rintro e w69 ⟨v319, v322, rfl, ho0, ho1, hb⟩
       refine ⟨_, rfl, ?_⟩
       have n0_ := am (rm (ro (ro (rl (by (with_reducible repeat (first | apply ra | apply rn | apply rd)); exact HO_300000.out) hb) (re ho0)) (re ho1)) (fun _ h_ => h_.1))
       have n1_ := am (rm (ro (ro (rl (by (with_reducible repeat (first | apply ra | apply rn | apply rd)); exact HO_300001.out) hb) (re ho0)) (re ho1)) (fun _ h_ => h_.1))
       have n2_ := am (rm (ro (ro (rl (by (with_reducible repeat (first | apply ra | apply rn | apply rd)); exact HO_308000.out) hb) (re ho0)) (re ho1)) (fun _ h_ => h_.1))
       have n3_ := am (rm (ro (ro (rl (by (with_reducible repeat (first | apply ra | apply rn | apply rd)); exact HO_308001.out) hb) (re ho0)) (re ho1)) (fun _ h_ => h_.1))
       have n4_ := am (rm (ro (ro (rl (by (with_reducible repeat (first | apply ra | apply rn | apply rd)); exact HO_317000.out) hb) (re ho0)) (re ho1)) (fun _ h_ => h_.1))
       have n5_ := am (rm (ro (ro (rl (by (with_reducible repeat (first | apply ra | apply rn | apply rd)); exact HO_317001.out) hb) (re ho0)) (re ho1)) (fun _ h_ => h_.1))
       have n6_ := am (Kd.R_lower (Kd.R_new' (Kd.R_new' (Kd.R_new' (Kd.R_new' (Kd.R_new' (Kd.R_new' ho0 (Kd.R_lt (by (with_reducible repeat (first | apply ra | apply rn | apply rd)); exact HO_300000.out))) (Kd.R_lt (by (with_reducible repeat (first | apply ra | apply rn | apply rd)); exact HO_300001.out))) (Kd.R_lt (by (with_reducible repeat (first | apply ra | apply rn | apply rd)); exact HO_308000.out))) (Kd.R_lt (by (with_reducible repeat (first | apply ra | apply rn | apply rd)); exact HO_308001.out))) (Kd.R_lt (by (with_reducible repeat (first | apply ra | apply rn | apply rd)); exact HO_317000.out))) (Kd.R_lt (by (with_reducible repeat (first | apply ra | apply rn | apply rd)); exact HO_317001.out))) (below_size (by repeat (first | (with_reducible first | exact HB.out | apply wa | apply wn | apply wd | refine ws ?_ GE282.out | refine ws ?_ GE299.out | refine ws ?_ GE307.out | refine ws ?_ GE316.out) | exact HB.out))))
       have n7_ := am (Kd.R_lower (Kd.R_new' (Kd.R_new' (Kd.R_new' (Kd.R_new' (Kd.R_new' (Kd.R_new' ho1 (Kd.R_lt (by (with_reducible repeat (first | apply ra | apply rn | apply rd)); exact HO_300000.out))) (Kd.R_lt (by (with_reducible repeat (first | apply ra | apply rn | apply rd)); exact HO_300001.out))) (Kd.R_lt (by (with_reducible repeat (first | apply ra | apply rn | apply rd)); exact HO_308000.out))) (Kd.R_lt (by (with_reducible repeat (first | apply ra | apply rn | apply rd)); exact HO_308001.out))) (Kd.R_lt (by (with_reducible repeat (first | apply ra | apply rn | apply rd)); exact HO_317000.out))) (Kd.R_lt (by (with_reducible repeat (first | apply ra | apply rn | apply rd)); exact HO_317001.out))) (below_size (by repeat (first | (with_reducible first | exact HB.out | apply wa | apply wn | apply wd | refine ws ?_ GE282.out | refine ws ?_ GE299.out | refine ws ?_ GE307.out | refine ws ?_ GE316.out) | exact HB.out))))
       have n8_ := am (bb (g := gb282) (o := .cells #[.slice A0_0 l0_0.length c0_0, .slice A0_1 l0_1.length c0_1, .int .i64 a0_2] 42 (0, 0)) (by (with_reducible repeat (first | refine bn ?_ _ | refine bd ?_ | refine ba ?_ _)); exact BK282.out) hb)
       have n9_ := am (bb (g := gb299) (o := .cells #[.slice Ao24 t291.length co24, .slice Ao27 t294.length co27, .int .i64 t297] 26 (0, 0)) (by (with_reducible repeat (first | refine bn ?_ _ | refine bd ?_ | refine ba ?_ _)); exact BK299.out) hb)
       have n10_ := am (bb (g := gb307) (o := .cells #[.slice Ao31 t300.length co31, .slice Ao35 t303.length co35, .int .i64 t306] 26 (0, 0)) (by (with_reducible repeat (first | refine bn ?_ _ | refine bd ?_ | refine ba ?_ _)); exact BK307.out) hb)
       have n11_ := am (bb (g := gb316) (o := .cells #[.slice Ao38 t308.length co38, .slice Ao43 t311.length co43, .int .i64 t314] 26 (0, 0)) (by (with_reducible repeat (first | refine bn ?_ _ | refine bd ?_ | refine ba ?_ _)); exact BK316.out) hb)
       have n12_ := am (bs (by repeat (first | (with_reducible first | exact HB.out | apply wa | apply wn | apply wd | refine ws ?_ GE282.out | refine ws ?_ GE299.out | refine ws ?_ GE307.out | refine ws ?_ GE316.out) | exact HB.out)) hb)
       clear HO_300000
       clear HO_300001
       clear HO_308000
       clear HO_308001
       clear HO_317000
       clear HO_317001
       clear BK282
       clear BK299
       clear BK307
       clear BK316
       clear HB
       have HO_300000 := n0_
       have HO_300001 := n1_
       have HO_308000 := n2_
       have HO_308001 := n3_
       have HO_317000 := n4_
       have HO_317001 := n5_
       have HO320 := n6_
       have HO323 := n7_
       have BK282 := n8_
       have BK299 := n9_
       have BK307 := n10_
       have BK316 := n11_
       have HB := n12_
       clear n0_ n1_ n2_ n3_ n4_ n5_ n6_ n7_ n8_ n9_ n10_ n11_ n12_
       (try clear hb)
       (try clear hb2)
       (try clear hk)
       (try clear hi)
       (try clear ho0)
       (try clear ho1)
       obtain ⟨Ao70, co70, eo70⟩ := Kd.R_slice HO320.out
       (first | subst eo70 | (injection eo70 with f1_ f2_ f3_; have f4_ := f1_.symm; have f5_ := f3_.symm; clear f1_ f2_ f3_; subst f4_; subst f5_))
       obtain ⟨Ao71, co71, eo71⟩ := Kd.R_slice HO323.out
       (first | subst eo71 | (injection eo71 with f1_ f2_ f3_; have f4_ := f1_.symm; have f5_ := f3_.symm; clear f1_ f2_ f3_; subst f4_; subst f5_))
       refine hK.out _ _ ⟨(blk_cell BK307.out 0).trans rfl, (blk_cell BK307.out 1).trans rfl, (blk_cell BK307.out 2).trans rfl, (blk_cell BK282.out 0).trans rfl, (blk_cell BK282.out 1).trans rfl, (blk_cell BK282.out 2).trans rfl⟩ (fun hHeld => ?_)
       clear hK K
       refine norm_ (a' := ?_) ?_ ?_
       rotate_left
       ·show Act.put _ (some 50) _ = _
        simp only [Act.put, List.setIfInBounds_toArray, List.set_cons_zero, List.set_cons_succ, i64_w, i32_w]
        rfl
       refine one_ (i := 3) (N := some 51) #[true, true, true, true, false] rfl rfl (by kernel_rfl) (by decide) (fun K hK => ?_)
       refine goes_ Try.func27 (by kernel_rfl) rfl #[.agg #[.slice Ao31 t300.length co31, .slice Ao35 t303.length co35, .int .i64 t306], .agg #[.slice Ao70 t318.length co70, .slice Ao71 t321.length co71, .int .i64 t324]] (by rfl) rfl rfl (by (try simp only [List.map_toArray, List.map_cons, List.map_nil]); first | done | rfl | (simp only [List.length_drop, List.length_take]; rfl)) ?_
       with_reducible refine (laws_eqTable.calls kj13 _ _ t300 _ _ t303 t306 _ _ t318 _ _ t321 t324 true _ ?side1 ?side2 ?side3 ?side4 ?side5 ?side6 ?side7 ?side8 A64.out).mono ?_
       (case side1 => repeat (first | exact (rr HO_308000.out).2.2 | (with_reducible refine Kd.C_alloc ?_ _) | (with_reducible refine Kd.C_drewN ?_ _) | (with_reducible refine Kd.C_drew ?_)))
       (case side2 => exact (rr HO_308000.out).2.1)
       (case side3 => repeat (first | exact (rr HO_308001.out).2.2 | (with_reducible refine Kd.C_alloc ?_ _) | (with_reducible refine Kd.C_drewN ?_ _) | (with_reducible refine Kd.C_drew ?_)))
       (case side4 => exact (rr HO_308001.out).2.1)
       (case side5 => repeat (first | exact (rr HO320.out).2.2 | (with_reducible refine Kd.C_alloc ?_ _) | (with_reducible refine Kd.C_drewN ?_ _) | (with_reducible refine Kd.C_drew ?_)))
       (case side6 => exact (rr HO320.out).2.1)
       (case side7 => repeat (first | exact (rr HO323.out).2.2 | (with_reducible refine Kd.C_alloc ?_ _) | (with_reducible refine Kd.C_drewN ?_ _) | (with_reducible refine Kd.C_drew ?_)))
       (case side8 => exact (rr HO323.out).2.1)
       rintro e w72 ⟨rfl, hb⟩
       refine ⟨_, rfl, ?_⟩
       have n0_ := am (rb (by (with_reducible repeat (first | apply ra | apply rn | apply rd)); exact HO_300000.out) hb)
       have n1_ := am (rb (by (with_reducible repeat (first | apply ra | apply rn | apply rd)); exact HO_300001.out) hb)
       have n2_ := am (rb (by (with_reducible repeat (first | apply ra | apply rn | apply rd)); exact HO_308000.out) hb)
       have n3_ := am (rb (by (with_reducible repeat (first | apply ra | apply rn | apply rd)); exact HO_308001.out) hb)
       have n4_ := am (rb (by (with_reducible repeat (first | apply ra | apply rn | apply rd)); exact HO_317000.out) hb)
       have n5_ := am (rb (by (with_reducible repeat (first | apply ra | apply rn | apply rd)); exact HO_317001.out) hb)
       have n6_ := am (rb (by (with_reducible repeat (first | apply ra | apply rn | apply rd)); exact HO320.out) hb)
       have n7_ := am (rb (by (with_reducible repeat (first | apply ra | apply rn | apply rd)); exact HO323.out) hb)
       have n8_ := am (bb (g := gb282) (o := .cells #[.slice A0_0 l0_0.length c0_0, .slice A0_1 l0_1.length c0_1, .int .i64 a0_2] 42 (0, 0)) (by (with_reducible repeat (first | refine bn ?_ _ | refine bd ?_ | refine ba ?_ _)); exact BK282.out) hb)
       have n9_ := am (bb (g := gb299) (o := .cells #[.slice Ao24 t291.length co24, .slice Ao27 t294.length co27, .int .i64 t297] 26 (0, 0)) (by (with_reducible repeat (first | refine bn ?_ _ | refine bd ?_ | refine ba ?_ _)); exact BK299.out) hb)
       have n10_ := am (bb (g := gb307) (o := .cells #[.slice Ao31 t300.length co31, .slice Ao35 t303.length co35, .int .i64 t306] 26 (0, 0)) (by (with_reducible repeat (first | refine bn ?_ _ | refine bd ?_ | refine ba ?_ _)); exact BK307.out) hb)
       have n11_ := am (bb (g := gb316) (o := .cells #[.slice Ao38 t308.length co38, .slice Ao43 t311.length co43, .int .i64 t314] 26 (0, 0)) (by (with_reducible repeat (first | refine bn ?_ _ | refine bd ?_ | refine ba ?_ _)); exact BK316.out) hb)
       have n12_ := am (bs (by repeat (first | (with_reducible first | exact HB.out | apply wa | apply wn | apply wd | refine ws ?_ GE282.out | refine ws ?_ GE299.out | refine ws ?_ GE307.out | refine ws ?_ GE316.out) | exact HB.out)) hb)
       clear HO_300000
       clear HO_300001
       clear HO_308000
       clear HO_308001
       clear HO_317000
       clear HO_317001
       clear HO320
       clear HO323
       clear BK282
       clear BK299
       clear BK307
       clear BK316
       clear HB
       have HO_300000 := n0_
       have HO_300001 := n1_
       have HO_308000 := n2_
       have HO_308001 := n3_
       have HO_317000 := n4_
       have HO_317001 := n5_
       have HO320 := n6_
       have HO323 := n7_
       have BK282 := n8_
       have BK299 := n9_
       have BK307 := n10_
       have BK316 := n11_
       have HB := n12_
       clear n0_ n1_ n2_ n3_ n4_ n5_ n6_ n7_ n8_ n9_ n10_ n11_ n12_
       (try clear hb)
       (try clear hb2)
       (try clear hk)
       (try clear hi)
       refine hK.out _ _ ⟨(blk_cell BK307.out 0).trans rfl, (blk_cell BK307.out 1).trans rfl, (blk_cell BK307.out 2).trans rfl, (blk_cell BK282.out 0).trans rfl, (blk_cell BK282.out 1).trans rfl, (blk_cell BK282.out 2).trans rfl⟩ (fun hHeld => ?_)
       clear hK K
       refine norm_ (a' := ?_) ?_ ?_
       rotate_left
       ·show Act.put _ (some 51) _ = _
        simp only [Act.put, List.setIfInBounds_toArray, List.set_cons_zero, List.set_cons_succ, i64_w, i32_w]
        rfl
       refine pure_ (i := 4) (N := some 52) (v := ?_) (a' := ?_) #[true, true, true, true, true] rfl rfl (by kernel_rfl) (fun _ _ _ h => h) (Or.inl ⟨by rfl, ?_⟩) ?_ ?_
       rotate_left
       ·intro w'
        go_simp
        with_reducible rfl
       rotate_left
       ·simp only [Act.put, List.setIfInBounds_toArray, List.set_cons_zero, List.set_cons_succ, i64_w, i32_w]
        rfl
       refine done_ (by kernel_rfl) ?_
       have hnb73 := NB307_282.out
       have hnc73 := NB282_307.out
       have hnb74 := NB307_299.out
       have hnc74 := NB299_307.out
       have hnb75 := NB307_316.out
       have hnc75 := NB316_307.out
       have hcz76_0 : w72.cell? ⟨gb307, 0, none⟩ = some (.slice Ao31 t300.length co31) := (blk_cell BK307.out 0).trans rfl
       have hcz76_1 : w72.cell? ⟨gb307, 1, none⟩ = some (.slice Ao35 t303.length co35) := (blk_cell BK307.out 1).trans rfl
       have hcz76_2 : w72.cell? ⟨gb307, 2, none⟩ = some (.int .i64 t306) := (blk_cell BK307.out 2).trans rfl
       have hfz76_0 := blk_frozen BK307.out 0
       have hfz76_1 := blk_frozen BK307.out 1
       have hfz76_2 := blk_frozen BK307.out 2
       go_upto_region 16 with (first | ((with_reducible refine gate_callee (f := 30) rfl ?_); refine goesL_ (some 55) rfl rfl Try.func30 (by kernel_rfl) rfl #[.agg #[.slice Ao31 t300.length co31, .slice Ao35 t303.length co35, .int .i64 t306], .int .i64 1] rfl (by (try simp only [List.map_toArray, List.map_cons, List.map_nil]); first | done | rfl | (simp only [List.length_drop, List.length_take]; rfl)) ?_; (with_reducible refine (laws_markTable.calls kj13 (fun k_ => some k_ = (.slice Ao31 t300.length co31 : Value).ownBlock) (.slice Ao31 t300.length co31) t300 (fun k_ => some k_ = (.slice Ao35 t303.length co35 : Value).ownBlock) (.slice Ao35 t303.length co35) t303 t306 1 t326 t327 t328 w _ ?side1 ?side2 ?side3 ?side4 ?side5 A66.out).mono ?_); (case side1 => repeat (first | (with_reducible first | exact HB.out | apply wa | apply wn | apply wd | refine ws ?_ GE282.out | refine ws ?_ GE299.out | refine ws ?_ GE307.out | refine ws ?_ GE316.out) | exact HB.out)); (case side2 => exact Kd.R_tight rfl HO_308000.out); (case side3 => first | exact fun k_ e_ => (HO_308000.out.1 k_ e_.symm).1.1.2.2.1 | exact fun k_ e_ hs_ => by have hh_ := HO_308000.out.1 k_ e_.symm; revert hh_; simp [hs_]); (case side4 => exact Kd.R_tight rfl HO_308001.out); (case side5 => first | exact fun k_ e_ => (HO_308001.out.1 k_ e_.symm).1.1.2.2.1 | exact fun k_ e_ hs_ => by have hh_ := HO_308001.out.1 k_ e_.symm; revert hh_; simp [hs_]); rintro e w77 ⟨rfl, hy0, hy1, hb, hkp⟩; refine ⟨_, rfl, ?_⟩; have n0_ := am (rm (ok' := fun k_ => some k_ ≠ (.slice Ao27 t294.length co27 : Value).ownBlock ∧ some k_ ≠ (.slice Ao31 t300.length co31 : Value).ownBlock ∧ some k_ ≠ (.slice Ao35 t303.length co35 : Value).ownBlock ∧ some k_ ≠ (.slice Ao38 t308.length co38 : Value).ownBlock ∧ some k_ ≠ (.slice Ao43 t311.length co43 : Value).ownBlock ∧ some k_ ≠ (.slice Ao70 t318.length co70 : Value).ownBlock ∧ some k_ ≠ (.slice Ao71 t321.length co71 : Value).ownBlock) (rk (HO_300000.out) hkp (fun k_ hk_ hs_ => by rcases hs_ with e_ | e_ <;> (revert hk_; simp [e_]))) (fun k_ hk_ => by simp [hk_])); have n1_ := am (rm (ok' := fun k_ => some k_ ≠ (.slice Ao24 t291.length co24 : Value).ownBlock ∧ some k_ ≠ (.slice Ao31 t300.length co31 : Value).ownBlock ∧ some k_ ≠ (.slice Ao35 t303.length co35 : Value).ownBlock ∧ some k_ ≠ (.slice Ao38 t308.length co38 : Value).ownBlock ∧ some k_ ≠ (.slice Ao43 t311.length co43 : Value).ownBlock ∧ some k_ ≠ (.slice Ao70 t318.length co70 : Value).ownBlock ∧ some k_ ≠ (.slice Ao71 t321.length co71 : Value).ownBlock) (rk (HO_300001.out) hkp (fun k_ hk_ hs_ => by rcases hs_ with e_ | e_ <;> (revert hk_; simp [e_]))) (fun k_ hk_ => by simp [hk_])); have n2_ := am (Kd.R_reok rfl hy0 (fun k_ e_ => HO_308000.out.1 k_ e_)); have n3_ := am (Kd.R_reok rfl hy1 (fun k_ e_ => HO_308001.out.1 k_ e_)); have n4_ := am (rm (ok' := fun k_ => some k_ ≠ (.slice Ao24 t291.length co24 : Value).ownBlock ∧ some k_ ≠ (.slice Ao27 t294.length co27 : Value).ownBlock ∧ some k_ ≠ (.slice Ao31 t300.length co31 : Value).ownBlock ∧ some k_ ≠ (.slice Ao35 t303.length co35 : Value).ownBlock ∧ some k_ ≠ (.slice Ao43 t311.length co43 : Value).ownBlock ∧ some k_ ≠ (.slice Ao70 t318.length co70 : Value).ownBlock ∧ some k_ ≠ (.slice Ao71 t321.length co71 : Value).ownBlock) (rk (HO_317000.out) hkp (fun k_ hk_ hs_ => by rcases hs_ with e_ | e_ <;> (revert hk_; simp [e_]))) (fun k_ hk_ => by simp [hk_])); have n5_ := am (rm (ok' := fun k_ => some k_ ≠ (.slice Ao24 t291.length co24 : Value).ownBlock ∧ some k_ ≠ (.slice Ao27 t294.length co27 : Value).ownBlock ∧ some k_ ≠ (.slice Ao31 t300.length co31 : Value).ownBlock ∧ some k_ ≠ (.slice Ao35 t303.length co35 : Value).ownBlock ∧ some k_ ≠ (.slice Ao38 t308.length co38 : Value).ownBlock ∧ some k_ ≠ (.slice Ao70 t318.length co70 : Value).ownBlock ∧ some k_ ≠ (.slice Ao71 t321.length co71 : Value).ownBlock) (rk (HO_317001.out) hkp (fun k_ hk_ hs_ => by rcases hs_ with e_ | e_ <;> (revert hk_; simp [e_]))) (fun k_ hk_ => by simp [hk_])); have n6_ := am (bk (by (with_reducible repeat (first | refine bn ?_ _ | refine bd ?_ | refine ba ?_ _)); exact BK282.out) hkp (fun hs_ => Or.elim hs_ (fun e_ => (fun e_ => (Kd.R_ne HO_308000.out BK282.out (by decide)) e_) e_) (fun e_ => (fun e_ => (Kd.R_ne HO_308001.out BK282.out (by decide)) e_) e_))); have n7_ := am (bk (by (with_reducible repeat (first | refine bn ?_ _ | refine bd ?_ | refine ba ?_ _)); exact BK299.out) hkp (fun hs_ => Or.elim hs_ (fun e_ => (fun e_ => (Kd.R_ne HO_308000.out BK299.out (by decide)) e_) e_) (fun e_ => (fun e_ => (Kd.R_ne HO_308001.out BK299.out (by decide)) e_) e_))); have n8_ := am (bk (by (with_reducible repeat (first | refine bn ?_ _ | refine bd ?_ | refine ba ?_ _)); exact BK307.out) hkp (fun hs_ => Or.elim hs_ (fun e_ => (fun e_ => (Kd.R_ne HO_308000.out BK307.out (by decide)) e_) e_) (fun e_ => (fun e_ => (Kd.R_ne HO_308001.out BK307.out (by decide)) e_) e_))); have n9_ := am (bk (by (with_reducible repeat (first | refine bn ?_ _ | refine bd ?_ | refine ba ?_ _)); exact BK316.out) hkp (fun hs_ => Or.elim hs_ (fun e_ => (fun e_ => (Kd.R_ne HO_308000.out BK316.out (by decide)) e_) e_) (fun e_ => (fun e_ => (Kd.R_ne HO_308001.out BK316.out (by decide)) e_) e_))); have n10_ := am (rm (ok' := fun k_ => some k_ ≠ (.slice Ao24 t291.length co24 : Value).ownBlock ∧ some k_ ≠ (.slice Ao27 t294.length co27 : Value).ownBlock ∧ some k_ ≠ (.slice Ao31 t300.length co31 : Value).ownBlock ∧ some k_ ≠ (.slice Ao35 t303.length co35 : Value).ownBlock ∧ some k_ ≠ (.slice Ao38 t308.length co38 : Value).ownBlock ∧ some k_ ≠ (.slice Ao43 t311.length co43 : Value).ownBlock ∧ some k_ ≠ (.slice Ao71 t321.length co71 : Value).ownBlock) (rk (HO320.out) hkp (fun k_ hk_ hs_ => by rcases hs_ with e_ | e_ <;> (revert hk_; simp [e_]))) (fun k_ hk_ => by simp [hk_])); have n11_ := am (rm (ok' := fun k_ => some k_ ≠ (.slice Ao24 t291.length co24 : Value).ownBlock ∧ some k_ ≠ (.slice Ao27 t294.length co27 : Value).ownBlock ∧ some k_ ≠ (.slice Ao31 t300.length co31 : Value).ownBlock ∧ some k_ ≠ (.slice Ao35 t303.length co35 : Value).ownBlock ∧ some k_ ≠ (.slice Ao38 t308.length co38 : Value).ownBlock ∧ some k_ ≠ (.slice Ao43 t311.length co43 : Value).ownBlock ∧ some k_ ≠ (.slice Ao70 t318.length co70 : Value).ownBlock) (rk (HO323.out) hkp (fun k_ hk_ hs_ => by rcases hs_ with e_ | e_ <;> (revert hk_; simp [e_]))) (fun k_ hk_ => by simp [hk_])); have n12_ := am (hb); clear HO_300000; clear HO_300001; clear HO_308000; clear HO_308001; clear HO_317000; clear HO_317001; clear BK282; clear BK299; clear BK307; clear BK316; clear HO320; clear HO323; clear HB; have HO_300000 := n0_; have HO_300001 := n1_; have HO_308000 := n2_; have HO_308001 := n3_; have HO_317000 := n4_; have HO_317001 := n5_; have BK282 := n6_; have BK299 := n7_; have BK307 := n8_; have BK316 := n9_; have HO320 := n10_; have HO323 := n11_; have HB := n12_; clear n0_ n1_ n2_ n3_ n4_ n5_ n6_ n7_ n8_ n9_ n10_ n11_ n12_; (try clear hb); (try clear hkp); (try clear hy0); (try clear hy1)))
       (try simp only [Act.put, List.setIfInBounds_toArray, List.set_cons_zero, List.set_cons_succ])
       go_cut [68] (fun v68 wc => ∃ (kq : Nat) (x68_66 : Bool), v68 = .bool x68_66 ∧ Aside0 (laws_FnExactTakeKey.j1 kq a1 t298 x68_66 l0_0 l0_1 a0_2 t291 t294 t297 t308 t311 t314 = some r) ∧ Aside0 (kq ≤ kj13) ∧ Aside0 (Kd.R k57 57 wc w.heap.size (fun k_ => some k_ ≠ ((.slice Ao27 t294.length co27) : Value).ownBlock ∧ some k_ ≠ ((.slice Ao31 t300.length co31) : Value).ownBlock ∧ some k_ ≠ ((.slice Ao35 t303.length co35) : Value).ownBlock ∧ some k_ ≠ ((.slice Ao38 t308.length co38) : Value).ownBlock ∧ some k_ ≠ ((.slice Ao43 t311.length co43) : Value).ownBlock) (.slice Ao24 t291.length co24) t291) ∧ Aside0 (Kd.R k57 57 wc w.heap.size (fun k_ => some k_ ≠ ((.slice Ao24 t291.length co24) : Value).ownBlock ∧ some k_ ≠ ((.slice Ao31 t300.length co31) : Value).ownBlock ∧ some k_ ≠ ((.slice Ao35 t303.length co35) : Value).ownBlock ∧ some k_ ≠ ((.slice Ao38 t308.length co38) : Value).ownBlock ∧ some k_ ≠ ((.slice Ao43 t311.length co43) : Value).ownBlock) (.slice Ao27 t294.length co27) t294) ∧ Aside0 (Kd.R k57 57 wc w.heap.size (fun k_ => some k_ ≠ ((.slice Ao24 t291.length co24) : Value).ownBlock ∧ some k_ ≠ ((.slice Ao27 t294.length co27) : Value).ownBlock ∧ some k_ ≠ ((.slice Ao35 t303.length co35) : Value).ownBlock ∧ some k_ ≠ ((.slice Ao38 t308.length co38) : Value).ownBlock ∧ some k_ ≠ ((.slice Ao43 t311.length co43) : Value).ownBlock) (.slice Ao31 t300.length co31) t327) ∧ Aside0 (Kd.R k57 57 wc w.heap.size (fun k_ => some k_ ≠ ((.slice Ao24 t291.length co24) : Value).ownBlock ∧ some k_ ≠ ((.slice Ao27 t294.length co27) : Value).ownBlock ∧ some k_ ≠ ((.slice Ao31 t300.length co31) : Value).ownBlock ∧ some k_ ≠ ((.slice Ao38 t308.length co38) : Value).ownBlock ∧ some k_ ≠ ((.slice Ao43 t311.length co43) : Value).ownBlock) (.slice Ao35 t303.length co35) t328) ∧ Aside0 (Kd.R k57 57 wc w.heap.size (fun k_ => some k_ ≠ ((.slice Ao24 t291.length co24) : Value).ownBlock ∧ some k_ ≠ ((.slice Ao27 t294.length co27) : Value).ownBlock ∧ some k_ ≠ ((.slice Ao31 t300.length co31) : Value).ownBlock ∧ some k_ ≠ ((.slice Ao35 t303.length co35) : Value).ownBlock ∧ some k_ ≠ ((.slice Ao43 t311.length co43) : Value).ownBlock) (.slice Ao38 t308.length co38) t308) ∧ Aside0 (Kd.R k57 57 wc w.heap.size (fun k_ => some k_ ≠ ((.slice Ao24 t291.length co24) : Value).ownBlock ∧ some k_ ≠ ((.slice Ao27 t294.length co27) : Value).ownBlock ∧ some k_ ≠ ((.slice Ao31 t300.length co31) : Value).ownBlock ∧ some k_ ≠ ((.slice Ao35 t303.length co35) : Value).ownBlock ∧ some k_ ≠ ((.slice Ao38 t308.length co38) : Value).ownBlock) (.slice Ao43 t311.length co43) t311) ∧ Aside0 (wc.heap[gb282]? = some (.cells #[(.slice A0_0 l0_0.length c0_0), (.slice A0_1 l0_1.length c0_1), .int .i64 a0_2] 42 (0, 0))) ∧ Aside0 (wc.heap[gb299]? = some (.cells #[(.slice Ao24 t291.length co24), (.slice Ao27 t294.length co27), .int .i64 t297] 26 (0, 0))) ∧ Aside0 (wc.heap[gb307]? = some (.cells #[(.slice Ao31 t300.length co31), (.slice Ao35 t303.length co35), .int .i64 t306] 26 (0, 0))) ∧ Aside0 (wc.heap[gb316]? = some (.cells #[(.slice Ao38 t308.length co38), (.slice Ao43 t311.length co43), .int .i64 t314] 26 (0, 0))) ∧ Aside0 (Below w.heap.size w wc))
       case first =>
        have H := HC67.out
        clear HC67
        by_cases c78 : t326 < 0
        ·rw [if_pos c78] at H
         have c78b0 : decide (t326 < 0) = true := decide_eq_true c78
         clear c78
         (first | rw [c78b0] | (simp only [i64_w, i32_w]; rw [c78b0]) | skip)
         have H' := am H
         clear H
         go_wp2
         go_meet
         case rel => exact ⟨_, (true), (by first | rfl | (simp; done) | (simp [*]; done) | (simp; generalize ByteArray.toList _ = z; cases z <;> rfl)), H', ⟨by have := HJ13.out; first | omega | exact Nat.le_refl _⟩, ⟨by (with_reducible repeat (first | apply ra | apply rn | apply rd)); exact rm HO_300000.out (fun _ hk => by simp [hk])⟩, ⟨by (with_reducible repeat (first | apply ra | apply rn | apply rd)); exact rm HO_300001.out (fun _ hk => by simp [hk])⟩, ⟨by (with_reducible repeat (first | apply ra | apply rn | apply rd)); exact rm HO_308000.out (fun _ hk => by simp [hk])⟩, ⟨by (with_reducible repeat (first | apply ra | apply rn | apply rd)); exact rm HO_308001.out (fun _ hk => by simp [hk])⟩, ⟨by (with_reducible repeat (first | apply ra | apply rn | apply rd)); exact rm HO_317000.out (fun _ hk => by simp [hk])⟩, ⟨by (with_reducible repeat (first | apply ra | apply rn | apply rd)); exact rm HO_317001.out (fun _ hk => by simp [hk])⟩, ⟨by (with_reducible repeat (first | refine bn ?_ _ | refine bd ?_ | refine ba ?_ _)); exact BK282.out⟩, ⟨by (with_reducible repeat (first | refine bn ?_ _ | refine bd ?_ | refine ba ?_ _)); exact BK299.out⟩, ⟨by (with_reducible repeat (first | refine bn ?_ _ | refine bd ?_ | refine ba ?_ _)); exact BK307.out⟩, ⟨by (with_reducible repeat (first | refine bn ?_ _ | refine bd ?_ | refine ba ?_ _)); exact BK316.out⟩, ⟨by repeat (first | (with_reducible first | exact HB.out | apply wa | apply wn | apply wd | refine ws ?_ GE282.out | refine ws ?_ GE299.out | refine ws ?_ GE307.out | refine ws ?_ GE316.out) | exact HB.out)⟩⟩
        ·rw [if_neg c78] at H
         have c78b0 : decide (t326 < 0) = false := decide_eq_false c78
         clear c78
         (first | rw [c78b0] | (simp only [i64_w, i32_w]; rw [c78b0]) | skip)
         replace H := Option.bind_eq_some_iff.mp H
         obtain ⟨t329, A790, H⟩ := H
         replace H : (if t329 = true then (laws_FnExactTakeKey.j1 kj13 a1 t298 (t315 != t298) l0_0 l0_1 a0_2 t291 t294 t297 t308 t311 t314) else (laws_FnExactTakeKey.j1 kj13 a1 t298 true l0_0 l0_1 a0_2 t291 t294 t297 t308 t311 t314)) = some r := H
         have A79 := am A790
         clear A790
         by_cases c80 : t329 = true
         ·subst c80
          have H1 : (laws_FnExactTakeKey.j1 kj13 a1 t298 (t315 != t298) l0_0 l0_1 a0_2 t291 t294 t297 t308 t311 t314) = some r := by rw [if_pos rfl] at H; exact H
          clear H
          have H := H1
          clear H1
          have H' := am H
          clear H
          have hnb81 := NB316_282.out
          have hnc81 := NB282_316.out
          have hnb82 := NB316_299.out
          have hnc82 := NB299_316.out
          have hnb83 := NB316_307.out
          have hnc83 := NB307_316.out
          have hcz84_0 : w77.cell? ⟨gb316, 0, none⟩ = some (.slice Ao38 t308.length co38) := (blk_cell BK316.out 0).trans rfl
          have hcz84_1 : w77.cell? ⟨gb316, 1, none⟩ = some (.slice Ao43 t311.length co43) := (blk_cell BK316.out 1).trans rfl
          have hcz84_2 : w77.cell? ⟨gb316, 2, none⟩ = some (.int .i64 t314) := (blk_cell BK316.out 2).trans rfl
          have hfz84_0 := blk_frozen BK316.out 0
          have hfz84_1 := blk_frozen BK316.out 1
          have hfz84_2 := blk_frozen BK316.out 2
          have hnb85 := NB299_282.out
          have hnc85 := NB282_299.out
          have hnb86 := NB299_307.out
          have hnc86 := NB307_299.out
          have hcz87_0 : w77.cell? ⟨gb299, 0, none⟩ = some (.slice Ao24 t291.length co24) := (blk_cell BK299.out 0).trans rfl
          have hcz87_1 : w77.cell? ⟨gb299, 1, none⟩ = some (.slice Ao27 t294.length co27) := (blk_cell BK299.out 1).trans rfl
          have hcz87_2 : w77.cell? ⟨gb299, 2, none⟩ = some (.int .i64 t297) := (blk_cell BK299.out 2).trans rfl
          have hfz87_0 := blk_frozen BK299.out 0
          have hfz87_1 := blk_frozen BK299.out 1
          have hfz87_2 := blk_frozen BK299.out 2
          go_wp2_with (first | (go_at_call 27; (with_reducible refine (laws_eqTable.calls kj13 _ _ t308 _ _ t311 t314 _ _ t291 _ _ t294 t297 true _ ?side1 ?side2 ?side3 ?side4 ?side5 ?side6 ?side7 ?side8 A79.out).mono ?_); (case side1 => repeat (first | exact (rr HO_317000.out).2.2 | (with_reducible refine Kd.C_alloc ?_ _) | (with_reducible refine Kd.C_drewN ?_ _) | (with_reducible refine Kd.C_drew ?_))); (case side2 => exact (rr HO_317000.out).2.1); (case side3 => repeat (first | exact (rr HO_317001.out).2.2 | (with_reducible refine Kd.C_alloc ?_ _) | (with_reducible refine Kd.C_drewN ?_ _) | (with_reducible refine Kd.C_drew ?_))); (case side4 => exact (rr HO_317001.out).2.1); (case side5 => repeat (first | exact (rr HO_300000.out).2.2 | (with_reducible refine Kd.C_alloc ?_ _) | (with_reducible refine Kd.C_drewN ?_ _) | (with_reducible refine Kd.C_drew ?_))); (case side6 => exact (rr HO_300000.out).2.1); (case side7 => repeat (first | exact (rr HO_300001.out).2.2 | (with_reducible refine Kd.C_alloc ?_ _) | (with_reducible refine Kd.C_drewN ?_ _) | (with_reducible refine Kd.C_drew ?_))); (case side8 => exact (rr HO_300001.out).2.1); rintro e w88 ⟨rfl, hb⟩; have n0_ := am (rb (by (with_reducible repeat (first | apply ra | apply rn | apply rd)); exact HO_300000.out) hb); have n1_ := am (rb (by (with_reducible repeat (first | apply ra | apply rn | apply rd)); exact HO_300001.out) hb); have n2_ := am (rb (by (with_reducible repeat (first | apply ra | apply rn | apply rd)); exact HO_308000.out) hb); have n3_ := am (rb (by (with_reducible repeat (first | apply ra | apply rn | apply rd)); exact HO_308001.out) hb); have n4_ := am (rb (by (with_reducible repeat (first | apply ra | apply rn | apply rd)); exact HO_317000.out) hb); have n5_ := am (rb (by (with_reducible repeat (first | apply ra | apply rn | apply rd)); exact HO_317001.out) hb); have n6_ := am (rb (by (with_reducible repeat (first | apply ra | apply rn | apply rd)); exact HO320.out) hb); have n7_ := am (rb (by (with_reducible repeat (first | apply ra | apply rn | apply rd)); exact HO323.out) hb); have n8_ := am (bb (g := gb282) (o := .cells #[.slice A0_0 l0_0.length c0_0, .slice A0_1 l0_1.length c0_1, .int .i64 a0_2] 42 (0, 0)) (by (with_reducible repeat (first | refine bn ?_ _ | refine bd ?_ | refine ba ?_ _)); exact BK282.out) hb); have n9_ := am (bb (g := gb299) (o := .cells #[.slice Ao24 t291.length co24, .slice Ao27 t294.length co27, .int .i64 t297] 26 (0, 0)) (by (with_reducible repeat (first | refine bn ?_ _ | refine bd ?_ | refine ba ?_ _)); exact BK299.out) hb); have n10_ := am (bb (g := gb307) (o := .cells #[.slice Ao31 t300.length co31, .slice Ao35 t303.length co35, .int .i64 t306] 26 (0, 0)) (by (with_reducible repeat (first | refine bn ?_ _ | refine bd ?_ | refine ba ?_ _)); exact BK307.out) hb); have n11_ := am (bb (g := gb316) (o := .cells #[.slice Ao38 t308.length co38, .slice Ao43 t311.length co43, .int .i64 t314] 26 (0, 0)) (by (with_reducible repeat (first | refine bn ?_ _ | refine bd ?_ | refine ba ?_ _)); exact BK316.out) hb); have n12_ := am (bs (by repeat (first | (with_reducible first | exact HB.out | apply wa | apply wn | apply wd | refine ws ?_ GE282.out | refine ws ?_ GE299.out | refine ws ?_ GE307.out | refine ws ?_ GE316.out) | exact HB.out)) hb); clear HO_300000; clear HO_300001; clear HO_308000; clear HO_308001; clear HO_317000; clear HO_317001; clear HO320; clear HO323; clear BK282; clear BK299; clear BK307; clear BK316; clear HB; have HO_300000 := n0_; have HO_300001 := n1_; have HO_308000 := n2_; have HO_308001 := n3_; have HO_317000 := n4_; have HO_317001 := n5_; have HO320 := n6_; have HO323 := n7_; have BK282 := n8_; have BK299 := n9_; have BK307 := n10_; have BK316 := n11_; have HB := n12_; clear n0_ n1_ n2_ n3_ n4_ n5_ n6_ n7_ n8_ n9_ n10_ n11_ n12_; (try clear hb); (try clear hb2); (try clear hk); (try clear hi)))
          go_meet
          case rel => exact ⟨_, ((t315 != t298)), (by first | rfl | (simp; done) | (simp [*]; done) | (simp; generalize ByteArray.toList _ = z; cases z <;> rfl)), H', ⟨by have := HJ13.out; first | omega | exact Nat.le_refl _⟩, ⟨by (with_reducible repeat (first | apply ra | apply rn | apply rd)); exact rm HO_300000.out (fun _ hk => by simp [hk])⟩, ⟨by (with_reducible repeat (first | apply ra | apply rn | apply rd)); exact rm HO_300001.out (fun _ hk => by simp [hk])⟩, ⟨by (with_reducible repeat (first | apply ra | apply rn | apply rd)); exact rm HO_308000.out (fun _ hk => by simp [hk])⟩, ⟨by (with_reducible repeat (first | apply ra | apply rn | apply rd)); exact rm HO_308001.out (fun _ hk => by simp [hk])⟩, ⟨by (with_reducible repeat (first | apply ra | apply rn | apply rd)); exact rm HO_317000.out (fun _ hk => by simp [hk])⟩, ⟨by (with_reducible repeat (first | apply ra | apply rn | apply rd)); exact rm HO_317001.out (fun _ hk => by simp [hk])⟩, ⟨by (with_reducible repeat (first | refine bn ?_ _ | refine bd ?_ | refine ba ?_ _)); exact BK282.out⟩, ⟨by (with_reducible repeat (first | refine bn ?_ _ | refine bd ?_ | refine ba ?_ _)); exact BK299.out⟩, ⟨by (with_reducible repeat (first | refine bn ?_ _ | refine bd ?_ | refine ba ?_ _)); exact BK307.out⟩, ⟨by (with_reducible repeat (first | refine bn ?_ _ | refine bd ?_ | refine ba ?_ _)); exact BK316.out⟩, ⟨by repeat (first | (with_reducible first | exact HB.out | apply wa | apply wn | apply wd | refine ws ?_ GE282.out | refine ws ?_ GE299.out | refine ws ?_ GE307.out | refine ws ?_ GE316.out) | exact HB.out)⟩⟩
         ·replace c80 := Bool.eq_false_iff.mpr c80
          subst c80
          have H1 : (laws_FnExactTakeKey.j1 kj13 a1 t298 true l0_0 l0_1 a0_2 t291 t294 t297 t308 t311 t314) = some r := by rw [if_neg (show ¬ (false = true) by decide)] at H; exact H
          clear H
          have H := H1
          clear H1
          have H' := am H
          clear H
          have hnb89 := NB316_282.out
          have hnc89 := NB282_316.out
          have hnb90 := NB316_299.out
          have hnc90 := NB299_316.out
          have hnb91 := NB316_307.out
          have hnc91 := NB307_316.out
          have hcz92_0 : w77.cell? ⟨gb316, 0, none⟩ = some (.slice Ao38 t308.length co38) := (blk_cell BK316.out 0).trans rfl
          have hcz92_1 : w77.cell? ⟨gb316, 1, none⟩ = some (.slice Ao43 t311.length co43) := (blk_cell BK316.out 1).trans rfl
          have hcz92_2 : w77.cell? ⟨gb316, 2, none⟩ = some (.int .i64 t314) := (blk_cell BK316.out 2).trans rfl
          have hfz92_0 := blk_frozen BK316.out 0
          have hfz92_1 := blk_frozen BK316.out 1
          have hfz92_2 := blk_frozen BK316.out 2
          have hnb93 := NB299_282.out
          have hnc93 := NB282_299.out
          have hnb94 := NB299_307.out
          have hnc94 := NB307_299.out
          have hcz95_0 : w77.cell? ⟨gb299, 0, none⟩ = some (.slice Ao24 t291.length co24) := (blk_cell BK299.out 0).trans rfl
          have hcz95_1 : w77.cell? ⟨gb299, 1, none⟩ = some (.slice Ao27 t294.length co27) := (blk_cell BK299.out 1).trans rfl
          have hcz95_2 : w77.cell? ⟨gb299, 2, none⟩ = some (.int .i64 t297) := (blk_cell BK299.out 2).trans rfl
          have hfz95_0 := blk_frozen BK299.out 0
          have hfz95_1 := blk_frozen BK299.out 1
          have hfz95_2 := blk_frozen BK299.out 2
          go_wp2_with (first | (go_at_call 27; (with_reducible refine (laws_eqTable.calls kj13 _ _ t308 _ _ t311 t314 _ _ t291 _ _ t294 t297 false _ ?side1 ?side2 ?side3 ?side4 ?side5 ?side6 ?side7 ?side8 A79.out).mono ?_); (case side1 => repeat (first | exact (rr HO_317000.out).2.2 | (with_reducible refine Kd.C_alloc ?_ _) | (with_reducible refine Kd.C_drewN ?_ _) | (with_reducible refine Kd.C_drew ?_))); (case side2 => exact (rr HO_317000.out).2.1); (case side3 => repeat (first | exact (rr HO_317001.out).2.2 | (with_reducible refine Kd.C_alloc ?_ _) | (with_reducible refine Kd.C_drewN ?_ _) | (with_reducible refine Kd.C_drew ?_))); (case side4 => exact (rr HO_317001.out).2.1); (case side5 => repeat (first | exact (rr HO_300000.out).2.2 | (with_reducible refine Kd.C_alloc ?_ _) | (with_reducible refine Kd.C_drewN ?_ _) | (with_reducible refine Kd.C_drew ?_))); (case side6 => exact (rr HO_300000.out).2.1); (case side7 => repeat (first | exact (rr HO_300001.out).2.2 | (with_reducible refine Kd.C_alloc ?_ _) | (with_reducible refine Kd.C_drewN ?_ _) | (with_reducible refine Kd.C_drew ?_))); (case side8 => exact (rr HO_300001.out).2.1); rintro e w96 ⟨rfl, hb⟩; have n0_ := am (rb (by (with_reducible repeat (first | apply ra | apply rn | apply rd)); exact HO_300000.out) hb); have n1_ := am (rb (by (with_reducible repeat (first | apply ra | apply rn | apply rd)); exact HO_300001.out) hb); have n2_ := am (rb (by (with_reducible repeat (first | apply ra | apply rn | apply rd)); exact HO_308000.out) hb); have n3_ := am (rb (by (with_reducible repeat (first | apply ra | apply rn | apply rd)); exact HO_308001.out) hb); have n4_ := am (rb (by (with_reducible repeat (first | apply ra | apply rn | apply rd)); exact HO_317000.out) hb); have n5_ := am (rb (by (with_reducible repeat (first | apply ra | apply rn | apply rd)); exact HO_317001.out) hb); have n6_ := am (rb (by (with_reducible repeat (first | apply ra | apply rn | apply rd)); exact HO320.out) hb); have n7_ := am (rb (by (with_reducible repeat (first | apply ra | apply rn | apply rd)); exact HO323.out) hb); have n8_ := am (bb (g := gb282) (o := .cells #[.slice A0_0 l0_0.length c0_0, .slice A0_1 l0_1.length c0_1, .int .i64 a0_2] 42 (0, 0)) (by (with_reducible repeat (first | refine bn ?_ _ | refine bd ?_ | refine ba ?_ _)); exact BK282.out) hb); have n9_ := am (bb (g := gb299) (o := .cells #[.slice Ao24 t291.length co24, .slice Ao27 t294.length co27, .int .i64 t297] 26 (0, 0)) (by (with_reducible repeat (first | refine bn ?_ _ | refine bd ?_ | refine ba ?_ _)); exact BK299.out) hb); have n10_ := am (bb (g := gb307) (o := .cells #[.slice Ao31 t300.length co31, .slice Ao35 t303.length co35, .int .i64 t306] 26 (0, 0)) (by (with_reducible repeat (first | refine bn ?_ _ | refine bd ?_ | refine ba ?_ _)); exact BK307.out) hb); have n11_ := am (bb (g := gb316) (o := .cells #[.slice Ao38 t308.length co38, .slice Ao43 t311.length co43, .int .i64 t314] 26 (0, 0)) (by (with_reducible repeat (first | refine bn ?_ _ | refine bd ?_ | refine ba ?_ _)); exact BK316.out) hb); have n12_ := am (bs (by repeat (first | (with_reducible first | exact HB.out | apply wa | apply wn | apply wd | refine ws ?_ GE282.out | refine ws ?_ GE299.out | refine ws ?_ GE307.out | refine ws ?_ GE316.out) | exact HB.out)) hb); clear HO_300000; clear HO_300001; clear HO_308000; clear HO_308001; clear HO_317000; clear HO_317001; clear HO320; clear HO323; clear BK282; clear BK299; clear BK307; clear BK316; clear HB; have HO_300000 := n0_; have HO_300001 := n1_; have HO_308000 := n2_; have HO_308001 := n3_; have HO_317000 := n4_; have HO_317001 := n5_; have HO320 := n6_; have HO323 := n7_; have BK282 := n8_; have BK299 := n9_; have BK307 := n10_; have BK316 := n11_; have HB := n12_; clear n0_ n1_ n2_ n3_ n4_ n5_ n6_ n7_ n8_ n9_ n10_ n11_ n12_; (try clear hb); (try clear hb2); (try clear hk); (try clear hi)))
          go_meet
          case rel => exact ⟨_, (true), (by first | rfl | (simp; done) | (simp [*]; done) | (simp; generalize ByteArray.toList _ = z; cases z <;> rfl)), H', ⟨by have := HJ13.out; first | omega | exact Nat.le_refl _⟩, ⟨by (with_reducible repeat (first | apply ra | apply rn | apply rd)); exact rm HO_300000.out (fun _ hk => by simp [hk])⟩, ⟨by (with_reducible repeat (first | apply ra | apply rn | apply rd)); exact rm HO_300001.out (fun _ hk => by simp [hk])⟩, ⟨by (with_reducible repeat (first | apply ra | apply rn | apply rd)); exact rm HO_308000.out (fun _ hk => by simp [hk])⟩, ⟨by (with_reducible repeat (first | apply ra | apply rn | apply rd)); exact rm HO_308001.out (fun _ hk => by simp [hk])⟩, ⟨by (with_reducible repeat (first | apply ra | apply rn | apply rd)); exact rm HO_317000.out (fun _ hk => by simp [hk])⟩, ⟨by (with_reducible repeat (first | apply ra | apply rn | apply rd)); exact rm HO_317001.out (fun _ hk => by simp [hk])⟩, ⟨by (with_reducible repeat (first | refine bn ?_ _ | refine bd ?_ | refine ba ?_ _)); exact BK282.out⟩, ⟨by (with_reducible repeat (first | refine bn ?_ _ | refine bd ?_ | refine ba ?_ _)); exact BK299.out⟩, ⟨by (with_reducible repeat (first | refine bn ?_ _ | refine bd ?_ | refine ba ?_ _)); exact BK307.out⟩, ⟨by (with_reducible repeat (first | refine bn ?_ _ | refine bd ?_ | refine ba ?_ _)); exact BK316.out⟩, ⟨by repeat (first | (with_reducible first | exact HB.out | apply wa | apply wn | apply wd | refine ws ?_ GE282.out | refine ws ?_ GE299.out | refine ws ?_ GE307.out | refine ws ?_ GE316.out) | exact HB.out)⟩⟩
       case rest =>
        clear HC67
        try clear c2
        try clear p2
        try clear c3
        try clear c3b0
        try clear c3b1
        try clear c4
        try clear c5
        try clear c6
        try clear c6b0
        try clear c7
        try clear c8
        try clear c9
        try clear c24
        try clear c25
        try clear c26
        try clear c27
        try clear c30
        try clear c32
        try clear c33
        try clear c34
        try clear c39
        try clear c40
        try clear c41
        try clear c45
        try clear c46
        try clear c47
        try clear c48
        try clear c50
        try clear c51
        try clear c54
        try clear c55
        try clear c56
        try clear c58
        try clear c59
        try clear c62
        try clear c65
        try clear c73
        try clear c74
        try clear c75
        try clear c78
        try clear c78b0
        try clear c80
        try clear c81
        try clear c82
        try clear c83
        try clear c85
        try clear c86
        try clear c89
        try clear c90
        try clear c91
        try clear c93
        try clear c94
        try clear hcz16_0
        try clear hcz16_1
        try clear hcz16_2
        try clear hcz18_0
        try clear hcz18_1
        try clear hcz18_2
        try clear hcz26_0
        try clear hcz26_1
        try clear hcz26_2
        try clear hcz28_0
        try clear hcz28_1
        try clear hcz28_2
        try clear hcz34_0
        try clear hcz34_1
        try clear hcz34_2
        try clear hcz42_0
        try clear hcz42_1
        try clear hcz42_2
        try clear hcz49_0
        try clear hcz49_1
        try clear hcz49_2
        try clear hcz52_0
        try clear hcz52_1
        try clear hcz52_2
        try clear hcz57_0
        try clear hcz57_1
        try clear hcz57_2
        try clear hcz60_0
        try clear hcz60_1
        try clear hcz60_2
        try clear hcz76_0
        try clear hcz76_1
        try clear hcz76_2
        try clear hcz84_0
        try clear hcz84_1
        try clear hcz84_2
        try clear hcz87_0
        try clear hcz87_1
        try clear hcz87_2
        try clear hcz8_0
        try clear hcz8_1
        try clear hcz8_2
        try clear hcz92_0
        try clear hcz92_1
        try clear hcz92_2
        try clear hcz95_0
        try clear hcz95_1
        try clear hcz95_2
        try clear hfz16_0
        try clear hfz16_1
        try clear hfz16_2
        try clear hfz18_0
        try clear hfz18_1
        try clear hfz18_2
        try clear hfz26_0
        try clear hfz26_1
        try clear hfz26_2
        try clear hfz28_0
        try clear hfz28_1
        try clear hfz28_2
        try clear hfz34_0
        try clear hfz34_1
        try clear hfz34_2
        try clear hfz42_0
        try clear hfz42_1
        try clear hfz42_2
        try clear hfz49_0
        try clear hfz49_1
        try clear hfz49_2
        try clear hfz52_0
        try clear hfz52_1
        try clear hfz52_2
        try clear hfz57_0
        try clear hfz57_1
        try clear hfz57_2
        try clear hfz60_0
        try clear hfz60_1
        try clear hfz60_2
        try clear hfz76_0
        try clear hfz76_1
        try clear hfz76_2
        try clear hfz84_0
        try clear hfz84_1
        try clear hfz84_2
        try clear hfz87_0
        try clear hfz87_1
        try clear hfz87_2
        try clear hfz8_0
        try clear hfz8_1
        try clear hfz8_2
        try clear hfz92_0
        try clear hfz92_1
        try clear hfz92_2
        try clear hfz95_0
        try clear hfz95_1
        try clear hfz95_2
        try clear p2
        obtain ⟨kq, x68_66, rfl, HA, HJ66, HO_300000, HO_300001, HO_308000, HO_308001, HO_317000, HO_317001, BK282, BK299, BK307, BK316, HB⟩ := hcut
        have hl308000_66 := (rr HO_308000.out).1
        rw [hl308000_66] at HO_308000
        (try simp only [hl308000_66])
        (try simp only [hl308000_66] at BK282)
        (try simp only [hl308000_66] at BK299)
        (try simp only [hl308000_66] at BK307)
        (try simp only [hl308000_66] at BK316)
        (try simp only [hl308000_66] at HO_300000)
        (try simp only [hl308000_66] at HO_300001)
        (try simp only [hl308000_66] at HO_308001)
        (try simp only [hl308000_66] at HO_317000)
        (try simp only [hl308000_66] at HO_317001)
        have hl308001_66 := (rr HO_308001.out).1
        rw [hl308001_66] at HO_308001
        (try simp only [hl308001_66])
        (try simp only [hl308001_66] at BK282)
        (try simp only [hl308001_66] at BK299)
        (try simp only [hl308001_66] at BK307)
        (try simp only [hl308001_66] at BK316)
        (try simp only [hl308001_66] at HO_300000)
        (try simp only [hl308001_66] at HO_300001)
        (try simp only [hl308001_66] at HO_308000)
        (try simp only [hl308001_66] at HO_317000)
        (try simp only [hl308001_66] at HO_317001)
        cases kq with
        | zero => exact absurd HA.out (by simp [laws_FnExactTakeKey.j1])
        | succ kj66 =>
         have H := HA.out
         clear HA
         simp only [laws_FnExactTakeKey.j1] at H
         by_cases c97 : x68_66 = true
         ·subst c97
          have H1 : (some false) = some r := by rw [if_pos rfl] at H; exact H
          clear H
          have H := H1
          clear H1
          obtain rfl := Option.some.inj H
          go_wp2
          go_ret
          exact ⟨by first | rfl | (simp [errW_none, errW_some] <;> rfl) | (simp [*, errW_none, errW_some] <;> rfl), by repeat (first | (with_reducible first | exact HB.out | apply wa | apply wn | apply wd | refine ws ?_ GE282.out | refine ws ?_ GE299.out | refine ws ?_ GE307.out | refine ws ?_ GE316.out) | exact HB.out)⟩
         ·replace c97 := Bool.eq_false_iff.mpr c97
          subst c97
          have H1 : ((laws_markTable.f kj66 t308 t311 t314 1).bind fun bt330 => ((laws_heldTable.f kj66 bt330.2.1 bt330.2.2 t314 1).bind fun t333 => (if t333 < 0 then (some false) else (if t333 = bt330.1 then ((laws_toTable.f kj66 l0_0 l0_1 a0_2).bind fun bt334 => ((impl_TakeKey.f kj66 bt334.1 bt334.2.1 bt334.2.2 a1).bind fun bt341 => ((laws_eqTable.f kj66 bt341.1 bt341.2.1 bt341.2.2.1 t291 t294 t297).bind fun t350 => (if t350 = true then (laws_FnExactTakeKey.j2 kj66 bt330.1 (bt341.2.2.2 != t298) bt330.2.1 bt330.2.2 t314) else (laws_FnExactTakeKey.j2 kj66 bt330.1 true bt330.2.1 bt330.2.2 t314))))) else (some false))))) = some r := by rw [if_neg (show ¬ (false = true) by decide)] at H; exact H
          clear H
          have H := H1
          clear H1
          replace H := Option.bind_eq_some_iff.mp H
          obtain ⟨⟨t330, t331, t332⟩, A980, H⟩ := H
          replace H : ((laws_heldTable.f kj66 t331 t332 t314 1).bind fun t333 => (if t333 < 0 then (some false) else (if t333 = t330 then ((laws_toTable.f kj66 l0_0 l0_1 a0_2).bind fun bt334 => ((impl_TakeKey.f kj66 bt334.1 bt334.2.1 bt334.2.2 a1).bind fun bt341 => ((laws_eqTable.f kj66 bt341.1 bt341.2.1 bt341.2.2.1 t291 t294 t297).bind fun t350 => (if t350 = true then (laws_FnExactTakeKey.j2 kj66 t330 (bt341.2.2.2 != t298) t331 t332 t314) else (laws_FnExactTakeKey.j2 kj66 t330 true t331 t332 t314))))) else (some false)))) = some r := H
          have A98 := am A980
          clear A980
          replace H := Option.bind_eq_some_iff.mp H
          obtain ⟨t333, A990, H⟩ := H
          replace H : (if t333 < 0 then (some false) else (if t333 = t330 then ((laws_toTable.f kj66 l0_0 l0_1 a0_2).bind fun bt334 => ((impl_TakeKey.f kj66 bt334.1 bt334.2.1 bt334.2.2 a1).bind fun bt341 => ((laws_eqTable.f kj66 bt341.1 bt341.2.1 bt341.2.2.1 t291 t294 t297).bind fun t350 => (if t350 = true then (laws_FnExactTakeKey.j2 kj66 t330 (bt341.2.2.2 != t298) t331 t332 t314) else (laws_FnExactTakeKey.j2 kj66 t330 true t331 t332 t314))))) else (some false))) = some r := H
          have A99 := am A990
          clear A990
          by_cases c100 : t333 < 0
          ·rw [if_pos c100] at H
           have c100b0 : decide (t333 < 0) = true := decide_eq_true c100
           clear c100
           obtain rfl := Option.some.inj H
           have hnb101 := NB316_282.out
           have hnc101 := NB282_316.out
           have hnb102 := NB316_299.out
           have hnc102 := NB299_316.out
           have hnb103 := NB316_307.out
           have hnc103 := NB307_316.out
           have hcz104_0 : wc.cell? ⟨gb316, 0, none⟩ = some (.slice Ao38 t308.length co38) := (blk_cell BK316.out 0).trans rfl
           have hcz104_1 : wc.cell? ⟨gb316, 1, none⟩ = some (.slice Ao43 t311.length co43) := (blk_cell BK316.out 1).trans rfl
           have hcz104_2 : wc.cell? ⟨gb316, 2, none⟩ = some (.int .i64 t314) := (blk_cell BK316.out 2).trans rfl
           have hfz104_0 := blk_frozen BK316.out 0
           have hfz104_1 := blk_frozen BK316.out 1
           have hfz104_2 := blk_frozen BK316.out 2
           go_wp2_with (first | ((with_reducible refine gate_callee (f := 30) rfl ?_); refine goesL_ (some 71) rfl rfl Try.func30 (by kernel_rfl) rfl #[.agg #[.slice Ao38 t308.length co38, .slice Ao43 t311.length co43, .int .i64 t314], .int .i64 1] rfl (by (try simp only [List.map_toArray, List.map_cons, List.map_nil]); first | done | rfl | (simp only [List.length_drop, List.length_take]; rfl)) ?_; (with_reducible refine (laws_markTable.calls kj66 (fun k_ => some k_ = (.slice Ao38 t308.length co38 : Value).ownBlock) (.slice Ao38 t308.length co38) t308 (fun k_ => some k_ = (.slice Ao43 t311.length co43 : Value).ownBlock) (.slice Ao43 t311.length co43) t311 t314 1 t330 t331 t332 w _ ?side1 ?side2 ?side3 ?side4 ?side5 A98.out).mono ?_); (case side1 => repeat (first | (with_reducible first | exact HB.out | apply wa | apply wn | apply wd | refine ws ?_ GE282.out | refine ws ?_ GE299.out | refine ws ?_ GE307.out | refine ws ?_ GE316.out) | exact HB.out)); (case side2 => exact Kd.R_tight rfl HO_317000.out); (case side3 => first | exact fun k_ e_ => (HO_317000.out.1 k_ e_.symm).2.2.2.2 | exact fun k_ e_ hs_ => by have hh_ := HO_317000.out.1 k_ e_.symm; revert hh_; simp [hs_]); (case side4 => exact Kd.R_tight rfl HO_317001.out); (case side5 => first | exact fun k_ e_ => (HO_317001.out.1 k_ e_.symm).2.2.2.2 | exact fun k_ e_ hs_ => by have hh_ := HO_317001.out.1 k_ e_.symm; revert hh_; simp [hs_]); rintro e w105 ⟨rfl, hy0, hy1, hb, hkp⟩; refine ⟨_, rfl, ?_⟩; have n0_ := am (rm (ok' := fun k_ => some k_ ≠ (.slice Ao27 t294.length co27 : Value).ownBlock ∧ some k_ ≠ (.slice Ao31 t327.length co31 : Value).ownBlock ∧ some k_ ≠ (.slice Ao35 t328.length co35 : Value).ownBlock ∧ some k_ ≠ (.slice Ao38 t308.length co38 : Value).ownBlock ∧ some k_ ≠ (.slice Ao43 t311.length co43 : Value).ownBlock) (rk (HO_300000.out) hkp (fun k_ hk_ hs_ => by rcases hs_ with e_ | e_ <;> (revert hk_; simp [e_]))) (fun k_ hk_ => by simp [hk_])); have n1_ := am (rm (ok' := fun k_ => some k_ ≠ (.slice Ao24 t291.length co24 : Value).ownBlock ∧ some k_ ≠ (.slice Ao31 t327.length co31 : Value).ownBlock ∧ some k_ ≠ (.slice Ao35 t328.length co35 : Value).ownBlock ∧ some k_ ≠ (.slice Ao38 t308.length co38 : Value).ownBlock ∧ some k_ ≠ (.slice Ao43 t311.length co43 : Value).ownBlock) (rk (HO_300001.out) hkp (fun k_ hk_ hs_ => by rcases hs_ with e_ | e_ <;> (revert hk_; simp [e_]))) (fun k_ hk_ => by simp [hk_])); have n2_ := am (rm (ok' := fun k_ => some k_ ≠ (.slice Ao24 t291.length co24 : Value).ownBlock ∧ some k_ ≠ (.slice Ao27 t294.length co27 : Value).ownBlock ∧ some k_ ≠ (.slice Ao35 t328.length co35 : Value).ownBlock ∧ some k_ ≠ (.slice Ao38 t308.length co38 : Value).ownBlock ∧ some k_ ≠ (.slice Ao43 t311.length co43 : Value).ownBlock) (rk (HO_308000.out) hkp (fun k_ hk_ hs_ => by rcases hs_ with e_ | e_ <;> (revert hk_; simp [e_]))) (fun k_ hk_ => by simp [hk_])); have n3_ := am (rm (ok' := fun k_ => some k_ ≠ (.slice Ao24 t291.length co24 : Value).ownBlock ∧ some k_ ≠ (.slice Ao27 t294.length co27 : Value).ownBlock ∧ some k_ ≠ (.slice Ao31 t327.length co31 : Value).ownBlock ∧ some k_ ≠ (.slice Ao38 t308.length co38 : Value).ownBlock ∧ some k_ ≠ (.slice Ao43 t311.length co43 : Value).ownBlock) (rk (HO_308001.out) hkp (fun k_ hk_ hs_ => by rcases hs_ with e_ | e_ <;> (revert hk_; simp [e_]))) (fun k_ hk_ => by simp [hk_])); have n4_ := am (Kd.R_reok rfl hy0 (fun k_ e_ => HO_317000.out.1 k_ e_)); have n5_ := am (Kd.R_reok rfl hy1 (fun k_ e_ => HO_317001.out.1 k_ e_)); have n6_ := am (bk (by (with_reducible repeat (first | refine bn ?_ _ | refine bd ?_ | refine ba ?_ _)); exact BK282.out) hkp (fun hs_ => Or.elim hs_ (fun e_ => (fun e_ => (Kd.R_ne HO_317000.out BK282.out (by decide)) e_) e_) (fun e_ => (fun e_ => (Kd.R_ne HO_317001.out BK282.out (by decide)) e_) e_))); have n7_ := am (bk (by (with_reducible repeat (first | refine bn ?_ _ | refine bd ?_ | refine ba ?_ _)); exact BK299.out) hkp (fun hs_ => Or.elim hs_ (fun e_ => (fun e_ => (Kd.R_ne HO_317000.out BK299.out (by decide)) e_) e_) (fun e_ => (fun e_ => (Kd.R_ne HO_317001.out BK299.out (by decide)) e_) e_))); have n8_ := am (bk (by (with_reducible repeat (first | refine bn ?_ _ | refine bd ?_ | refine ba ?_ _)); exact BK307.out) hkp (fun hs_ => Or.elim hs_ (fun e_ => (fun e_ => (Kd.R_ne HO_317000.out BK307.out (by decide)) e_) e_) (fun e_ => (fun e_ => (Kd.R_ne HO_317001.out BK307.out (by decide)) e_) e_))); have n9_ := am (bk (by (with_reducible repeat (first | refine bn ?_ _ | refine bd ?_ | refine ba ?_ _)); exact BK316.out) hkp (fun hs_ => Or.elim hs_ (fun e_ => (fun e_ => (Kd.R_ne HO_317000.out BK316.out (by decide)) e_) e_) (fun e_ => (fun e_ => (Kd.R_ne HO_317001.out BK316.out (by decide)) e_) e_))); have n10_ := am (hb); clear HO_300000; clear HO_300001; clear HO_308000; clear HO_308001; clear HO_317000; clear HO_317001; clear BK282; clear BK299; clear BK307; clear BK316; clear HB; have HO_300000 := n0_; have HO_300001 := n1_; have HO_308000 := n2_; have HO_308001 := n3_; have HO_317000 := n4_; have HO_317001 := n5_; have BK282 := n6_; have BK299 := n7_; have BK307 := n8_; have BK316 := n9_; have HB := n10_; clear n0_ n1_ n2_ n3_ n4_ n5_ n6_ n7_ n8_ n9_ n10_; (try clear hb); (try clear hkp); (try clear hy0); (try clear hy1); have hcz106_0 : w105.cell? ⟨gb316, 0, none⟩ = some (.slice Ao38 t308.length co38) := (blk_cell BK316.out 0).trans rfl; have hcz106_1 : w105.cell? ⟨gb316, 1, none⟩ = some (.slice Ao43 t311.length co43) := (blk_cell BK316.out 1).trans rfl; have hcz106_2 : w105.cell? ⟨gb316, 2, none⟩ = some (.int .i64 t314) := (blk_cell BK316.out 2).trans rfl; have hfz106_0 := blk_frozen BK316.out 0; have hfz106_1 := blk_frozen BK316.out 1; have hfz106_2 := blk_frozen BK316.out 2) | ((with_reducible refine gate_callee (f := 35) rfl ?_); refine goesL_ (some 74) rfl rfl Try.func35 (by kernel_rfl) rfl #[.agg #[.slice Ao38 t331.length co38, .slice Ao43 t332.length co43, .int .i64 t314], .int .i64 1] rfl (by (try simp only [List.map_toArray, List.map_cons, List.map_nil]); first | done | (rw [show t331.length = t308.length from (rr HO_317000.out).1.symm, show t332.length = t311.length from (rr HO_317001.out).1.symm] <;> rfl) | rfl | (simp only [List.length_drop, List.length_take]; rfl)) ?_; (with_reducible refine (laws_heldTable.calls kj66 _ _ t331 _ _ t332 t314 1 t333 _ ?side1 ?side2 ?side3 ?side4 A99.out).mono ?_); (case side1 => repeat (first | exact (rr HO_317000.out).2.2 | (with_reducible refine Kd.C_alloc ?_ _) | (with_reducible refine Kd.C_drewN ?_ _) | (with_reducible refine Kd.C_drew ?_))); (case side2 => rw [show t331.length = t308.length from (rr HO_317000.out).1.symm]; exact (rr HO_317000.out).2.1); (case side3 => repeat (first | exact (rr HO_317001.out).2.2 | (with_reducible refine Kd.C_alloc ?_ _) | (with_reducible refine Kd.C_drewN ?_ _) | (with_reducible refine Kd.C_drew ?_))); (case side4 => rw [show t332.length = t311.length from (rr HO_317001.out).1.symm]; exact (rr HO_317001.out).2.1); rintro e w107 ⟨rfl, hb⟩; refine ⟨_, rfl, ?_⟩; have n0_ := am (rb (by (with_reducible repeat (first | apply ra | apply rn | apply rd)); exact HO_300000.out) hb); have n1_ := am (rb (by (with_reducible repeat (first | apply ra | apply rn | apply rd)); exact HO_300001.out) hb); have n2_ := am (rb (by (with_reducible repeat (first | apply ra | apply rn | apply rd)); exact HO_308000.out) hb); have n3_ := am (rb (by (with_reducible repeat (first | apply ra | apply rn | apply rd)); exact HO_308001.out) hb); have n4_ := am (rb (by (with_reducible repeat (first | apply ra | apply rn | apply rd)); exact HO_317000.out) hb); have n5_ := am (rb (by (with_reducible repeat (first | apply ra | apply rn | apply rd)); exact HO_317001.out) hb); have n6_ := am (bb (g := gb282) (o := .cells #[.slice A0_0 l0_0.length c0_0, .slice A0_1 l0_1.length c0_1, .int .i64 a0_2] 42 (0, 0)) (by (with_reducible repeat (first | refine bn ?_ _ | refine bd ?_ | refine ba ?_ _)); exact BK282.out) hb); have n7_ := am (bb (g := gb299) (o := .cells #[.slice Ao24 t291.length co24, .slice Ao27 t294.length co27, .int .i64 t297] 26 (0, 0)) (by (with_reducible repeat (first | refine bn ?_ _ | refine bd ?_ | refine ba ?_ _)); exact BK299.out) hb); have n8_ := am (bb (g := gb307) (o := .cells #[.slice Ao31 t327.length co31, .slice Ao35 t328.length co35, .int .i64 t306] 26 (0, 0)) (by (with_reducible repeat (first | refine bn ?_ _ | refine bd ?_ | refine ba ?_ _)); exact BK307.out) hb); have n9_ := am (bb (g := gb316) (o := .cells #[.slice Ao38 t308.length co38, .slice Ao43 t311.length co43, .int .i64 t314] 26 (0, 0)) (by (with_reducible repeat (first | refine bn ?_ _ | refine bd ?_ | refine ba ?_ _)); exact BK316.out) hb); have n10_ := am (bs (by repeat (first | (with_reducible first | exact HB.out | apply wa | apply wn | apply wd | refine ws ?_ GE282.out | refine ws ?_ GE299.out | refine ws ?_ GE307.out | refine ws ?_ GE316.out) | exact HB.out)) hb); clear HO_300000; clear HO_300001; clear HO_308000; clear HO_308001; clear HO_317000; clear HO_317001; clear BK282; clear BK299; clear BK307; clear BK316; clear HB; have HO_300000 := n0_; have HO_300001 := n1_; have HO_308000 := n2_; have HO_308001 := n3_; have HO_317000 := n4_; have HO_317001 := n5_; have BK282 := n6_; have BK299 := n7_; have BK307 := n8_; have BK316 := n9_; have HB := n10_; clear n0_ n1_ n2_ n3_ n4_ n5_ n6_ n7_ n8_ n9_ n10_; (try clear hb); (try clear hb2); (try clear hk); (try clear hi)))
           go_ret
           exact ⟨by first | rfl | (simp [errW_none, errW_some] <;> rfl) | (simp [*, errW_none, errW_some] <;> rfl), by repeat (first | (with_reducible first | exact HB.out | apply wa | apply wn | apply wd | refine ws ?_ GE282.out | refine ws ?_ GE299.out | refine ws ?_ GE307.out | refine ws ?_ GE316.out) | exact HB.out)⟩
          ·rw [if_neg c100] at H
           have c100b0 : decide (t333 < 0) = false := decide_eq_false c100
           clear c100
           by_cases c108 : t333 = t330
           ·rw [if_pos c108] at H
            have c108b0 : (t333 == t330) = true := beq_iff_eq.mpr c108
            have c108b1 : (t333 != t330) = false := bne_eq_false_iff_eq.mpr c108
            clear c108
            replace H := Option.bind_eq_some_iff.mp H
            obtain ⟨⟨t334, t337, t340⟩, A1090, H⟩ := H
            replace H : ((impl_TakeKey.f kj66 t334 t337 t340 a1).bind fun bt341 => ((laws_eqTable.f kj66 bt341.1 bt341.2.1 bt341.2.2.1 t291 t294 t297).bind fun t350 => (if t350 = true then (laws_FnExactTakeKey.j2 kj66 t330 (bt341.2.2.2 != t298) t331 t332 t314) else (laws_FnExactTakeKey.j2 kj66 t330 true t331 t332 t314)))) = some r := H
            have A109 := am A1090
            clear A1090
            replace H := Option.bind_eq_some_iff.mp H
            obtain ⟨⟨t341, t344, t347, t348⟩, A1100, H⟩ := H
            replace H : ((laws_eqTable.f kj66 t341 t344 t347 t291 t294 t297).bind fun t350 => (if t350 = true then (laws_FnExactTakeKey.j2 kj66 t330 (t348 != t298) t331 t332 t314) else (laws_FnExactTakeKey.j2 kj66 t330 true t331 t332 t314))) = some r := H
            have A110 := am A1100
            clear A1100
            have HC111 := am H
            clear H
            have hnb112 := NB316_282.out
            have hnc112 := NB282_316.out
            have hnb113 := NB316_299.out
            have hnc113 := NB299_316.out
            have hnb114 := NB316_307.out
            have hnc114 := NB307_316.out
            have hcz115_0 : wc.cell? ⟨gb316, 0, none⟩ = some (.slice Ao38 t308.length co38) := (blk_cell BK316.out 0).trans rfl
            have hcz115_1 : wc.cell? ⟨gb316, 1, none⟩ = some (.slice Ao43 t311.length co43) := (blk_cell BK316.out 1).trans rfl
            have hcz115_2 : wc.cell? ⟨gb316, 2, none⟩ = some (.int .i64 t314) := (blk_cell BK316.out 2).trans rfl
            have hfz115_0 := blk_frozen BK316.out 0
            have hfz115_1 := blk_frozen BK316.out 1
            have hfz115_2 := blk_frozen BK316.out 2
            go_upto_region 27 with (first | ((with_reducible refine gate_callee (f := 30) rfl ?_); refine goesL_ (some 71) rfl rfl Try.func30 (by kernel_rfl) rfl #[.agg #[.slice Ao38 t308.length co38, .slice Ao43 t311.length co43, .int .i64 t314], .int .i64 1] rfl (by (try simp only [List.map_toArray, List.map_cons, List.map_nil]); first | done | rfl | (simp only [List.length_drop, List.length_take]; rfl)) ?_; (with_reducible refine (laws_markTable.calls kj66 (fun k_ => some k_ = (.slice Ao38 t308.length co38 : Value).ownBlock) (.slice Ao38 t308.length co38) t308 (fun k_ => some k_ = (.slice Ao43 t311.length co43 : Value).ownBlock) (.slice Ao43 t311.length co43) t311 t314 1 t330 t331 t332 w _ ?side1 ?side2 ?side3 ?side4 ?side5 A98.out).mono ?_); (case side1 => repeat (first | (with_reducible first | exact HB.out | apply wa | apply wn | apply wd | refine ws ?_ GE282.out | refine ws ?_ GE299.out | refine ws ?_ GE307.out | refine ws ?_ GE316.out) | exact HB.out)); (case side2 => exact Kd.R_tight rfl HO_317000.out); (case side3 => first | exact fun k_ e_ => (HO_317000.out.1 k_ e_.symm).2.2.2.2 | exact fun k_ e_ hs_ => by have hh_ := HO_317000.out.1 k_ e_.symm; revert hh_; simp [hs_]); (case side4 => exact Kd.R_tight rfl HO_317001.out); (case side5 => first | exact fun k_ e_ => (HO_317001.out.1 k_ e_.symm).2.2.2.2 | exact fun k_ e_ hs_ => by have hh_ := HO_317001.out.1 k_ e_.symm; revert hh_; simp [hs_]); rintro e w116 ⟨rfl, hy0, hy1, hb, hkp⟩; refine ⟨_, rfl, ?_⟩; have n0_ := am (rm (ok' := fun k_ => some k_ ≠ (.slice Ao27 t294.length co27 : Value).ownBlock ∧ some k_ ≠ (.slice Ao31 t327.length co31 : Value).ownBlock ∧ some k_ ≠ (.slice Ao35 t328.length co35 : Value).ownBlock ∧ some k_ ≠ (.slice Ao38 t308.length co38 : Value).ownBlock ∧ some k_ ≠ (.slice Ao43 t311.length co43 : Value).ownBlock) (rk (HO_300000.out) hkp (fun k_ hk_ hs_ => by rcases hs_ with e_ | e_ <;> (revert hk_; simp [e_]))) (fun k_ hk_ => by simp [hk_])); have n1_ := am (rm (ok' := fun k_ => some k_ ≠ (.slice Ao24 t291.length co24 : Value).ownBlock ∧ some k_ ≠ (.slice Ao31 t327.length co31 : Value).ownBlock ∧ some k_ ≠ (.slice Ao35 t328.length co35 : Value).ownBlock ∧ some k_ ≠ (.slice Ao38 t308.length co38 : Value).ownBlock ∧ some k_ ≠ (.slice Ao43 t311.length co43 : Value).ownBlock) (rk (HO_300001.out) hkp (fun k_ hk_ hs_ => by rcases hs_ with e_ | e_ <;> (revert hk_; simp [e_]))) (fun k_ hk_ => by simp [hk_])); have n2_ := am (rm (ok' := fun k_ => some k_ ≠ (.slice Ao24 t291.length co24 : Value).ownBlock ∧ some k_ ≠ (.slice Ao27 t294.length co27 : Value).ownBlock ∧ some k_ ≠ (.slice Ao35 t328.length co35 : Value).ownBlock ∧ some k_ ≠ (.slice Ao38 t308.length co38 : Value).ownBlock ∧ some k_ ≠ (.slice Ao43 t311.length co43 : Value).ownBlock) (rk (HO_308000.out) hkp (fun k_ hk_ hs_ => by rcases hs_ with e_ | e_ <;> (revert hk_; simp [e_]))) (fun k_ hk_ => by simp [hk_])); have n3_ := am (rm (ok' := fun k_ => some k_ ≠ (.slice Ao24 t291.length co24 : Value).ownBlock ∧ some k_ ≠ (.slice Ao27 t294.length co27 : Value).ownBlock ∧ some k_ ≠ (.slice Ao31 t327.length co31 : Value).ownBlock ∧ some k_ ≠ (.slice Ao38 t308.length co38 : Value).ownBlock ∧ some k_ ≠ (.slice Ao43 t311.length co43 : Value).ownBlock) (rk (HO_308001.out) hkp (fun k_ hk_ hs_ => by rcases hs_ with e_ | e_ <;> (revert hk_; simp [e_]))) (fun k_ hk_ => by simp [hk_])); have n4_ := am (Kd.R_reok rfl hy0 (fun k_ e_ => HO_317000.out.1 k_ e_)); have n5_ := am (Kd.R_reok rfl hy1 (fun k_ e_ => HO_317001.out.1 k_ e_)); have n6_ := am (bk (by (with_reducible repeat (first | refine bn ?_ _ | refine bd ?_ | refine ba ?_ _)); exact BK282.out) hkp (fun hs_ => Or.elim hs_ (fun e_ => (fun e_ => (Kd.R_ne HO_317000.out BK282.out (by decide)) e_) e_) (fun e_ => (fun e_ => (Kd.R_ne HO_317001.out BK282.out (by decide)) e_) e_))); have n7_ := am (bk (by (with_reducible repeat (first | refine bn ?_ _ | refine bd ?_ | refine ba ?_ _)); exact BK299.out) hkp (fun hs_ => Or.elim hs_ (fun e_ => (fun e_ => (Kd.R_ne HO_317000.out BK299.out (by decide)) e_) e_) (fun e_ => (fun e_ => (Kd.R_ne HO_317001.out BK299.out (by decide)) e_) e_))); have n8_ := am (bk (by (with_reducible repeat (first | refine bn ?_ _ | refine bd ?_ | refine ba ?_ _)); exact BK307.out) hkp (fun hs_ => Or.elim hs_ (fun e_ => (fun e_ => (Kd.R_ne HO_317000.out BK307.out (by decide)) e_) e_) (fun e_ => (fun e_ => (Kd.R_ne HO_317001.out BK307.out (by decide)) e_) e_))); have n9_ := am (bk (by (with_reducible repeat (first | refine bn ?_ _ | refine bd ?_ | refine ba ?_ _)); exact BK316.out) hkp (fun hs_ => Or.elim hs_ (fun e_ => (fun e_ => (Kd.R_ne HO_317000.out BK316.out (by decide)) e_) e_) (fun e_ => (fun e_ => (Kd.R_ne HO_317001.out BK316.out (by decide)) e_) e_))); have n10_ := am (hb); clear HO_300000; clear HO_300001; clear HO_308000; clear HO_308001; clear HO_317000; clear HO_317001; clear BK282; clear BK299; clear BK307; clear BK316; clear HB; have HO_300000 := n0_; have HO_300001 := n1_; have HO_308000 := n2_; have HO_308001 := n3_; have HO_317000 := n4_; have HO_317001 := n5_; have BK282 := n6_; have BK299 := n7_; have BK307 := n8_; have BK316 := n9_; have HB := n10_; clear n0_ n1_ n2_ n3_ n4_ n5_ n6_ n7_ n8_ n9_ n10_; (try clear hb); (try clear hkp); (try clear hy0); (try clear hy1); have hcz117_0 : w116.cell? ⟨gb316, 0, none⟩ = some (.slice Ao38 t308.length co38) := (blk_cell BK316.out 0).trans rfl; have hcz117_1 : w116.cell? ⟨gb316, 1, none⟩ = some (.slice Ao43 t311.length co43) := (blk_cell BK316.out 1).trans rfl; have hcz117_2 : w116.cell? ⟨gb316, 2, none⟩ = some (.int .i64 t314) := (blk_cell BK316.out 2).trans rfl; have hfz117_0 := blk_frozen BK316.out 0; have hfz117_1 := blk_frozen BK316.out 1; have hfz117_2 := blk_frozen BK316.out 2) | ((with_reducible refine gate_callee (f := 35) rfl ?_); refine goesL_ (some 74) rfl rfl Try.func35 (by kernel_rfl) rfl #[.agg #[.slice Ao38 t331.length co38, .slice Ao43 t332.length co43, .int .i64 t314], .int .i64 1] rfl (by (try simp only [List.map_toArray, List.map_cons, List.map_nil]); first | done | (rw [show t331.length = t308.length from (rr HO_317000.out).1.symm, show t332.length = t311.length from (rr HO_317001.out).1.symm] <;> rfl) | rfl | (simp only [List.length_drop, List.length_take]; rfl)) ?_; (with_reducible refine (laws_heldTable.calls kj66 _ _ t331 _ _ t332 t314 1 t333 _ ?side1 ?side2 ?side3 ?side4 A99.out).mono ?_); (case side1 => repeat (first | exact (rr HO_317000.out).2.2 | (with_reducible refine Kd.C_alloc ?_ _) | (with_reducible refine Kd.C_drewN ?_ _) | (with_reducible refine Kd.C_drew ?_))); (case side2 => rw [show t331.length = t308.length from (rr HO_317000.out).1.symm]; exact (rr HO_317000.out).2.1); (case side3 => repeat (first | exact (rr HO_317001.out).2.2 | (with_reducible refine Kd.C_alloc ?_ _) | (with_reducible refine Kd.C_drewN ?_ _) | (with_reducible refine Kd.C_drew ?_))); (case side4 => rw [show t332.length = t311.length from (rr HO_317001.out).1.symm]; exact (rr HO_317001.out).2.1); rintro e w118 ⟨rfl, hb⟩; refine ⟨_, rfl, ?_⟩; have n0_ := am (rb (by (with_reducible repeat (first | apply ra | apply rn | apply rd)); exact HO_300000.out) hb); have n1_ := am (rb (by (with_reducible repeat (first | apply ra | apply rn | apply rd)); exact HO_300001.out) hb); have n2_ := am (rb (by (with_reducible repeat (first | apply ra | apply rn | apply rd)); exact HO_308000.out) hb); have n3_ := am (rb (by (with_reducible repeat (first | apply ra | apply rn | apply rd)); exact HO_308001.out) hb); have n4_ := am (rb (by (with_reducible repeat (first | apply ra | apply rn | apply rd)); exact HO_317000.out) hb); have n5_ := am (rb (by (with_reducible repeat (first | apply ra | apply rn | apply rd)); exact HO_317001.out) hb); have n6_ := am (bb (g := gb282) (o := .cells #[.slice A0_0 l0_0.length c0_0, .slice A0_1 l0_1.length c0_1, .int .i64 a0_2] 42 (0, 0)) (by (with_reducible repeat (first | refine bn ?_ _ | refine bd ?_ | refine ba ?_ _)); exact BK282.out) hb); have n7_ := am (bb (g := gb299) (o := .cells #[.slice Ao24 t291.length co24, .slice Ao27 t294.length co27, .int .i64 t297] 26 (0, 0)) (by (with_reducible repeat (first | refine bn ?_ _ | refine bd ?_ | refine ba ?_ _)); exact BK299.out) hb); have n8_ := am (bb (g := gb307) (o := .cells #[.slice Ao31 t327.length co31, .slice Ao35 t328.length co35, .int .i64 t306] 26 (0, 0)) (by (with_reducible repeat (first | refine bn ?_ _ | refine bd ?_ | refine ba ?_ _)); exact BK307.out) hb); have n9_ := am (bb (g := gb316) (o := .cells #[.slice Ao38 t308.length co38, .slice Ao43 t311.length co43, .int .i64 t314] 26 (0, 0)) (by (with_reducible repeat (first | refine bn ?_ _ | refine bd ?_ | refine ba ?_ _)); exact BK316.out) hb); have n10_ := am (bs (by repeat (first | (with_reducible first | exact HB.out | apply wa | apply wn | apply wd | refine ws ?_ GE282.out | refine ws ?_ GE299.out | refine ws ?_ GE307.out | refine ws ?_ GE316.out) | exact HB.out)) hb); clear HO_300000; clear HO_300001; clear HO_308000; clear HO_308001; clear HO_317000; clear HO_317001; clear BK282; clear BK299; clear BK307; clear BK316; clear HB; have HO_300000 := n0_; have HO_300001 := n1_; have HO_308000 := n2_; have HO_308001 := n3_; have HO_317000 := n4_; have HO_317001 := n5_; have BK282 := n6_; have BK299 := n7_; have BK307 := n8_; have BK316 := n9_; have HB := n10_; clear n0_ n1_ n2_ n3_ n4_ n5_ n6_ n7_ n8_ n9_ n10_; (try clear hb); (try clear hb2); (try clear hk); (try clear hi); have hnb119 := NB282_299.out; have hnc119 := NB299_282.out; have hnb120 := NB282_307.out; have hnc120 := NB307_282.out; have hcz121_0 : w118.cell? ⟨gb282, 0, none⟩ = some (.slice A0_0 l0_0.length c0_0) := (blk_cell BK282.out 0).trans rfl; have hcz121_1 : w118.cell? ⟨gb282, 1, none⟩ = some (.slice A0_1 l0_1.length c0_1) := (blk_cell BK282.out 1).trans rfl; have hcz121_2 : w118.cell? ⟨gb282, 2, none⟩ = some (.int .i64 a0_2) := (blk_cell BK282.out 2).trans rfl; have hfz121_0 := blk_frozen BK282.out 0; have hfz121_1 := blk_frozen BK282.out 1; have hfz121_2 := blk_frozen BK282.out 2) | ((with_reducible refine gate_callee (f := 26) rfl ?_); refine goesL_ (some 82) rfl rfl Try.func26 (by kernel_rfl) rfl #[.agg #[.slice A0_0 l0_0.length c0_0, .slice A0_1 l0_1.length c0_1, .int .i64 a0_2]] rfl (by (try simp only [List.map_toArray, List.map_cons, List.map_nil]); first | done | rfl | (simp only [List.length_drop, List.length_take]; rfl)) ?_; (with_reducible refine (laws_toTable.calls kj66 _ _ l0_0 _ _ l0_1 a0_2 t334 t337 t340 _ ?side1 ?side2 ?side3 ?side4 A109.out).mono ?_); (case side1 => repeat (first | exact (Kd.C_below HR0_0.out HB.out) | (with_reducible refine Kd.C_alloc ?_ _) | (with_reducible refine Kd.C_drewN ?_ _) | (with_reducible refine Kd.C_drew ?_))); (case side2 => exact HC0_0.out); (case side3 => repeat (first | exact (Kd.C_below HR0_1.out HB.out) | (with_reducible refine Kd.C_alloc ?_ _) | (with_reducible refine Kd.C_drewN ?_ _) | (with_reducible refine Kd.C_drew ?_))); (case side4 => exact HC0_1.out); rintro e w122 ⟨v335, v338, rfl, ho0, ho1, hb⟩; refine ⟨_, rfl, ?_⟩; have n0_ := am (rm (ro (ro (rl (by (with_reducible repeat (first | apply ra | apply rn | apply rd)); exact HO_300000.out) hb) (re ho0)) (re ho1)) (fun _ h_ => h_.1)); have n1_ := am (rm (ro (ro (rl (by (with_reducible repeat (first | apply ra | apply rn | apply rd)); exact HO_300001.out) hb) (re ho0)) (re ho1)) (fun _ h_ => h_.1)); have n2_ := am (rm (ro (ro (rl (by (with_reducible repeat (first | apply ra | apply rn | apply rd)); exact HO_308000.out) hb) (re ho0)) (re ho1)) (fun _ h_ => h_.1)); have n3_ := am (rm (ro (ro (rl (by (with_reducible repeat (first | apply ra | apply rn | apply rd)); exact HO_308001.out) hb) (re ho0)) (re ho1)) (fun _ h_ => h_.1)); have n4_ := am (rm (ro (ro (rl (by (with_reducible repeat (first | apply ra | apply rn | apply rd)); exact HO_317000.out) hb) (re ho0)) (re ho1)) (fun _ h_ => h_.1)); have n5_ := am (rm (ro (ro (rl (by (with_reducible repeat (first | apply ra | apply rn | apply rd)); exact HO_317001.out) hb) (re ho0)) (re ho1)) (fun _ h_ => h_.1)); have n6_ := am (Kd.R_lower (Kd.R_new' (Kd.R_new' (Kd.R_new' (Kd.R_new' (Kd.R_new' (Kd.R_new' ho0 (Kd.R_lt (by (with_reducible repeat (first | apply ra | apply rn | apply rd)); exact HO_300000.out))) (Kd.R_lt (by (with_reducible repeat (first | apply ra | apply rn | apply rd)); exact HO_300001.out))) (Kd.R_lt (by (with_reducible repeat (first | apply ra | apply rn | apply rd)); exact HO_308000.out))) (Kd.R_lt (by (with_reducible repeat (first | apply ra | apply rn | apply rd)); exact HO_308001.out))) (Kd.R_lt (by (with_reducible repeat (first | apply ra | apply rn | apply rd)); exact HO_317000.out))) (Kd.R_lt (by (with_reducible repeat (first | apply ra | apply rn | apply rd)); exact HO_317001.out))) (below_size (by repeat (first | (with_reducible first | exact HB.out | apply wa | apply wn | apply wd | refine ws ?_ GE282.out | refine ws ?_ GE299.out | refine ws ?_ GE307.out | refine ws ?_ GE316.out) | exact HB.out)))); have n7_ := am (Kd.R_lower (Kd.R_new' (Kd.R_new' (Kd.R_new' (Kd.R_new' (Kd.R_new' (Kd.R_new' ho1 (Kd.R_lt (by (with_reducible repeat (first | apply ra | apply rn | apply rd)); exact HO_300000.out))) (Kd.R_lt (by (with_reducible repeat (first | apply ra | apply rn | apply rd)); exact HO_300001.out))) (Kd.R_lt (by (with_reducible repeat (first | apply ra | apply rn | apply rd)); exact HO_308000.out))) (Kd.R_lt (by (with_reducible repeat (first | apply ra | apply rn | apply rd)); exact HO_308001.out))) (Kd.R_lt (by (with_reducible repeat (first | apply ra | apply rn | apply rd)); exact HO_317000.out))) (Kd.R_lt (by (with_reducible repeat (first | apply ra | apply rn | apply rd)); exact HO_317001.out))) (below_size (by repeat (first | (with_reducible first | exact HB.out | apply wa | apply wn | apply wd | refine ws ?_ GE282.out | refine ws ?_ GE299.out | refine ws ?_ GE307.out | refine ws ?_ GE316.out) | exact HB.out)))); have n8_ := am (bb (g := gb282) (o := .cells #[.slice A0_0 l0_0.length c0_0, .slice A0_1 l0_1.length c0_1, .int .i64 a0_2] 42 (0, 0)) (by (with_reducible repeat (first | refine bn ?_ _ | refine bd ?_ | refine ba ?_ _)); exact BK282.out) hb); have n9_ := am (bb (g := gb299) (o := .cells #[.slice Ao24 t291.length co24, .slice Ao27 t294.length co27, .int .i64 t297] 26 (0, 0)) (by (with_reducible repeat (first | refine bn ?_ _ | refine bd ?_ | refine ba ?_ _)); exact BK299.out) hb); have n10_ := am (bb (g := gb307) (o := .cells #[.slice Ao31 t327.length co31, .slice Ao35 t328.length co35, .int .i64 t306] 26 (0, 0)) (by (with_reducible repeat (first | refine bn ?_ _ | refine bd ?_ | refine ba ?_ _)); exact BK307.out) hb); have n11_ := am (bb (g := gb316) (o := .cells #[.slice Ao38 t308.length co38, .slice Ao43 t311.length co43, .int .i64 t314] 26 (0, 0)) (by (with_reducible repeat (first | refine bn ?_ _ | refine bd ?_ | refine ba ?_ _)); exact BK316.out) hb); have n12_ := am (bs (by repeat (first | (with_reducible first | exact HB.out | apply wa | apply wn | apply wd | refine ws ?_ GE282.out | refine ws ?_ GE299.out | refine ws ?_ GE307.out | refine ws ?_ GE316.out) | exact HB.out)) hb); clear HO_300000; clear HO_300001; clear HO_308000; clear HO_308001; clear HO_317000; clear HO_317001; clear BK282; clear BK299; clear BK307; clear BK316; clear HB; have HO_300000 := n0_; have HO_300001 := n1_; have HO_308000 := n2_; have HO_308001 := n3_; have HO_317000 := n4_; have HO_317001 := n5_; have HO336 := n6_; have HO339 := n7_; have BK282 := n8_; have BK299 := n9_; have BK307 := n10_; have BK316 := n11_; have HB := n12_; clear n0_ n1_ n2_ n3_ n4_ n5_ n6_ n7_ n8_ n9_ n10_ n11_ n12_; (try clear hb); (try clear hb2); (try clear hk); (try clear hi); (try clear ho0); (try clear ho1); obtain ⟨Ao123, co123, eo123⟩ := Kd.R_slice HO336.out; subst eo123; obtain ⟨Ao124, co124, eo124⟩ := Kd.R_slice HO339.out; subst eo124) | ((with_reducible refine gate_callee (f := 34) rfl ?_); refine goesL_ (some 84) rfl rfl Try.func34 (by kernel_rfl) rfl #[.agg #[.slice Ao123 t334.length co123, .slice Ao124 t337.length co124, .int .i64 t340], .string a1] rfl (by (try simp only [List.map_toArray, List.map_cons, List.map_nil]); first | done | rfl | (simp only [List.length_drop, List.length_take]; rfl)) ?_; (with_reducible refine (impl_TakeKey.calls kj66 _ _ t334 _ _ t337 t340 a1 t341 t344 t347 t348 _ ?side1 ?side2 ?side3 ?side4 A110.out).mono ?_); (case side1 => repeat (first | exact (rr HO336.out).2.2 | (with_reducible refine Kd.C_alloc ?_ _) | (with_reducible refine Kd.C_drewN ?_ _) | (with_reducible refine Kd.C_drew ?_))); (case side2 => exact (rr HO336.out).2.1); (case side3 => repeat (first | exact (rr HO339.out).2.2 | (with_reducible refine Kd.C_alloc ?_ _) | (with_reducible refine Kd.C_drewN ?_ _) | (with_reducible refine Kd.C_drew ?_))); (case side4 => exact (rr HO339.out).2.1); rintro e w125 ⟨v342, v345, rfl, ho0, ho1, hb⟩; refine ⟨_, rfl, ?_⟩; have n0_ := am (rm (ro (ro (rl (by (with_reducible repeat (first | apply ra | apply rn | apply rd)); exact HO_300000.out) hb) (re ho0)) (re ho1)) (fun _ h_ => h_.1)); have n1_ := am (rm (ro (ro (rl (by (with_reducible repeat (first | apply ra | apply rn | apply rd)); exact HO_300001.out) hb) (re ho0)) (re ho1)) (fun _ h_ => h_.1)); have n2_ := am (rm (ro (ro (rl (by (with_reducible repeat (first | apply ra | apply rn | apply rd)); exact HO_308000.out) hb) (re ho0)) (re ho1)) (fun _ h_ => h_.1)); have n3_ := am (rm (ro (ro (rl (by (with_reducible repeat (first | apply ra | apply rn | apply rd)); exact HO_308001.out) hb) (re ho0)) (re ho1)) (fun _ h_ => h_.1)); have n4_ := am (rm (ro (ro (rl (by (with_reducible repeat (first | apply ra | apply rn | apply rd)); exact HO_317000.out) hb) (re ho0)) (re ho1)) (fun _ h_ => h_.1)); have n5_ := am (rm (ro (ro (rl (by (with_reducible repeat (first | apply ra | apply rn | apply rd)); exact HO_317001.out) hb) (re ho0)) (re ho1)) (fun _ h_ => h_.1)); have n6_ := am (rm (ro (ro (rl (by (with_reducible repeat (first | apply ra | apply rn | apply rd)); exact HO336.out) hb) (re ho0)) (re ho1)) (fun _ h_ => h_.1)); have n7_ := am (rm (ro (ro (rl (by (with_reducible repeat (first | apply ra | apply rn | apply rd)); exact HO339.out) hb) (re ho0)) (re ho1)) (fun _ h_ => h_.1)); have n8_ := am (Kd.R_lower (Kd.R_new' (Kd.R_new' (Kd.R_new' (Kd.R_new' (Kd.R_new' (Kd.R_new' (Kd.R_new' (Kd.R_new' ho0 (Kd.R_lt (by (with_reducible repeat (first | apply ra | apply rn | apply rd)); exact HO_300000.out))) (Kd.R_lt (by (with_reducible repeat (first | apply ra | apply rn | apply rd)); exact HO_300001.out))) (Kd.R_lt (by (with_reducible repeat (first | apply ra | apply rn | apply rd)); exact HO_308000.out))) (Kd.R_lt (by (with_reducible repeat (first | apply ra | apply rn | apply rd)); exact HO_308001.out))) (Kd.R_lt (by (with_reducible repeat (first | apply ra | apply rn | apply rd)); exact HO_317000.out))) (Kd.R_lt (by (with_reducible repeat (first | apply ra | apply rn | apply rd)); exact HO_317001.out))) (Kd.R_lt (by (with_reducible repeat (first | apply ra | apply rn | apply rd)); exact HO336.out))) (Kd.R_lt (by (with_reducible repeat (first | apply ra | apply rn | apply rd)); exact HO339.out))) (below_size (by repeat (first | (with_reducible first | exact HB.out | apply wa | apply wn | apply wd | refine ws ?_ GE282.out | refine ws ?_ GE299.out | refine ws ?_ GE307.out | refine ws ?_ GE316.out) | exact HB.out)))); have n9_ := am (Kd.R_lower (Kd.R_new' (Kd.R_new' (Kd.R_new' (Kd.R_new' (Kd.R_new' (Kd.R_new' (Kd.R_new' (Kd.R_new' ho1 (Kd.R_lt (by (with_reducible repeat (first | apply ra | apply rn | apply rd)); exact HO_300000.out))) (Kd.R_lt (by (with_reducible repeat (first | apply ra | apply rn | apply rd)); exact HO_300001.out))) (Kd.R_lt (by (with_reducible repeat (first | apply ra | apply rn | apply rd)); exact HO_308000.out))) (Kd.R_lt (by (with_reducible repeat (first | apply ra | apply rn | apply rd)); exact HO_308001.out))) (Kd.R_lt (by (with_reducible repeat (first | apply ra | apply rn | apply rd)); exact HO_317000.out))) (Kd.R_lt (by (with_reducible repeat (first | apply ra | apply rn | apply rd)); exact HO_317001.out))) (Kd.R_lt (by (with_reducible repeat (first | apply ra | apply rn | apply rd)); exact HO336.out))) (Kd.R_lt (by (with_reducible repeat (first | apply ra | apply rn | apply rd)); exact HO339.out))) (below_size (by repeat (first | (with_reducible first | exact HB.out | apply wa | apply wn | apply wd | refine ws ?_ GE282.out | refine ws ?_ GE299.out | refine ws ?_ GE307.out | refine ws ?_ GE316.out) | exact HB.out)))); have n10_ := am (bb (g := gb282) (o := .cells #[.slice A0_0 l0_0.length c0_0, .slice A0_1 l0_1.length c0_1, .int .i64 a0_2] 42 (0, 0)) (by (with_reducible repeat (first | refine bn ?_ _ | refine bd ?_ | refine ba ?_ _)); exact BK282.out) hb); have n11_ := am (bb (g := gb299) (o := .cells #[.slice Ao24 t291.length co24, .slice Ao27 t294.length co27, .int .i64 t297] 26 (0, 0)) (by (with_reducible repeat (first | refine bn ?_ _ | refine bd ?_ | refine ba ?_ _)); exact BK299.out) hb); have n12_ := am (bb (g := gb307) (o := .cells #[.slice Ao31 t327.length co31, .slice Ao35 t328.length co35, .int .i64 t306] 26 (0, 0)) (by (with_reducible repeat (first | refine bn ?_ _ | refine bd ?_ | refine ba ?_ _)); exact BK307.out) hb); have n13_ := am (bb (g := gb316) (o := .cells #[.slice Ao38 t308.length co38, .slice Ao43 t311.length co43, .int .i64 t314] 26 (0, 0)) (by (with_reducible repeat (first | refine bn ?_ _ | refine bd ?_ | refine ba ?_ _)); exact BK316.out) hb); have n14_ := am (bs (by repeat (first | (with_reducible first | exact HB.out | apply wa | apply wn | apply wd | refine ws ?_ GE282.out | refine ws ?_ GE299.out | refine ws ?_ GE307.out | refine ws ?_ GE316.out) | exact HB.out)) hb); clear HO_300000; clear HO_300001; clear HO_308000; clear HO_308001; clear HO_317000; clear HO_317001; clear HO336; clear HO339; clear BK282; clear BK299; clear BK307; clear BK316; clear HB; have HO_300000 := n0_; have HO_300001 := n1_; have HO_308000 := n2_; have HO_308001 := n3_; have HO_317000 := n4_; have HO_317001 := n5_; have HO336 := n6_; have HO339 := n7_; have HO343 := n8_; have HO346 := n9_; have BK282 := n10_; have BK299 := n11_; have BK307 := n12_; have BK316 := n13_; have HB := n14_; clear n0_ n1_ n2_ n3_ n4_ n5_ n6_ n7_ n8_ n9_ n10_ n11_ n12_ n13_ n14_; (try clear hb); (try clear hb2); (try clear hk); (try clear hi); (try clear ho0); (try clear ho1)) | ((with_reducible refine gate_dst (N := 14) rfl ?_); refine box_event ?hg (N := 14) ?hd (cs := #[.slice none 0 0, .slice none 0 0, .int .i64 0]) (t := 26) ?hr ?_; (case hd => rfl); (case hg => rfl); (case hr => first | (go_simp; done) | (go_simp; rfl)); intro gb349 hg w126 hbox hb; have n0_ := am (rb (by (with_reducible repeat (first | apply ra | apply rn | apply rd)); exact HO_300000.out) hb); have n1_ := am (rb (by (with_reducible repeat (first | apply ra | apply rn | apply rd)); exact HO_300001.out) hb); have n2_ := am (rb (by (with_reducible repeat (first | apply ra | apply rn | apply rd)); exact HO_308000.out) hb); have n3_ := am (rb (by (with_reducible repeat (first | apply ra | apply rn | apply rd)); exact HO_308001.out) hb); have n4_ := am (rb (by (with_reducible repeat (first | apply ra | apply rn | apply rd)); exact HO_317000.out) hb); have n5_ := am (rb (by (with_reducible repeat (first | apply ra | apply rn | apply rd)); exact HO_317001.out) hb); have n6_ := am (rb (by (with_reducible repeat (first | apply ra | apply rn | apply rd)); exact HO336.out) hb); have n7_ := am (rb (by (with_reducible repeat (first | apply ra | apply rn | apply rd)); exact HO339.out) hb); have n8_ := am (rb (by (with_reducible repeat (first | apply ra | apply rn | apply rd)); exact HO343.out) hb); have n9_ := am (rb (by (with_reducible repeat (first | apply ra | apply rn | apply rd)); exact HO346.out) hb); have n10_ := am (bb (g := gb282) (o := .cells #[.slice A0_0 l0_0.length c0_0, .slice A0_1 l0_1.length c0_1, .int .i64 a0_2] 42 (0, 0)) (by (with_reducible repeat (first | refine bn ?_ _ | refine bd ?_ | refine ba ?_ _)); exact BK282.out) hb); have n11_ := am (bb (g := gb299) (o := .cells #[.slice Ao24 t291.length co24, .slice Ao27 t294.length co27, .int .i64 t297] 26 (0, 0)) (by (with_reducible repeat (first | refine bn ?_ _ | refine bd ?_ | refine ba ?_ _)); exact BK299.out) hb); have n12_ := am (bb (g := gb307) (o := .cells #[.slice Ao31 t327.length co31, .slice Ao35 t328.length co35, .int .i64 t306] 26 (0, 0)) (by (with_reducible repeat (first | refine bn ?_ _ | refine bd ?_ | refine ba ?_ _)); exact BK307.out) hb); have n13_ := am (bb (g := gb316) (o := .cells #[.slice Ao38 t308.length co38, .slice Ao43 t311.length co43, .int .i64 t314] 26 (0, 0)) (by (with_reducible repeat (first | refine bn ?_ _ | refine bd ?_ | refine ba ?_ _)); exact BK316.out) hb); have n14_ := am (bs (by repeat (first | (with_reducible first | exact HB.out | apply wa | apply wn | apply wd | refine ws ?_ GE282.out | refine ws ?_ GE299.out | refine ws ?_ GE307.out | refine ws ?_ GE316.out) | exact HB.out)) hb); have n15_ := am (hbox); have n16_ := am ((by rw [hg]; exact (below_size (by repeat (first | (with_reducible first | exact HB.out | apply wa | apply wn | apply wd | refine ws ?_ GE282.out | refine ws ?_ GE299.out | refine ws ?_ GE307.out | refine ws ?_ GE316.out) | exact HB.out))) : w.heap.size ≤ gb349)); have n17_ := am ((by rw [hg]; exact (below_size (by repeat (first | (with_reducible first | exact HB.out | apply wa | apply wn | apply wd | refine ws ?_ GE282.out | refine ws ?_ GE299.out | refine ws ?_ GE307.out | refine ws ?_ GE316.out) | exact HB.out))) : w.heap.size ≤ gb349)); have n18_ := am ((by rw [hg]; exact Nat.ne_of_lt (blk_lt (g := gb282) (o := .cells #[.slice A0_0 l0_0.length c0_0, .slice A0_1 l0_1.length c0_1, .int .i64 a0_2] 42 (0, 0)) (by (with_reducible repeat (first | refine bn ?_ _ | refine bd ?_ | refine ba ?_ _)); exact BK282.out)) : gb282 ≠ gb349)); have n19_ := am ((by rw [hg]; exact Nat.ne_of_gt (blk_lt (g := gb282) (o := .cells #[.slice A0_0 l0_0.length c0_0, .slice A0_1 l0_1.length c0_1, .int .i64 a0_2] 42 (0, 0)) (by (with_reducible repeat (first | refine bn ?_ _ | refine bd ?_ | refine ba ?_ _)); exact BK282.out)) : gb349 ≠ gb282)); have n20_ := am ((by rw [hg]; exact Nat.ne_of_lt (blk_lt (g := gb299) (o := .cells #[.slice Ao24 t291.length co24, .slice Ao27 t294.length co27, .int .i64 t297] 26 (0, 0)) (by (with_reducible repeat (first | refine bn ?_ _ | refine bd ?_ | refine ba ?_ _)); exact BK299.out)) : gb299 ≠ gb349)); have n21_ := am ((by rw [hg]; exact Nat.ne_of_gt (blk_lt (g := gb299) (o := .cells #[.slice Ao24 t291.length co24, .slice Ao27 t294.length co27, .int .i64 t297] 26 (0, 0)) (by (with_reducible repeat (first | refine bn ?_ _ | refine bd ?_ | refine ba ?_ _)); exact BK299.out)) : gb349 ≠ gb299)); have n22_ := am ((by rw [hg]; exact Nat.ne_of_lt (blk_lt (g := gb307) (o := .cells #[.slice Ao31 t327.length co31, .slice Ao35 t328.length co35, .int .i64 t306] 26 (0, 0)) (by (with_reducible repeat (first | refine bn ?_ _ | refine bd ?_ | refine ba ?_ _)); exact BK307.out)) : gb307 ≠ gb349)); have n23_ := am ((by rw [hg]; exact Nat.ne_of_gt (blk_lt (g := gb307) (o := .cells #[.slice Ao31 t327.length co31, .slice Ao35 t328.length co35, .int .i64 t306] 26 (0, 0)) (by (with_reducible repeat (first | refine bn ?_ _ | refine bd ?_ | refine ba ?_ _)); exact BK307.out)) : gb349 ≠ gb307)); have n24_ := am ((by rw [hg]; exact Nat.ne_of_lt (blk_lt (g := gb316) (o := .cells #[.slice Ao38 t308.length co38, .slice Ao43 t311.length co43, .int .i64 t314] 26 (0, 0)) (by (with_reducible repeat (first | refine bn ?_ _ | refine bd ?_ | refine ba ?_ _)); exact BK316.out)) : gb316 ≠ gb349)); have n25_ := am ((by rw [hg]; exact Nat.ne_of_gt (blk_lt (g := gb316) (o := .cells #[.slice Ao38 t308.length co38, .slice Ao43 t311.length co43, .int .i64 t314] 26 (0, 0)) (by (with_reducible repeat (first | refine bn ?_ _ | refine bd ?_ | refine ba ?_ _)); exact BK316.out)) : gb349 ≠ gb316)); clear HO_300000; clear HO_300001; clear HO_308000; clear HO_308001; clear HO_317000; clear HO_317001; clear HO336; clear HO339; clear HO343; clear HO346; clear BK282; clear BK299; clear BK307; clear BK316; clear HB; have HO_300000 := n0_; have HO_300001 := n1_; have HO_308000 := n2_; have HO_308001 := n3_; have HO_317000 := n4_; have HO_317001 := n5_; have HO336 := n6_; have HO339 := n7_; have HO343 := n8_; have HO346 := n9_; have BK282 := n10_; have BK299 := n11_; have BK307 := n12_; have BK316 := n13_; have HB := n14_; have BK349 := n15_; have GW349 := n16_; have GE349 := n17_; have NB282_349 := n18_; have NB349_282 := n19_; have NB299_349 := n20_; have NB349_299 := n21_; have NB307_349 := n22_; have NB349_307 := n23_; have NB316_349 := n24_; have NB349_316 := n25_; clear n0_ n1_ n2_ n3_ n4_ n5_ n6_ n7_ n8_ n9_ n10_ n11_ n12_ n13_ n14_ n15_ n16_ n17_ n18_ n19_ n20_ n21_ n22_ n23_ n24_ n25_; clear hb hbox hg; obtain ⟨Ao127, co127, eo127⟩ := Kd.R_slice HO343.out; subst eo127; have hnb128 := NB349_282.out; have hnc128 := NB282_349.out; have hnb129 := NB349_299.out; have hnc129 := NB299_349.out; have hnb130 := NB349_307.out; have hnc130 := NB307_349.out; have hnb131 := NB349_316.out; have hnc131 := NB316_349.out; have hcz132_0 : w126.cell? ⟨gb349, 0, none⟩ = some (.slice none 0 0) := (blk_cell BK349.out 0).trans rfl; have hcz132_1 : w126.cell? ⟨gb349, 1, none⟩ = some (.slice none 0 0) := (blk_cell BK349.out 1).trans rfl; have hcz132_2 : w126.cell? ⟨gb349, 2, none⟩ = some (.int .i64 0) := (blk_cell BK349.out 2).trans rfl; have hfz132_0 := blk_frozen BK349.out 0; have hfz132_1 := blk_frozen BK349.out 1; have hfz132_2 := blk_frozen BK349.out 2; obtain ⟨Ao133, co133, eo133⟩ := Kd.R_slice HO346.out; subst eo133))
            (try simp only [Act.put, List.setIfInBounds_toArray, List.set_cons_zero, List.set_cons_succ])
            go_cut [95] (fun v95 wc => ∃ (kq : Nat) (x95_110 : Bool), v95 = .bool x95_110 ∧ Aside0 (laws_FnExactTakeKey.j2 kq t330 x95_110 t331 t332 t314 = some r) ∧ Aside0 (kq ≤ kj66) ∧ Aside0 (Kd.R k57 57 wc w.heap.size (fun k_ => some k_ ≠ ((.slice Ao27 t294.length co27) : Value).ownBlock ∧ some k_ ≠ ((.slice Ao31 t327.length co31) : Value).ownBlock ∧ some k_ ≠ ((.slice Ao35 t328.length co35) : Value).ownBlock ∧ some k_ ≠ ((.slice Ao38 t308.length co38) : Value).ownBlock ∧ some k_ ≠ ((.slice Ao43 t311.length co43) : Value).ownBlock ∧ some k_ ≠ ((.slice Ao127 t341.length co127) : Value).ownBlock ∧ some k_ ≠ ((.slice Ao133 t344.length co133) : Value).ownBlock) (.slice Ao24 t291.length co24) t291) ∧ Aside0 (Kd.R k57 57 wc w.heap.size (fun k_ => some k_ ≠ ((.slice Ao24 t291.length co24) : Value).ownBlock ∧ some k_ ≠ ((.slice Ao31 t327.length co31) : Value).ownBlock ∧ some k_ ≠ ((.slice Ao35 t328.length co35) : Value).ownBlock ∧ some k_ ≠ ((.slice Ao38 t308.length co38) : Value).ownBlock ∧ some k_ ≠ ((.slice Ao43 t311.length co43) : Value).ownBlock ∧ some k_ ≠ ((.slice Ao127 t341.length co127) : Value).ownBlock ∧ some k_ ≠ ((.slice Ao133 t344.length co133) : Value).ownBlock) (.slice Ao27 t294.length co27) t294) ∧ Aside0 (Kd.R k57 57 wc w.heap.size (fun k_ => some k_ ≠ ((.slice Ao24 t291.length co24) : Value).ownBlock ∧ some k_ ≠ ((.slice Ao27 t294.length co27) : Value).ownBlock ∧ some k_ ≠ ((.slice Ao35 t328.length co35) : Value).ownBlock ∧ some k_ ≠ ((.slice Ao38 t308.length co38) : Value).ownBlock ∧ some k_ ≠ ((.slice Ao43 t311.length co43) : Value).ownBlock ∧ some k_ ≠ ((.slice Ao127 t341.length co127) : Value).ownBlock ∧ some k_ ≠ ((.slice Ao133 t344.length co133) : Value).ownBlock) (.slice Ao31 t327.length co31) t327) ∧ Aside0 (Kd.R k57 57 wc w.heap.size (fun k_ => some k_ ≠ ((.slice Ao24 t291.length co24) : Value).ownBlock ∧ some k_ ≠ ((.slice Ao27 t294.length co27) : Value).ownBlock ∧ some k_ ≠ ((.slice Ao31 t327.length co31) : Value).ownBlock ∧ some k_ ≠ ((.slice Ao38 t308.length co38) : Value).ownBlock ∧ some k_ ≠ ((.slice Ao43 t311.length co43) : Value).ownBlock ∧ some k_ ≠ ((.slice Ao127 t341.length co127) : Value).ownBlock ∧ some k_ ≠ ((.slice Ao133 t344.length co133) : Value).ownBlock) (.slice Ao35 t328.length co35) t328) ∧ Aside0 (Kd.R k57 57 wc w.heap.size (fun k_ => some k_ ≠ ((.slice Ao24 t291.length co24) : Value).ownBlock ∧ some k_ ≠ ((.slice Ao27 t294.length co27) : Value).ownBlock ∧ some k_ ≠ ((.slice Ao31 t327.length co31) : Value).ownBlock ∧ some k_ ≠ ((.slice Ao35 t328.length co35) : Value).ownBlock ∧ some k_ ≠ ((.slice Ao43 t311.length co43) : Value).ownBlock ∧ some k_ ≠ ((.slice Ao127 t341.length co127) : Value).ownBlock ∧ some k_ ≠ ((.slice Ao133 t344.length co133) : Value).ownBlock) (.slice Ao38 t308.length co38) t331) ∧ Aside0 (Kd.R k57 57 wc w.heap.size (fun k_ => some k_ ≠ ((.slice Ao24 t291.length co24) : Value).ownBlock ∧ some k_ ≠ ((.slice Ao27 t294.length co27) : Value).ownBlock ∧ some k_ ≠ ((.slice Ao31 t327.length co31) : Value).ownBlock ∧ some k_ ≠ ((.slice Ao35 t328.length co35) : Value).ownBlock ∧ some k_ ≠ ((.slice Ao38 t308.length co38) : Value).ownBlock ∧ some k_ ≠ ((.slice Ao127 t341.length co127) : Value).ownBlock ∧ some k_ ≠ ((.slice Ao133 t344.length co133) : Value).ownBlock) (.slice Ao43 t311.length co43) t332) ∧ Aside0 (Kd.R k57 57 wc w.heap.size (fun k_ => some k_ ≠ ((.slice Ao24 t291.length co24) : Value).ownBlock ∧ some k_ ≠ ((.slice Ao27 t294.length co27) : Value).ownBlock ∧ some k_ ≠ ((.slice Ao31 t327.length co31) : Value).ownBlock ∧ some k_ ≠ ((.slice Ao35 t328.length co35) : Value).ownBlock ∧ some k_ ≠ ((.slice Ao38 t308.length co38) : Value).ownBlock ∧ some k_ ≠ ((.slice Ao43 t311.length co43) : Value).ownBlock ∧ some k_ ≠ ((.slice Ao133 t344.length co133) : Value).ownBlock) (.slice Ao127 t341.length co127) t341) ∧ Aside0 (Kd.R k57 57 wc w.heap.size (fun k_ => some k_ ≠ ((.slice Ao24 t291.length co24) : Value).ownBlock ∧ some k_ ≠ ((.slice Ao27 t294.length co27) : Value).ownBlock ∧ some k_ ≠ ((.slice Ao31 t327.length co31) : Value).ownBlock ∧ some k_ ≠ ((.slice Ao35 t328.length co35) : Value).ownBlock ∧ some k_ ≠ ((.slice Ao38 t308.length co38) : Value).ownBlock ∧ some k_ ≠ ((.slice Ao43 t311.length co43) : Value).ownBlock ∧ some k_ ≠ ((.slice Ao127 t341.length co127) : Value).ownBlock) (.slice Ao133 t344.length co133) t344) ∧ Aside0 (wc.heap[gb282]? = some (.cells #[(.slice A0_0 l0_0.length c0_0), (.slice A0_1 l0_1.length c0_1), .int .i64 a0_2] 42 (0, 0))) ∧ Aside0 (wc.heap[gb299]? = some (.cells #[(.slice Ao24 t291.length co24), (.slice Ao27 t294.length co27), .int .i64 t297] 26 (0, 0))) ∧ Aside0 (wc.heap[gb307]? = some (.cells #[(.slice Ao31 t327.length co31), (.slice Ao35 t328.length co35), .int .i64 t306] 26 (0, 0))) ∧ Aside0 (wc.heap[gb316]? = some (.cells #[(.slice Ao38 t308.length co38), (.slice Ao43 t311.length co43), .int .i64 t314] 26 (0, 0))) ∧ Aside0 (wc.heap[gb349]? = some (.cells #[(.slice Ao127 t341.length co127), (.slice Ao133 t344.length co133), .int .i64 t347] 26 (0, 0))) ∧ Aside0 (Below w.heap.size w wc))
            case first =>
             have H := HC111.out
             clear HC111
             replace H := Option.bind_eq_some_iff.mp H
             obtain ⟨t350, A1340, H⟩ := H
             replace H : (if t350 = true then (laws_FnExactTakeKey.j2 kj66 t330 (t348 != t298) t331 t332 t314) else (laws_FnExactTakeKey.j2 kj66 t330 true t331 t332 t314)) = some r := H
             have A134 := am A1340
             clear A1340
             by_cases c135 : t350 = true
             ·subst c135
              have H1 : (laws_FnExactTakeKey.j2 kj66 t330 (t348 != t298) t331 t332 t314) = some r := by rw [if_pos rfl] at H; exact H
              clear H
              have H := H1
              clear H1
              have H' := am H
              clear H
              have hnb136 := NB349_282.out
              have hnc136 := NB282_349.out
              have hnb137 := NB349_299.out
              have hnc137 := NB299_349.out
              have hnb138 := NB349_307.out
              have hnc138 := NB307_349.out
              have hnb139 := NB349_316.out
              have hnc139 := NB316_349.out
              have hcz140_0 : w126.cell? ⟨gb349, 0, none⟩ = some (.slice none 0 0) := (blk_cell BK349.out 0).trans rfl
              have hcz140_1 : w126.cell? ⟨gb349, 1, none⟩ = some (.slice none 0 0) := (blk_cell BK349.out 1).trans rfl
              have hcz140_2 : w126.cell? ⟨gb349, 2, none⟩ = some (.int .i64 0) := (blk_cell BK349.out 2).trans rfl
              have hfz140_0 := blk_frozen BK349.out 0
              have hfz140_1 := blk_frozen BK349.out 1
              have hfz140_2 := blk_frozen BK349.out 2
              have hnb141 := NB299_282.out
              have hnc141 := NB282_299.out
              have hnb142 := NB299_307.out
              have hnc142 := NB307_299.out
              have hnb143 := NB299_316.out
              have hnc143 := NB316_299.out
              have hcz144_0 : w126.cell? ⟨gb299, 0, none⟩ = some (.slice Ao24 t291.length co24) := (blk_cell BK299.out 0).trans rfl
              have hcz144_1 : w126.cell? ⟨gb299, 1, none⟩ = some (.slice Ao27 t294.length co27) := (blk_cell BK299.out 1).trans rfl
              have hcz144_2 : w126.cell? ⟨gb299, 2, none⟩ = some (.int .i64 t297) := (blk_cell BK299.out 2).trans rfl
              have hfz144_0 := blk_frozen BK299.out 0
              have hfz144_1 := blk_frozen BK299.out 1
              have hfz144_2 := blk_frozen BK299.out 2
              go_wp2_with (first | ((with_reducible refine gate_callee (f := 27) rfl ?_); refine goesL_ (some 89) rfl rfl Try.func27 (by kernel_rfl) rfl #[.agg #[.slice Ao127 t341.length co127, .slice Ao133 t344.length co133, .int .i64 t347], .agg #[.slice Ao24 t291.length co24, .slice Ao27 t294.length co27, .int .i64 t297]] rfl (by (try simp only [List.map_toArray, List.map_cons, List.map_nil]); first | done | rfl | (simp only [List.length_drop, List.length_take]; rfl)) ?_; (with_reducible refine (laws_eqTable.calls kj66 _ _ t341 _ _ t344 t347 _ _ t291 _ _ t294 t297 true _ ?side1 ?side2 ?side3 ?side4 ?side5 ?side6 ?side7 ?side8 A134.out).mono ?_); (case side1 => refine (rr (e := 57) (base := w.heap.size) (ok := fun k_ => ((((((((some k_ ≠ (.slice Ao133 t344.length co133 : Value).ownBlock ∧ some k_ ≠ (.slice Ao24 t291.length co24 : Value).ownBlock) ∧ some k_ ≠ (.slice Ao27 t294.length co27 : Value).ownBlock) ∧ some k_ ≠ (.slice Ao31 t327.length co31 : Value).ownBlock) ∧ some k_ ≠ (.slice Ao35 t328.length co35 : Value).ownBlock) ∧ some k_ ≠ (.slice Ao38 t308.length co38 : Value).ownBlock) ∧ some k_ ≠ (.slice Ao43 t311.length co43 : Value).ownBlock) ∧ some k_ ≠ (.slice Ao123 t334.length co123 : Value).ownBlock) ∧ some k_ ≠ (.slice Ao124 t337.length co124 : Value).ownBlock)) (n := t341.length) (c := co127) ?_).2.2; exact (by (with_reducible repeat (first | apply ra | apply rn | apply rd)); exact (rm (Kd.R_far (p := ⟨gb349, 2, none⟩) (Kd.R_far (p := ⟨gb349, 1, none⟩) (Kd.R_far (p := ⟨gb349, 0, none⟩) (Kd.R_types HO343.out BK349.out (by decide)) (fun _ hk => by simp [hk]) (.slice Ao127 t341.length co127)) (fun _ hk => by simp [hk]) (.slice Ao133 t344.length co133)) (fun _ hk => by simp [hk]) (.int .i64 t347)) (fun _ h_ => h_.1)))); (case side2 => exact (rr HO343.out).2.1); (case side3 => refine (rr (e := 57) (base := w.heap.size) (ok := fun k_ => ((((((((some k_ ≠ (.slice Ao127 t341.length co127 : Value).ownBlock ∧ some k_ ≠ (.slice Ao24 t291.length co24 : Value).ownBlock) ∧ some k_ ≠ (.slice Ao27 t294.length co27 : Value).ownBlock) ∧ some k_ ≠ (.slice Ao31 t327.length co31 : Value).ownBlock) ∧ some k_ ≠ (.slice Ao35 t328.length co35 : Value).ownBlock) ∧ some k_ ≠ (.slice Ao38 t308.length co38 : Value).ownBlock) ∧ some k_ ≠ (.slice Ao43 t311.length co43 : Value).ownBlock) ∧ some k_ ≠ (.slice Ao123 t334.length co123 : Value).ownBlock) ∧ some k_ ≠ (.slice Ao124 t337.length co124 : Value).ownBlock)) (n := t344.length) (c := co133) ?_).2.2; exact (by (with_reducible repeat (first | apply ra | apply rn | apply rd)); exact (rm (Kd.R_far (p := ⟨gb349, 2, none⟩) (Kd.R_far (p := ⟨gb349, 1, none⟩) (Kd.R_far (p := ⟨gb349, 0, none⟩) (Kd.R_types HO346.out BK349.out (by decide)) (fun _ hk => by simp [hk]) (.slice Ao127 t341.length co127)) (fun _ hk => by simp [hk]) (.slice Ao133 t344.length co133)) (fun _ hk => by simp [hk]) (.int .i64 t347)) (fun _ h_ => h_.1)))); (case side4 => exact (rr HO346.out).2.1); (case side5 => refine (rr (e := 57) (base := w.heap.size) (ok := fun k_ => (((((some k_ ≠ (.slice Ao27 t294.length co27 : Value).ownBlock ∧ (some k_ ≠ (.slice Ao31 t327.length co31 : Value).ownBlock ∧ (some k_ ≠ (.slice Ao35 t328.length co35 : Value).ownBlock ∧ (some k_ ≠ (.slice Ao38 t308.length co38 : Value).ownBlock ∧ some k_ ≠ (.slice Ao43 t311.length co43 : Value).ownBlock)))) ∧ some k_ ≠ (.slice Ao123 t334.length co123 : Value).ownBlock) ∧ some k_ ≠ (.slice Ao124 t337.length co124 : Value).ownBlock) ∧ some k_ ≠ (.slice Ao127 t341.length co127 : Value).ownBlock) ∧ some k_ ≠ (.slice Ao133 t344.length co133 : Value).ownBlock)) (n := t291.length) (c := co24) ?_).2.2; exact (by (with_reducible repeat (first | apply ra | apply rn | apply rd)); exact (rm (Kd.R_far (p := ⟨gb349, 2, none⟩) (Kd.R_far (p := ⟨gb349, 1, none⟩) (Kd.R_far (p := ⟨gb349, 0, none⟩) (Kd.R_types HO_300000.out BK349.out (by decide)) (fun _ hk => by simp [hk]) (.slice Ao127 t341.length co127)) (fun _ hk => by simp [hk]) (.slice Ao133 t344.length co133)) (fun _ hk => by simp [hk]) (.int .i64 t347)) (fun _ h_ => h_.1)))); (case side6 => exact (rr HO_300000.out).2.1); (case side7 => refine (rr (e := 57) (base := w.heap.size) (ok := fun k_ => (((((some k_ ≠ (.slice Ao24 t291.length co24 : Value).ownBlock ∧ (some k_ ≠ (.slice Ao31 t327.length co31 : Value).ownBlock ∧ (some k_ ≠ (.slice Ao35 t328.length co35 : Value).ownBlock ∧ (some k_ ≠ (.slice Ao38 t308.length co38 : Value).ownBlock ∧ some k_ ≠ (.slice Ao43 t311.length co43 : Value).ownBlock)))) ∧ some k_ ≠ (.slice Ao123 t334.length co123 : Value).ownBlock) ∧ some k_ ≠ (.slice Ao124 t337.length co124 : Value).ownBlock) ∧ some k_ ≠ (.slice Ao127 t341.length co127 : Value).ownBlock) ∧ some k_ ≠ (.slice Ao133 t344.length co133 : Value).ownBlock)) (n := t294.length) (c := co27) ?_).2.2; exact (by (with_reducible repeat (first | apply ra | apply rn | apply rd)); exact (rm (Kd.R_far (p := ⟨gb349, 2, none⟩) (Kd.R_far (p := ⟨gb349, 1, none⟩) (Kd.R_far (p := ⟨gb349, 0, none⟩) (Kd.R_types HO_300001.out BK349.out (by decide)) (fun _ hk => by simp [hk]) (.slice Ao127 t341.length co127)) (fun _ hk => by simp [hk]) (.slice Ao133 t344.length co133)) (fun _ hk => by simp [hk]) (.int .i64 t347)) (fun _ h_ => h_.1)))); (case side8 => exact (rr HO_300001.out).2.1); rintro e w145 ⟨rfl, hb⟩; refine ⟨_, rfl, ?_⟩; have n0_ := am (rb (by (with_reducible repeat (first | apply ra | apply rn | apply rd)); exact (rm (Kd.R_far (p := ⟨gb349, 2, none⟩) (Kd.R_far (p := ⟨gb349, 1, none⟩) (Kd.R_far (p := ⟨gb349, 0, none⟩) (Kd.R_types HO_300000.out BK349.out (by decide)) (fun _ hk => by simp [hk]) (.slice Ao127 t341.length co127)) (fun _ hk => by simp [hk]) (.slice Ao133 t344.length co133)) (fun _ hk => by simp [hk]) (.int .i64 t347)) (fun _ h_ => h_.1))) hb); have n1_ := am (rb (by (with_reducible repeat (first | apply ra | apply rn | apply rd)); exact (rm (Kd.R_far (p := ⟨gb349, 2, none⟩) (Kd.R_far (p := ⟨gb349, 1, none⟩) (Kd.R_far (p := ⟨gb349, 0, none⟩) (Kd.R_types HO_300001.out BK349.out (by decide)) (fun _ hk => by simp [hk]) (.slice Ao127 t341.length co127)) (fun _ hk => by simp [hk]) (.slice Ao133 t344.length co133)) (fun _ hk => by simp [hk]) (.int .i64 t347)) (fun _ h_ => h_.1))) hb); have n2_ := am (rb (by (with_reducible repeat (first | apply ra | apply rn | apply rd)); exact (rm (Kd.R_far (p := ⟨gb349, 2, none⟩) (Kd.R_far (p := ⟨gb349, 1, none⟩) (Kd.R_far (p := ⟨gb349, 0, none⟩) (Kd.R_types HO_308000.out BK349.out (by decide)) (fun _ hk => by simp [hk]) (.slice Ao127 t341.length co127)) (fun _ hk => by simp [hk]) (.slice Ao133 t344.length co133)) (fun _ hk => by simp [hk]) (.int .i64 t347)) (fun _ h_ => h_.1))) hb); have n3_ := am (rb (by (with_reducible repeat (first | apply ra | apply rn | apply rd)); exact (rm (Kd.R_far (p := ⟨gb349, 2, none⟩) (Kd.R_far (p := ⟨gb349, 1, none⟩) (Kd.R_far (p := ⟨gb349, 0, none⟩) (Kd.R_types HO_308001.out BK349.out (by decide)) (fun _ hk => by simp [hk]) (.slice Ao127 t341.length co127)) (fun _ hk => by simp [hk]) (.slice Ao133 t344.length co133)) (fun _ hk => by simp [hk]) (.int .i64 t347)) (fun _ h_ => h_.1))) hb); have n4_ := am (rb (by (with_reducible repeat (first | apply ra | apply rn | apply rd)); exact (rm (Kd.R_far (p := ⟨gb349, 2, none⟩) (Kd.R_far (p := ⟨gb349, 1, none⟩) (Kd.R_far (p := ⟨gb349, 0, none⟩) (Kd.R_types HO_317000.out BK349.out (by decide)) (fun _ hk => by simp [hk]) (.slice Ao127 t341.length co127)) (fun _ hk => by simp [hk]) (.slice Ao133 t344.length co133)) (fun _ hk => by simp [hk]) (.int .i64 t347)) (fun _ h_ => h_.1))) hb); have n5_ := am (rb (by (with_reducible repeat (first | apply ra | apply rn | apply rd)); exact (rm (Kd.R_far (p := ⟨gb349, 2, none⟩) (Kd.R_far (p := ⟨gb349, 1, none⟩) (Kd.R_far (p := ⟨gb349, 0, none⟩) (Kd.R_types HO_317001.out BK349.out (by decide)) (fun _ hk => by simp [hk]) (.slice Ao127 t341.length co127)) (fun _ hk => by simp [hk]) (.slice Ao133 t344.length co133)) (fun _ hk => by simp [hk]) (.int .i64 t347)) (fun _ h_ => h_.1))) hb); have n6_ := am (rb (by (with_reducible repeat (first | apply ra | apply rn | apply rd)); exact (rm (Kd.R_far (p := ⟨gb349, 2, none⟩) (Kd.R_far (p := ⟨gb349, 1, none⟩) (Kd.R_far (p := ⟨gb349, 0, none⟩) (Kd.R_types HO336.out BK349.out (by decide)) (fun _ hk => by simp [hk]) (.slice Ao127 t341.length co127)) (fun _ hk => by simp [hk]) (.slice Ao133 t344.length co133)) (fun _ hk => by simp [hk]) (.int .i64 t347)) (fun _ h_ => h_.1))) hb); have n7_ := am (rb (by (with_reducible repeat (first | apply ra | apply rn | apply rd)); exact (rm (Kd.R_far (p := ⟨gb349, 2, none⟩) (Kd.R_far (p := ⟨gb349, 1, none⟩) (Kd.R_far (p := ⟨gb349, 0, none⟩) (Kd.R_types HO339.out BK349.out (by decide)) (fun _ hk => by simp [hk]) (.slice Ao127 t341.length co127)) (fun _ hk => by simp [hk]) (.slice Ao133 t344.length co133)) (fun _ hk => by simp [hk]) (.int .i64 t347)) (fun _ h_ => h_.1))) hb); have n8_ := am (rb (by (with_reducible repeat (first | apply ra | apply rn | apply rd)); exact (rm (Kd.R_far (p := ⟨gb349, 2, none⟩) (Kd.R_far (p := ⟨gb349, 1, none⟩) (Kd.R_far (p := ⟨gb349, 0, none⟩) (Kd.R_types HO343.out BK349.out (by decide)) (fun _ hk => by simp [hk]) (.slice Ao127 t341.length co127)) (fun _ hk => by simp [hk]) (.slice Ao133 t344.length co133)) (fun _ hk => by simp [hk]) (.int .i64 t347)) (fun _ h_ => h_.1))) hb); have n9_ := am (rb (by (with_reducible repeat (first | apply ra | apply rn | apply rd)); exact (rm (Kd.R_far (p := ⟨gb349, 2, none⟩) (Kd.R_far (p := ⟨gb349, 1, none⟩) (Kd.R_far (p := ⟨gb349, 0, none⟩) (Kd.R_types HO346.out BK349.out (by decide)) (fun _ hk => by simp [hk]) (.slice Ao127 t341.length co127)) (fun _ hk => by simp [hk]) (.slice Ao133 t344.length co133)) (fun _ hk => by simp [hk]) (.int .i64 t347)) (fun _ h_ => h_.1))) hb); have n10_ := am (bb (g := gb282) (o := .cells #[.slice A0_0 l0_0.length c0_0, .slice A0_1 l0_1.length c0_1, .int .i64 a0_2] 42 (0, 0)) (by (with_reducible repeat (first | refine bn ?_ _ | refine bd ?_ | refine ba ?_ _)); refine blk_far ?_ NB282_349.out _; (with_reducible repeat (first | refine bn ?_ _ | refine bd ?_ | refine ba ?_ _)); refine blk_far ?_ NB282_349.out _; (with_reducible repeat (first | refine bn ?_ _ | refine bd ?_ | refine ba ?_ _)); refine blk_far ?_ NB282_349.out _; (with_reducible repeat (first | refine bn ?_ _ | refine bd ?_ | refine ba ?_ _)); exact BK282.out) hb); have n11_ := am (bb (g := gb299) (o := .cells #[.slice Ao24 t291.length co24, .slice Ao27 t294.length co27, .int .i64 t297] 26 (0, 0)) (by (with_reducible repeat (first | refine bn ?_ _ | refine bd ?_ | refine ba ?_ _)); refine blk_far ?_ NB299_349.out _; (with_reducible repeat (first | refine bn ?_ _ | refine bd ?_ | refine ba ?_ _)); refine blk_far ?_ NB299_349.out _; (with_reducible repeat (first | refine bn ?_ _ | refine bd ?_ | refine ba ?_ _)); refine blk_far ?_ NB299_349.out _; (with_reducible repeat (first | refine bn ?_ _ | refine bd ?_ | refine ba ?_ _)); exact BK299.out) hb); have n12_ := am (bb (g := gb307) (o := .cells #[.slice Ao31 t327.length co31, .slice Ao35 t328.length co35, .int .i64 t306] 26 (0, 0)) (by (with_reducible repeat (first | refine bn ?_ _ | refine bd ?_ | refine ba ?_ _)); refine blk_far ?_ NB307_349.out _; (with_reducible repeat (first | refine bn ?_ _ | refine bd ?_ | refine ba ?_ _)); refine blk_far ?_ NB307_349.out _; (with_reducible repeat (first | refine bn ?_ _ | refine bd ?_ | refine ba ?_ _)); refine blk_far ?_ NB307_349.out _; (with_reducible repeat (first | refine bn ?_ _ | refine bd ?_ | refine ba ?_ _)); exact BK307.out) hb); have n13_ := am (bb (g := gb316) (o := .cells #[.slice Ao38 t308.length co38, .slice Ao43 t311.length co43, .int .i64 t314] 26 (0, 0)) (by (with_reducible repeat (first | refine bn ?_ _ | refine bd ?_ | refine ba ?_ _)); refine blk_far ?_ NB316_349.out _; (with_reducible repeat (first | refine bn ?_ _ | refine bd ?_ | refine ba ?_ _)); refine blk_far ?_ NB316_349.out _; (with_reducible repeat (first | refine bn ?_ _ | refine bd ?_ | refine ba ?_ _)); refine blk_far ?_ NB316_349.out _; (with_reducible repeat (first | refine bn ?_ _ | refine bd ?_ | refine ba ?_ _)); exact BK316.out) hb); have n14_ := am (bb (g := gb349) (o := .cells #[.slice Ao127 t341.length co127, .slice Ao133 t344.length co133, .int .i64 t347] 26 (0, 0)) (by (with_reducible repeat (first | refine bn ?_ _ | refine bd ?_ | refine ba ?_ _)); refine blk_put (cs := #[.slice Ao127 t341.length co127, .slice Ao133 t344.length co133, .int .i64 0]) ?_ 2 _ rfl; (with_reducible repeat (first | refine bn ?_ _ | refine bd ?_ | refine ba ?_ _)); refine blk_put (cs := #[.slice Ao127 t341.length co127, .slice none 0 0, .int .i64 0]) ?_ 1 _ rfl; (with_reducible repeat (first | refine bn ?_ _ | refine bd ?_ | refine ba ?_ _)); refine blk_put (cs := #[.slice none 0 0, .slice none 0 0, .int .i64 0]) ?_ 0 _ rfl; (with_reducible repeat (first | refine bn ?_ _ | refine bd ?_ | refine ba ?_ _)); exact BK349.out) hb); have n15_ := am (bs (by repeat (first | (with_reducible first | exact HB.out | apply wa | apply wn | apply wd | refine ws ?_ GE282.out | refine ws ?_ GE299.out | refine ws ?_ GE307.out | refine ws ?_ GE316.out | refine ws ?_ GE349.out) | exact HB.out)) hb); clear HO_300000; clear HO_300001; clear HO_308000; clear HO_308001; clear HO_317000; clear HO_317001; clear HO336; clear HO339; clear HO343; clear HO346; clear BK282; clear BK299; clear BK307; clear BK316; clear BK349; clear HB; have HO_300000 := n0_; have HO_300001 := n1_; have HO_308000 := n2_; have HO_308001 := n3_; have HO_317000 := n4_; have HO_317001 := n5_; have HO336 := n6_; have HO339 := n7_; have HO343 := n8_; have HO346 := n9_; have BK282 := n10_; have BK299 := n11_; have BK307 := n12_; have BK316 := n13_; have BK349 := n14_; have HB := n15_; clear n0_ n1_ n2_ n3_ n4_ n5_ n6_ n7_ n8_ n9_ n10_ n11_ n12_ n13_ n14_ n15_; (try clear hb); (try clear hb2); (try clear hk); (try clear hi)))
              go_meet
              case rel => exact ⟨_, ((t348 != t298)), (by first | rfl | (simp; done) | (simp [*]; done) | (simp; generalize ByteArray.toList _ = z; cases z <;> rfl)), H', ⟨by have := HJ13.out; have := HJ66.out; first | omega | exact Nat.le_refl _⟩, ⟨by (try simp only [hl308000_66]); (try simp only [hl308001_66]); (with_reducible repeat (first | apply ra | apply rn | apply rd)); exact rm HO_300000.out (fun _ hk => by simp [hk])⟩, ⟨by (try simp only [hl308000_66]); (try simp only [hl308001_66]); (with_reducible repeat (first | apply ra | apply rn | apply rd)); exact rm HO_300001.out (fun _ hk => by simp [hk])⟩, ⟨by (try simp only [hl308000_66]); (try simp only [hl308001_66]); (with_reducible repeat (first | apply ra | apply rn | apply rd)); exact rm HO_308000.out (fun _ hk => by simp [hk])⟩, ⟨by (try simp only [hl308000_66]); (try simp only [hl308001_66]); (with_reducible repeat (first | apply ra | apply rn | apply rd)); exact rm HO_308001.out (fun _ hk => by simp [hk])⟩, ⟨by (try simp only [hl308000_66]); (try simp only [hl308001_66]); (with_reducible repeat (first | apply ra | apply rn | apply rd)); exact rm HO_317000.out (fun _ hk => by simp [hk])⟩, ⟨by (try simp only [hl308000_66]); (try simp only [hl308001_66]); (with_reducible repeat (first | apply ra | apply rn | apply rd)); exact rm HO_317001.out (fun _ hk => by simp [hk])⟩, ⟨by (try simp only [hl308000_66]); (try simp only [hl308001_66]); (with_reducible repeat (first | apply ra | apply rn | apply rd)); exact rm HO343.out (fun _ hk => by simp [hk])⟩, ⟨by (try simp only [hl308000_66]); (try simp only [hl308001_66]); (with_reducible repeat (first | apply ra | apply rn | apply rd)); exact rm HO346.out (fun _ hk => by simp [hk])⟩, ⟨by (try simp only [hl308000_66]); (try simp only [hl308001_66]); (with_reducible repeat (first | refine bn ?_ _ | refine bd ?_ | refine ba ?_ _)); exact BK282.out⟩, ⟨by (try simp only [hl308000_66]); (try simp only [hl308001_66]); (with_reducible repeat (first | refine bn ?_ _ | refine bd ?_ | refine ba ?_ _)); exact BK299.out⟩, ⟨by (try simp only [hl308000_66]); (try simp only [hl308001_66]); (with_reducible repeat (first | refine bn ?_ _ | refine bd ?_ | refine ba ?_ _)); exact BK307.out⟩, ⟨by (try simp only [hl308000_66]); (try simp only [hl308001_66]); (with_reducible repeat (first | refine bn ?_ _ | refine bd ?_ | refine ba ?_ _)); exact BK316.out⟩, ⟨by (try simp only [hl308000_66]); (try simp only [hl308001_66]); (with_reducible repeat (first | refine bn ?_ _ | refine bd ?_ | refine ba ?_ _)); exact BK349.out⟩, ⟨by repeat (first | (with_reducible first | exact HB.out | apply wa | apply wn | apply wd | refine ws ?_ GE282.out | refine ws ?_ GE299.out | refine ws ?_ GE307.out | refine ws ?_ GE316.out | refine ws ?_ GE349.out) | exact HB.out)⟩⟩
             ·replace c135 := Bool.eq_false_iff.mpr c135
              subst c135
              have H1 : (laws_FnExactTakeKey.j2 kj66 t330 true t331 t332 t314) = some r := by rw [if_neg (show ¬ (false = true) by decide)] at H; exact H
              clear H
              have H := H1
              clear H1
              have H' := am H
              clear H
              have hnb146 := NB349_282.out
              have hnc146 := NB282_349.out
              have hnb147 := NB349_299.out
              have hnc147 := NB299_349.out
              have hnb148 := NB349_307.out
              have hnc148 := NB307_349.out
              have hnb149 := NB349_316.out
              have hnc149 := NB316_349.out
              have hcz150_0 : w126.cell? ⟨gb349, 0, none⟩ = some (.slice none 0 0) := (blk_cell BK349.out 0).trans rfl
              have hcz150_1 : w126.cell? ⟨gb349, 1, none⟩ = some (.slice none 0 0) := (blk_cell BK349.out 1).trans rfl
              have hcz150_2 : w126.cell? ⟨gb349, 2, none⟩ = some (.int .i64 0) := (blk_cell BK349.out 2).trans rfl
              have hfz150_0 := blk_frozen BK349.out 0
              have hfz150_1 := blk_frozen BK349.out 1
              have hfz150_2 := blk_frozen BK349.out 2
              have hnb151 := NB299_282.out
              have hnc151 := NB282_299.out
              have hnb152 := NB299_307.out
              have hnc152 := NB307_299.out
              have hnb153 := NB299_316.out
              have hnc153 := NB316_299.out
              have hcz154_0 : w126.cell? ⟨gb299, 0, none⟩ = some (.slice Ao24 t291.length co24) := (blk_cell BK299.out 0).trans rfl
              have hcz154_1 : w126.cell? ⟨gb299, 1, none⟩ = some (.slice Ao27 t294.length co27) := (blk_cell BK299.out 1).trans rfl
              have hcz154_2 : w126.cell? ⟨gb299, 2, none⟩ = some (.int .i64 t297) := (blk_cell BK299.out 2).trans rfl
              have hfz154_0 := blk_frozen BK299.out 0
              have hfz154_1 := blk_frozen BK299.out 1
              have hfz154_2 := blk_frozen BK299.out 2
              go_wp2_with (first | ((with_reducible refine gate_callee (f := 27) rfl ?_); refine goesL_ (some 89) rfl rfl Try.func27 (by kernel_rfl) rfl #[.agg #[.slice Ao127 t341.length co127, .slice Ao133 t344.length co133, .int .i64 t347], .agg #[.slice Ao24 t291.length co24, .slice Ao27 t294.length co27, .int .i64 t297]] rfl (by (try simp only [List.map_toArray, List.map_cons, List.map_nil]); first | done | rfl | (simp only [List.length_drop, List.length_take]; rfl)) ?_; (with_reducible refine (laws_eqTable.calls kj66 _ _ t341 _ _ t344 t347 _ _ t291 _ _ t294 t297 false _ ?side1 ?side2 ?side3 ?side4 ?side5 ?side6 ?side7 ?side8 A134.out).mono ?_); (case side1 => refine (rr (e := 57) (base := w.heap.size) (ok := fun k_ => ((((((((some k_ ≠ (.slice Ao133 t344.length co133 : Value).ownBlock ∧ some k_ ≠ (.slice Ao24 t291.length co24 : Value).ownBlock) ∧ some k_ ≠ (.slice Ao27 t294.length co27 : Value).ownBlock) ∧ some k_ ≠ (.slice Ao31 t327.length co31 : Value).ownBlock) ∧ some k_ ≠ (.slice Ao35 t328.length co35 : Value).ownBlock) ∧ some k_ ≠ (.slice Ao38 t308.length co38 : Value).ownBlock) ∧ some k_ ≠ (.slice Ao43 t311.length co43 : Value).ownBlock) ∧ some k_ ≠ (.slice Ao123 t334.length co123 : Value).ownBlock) ∧ some k_ ≠ (.slice Ao124 t337.length co124 : Value).ownBlock)) (n := t341.length) (c := co127) ?_).2.2; exact (by (with_reducible repeat (first | apply ra | apply rn | apply rd)); exact (rm (Kd.R_far (p := ⟨gb349, 2, none⟩) (Kd.R_far (p := ⟨gb349, 1, none⟩) (Kd.R_far (p := ⟨gb349, 0, none⟩) (Kd.R_types HO343.out BK349.out (by decide)) (fun _ hk => by simp [hk]) (.slice Ao127 t341.length co127)) (fun _ hk => by simp [hk]) (.slice Ao133 t344.length co133)) (fun _ hk => by simp [hk]) (.int .i64 t347)) (fun _ h_ => h_.1)))); (case side2 => exact (rr HO343.out).2.1); (case side3 => refine (rr (e := 57) (base := w.heap.size) (ok := fun k_ => ((((((((some k_ ≠ (.slice Ao127 t341.length co127 : Value).ownBlock ∧ some k_ ≠ (.slice Ao24 t291.length co24 : Value).ownBlock) ∧ some k_ ≠ (.slice Ao27 t294.length co27 : Value).ownBlock) ∧ some k_ ≠ (.slice Ao31 t327.length co31 : Value).ownBlock) ∧ some k_ ≠ (.slice Ao35 t328.length co35 : Value).ownBlock) ∧ some k_ ≠ (.slice Ao38 t308.length co38 : Value).ownBlock) ∧ some k_ ≠ (.slice Ao43 t311.length co43 : Value).ownBlock) ∧ some k_ ≠ (.slice Ao123 t334.length co123 : Value).ownBlock) ∧ some k_ ≠ (.slice Ao124 t337.length co124 : Value).ownBlock)) (n := t344.length) (c := co133) ?_).2.2; exact (by (with_reducible repeat (first | apply ra | apply rn | apply rd)); exact (rm (Kd.R_far (p := ⟨gb349, 2, none⟩) (Kd.R_far (p := ⟨gb349, 1, none⟩) (Kd.R_far (p := ⟨gb349, 0, none⟩) (Kd.R_types HO346.out BK349.out (by decide)) (fun _ hk => by simp [hk]) (.slice Ao127 t341.length co127)) (fun _ hk => by simp [hk]) (.slice Ao133 t344.length co133)) (fun _ hk => by simp [hk]) (.int .i64 t347)) (fun _ h_ => h_.1)))); (case side4 => exact (rr HO346.out).2.1); (case side5 => refine (rr (e := 57) (base := w.heap.size) (ok := fun k_ => (((((some k_ ≠ (.slice Ao27 t294.length co27 : Value).ownBlock ∧ (some k_ ≠ (.slice Ao31 t327.length co31 : Value).ownBlock ∧ (some k_ ≠ (.slice Ao35 t328.length co35 : Value).ownBlock ∧ (some k_ ≠ (.slice Ao38 t308.length co38 : Value).ownBlock ∧ some k_ ≠ (.slice Ao43 t311.length co43 : Value).ownBlock)))) ∧ some k_ ≠ (.slice Ao123 t334.length co123 : Value).ownBlock) ∧ some k_ ≠ (.slice Ao124 t337.length co124 : Value).ownBlock) ∧ some k_ ≠ (.slice Ao127 t341.length co127 : Value).ownBlock) ∧ some k_ ≠ (.slice Ao133 t344.length co133 : Value).ownBlock)) (n := t291.length) (c := co24) ?_).2.2; exact (by (with_reducible repeat (first | apply ra | apply rn | apply rd)); exact (rm (Kd.R_far (p := ⟨gb349, 2, none⟩) (Kd.R_far (p := ⟨gb349, 1, none⟩) (Kd.R_far (p := ⟨gb349, 0, none⟩) (Kd.R_types HO_300000.out BK349.out (by decide)) (fun _ hk => by simp [hk]) (.slice Ao127 t341.length co127)) (fun _ hk => by simp [hk]) (.slice Ao133 t344.length co133)) (fun _ hk => by simp [hk]) (.int .i64 t347)) (fun _ h_ => h_.1)))); (case side6 => exact (rr HO_300000.out).2.1); (case side7 => refine (rr (e := 57) (base := w.heap.size) (ok := fun k_ => (((((some k_ ≠ (.slice Ao24 t291.length co24 : Value).ownBlock ∧ (some k_ ≠ (.slice Ao31 t327.length co31 : Value).ownBlock ∧ (some k_ ≠ (.slice Ao35 t328.length co35 : Value).ownBlock ∧ (some k_ ≠ (.slice Ao38 t308.length co38 : Value).ownBlock ∧ some k_ ≠ (.slice Ao43 t311.length co43 : Value).ownBlock)))) ∧ some k_ ≠ (.slice Ao123 t334.length co123 : Value).ownBlock) ∧ some k_ ≠ (.slice Ao124 t337.length co124 : Value).ownBlock) ∧ some k_ ≠ (.slice Ao127 t341.length co127 : Value).ownBlock) ∧ some k_ ≠ (.slice Ao133 t344.length co133 : Value).ownBlock)) (n := t294.length) (c := co27) ?_).2.2; exact (by (with_reducible repeat (first | apply ra | apply rn | apply rd)); exact (rm (Kd.R_far (p := ⟨gb349, 2, none⟩) (Kd.R_far (p := ⟨gb349, 1, none⟩) (Kd.R_far (p := ⟨gb349, 0, none⟩) (Kd.R_types HO_300001.out BK349.out (by decide)) (fun _ hk => by simp [hk]) (.slice Ao127 t341.length co127)) (fun _ hk => by simp [hk]) (.slice Ao133 t344.length co133)) (fun _ hk => by simp [hk]) (.int .i64 t347)) (fun _ h_ => h_.1)))); (case side8 => exact (rr HO_300001.out).2.1); rintro e w155 ⟨rfl, hb⟩; refine ⟨_, rfl, ?_⟩; have n0_ := am (rb (by (with_reducible repeat (first | apply ra | apply rn | apply rd)); exact (rm (Kd.R_far (p := ⟨gb349, 2, none⟩) (Kd.R_far (p := ⟨gb349, 1, none⟩) (Kd.R_far (p := ⟨gb349, 0, none⟩) (Kd.R_types HO_300000.out BK349.out (by decide)) (fun _ hk => by simp [hk]) (.slice Ao127 t341.length co127)) (fun _ hk => by simp [hk]) (.slice Ao133 t344.length co133)) (fun _ hk => by simp [hk]) (.int .i64 t347)) (fun _ h_ => h_.1))) hb); have n1_ := am (rb (by (with_reducible repeat (first | apply ra | apply rn | apply rd)); exact (rm (Kd.R_far (p := ⟨gb349, 2, none⟩) (Kd.R_far (p := ⟨gb349, 1, none⟩) (Kd.R_far (p := ⟨gb349, 0, none⟩) (Kd.R_types HO_300001.out BK349.out (by decide)) (fun _ hk => by simp [hk]) (.slice Ao127 t341.length co127)) (fun _ hk => by simp [hk]) (.slice Ao133 t344.length co133)) (fun _ hk => by simp [hk]) (.int .i64 t347)) (fun _ h_ => h_.1))) hb); have n2_ := am (rb (by (with_reducible repeat (first | apply ra | apply rn | apply rd)); exact (rm (Kd.R_far (p := ⟨gb349, 2, none⟩) (Kd.R_far (p := ⟨gb349, 1, none⟩) (Kd.R_far (p := ⟨gb349, 0, none⟩) (Kd.R_types HO_308000.out BK349.out (by decide)) (fun _ hk => by simp [hk]) (.slice Ao127 t341.length co127)) (fun _ hk => by simp [hk]) (.slice Ao133 t344.length co133)) (fun _ hk => by simp [hk]) (.int .i64 t347)) (fun _ h_ => h_.1))) hb); have n3_ := am (rb (by (with_reducible repeat (first | apply ra | apply rn | apply rd)); exact (rm (Kd.R_far (p := ⟨gb349, 2, none⟩) (Kd.R_far (p := ⟨gb349, 1, none⟩) (Kd.R_far (p := ⟨gb349, 0, none⟩) (Kd.R_types HO_308001.out BK349.out (by decide)) (fun _ hk => by simp [hk]) (.slice Ao127 t341.length co127)) (fun _ hk => by simp [hk]) (.slice Ao133 t344.length co133)) (fun _ hk => by simp [hk]) (.int .i64 t347)) (fun _ h_ => h_.1))) hb); have n4_ := am (rb (by (with_reducible repeat (first | apply ra | apply rn | apply rd)); exact (rm (Kd.R_far (p := ⟨gb349, 2, none⟩) (Kd.R_far (p := ⟨gb349, 1, none⟩) (Kd.R_far (p := ⟨gb349, 0, none⟩) (Kd.R_types HO_317000.out BK349.out (by decide)) (fun _ hk => by simp [hk]) (.slice Ao127 t341.length co127)) (fun _ hk => by simp [hk]) (.slice Ao133 t344.length co133)) (fun _ hk => by simp [hk]) (.int .i64 t347)) (fun _ h_ => h_.1))) hb); have n5_ := am (rb (by (with_reducible repeat (first | apply ra | apply rn | apply rd)); exact (rm (Kd.R_far (p := ⟨gb349, 2, none⟩) (Kd.R_far (p := ⟨gb349, 1, none⟩) (Kd.R_far (p := ⟨gb349, 0, none⟩) (Kd.R_types HO_317001.out BK349.out (by decide)) (fun _ hk => by simp [hk]) (.slice Ao127 t341.length co127)) (fun _ hk => by simp [hk]) (.slice Ao133 t344.length co133)) (fun _ hk => by simp [hk]) (.int .i64 t347)) (fun _ h_ => h_.1))) hb); have n6_ := am (rb (by (with_reducible repeat (first | apply ra | apply rn | apply rd)); exact (rm (Kd.R_far (p := ⟨gb349, 2, none⟩) (Kd.R_far (p := ⟨gb349, 1, none⟩) (Kd.R_far (p := ⟨gb349, 0, none⟩) (Kd.R_types HO336.out BK349.out (by decide)) (fun _ hk => by simp [hk]) (.slice Ao127 t341.length co127)) (fun _ hk => by simp [hk]) (.slice Ao133 t344.length co133)) (fun _ hk => by simp [hk]) (.int .i64 t347)) (fun _ h_ => h_.1))) hb); have n7_ := am (rb (by (with_reducible repeat (first | apply ra | apply rn | apply rd)); exact (rm (Kd.R_far (p := ⟨gb349, 2, none⟩) (Kd.R_far (p := ⟨gb349, 1, none⟩) (Kd.R_far (p := ⟨gb349, 0, none⟩) (Kd.R_types HO339.out BK349.out (by decide)) (fun _ hk => by simp [hk]) (.slice Ao127 t341.length co127)) (fun _ hk => by simp [hk]) (.slice Ao133 t344.length co133)) (fun _ hk => by simp [hk]) (.int .i64 t347)) (fun _ h_ => h_.1))) hb); have n8_ := am (rb (by (with_reducible repeat (first | apply ra | apply rn | apply rd)); exact (rm (Kd.R_far (p := ⟨gb349, 2, none⟩) (Kd.R_far (p := ⟨gb349, 1, none⟩) (Kd.R_far (p := ⟨gb349, 0, none⟩) (Kd.R_types HO343.out BK349.out (by decide)) (fun _ hk => by simp [hk]) (.slice Ao127 t341.length co127)) (fun _ hk => by simp [hk]) (.slice Ao133 t344.length co133)) (fun _ hk => by simp [hk]) (.int .i64 t347)) (fun _ h_ => h_.1))) hb); have n9_ := am (rb (by (with_reducible repeat (first | apply ra | apply rn | apply rd)); exact (rm (Kd.R_far (p := ⟨gb349, 2, none⟩) (Kd.R_far (p := ⟨gb349, 1, none⟩) (Kd.R_far (p := ⟨gb349, 0, none⟩) (Kd.R_types HO346.out BK349.out (by decide)) (fun _ hk => by simp [hk]) (.slice Ao127 t341.length co127)) (fun _ hk => by simp [hk]) (.slice Ao133 t344.length co133)) (fun _ hk => by simp [hk]) (.int .i64 t347)) (fun _ h_ => h_.1))) hb); have n10_ := am (bb (g := gb282) (o := .cells #[.slice A0_0 l0_0.length c0_0, .slice A0_1 l0_1.length c0_1, .int .i64 a0_2] 42 (0, 0)) (by (with_reducible repeat (first | refine bn ?_ _ | refine bd ?_ | refine ba ?_ _)); refine blk_far ?_ NB282_349.out _; (with_reducible repeat (first | refine bn ?_ _ | refine bd ?_ | refine ba ?_ _)); refine blk_far ?_ NB282_349.out _; (with_reducible repeat (first | refine bn ?_ _ | refine bd ?_ | refine ba ?_ _)); refine blk_far ?_ NB282_349.out _; (with_reducible repeat (first | refine bn ?_ _ | refine bd ?_ | refine ba ?_ _)); exact BK282.out) hb); have n11_ := am (bb (g := gb299) (o := .cells #[.slice Ao24 t291.length co24, .slice Ao27 t294.length co27, .int .i64 t297] 26 (0, 0)) (by (with_reducible repeat (first | refine bn ?_ _ | refine bd ?_ | refine ba ?_ _)); refine blk_far ?_ NB299_349.out _; (with_reducible repeat (first | refine bn ?_ _ | refine bd ?_ | refine ba ?_ _)); refine blk_far ?_ NB299_349.out _; (with_reducible repeat (first | refine bn ?_ _ | refine bd ?_ | refine ba ?_ _)); refine blk_far ?_ NB299_349.out _; (with_reducible repeat (first | refine bn ?_ _ | refine bd ?_ | refine ba ?_ _)); exact BK299.out) hb); have n12_ := am (bb (g := gb307) (o := .cells #[.slice Ao31 t327.length co31, .slice Ao35 t328.length co35, .int .i64 t306] 26 (0, 0)) (by (with_reducible repeat (first | refine bn ?_ _ | refine bd ?_ | refine ba ?_ _)); refine blk_far ?_ NB307_349.out _; (with_reducible repeat (first | refine bn ?_ _ | refine bd ?_ | refine ba ?_ _)); refine blk_far ?_ NB307_349.out _; (with_reducible repeat (first | refine bn ?_ _ | refine bd ?_ | refine ba ?_ _)); refine blk_far ?_ NB307_349.out _; (with_reducible repeat (first | refine bn ?_ _ | refine bd ?_ | refine ba ?_ _)); exact BK307.out) hb); have n13_ := am (bb (g := gb316) (o := .cells #[.slice Ao38 t308.length co38, .slice Ao43 t311.length co43, .int .i64 t314] 26 (0, 0)) (by (with_reducible repeat (first | refine bn ?_ _ | refine bd ?_ | refine ba ?_ _)); refine blk_far ?_ NB316_349.out _; (with_reducible repeat (first | refine bn ?_ _ | refine bd ?_ | refine ba ?_ _)); refine blk_far ?_ NB316_349.out _; (with_reducible repeat (first | refine bn ?_ _ | refine bd ?_ | refine ba ?_ _)); refine blk_far ?_ NB316_349.out _; (with_reducible repeat (first | refine bn ?_ _ | refine bd ?_ | refine ba ?_ _)); exact BK316.out) hb); have n14_ := am (bb (g := gb349) (o := .cells #[.slice Ao127 t341.length co127, .slice Ao133 t344.length co133, .int .i64 t347] 26 (0, 0)) (by (with_reducible repeat (first | refine bn ?_ _ | refine bd ?_ | refine ba ?_ _)); refine blk_put (cs := #[.slice Ao127 t341.length co127, .slice Ao133 t344.length co133, .int .i64 0]) ?_ 2 _ rfl; (with_reducible repeat (first | refine bn ?_ _ | refine bd ?_ | refine ba ?_ _)); refine blk_put (cs := #[.slice Ao127 t341.length co127, .slice none 0 0, .int .i64 0]) ?_ 1 _ rfl; (with_reducible repeat (first | refine bn ?_ _ | refine bd ?_ | refine ba ?_ _)); refine blk_put (cs := #[.slice none 0 0, .slice none 0 0, .int .i64 0]) ?_ 0 _ rfl; (with_reducible repeat (first | refine bn ?_ _ | refine bd ?_ | refine ba ?_ _)); exact BK349.out) hb); have n15_ := am (bs (by repeat (first | (with_reducible first | exact HB.out | apply wa | apply wn | apply wd | refine ws ?_ GE282.out | refine ws ?_ GE299.out | refine ws ?_ GE307.out | refine ws ?_ GE316.out | refine ws ?_ GE349.out) | exact HB.out)) hb); clear HO_300000; clear HO_300001; clear HO_308000; clear HO_308001; clear HO_317000; clear HO_317001; clear HO336; clear HO339; clear HO343; clear HO346; clear BK282; clear BK299; clear BK307; clear BK316; clear BK349; clear HB; have HO_300000 := n0_; have HO_300001 := n1_; have HO_308000 := n2_; have HO_308001 := n3_; have HO_317000 := n4_; have HO_317001 := n5_; have HO336 := n6_; have HO339 := n7_; have HO343 := n8_; have HO346 := n9_; have BK282 := n10_; have BK299 := n11_; have BK307 := n12_; have BK316 := n13_; have BK349 := n14_; have HB := n15_; clear n0_ n1_ n2_ n3_ n4_ n5_ n6_ n7_ n8_ n9_ n10_ n11_ n12_ n13_ n14_ n15_; (try clear hb); (try clear hb2); (try clear hk); (try clear hi)))
              go_meet
              case rel => exact ⟨_, (true), (by first | rfl | (simp; done) | (simp [*]; done) | (simp; generalize ByteArray.toList _ = z; cases z <;> rfl)), H', ⟨by have := HJ13.out; have := HJ66.out; first | omega | exact Nat.le_refl _⟩, ⟨by (try simp only [hl308000_66]); (try simp only [hl308001_66]); (with_reducible repeat (first | apply ra | apply rn | apply rd)); exact rm HO_300000.out (fun _ hk => by simp [hk])⟩, ⟨by (try simp only [hl308000_66]); (try simp only [hl308001_66]); (with_reducible repeat (first | apply ra | apply rn | apply rd)); exact rm HO_300001.out (fun _ hk => by simp [hk])⟩, ⟨by (try simp only [hl308000_66]); (try simp only [hl308001_66]); (with_reducible repeat (first | apply ra | apply rn | apply rd)); exact rm HO_308000.out (fun _ hk => by simp [hk])⟩, ⟨by (try simp only [hl308000_66]); (try simp only [hl308001_66]); (with_reducible repeat (first | apply ra | apply rn | apply rd)); exact rm HO_308001.out (fun _ hk => by simp [hk])⟩, ⟨by (try simp only [hl308000_66]); (try simp only [hl308001_66]); (with_reducible repeat (first | apply ra | apply rn | apply rd)); exact rm HO_317000.out (fun _ hk => by simp [hk])⟩, ⟨by (try simp only [hl308000_66]); (try simp only [hl308001_66]); (with_reducible repeat (first | apply ra | apply rn | apply rd)); exact rm HO_317001.out (fun _ hk => by simp [hk])⟩, ⟨by (try simp only [hl308000_66]); (try simp only [hl308001_66]); (with_reducible repeat (first | apply ra | apply rn | apply rd)); exact rm HO343.out (fun _ hk => by simp [hk])⟩, ⟨by (try simp only [hl308000_66]); (try simp only [hl308001_66]); (with_reducible repeat (first | apply ra | apply rn | apply rd)); exact rm HO346.out (fun _ hk => by simp [hk])⟩, ⟨by (try simp only [hl308000_66]); (try simp only [hl308001_66]); (with_reducible repeat (first | refine bn ?_ _ | refine bd ?_ | refine ba ?_ _)); exact BK282.out⟩, ⟨by (try simp only [hl308000_66]); (try simp only [hl308001_66]); (with_reducible repeat (first | refine bn ?_ _ | refine bd ?_ | refine ba ?_ _)); exact BK299.out⟩, ⟨by (try simp only [hl308000_66]); (try simp only [hl308001_66]); (with_reducible repeat (first | refine bn ?_ _ | refine bd ?_ | refine ba ?_ _)); exact BK307.out⟩, ⟨by (try simp only [hl308000_66]); (try simp only [hl308001_66]); (with_reducible repeat (first | refine bn ?_ _ | refine bd ?_ | refine ba ?_ _)); exact BK316.out⟩, ⟨by (try simp only [hl308000_66]); (try simp only [hl308001_66]); (with_reducible repeat (first | refine bn ?_ _ | refine bd ?_ | refine ba ?_ _)); exact BK349.out⟩, ⟨by repeat (first | (with_reducible first | exact HB.out | apply wa | apply wn | apply wd | refine ws ?_ GE282.out | refine ws ?_ GE299.out | refine ws ?_ GE307.out | refine ws ?_ GE316.out | refine ws ?_ GE349.out) | exact HB.out)⟩⟩
            case rest =>
             clear HC111
             try clear c1
             try clear c2
             try clear p2
             try clear c3
             try clear c3b0
             try clear c3b1
             try clear c4
             try clear c5
             try clear c6
             try clear c6b0
             try clear c7
             try clear c8
             try clear c9
             try clear c10
             try clear c11
             try clear c12
             try clear c13
             try clear c14
             try clear c15
             try clear c24
             try clear c25
             try clear c26
             try clear c27
             try clear c30
             try clear c32
             try clear c33
             try clear c34
             try clear c35
             try clear c39
             try clear c40
             try clear c41
             try clear c45
             try clear c46
             try clear c47
             try clear c48
             try clear c50
             try clear c51
             try clear c54
             try clear c55
             try clear c56
             try clear c58
             try clear c59
             try clear c62
             try clear c65
             try clear c73
             try clear c74
             try clear c75
             try clear c78
             try clear c78b0
             try clear c80
             try clear c81
             try clear c82
             try clear c83
             try clear c85
             try clear c86
             try clear c89
             try clear c90
             try clear c91
             try clear c93
             try clear c94
             try clear c97
             try clear c100
             try clear c100b0
             try clear c101
             try clear c102
             try clear c103
             try clear c108
             try clear c108b0
             try clear c108b1
             try clear c112
             try clear c113
             try clear c114
             try clear c119
             try clear c120
             try clear c128
             try clear c129
             try clear c130
             try clear c131
             try clear c135
             try clear c136
             try clear c137
             try clear c138
             try clear c139
             try clear c141
             try clear c142
             try clear c143
             try clear c146
             try clear c147
             try clear c148
             try clear c149
             try clear c151
             try clear c152
             try clear c153
             try clear hcz104_0
             try clear hcz104_1
             try clear hcz104_2
             try clear hcz106_0
             try clear hcz106_1
             try clear hcz106_2
             try clear hcz115_0
             try clear hcz115_1
             try clear hcz115_2
             try clear hcz117_0
             try clear hcz117_1
             try clear hcz117_2
             try clear hcz121_0
             try clear hcz121_1
             try clear hcz121_2
             try clear hcz132_0
             try clear hcz132_1
             try clear hcz132_2
             try clear hcz140_0
             try clear hcz140_1
             try clear hcz140_2
             try clear hcz144_0
             try clear hcz144_1
             try clear hcz144_2
             try clear hcz150_0
             try clear hcz150_1
             try clear hcz150_2
             try clear hcz154_0
             try clear hcz154_1
             try clear hcz154_2
             try clear hcz16_0
             try clear hcz16_1
             try clear hcz16_2
             try clear hcz18_0
             try clear hcz18_1
             try clear hcz18_2
             try clear hcz26_0
             try clear hcz26_1
             try clear hcz26_2
             try clear hcz28_0
             try clear hcz28_1
             try clear hcz28_2
             try clear hcz34_0
             try clear hcz34_1
             try clear hcz34_2
             try clear hcz42_0
             try clear hcz42_1
             try clear hcz42_2
             try clear hcz49_0
             try clear hcz49_1
             try clear hcz49_2
             try clear hcz52_0
             try clear hcz52_1
             try clear hcz52_2
             try clear hcz57_0
             try clear hcz57_1
             try clear hcz57_2
             try clear hcz60_0
             try clear hcz60_1
             try clear hcz60_2
             try clear hcz76_0
             try clear hcz76_1
             try clear hcz76_2
             try clear hcz84_0
             try clear hcz84_1
             try clear hcz84_2
             try clear hcz87_0
             try clear hcz87_1
             try clear hcz87_2
             try clear hcz8_0
             try clear hcz8_1
             try clear hcz8_2
             try clear hcz92_0
             try clear hcz92_1
             try clear hcz92_2
             try clear hcz95_0
             try clear hcz95_1
             try clear hcz95_2
             try clear hfz104_0
             try clear hfz104_1
             try clear hfz104_2
             try clear hfz106_0
             try clear hfz106_1
             try clear hfz106_2
             try clear hfz115_0
             try clear hfz115_1
             try clear hfz115_2
             try clear hfz117_0
             try clear hfz117_1
             try clear hfz117_2
             try clear hfz121_0
             try clear hfz121_1
             try clear hfz121_2
             try clear hfz132_0
             try clear hfz132_1
             try clear hfz132_2
             try clear hfz140_0
             try clear hfz140_1
             try clear hfz140_2
             try clear hfz144_0
             try clear hfz144_1
             try clear hfz144_2
             try clear hfz150_0
             try clear hfz150_1
             try clear hfz150_2
             try clear hfz154_0
             try clear hfz154_1
             try clear hfz154_2
             try clear hfz16_0
             try clear hfz16_1
             try clear hfz16_2
             try clear hfz18_0
             try clear hfz18_1
             try clear hfz18_2
             try clear hfz26_0
             try clear hfz26_1
             try clear hfz26_2
             try clear hfz28_0
             try clear hfz28_1
             try clear hfz28_2
             try clear hfz34_0
             try clear hfz34_1
             try clear hfz34_2
             try clear hfz42_0
             try clear hfz42_1
             try clear hfz42_2
             try clear hfz49_0
             try clear hfz49_1
             try clear hfz49_2
             try clear hfz52_0
             try clear hfz52_1
             try clear hfz52_2
             try clear hfz57_0
             try clear hfz57_1
             try clear hfz57_2
             try clear hfz60_0
             try clear hfz60_1
             try clear hfz60_2
             try clear hfz76_0
             try clear hfz76_1
             try clear hfz76_2
             try clear hfz84_0
             try clear hfz84_1
             try clear hfz84_2
             try clear hfz87_0
             try clear hfz87_1
             try clear hfz87_2
             try clear hfz8_0
             try clear hfz8_1
             try clear hfz8_2
             try clear hfz92_0
             try clear hfz92_1
             try clear hfz92_2
             try clear hfz95_0
             try clear hfz95_1
             try clear hfz95_2
             try clear p2
             obtain ⟨kq, x95_110, rfl, HA, HJ110, HO_300000, HO_300001, HO_308000, HO_308001, HO_317000, HO_317001, HO_350000, HO_350001, BK282, BK299, BK307, BK316, BK349, HB⟩ := hcut
             have hl317000_110 := (rr HO_317000.out).1
             rw [hl317000_110] at HO_317000
             (try simp only [hl317000_110])
             (try simp only [hl317000_110] at BK282)
             (try simp only [hl317000_110] at BK299)
             (try simp only [hl317000_110] at BK307)
             (try simp only [hl317000_110] at BK316)
             (try simp only [hl317000_110] at BK349)
             (try simp only [hl317000_110] at HO_300000)
             (try simp only [hl317000_110] at HO_300001)
             (try simp only [hl317000_110] at HO_308000)
             (try simp only [hl317000_110] at HO_308001)
             (try simp only [hl317000_110] at HO_317001)
             (try simp only [hl317000_110] at HO_350000)
             (try simp only [hl317000_110] at HO_350001)
             have hl317001_110 := (rr HO_317001.out).1
             rw [hl317001_110] at HO_317001
             (try simp only [hl317001_110])
             (try simp only [hl317001_110] at BK282)
             (try simp only [hl317001_110] at BK299)
             (try simp only [hl317001_110] at BK307)
             (try simp only [hl317001_110] at BK316)
             (try simp only [hl317001_110] at BK349)
             (try simp only [hl317001_110] at HO_300000)
             (try simp only [hl317001_110] at HO_300001)
             (try simp only [hl317001_110] at HO_308000)
             (try simp only [hl317001_110] at HO_308001)
             (try simp only [hl317001_110] at HO_317000)
             (try simp only [hl317001_110] at HO_350000)
             (try simp only [hl317001_110] at HO_350001)
             cases kq with
             | zero => exact absurd HA.out (by simp [laws_FnExactTakeKey.j2])
             | succ kj110 =>
              have H := HA.out
              clear HA
              simp only [laws_FnExactTakeKey.j2] at H
              by_cases c156 : x95_110 = true
              ·subst c156
               have H1 : (some false) = some r := by rw [if_pos rfl] at H; exact H
               clear H
               have H := H1
               clear H1
               obtain rfl := Option.some.inj H
               go_wp2
               go_ret
               exact ⟨by first | rfl | (simp [errW_none, errW_some] <;> rfl) | (simp [*, errW_none, errW_some] <;> rfl), by repeat (first | (with_reducible first | exact HB.out | apply wa | apply wn | apply wd | refine ws ?_ GE282.out | refine ws ?_ GE299.out | refine ws ?_ GE307.out | refine ws ?_ GE316.out | refine ws ?_ GE349.out) | exact HB.out)⟩
              ·replace c156 := Bool.eq_false_iff.mpr c156
               subst c156
               have H1 : ((laws_heldTable.f kj110 t331 t332 t314 1).bind fun t351 => (if t351 < 0 then (some false) else (if t351 = t330 then (some true) else (some false)))) = some r := by rw [if_neg (show ¬ (false = true) by decide)] at H; exact H
               clear H
               have H := H1
               clear H1
               replace H := Option.bind_eq_some_iff.mp H
               obtain ⟨t351, A1570, H⟩ := H
               replace H : (if t351 < 0 then (some false) else (if t351 = t330 then (some true) else (some false))) = some r := H
               have A157 := am A1570
               clear A1570
               by_cases c158 : t351 < 0
               ·rw [if_pos c158] at H
                have c158b0 : decide (t351 < 0) = true := decide_eq_true c158
                clear c158
                obtain rfl := Option.some.inj H
                have hnb159 := NB316_282.out
                have hnc159 := NB282_316.out
                have hnb160 := NB316_299.out
                have hnc160 := NB299_316.out
                have hnb161 := NB316_307.out
                have hnc161 := NB307_316.out
                have hnb162 := NB316_349.out
                have hnc162 := NB349_316.out
                have hcz163_0 : wc.cell? ⟨gb316, 0, none⟩ = some (.slice Ao38 t331.length co38) := (blk_cell BK316.out 0).trans rfl
                have hcz163_1 : wc.cell? ⟨gb316, 1, none⟩ = some (.slice Ao43 t332.length co43) := (blk_cell BK316.out 1).trans rfl
                have hcz163_2 : wc.cell? ⟨gb316, 2, none⟩ = some (.int .i64 t314) := (blk_cell BK316.out 2).trans rfl
                have hfz163_0 := blk_frozen BK316.out 0
                have hfz163_1 := blk_frozen BK316.out 1
                have hfz163_2 := blk_frozen BK316.out 2
                go_wp2_with (first | ((with_reducible refine gate_callee (f := 35) rfl ?_); refine goesL_ (some 98) rfl rfl Try.func35 (by kernel_rfl) rfl #[.agg #[.slice Ao38 t331.length co38, .slice Ao43 t332.length co43, .int .i64 t314], .int .i64 1] rfl (by (try simp only [List.map_toArray, List.map_cons, List.map_nil]); first | done | rfl | (simp only [List.length_drop, List.length_take]; rfl)) ?_; (with_reducible refine (laws_heldTable.calls kj110 _ _ t331 _ _ t332 t314 1 t351 _ ?side1 ?side2 ?side3 ?side4 A157.out).mono ?_); (case side1 => repeat (first | exact (rr HO_317000.out).2.2 | (with_reducible refine Kd.C_alloc ?_ _) | (with_reducible refine Kd.C_drewN ?_ _) | (with_reducible refine Kd.C_drew ?_))); (case side2 => exact (rr HO_317000.out).2.1); (case side3 => repeat (first | exact (rr HO_317001.out).2.2 | (with_reducible refine Kd.C_alloc ?_ _) | (with_reducible refine Kd.C_drewN ?_ _) | (with_reducible refine Kd.C_drew ?_))); (case side4 => exact (rr HO_317001.out).2.1); rintro e w164 ⟨rfl, hb⟩; refine ⟨_, rfl, ?_⟩; have n0_ := am (rb (by (with_reducible repeat (first | apply ra | apply rn | apply rd)); exact HO_300000.out) hb); have n1_ := am (rb (by (with_reducible repeat (first | apply ra | apply rn | apply rd)); exact HO_300001.out) hb); have n2_ := am (rb (by (with_reducible repeat (first | apply ra | apply rn | apply rd)); exact HO_308000.out) hb); have n3_ := am (rb (by (with_reducible repeat (first | apply ra | apply rn | apply rd)); exact HO_308001.out) hb); have n4_ := am (rb (by (with_reducible repeat (first | apply ra | apply rn | apply rd)); exact HO_317000.out) hb); have n5_ := am (rb (by (with_reducible repeat (first | apply ra | apply rn | apply rd)); exact HO_317001.out) hb); have n6_ := am (rb (by (with_reducible repeat (first | apply ra | apply rn | apply rd)); exact HO_350000.out) hb); have n7_ := am (rb (by (with_reducible repeat (first | apply ra | apply rn | apply rd)); exact HO_350001.out) hb); have n8_ := am (bb (g := gb282) (o := .cells #[.slice A0_0 l0_0.length c0_0, .slice A0_1 l0_1.length c0_1, .int .i64 a0_2] 42 (0, 0)) (by (with_reducible repeat (first | refine bn ?_ _ | refine bd ?_ | refine ba ?_ _)); exact BK282.out) hb); have n9_ := am (bb (g := gb299) (o := .cells #[.slice Ao24 t291.length co24, .slice Ao27 t294.length co27, .int .i64 t297] 26 (0, 0)) (by (with_reducible repeat (first | refine bn ?_ _ | refine bd ?_ | refine ba ?_ _)); exact BK299.out) hb); have n10_ := am (bb (g := gb307) (o := .cells #[.slice Ao31 t327.length co31, .slice Ao35 t328.length co35, .int .i64 t306] 26 (0, 0)) (by (with_reducible repeat (first | refine bn ?_ _ | refine bd ?_ | refine ba ?_ _)); exact BK307.out) hb); have n11_ := am (bb (g := gb316) (o := .cells #[.slice Ao38 t331.length co38, .slice Ao43 t332.length co43, .int .i64 t314] 26 (0, 0)) (by (with_reducible repeat (first | refine bn ?_ _ | refine bd ?_ | refine ba ?_ _)); exact BK316.out) hb); have n12_ := am (bb (g := gb349) (o := .cells #[.slice Ao127 t341.length co127, .slice Ao133 t344.length co133, .int .i64 t347] 26 (0, 0)) (by (with_reducible repeat (first | refine bn ?_ _ | refine bd ?_ | refine ba ?_ _)); exact BK349.out) hb); have n13_ := am (bs (by repeat (first | (with_reducible first | exact HB.out | apply wa | apply wn | apply wd | refine ws ?_ GE282.out | refine ws ?_ GE299.out | refine ws ?_ GE307.out | refine ws ?_ GE316.out | refine ws ?_ GE349.out) | exact HB.out)) hb); clear HO_300000; clear HO_300001; clear HO_308000; clear HO_308001; clear HO_317000; clear HO_317001; clear HO_350000; clear HO_350001; clear BK282; clear BK299; clear BK307; clear BK316; clear BK349; clear HB; have HO_300000 := n0_; have HO_300001 := n1_; have HO_308000 := n2_; have HO_308001 := n3_; have HO_317000 := n4_; have HO_317001 := n5_; have HO_350000 := n6_; have HO_350001 := n7_; have BK282 := n8_; have BK299 := n9_; have BK307 := n10_; have BK316 := n11_; have BK349 := n12_; have HB := n13_; clear n0_ n1_ n2_ n3_ n4_ n5_ n6_ n7_ n8_ n9_ n10_ n11_ n12_ n13_; (try clear hb); (try clear hb2); (try clear hk); (try clear hi)))
                go_ret
                exact ⟨by first | rfl | (simp [errW_none, errW_some] <;> rfl) | (simp [*, errW_none, errW_some] <;> rfl), by repeat (first | (with_reducible first | exact HB.out | apply wa | apply wn | apply wd | refine ws ?_ GE282.out | refine ws ?_ GE299.out | refine ws ?_ GE307.out | refine ws ?_ GE316.out | refine ws ?_ GE349.out) | exact HB.out)⟩
               ·rw [if_neg c158] at H
                have c158b0 : decide (t351 < 0) = false := decide_eq_false c158
                clear c158
                by_cases c165 : t351 = t330
                ·rw [if_pos c165] at H
                 have c165b0 : (t351 == t330) = true := beq_iff_eq.mpr c165
                 have c165b1 : (t351 != t330) = false := bne_eq_false_iff_eq.mpr c165
                 clear c165
                 obtain rfl := Option.some.inj H
                 have hnb166 := NB316_282.out
                 have hnc166 := NB282_316.out
                 have hnb167 := NB316_299.out
                 have hnc167 := NB299_316.out
                 have hnb168 := NB316_307.out
                 have hnc168 := NB307_316.out
                 have hnb169 := NB316_349.out
                 have hnc169 := NB349_316.out
                 have hcz170_0 : wc.cell? ⟨gb316, 0, none⟩ = some (.slice Ao38 t331.length co38) := (blk_cell BK316.out 0).trans rfl
                 have hcz170_1 : wc.cell? ⟨gb316, 1, none⟩ = some (.slice Ao43 t332.length co43) := (blk_cell BK316.out 1).trans rfl
                 have hcz170_2 : wc.cell? ⟨gb316, 2, none⟩ = some (.int .i64 t314) := (blk_cell BK316.out 2).trans rfl
                 have hfz170_0 := blk_frozen BK316.out 0
                 have hfz170_1 := blk_frozen BK316.out 1
                 have hfz170_2 := blk_frozen BK316.out 2
                 go_wp2_with (first | ((with_reducible refine gate_callee (f := 35) rfl ?_); refine goesL_ (some 98) rfl rfl Try.func35 (by kernel_rfl) rfl #[.agg #[.slice Ao38 t331.length co38, .slice Ao43 t332.length co43, .int .i64 t314], .int .i64 1] rfl (by (try simp only [List.map_toArray, List.map_cons, List.map_nil]); first | done | rfl | (simp only [List.length_drop, List.length_take]; rfl)) ?_; (with_reducible refine (laws_heldTable.calls kj110 _ _ t331 _ _ t332 t314 1 t351 _ ?side1 ?side2 ?side3 ?side4 A157.out).mono ?_); (case side1 => repeat (first | exact (rr HO_317000.out).2.2 | (with_reducible refine Kd.C_alloc ?_ _) | (with_reducible refine Kd.C_drewN ?_ _) | (with_reducible refine Kd.C_drew ?_))); (case side2 => exact (rr HO_317000.out).2.1); (case side3 => repeat (first | exact (rr HO_317001.out).2.2 | (with_reducible refine Kd.C_alloc ?_ _) | (with_reducible refine Kd.C_drewN ?_ _) | (with_reducible refine Kd.C_drew ?_))); (case side4 => exact (rr HO_317001.out).2.1); rintro e w171 ⟨rfl, hb⟩; refine ⟨_, rfl, ?_⟩; have n0_ := am (rb (by (with_reducible repeat (first | apply ra | apply rn | apply rd)); exact HO_300000.out) hb); have n1_ := am (rb (by (with_reducible repeat (first | apply ra | apply rn | apply rd)); exact HO_300001.out) hb); have n2_ := am (rb (by (with_reducible repeat (first | apply ra | apply rn | apply rd)); exact HO_308000.out) hb); have n3_ := am (rb (by (with_reducible repeat (first | apply ra | apply rn | apply rd)); exact HO_308001.out) hb); have n4_ := am (rb (by (with_reducible repeat (first | apply ra | apply rn | apply rd)); exact HO_317000.out) hb); have n5_ := am (rb (by (with_reducible repeat (first | apply ra | apply rn | apply rd)); exact HO_317001.out) hb); have n6_ := am (rb (by (with_reducible repeat (first | apply ra | apply rn | apply rd)); exact HO_350000.out) hb); have n7_ := am (rb (by (with_reducible repeat (first | apply ra | apply rn | apply rd)); exact HO_350001.out) hb); have n8_ := am (bb (g := gb282) (o := .cells #[.slice A0_0 l0_0.length c0_0, .slice A0_1 l0_1.length c0_1, .int .i64 a0_2] 42 (0, 0)) (by (with_reducible repeat (first | refine bn ?_ _ | refine bd ?_ | refine ba ?_ _)); exact BK282.out) hb); have n9_ := am (bb (g := gb299) (o := .cells #[.slice Ao24 t291.length co24, .slice Ao27 t294.length co27, .int .i64 t297] 26 (0, 0)) (by (with_reducible repeat (first | refine bn ?_ _ | refine bd ?_ | refine ba ?_ _)); exact BK299.out) hb); have n10_ := am (bb (g := gb307) (o := .cells #[.slice Ao31 t327.length co31, .slice Ao35 t328.length co35, .int .i64 t306] 26 (0, 0)) (by (with_reducible repeat (first | refine bn ?_ _ | refine bd ?_ | refine ba ?_ _)); exact BK307.out) hb); have n11_ := am (bb (g := gb316) (o := .cells #[.slice Ao38 t331.length co38, .slice Ao43 t332.length co43, .int .i64 t314] 26 (0, 0)) (by (with_reducible repeat (first | refine bn ?_ _ | refine bd ?_ | refine ba ?_ _)); exact BK316.out) hb); have n12_ := am (bb (g := gb349) (o := .cells #[.slice Ao127 t341.length co127, .slice Ao133 t344.length co133, .int .i64 t347] 26 (0, 0)) (by (with_reducible repeat (first | refine bn ?_ _ | refine bd ?_ | refine ba ?_ _)); exact BK349.out) hb); have n13_ := am (bs (by repeat (first | (with_reducible first | exact HB.out | apply wa | apply wn | apply wd | refine ws ?_ GE282.out | refine ws ?_ GE299.out | refine ws ?_ GE307.out | refine ws ?_ GE316.out | refine ws ?_ GE349.out) | exact HB.out)) hb); clear HO_300000; clear HO_300001; clear HO_308000; clear HO_308001; clear HO_317000; clear HO_317001; clear HO_350000; clear HO_350001; clear BK282; clear BK299; clear BK307; clear BK316; clear BK349; clear HB; have HO_300000 := n0_; have HO_300001 := n1_; have HO_308000 := n2_; have HO_308001 := n3_; have HO_317000 := n4_; have HO_317001 := n5_; have HO_350000 := n6_; have HO_350001 := n7_; have BK282 := n8_; have BK299 := n9_; have BK307 := n10_; have BK316 := n11_; have BK349 := n12_; have HB := n13_; clear n0_ n1_ n2_ n3_ n4_ n5_ n6_ n7_ n8_ n9_ n10_ n11_ n12_ n13_; (try clear hb); (try clear hb2); (try clear hk); (try clear hi)))
                 go_ret
                 exact ⟨by first | rfl | (simp [errW_none, errW_some] <;> rfl) | (simp [*, errW_none, errW_some] <;> rfl), by repeat (first | (with_reducible first | exact HB.out | apply wa | apply wn | apply wd | refine ws ?_ GE282.out | refine ws ?_ GE299.out | refine ws ?_ GE307.out | refine ws ?_ GE316.out | refine ws ?_ GE349.out) | exact HB.out)⟩
                ·rw [if_neg c165] at H
                 have c165b0 : (t351 == t330) = false := beq_eq_false_iff_ne.mpr c165
                 have c165b1 : (t351 != t330) = true := bne_iff_ne.mpr c165
                 obtain rfl := Option.some.inj H
                 have hnb172 := NB316_282.out
                 have hnc172 := NB282_316.out
                 have hnb173 := NB316_299.out
                 have hnc173 := NB299_316.out
                 have hnb174 := NB316_307.out
                 have hnc174 := NB307_316.out
                 have hnb175 := NB316_349.out
                 have hnc175 := NB349_316.out
                 have hcz176_0 : wc.cell? ⟨gb316, 0, none⟩ = some (.slice Ao38 t331.length co38) := (blk_cell BK316.out 0).trans rfl
                 have hcz176_1 : wc.cell? ⟨gb316, 1, none⟩ = some (.slice Ao43 t332.length co43) := (blk_cell BK316.out 1).trans rfl
                 have hcz176_2 : wc.cell? ⟨gb316, 2, none⟩ = some (.int .i64 t314) := (blk_cell BK316.out 2).trans rfl
                 have hfz176_0 := blk_frozen BK316.out 0
                 have hfz176_1 := blk_frozen BK316.out 1
                 have hfz176_2 := blk_frozen BK316.out 2
                 go_wp2_with (first | ((with_reducible refine gate_callee (f := 35) rfl ?_); refine goesL_ (some 98) rfl rfl Try.func35 (by kernel_rfl) rfl #[.agg #[.slice Ao38 t331.length co38, .slice Ao43 t332.length co43, .int .i64 t314], .int .i64 1] rfl (by (try simp only [List.map_toArray, List.map_cons, List.map_nil]); first | done | rfl | (simp only [List.length_drop, List.length_take]; rfl)) ?_; (with_reducible refine (laws_heldTable.calls kj110 _ _ t331 _ _ t332 t314 1 t351 _ ?side1 ?side2 ?side3 ?side4 A157.out).mono ?_); (case side1 => repeat (first | exact (rr HO_317000.out).2.2 | (with_reducible refine Kd.C_alloc ?_ _) | (with_reducible refine Kd.C_drewN ?_ _) | (with_reducible refine Kd.C_drew ?_))); (case side2 => exact (rr HO_317000.out).2.1); (case side3 => repeat (first | exact (rr HO_317001.out).2.2 | (with_reducible refine Kd.C_alloc ?_ _) | (with_reducible refine Kd.C_drewN ?_ _) | (with_reducible refine Kd.C_drew ?_))); (case side4 => exact (rr HO_317001.out).2.1); rintro e w177 ⟨rfl, hb⟩; refine ⟨_, rfl, ?_⟩; have n0_ := am (rb (by (with_reducible repeat (first | apply ra | apply rn | apply rd)); exact HO_300000.out) hb); have n1_ := am (rb (by (with_reducible repeat (first | apply ra | apply rn | apply rd)); exact HO_300001.out) hb); have n2_ := am (rb (by (with_reducible repeat (first | apply ra | apply rn | apply rd)); exact HO_308000.out) hb); have n3_ := am (rb (by (with_reducible repeat (first | apply ra | apply rn | apply rd)); exact HO_308001.out) hb); have n4_ := am (rb (by (with_reducible repeat (first | apply ra | apply rn | apply rd)); exact HO_317000.out) hb); have n5_ := am (rb (by (with_reducible repeat (first | apply ra | apply rn | apply rd)); exact HO_317001.out) hb); have n6_ := am (rb (by (with_reducible repeat (first | apply ra | apply rn | apply rd)); exact HO_350000.out) hb); have n7_ := am (rb (by (with_reducible repeat (first | apply ra | apply rn | apply rd)); exact HO_350001.out) hb); have n8_ := am (bb (g := gb282) (o := .cells #[.slice A0_0 l0_0.length c0_0, .slice A0_1 l0_1.length c0_1, .int .i64 a0_2] 42 (0, 0)) (by (with_reducible repeat (first | refine bn ?_ _ | refine bd ?_ | refine ba ?_ _)); exact BK282.out) hb); have n9_ := am (bb (g := gb299) (o := .cells #[.slice Ao24 t291.length co24, .slice Ao27 t294.length co27, .int .i64 t297] 26 (0, 0)) (by (with_reducible repeat (first | refine bn ?_ _ | refine bd ?_ | refine ba ?_ _)); exact BK299.out) hb); have n10_ := am (bb (g := gb307) (o := .cells #[.slice Ao31 t327.length co31, .slice Ao35 t328.length co35, .int .i64 t306] 26 (0, 0)) (by (with_reducible repeat (first | refine bn ?_ _ | refine bd ?_ | refine ba ?_ _)); exact BK307.out) hb); have n11_ := am (bb (g := gb316) (o := .cells #[.slice Ao38 t331.length co38, .slice Ao43 t332.length co43, .int .i64 t314] 26 (0, 0)) (by (with_reducible repeat (first | refine bn ?_ _ | refine bd ?_ | refine ba ?_ _)); exact BK316.out) hb); have n12_ := am (bb (g := gb349) (o := .cells #[.slice Ao127 t341.length co127, .slice Ao133 t344.length co133, .int .i64 t347] 26 (0, 0)) (by (with_reducible repeat (first | refine bn ?_ _ | refine bd ?_ | refine ba ?_ _)); exact BK349.out) hb); have n13_ := am (bs (by repeat (first | (with_reducible first | exact HB.out | apply wa | apply wn | apply wd | refine ws ?_ GE282.out | refine ws ?_ GE299.out | refine ws ?_ GE307.out | refine ws ?_ GE316.out | refine ws ?_ GE349.out) | exact HB.out)) hb); clear HO_300000; clear HO_300001; clear HO_308000; clear HO_308001; clear HO_317000; clear HO_317001; clear HO_350000; clear HO_350001; clear BK282; clear BK299; clear BK307; clear BK316; clear BK349; clear HB; have HO_300000 := n0_; have HO_300001 := n1_; have HO_308000 := n2_; have HO_308001 := n3_; have HO_317000 := n4_; have HO_317001 := n5_; have HO_350000 := n6_; have HO_350001 := n7_; have BK282 := n8_; have BK299 := n9_; have BK307 := n10_; have BK316 := n11_; have BK349 := n12_; have HB := n13_; clear n0_ n1_ n2_ n3_ n4_ n5_ n6_ n7_ n8_ n9_ n10_ n11_ n12_ n13_; (try clear hb); (try clear hb2); (try clear hk); (try clear hi)))
                 go_ret
                 exact ⟨by first | rfl | (simp [errW_none, errW_some] <;> rfl) | (simp [*, errW_none, errW_some] <;> rfl), by repeat (first | (with_reducible first | exact HB.out | apply wa | apply wn | apply wd | refine ws ?_ GE282.out | refine ws ?_ GE299.out | refine ws ?_ GE307.out | refine ws ?_ GE316.out | refine ws ?_ GE349.out) | exact HB.out)⟩
           ·rw [if_neg c108] at H
            have c108b0 : (t333 == t330) = false := beq_eq_false_iff_ne.mpr c108
            have c108b1 : (t333 != t330) = true := bne_iff_ne.mpr c108
            obtain rfl := Option.some.inj H
            have hnb178 := NB316_282.out
            have hnc178 := NB282_316.out
            have hnb179 := NB316_299.out
            have hnc179 := NB299_316.out
            have hnb180 := NB316_307.out
            have hnc180 := NB307_316.out
            have hcz181_0 : wc.cell? ⟨gb316, 0, none⟩ = some (.slice Ao38 t308.length co38) := (blk_cell BK316.out 0).trans rfl
            have hcz181_1 : wc.cell? ⟨gb316, 1, none⟩ = some (.slice Ao43 t311.length co43) := (blk_cell BK316.out 1).trans rfl
            have hcz181_2 : wc.cell? ⟨gb316, 2, none⟩ = some (.int .i64 t314) := (blk_cell BK316.out 2).trans rfl
            have hfz181_0 := blk_frozen BK316.out 0
            have hfz181_1 := blk_frozen BK316.out 1
            have hfz181_2 := blk_frozen BK316.out 2
            go_wp2_with (first | ((with_reducible refine gate_callee (f := 30) rfl ?_); refine goesL_ (some 71) rfl rfl Try.func30 (by kernel_rfl) rfl #[.agg #[.slice Ao38 t308.length co38, .slice Ao43 t311.length co43, .int .i64 t314], .int .i64 1] rfl (by (try simp only [List.map_toArray, List.map_cons, List.map_nil]); first | done | rfl | (simp only [List.length_drop, List.length_take]; rfl)) ?_; (with_reducible refine (laws_markTable.calls kj66 (fun k_ => some k_ = (.slice Ao38 t308.length co38 : Value).ownBlock) (.slice Ao38 t308.length co38) t308 (fun k_ => some k_ = (.slice Ao43 t311.length co43 : Value).ownBlock) (.slice Ao43 t311.length co43) t311 t314 1 t330 t331 t332 w _ ?side1 ?side2 ?side3 ?side4 ?side5 A98.out).mono ?_); (case side1 => repeat (first | (with_reducible first | exact HB.out | apply wa | apply wn | apply wd | refine ws ?_ GE282.out | refine ws ?_ GE299.out | refine ws ?_ GE307.out | refine ws ?_ GE316.out) | exact HB.out)); (case side2 => exact Kd.R_tight rfl HO_317000.out); (case side3 => first | exact fun k_ e_ => (HO_317000.out.1 k_ e_.symm).2.2.2.2 | exact fun k_ e_ hs_ => by have hh_ := HO_317000.out.1 k_ e_.symm; revert hh_; simp [hs_]); (case side4 => exact Kd.R_tight rfl HO_317001.out); (case side5 => first | exact fun k_ e_ => (HO_317001.out.1 k_ e_.symm).2.2.2.2 | exact fun k_ e_ hs_ => by have hh_ := HO_317001.out.1 k_ e_.symm; revert hh_; simp [hs_]); rintro e w182 ⟨rfl, hy0, hy1, hb, hkp⟩; refine ⟨_, rfl, ?_⟩; have n0_ := am (rm (ok' := fun k_ => some k_ ≠ (.slice Ao27 t294.length co27 : Value).ownBlock ∧ some k_ ≠ (.slice Ao31 t327.length co31 : Value).ownBlock ∧ some k_ ≠ (.slice Ao35 t328.length co35 : Value).ownBlock ∧ some k_ ≠ (.slice Ao38 t308.length co38 : Value).ownBlock ∧ some k_ ≠ (.slice Ao43 t311.length co43 : Value).ownBlock) (rk (HO_300000.out) hkp (fun k_ hk_ hs_ => by rcases hs_ with e_ | e_ <;> (revert hk_; simp [e_]))) (fun k_ hk_ => by simp [hk_])); have n1_ := am (rm (ok' := fun k_ => some k_ ≠ (.slice Ao24 t291.length co24 : Value).ownBlock ∧ some k_ ≠ (.slice Ao31 t327.length co31 : Value).ownBlock ∧ some k_ ≠ (.slice Ao35 t328.length co35 : Value).ownBlock ∧ some k_ ≠ (.slice Ao38 t308.length co38 : Value).ownBlock ∧ some k_ ≠ (.slice Ao43 t311.length co43 : Value).ownBlock) (rk (HO_300001.out) hkp (fun k_ hk_ hs_ => by rcases hs_ with e_ | e_ <;> (revert hk_; simp [e_]))) (fun k_ hk_ => by simp [hk_])); have n2_ := am (rm (ok' := fun k_ => some k_ ≠ (.slice Ao24 t291.length co24 : Value).ownBlock ∧ some k_ ≠ (.slice Ao27 t294.length co27 : Value).ownBlock ∧ some k_ ≠ (.slice Ao35 t328.length co35 : Value).ownBlock ∧ some k_ ≠ (.slice Ao38 t308.length co38 : Value).ownBlock ∧ some k_ ≠ (.slice Ao43 t311.length co43 : Value).ownBlock) (rk (HO_308000.out) hkp (fun k_ hk_ hs_ => by rcases hs_ with e_ | e_ <;> (revert hk_; simp [e_]))) (fun k_ hk_ => by simp [hk_])); have n3_ := am (rm (ok' := fun k_ => some k_ ≠ (.slice Ao24 t291.length co24 : Value).ownBlock ∧ some k_ ≠ (.slice Ao27 t294.length co27 : Value).ownBlock ∧ some k_ ≠ (.slice Ao31 t327.length co31 : Value).ownBlock ∧ some k_ ≠ (.slice Ao38 t308.length co38 : Value).ownBlock ∧ some k_ ≠ (.slice Ao43 t311.length co43 : Value).ownBlock) (rk (HO_308001.out) hkp (fun k_ hk_ hs_ => by rcases hs_ with e_ | e_ <;> (revert hk_; simp [e_]))) (fun k_ hk_ => by simp [hk_])); have n4_ := am (Kd.R_reok rfl hy0 (fun k_ e_ => HO_317000.out.1 k_ e_)); have n5_ := am (Kd.R_reok rfl hy1 (fun k_ e_ => HO_317001.out.1 k_ e_)); have n6_ := am (bk (by (with_reducible repeat (first | refine bn ?_ _ | refine bd ?_ | refine ba ?_ _)); exact BK282.out) hkp (fun hs_ => Or.elim hs_ (fun e_ => (fun e_ => (Kd.R_ne HO_317000.out BK282.out (by decide)) e_) e_) (fun e_ => (fun e_ => (Kd.R_ne HO_317001.out BK282.out (by decide)) e_) e_))); have n7_ := am (bk (by (with_reducible repeat (first | refine bn ?_ _ | refine bd ?_ | refine ba ?_ _)); exact BK299.out) hkp (fun hs_ => Or.elim hs_ (fun e_ => (fun e_ => (Kd.R_ne HO_317000.out BK299.out (by decide)) e_) e_) (fun e_ => (fun e_ => (Kd.R_ne HO_317001.out BK299.out (by decide)) e_) e_))); have n8_ := am (bk (by (with_reducible repeat (first | refine bn ?_ _ | refine bd ?_ | refine ba ?_ _)); exact BK307.out) hkp (fun hs_ => Or.elim hs_ (fun e_ => (fun e_ => (Kd.R_ne HO_317000.out BK307.out (by decide)) e_) e_) (fun e_ => (fun e_ => (Kd.R_ne HO_317001.out BK307.out (by decide)) e_) e_))); have n9_ := am (bk (by (with_reducible repeat (first | refine bn ?_ _ | refine bd ?_ | refine ba ?_ _)); exact BK316.out) hkp (fun hs_ => Or.elim hs_ (fun e_ => (fun e_ => (Kd.R_ne HO_317000.out BK316.out (by decide)) e_) e_) (fun e_ => (fun e_ => (Kd.R_ne HO_317001.out BK316.out (by decide)) e_) e_))); have n10_ := am (hb); clear HO_300000; clear HO_300001; clear HO_308000; clear HO_308001; clear HO_317000; clear HO_317001; clear BK282; clear BK299; clear BK307; clear BK316; clear HB; have HO_300000 := n0_; have HO_300001 := n1_; have HO_308000 := n2_; have HO_308001 := n3_; have HO_317000 := n4_; have HO_317001 := n5_; have BK282 := n6_; have BK299 := n7_; have BK307 := n8_; have BK316 := n9_; have HB := n10_; clear n0_ n1_ n2_ n3_ n4_ n5_ n6_ n7_ n8_ n9_ n10_; (try clear hb); (try clear hkp); (try clear hy0); (try clear hy1); have hcz183_0 : w182.cell? ⟨gb316, 0, none⟩ = some (.slice Ao38 t308.length co38) := (blk_cell BK316.out 0).trans rfl; have hcz183_1 : w182.cell? ⟨gb316, 1, none⟩ = some (.slice Ao43 t311.length co43) := (blk_cell BK316.out 1).trans rfl; have hcz183_2 : w182.cell? ⟨gb316, 2, none⟩ = some (.int .i64 t314) := (blk_cell BK316.out 2).trans rfl; have hfz183_0 := blk_frozen BK316.out 0; have hfz183_1 := blk_frozen BK316.out 1; have hfz183_2 := blk_frozen BK316.out 2) | ((with_reducible refine gate_callee (f := 35) rfl ?_); refine goesL_ (some 74) rfl rfl Try.func35 (by kernel_rfl) rfl #[.agg #[.slice Ao38 t331.length co38, .slice Ao43 t332.length co43, .int .i64 t314], .int .i64 1] rfl (by (try simp only [List.map_toArray, List.map_cons, List.map_nil]); first | done | (rw [show t331.length = t308.length from (rr HO_317000.out).1.symm, show t332.length = t311.length from (rr HO_317001.out).1.symm] <;> rfl) | rfl | (simp only [List.length_drop, List.length_take]; rfl)) ?_; (with_reducible refine (laws_heldTable.calls kj66 _ _ t331 _ _ t332 t314 1 t333 _ ?side1 ?side2 ?side3 ?side4 A99.out).mono ?_); (case side1 => repeat (first | exact (rr HO_317000.out).2.2 | (with_reducible refine Kd.C_alloc ?_ _) | (with_reducible refine Kd.C_drewN ?_ _) | (with_reducible refine Kd.C_drew ?_))); (case side2 => rw [show t331.length = t308.length from (rr HO_317000.out).1.symm]; exact (rr HO_317000.out).2.1); (case side3 => repeat (first | exact (rr HO_317001.out).2.2 | (with_reducible refine Kd.C_alloc ?_ _) | (with_reducible refine Kd.C_drewN ?_ _) | (with_reducible refine Kd.C_drew ?_))); (case side4 => rw [show t332.length = t311.length from (rr HO_317001.out).1.symm]; exact (rr HO_317001.out).2.1); rintro e w184 ⟨rfl, hb⟩; refine ⟨_, rfl, ?_⟩; have n0_ := am (rb (by (with_reducible repeat (first | apply ra | apply rn | apply rd)); exact HO_300000.out) hb); have n1_ := am (rb (by (with_reducible repeat (first | apply ra | apply rn | apply rd)); exact HO_300001.out) hb); have n2_ := am (rb (by (with_reducible repeat (first | apply ra | apply rn | apply rd)); exact HO_308000.out) hb); have n3_ := am (rb (by (with_reducible repeat (first | apply ra | apply rn | apply rd)); exact HO_308001.out) hb); have n4_ := am (rb (by (with_reducible repeat (first | apply ra | apply rn | apply rd)); exact HO_317000.out) hb); have n5_ := am (rb (by (with_reducible repeat (first | apply ra | apply rn | apply rd)); exact HO_317001.out) hb); have n6_ := am (bb (g := gb282) (o := .cells #[.slice A0_0 l0_0.length c0_0, .slice A0_1 l0_1.length c0_1, .int .i64 a0_2] 42 (0, 0)) (by (with_reducible repeat (first | refine bn ?_ _ | refine bd ?_ | refine ba ?_ _)); exact BK282.out) hb); have n7_ := am (bb (g := gb299) (o := .cells #[.slice Ao24 t291.length co24, .slice Ao27 t294.length co27, .int .i64 t297] 26 (0, 0)) (by (with_reducible repeat (first | refine bn ?_ _ | refine bd ?_ | refine ba ?_ _)); exact BK299.out) hb); have n8_ := am (bb (g := gb307) (o := .cells #[.slice Ao31 t327.length co31, .slice Ao35 t328.length co35, .int .i64 t306] 26 (0, 0)) (by (with_reducible repeat (first | refine bn ?_ _ | refine bd ?_ | refine ba ?_ _)); exact BK307.out) hb); have n9_ := am (bb (g := gb316) (o := .cells #[.slice Ao38 t308.length co38, .slice Ao43 t311.length co43, .int .i64 t314] 26 (0, 0)) (by (with_reducible repeat (first | refine bn ?_ _ | refine bd ?_ | refine ba ?_ _)); exact BK316.out) hb); have n10_ := am (bs (by repeat (first | (with_reducible first | exact HB.out | apply wa | apply wn | apply wd | refine ws ?_ GE282.out | refine ws ?_ GE299.out | refine ws ?_ GE307.out | refine ws ?_ GE316.out) | exact HB.out)) hb); clear HO_300000; clear HO_300001; clear HO_308000; clear HO_308001; clear HO_317000; clear HO_317001; clear BK282; clear BK299; clear BK307; clear BK316; clear HB; have HO_300000 := n0_; have HO_300001 := n1_; have HO_308000 := n2_; have HO_308001 := n3_; have HO_317000 := n4_; have HO_317001 := n5_; have BK282 := n6_; have BK299 := n7_; have BK307 := n8_; have BK316 := n9_; have HB := n10_; clear n0_ n1_ n2_ n3_ n4_ n5_ n6_ n7_ n8_ n9_ n10_; (try clear hb); (try clear hb2); (try clear hk); (try clear hi)))
            go_ret
            exact ⟨by first | rfl | (simp [errW_none, errW_some] <;> rfl) | (simp [*, errW_none, errW_some] <;> rfl), by repeat (first | (with_reducible first | exact HB.out | apply wa | apply wn | apply wd | refine ws ?_ GE282.out | refine ws ?_ GE299.out | refine ws ?_ GE307.out | refine ws ?_ GE316.out) | exact HB.out)⟩
      ·replace c65 := Bool.eq_false_iff.mpr c65
       subst c65
       have H1 : (some false) = some r := by rw [if_neg (show ¬ (false = true) by decide)] at H; exact H
       clear H
       have H := H1
       clear H1
       obtain rfl := Option.some.inj H
       try go_wp2
       have n0_ := am (Kd.R_drew HO_300000.out)
       have n1_ := am (Kd.R_drew HO_300001.out)
       have n2_ := am (Kd.R_drew HO_308000.out)
       have n3_ := am (Kd.R_drew HO_308001.out)
       have n4_ := am (Kd.R_drew HO_317000.out)
       have n5_ := am (Kd.R_drew HO_317001.out)
       have n6_ := am (blk_drew BK282.out)
       have n7_ := am (blk_drew BK299.out)
       have n8_ := am (blk_drew BK307.out)
       have n9_ := am (blk_drew BK316.out)
       have n10_ := am (below_drew1 HB.out)
       clear HO_300000
       clear HO_300001
       clear HO_308000
       clear HO_308001
       clear HO_317000
       clear HO_317001
       clear BK282
       clear BK299
       clear BK307
       clear BK316
       clear HB
       have HO_300000 := n0_
       have HO_300001 := n1_
       have HO_308000 := n2_
       have HO_308001 := n3_
       have HO_317000 := n4_
       have HO_317001 := n5_
       have BK282 := n6_
       have BK299 := n7_
       have BK307 := n8_
       have BK316 := n9_
       have HB := n10_
       clear n0_ n1_ n2_ n3_ n4_ n5_ n6_ n7_ n8_ n9_ n10_
       refine start_ (n := 5) (S := fun w' => w'.cell? ⟨gb307, 0, none⟩ = some (.slice Ao31 t300.length co31) ∧ w'.cell? ⟨gb307, 1, none⟩ = some (.slice Ao35 t303.length co35) ∧ w'.cell? ⟨gb307, 2, none⟩ = some (.int .i64 t306) ∧ w'.cell? ⟨gb282, 0, none⟩ = some (.slice A0_0 l0_0.length c0_0) ∧ w'.cell? ⟨gb282, 1, none⟩ = some (.slice A0_1 l0_1.length c0_1) ∧ w'.cell? ⟨gb282, 2, none⟩ = some (.int .i64 a0_2)) (ds := []) #[false, false, false, false, false] (by kernel_rfl) rfl rfl ⟨(blk_cell BK307.out 0).trans rfl, (blk_cell BK307.out 1).trans rfl, (blk_cell BK307.out 2).trans rfl, (blk_cell BK282.out 0).trans rfl, (blk_cell BK282.out 1).trans rfl, (blk_cell BK282.out 2).trans rfl⟩ (fun hHeld => ?_)
       generalize wc.drew = w185 at HO_300000 HO_300001 HO_308000 HO_308001 HO_317000 HO_317001 BK282 BK299 BK307 BK316 HB hHeld ⊢
       refine take_ (i := 0) (N := some 48) (v := ?_) (a' := ?_) #[true, false, false, false, false] rfl rfl (by kernel_rfl) (fun _ _ _ h => h) (Or.inl ⟨by rfl, ?_⟩) hHeld ?_ ?_
       rotate_left
       ·rintro w' ⟨s0, s1, s2, s3, s4, s5⟩
        go_simp
        with_reducible rfl
       rotate_left
       ·simp only [Act.put, List.setIfInBounds_toArray, List.set_cons_zero, List.set_cons_succ, i64_w, i32_w]
        rfl
       refine take_ (i := 1) (N := some 49) (v := ?_) (a' := ?_) #[true, true, false, false, false] rfl rfl (by kernel_rfl) (fun _ _ _ h => h) (Or.inl ⟨by rfl, ?_⟩) hHeld ?_ ?_
       rotate_left
       ·rintro w' ⟨s0, s1, s2, s3, s4, s5⟩
        go_simp
        with_reducible rfl
       rotate_left
       ·simp only [Act.put, List.setIfInBounds_toArray, List.set_cons_zero, List.set_cons_succ, i64_w, i32_w]
        rfl
       refine one_ (i := 2) (N := some 50) #[true, true, true, false, false] rfl rfl (by kernel_rfl) (by decide) (fun K hK => ?_)
       refine goes_ Try.func26 (by kernel_rfl) rfl #[.agg #[.slice A0_0 l0_0.length c0_0, .slice A0_1 l0_1.length c0_1, .int .i64 a0_2]] (by rfl) rfl rfl (by (try simp only [List.map_toArray, List.map_cons, List.map_nil]); first | done | rfl | (simp only [List.length_drop, List.length_take]; rfl)) ?_
       with_reducible refine (laws_toTable.calls kj13 _ _ l0_0 _ _ l0_1 a0_2 t318 t321 t324 _ ?side1 ?side2 ?side3 ?side4 A63.out).mono ?_
       (case side1 => repeat (first | exact (Kd.C_below HR0_0.out HB.out) | (with_reducible refine Kd.C_alloc ?_ _) | (with_reducible refine Kd.C_drewN ?_ _) | (with_reducible refine Kd.C_drew ?_)))
       (case side2 => exact HC0_0.out)
       (case side3 => repeat (first | exact (Kd.C_below HR0_1.out HB.out) | (with_reducible refine Kd.C_alloc ?_ _) | (with_reducible refine Kd.C_drewN ?_ _) | (with_reducible refine Kd.C_drew ?_)))
       (case side4 => exact HC0_1.out)
       rintro e w186 ⟨v319, v322, rfl, ho0, ho1, hb⟩
       refine ⟨_, rfl, ?_⟩
       have n0_ := am (rm (ro (ro (rl (by (with_reducible repeat (first | apply ra | apply rn | apply rd)); exact HO_300000.out) hb) (re ho0)) (re ho1)) (fun _ h_ => h_.1))
       have n1_ := am (rm (ro (ro (rl (by (with_reducible repeat (first | apply ra | apply rn | apply rd)); exact HO_300001.out) hb) (re ho0)) (re ho1)) (fun _ h_ => h_.1))
       have n2_ := am (rm (ro (ro (rl (by (with_reducible repeat (first | apply ra | apply rn | apply rd)); exact HO_308000.out) hb) (re ho0)) (re ho1)) (fun _ h_ => h_.1))
       have n3_ := am (rm (ro (ro (rl (by (with_reducible repeat (first | apply ra | apply rn | apply rd)); exact HO_308001.out) hb) (re ho0)) (re ho1)) (fun _ h_ => h_.1))
       have n4_ := am (rm (ro (ro (rl (by (with_reducible repeat (first | apply ra | apply rn | apply rd)); exact HO_317000.out) hb) (re ho0)) (re ho1)) (fun _ h_ => h_.1))
       have n5_ := am (rm (ro (ro (rl (by (with_reducible repeat (first | apply ra | apply rn | apply rd)); exact HO_317001.out) hb) (re ho0)) (re ho1)) (fun _ h_ => h_.1))
       have n6_ := am (Kd.R_lower (Kd.R_new' (Kd.R_new' (Kd.R_new' (Kd.R_new' (Kd.R_new' (Kd.R_new' ho0 (Kd.R_lt (by (with_reducible repeat (first | apply ra | apply rn | apply rd)); exact HO_300000.out))) (Kd.R_lt (by (with_reducible repeat (first | apply ra | apply rn | apply rd)); exact HO_300001.out))) (Kd.R_lt (by (with_reducible repeat (first | apply ra | apply rn | apply rd)); exact HO_308000.out))) (Kd.R_lt (by (with_reducible repeat (first | apply ra | apply rn | apply rd)); exact HO_308001.out))) (Kd.R_lt (by (with_reducible repeat (first | apply ra | apply rn | apply rd)); exact HO_317000.out))) (Kd.R_lt (by (with_reducible repeat (first | apply ra | apply rn | apply rd)); exact HO_317001.out))) (below_size (by repeat (first | (with_reducible first | exact HB.out | apply wa | apply wn | apply wd | refine ws ?_ GE282.out | refine ws ?_ GE299.out | refine ws ?_ GE307.out | refine ws ?_ GE316.out) | exact HB.out))))
       have n7_ := am (Kd.R_lower (Kd.R_new' (Kd.R_new' (Kd.R_new' (Kd.R_new' (Kd.R_new' (Kd.R_new' ho1 (Kd.R_lt (by (with_reducible repeat (first | apply ra | apply rn | apply rd)); exact HO_300000.out))) (Kd.R_lt (by (with_reducible repeat (first | apply ra | apply rn | apply rd)); exact HO_300001.out))) (Kd.R_lt (by (with_reducible repeat (first | apply ra | apply rn | apply rd)); exact HO_308000.out))) (Kd.R_lt (by (with_reducible repeat (first | apply ra | apply rn | apply rd)); exact HO_308001.out))) (Kd.R_lt (by (with_reducible repeat (first | apply ra | apply rn | apply rd)); exact HO_317000.out))) (Kd.R_lt (by (with_reducible repeat (first | apply ra | apply rn | apply rd)); exact HO_317001.out))) (below_size (by repeat (first | (with_reducible first | exact HB.out | apply wa | apply wn | apply wd | refine ws ?_ GE282.out | refine ws ?_ GE299.out | refine ws ?_ GE307.out | refine ws ?_ GE316.out) | exact HB.out))))
       have n8_ := am (bb (g := gb282) (o := .cells #[.slice A0_0 l0_0.length c0_0, .slice A0_1 l0_1.length c0_1, .int .i64 a0_2] 42 (0, 0)) (by (with_reducible repeat (first | refine bn ?_ _ | refine bd ?_ | refine ba ?_ _)); exact BK282.out) hb)
       have n9_ := am (bb (g := gb299) (o := .cells #[.slice Ao24 t291.length co24, .slice Ao27 t294.length co27, .int .i64 t297] 26 (0, 0)) (by (with_reducible repeat (first | refine bn ?_ _ | refine bd ?_ | refine ba ?_ _)); exact BK299.out) hb)
       have n10_ := am (bb (g := gb307) (o := .cells #[.slice Ao31 t300.length co31, .slice Ao35 t303.length co35, .int .i64 t306] 26 (0, 0)) (by (with_reducible repeat (first | refine bn ?_ _ | refine bd ?_ | refine ba ?_ _)); exact BK307.out) hb)
       have n11_ := am (bb (g := gb316) (o := .cells #[.slice Ao38 t308.length co38, .slice Ao43 t311.length co43, .int .i64 t314] 26 (0, 0)) (by (with_reducible repeat (first | refine bn ?_ _ | refine bd ?_ | refine ba ?_ _)); exact BK316.out) hb)
       have n12_ := am (bs (by repeat (first | (with_reducible first | exact HB.out | apply wa | apply wn | apply wd | refine ws ?_ GE282.out | refine ws ?_ GE299.out | refine ws ?_ GE307.out | refine ws ?_ GE316.out) | exact HB.out)) hb)
       clear HO_300000
       clear HO_300001
       clear HO_308000
       clear HO_308001
       clear HO_317000
       clear HO_317001
       clear BK282
       clear BK299
       clear BK307
       clear BK316
       clear HB
       have HO_300000 := n0_
       have HO_300001 := n1_
       have HO_308000 := n2_
       have HO_308001 := n3_
       have HO_317000 := n4_
       have HO_317001 := n5_
       have HO320 := n6_
       have HO323 := n7_
       have BK282 := n8_
       have BK299 := n9_
       have BK307 := n10_
       have BK316 := n11_
       have HB := n12_
       clear n0_ n1_ n2_ n3_ n4_ n5_ n6_ n7_ n8_ n9_ n10_ n11_ n12_
       (try clear hb)
       (try clear hb2)
       (try clear hk)
       (try clear hi)
       (try clear ho0)
       (try clear ho1)
       obtain ⟨Ao187, co187, eo187⟩ := Kd.R_slice HO320.out
       (first | subst eo187 | (injection eo187 with f1_ f2_ f3_; have f4_ := f1_.symm; have f5_ := f3_.symm; clear f1_ f2_ f3_; subst f4_; subst f5_))
       obtain ⟨Ao188, co188, eo188⟩ := Kd.R_slice HO323.out
       (first | subst eo188 | (injection eo188 with f1_ f2_ f3_; have f4_ := f1_.symm; have f5_ := f3_.symm; clear f1_ f2_ f3_; subst f4_; subst f5_))
       refine hK.out _ _ ⟨(blk_cell BK307.out 0).trans rfl, (blk_cell BK307.out 1).trans rfl, (blk_cell BK307.out 2).trans rfl, (blk_cell BK282.out 0).trans rfl, (blk_cell BK282.out 1).trans rfl, (blk_cell BK282.out 2).trans rfl⟩ (fun hHeld => ?_)
       clear hK K
       refine norm_ (a' := ?_) ?_ ?_
       rotate_left
       ·show Act.put _ (some 50) _ = _
        simp only [Act.put, List.setIfInBounds_toArray, List.set_cons_zero, List.set_cons_succ, i64_w, i32_w]
        rfl
       refine one_ (i := 3) (N := some 51) #[true, true, true, true, false] rfl rfl (by kernel_rfl) (by decide) (fun K hK => ?_)
       refine goes_ Try.func27 (by kernel_rfl) rfl #[.agg #[.slice Ao31 t300.length co31, .slice Ao35 t303.length co35, .int .i64 t306], .agg #[.slice Ao187 t318.length co187, .slice Ao188 t321.length co188, .int .i64 t324]] (by rfl) rfl rfl (by (try simp only [List.map_toArray, List.map_cons, List.map_nil]); first | done | rfl | (simp only [List.length_drop, List.length_take]; rfl)) ?_
       with_reducible refine (laws_eqTable.calls kj13 _ _ t300 _ _ t303 t306 _ _ t318 _ _ t321 t324 false _ ?side1 ?side2 ?side3 ?side4 ?side5 ?side6 ?side7 ?side8 A64.out).mono ?_
       (case side1 => repeat (first | exact (rr HO_308000.out).2.2 | (with_reducible refine Kd.C_alloc ?_ _) | (with_reducible refine Kd.C_drewN ?_ _) | (with_reducible refine Kd.C_drew ?_)))
       (case side2 => exact (rr HO_308000.out).2.1)
       (case side3 => repeat (first | exact (rr HO_308001.out).2.2 | (with_reducible refine Kd.C_alloc ?_ _) | (with_reducible refine Kd.C_drewN ?_ _) | (with_reducible refine Kd.C_drew ?_)))
       (case side4 => exact (rr HO_308001.out).2.1)
       (case side5 => repeat (first | exact (rr HO320.out).2.2 | (with_reducible refine Kd.C_alloc ?_ _) | (with_reducible refine Kd.C_drewN ?_ _) | (with_reducible refine Kd.C_drew ?_)))
       (case side6 => exact (rr HO320.out).2.1)
       (case side7 => repeat (first | exact (rr HO323.out).2.2 | (with_reducible refine Kd.C_alloc ?_ _) | (with_reducible refine Kd.C_drewN ?_ _) | (with_reducible refine Kd.C_drew ?_)))
       (case side8 => exact (rr HO323.out).2.1)
       rintro e w189 ⟨rfl, hb⟩
       refine ⟨_, rfl, ?_⟩
       have n0_ := am (rb (by (with_reducible repeat (first | apply ra | apply rn | apply rd)); exact HO_300000.out) hb)
       have n1_ := am (rb (by (with_reducible repeat (first | apply ra | apply rn | apply rd)); exact HO_300001.out) hb)
       have n2_ := am (rb (by (with_reducible repeat (first | apply ra | apply rn | apply rd)); exact HO_308000.out) hb)
       have n3_ := am (rb (by (with_reducible repeat (first | apply ra | apply rn | apply rd)); exact HO_308001.out) hb)
       have n4_ := am (rb (by (with_reducible repeat (first | apply ra | apply rn | apply rd)); exact HO_317000.out) hb)
       have n5_ := am (rb (by (with_reducible repeat (first | apply ra | apply rn | apply rd)); exact HO_317001.out) hb)
       have n6_ := am (rb (by (with_reducible repeat (first | apply ra | apply rn | apply rd)); exact HO320.out) hb)
       have n7_ := am (rb (by (with_reducible repeat (first | apply ra | apply rn | apply rd)); exact HO323.out) hb)
       have n8_ := am (bb (g := gb282) (o := .cells #[.slice A0_0 l0_0.length c0_0, .slice A0_1 l0_1.length c0_1, .int .i64 a0_2] 42 (0, 0)) (by (with_reducible repeat (first | refine bn ?_ _ | refine bd ?_ | refine ba ?_ _)); exact BK282.out) hb)
       have n9_ := am (bb (g := gb299) (o := .cells #[.slice Ao24 t291.length co24, .slice Ao27 t294.length co27, .int .i64 t297] 26 (0, 0)) (by (with_reducible repeat (first | refine bn ?_ _ | refine bd ?_ | refine ba ?_ _)); exact BK299.out) hb)
       have n10_ := am (bb (g := gb307) (o := .cells #[.slice Ao31 t300.length co31, .slice Ao35 t303.length co35, .int .i64 t306] 26 (0, 0)) (by (with_reducible repeat (first | refine bn ?_ _ | refine bd ?_ | refine ba ?_ _)); exact BK307.out) hb)
       have n11_ := am (bb (g := gb316) (o := .cells #[.slice Ao38 t308.length co38, .slice Ao43 t311.length co43, .int .i64 t314] 26 (0, 0)) (by (with_reducible repeat (first | refine bn ?_ _ | refine bd ?_ | refine ba ?_ _)); exact BK316.out) hb)
       have n12_ := am (bs (by repeat (first | (with_reducible first | exact HB.out | apply wa | apply wn | apply wd | refine ws ?_ GE282.out | refine ws ?_ GE299.out | refine ws ?_ GE307.out | refine ws ?_ GE316.out) | exact HB.out)) hb)
       clear HO_300000
       clear HO_300001
       clear HO_308000
       clear HO_308001
       clear HO_317000
       clear HO_317001
       clear HO320
       clear HO323
       clear BK282
       clear BK299
       clear BK307
       clear BK316
       clear HB
       have HO_300000 := n0_
       have HO_300001 := n1_
       have HO_308000 := n2_
       have HO_308001 := n3_
       have HO_317000 := n4_
       have HO_317001 := n5_
       have HO320 := n6_
       have HO323 := n7_
       have BK282 := n8_
       have BK299 := n9_
       have BK307 := n10_
       have BK316 := n11_
       have HB := n12_
       clear n0_ n1_ n2_ n3_ n4_ n5_ n6_ n7_ n8_ n9_ n10_ n11_ n12_
       (try clear hb)
       (try clear hb2)
       (try clear hk)
       (try clear hi)
       refine hK.out _ _ ⟨(blk_cell BK307.out 0).trans rfl, (blk_cell BK307.out 1).trans rfl, (blk_cell BK307.out 2).trans rfl, (blk_cell BK282.out 0).trans rfl, (blk_cell BK282.out 1).trans rfl, (blk_cell BK282.out 2).trans rfl⟩ (fun hHeld => ?_)
       clear hK K
       refine norm_ (a' := ?_) ?_ ?_
       rotate_left
       ·show Act.put _ (some 51) _ = _
        simp only [Act.put, List.setIfInBounds_toArray, List.set_cons_zero, List.set_cons_succ, i64_w, i32_w]
        rfl
       refine pure_ (i := 4) (N := some 52) (v := ?_) (a' := ?_) #[true, true, true, true, true] rfl rfl (by kernel_rfl) (fun _ _ _ h => h) (Or.inl ⟨by rfl, ?_⟩) ?_ ?_
       rotate_left
       ·intro w'
        go_simp
        with_reducible rfl
       rotate_left
       ·simp only [Act.put, List.setIfInBounds_toArray, List.set_cons_zero, List.set_cons_succ, i64_w, i32_w]
        rfl
       refine done_ (by kernel_rfl) ?_
       try go_wp2
       go_ret
       exact ⟨by first | rfl | (simp [errW_none, errW_some] <;> rfl) | (simp [*, errW_none, errW_some] <;> rfl), by repeat (first | (with_reducible first | exact HB.out | apply wa | apply wn | apply wd | refine ws ?_ GE282.out | refine ws ?_ GE299.out | refine ws ?_ GE307.out | refine ws ?_ GE316.out) | exact HB.out)⟩
end Go.Proofs.Ytmahoekbedgbcaa.HFnExactTakeKey
