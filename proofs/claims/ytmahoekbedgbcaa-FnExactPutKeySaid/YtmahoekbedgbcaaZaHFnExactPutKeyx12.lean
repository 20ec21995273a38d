/- What the row of the law needs of the printed and the plain texts. -/
import Derived.Test.YtmahoekbedgbcaaZaHX
import Derived.Test.YtmahoekbedgbcaaZaHFnExactPutKeyx0
import Derived.Test.YtmahoekbedgbcaaZaHFnExactPutKeyx8
import Derived.Test.YtmahoekbedgbcaaZaHFnExactPutKeyx10
import Derived.Test.YtmahoekbedgbcaaZaHFnExactPutKeyx11
namespace Go.Proofs.Ytmahoekbedgbcaa.HFnExactPutKey
open Go.RowKit Go.Proofs.YtmahoekbedgbcaaW.PrintWords Go.Proofs.YtmahoekbedgbcaaW.PrintLast Go.Proofs.YtmahoekbedgbcaaW.PrintMore
attribute [local go_sem] max2_int min2_int max_two min_two max_three min_three max_four min_four
set_option linter.unusedVariables false
set_option linter.unusedSimpArgs false
def impl_PutKey.j0 : Nat → ByteArray → Int → Bool → List (S57) → List (S57) → Int → Option ((List (S57)) × (List (S57)) × Int × Bool)
 | 0, _, _, _, _, _, _ => none
 | k + 1, x1, x2, x20, x290000, x290001, x290002 => if x20 = true then (some (([] : List (S57)), ([] : List (S57)), 0, false)) else ((impl_copyTable.f x290000 x290001 x290002).bind fun bt293 => ((impl_Table_put.f k bt293.1 bt293.2.1 bt293.2.2 x1 x2).bind fun bt301 => (if bt301.1 = true then (some (bt301.2.1, bt301.2.2, bt293.2.2, true)) else (some (([] : List (S57)), ([] : List (S57)), 0, false)))))
def impl_PutKey.f (k : Nat) (l0_0 : List (S57)) (l0_1 : List (S57)) (a0_2 : Int) (a1 : ByteArray) (a2 : Int) : Option ((List (S57)) × (List (S57)) × Int × Bool) := (impl_isKey.f a1).bind fun t291 => (if t291 = true then (if a2 < 0 then (impl_PutKey.j0 k a1 a2 true l0_0 l0_1 a0_2) else ((impl_TableOk.f k l0_0 l0_1 a0_2).bind fun t292 => (impl_PutKey.j0 k a1 a2 (!t292) l0_0 l0_1 a0_2))) else (impl_PutKey.j0 k a1 a2 true l0_0 l0_1 a0_2))
set_option maxHeartbeats 8000000 in
set_option maxRecDepth 100000 in
theorem impl_PutKey.calls (k : Nat) (A0_0 : Option Addr) (c0_0 : Nat) (l0_0 : List (S57)) (A0_1 : Option Addr) (c0_1 : Nat) (l0_1 : List (S57)) (a0_2 : Int) (a1 : ByteArray) (a2 : Int) (r1 : List (S57)) (r2 : List (S57)) (r3 : Int) (r4 : Bool) (w : World) (hr0_0 : Kd.C k57 w A0_0 l0_0.length l0_0) (hc0_0 : l0_0.length ≤ c0_0) (hr0_1 : Kd.C k57 w A0_1 l0_1.length l0_1) (hc0_1 : l0_1.length ≤ c0_1) (h : impl_PutKey.f k l0_0 l0_1 a0_2 a1 a2 = some (r1, r2, r3, r4)) :
  Calls Try.prog 38 #[.agg #[.slice A0_0 l0_0.length c0_0, .slice A0_1 l0_1.length c0_1, .int .i64 a0_2], .string a1, .int .i64 a2] w fun e w' => ∃ v0_ v1_ : Value, e = .returned (.tuple #[.agg #[v0_, v1_, .int .i64 r3], .bool r4]) ∧ Kd.R k57 57 w' w.heap.size (fun k_ => some k_ ≠ (v1_ : Value).ownBlock) v0_ r1 ∧ Kd.R k57 57 w' w.heap.size (fun k_ => some k_ ≠ (v0_ : Value).ownBlock) v1_ r2 ∧ Below w.heap.size w w' := by
 have hu26 := Try.underlying26
 have HR0_0 := am hr0_0
 have HC0_0 := am hc0_0
 clear hr0_0 hc0_0
 have HR0_1 := am hr0_1
 have HC0_1 := am hc0_1
 clear hr0_1 hc0_1
 have HB := am (Below.refl w.heap.size w)
 have H : ((impl_isKey.f a1).bind fun t291 => (if t291 = true then (if a2 < 0 then (impl_PutKey.j0 k a1 a2 true l0_0 l0_1 a0_2) else ((impl_TableOk.f k l0_0 l0_1 a0_2).bind fun t292 => (impl_PutKey.j0 k a1 a2 (!t292) l0_0 l0_1 a0_2))) else (impl_PutKey.j0 k a1 a2 true l0_0 l0_1 a0_2))) = some (r1, r2, r3, r4) := h
 clear h
 have HC4 := am H
 clear H
 go_enter Try.func38, Try.ntmps38
 go_upto_region 1 with (first | ((with_reducible refine gate_dst (N := 3) rfl ?_); refine xE (N := 3) (cs := #[.slice A0_0 l0_0.length c0_0, .slice A0_1 l0_1.length c0_1, .int .i64 a0_2]) (t := 26) (h := ?_); intro gb289 hg w5 hbox hb; have n0_ := am (below_step (xW HB.out) hb); have n1_ := am (hbox); have n2_ := am (xS hg HB.out); have n3_ := am (xS hg HB.out); clear HB; have HB := n0_; have BK289 := n1_; have GW289 := n2_; have GE289 := n3_; clear n0_ n1_ n2_ n3_; clear hb hbox hg) | ((with_reducible refine gate_dst (N := 6) rfl ?_); refine xE (N := 6) (cs := #[.slice none 0 0, .slice none 0 0, .int .i64 0]) (t := 26) (h := ?_); intro gb290 hg w6 hbox hb; have n0_ := am (blk_below (xB BK289.out) hb); have n1_ := am (below_step (xW HB.out) hb); have n2_ := am (hbox); have n3_ := am (xS hg HB.out); have n4_ := am (xS hg HB.out); have n5_ := am (xN hg BK289.out); have n6_ := am (xM hg BK289.out); clear BK289; clear HB; have BK289 := n0_; have HB := n1_; have BK290 := n2_; have GW290 := n3_; have GE290 := n4_; have NB289_290 := n5_; have NB290_289 := n6_; clear n0_ n1_ n2_ n3_ n4_ n5_ n6_; clear hb hbox hg))
 (try simp only [Act.put, List.setIfInBounds_toArray, List.set_cons_zero, List.set_cons_succ])
 go_cut [20] (fun v20 wc => ∃ (kq : Nat) (x20_3 : Bool), v20 = .bool x20_3 ∧ Aside0 (impl_PutKey.j0 kq a1 a2 x20_3 l0_0 l0_1 a0_2 = some (r1, r2, r3, r4)) ∧ Aside0 (kq ≤ k) ∧ Aside0 (wc.heap[gb289]? = some (.cells #[(.slice A0_0 l0_0.length c0_0), (.slice A0_1 l0_1.length c0_1), .int .i64 a0_2] 26 (0, 0))) ∧ Aside0 (wc.heap[gb290]? = some (.cells #[(.slice none 0 0), (.slice none 0 0), .int .i64 0] 26 (0, 0))) ∧ Aside0 (Below w.heap.size w wc))
 case first =>
  have H := HC4.out
  clear HC4
  replace H := Option.bind_eq_some_iff.mp H
  obtain ⟨t291, A70, H⟩ := H
  replace H : (if t291 = true then (if a2 < 0 then (impl_PutKey.j0 k a1 a2 true l0_0 l0_1 a0_2) else ((impl_TableOk.f k l0_0 l0_1 a0_2).bind fun t292 => (impl_PutKey.j0 k a1 a2 (!t292) l0_0 l0_1 a0_2))) else (impl_PutKey.j0 k a1 a2 true l0_0 l0_1 a0_2)) = some (r1, r2, r3, r4) := H
  have A7 := am A70
  clear A70
  by_cases c8 : t291 = true
  ·subst c8
   have H1 : (if a2 < 0 then (impl_PutKey.j0 k a1 a2 true l0_0 l0_1 a0_2) else ((impl_TableOk.f k l0_0 l0_1 a0_2).bind fun t292 => (impl_PutKey.j0 k a1 a2 (!t292) l0_0 l0_1 a0_2))) = some (r1, r2, r3, r4) := by rw [if_pos rfl] at H; exact H
   clear H
   have H := H1
   clear H1
   by_cases c9 : a2 < 0
   ·rw [if_pos c9] at H
    have c9b0 : decide (a2 < 0) = true := decide_eq_true c9
    clear c9
    (first | rw [c9b0] | (simp only [i64_w, i32_w]; rw [c9b0]) | skip)
    have H' := am H
    clear H
    go_wp2_with (first | ((with_reducible refine gate_callee (f := 74) rfl ?_); refine xG (some 10) 74 Try.func74 #[.string a1] (h := ?_); (with_reducible refine (impl_isKey.calls a1 true _ A7.out).mono ?_); rintro e w' ⟨rfl, ⟨nd, rfl⟩⟩; refine ⟨_, rfl, ?_⟩))
    go_meet
    case rel => exact ⟨_, (true), (xQ), H', ⟨by first | omega | exact Nat.le_refl _⟩, ⟨xB BK289.out⟩, ⟨xB BK290.out⟩, ⟨xW HB.out⟩⟩
   ·rw [if_neg c9] at H
    have c9b0 : decide (a2 < 0) = false := decide_eq_false c9
    clear c9
    (first | rw [c9b0] | (simp only [i64_w, i32_w]; rw [c9b0]) | skip)
    replace H := Option.bind_eq_some_iff.mp H
    obtain ⟨t292, A100, H⟩ := H
    replace H : (impl_PutKey.j0 k a1 a2 (!t292) l0_0 l0_1 a0_2) = some (r1, r2, r3, r4) := H
    have A10 := am A100
    clear A100
    have H' := am H
    clear H
    go_wp2_with (first | ((with_reducible refine gate_callee (f := 74) rfl ?_); refine xG (some 10) 74 Try.func74 #[.string a1] (h := ?_); (with_reducible refine (impl_isKey.calls a1 true _ A7.out).mono ?_); rintro e w' ⟨rfl, ⟨nd, rfl⟩⟩; refine ⟨_, rfl, ?_⟩; have hnb11 := NB289_290.out; have hnc11 := NB290_289.out; obtain ⟨hcz12_0, hcz12_1, hcz12_2, hfz12_0, hfz12_1, hfz12_2⟩ := xT3 (W := w6) BK289.out) | (go_at_call 18; (with_reducible refine (impl_TableOk.calls k _ _ l0_0 _ _ l0_1 a0_2 t292 _ ?side1 ?side2 ?side3 ?side4 A10.out).mono ?_); (case side1 => exact xC (Kd.C_below HR0_0.out (xW HB.out))); (case side2 => exact HC0_0.out); (case side3 => exact xC (Kd.C_below HR0_1.out (xW HB.out))); (case side4 => exact HC0_1.out); rintro e w13 ⟨rfl, hb⟩; have n0_ := am (blk_below (xB BK289.out) hb); have n1_ := am (blk_below (xB BK290.out) hb); have n2_ := am (below_step (xW HB.out) hb); clear BK289; clear BK290; clear HB; have BK289 := n0_; have BK290 := n1_; have HB := n2_; clear n0_ n1_ n2_; (try clear hb); (try clear hb2); (try clear hk); (try clear hi)))
    go_meet
    case rel => exact ⟨_, (!t292), (xQ), H', ⟨by first | omega | exact Nat.le_refl _⟩, ⟨xB BK289.out⟩, ⟨xB BK290.out⟩, ⟨xW HB.out⟩⟩
  ·replace c8 := Bool.eq_false_iff.mpr c8
   subst c8
   have H1 : (impl_PutKey.j0 k a1 a2 true l0_0 l0_1 a0_2) = some (r1, r2, r3, r4) := by rw [if_neg (show ¬ (false = true) by decide)] at H; exact H
   clear H
   have H := H1
   clear H1
   have H' := am H
   clear H
   go_wp2_with (first | ((with_reducible refine gate_callee (f := 74) rfl ?_); refine xG (some 10) 74 Try.func74 #[.string a1] (h := ?_); (with_reducible refine (impl_isKey.calls a1 false _ A7.out).mono ?_); rintro e w' ⟨rfl, ⟨nd, rfl⟩⟩; refine ⟨_, rfl, ?_⟩))
   go_meet
   case rel => exact ⟨_, (true), (xQ), H', ⟨by first | omega | exact Nat.le_refl _⟩, ⟨xB BK289.out⟩, ⟨xB BK290.out⟩, ⟨xW HB.out⟩⟩
 case rest =>
  clear HC4
  try clear c1
  try clear p2
  try clear c3
  try clear c7
  try clear c8
  try clear c9
  try clear c9b0
  try clear c11
  try clear hcz12_0
  try clear hcz12_1
  try clear hcz12_2
  try clear hfz12_0
  try clear hfz12_1
  try clear hfz12_2
  obtain ⟨kq, x20_3, rfl, HA, HJ3, BK289, BK290, HB⟩ := hcut
  cases kq with
  | zero => exact absurd HA.out (by simp [impl_PutKey.j0])
  | succ kj3 =>
   have H := HA.out
   clear HA
   simp only [impl_PutKey.j0] at H
   by_cases c14 : x20_3 = true
   ·subst c14
    have H1 : (some (([] : List (S57)), ([] : List (S57)), 0, false)) = some (r1, r2, r3, r4) := by rw [if_pos rfl] at H; exact H
    clear H
    have H := H1
    clear H1
    simp only [Option.some.injEq, Prod.mk.injEq] at H
    obtain ⟨rfl, rfl, rfl, rfl⟩ := H
    have hnb15 := NB290_289.out
    have hnc15 := NB289_290.out
    obtain ⟨hcz16_0, hcz16_1, hcz16_2, hfz16_0, hfz16_1, hfz16_2⟩ := xT3 (W := wc) BK290.out
    go_wp2
    refine bodyPost_ret (results_ct rfl _ _ gb290 26 #[.slice none 0 0, .slice none 0 0, .int .i64 0] (0, 0) _ rfl (xP BK290.out) Try.underlying26 rfl (by kernel_rfl)) rfl ?_
    exact ⟨_, _, xV, by first | exact Kd.R_nil _ _ _ _ _ | exact Kd.N_nil _ _ _ _ _ | exact Kd.V_nil _ _ _ _ _ | exact Kd.Q_nil _ _ _ _ _ | exact Kd.S_nil _ _ _ _ _, by first | exact Kd.R_nil _ _ _ _ _ | exact Kd.N_nil _ _ _ _ _ | exact Kd.V_nil _ _ _ _ _ | exact Kd.Q_nil _ _ _ _ _ | exact Kd.S_nil _ _ _ _ _, xW HB.out⟩
   ·replace c14 := Bool.eq_false_iff.mpr c14
    subst c14
    have H1 : ((impl_copyTable.f l0_0 l0_1 a0_2).bind fun bt293 => ((impl_Table_put.f kj3 bt293.1 bt293.2.1 bt293.2.2 a1 a2).bind fun bt301 => (if bt301.1 = true then (some (bt301.2.1, bt301.2.2, bt293.2.2, true)) else (some (([] : List (S57)), ([] : List (S57)), 0, false))))) = some (r1, r2, r3, r4) := by rw [if_neg (show ¬ (false = true) by decide)] at H; exact H
    clear H
    have H := H1
    clear H1
    replace H := Option.bind_eq_some_iff.mp H
    obtain ⟨⟨t293, t296, t299⟩, A170, H⟩ := H
    replace H : ((impl_Table_put.f kj3 t293 t296 t299 a1 a2).bind fun bt301 => (if bt301.1 = true then (some (bt301.2.1, bt301.2.2, t299, true)) else (some (([] : List (S57)), ([] : List (S57)), 0, false)))) = some (r1, r2, r3, r4) := H
    have A17 := am A170
    clear A170
    replace H := Option.bind_eq_some_iff.mp H
    obtain ⟨⟨t301, t302, t303⟩, A180, H⟩ := H
    replace H : (if t301 = true then (some (t302, t303, t299, true)) else (some (([] : List (S57)), ([] : List (S57)), 0, false))) = some (r1, r2, r3, r4) := H
    have A18 := am A180
    clear A180
    by_cases c19 : t301 = true
    ·subst c19
     have H1 : (some (t302, t303, t299, true)) = some (r1, r2, r3, r4) := by rw [if_pos rfl] at H; exact H
     clear H
     have H := H1
     clear H1
     simp only [Option.some.injEq, Prod.mk.injEq] at H
     obtain ⟨rfl, rfl, rfl, rfl⟩ := H
     have hnb20 := NB289_290.out
     have hnc20 := NB290_289.out
     obtain ⟨hcz21_0, hcz21_1, hcz21_2, hfz21_0, hfz21_1, hfz21_2⟩ := xT3 (W := wc) BK289.out
     go_wp2_with (first | ((with_reducible refine gate_callee (f := 47) rfl ?_); refine xG (some 23) 47 Try.func47 #[.agg #[.slice A0_0 l0_0.length c0_0, .slice A0_1 l0_1.length c0_1, .int .i64 a0_2]] (h := ?_); (with_reducible refine (impl_copyTable.calls _ _ l0_0 _ _ l0_1 a0_2 t293 t296 t299 _ ?side1 ?side2 ?side3 ?side4 A17.out).mono ?_); (case side1 => exact xC (Kd.C_below HR0_0.out HB.out)); (case side2 => exact HC0_0.out); (case side3 => exact xC (Kd.C_below HR0_1.out HB.out)); (case side4 => exact HC0_1.out); rintro e w22 ⟨v294, v297, rfl, ho0, ho1, hb⟩; refine ⟨_, rfl, ?_⟩; have n0_ := am (Kd.R_lower ho0 (below_size (xW HB.out))); have n1_ := am (Kd.R_lower ho1 (below_size (xW HB.out))); have n2_ := am (blk_below (xB BK289.out) hb); have n3_ := am (blk_below (xB BK290.out) hb); have n4_ := am (below_step (xW HB.out) hb); clear BK289; clear BK290; clear HB; have HO295 := n0_; have HO298 := n1_; have BK289 := n2_; have BK290 := n3_; have HB := n4_; clear n0_ n1_ n2_ n3_ n4_; (try clear hb); (try clear hb2); (try clear hk); (try clear hi); (try clear ho0); (try clear ho1)) | ((with_reducible refine gate_dst (N := 8) rfl ?_); refine xE (N := 8) (cs := #[.slice none 0 0, .slice none 0 0, .int .i64 0]) (t := 26) (h := ?_); intro gb300 hg w23 hbox hb; have n0_ := am (Kd.R_below (xR HO295.out) hb); have n1_ := am (Kd.R_below (xR HO298.out) hb); have n2_ := am (blk_below (xB BK289.out) hb); have n3_ := am (blk_below (xB BK290.out) hb); have n4_ := am (below_step (xW HB.out) hb); have n5_ := am (hbox); have n6_ := am (xS hg HB.out); have n7_ := am (xS hg HB.out); have n8_ := am (xN hg BK289.out); have n9_ := am (xM hg BK289.out); have n10_ := am (xN hg BK290.out); have n11_ := am (xM hg BK290.out); clear HO295; clear HO298; clear BK289; clear BK290; clear HB; have HO295 := n0_; have HO298 := n1_; have BK289 := n2_; have BK290 := n3_; have HB := n4_; have BK300 := n5_; have GW300 := n6_; have GE300 := n7_; have NB289_300 := n8_; have NB300_289 := n9_; have NB290_300 := n10_; have NB300_290 := n11_; clear n0_ n1_ n2_ n3_ n4_ n5_ n6_ n7_ n8_ n9_ n10_ n11_; clear hb hbox hg; obtain ⟨Ao24, co24, eo24⟩ := Kd.R_slice HO295.out; subst eo24; have hnb25 := NB300_289.out; have hnc25 := NB289_300.out; have hnb26 := NB300_290.out; have hnc26 := NB290_300.out; obtain ⟨hcz27_0, hcz27_1, hcz27_2, hfz27_0, hfz27_1, hfz27_2⟩ := xT3 (W := w23) BK300.out; obtain ⟨Ao28, co28, eo28⟩ := Kd.R_slice HO298.out; subst eo28) | ((with_reducible refine gate_store (t := 26) (p := 8) rfl ?_); refine store_event (t := 26) (p := 8) (v := ?vo_w29) (w1 := (((w23.setCell ⟨gb300, 0, none⟩ (.slice Ao24 t293.length co24)).setCell ⟨gb300, 1, none⟩ (.slice Ao28 t296.length co28)).setCell ⟨gb300, 2, none⟩ (.int .i64 t299))) ?hg ?ho ?hn ?hr ?_; (case ho => rfl); (case hg => rfl); (case hn => rfl); (case hr => first | (go_simp; done) | (go_simp; rfl)); intro w29 hw; have n0_ : Aside0 (Kd.R k57 57 w29 w.heap.size (fun k_ => some k_ ≠ (.slice Ao28 t296.length co28 : Value).ownBlock) (.slice Ao24 t293.length co24) t293) := ⟨(by rw [hw]; exact (xR HO295.out))⟩; have n1_ : Aside0 (Kd.R k57 57 w29 w.heap.size (fun k_ => some k_ ≠ (.slice Ao24 t293.length co24 : Value).ownBlock) (.slice Ao28 t296.length co28) t296) := ⟨(by rw [hw]; exact (xR HO298.out))⟩; have n2_ : Aside0 (w29.heap[gb289]? = some (.cells #[.slice A0_0 l0_0.length c0_0, .slice A0_1 l0_1.length c0_1, .int .i64 a0_2] 26 (0, 0))) := ⟨(by rw [hw]; exact (xB BK289.out))⟩; have n3_ : Aside0 (w29.heap[gb290]? = some (.cells #[.slice none 0 0, .slice none 0 0, .int .i64 0] 26 (0, 0))) := ⟨(by rw [hw]; exact (xB BK290.out))⟩; have n4_ : Aside0 (w29.heap[gb300]? = some (.cells #[.slice Ao24 t293.length co24, .slice Ao28 t296.length co28, .int .i64 t299] 26 (0, 0))) := ⟨(by rw [hw]; exact (xP BK300.out))⟩; have n5_ : Aside0 (Below w.heap.size w w29) := ⟨(by rw [hw]; exact (xW HB.out))⟩; clear hw; clear HO295; clear HO298; clear BK289; clear BK290; clear BK300; clear HB; have HO295 := n0_; have HO298 := n1_; have BK289 := n2_; have BK290 := n3_; have BK300 := n4_; have HB := n5_; clear n0_ n1_ n2_ n3_ n4_ n5_; obtain ⟨hcz30_0, hcz30_1, hcz30_2, hfz30_0, hfz30_1, hfz30_2⟩ := xT3 (W := w29) BK300.out) | ((with_reducible refine gate_callee (f := 48) rfl ?_); refine xG (some 26) 48 Try.func48 #[.pointer (some ⟨gb300, 0, none⟩), .string a1, .int .i64 a2] (h := ?_); (with_reducible refine (impl_Table_put.calls kj3 (fun k_ => some k_ = (.slice Ao24 t293.length co24 : Value).ownBlock) (.slice Ao24 t293.length co24) t293 (fun k_ => some k_ = (.slice Ao28 t296.length co28 : Value).ownBlock) (.slice Ao28 t296.length co28) t296 t299 a1 a2 true t302 t303 w _ ?side1 ?side2 ?side3 ?side4 ?side5 A18.out gb300 (xB BK300.out) GE300.out).mono ?_); (case side1 => repeat (first | (with_reducible first | exact HB.out | apply below_alloc | apply pw_below_drewN | apply below_drew1 | refine below_set ?_ GE289.out | refine below_set ?_ GE290.out | refine below_set ?_ GE300.out) | exact HB.out)); (case side2 => exact Kd.R_tight rfl HO295.out); (case side3 => exact fun k_ e_ => (HO295.out.1 k_ e_.symm)); (case side4 => exact Kd.R_tight rfl HO298.out); (case side5 => exact fun k_ e_ => (HO298.out.1 k_ e_.symm)); rintro e w31 ⟨rfl, hy0, hy1, hb, hkp⟩; refine ⟨_, rfl, ?_⟩; have n0_ := am (blk_kept (xB BK289.out) hkp (fun hs_ => Or.elim hs_ (fun e_ => (fun e_ => (Kd.R_ne HO295.out BK289.out (by decide)) e_) e_) (fun e_ => (fun e_ => (Kd.R_ne HO298.out BK289.out (by decide)) e_) e_))); have n1_ := am (blk_kept (xB BK290.out) hkp (fun hs_ => Or.elim hs_ (fun e_ => (fun e_ => (Kd.R_ne HO295.out BK290.out (by decide)) e_) e_) (fun e_ => (fun e_ => (Kd.R_ne HO298.out BK290.out (by decide)) e_) e_))); have n2_ := am (Kd.R_reok rfl hy0 (fun k_ e_ => HO295.out.1 k_ e_)); have n3_ := am (Kd.R_reok rfl hy1 (fun k_ e_ => HO298.out.1 k_ e_)); have n4_ := am (blk_kept (xB BK300.out) hkp (fun hs_ => Or.elim hs_ (fun e_ => (fun e_ => (Kd.R_ne HO295.out BK300.out (by decide)) e_) e_) (fun e_ => (fun e_ => (Kd.R_ne HO298.out BK300.out (by decide)) e_) e_))); have n5_ := am (hb); clear BK289; clear BK290; clear HO295; clear HO298; clear BK300; clear HB; have BK289 := n0_; have BK290 := n1_; have HO295 := n2_; have HO298 := n3_; have BK300 := n4_; have HB := n5_; clear n0_ n1_ n2_ n3_ n4_ n5_; (try clear hb); (try clear hkp); (try clear hy0); (try clear hy1); obtain ⟨hcz32_0, hcz32_1, hcz32_2, hfz32_0, hfz32_1, hfz32_2⟩ := xT3 (W := w31) BK300.out; obtain ⟨hcz33_0, hcz33_1, hcz33_2, hfz33_0, hfz33_1, hfz33_2⟩ := xT3 (W := w31) BK290.out))
     refine bodyPost_ret (results_ct rfl _ _ gb290 26 #[.slice Ao24 t293.length co24, .slice Ao28 t296.length co28, .int .i64 t299] (0, 0) _ rfl (xP BK290.out) Try.underlying26 rfl (by kernel_rfl)) rfl ?_
     exact ⟨_, _, xV, xR HO295.out, xR HO298.out, xW HB.out⟩
    ·replace c19 := Bool.eq_false_iff.mpr c19
     subst c19
     have H1 : (some (([] : List (S57)), ([] : List (S57)), 0, false)) = some (r1, r2, r3, r4) := by rw [if_neg (show ¬ (false = true) by decide)] at H; exact H
     clear H
     have H := H1
     clear H1
     simp only [Option.some.injEq, Prod.mk.injEq] at H
     obtain ⟨rfl, rfl, rfl, rfl⟩ := H
     have hnb34 := NB289_290.out
     have hnc34 := NB290_289.out
     obtain ⟨hcz35_0, hcz35_1, hcz35_2, hfz35_0, hfz35_1, hfz35_2⟩ := xT3 (W := wc) BK289.out
     go_wp2_with (first | ((with_reducible refine gate_callee (f := 47) rfl ?_); refine xG (some 23) 47 Try.func47 #[.agg #[.slice A0_0 l0_0.length c0_0, .slice A0_1 l0_1.length c0_1, .int .i64 a0_2]] (h := ?_); (with_reducible refine (impl_copyTable.calls _ _ l0_0 _ _ l0_1 a0_2 t293 t296 t299 _ ?side1 ?side2 ?side3 ?side4 A17.out).mono ?_); (case side1 => exact xC (Kd.C_below HR0_0.out HB.out)); (case side2 => exact HC0_0.out); (case side3 => exact xC (Kd.C_below HR0_1.out HB.out)); (case side4 => exact HC0_1.out); rintro e w36 ⟨v294, v297, rfl, ho0, ho1, hb⟩; refine ⟨_, rfl, ?_⟩; have n0_ := am (Kd.R_lower ho0 (below_size (xW HB.out))); have n1_ := am (Kd.R_lower ho1 (below_size (xW HB.out))); have n2_ := am (blk_below (xB BK289.out) hb); have n3_ := am (blk_below (xB BK290.out) hb); have n4_ := am (below_step (xW HB.out) hb); clear BK289; clear BK290; clear HB; have HO295 := n0_; have HO298 := n1_; have BK289 := n2_; have BK290 := n3_; have HB := n4_; clear n0_ n1_ n2_ n3_ n4_; (try clear hb); (try clear hb2); (try clear hk); (try clear hi); (try clear ho0); (try clear ho1)) | ((with_reducible refine gate_dst (N := 8) rfl ?_); refine xE (N := 8) (cs := #[.slice none 0 0, .slice none 0 0, .int .i64 0]) (t := 26) (h := ?_); intro gb300 hg w37 hbox hb; have n0_ := am (Kd.R_below (xR HO295.out) hb); have n1_ := am (Kd.R_below (xR HO298.out) hb); have n2_ := am (blk_below (xB BK289.out) hb); have n3_ := am (blk_below (xB BK290.out) hb); have n4_ := am (below_step (xW HB.out) hb); have n5_ := am (hbox); have n6_ := am (xS hg HB.out); have n7_ := am (xS hg HB.out); have n8_ := am (xN hg BK289.out); have n9_ := am (xM hg BK289.out); have n10_ := am (xN hg BK290.out); have n11_ := am (xM hg BK290.out); clear HO295; clear HO298; clear BK289; clear BK290; clear HB; have HO295 := n0_; have HO298 := n1_; have BK289 := n2_; have BK290 := n3_; have HB := n4_; have BK300 := n5_; have GW300 := n6_; have GE300 := n7_; have NB289_300 := n8_; have NB300_289 := n9_; have NB290_300 := n10_; have NB300_290 := n11_; clear n0_ n1_ n2_ n3_ n4_ n5_ n6_ n7_ n8_ n9_ n10_ n11_; clear hb hbox hg; obtain ⟨Ao38, co38, eo38⟩ := Kd.R_slice HO295.out; subst eo38; have hnb39 := NB300_289.out; have hnc39 := NB289_300.out; have hnb40 := NB300_290.out; have hnc40 := NB290_300.out; obtain ⟨hcz41_0, hcz41_1, hcz41_2, hfz41_0, hfz41_1, hfz41_2⟩ := xT3 (W := w37) BK300.out; obtain ⟨Ao42, co42, eo42⟩ := Kd.R_slice HO298.out; subst eo42) | ((with_reducible refine gate_store (t := 26) (p := 8) rfl ?_); refine store_event (t := 26) (p := 8) (v := ?vo_w43) (w1 := (((w37.setCell ⟨gb300, 0, none⟩ (.slice Ao38 t293.length co38)).setCell ⟨gb300, 1, none⟩ (.slice Ao42 t296.length co42)).setCell ⟨gb300, 2, none⟩ (.int .i64 t299))) ?hg ?ho ?hn ?hr ?_; (case ho => rfl); (case hg => rfl); (case hn => rfl); (case hr => first | (go_simp; done) | (go_simp; rfl)); intro w43 hw; have n0_ : Aside0 (Kd.R k57 57 w43 w.heap.size (fun k_ => some k_ ≠ (.slice Ao42 t296.length co42 : Value).ownBlock) (.slice Ao38 t293.length co38) t293) := ⟨(by rw [hw]; exact (xR HO295.out))⟩; have n1_ : Aside0 (Kd.R k57 57 w43 w.heap.size (fun k_ => some k_ ≠ (.slice Ao38 t293.length co38 : Value).ownBlock) (.slice Ao42 t296.length co42) t296) := ⟨(by rw [hw]; exact (xR HO298.out))⟩; have n2_ : Aside0 (w43.heap[gb289]? = some (.cells #[.slice A0_0 l0_0.length c0_0, .slice A0_1 l0_1.length c0_1, .int .i64 a0_2] 26 (0, 0))) := ⟨(by rw [hw]; exact (xB BK289.out))⟩; have n3_ : Aside0 (w43.heap[gb290]? = some (.cells #[.slice none 0 0, .slice none 0 0, .int .i64 0] 26 (0, 0))) := ⟨(by rw [hw]; exact (xB BK290.out))⟩; have n4_ : Aside0 (w43.heap[gb300]? = some (.cells #[.slice Ao38 t293.length co38, .slice Ao42 t296.length co42, .int .i64 t299] 26 (0, 0))) := ⟨(by rw [hw]; exact (xP BK300.out))⟩; have n5_ : Aside0 (Below w.heap.size w w43) := ⟨(by rw [hw]; exact (xW HB.out))⟩; clear hw; clear HO295; clear HO298; clear BK289; clear BK290; clear BK300; clear HB; have HO295 := n0_; have HO298 := n1_; have BK289 := n2_; have BK290 := n3_; have BK300 := n4_; have HB := n5_; clear n0_ n1_ n2_ n3_ n4_ n5_; obtain ⟨hcz44_0, hcz44_1, hcz44_2, hfz44_0, hfz44_1, hfz44_2⟩ := xT3 (W := w43) BK300.out) | ((with_reducible refine gate_callee (f := 48) rfl ?_); refine xG (some 26) 48 Try.func48 #[.pointer (some ⟨gb300, 0, none⟩), .string a1, .int .i64 a2] (h := ?_); (with_reducible refine (impl_Table_put.calls kj3 (fun k_ => some k_ = (.slice Ao38 t293.length co38 : Value).ownBlock) (.slice Ao38 t293.length co38) t293 (fun k_ => some k_ = (.slice Ao42 t296.length co42 : Value).ownBlock) (.slice Ao42 t296.length co42) t296 t299 a1 a2 false t302 t303 w _ ?side1 ?side2 ?side3 ?side4 ?side5 A18.out gb300 (xB BK300.out) GE300.out).mono ?_); (case side1 => repeat (first | (with_reducible first | exact HB.out | apply below_alloc | apply pw_below_drewN | apply below_drew1 | refine below_set ?_ GE289.out | refine below_set ?_ GE290.out | refine below_set ?_ GE300.out) | exact HB.out)); (case side2 => exact Kd.R_tight rfl HO295.out); (case side3 => exact fun k_ e_ => (HO295.out.1 k_ e_.symm)); (case side4 => exact Kd.R_tight rfl HO298.out); (case side5 => exact fun k_ e_ => (HO298.out.1 k_ e_.symm)); rintro e w45 ⟨rfl, hy0, hy1, hb, hkp⟩; refine ⟨_, rfl, ?_⟩; have n0_ := am (blk_kept (xB BK289.out) hkp (fun hs_ => Or.elim hs_ (fun e_ => (fun e_ => (Kd.R_ne HO295.out BK289.out (by decide)) e_) e_) (fun e_ => (fun e_ => (Kd.R_ne HO298.out BK289.out (by decide)) e_) e_))); have n1_ := am (blk_kept (xB BK290.out) hkp (fun hs_ => Or.elim hs_ (fun e_ => (fun e_ => (Kd.R_ne HO295.out BK290.out (by decide)) e_) e_) (fun e_ => (fun e_ => (Kd.R_ne HO298.out BK290.out (by decide)) e_) e_))); have n2_ := am (Kd.R_reok rfl hy0 (fun k_ e_ => HO295.out.1 k_ e_)); have n3_ := am (Kd.R_reok rfl hy1 (fun k_ e_ => HO298.out.1 k_ e_)); have n4_ := am (blk_kept (xB BK300.out) hkp (fun hs_ => Or.elim hs_ (fun e_ => (fun e_ => (Kd.R_ne HO295.out BK300.out (by decide)) e_) e_) (fun e_ => (fun e_ => (Kd.R_ne HO298.out BK300.out (by decide)) e_) e_))); have n5_ := am (hb); clear BK289; clear BK290; clear HO295; clear HO298; clear BK300; clear HB; have BK289 := n0_; have BK290 := n1_; have HO295 := n2_; have HO298 := n3_; have BK300 := n4_; have HB := n5_; clear n0_ n1_ n2_ n3_ n4_ n5_; (try clear hb); (try clear hkp); (try clear hy0); (try clear hy1); obtain ⟨hcz46_0, hcz46_1, hcz46_2, hfz46_0, hfz46_1, hfz46_2⟩ := xT3 (W := w45) BK290.out))
     refine bodyPost_ret (results_ct rfl _ _ gb290 26 #[.slice none 0 0, .slice none 0 0, .int .i64 0] (0, 0) _ rfl (xP BK290.out) Try.underlying26 rfl (by kernel_rfl)) rfl ?_
     exact ⟨_, _, xV, by first | exact Kd.R_nil _ _ _ _ _ | exact Kd.N_nil _ _ _ _ _ | exact Kd.V_nil _ _ _ _ _ | exact Kd.Q_nil _ _ _ _ _ | exact Kd.S_nil _ _ _ _ _, by first | exact Kd.R_nil _ _ _ _ _ | exact Kd.N_nil _ _ _ _ _ | exact Kd.V_nil _ _ _ _ _ | exact Kd.Q_nil _ _ _ _ _ | exact Kd.S_nil _ _ _ _ _, xW HB.out⟩
end Go.Proofs.Ytmahoekbedgbcaa.HFnExactPutKey
