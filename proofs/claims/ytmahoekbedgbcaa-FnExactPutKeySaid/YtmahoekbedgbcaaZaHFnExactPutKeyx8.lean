/- What the row of the law needs of the printed and the plain texts. -/
import Derived.Test.YtmahoekbedgbcaaZaHX
import Derived.Test.YtmahoekbedgbcaaZaHFnExactPutKeyx0
import Derived.Test.YtmahoekbedgbcaaZaHFnExactPutKeyx4
import Derived.Test.YtmahoekbedgbcaaZaHFnExactPutKeyx6
import Derived.Test.YtmahoekbedgbcaaZaHFnExactPutKeyx7
namespace Go.Proofs.Ytmahoekbedgbcaa.HFnExactPutKey
open Go.RowKit Go.Proofs.YtmahoekbedgbcaaW.PrintWords Go.Proofs.YtmahoekbedgbcaaW.PrintLast Go.Proofs.YtmahoekbedgbcaaW.PrintMore
attribute [local go_sem] max2_int min2_int max_two min_two max_three min_three max_four min_four
set_option linter.unusedVariables false
set_option linter.unusedSimpArgs false
def spec_PutKey.j0 : Nat → ByteArray → Int → Bool → List (S57) → List (S57) → Int → Option ((List (S57)) × (List (S57)) × Int × Bool)
 | 0, _, _, _, _, _, _ => none
 | k + 1, x1, x2, x22, x195000, x195001, x195002 => if x22 = true then (some (([] : List (S57)), ([] : List (S57)), 0, false)) else ((spec_l04Copy.f x195000 x195001 x195002).bind fun bt198 => ((spec_l04Seek.f k x195000 x1).bind fun t206 => (if t206 ≥ 0 then (if 0 ≤ t206 then (if t206 < (bt198.1.length : Int) then (some ((bt198.1.set (t206 : Int).toNat (⟨(rd_T57 bt198.1 t206).f0, x2⟩ : S57)), bt198.2.1, bt198.2.2, true)) else (none)) else (none)) else ((spec_l04Seek.f k x195001 x1).bind fun t208 => (if t208 ≥ 0 then (if 0 ≤ t208 then (if t208 < (bt198.2.1.length : Int) then ((spec_l04Put.f k bt198.1 x1 x2).bind fun bt210 => (if bt210.1 = true then (some (bt210.2, (bt198.2.1.set (t208 : Int).toNat (⟨(⟨#[]⟩ : ByteArray), (-2)⟩ : S57)), bt198.2.2, true)) else (some (([] : List (S57)), ([] : List (S57)), 0, false)))) else (none)) else (none)) else ((spec_l04Put.f k bt198.1 x1 x2).bind fun bt212 => (if bt212.1 = true then (some (bt212.2, bt198.2.1, bt198.2.2, true)) else (some (([] : List (S57)), ([] : List (S57)), 0, false)))))))))
def spec_PutKey.f (k : Nat) (l0_0 : List (S57)) (l0_1 : List (S57)) (a0_2 : Int) (a1 : ByteArray) (a2 : Int) : Option ((List (S57)) × (List (S57)) × Int × Bool) := (spec_TableOk.f k l0_0 l0_1 a0_2).bind fun t196 => (if t196 = true then ((spec_l01In.f (a1.size : Int) 1 12).bind fun t197 => (if t197 = true then (spec_PutKey.j0 k a1 a2 (decide (a2 < 0)) l0_0 l0_1 a0_2) else (spec_PutKey.j0 k a1 a2 true l0_0 l0_1 a0_2))) else (spec_PutKey.j0 k a1 a2 true l0_0 l0_1 a0_2))
set_option maxHeartbeats 8000000 in
set_option maxRecDepth 100000 in
theorem spec_PutKey.calls (k : Nat) (A0_0 : Option Addr) (c0_0 : Nat) (l0_0 : List (S57)) (A0_1 : Option Addr) (c0_1 : Nat) (l0_1 : List (S57)) (a0_2 : Int) (a1 : ByteArray) (a2 : Int) (r1 : List (S57)) (r2 : List (S57)) (r3 : Int) (r4 : Bool) (w : World) (hr0_0 : Kd.C k57 w A0_0 l0_0.length l0_0) (hc0_0 : l0_0.length ≤ c0_0) (hr0_1 : Kd.C k57 w A0_1 l0_1.length l0_1) (hc0_1 : l0_1.length ≤ c0_1) (h : spec_PutKey.f k l0_0 l0_1 a0_2 a1 a2 = some (r1, r2, r3, r4)) :
  Calls Try.prog 37 #[.agg #[.slice A0_0 l0_0.length c0_0, .slice A0_1 l0_1.length c0_1, .int .i64 a0_2], .string a1, .int .i64 a2] w fun e w' => ∃ v0_ v1_ : Value, e = .returned (.tuple #[.agg #[v0_, v1_, .int .i64 r3], .bool r4]) ∧ Kd.R k57 57 w' w.heap.size (fun k_ => some k_ ≠ (v1_ : Value).ownBlock) v0_ r1 ∧ Kd.R k57 57 w' w.heap.size (fun k_ => some k_ ≠ (v0_ : Value).ownBlock) v1_ r2 ∧ Below w.heap.size w w' := by
 have hu26 := Try.underlying26
 have hu57 := Try.underlying57
 have HR0_0 := am hr0_0
 have HC0_0 := am hc0_0
 clear hr0_0 hc0_0
 have HR0_1 := am hr0_1
 have HC0_1 := am hc0_1
 clear hr0_1 hc0_1
 have HB := am (Below.refl w.heap.size w)
 have H : ((spec_TableOk.f k l0_0 l0_1 a0_2).bind fun t196 => (if t196 = true then ((spec_l01In.f (a1.size : Int) 1 12).bind fun t197 => (if t197 = true then (spec_PutKey.j0 k a1 a2 (decide (a2 < 0)) l0_0 l0_1 a0_2) else (spec_PutKey.j0 k a1 a2 true l0_0 l0_1 a0_2))) else (spec_PutKey.j0 k a1 a2 true l0_0 l0_1 a0_2))) = some (r1, r2, r3, r4) := h
 clear h
 have HC4 := am H
 clear H
 go_enter Try.func37, Try.ntmps37
 go_upto_region 1 with (first | ((with_reducible refine gate_dst (N := 3) rfl ?_); (try (refine gate_guard (by rfl) ?_; dsimp only)); refine xE (N := 3) (cs := #[.slice A0_0 l0_0.length c0_0, .slice A0_1 l0_1.length c0_1, .int .i64 a0_2]) (t := 26) (h := ?_); intro gb194 hg w5 hbox hb; have n0_ := am (below_step (xW HB.out) hb); have n1_ := am (hbox); have n2_ := am (xS hg HB.out); have n3_ := am (xS hg HB.out); clear HB; have HB := n0_; have BK194 := n1_; have GW194 := n2_; have GE194 := n3_; clear n0_ n1_ n2_ n3_; clear hb hbox hg) | ((with_reducible refine gate_dst (N := 6) rfl ?_); (try (refine gate_guard (by rfl) ?_; dsimp only)); refine xE (N := 6) (cs := #[.slice none 0 0, .slice none 0 0, .int .i64 0]) (t := 26) (h := ?_); intro gb195 hg w6 hbox hb; have n0_ := am (blk_below (xB BK194.out) hb); have n1_ := am (below_step (xW HB.out) hb); have n2_ := am (hbox); have n3_ := am (xS hg HB.out); have n4_ := am (xS hg HB.out); have n5_ := am (xN hg BK194.out); have n6_ := am (xM hg BK194.out); clear BK194; clear HB; have BK194 := n0_; have HB := n1_; have BK195 := n2_; have GW195 := n3_; have GE195 := n4_; have NB194_195 := n5_; have NB195_194 := n6_; clear n0_ n1_ n2_ n3_ n4_ n5_ n6_; clear hb hbox hg))
 (try simp only [Act.put, List.setIfInBounds_toArray, List.set_cons_zero, List.set_cons_succ])
 go_cut [22] (fun v22 wc => ∃ (kq : Nat) (x22_3 : Bool), v22 = .bool x22_3 ∧ Aside0 (spec_PutKey.j0 kq a1 a2 x22_3 l0_0 l0_1 a0_2 = some (r1, r2, r3, r4)) ∧ Aside0 (kq ≤ k) ∧ Aside0 (wc.heap[gb194]? = some (.cells #[(.slice A0_0 l0_0.length c0_0), (.slice A0_1 l0_1.length c0_1), .int .i64 a0_2] 26 (0, 0))) ∧ Aside0 (wc.heap[gb195]? = some (.cells #[(.slice none 0 0), (.slice none 0 0), .int .i64 0] 26 (0, 0))) ∧ Aside0 (Below w.heap.size w wc))
 case first =>
  have H := HC4.out
  clear HC4
  replace H := Option.bind_eq_some_iff.mp H
  obtain ⟨t196, A70, H⟩ := H
  replace H : (if t196 = true then ((spec_l01In.f (a1.size : Int) 1 12).bind fun t197 => (if t197 = true then (spec_PutKey.j0 k a1 a2 (decide (a2 < 0)) l0_0 l0_1 a0_2) else (spec_PutKey.j0 k a1 a2 true l0_0 l0_1 a0_2))) else (spec_PutKey.j0 k a1 a2 true l0_0 l0_1 a0_2)) = some (r1, r2, r3, r4) := H
  have A7 := am A70
  clear A70
  by_cases c8 : t196 = true
  ·subst c8
   have H1 : ((spec_l01In.f (a1.size : Int) 1 12).bind fun t197 => (if t197 = true then (spec_PutKey.j0 k a1 a2 (decide (a2 < 0)) l0_0 l0_1 a0_2) else (spec_PutKey.j0 k a1 a2 true l0_0 l0_1 a0_2))) = some (r1, r2, r3, r4) := by rw [if_pos rfl] at H; exact H
   clear H
   have H := H1
   clear H1
   replace H := Option.bind_eq_some_iff.mp H
   obtain ⟨t197, A90, H⟩ := H
   replace H : (if t197 = true then (spec_PutKey.j0 k a1 a2 (decide (a2 < 0)) l0_0 l0_1 a0_2) else (spec_PutKey.j0 k a1 a2 true l0_0 l0_1 a0_2)) = some (r1, r2, r3, r4) := H
   have A9 := am A90
   clear A90
   by_cases c10 : t197 = true
   ·subst c10
    have H1 : (spec_PutKey.j0 k a1 a2 (decide (a2 < 0)) l0_0 l0_1 a0_2) = some (r1, r2, r3, r4) := by rw [if_pos rfl] at H; exact H
    clear H
    have H := H1
    clear H1
    have H' := am H
    clear H
    have hnb11 := NB194_195.out
    have hnc11 := NB195_194.out
    obtain ⟨hcz12_0, hcz12_1, hcz12_2, hfz12_0, hfz12_1, hfz12_2⟩ := xT3 (W := w6) BK194.out
    go_wp2_with (first | ((with_reducible refine gate_callee (f := 25) rfl ?_); refine xG (some 11) 25 Try.func25 #[.agg #[.slice A0_0 l0_0.length c0_0, .slice A0_1 l0_1.length c0_1, .int .i64 a0_2]] (h := ?_); (with_reducible refine (spec_TableOk.calls k _ _ l0_0 _ _ l0_1 a0_2 true _ ?side1 ?side2 ?side3 ?side4 A7.out).mono ?_); (case side1 => exact xC (Kd.C_below HR0_0.out HB.out)); (case side2 => exact HC0_0.out); (case side3 => exact xC (Kd.C_below HR0_1.out HB.out)); (case side4 => exact HC0_1.out); rintro e w13 ⟨rfl, hb⟩; refine ⟨_, rfl, ?_⟩; have n0_ := am (blk_below (xB BK194.out) hb); have n1_ := am (blk_below (xB BK195.out) hb); have n2_ := am (below_step (xW HB.out) hb); clear BK194; clear BK195; clear HB; have BK194 := n0_; have BK195 := n1_; have HB := n2_; clear n0_ n1_ n2_; (try clear hb); (try clear hb2); (try clear hk); (try clear hi)) | (go_at_call 62; (with_reducible refine (spec_l01In.calls (a1.size : Int) 1 12 true _ A9.out).mono ?_); rintro e w' ⟨rfl, ⟨nd, rfl⟩⟩))
    go_meet
    case rel => exact ⟨_, (decide (a2 < 0)), (xQ), H', ⟨by first | omega | exact Nat.le_refl _⟩, ⟨xB BK194.out⟩, ⟨xB BK195.out⟩, ⟨xW HB.out⟩⟩
   ·replace c10 := Bool.eq_false_iff.mpr c10
    subst c10
    have H1 : (spec_PutKey.j0 k a1 a2 true l0_0 l0_1 a0_2) = some (r1, r2, r3, r4) := by rw [if_neg (show ¬ (false = true) by decide)] at H; exact H
    clear H
    have H := H1
    clear H1
    have H' := am H
    clear H
    have hnb14 := NB194_195.out
    have hnc14 := NB195_194.out
    obtain ⟨hcz15_0, hcz15_1, hcz15_2, hfz15_0, hfz15_1, hfz15_2⟩ := xT3 (W := w6) BK194.out
    go_wp2_with (first | ((with_reducible refine gate_callee (f := 25) rfl ?_); refine xG (some 11) 25 Try.func25 #[.agg #[.slice A0_0 l0_0.length c0_0, .slice A0_1 l0_1.length c0_1, .int .i64 a0_2]] (h := ?_); (with_reducible refine (spec_TableOk.calls k _ _ l0_0 _ _ l0_1 a0_2 true _ ?side1 ?side2 ?side3 ?side4 A7.out).mono ?_); (case side1 => exact xC (Kd.C_below HR0_0.out HB.out)); (case side2 => exact HC0_0.out); (case side3 => exact xC (Kd.C_below HR0_1.out HB.out)); (case side4 => exact HC0_1.out); rintro e w16 ⟨rfl, hb⟩; refine ⟨_, rfl, ?_⟩; have n0_ := am (blk_below (xB BK194.out) hb); have n1_ := am (blk_below (xB BK195.out) hb); have n2_ := am (below_step (xW HB.out) hb); clear BK194; clear BK195; clear HB; have BK194 := n0_; have BK195 := n1_; have HB := n2_; clear n0_ n1_ n2_; (try clear hb); (try clear hb2); (try clear hk); (try clear hi)) | (go_at_call 62; (with_reducible refine (spec_l01In.calls (a1.size : Int) 1 12 false _ A9.out).mono ?_); rintro e w' ⟨rfl, ⟨nd, rfl⟩⟩))
    go_meet
    case rel => exact ⟨_, (true), (xQ), H', ⟨by first | omega | exact Nat.le_refl _⟩, ⟨xB BK194.out⟩, ⟨xB BK195.out⟩, ⟨xW HB.out⟩⟩
  ·replace c8 := Bool.eq_false_iff.mpr c8
   subst c8
   have H1 : (spec_PutKey.j0 k a1 a2 true l0_0 l0_1 a0_2) = some (r1, r2, r3, r4) := by rw [if_neg (show ¬ (false = true) by decide)] at H; exact H
   clear H
   have H := H1
   clear H1
   have H' := am H
   clear H
   have hnb17 := NB194_195.out
   have hnc17 := NB195_194.out
   obtain ⟨hcz18_0, hcz18_1, hcz18_2, hfz18_0, hfz18_1, hfz18_2⟩ := xT3 (W := w6) BK194.out
   go_wp2_with (first | ((with_reducible refine gate_callee (f := 25) rfl ?_); refine xG (some 11) 25 Try.func25 #[.agg #[.slice A0_0 l0_0.length c0_0, .slice A0_1 l0_1.length c0_1, .int .i64 a0_2]] (h := ?_); (with_reducible refine (spec_TableOk.calls k _ _ l0_0 _ _ l0_1 a0_2 false _ ?side1 ?side2 ?side3 ?side4 A7.out).mono ?_); (case side1 => exact xC (Kd.C_below HR0_0.out HB.out)); (case side2 => exact HC0_0.out); (case side3 => exact xC (Kd.C_below HR0_1.out HB.out)); (case side4 => exact HC0_1.out); rintro e w19 ⟨rfl, hb⟩; refine ⟨_, rfl, ?_⟩; have n0_ := am (blk_below (xB BK194.out) hb); have n1_ := am (blk_below (xB BK195.out) hb); have n2_ := am (below_step (xW HB.out) hb); clear BK194; clear BK195; clear HB; have BK194 := n0_; have BK195 := n1_; have HB := n2_; clear n0_ n1_ n2_; (try clear hb); (try clear hb2); (try clear hk); (try clear hi)))
   go_meet
   case rel => exact ⟨_, (true), (xQ), H', ⟨by first | omega | exact Nat.le_refl _⟩, ⟨xB BK194.out⟩, ⟨xB BK195.out⟩, ⟨xW HB.out⟩⟩
 case rest =>
  clear HC4
  try clear c1
  try clear c2
  try clear p2
  try clear c3
  try clear c8
  try clear c10
  try clear c11
  try clear c14
  try clear c17
  try clear hcz12_0
  try clear hcz12_1
  try clear hcz12_2
  try clear hcz15_0
  try clear hcz15_1
  try clear hcz15_2
  try clear hcz18_0
  try clear hcz18_1
  try clear hcz18_2
  try clear hfz12_0
  try clear hfz12_1
  try clear hfz12_2
  try clear hfz15_0
  try clear hfz15_1
  try clear hfz15_2
  try clear hfz18_0
  try clear hfz18_1
  try clear hfz18_2
  obtain ⟨kq, x22_3, rfl, HA, HJ3, BK194, BK195, HB⟩ := hcut
  cases kq with
  | zero => exact absurd HA.out (by simp [spec_PutKey.j0])
  | succ kj3 =>
   have H := HA.out
   clear HA
   simp only [spec_PutKey.j0] at H
   by_cases c20 : x22_3 = true
   ·subst c20
    have H1 : (some (([] : List (S57)), ([] : List (S57)), 0, false)) = some (r1, r2, r3, r4) := by rw [if_pos rfl] at H; exact H
    clear H
    have H := H1
    clear H1
    simp only [Option.some.injEq, Prod.mk.injEq] at H
    obtain ⟨rfl, rfl, rfl, rfl⟩ := H
    have hnb21 := NB195_194.out
    have hnc21 := NB194_195.out
    obtain ⟨hcz22_0, hcz22_1, hcz22_2, hfz22_0, hfz22_1, hfz22_2⟩ := xT3 (W := wc) BK195.out
    go_wp2
    refine bodyPost_ret (results_ct rfl _ _ gb195 26 #[.slice none 0 0, .slice none 0 0, .int .i64 0] (0, 0) _ rfl (xP BK195.out) Try.underlying26 rfl (by kernel_rfl)) rfl ?_
    exact ⟨_, _, xV, by first | exact Kd.R_nil _ _ _ _ _ | exact Kd.N_nil _ _ _ _ _ | exact Kd.V_nil _ _ _ _ _ | exact Kd.Q_nil _ _ _ _ _ | exact Kd.S_nil _ _ _ _ _, by first | exact Kd.R_nil _ _ _ _ _ | exact Kd.N_nil _ _ _ _ _ | exact Kd.V_nil _ _ _ _ _ | exact Kd.Q_nil _ _ _ _ _ | exact Kd.S_nil _ _ _ _ _, xW HB.out⟩
   ·replace c20 := Bool.eq_false_iff.mpr c20
    subst c20
    have H1 : ((spec_l04Copy.f l0_0 l0_1 a0_2).bind fun bt198 => ((spec_l04Seek.f kj3 l0_0 a1).bind fun t206 => (if t206 ≥ 0 then (if 0 ≤ t206 then (if t206 < (bt198.1.length : Int) then (some ((bt198.1.set (t206 : Int).toNat (⟨(rd_T57 bt198.1 t206).f0, a2⟩ : S57)), bt198.2.1, bt198.2.2, true)) else (none)) else (none)) else ((spec_l04Seek.f kj3 l0_1 a1).bind fun t208 => (if t208 ≥ 0 then (if 0 ≤ t208 then (if t208 < (bt198.2.1.length : Int) then ((spec_l04Put.f kj3 bt198.1 a1 a2).bind fun bt210 => (if bt210.1 = true then (some (bt210.2, (bt198.2.1.set (t208 : Int).toNat (⟨(⟨#[]⟩ : ByteArray), (-2)⟩ : S57)), bt198.2.2, true)) else (some (([] : List (S57)), ([] : List (S57)), 0, false)))) else (none)) else (none)) else ((spec_l04Put.f kj3 bt198.1 a1 a2).bind fun bt212 => (if bt212.1 = true then (some (bt212.2, bt198.2.1, bt198.2.2, true)) else (some (([] : List (S57)), ([] : List (S57)), 0, false))))))))) = some (r1, r2, r3, r4) := by rw [if_neg (show ¬ (false = true) by decide)] at H; exact H
    clear H
    have H := H1
    clear H1
    replace H := Option.bind_eq_some_iff.mp H
    obtain ⟨⟨t198, t201, t204⟩, A230, H⟩ := H
    replace H : ((spec_l04Seek.f kj3 l0_0 a1).bind fun t206 => (if t206 ≥ 0 then (if 0 ≤ t206 then (if t206 < (t198.length : Int) then (some ((t198.set (t206 : Int).toNat (⟨(rd_T57 t198 t206).f0, a2⟩ : S57)), t201, t204, true)) else (none)) else (none)) else ((spec_l04Seek.f kj3 l0_1 a1).bind fun t208 => (if t208 ≥ 0 then (if 0 ≤ t208 then (if t208 < (t201.length : Int) then ((spec_l04Put.f kj3 t198 a1 a2).bind fun bt210 => (if bt210.1 = true then (some (bt210.2, (t201.set (t208 : Int).toNat (⟨(⟨#[]⟩ : ByteArray), (-2)⟩ : S57)), t204, true)) else (some (([] : List (S57)), ([] : List (S57)), 0, false)))) else (none)) else (none)) else ((spec_l04Put.f kj3 t198 a1 a2).bind fun bt212 => (if bt212.1 = true then (some (bt212.2, t201, t204, true)) else (some (([] : List (S57)), ([] : List (S57)), 0, false)))))))) = some (r1, r2, r3, r4) := H
    have A23 := am A230
    clear A230
    replace H := Option.bind_eq_some_iff.mp H
    obtain ⟨t206, A240, H⟩ := H
    replace H : (if t206 ≥ 0 then (if 0 ≤ t206 then (if t206 < (t198.length : Int) then (some ((t198.set (t206 : Int).toNat (⟨(rd_T57 t198 t206).f0, a2⟩ : S57)), t201, t204, true)) else (none)) else (none)) else ((spec_l04Seek.f kj3 l0_1 a1).bind fun t208 => (if t208 ≥ 0 then (if 0 ≤ t208 then (if t208 < (t201.length : Int) then ((spec_l04Put.f kj3 t198 a1 a2).bind fun bt210 => (if bt210.1 = true then (some (bt210.2, (t201.set (t208 : Int).toNat (⟨(⟨#[]⟩ : ByteArray), (-2)⟩ : S57)), t204, true)) else (some (([] : List (S57)), ([] : List (S57)), 0, false)))) else (none)) else (none)) else ((spec_l04Put.f kj3 t198 a1 a2).bind fun bt212 => (if bt212.1 = true then (some (bt212.2, t201, t204, true)) else (some (([] : List (S57)), ([] : List (S57)), 0, false))))))) = some (r1, r2, r3, r4) := H
    have A24 := am A240
    clear A240
    by_cases c25 : t206 ≥ 0
    ·rw [if_pos c25] at H
     have c25b0 : decide (0 ≤ t206) = true := decide_eq_true c25
     clear c25
     by_cases c26 : 0 ≤ t206
     ·rw [if_pos c26] at H
      have c26b0 : decide (0 ≤ t206) = true := decide_eq_true c26
      clear c26
      by_cases c27 : t206 < (t198.length : Int)
      ·rw [if_pos c27] at H
       have c27b0 : decide (t206 < (t198.length : Int)) = true := decide_eq_true c27
       clear c27
       obtain ⟨y207, hy207⟩ : ∃ y_ : List (S57), y_ = (t198.set (t206 : Int).toNat (⟨(rd_T57 t198 t206).f0, a2⟩ : S57)) := ⟨_, rfl⟩
       replace H : (some (y207, t201, t204, true)) = some (r1, r2, r3, r4) := by first | (rw [hy207]; with_reducible exact H) | (have H2_ := (Option.bind_some _ _).symm.trans H; rw [hy207]; with_reducible exact H2_) | (have H2_ := (Option.bind_some _ _).symm.trans H; with_reducible exact H2_) | with_reducible exact H | (rw [hy207]; exact H) | exact H
       have Ny207 := am hy207
       clear hy207
       simp only [Option.some.injEq, Prod.mk.injEq] at H
       obtain ⟨rfl, rfl, rfl, rfl⟩ := H
       have hnb29 := NB194_195.out
       have hnc29 := NB195_194.out
       obtain ⟨hcz30_0, hcz30_1, hcz30_2, hfz30_0, hfz30_1, hfz30_2⟩ := xT3 (W := wc) BK194.out
       go_wp2_with (first | ((with_reducible refine gate_callee (f := 69) rfl ?_); refine xG (some 25) 69 Try.func69 #[.agg #[.slice A0_0 l0_0.length c0_0, .slice A0_1 l0_1.length c0_1, .int .i64 a0_2]] (h := ?_); (with_reducible refine (spec_l04Copy.calls _ _ l0_0 _ _ l0_1 a0_2 t198 t201 t204 _ ?side1 ?side2 ?side3 ?side4 A23.out).mono ?_); (case side1 => exact xC (Kd.C_below HR0_0.out HB.out)); (case side2 => exact HC0_0.out); (case side3 => exact xC (Kd.C_below HR0_1.out HB.out)); (case side4 => exact HC0_1.out); rintro e w31 ⟨v199, v202, rfl, ho0, ho1, hb⟩; refine ⟨_, rfl, ?_⟩; have n0_ := am (Kd.R_lower ho0 (below_size (xW HB.out))); have n1_ := am (Kd.R_lower ho1 (below_size (xW HB.out))); have n2_ := am (blk_below (xB BK194.out) hb); have n3_ := am (blk_below (xB BK195.out) hb); have n4_ := am (below_step (xW HB.out) hb); clear BK194; clear BK195; clear HB; have HO200 := n0_; have HO203 := n1_; have BK194 := n2_; have BK195 := n3_; have HB := n4_; clear n0_ n1_ n2_ n3_ n4_; (try clear hb); (try clear hb2); (try clear hk); (try clear hi); (try clear ho0); (try clear ho1)) | ((with_reducible refine gate_dst (N := 8) rfl ?_); (try (refine gate_guard (by rfl) ?_; dsimp only)); refine xE (N := 8) (cs := #[.slice none 0 0, .slice none 0 0, .int .i64 0]) (t := 26) (h := ?_); intro gb205 hg w32 hbox hb; have n0_ := am (Kd.R_below (xR HO200.out) hb); have n1_ := am (Kd.R_below (xR HO203.out) hb); have n2_ := am (blk_below (xB BK194.out) hb); have n3_ := am (blk_below (xB BK195.out) hb); have n4_ := am (below_step (xW HB.out) hb); have n5_ := am (hbox); have n6_ := am (xS hg HB.out); have n7_ := am (xS hg HB.out); have n8_ := am (xN hg BK194.out); have n9_ := am (xM hg BK194.out); have n10_ := am (xN hg BK195.out); have n11_ := am (xM hg BK195.out); clear HO200; clear HO203; clear BK194; clear BK195; clear HB; have HO200 := n0_; have HO203 := n1_; have BK194 := n2_; have BK195 := n3_; have HB := n4_; have BK205 := n5_; have GW205 := n6_; have GE205 := n7_; have NB194_205 := n8_; have NB205_194 := n9_; have NB195_205 := n10_; have NB205_195 := n11_; clear n0_ n1_ n2_ n3_ n4_ n5_ n6_ n7_ n8_ n9_ n10_ n11_; clear hb hbox hg; obtain ⟨Ao33, co33, eo33⟩ := Kd.R_slice HO200.out; subst eo33; have hnb34 := NB205_194.out; have hnc34 := NB194_205.out; have hnb35 := NB205_195.out; have hnc35 := NB195_205.out; obtain ⟨hcz36_0, hcz36_1, hcz36_2, hfz36_0, hfz36_1, hfz36_2⟩ := xT3 (W := w32) BK205.out; obtain ⟨Ao37, co37, eo37⟩ := Kd.R_slice HO203.out; subst eo37; obtain ⟨hcz38_0, hcz38_1, hcz38_2, hfz38_0, hfz38_1, hfz38_2⟩ := xT3 (W := w32) BK194.out) | ((with_reducible refine gate_callee (f := 58) rfl ?_); refine xG (some 29) 58 Try.func58 #[.slice A0_0 l0_0.length c0_0, .string a1] (h := ?_); (with_reducible refine (spec_l04Seek.calls kj3 _ _ l0_0 a1 t206 _ ?side1 ?side2 A24.out).mono ?_); (case side1 => exact Kd.C_below HR0_0.out (xW HB.out)); (case side2 => exact HC0_0.out); rintro e w39 ⟨rfl, hb⟩; refine ⟨_, rfl, ?_⟩; have n0_ := am (Kd.R_below (xR HO200.out) hb); have n1_ := am (Kd.R_below (xR HO203.out) hb); have n2_ := am (blk_below (xB BK194.out) hb); have n3_ := am (blk_below (xB BK195.out) hb); have n4_ := am (blk_below (xP BK205.out) hb); have n5_ := am (below_step (xW HB.out) hb); clear HO200; clear HO203; clear BK194; clear BK195; clear BK205; clear HB; have HO200 := n0_; have HO203 := n1_; have BK194 := n2_; have BK195 := n3_; have BK205 := n4_; have HB := n5_; clear n0_ n1_ n2_ n3_ n4_ n5_; (try clear hb); (try clear hb2); (try clear hk); (try clear hi); obtain ⟨hcz40_0, hcz40_1, hcz40_2, hfz40_0, hfz40_1, hfz40_2⟩ := xT3 (W := w39) BK205.out; have p28 : 0 ≤ (t206 : Int) := of_decide_eq_true (by assumption); have q28 : (t206 : Int) < ((t198.length : Int) : Int) := of_decide_eq_true (by assumption); obtain ⟨go28, co28, eo28, gb28, gl28, cl28, HG28⟩ := Kd.R_form HO200.out (by omega); (first | cases eo28 | (injection eo28 with ea_ en_ ec_; (first | subst ea_ | (injection ea_ with ea_; subst ea_)); subst ec_; clear en_)); have GB28 := am gb28; have GG28 := am HG28; clear gb28 gl28 HG28; obtain ⟨ce28, hcl28, hM28, hcc28, hfr28⟩ := Kd.R_elem HO200.out z57 (t206 : Int) p28 q28; obtain rfl := k57_openM hM28; have hx28_0 : w39.cell? ⟨go28, (t206 : Int).toNat * 2, none⟩ = some (.string ((rd_T57 t198 t206).f0)) := hcc28 0 _ rfl; have hx28_1 : w39.cell? ⟨go28, (t206 : Int).toNat * 2 + 1, none⟩ = some (.int .i64 ((rd_T57 t198 t206).f1)) := hcc28 1 _ rfl; have hf28_0 : w39.frozen? ⟨go28, (t206 : Int).toNat * 2, none⟩ = false := hfr28 0; have hf28_1 : w39.frozen? ⟨go28, (t206 : Int).toNat * 2 + 1, none⟩ = false := hfr28 1; clear hcl28 hcc28 hfr28 hM28; replace p28 := eq_true p28; replace q28 := eq_true q28; have HX41 := am (show Kd.R k57 57 w39 w.heap.size (fun k_ => some k_ ≠ (.slice Ao37 t201.length co37 : Value).ownBlock) (.slice (some ⟨go28, 0, none⟩) t198.length co33) t198 from (xR HO200.out)); obtain ⟨ce41, hcl41, hM41, hcc41, hfr41⟩ := Kd.R_elem HX41.out z57 (t206 : Int) (of_decide_eq_true (by assumption)) (by have h_ : (t206 : Int) < ((t198.length : Int) : Int) := of_decide_eq_true (by assumption); first | exact h_ | (have e_ := (Kd.R_reads' HO200.out).1; omega) | simpa using h_); obtain rfl := k57_openM hM41; have HP41 := Kd.R_seg HX41.out (t206 : Int) (of_decide_eq_true (by assumption)) (by have h_ : (t206 : Int) < ((t198.length : Int) : Int) := of_decide_eq_true (by assumption); first | exact h_ | (have e_ := (Kd.R_reads' HO200.out).1; omega) | simpa using h_) (seg := [.int .i64 a2]) (j := 1) hcl41 hcc41 (show 2 ≤ 2 from by decide) (x' := (⟨(rd_T57 t198 t206).f0, a2⟩ : S57)) (k57_mkM _ _ _ (⟨(rd_T57 t198 t206).f0, a2⟩ : S57) ) (fun _ hk => hk); have hx41_1 := hcc41 1 _ rfl; (try simp only [show (k57).sz = 2 from rfl, Nat.mul_one, Nat.add_zero] at hx41_1); have hf41_1 := hfr41 1; (try simp only [show (k57).sz = 2 from rfl, Nat.mul_one, Nat.add_zero] at hf41_1); clear hcl41 hcc41 hfr41 hM41) | ((with_reducible refine gate_store (t := 3) (p := 37) rfl ?_); refine store_event (t := 3) (p := 37) (v := ?vo_w42) (w1 := (w39.setCell ⟨go28, (t206 : Int).toNat * 2 + 1, none⟩ (.int .i64 a2))) ?hg ?ho ?hn ?hr ?_; (case ho => rfl); (case hg => rfl); (case hn => rfl); (case hr => first | (go_simp; done) | (go_simp; rfl)); intro w42 hw; have hg : w39.grownBy w42 (some go28) := (by rw [hw]; exact HP41.2); have hp_ : Kd.R k57 57 w42 w.heap.size (fun k_ => some k_ ≠ (.slice Ao37 t201.length co37 : Value).ownBlock) (.slice (some ⟨go28, 0, none⟩) t198.length co33) y207 := (by rw [hw, Ny207.out]; exact HP41.1); clear HP41; have n0_ := am (blk_grown (g := gb194) (o := .cells #[.slice A0_0 l0_0.length c0_0, .slice A0_1 l0_1.length c0_1, .int .i64 a0_2] 26 (0, 0)) (xB BK194.out) hg (Kd.R_ne HO200.out BK194.out (by decide))); have n1_ := am (blk_grown (g := gb195) (o := .cells #[.slice none 0 0, .slice none 0 0, .int .i64 0] 26 (0, 0)) (xB BK195.out) hg (Kd.R_ne HO200.out BK195.out (by decide))); have n2_ := am (hp_); have n3_ := am (Kd.R_after (v := (.slice (some ⟨go28, 0, none⟩) t198.length co33)) (v1 := (.slice (some ⟨go28, 0, none⟩) t198.length co33)) (ok := (fun _ => True)) (Kd.R_mono (xR HO203.out) (fun _ hk => ⟨trivial, hk⟩)) hg (.inl rfl)); have n4_ := am (blk_grown (g := gb205) (o := .cells #[.slice (some ⟨go28, 0, none⟩) t198.length co33, .slice Ao37 t201.length co37, .int .i64 t204] 26 (0, 0)) (xB BK205.out) hg (Kd.R_ne HO200.out BK205.out (by decide))); have n5_ := am ((by rw [hw]; exact below_set (HB.out) GB28.out : Below w.heap.size w w42)); clear BK194; clear BK195; clear HO200; clear HO203; clear BK205; clear HB; have BK194 := n0_; have BK195 := n1_; have HO200 := n2_; have HO203 := n3_; have BK205 := n4_; have HB := n5_; clear n0_ n1_ n2_ n3_ n4_ n5_; clear hg hw hp_; obtain ⟨hcz43_0, hcz43_1, hcz43_2, hfz43_0, hfz43_1, hfz43_2⟩ := xT3 (W := w42) BK205.out; obtain ⟨hcz44_0, hcz44_1, hcz44_2, hfz44_0, hfz44_1, hfz44_2⟩ := xT3 (W := w42) BK195.out))
       refine bodyPost_ret (results_ct rfl _ _ gb195 26 #[.slice (some ⟨go28, 0, none⟩) t198.length co33, .slice Ao37 t201.length co37, .int .i64 t204] (0, 0) _ rfl (xP BK195.out) Try.underlying26 rfl (by kernel_rfl)) rfl ?_
       exact ⟨_, _, xV, xR HO200.out, by (with_reducible repeat (first | apply Kd.R_alloc | apply Kd.R_drewN | apply Kd.R_drew)); exact Kd.R_mono (Kd.R_far (p := ⟨gb195, 2, none⟩) (Kd.R_far (p := ⟨gb195, 1, none⟩) (Kd.R_far (p := ⟨gb195, 0, none⟩) (Kd.R_types HO203.out BK195.out (by decide)) (fun _ hk => hk.2) (.slice (some ⟨go28, 0, none⟩) t198.length co33)) (fun _ hk => hk.2) (.slice Ao37 t201.length co37)) (fun _ hk => hk.2) (.int .i64 t204)) (fun _ hk => hk.1.2), xW HB.out⟩
      ·rw [if_neg c27] at H
       exact absurd H (by simp)
     ·rw [if_neg c26] at H
      exact absurd H (by simp)
    ·rw [if_neg c25] at H
     have c25b0 : decide (0 ≤ t206) = false := decide_eq_false c25
     clear c25
     replace H := Option.bind_eq_some_iff.mp H
     obtain ⟨t208, A450, H⟩ := H
     replace H : (if t208 ≥ 0 then (if 0 ≤ t208 then (if t208 < (t201.length : Int) then ((spec_l04Put.f kj3 t198 a1 a2).bind fun bt210 => (if bt210.1 = true then (some (bt210.2, (t201.set (t208 : Int).toNat (⟨(⟨#[]⟩ : ByteArray), (-2)⟩ : S57)), t204, true)) else (some (([] : List (S57)), ([] : List (S57)), 0, false)))) else (none)) else (none)) else ((spec_l04Put.f kj3 t198 a1 a2).bind fun bt212 => (if bt212.1 = true then (some (bt212.2, t201, t204, true)) else (some (([] : List (S57)), ([] : List (S57)), 0, false))))) = some (r1, r2, r3, r4) := H
     have A45 := am A450
     clear A450
     by_cases c46 : t208 ≥ 0
     ·rw [if_pos c46] at H
      have c46b0 : decide (0 ≤ t208) = true := decide_eq_true c46
      clear c46
      by_cases c47 : 0 ≤ t208
      ·rw [if_pos c47] at H
       have c47b0 : decide (0 ≤ t208) = true := decide_eq_true c47
       clear c47
       by_cases c48 : t208 < (t201.length : Int)
       ·rw [if_pos c48] at H
        have c48b0 : decide (t208 < (t201.length : Int)) = true := decide_eq_true c48
        clear c48
        obtain ⟨y209, hy209⟩ : ∃ y_ : List (S57), y_ = (t201.set (t208 : Int).toNat (⟨(⟨#[]⟩ : ByteArray), (-2)⟩ : S57)) := ⟨_, rfl⟩
        replace H : ((spec_l04Put.f kj3 t198 a1 a2).bind fun bt210 => (if bt210.1 = true then (some (bt210.2, y209, t204, true)) else (some (([] : List (S57)), ([] : List (S57)), 0, false)))) = some (r1, r2, r3, r4) := by first | (rw [hy209]; with_reducible exact H) | (have H2_ := (Option.bind_some _ _).symm.trans H; rw [hy209]; with_reducible exact H2_) | (have H2_ := (Option.bind_some _ _).symm.trans H; with_reducible exact H2_) | with_reducible exact H | (rw [hy209]; exact H) | exact H
        have Ny209 := am hy209
        clear hy209
        replace H := Option.bind_eq_some_iff.mp H
        obtain ⟨⟨t210, t211⟩, A500, H⟩ := H
        replace H : (if t210 = true then (some (t211, y209, t204, true)) else (some (([] : List (S57)), ([] : List (S57)), 0, false))) = some (r1, r2, r3, r4) := H
        have A50 := am A500
        clear A500
        by_cases c51 : t210 = true
        ·subst c51
         have H1 : (some (t211, y209, t204, true)) = some (r1, r2, r3, r4) := by rw [if_pos rfl] at H; exact H
         clear H
         have H := H1
         clear H1
         simp only [Option.some.injEq, Prod.mk.injEq] at H
         obtain ⟨rfl, rfl, rfl, rfl⟩ := H
         have hnb52 := NB194_195.out
         have hnc52 := NB195_194.out
         obtain ⟨hcz53_0, hcz53_1, hcz53_2, hfz53_0, hfz53_1, hfz53_2⟩ := xT3 (W := wc) BK194.out
         go_wp2_with (first | ((with_reducible refine gate_callee (f := 69) rfl ?_); refine xG (some 25) 69 Try.func69 #[.agg #[.slice A0_0 l0_0.length c0_0, .slice A0_1 l0_1.length c0_1, .int .i64 a0_2]] (h := ?_); (with_reducible refine (spec_l04Copy.calls _ _ l0_0 _ _ l0_1 a0_2 t198 t201 t204 _ ?side1 ?side2 ?side3 ?side4 A23.out).mono ?_); (case side1 => exact xC (Kd.C_below HR0_0.out HB.out)); (case side2 => exact HC0_0.out); (case side3 => exact xC (Kd.C_below HR0_1.out HB.out)); (case side4 => exact HC0_1.out); rintro e w54 ⟨v199, v202, rfl, ho0, ho1, hb⟩; refine ⟨_, rfl, ?_⟩; have n0_ := am (Kd.R_lower ho0 (below_size (xW HB.out))); have n1_ := am (Kd.R_lower ho1 (below_size (xW HB.out))); have n2_ := am (blk_below (xB BK194.out) hb); have n3_ := am (blk_below (xB BK195.out) hb); have n4_ := am (below_step (xW HB.out) hb); clear BK194; clear BK195; clear HB; have HO200 := n0_; have HO203 := n1_; have BK194 := n2_; have BK195 := n3_; have HB := n4_; clear n0_ n1_ n2_ n3_ n4_; (try clear hb); (try clear hb2); (try clear hk); (try clear hi); (try clear ho0); (try clear ho1)) | ((with_reducible refine gate_dst (N := 8) rfl ?_); (try (refine gate_guard (by rfl) ?_; dsimp only)); refine xE (N := 8) (cs := #[.slice none 0 0, .slice none 0 0, .int .i64 0]) (t := 26) (h := ?_); intro gb205 hg w55 hbox hb; have n0_ := am (Kd.R_below (xR HO200.out) hb); have n1_ := am (Kd.R_below (xR HO203.out) hb); have n2_ := am (blk_below (xB BK194.out) hb); have n3_ := am (blk_below (xB BK195.out) hb); have n4_ := am (below_step (xW HB.out) hb); have n5_ := am (hbox); have n6_ := am (xS hg HB.out); have n7_ := am (xS hg HB.out); have n8_ := am (xN hg BK194.out); have n9_ := am (xM hg BK194.out); have n10_ := am (xN hg BK195.out); have n11_ := am (xM hg BK195.out); clear HO200; clear HO203; clear BK194; clear BK195; clear HB; have HO200 := n0_; have HO203 := n1_; have BK194 := n2_; have BK195 := n3_; have HB := n4_; have BK205 := n5_; have GW205 := n6_; have GE205 := n7_; have NB194_205 := n8_; have NB205_194 := n9_; have NB195_205 := n10_; have NB205_195 := n11_; clear n0_ n1_ n2_ n3_ n4_ n5_ n6_ n7_ n8_ n9_ n10_ n11_; clear hb hbox hg; obtain ⟨Ao56, co56, eo56⟩ := Kd.R_slice HO200.out; subst eo56; have hnb57 := NB205_194.out; have hnc57 := NB194_205.out; have hnb58 := NB205_195.out; have hnc58 := NB195_205.out; obtain ⟨hcz59_0, hcz59_1, hcz59_2, hfz59_0, hfz59_1, hfz59_2⟩ := xT3 (W := w55) BK205.out; obtain ⟨Ao60, co60, eo60⟩ := Kd.R_slice HO203.out; subst eo60; obtain ⟨hcz61_0, hcz61_1, hcz61_2, hfz61_0, hfz61_1, hfz61_2⟩ := xT3 (W := w55) BK194.out) | ((with_reducible refine gate_callee (f := 58) rfl ?_); refine xG (some 29) 58 Try.func58 #[.slice A0_0 l0_0.length c0_0, .string a1] (h := ?_); (with_reducible refine (spec_l04Seek.calls kj3 _ _ l0_0 a1 t206 _ ?side1 ?side2 A24.out).mono ?_); (case side1 => exact Kd.C_below HR0_0.out (xW HB.out)); (case side2 => exact HC0_0.out); rintro e w62 ⟨rfl, hb⟩; refine ⟨_, rfl, ?_⟩; have n0_ := am (Kd.R_below (xR HO200.out) hb); have n1_ := am (Kd.R_below (xR HO203.out) hb); have n2_ := am (blk_below (xB BK194.out) hb); have n3_ := am (blk_below (xB BK195.out) hb); have n4_ := am (blk_below (xP BK205.out) hb); have n5_ := am (below_step (xW HB.out) hb); clear HO200; clear HO203; clear BK194; clear BK195; clear BK205; clear HB; have HO200 := n0_; have HO203 := n1_; have BK194 := n2_; have BK195 := n3_; have BK205 := n4_; have HB := n5_; clear n0_ n1_ n2_ n3_ n4_ n5_; (try clear hb); (try clear hb2); (try clear hk); (try clear hi); obtain ⟨hcz63_0, hcz63_1, hcz63_2, hfz63_0, hfz63_1, hfz63_2⟩ := xT3 (W := w62) BK194.out) | ((with_reducible refine gate_callee (f := 58) rfl ?_); refine xG (some 42) 58 Try.func58 #[.slice A0_1 l0_1.length c0_1, .string a1] (h := ?_); (with_reducible refine (spec_l04Seek.calls kj3 _ _ l0_1 a1 t208 _ ?side1 ?side2 A45.out).mono ?_); (case side1 => exact xC (Kd.C_below HR0_1.out HB.out)); (case side2 => exact HC0_1.out); rintro e w64 ⟨rfl, hb⟩; refine ⟨_, rfl, ?_⟩; have n0_ := am (Kd.R_below (xR HO200.out) hb); have n1_ := am (Kd.R_below (xR HO203.out) hb); have n2_ := am (blk_below (xB BK194.out) hb); have n3_ := am (blk_below (xB BK195.out) hb); have n4_ := am (blk_below (xB BK205.out) hb); have n5_ := am (below_step (xW HB.out) hb); clear HO200; clear HO203; clear BK194; clear BK195; clear BK205; clear HB; have HO200 := n0_; have HO203 := n1_; have BK194 := n2_; have BK195 := n3_; have BK205 := n4_; have HB := n5_; clear n0_ n1_ n2_ n3_ n4_ n5_; (try clear hb); (try clear hb2); (try clear hk); (try clear hi); obtain ⟨hcz65_0, hcz65_1, hcz65_2, hfz65_0, hfz65_1, hfz65_2⟩ := xT3 (W := w64) BK205.out; have p49 : 0 ≤ (t208 : Int) := of_decide_eq_true (by assumption); have q49 : (t208 : Int) < ((t201.length : Int) : Int) := of_decide_eq_true (by assumption); obtain ⟨go49, co49, eo49, gb49, gl49, cl49, HG49⟩ := Kd.R_form HO203.out (by omega); (first | cases eo49 | (injection eo49 with ea_ en_ ec_; (first | subst ea_ | (injection ea_ with ea_; subst ea_)); subst ec_; clear en_)); have GB49 := am gb49; have GG49 := am HG49; clear gb49 gl49 HG49; obtain ⟨ce49, hcl49, hM49, hcc49, hfr49⟩ := Kd.R_elem HO203.out z57 (t208 : Int) p49 q49; obtain rfl := k57_openM hM49; have hx49_0 : w64.cell? ⟨go49, (t208 : Int).toNat * 2, none⟩ = some (.string ((rd_T57 t201 t208).f0)) := hcc49 0 _ rfl; have hx49_1 : w64.cell? ⟨go49, (t208 : Int).toNat * 2 + 1, none⟩ = some (.int .i64 ((rd_T57 t201 t208).f1)) := hcc49 1 _ rfl; have hf49_0 : w64.frozen? ⟨go49, (t208 : Int).toNat * 2, none⟩ = false := hfr49 0; have hf49_1 : w64.frozen? ⟨go49, (t208 : Int).toNat * 2 + 1, none⟩ = false := hfr49 1; clear hcl49 hcc49 hfr49 hM49; replace p49 := eq_true p49; replace q49 := eq_true q49; have HX66 := am (show Kd.R k57 57 w64 w.heap.size (fun k_ => some k_ ≠ (.slice Ao56 t198.length co56 : Value).ownBlock) (.slice (some ⟨go49, 0, none⟩) t201.length co60) t201 from (xR HO203.out)); obtain ⟨ce66, hcl66, hM66, hcc66, hfr66⟩ := Kd.R_elem HX66.out z57 (t208 : Int) (of_decide_eq_true (by assumption)) (by have h_ : (t208 : Int) < ((t201.length : Int) : Int) := of_decide_eq_true (by assumption); first | exact h_ | (have e_ := (Kd.R_reads' HO203.out).1; omega) | simpa using h_); obtain rfl := k57_openM hM66; have HP66 := Kd.R_seg HX66.out (t208 : Int) (of_decide_eq_true (by assumption)) (by have h_ : (t208 : Int) < ((t201.length : Int) : Int) := of_decide_eq_true (by assumption); first | exact h_ | (have e_ := (Kd.R_reads' HO203.out).1; omega) | simpa using h_) (seg := [.string (⟨#[]⟩ : ByteArray), .int .i64 (-2)]) (j := 0) hcl66 hcc66 (show 2 ≤ 2 from by decide) (x' := (⟨(⟨#[]⟩ : ByteArray), (-2)⟩ : S57)) (k57_mkM _ _ _ (⟨(⟨#[]⟩ : ByteArray), (-2)⟩ : S57) ) (fun _ hk => hk); have hx66_0 := hcc66 0 _ rfl; (try simp only [show (k57).sz = 2 from rfl, Nat.mul_one, Nat.add_zero] at hx66_0); have hf66_0 := hfr66 0; (try simp only [show (k57).sz = 2 from rfl, Nat.mul_one, Nat.add_zero] at hf66_0); have hx66_1 := hcc66 1 _ rfl; (try simp only [show (k57).sz = 2 from rfl, Nat.mul_one, Nat.add_zero] at hx66_1); have hf66_1 := hfr66 1; (try simp only [show (k57).sz = 2 from rfl, Nat.mul_one, Nat.add_zero] at hf66_1); clear hcl66 hcc66 hfr66 hM66) | ((with_reducible refine gate_store (t := 57) (p := 49) rfl ?_); refine store_event (t := 57) (p := 49) (v := ?vo_w67) (w1 := ((w64.setCell ⟨go49, (t208 : Int).toNat * 2, none⟩ (.string (⟨#[]⟩ : ByteArray))).setCell ⟨go49, (t208 : Int).toNat * 2 + 1, none⟩ (.int .i64 (-2)))) ?hg ?ho ?hn ?hr ?_; (case ho => rfl); (case hg => rfl); (case hn => rfl); (case hr => first | (go_simp; done) | (go_simp; rfl)); intro w67 hw; have hg : w64.grownBy w67 (some go49) := (by rw [hw]; exact HP66.2); have hp_ : Kd.R k57 57 w67 w.heap.size (fun k_ => some k_ ≠ (.slice Ao56 t198.length co56 : Value).ownBlock) (.slice (some ⟨go49, 0, none⟩) t201.length co60) y209 := (by rw [hw, Ny209.out]; exact HP66.1); clear HP66; have n0_ := am (blk_grown (g := gb194) (o := .cells #[.slice A0_0 l0_0.length c0_0, .slice A0_1 l0_1.length c0_1, .int .i64 a0_2] 26 (0, 0)) (xB BK194.out) hg (Kd.R_ne HO203.out BK194.out (by decide))); have n1_ := am (blk_grown (g := gb195) (o := .cells #[.slice none 0 0, .slice none 0 0, .int .i64 0] 26 (0, 0)) (xB BK195.out) hg (Kd.R_ne HO203.out BK195.out (by decide))); have n2_ := am (Kd.R_after (v := (.slice (some ⟨go49, 0, none⟩) t201.length co60)) (v1 := (.slice (some ⟨go49, 0, none⟩) t201.length co60)) (ok := (fun _ => True)) (Kd.R_mono (xR HO200.out) (fun _ hk => ⟨trivial, hk⟩)) hg (.inl rfl)); have n3_ := am (hp_); have n4_ := am (blk_grown (g := gb205) (o := .cells #[.slice Ao56 t198.length co56, .slice (some ⟨go49, 0, none⟩) t201.length co60, .int .i64 t204] 26 (0, 0)) (xB BK205.out) hg (Kd.R_ne HO203.out BK205.out (by decide))); have n5_ := am ((by rw [hw]; exact below_set (below_set (HB.out) GB49.out) GB49.out : Below w.heap.size w w67)); clear BK194; clear BK195; clear HO200; clear HO203; clear BK205; clear HB; have BK194 := n0_; have BK195 := n1_; have HO200 := n2_; have HO203 := n3_; have BK205 := n4_; have HB := n5_; clear n0_ n1_ n2_ n3_ n4_ n5_; clear hg hw hp_; obtain ⟨hcz68_0, hcz68_1, hcz68_2, hfz68_0, hfz68_1, hfz68_2⟩ := xT3 (W := w67) BK205.out) | ((with_reducible refine gate_callee (f := 73) rfl ?_); refine xG (some 54) 73 Try.func73 #[.slice Ao56 t198.length co56, .string a1, .int .i64 a2] (h := ?_); (with_reducible refine (spec_l04Put.calls kj3 (fun k_ => some k_ = (.slice Ao56 t198.length co56 : Value).ownBlock) (.slice Ao56 t198.length co56) t198 a1 a2 true t211 w _ ?side1 ?side2 A50.out).mono ?_); (case side1 => repeat (first | (with_reducible first | exact HB.out | apply below_alloc | apply pw_below_drewN | apply below_drew1 | refine below_set ?_ GE194.out | refine below_set ?_ GE195.out | refine below_set ?_ GE205.out) | exact HB.out)); (case side2 => exact Kd.R_tight rfl HO200.out); rintro e w69 ⟨rfl, hy0, hb, hkp⟩; refine ⟨_, rfl, ?_⟩; have n0_ := am (blk_kept (xB BK194.out) hkp (fun hs_ => (fun e_ => (Kd.R_ne HO200.out BK194.out (by decide)) e_) hs_)); have n1_ := am (blk_kept (xB BK195.out) hkp (fun hs_ => (fun e_ => (Kd.R_ne HO200.out BK195.out (by decide)) e_) hs_)); have n2_ := am (Kd.R_reok rfl hy0 (fun k_ e_ => HO200.out.1 k_ e_)); have n3_ := am (Kd.R_mono (ok' := fun k_ => some k_ ≠ (.slice Ao56 t198.length co56 : Value).ownBlock) (Kd.R_keptB (HO203.out) hkp (fun k_ hk_ hs_ => (hk_) hs_)) (fun k_ hk_ => hk_.1)); have n4_ := am (blk_kept (xB BK205.out) hkp (fun hs_ => (fun e_ => (Kd.R_ne HO200.out BK205.out (by decide)) e_) hs_)); have n5_ := am (hb); clear BK194; clear BK195; clear HO200; clear HO203; clear BK205; clear HB; have BK194 := n0_; have BK195 := n1_; have HO200 := n2_; have HO203 := n3_; have BK205 := n4_; have HB := n5_; clear n0_ n1_ n2_ n3_ n4_ n5_; (try clear hb); (try clear hkp); (try clear hy0); obtain ⟨hcz70_0, hcz70_1, hcz70_2, hfz70_0, hfz70_1, hfz70_2⟩ := xT3 (W := w69) BK205.out; obtain ⟨hcz71_0, hcz71_1, hcz71_2, hfz71_0, hfz71_1, hfz71_2⟩ := xT3 (W := w69) BK195.out))
         refine bodyPost_ret (results_ct rfl _ _ gb195 26 #[.slice Ao56 t198.length co56, .slice (some ⟨go49, 0, none⟩) t201.length co60, .int .i64 t204] (0, 0) _ rfl (xP BK195.out) Try.underlying26 rfl (by kernel_rfl)) rfl ?_
         exact ⟨_, _, xV, by (with_reducible repeat (first | apply Kd.R_alloc | apply Kd.R_drewN | apply Kd.R_drew)); exact Kd.R_mono (Kd.R_far (p := ⟨gb195, 2, none⟩) (Kd.R_far (p := ⟨gb195, 1, none⟩) (Kd.R_far (p := ⟨gb195, 0, none⟩) (Kd.R_types HO200.out BK195.out (by decide)) (fun _ hk => hk.2) (.slice Ao56 t198.length co56)) (fun _ hk => hk.2) (.slice (some ⟨go49, 0, none⟩) t201.length co60)) (fun _ hk => hk.2) (.int .i64 t204)) (fun _ hk => hk.1.2), xR HO203.out, xW HB.out⟩
        ·replace c51 := Bool.eq_false_iff.mpr c51
         subst c51
         have H1 : (some (([] : List (S57)), ([] : List (S57)), 0, false)) = some (r1, r2, r3, r4) := by rw [if_neg (show ¬ (false = true) by decide)] at H; exact H
         clear H
         have H := H1
         clear H1
         simp only [Option.some.injEq, Prod.mk.injEq] at H
         obtain ⟨rfl, rfl, rfl, rfl⟩ := H
         have hnb72 := NB194_195.out
         have hnc72 := NB195_194.out
         obtain ⟨hcz73_0, hcz73_1, hcz73_2, hfz73_0, hfz73_1, hfz73_2⟩ := xT3 (W := wc) BK194.out
         go_wp2_with (first | ((with_reducible refine gate_callee (f := 69) rfl ?_); refine xG (some 25) 69 Try.func69 #[.agg #[.slice A0_0 l0_0.length c0_0, .slice A0_1 l0_1.length c0_1, .int .i64 a0_2]] (h := ?_); (with_reducible refine (spec_l04Copy.calls _ _ l0_0 _ _ l0_1 a0_2 t198 t201 t204 _ ?side1 ?side2 ?side3 ?side4 A23.out).mono ?_); (case side1 => exact xC (Kd.C_below HR0_0.out HB.out)); (case side2 => exact HC0_0.out); (case side3 => exact xC (Kd.C_below HR0_1.out HB.out)); (case side4 => exact HC0_1.out); rintro e w74 ⟨v199, v202, rfl, ho0, ho1, hb⟩; refine ⟨_, rfl, ?_⟩; have n0_ := am (Kd.R_lower ho0 (below_size (xW HB.out))); have n1_ := am (Kd.R_lower ho1 (below_size (xW HB.out))); have n2_ := am (blk_below (xB BK194.out) hb); have n3_ := am (blk_below (xB BK195.out) hb); have n4_ := am (below_step (xW HB.out) hb); clear BK194; clear BK195; clear HB; have HO200 := n0_; have HO203 := n1_; have BK194 := n2_; have BK195 := n3_; have HB := n4_; clear n0_ n1_ n2_ n3_ n4_; (try clear hb); (try clear hb2); (try clear hk); (try clear hi); (try clear ho0); (try clear ho1)) | ((with_reducible refine gate_dst (N := 8) rfl ?_); (try (refine gate_guard (by rfl) ?_; dsimp only)); refine xE (N := 8) (cs := #[.slice none 0 0, .slice none 0 0, .int .i64 0]) (t := 26) (h := ?_); intro gb205 hg w75 hbox hb; have n0_ := am (Kd.R_below (xR HO200.out) hb); have n1_ := am (Kd.R_below (xR HO203.out) hb); have n2_ := am (blk_below (xB BK194.out) hb); have n3_ := am (blk_below (xB BK195.out) hb); have n4_ := am (below_step (xW HB.out) hb); have n5_ := am (hbox); have n6_ := am (xS hg HB.out); have n7_ := am (xS hg HB.out); have n8_ := am (xN hg BK194.out); have n9_ := am (xM hg BK194.out); have n10_ := am (xN hg BK195.out); have n11_ := am (xM hg BK195.out); clear HO200; clear HO203; clear BK194; clear BK195; clear HB; have HO200 := n0_; have HO203 := n1_; have BK194 := n2_; have BK195 := n3_; have HB := n4_; have BK205 := n5_; have GW205 := n6_; have GE205 := n7_; have NB194_205 := n8_; have NB205_194 := n9_; have NB195_205 := n10_; have NB205_195 := n11_; clear n0_ n1_ n2_ n3_ n4_ n5_ n6_ n7_ n8_ n9_ n10_ n11_; clear hb hbox hg; obtain ⟨Ao76, co76, eo76⟩ := Kd.R_slice HO200.out; subst eo76; have hnb77 := NB205_194.out; have hnc77 := NB194_205.out; have hnb78 := NB205_195.out; have hnc78 := NB195_205.out; obtain ⟨hcz79_0, hcz79_1, hcz79_2, hfz79_0, hfz79_1, hfz79_2⟩ := xT3 (W := w75) BK205.out; obtain ⟨Ao80, co80, eo80⟩ := Kd.R_slice HO203.out; subst eo80; obtain ⟨hcz81_0, hcz81_1, hcz81_2, hfz81_0, hfz81_1, hfz81_2⟩ := xT3 (W := w75) BK194.out) | ((with_reducible refine gate_callee (f := 58) rfl ?_); refine xG (some 29) 58 Try.func58 #[.slice A0_0 l0_0.length c0_0, .string a1] (h := ?_); (with_reducible refine (spec_l04Seek.calls kj3 _ _ l0_0 a1 t206 _ ?side1 ?side2 A24.out).mono ?_); (case side1 => exact Kd.C_below HR0_0.out (xW HB.out)); (case side2 => exact HC0_0.out); rintro e w82 ⟨rfl, hb⟩; refine ⟨_, rfl, ?_⟩; have n0_ := am (Kd.R_below (xR HO200.out) hb); have n1_ := am (Kd.R_below (xR HO203.out) hb); have n2_ := am (blk_below (xB BK194.out) hb); have n3_ := am (blk_below (xB BK195.out) hb); have n4_ := am (blk_below (xP BK205.out) hb); have n5_ := am (below_step (xW HB.out) hb); clear HO200; clear HO203; clear BK194; clear BK195; clear BK205; clear HB; have HO200 := n0_; have HO203 := n1_; have BK194 := n2_; have BK195 := n3_; have BK205 := n4_; have HB := n5_; clear n0_ n1_ n2_ n3_ n4_ n5_; (try clear hb); (try clear hb2); (try clear hk); (try clear hi); obtain ⟨hcz83_0, hcz83_1, hcz83_2, hfz83_0, hfz83_1, hfz83_2⟩ := xT3 (W := w82) BK194.out) | ((with_reducible refine gate_callee (f := 58) rfl ?_); refine xG (some 42) 58 Try.func58 #[.slice A0_1 l0_1.length c0_1, .string a1] (h := ?_); (with_reducible refine (spec_l04Seek.calls kj3 _ _ l0_1 a1 t208 _ ?side1 ?side2 A45.out).mono ?_); (case side1 => exact xC (Kd.C_below HR0_1.out HB.out)); (case side2 => exact HC0_1.out); rintro e w84 ⟨rfl, hb⟩; refine ⟨_, rfl, ?_⟩; have n0_ := am (Kd.R_below (xR HO200.out) hb); have n1_ := am (Kd.R_below (xR HO203.out) hb); have n2_ := am (blk_below (xB BK194.out) hb); have n3_ := am (blk_below (xB BK195.out) hb); have n4_ := am (blk_below (xB BK205.out) hb); have n5_ := am (below_step (xW HB.out) hb); clear HO200; clear HO203; clear BK194; clear BK195; clear BK205; clear HB; have HO200 := n0_; have HO203 := n1_; have BK194 := n2_; have BK195 := n3_; have BK205 := n4_; have HB := n5_; clear n0_ n1_ n2_ n3_ n4_ n5_; (try clear hb); (try clear hb2); (try clear hk); (try clear hi); obtain ⟨hcz85_0, hcz85_1, hcz85_2, hfz85_0, hfz85_1, hfz85_2⟩ := xT3 (W := w84) BK205.out; have p49 : 0 ≤ (t208 : Int) := of_decide_eq_true (by assumption); have q49 : (t208 : Int) < ((t201.length : Int) : Int) := of_decide_eq_true (by assumption); obtain ⟨go49, co49, eo49, gb49, gl49, cl49, HG49⟩ := Kd.R_form HO203.out (by omega); (first | cases eo49 | (injection eo49 with ea_ en_ ec_; (first | subst ea_ | (injection ea_ with ea_; subst ea_)); subst ec_; clear en_)); have GB49 := am gb49; have GG49 := am HG49; clear gb49 gl49 HG49; obtain ⟨ce49, hcl49, hM49, hcc49, hfr49⟩ := Kd.R_elem HO203.out z57 (t208 : Int) p49 q49; obtain rfl := k57_openM hM49; have hx49_0 : w84.cell? ⟨go49, (t208 : Int).toNat * 2, none⟩ = some (.string ((rd_T57 t201 t208).f0)) := hcc49 0 _ rfl; have hx49_1 : w84.cell? ⟨go49, (t208 : Int).toNat * 2 + 1, none⟩ = some (.int .i64 ((rd_T57 t201 t208).f1)) := hcc49 1 _ rfl; have hf49_0 : w84.frozen? ⟨go49, (t208 : Int).toNat * 2, none⟩ = false := hfr49 0; have hf49_1 : w84.frozen? ⟨go49, (t208 : Int).toNat * 2 + 1, none⟩ = false := hfr49 1; clear hcl49 hcc49 hfr49 hM49; replace p49 := eq_true p49; replace q49 := eq_true q49; have HX86 := am (show Kd.R k57 57 w84 w.heap.size (fun k_ => some k_ ≠ (.slice Ao76 t198.length co76 : Value).ownBlock) (.slice (some ⟨go49, 0, none⟩) t201.length co80) t201 from (xR HO203.out)); obtain ⟨ce86, hcl86, hM86, hcc86, hfr86⟩ := Kd.R_elem HX86.out z57 (t208 : Int) (of_decide_eq_true (by assumption)) (by have h_ : (t208 : Int) < ((t201.length : Int) : Int) := of_decide_eq_true (by assumption); first | exact h_ | (have e_ := (Kd.R_reads' HO203.out).1; omega) | simpa using h_); obtain rfl := k57_openM hM86; have HP86 := Kd.R_seg HX86.out (t208 : Int) (of_decide_eq_true (by assumption)) (by have h_ : (t208 : Int) < ((t201.length : Int) : Int) := of_decide_eq_true (by assumption); first | exact h_ | (have e_ := (Kd.R_reads' HO203.out).1; omega) | simpa using h_) (seg := [.string (⟨#[]⟩ : ByteArray), .int .i64 (-2)]) (j := 0) hcl86 hcc86 (show 2 ≤ 2 from by decide) (x' := (⟨(⟨#[]⟩ : ByteArray), (-2)⟩ : S57)) (k57_mkM _ _ _ (⟨(⟨#[]⟩ : ByteArray), (-2)⟩ : S57) ) (fun _ hk => hk); have hx86_0 := hcc86 0 _ rfl; (try simp only [show (k57).sz = 2 from rfl, Nat.mul_one, Nat.add_zero] at hx86_0); have hf86_0 := hfr86 0; (try simp only [show (k57).sz = 2 from rfl, Nat.mul_one, Nat.add_zero] at hf86_0); have hx86_1 := hcc86 1 _ rfl; (try simp only [show (k57).sz = 2 from rfl, Nat.mul_one, Nat.add_zero] at hx86_1); have hf86_1 := hfr86 1; (try simp only [show (k57).sz = 2 from rfl, Nat.mul_one, Nat.add_zero] at hf86_1); clear hcl86 hcc86 hfr86 hM86) | ((with_reducible refine gate_store (t := 57) (p := 49) rfl ?_); refine store_event (t := 57) (p := 49) (v := ?vo_w87) (w1 := ((w84.setCell ⟨go49, (t208 : Int).toNat * 2, none⟩ (.string (⟨#[]⟩ : ByteArray))).setCell ⟨go49, (t208 : Int).toNat * 2 + 1, none⟩ (.int .i64 (-2)))) ?hg ?ho ?hn ?hr ?_; (case ho => rfl); (case hg => rfl); (case hn => rfl); (case hr => first | (go_simp; done) | (go_simp; rfl)); intro w87 hw; have hg : w84.grownBy w87 (some go49) := (by rw [hw]; exact HP86.2); have hp_ : Kd.R k57 57 w87 w.heap.size (fun k_ => some k_ ≠ (.slice Ao76 t198.length co76 : Value).ownBlock) (.slice (some ⟨go49, 0, none⟩) t201.length co80) y209 := (by rw [hw, Ny209.out]; exact HP86.1); clear HP86; have n0_ := am (blk_grown (g := gb194) (o := .cells #[.slice A0_0 l0_0.length c0_0, .slice A0_1 l0_1.length c0_1, .int .i64 a0_2] 26 (0, 0)) (xB BK194.out) hg (Kd.R_ne HO203.out BK194.out (by decide))); have n1_ := am (blk_grown (g := gb195) (o := .cells #[.slice none 0 0, .slice none 0 0, .int .i64 0] 26 (0, 0)) (xB BK195.out) hg (Kd.R_ne HO203.out BK195.out (by decide))); have n2_ := am (Kd.R_after (v := (.slice (some ⟨go49, 0, none⟩) t201.length co80)) (v1 := (.slice (some ⟨go49, 0, none⟩) t201.length co80)) (ok := (fun _ => True)) (Kd.R_mono (xR HO200.out) (fun _ hk => ⟨trivial, hk⟩)) hg (.inl rfl)); have n3_ := am (hp_); have n4_ := am (blk_grown (g := gb205) (o := .cells #[.slice Ao76 t198.length co76, .slice (some ⟨go49, 0, none⟩) t201.length co80, .int .i64 t204] 26 (0, 0)) (xB BK205.out) hg (Kd.R_ne HO203.out BK205.out (by decide))); have n5_ := am ((by rw [hw]; exact below_set (below_set (HB.out) GB49.out) GB49.out : Below w.heap.size w w87)); clear BK194; clear BK195; clear HO200; clear HO203; clear BK205; clear HB; have BK194 := n0_; have BK195 := n1_; have HO200 := n2_; have HO203 := n3_; have BK205 := n4_; have HB := n5_; clear n0_ n1_ n2_ n3_ n4_ n5_; clear hg hw hp_; obtain ⟨hcz88_0, hcz88_1, hcz88_2, hfz88_0, hfz88_1, hfz88_2⟩ := xT3 (W := w87) BK205.out) | ((with_reducible refine gate_callee (f := 73) rfl ?_); refine xG (some 54) 73 Try.func73 #[.slice Ao76 t198.length co76, .string a1, .int .i64 a2] (h := ?_); (with_reducible refine (spec_l04Put.calls kj3 (fun k_ => some k_ = (.slice Ao76 t198.length co76 : Value).ownBlock) (.slice Ao76 t198.length co76) t198 a1 a2 false t211 w _ ?side1 ?side2 A50.out).mono ?_); (case side1 => repeat (first | (with_reducible first | exact HB.out | apply below_alloc | apply pw_below_drewN | apply below_drew1 | refine below_set ?_ GE194.out | refine below_set ?_ GE195.out | refine below_set ?_ GE205.out) | exact HB.out)); (case side2 => exact Kd.R_tight rfl HO200.out); rintro e w89 ⟨rfl, hy0, hb, hkp⟩; refine ⟨_, rfl, ?_⟩; have n0_ := am (blk_kept (xB BK194.out) hkp (fun hs_ => (fun e_ => (Kd.R_ne HO200.out BK194.out (by decide)) e_) hs_)); have n1_ := am (blk_kept (xB BK195.out) hkp (fun hs_ => (fun e_ => (Kd.R_ne HO200.out BK195.out (by decide)) e_) hs_)); have n2_ := am (Kd.R_reok rfl hy0 (fun k_ e_ => HO200.out.1 k_ e_)); have n3_ := am (Kd.R_mono (ok' := fun k_ => some k_ ≠ (.slice Ao76 t198.length co76 : Value).ownBlock) (Kd.R_keptB (HO203.out) hkp (fun k_ hk_ hs_ => (hk_) hs_)) (fun k_ hk_ => hk_.1)); have n4_ := am (blk_kept (xB BK205.out) hkp (fun hs_ => (fun e_ => (Kd.R_ne HO200.out BK205.out (by decide)) e_) hs_)); have n5_ := am (hb); clear BK194; clear BK195; clear HO200; clear HO203; clear BK205; clear HB; have BK194 := n0_; have BK195 := n1_; have HO200 := n2_; have HO203 := n3_; have BK205 := n4_; have HB := n5_; clear n0_ n1_ n2_ n3_ n4_ n5_; (try clear hb); (try clear hkp); (try clear hy0); obtain ⟨hcz90_0, hcz90_1, hcz90_2, hfz90_0, hfz90_1, hfz90_2⟩ := xT3 (W := w89) BK195.out))
         refine bodyPost_ret (results_ct rfl _ _ gb195 26 #[.slice none 0 0, .slice none 0 0, .int .i64 0] (0, 0) _ rfl (xP BK195.out) Try.underlying26 rfl (by kernel_rfl)) rfl ?_
         exact ⟨_, _, xV, by first | exact Kd.R_nil _ _ _ _ _ | exact Kd.N_nil _ _ _ _ _ | exact Kd.V_nil _ _ _ _ _ | exact Kd.Q_nil _ _ _ _ _ | exact Kd.S_nil _ _ _ _ _, by first | exact Kd.R_nil _ _ _ _ _ | exact Kd.N_nil _ _ _ _ _ | exact Kd.V_nil _ _ _ _ _ | exact Kd.Q_nil _ _ _ _ _ | exact Kd.S_nil _ _ _ _ _, xW HB.out⟩
       ·rw [if_neg c48] at H
        exact absurd H (by simp)
      ·rw [if_neg c47] at H
       exact absurd H (by simp)
     ·rw [if_neg c46] at H
      have c46b0 : decide (0 ≤ t208) = false := decide_eq_false c46
      clear c46
      replace H := Option.bind_eq_some_iff.mp H
      obtain ⟨⟨t212, t213⟩, A910, H⟩ := H
      replace H : (if t212 = true then (some (t213, t201, t204, true)) else (some (([] : List (S57)), ([] : List (S57)), 0, false))) = some (r1, r2, r3, r4) := H
      have A91 := am A910
      clear A910
      by_cases c92 : t212 = true
      ·subst c92
       have H1 : (some (t213, t201, t204, true)) = some (r1, r2, r3, r4) := by rw [if_pos rfl] at H; exact H
       clear H
       have H := H1
       clear H1
       simp only [Option.some.injEq, Prod.mk.injEq] at H
       obtain ⟨rfl, rfl, rfl, rfl⟩ := H
       have hnb93 := NB194_195.out
       have hnc93 := NB195_194.out
       obtain ⟨hcz94_0, hcz94_1, hcz94_2, hfz94_0, hfz94_1, hfz94_2⟩ := xT3 (W := wc) BK194.out
       go_wp2_with (first | ((with_reducible refine gate_callee (f := 69) rfl ?_); refine xG (some 25) 69 Try.func69 #[.agg #[.slice A0_0 l0_0.length c0_0, .slice A0_1 l0_1.length c0_1, .int .i64 a0_2]] (h := ?_); (with_reducible refine (spec_l04Copy.calls _ _ l0_0 _ _ l0_1 a0_2 t198 t201 t204 _ ?side1 ?side2 ?side3 ?side4 A23.out).mono ?_); (case side1 => exact xC (Kd.C_below HR0_0.out HB.out)); (case side2 => exact HC0_0.out); (case side3 => exact xC (Kd.C_below HR0_1.out HB.out)); (case side4 => exact HC0_1.out); rintro e w95 ⟨v199, v202, rfl, ho0, ho1, hb⟩; refine ⟨_, rfl, ?_⟩; have n0_ := am (Kd.R_lower ho0 (below_size (xW HB.out))); have n1_ := am (Kd.R_lower ho1 (below_size (xW HB.out))); have n2_ := am (blk_below (xB BK194.out) hb); have n3_ := am (blk_below (xB BK195.out) hb); have n4_ := am (below_step (xW HB.out) hb); clear BK194; clear BK195; clear HB; have HO200 := n0_; have HO203 := n1_; have BK194 := n2_; have BK195 := n3_; have HB := n4_; clear n0_ n1_ n2_ n3_ n4_; (try clear hb); (try clear hb2); (try clear hk); (try clear hi); (try clear ho0); (try clear ho1)) | ((with_reducible refine gate_dst (N := 8) rfl ?_); (try (refine gate_guard (by rfl) ?_; dsimp only)); refine xE (N := 8) (cs := #[.slice none 0 0, .slice none 0 0, .int .i64 0]) (t := 26) (h := ?_); intro gb205 hg w96 hbox hb; have n0_ := am (Kd.R_below (xR HO200.out) hb); have n1_ := am (Kd.R_below (xR HO203.out) hb); have n2_ := am (blk_below (xB BK194.out) hb); have n3_ := am (blk_below (xB BK195.out) hb); have n4_ := am (below_step (xW HB.out) hb); have n5_ := am (hbox); have n6_ := am (xS hg HB.out); have n7_ := am (xS hg HB.out); have n8_ := am (xN hg BK194.out); have n9_ := am (xM hg BK194.out); have n10_ := am (xN hg BK195.out); have n11_ := am (xM hg BK195.out); clear HO200; clear HO203; clear BK194; clear BK195; clear HB; have HO200 := n0_; have HO203 := n1_; have BK194 := n2_; have BK195 := n3_; have HB := n4_; have BK205 := n5_; have GW205 := n6_; have GE205 := n7_; have NB194_205 := n8_; have NB205_194 := n9_; have NB195_205 := n10_; have NB205_195 := n11_; clear n0_ n1_ n2_ n3_ n4_ n5_ n6_ n7_ n8_ n9_ n10_ n11_; clear hb hbox hg; obtain ⟨Ao97, co97, eo97⟩ := Kd.R_slice HO200.out; subst eo97; have hnb98 := NB205_194.out; have hnc98 := NB194_205.out; have hnb99 := NB205_195.out; have hnc99 := NB195_205.out; obtain ⟨hcz100_0, hcz100_1, hcz100_2, hfz100_0, hfz100_1, hfz100_2⟩ := xT3 (W := w96) BK205.out; obtain ⟨Ao101, co101, eo101⟩ := Kd.R_slice HO203.out; subst eo101; obtain ⟨hcz102_0, hcz102_1, hcz102_2, hfz102_0, hfz102_1, hfz102_2⟩ := xT3 (W := w96) BK194.out) | ((with_reducible refine gate_callee (f := 58) rfl ?_); refine xG (some 29) 58 Try.func58 #[.slice A0_0 l0_0.length c0_0, .string a1] (h := ?_); (with_reducible refine (spec_l04Seek.calls kj3 _ _ l0_0 a1 t206 _ ?side1 ?side2 A24.out).mono ?_); (case side1 => exact Kd.C_below HR0_0.out (xW HB.out)); (case side2 => exact HC0_0.out); rintro e w103 ⟨rfl, hb⟩; refine ⟨_, rfl, ?_⟩; have n0_ := am (Kd.R_below (xR HO200.out) hb); have n1_ := am (Kd.R_below (xR HO203.out) hb); have n2_ := am (blk_below (xB BK194.out) hb); have n3_ := am (blk_below (xB BK195.out) hb); have n4_ := am (blk_below (xP BK205.out) hb); have n5_ := am (below_step (xW HB.out) hb); clear HO200; clear HO203; clear BK194; clear BK195; clear BK205; clear HB; have HO200 := n0_; have HO203 := n1_; have BK194 := n2_; have BK195 := n3_; have BK205 := n4_; have HB := n5_; clear n0_ n1_ n2_ n3_ n4_ n5_; (try clear hb); (try clear hb2); (try clear hk); (try clear hi); obtain ⟨hcz104_0, hcz104_1, hcz104_2, hfz104_0, hfz104_1, hfz104_2⟩ := xT3 (W := w103) BK194.out) | ((with_reducible refine gate_callee (f := 58) rfl ?_); refine xG (some 42) 58 Try.func58 #[.slice A0_1 l0_1.length c0_1, .string a1] (h := ?_); (with_reducible refine (spec_l04Seek.calls kj3 _ _ l0_1 a1 t208 _ ?side1 ?side2 A45.out).mono ?_); (case side1 => exact xC (Kd.C_below HR0_1.out HB.out)); (case side2 => exact HC0_1.out); rintro e w105 ⟨rfl, hb⟩; refine ⟨_, rfl, ?_⟩; have n0_ := am (Kd.R_below (xR HO200.out) hb); have n1_ := am (Kd.R_below (xR HO203.out) hb); have n2_ := am (blk_below (xB BK194.out) hb); have n3_ := am (blk_below (xB BK195.out) hb); have n4_ := am (blk_below (xB BK205.out) hb); have n5_ := am (below_step (xW HB.out) hb); clear HO200; clear HO203; clear BK194; clear BK195; clear BK205; clear HB; have HO200 := n0_; have HO203 := n1_; have BK194 := n2_; have BK195 := n3_; have BK205 := n4_; have HB := n5_; clear n0_ n1_ n2_ n3_ n4_ n5_; (try clear hb); (try clear hb2); (try clear hk); (try clear hi); obtain ⟨hcz106_0, hcz106_1, hcz106_2, hfz106_0, hfz106_1, hfz106_2⟩ := xT3 (W := w105) BK205.out) | ((with_reducible refine gate_callee (f := 73) rfl ?_); refine xG (some 54) 73 Try.func73 #[.slice Ao97 t198.length co97, .string a1, .int .i64 a2] (h := ?_); (with_reducible refine (spec_l04Put.calls kj3 (fun k_ => some k_ = (.slice Ao97 t198.length co97 : Value).ownBlock) (.slice Ao97 t198.length co97) t198 a1 a2 true t213 w _ ?side1 ?side2 A91.out).mono ?_); (case side1 => repeat (first | (with_reducible first | exact HB.out | apply below_alloc | apply pw_below_drewN | apply below_drew1 | refine below_set ?_ GE194.out | refine below_set ?_ GE195.out | refine below_set ?_ GE205.out) | exact HB.out)); (case side2 => exact Kd.R_tight rfl HO200.out); rintro e w107 ⟨rfl, hy0, hb, hkp⟩; refine ⟨_, rfl, ?_⟩; have n0_ := am (blk_kept (xB BK194.out) hkp (fun hs_ => (fun e_ => (Kd.R_ne HO200.out BK194.out (by decide)) e_) hs_)); have n1_ := am (blk_kept (xB BK195.out) hkp (fun hs_ => (fun e_ => (Kd.R_ne HO200.out BK195.out (by decide)) e_) hs_)); have n2_ := am (Kd.R_reok rfl hy0 (fun k_ e_ => HO200.out.1 k_ e_)); have n3_ := am (Kd.R_mono (ok' := fun k_ => some k_ ≠ (.slice Ao97 t198.length co97 : Value).ownBlock) (Kd.R_keptB (HO203.out) hkp (fun k_ hk_ hs_ => (hk_) hs_)) (fun k_ hk_ => hk_.1)); have n4_ := am (blk_kept (xB BK205.out) hkp (fun hs_ => (fun e_ => (Kd.R_ne HO200.out BK205.out (by decide)) e_) hs_)); have n5_ := am (hb); clear BK194; clear BK195; clear HO200; clear HO203; clear BK205; clear HB; have BK194 := n0_; have BK195 := n1_; have HO200 := n2_; have HO203 := n3_; have BK205 := n4_; have HB := n5_; clear n0_ n1_ n2_ n3_ n4_ n5_; (try clear hb); (try clear hkp); (try clear hy0); obtain ⟨hcz108_0, hcz108_1, hcz108_2, hfz108_0, hfz108_1, hfz108_2⟩ := xT3 (W := w107) BK205.out; obtain ⟨hcz109_0, hcz109_1, hcz109_2, hfz109_0, hfz109_1, hfz109_2⟩ := xT3 (W := w107) BK195.out))
       refine bodyPost_ret (results_ct rfl _ _ gb195 26 #[.slice Ao97 t198.length co97, .slice Ao101 t201.length co101, .int .i64 t204] (0, 0) _ rfl (xP BK195.out) Try.underlying26 rfl (by kernel_rfl)) rfl ?_
       exact ⟨_, _, xV, xR HO200.out, xR HO203.out, xW HB.out⟩
      ·replace c92 := Bool.eq_false_iff.mpr c92
       subst c92
       have H1 : (some (([] : List (S57)), ([] : List (S57)), 0, false)) = some (r1, r2, r3, r4) := by rw [if_neg (show ¬ (false = true) by decide)] at H; exact H
       clear H
       have H := H1
       clear H1
       simp only [Option.some.injEq, Prod.mk.injEq] at H
       obtain ⟨rfl, rfl, rfl, rfl⟩ := H
       have hnb110 := NB194_195.out
       have hnc110 := NB195_194.out
       obtain ⟨hcz111_0, hcz111_1, hcz111_2, hfz111_0, hfz111_1, hfz111_2⟩ := xT3 (W := wc) BK194.out
       go_wp2_with (first | ((with_reducible refine gate_callee (f := 69) rfl ?_); refine xG (some 25) 69 Try.func69 #[.agg #[.slice A0_0 l0_0.length c0_0, .slice A0_1 l0_1.length c0_1, .int .i64 a0_2]] (h := ?_); (with_reducible refine (spec_l04Copy.calls _ _ l0_0 _ _ l0_1 a0_2 t198 t201 t204 _ ?side1 ?side2 ?side3 ?side4 A23.out).mono ?_); (case side1 => exact xC (Kd.C_below HR0_0.out HB.out)); (case side2 => exact HC0_0.out); (case side3 => exact xC (Kd.C_below HR0_1.out HB.out)); (case side4 => exact HC0_1.out); rintro e w112 ⟨v199, v202, rfl, ho0, ho1, hb⟩; refine ⟨_, rfl, ?_⟩; have n0_ := am (Kd.R_lower ho0 (below_size (xW HB.out))); have n1_ := am (Kd.R_lower ho1 (below_size (xW HB.out))); have n2_ := am (blk_below (xB BK194.out) hb); have n3_ := am (blk_below (xB BK195.out) hb); have n4_ := am (below_step (xW HB.out) hb); clear BK194; clear BK195; clear HB; have HO200 := n0_; have HO203 := n1_; have BK194 := n2_; have BK195 := n3_; have HB := n4_; clear n0_ n1_ n2_ n3_ n4_; (try clear hb); (try clear hb2); (try clear hk); (try clear hi); (try clear ho0); (try clear ho1)) | ((with_reducible refine gate_dst (N := 8) rfl ?_); (try (refine gate_guard (by rfl) ?_; dsimp only)); refine xE (N := 8) (cs := #[.slice none 0 0, .slice none 0 0, .int .i64 0]) (t := 26) (h := ?_); intro gb205 hg w113 hbox hb; have n0_ := am (Kd.R_below (xR HO200.out) hb); have n1_ := am (Kd.R_below (xR HO203.out) hb); have n2_ := am (blk_below (xB BK194.out) hb); have n3_ := am (blk_below (xB BK195.out) hb); have n4_ := am (below_step (xW HB.out) hb); have n5_ := am (hbox); have n6_ := am (xS hg HB.out); have n7_ := am (xS hg HB.out); have n8_ := am (xN hg BK194.out); have n9_ := am (xM hg BK194.out); have n10_ := am (xN hg BK195.out); have n11_ := am (xM hg BK195.out); clear HO200; clear HO203; clear BK194; clear BK195; clear HB; have HO200 := n0_; have HO203 := n1_; have BK194 := n2_; have BK195 := n3_; have HB := n4_; have BK205 := n5_; have GW205 := n6_; have GE205 := n7_; have NB194_205 := n8_; have NB205_194 := n9_; have NB195_205 := n10_; have NB205_195 := n11_; clear n0_ n1_ n2_ n3_ n4_ n5_ n6_ n7_ n8_ n9_ n10_ n11_; clear hb hbox hg; obtain ⟨Ao114, co114, eo114⟩ := Kd.R_slice HO200.out; subst eo114; have hnb115 := NB205_194.out; have hnc115 := NB194_205.out; have hnb116 := NB205_195.out; have hnc116 := NB195_205.out; obtain ⟨hcz117_0, hcz117_1, hcz117_2, hfz117_0, hfz117_1, hfz117_2⟩ := xT3 (W := w113) BK205.out; obtain ⟨Ao118, co118, eo118⟩ := Kd.R_slice HO203.out; subst eo118; obtain ⟨hcz119_0, hcz119_1, hcz119_2, hfz119_0, hfz119_1, hfz119_2⟩ := xT3 (W := w113) BK194.out) | ((with_reducible refine gate_callee (f := 58) rfl ?_); refine xG (some 29) 58 Try.func58 #[.slice A0_0 l0_0.length c0_0, .string a1] (h := ?_); (with_reducible refine (spec_l04Seek.calls kj3 _ _ l0_0 a1 t206 _ ?side1 ?side2 A24.out).mono ?_); (case side1 => exact Kd.C_below HR0_0.out (xW HB.out)); (case side2 => exact HC0_0.out); rintro e w120 ⟨rfl, hb⟩; refine ⟨_, rfl, ?_⟩; have n0_ := am (Kd.R_below (xR HO200.out) hb); have n1_ := am (Kd.R_below (xR HO203.out) hb); have n2_ := am (blk_below (xB BK194.out) hb); have n3_ := am (blk_below (xB BK195.out) hb); have n4_ := am (blk_below (xP BK205.out) hb); have n5_ := am (below_step (xW HB.out) hb); clear HO200; clear HO203; clear BK194; clear BK195; clear BK205; clear HB; have HO200 := n0_; have HO203 := n1_; have BK194 := n2_; have BK195 := n3_; have BK205 := n4_; have HB := n5_; clear n0_ n1_ n2_ n3_ n4_ n5_; (try clear hb); (try clear hb2); (try clear hk); (try clear hi); obtain ⟨hcz121_0, hcz121_1, hcz121_2, hfz121_0, hfz121_1, hfz121_2⟩ := xT3 (W := w120) BK194.out) | ((with_reducible refine gate_callee (f := 58) rfl ?_); refine xG (some 42) 58 Try.func58 #[.slice A0_1 l0_1.length c0_1, .string a1] (h := ?_); (with_reducible refine (spec_l04Seek.calls kj3 _ _ l0_1 a1 t208 _ ?side1 ?side2 A45.out).mono ?_); (case side1 => exact xC (Kd.C_below HR0_1.out HB.out)); (case side2 => exact HC0_1.out); rintro e w122 ⟨rfl, hb⟩; refine ⟨_, rfl, ?_⟩; have n0_ := am (Kd.R_below (xR HO200.out) hb); have n1_ := am (Kd.R_below (xR HO203.out) hb); have n2_ := am (blk_below (xB BK194.out) hb); have n3_ := am (blk_below (xB BK195.out) hb); have n4_ := am (blk_below (xB BK205.out) hb); have n5_ := am (below_step (xW HB.out) hb); clear HO200; clear HO203; clear BK194; clear BK195; clear BK205; clear HB; have HO200 := n0_; have HO203 := n1_; have BK194 := n2_; have BK195 := n3_; have BK205 := n4_; have HB := n5_; clear n0_ n1_ n2_ n3_ n4_ n5_; (try clear hb); (try clear hb2); (try clear hk); (try clear hi); obtain ⟨hcz123_0, hcz123_1, hcz123_2, hfz123_0, hfz123_1, hfz123_2⟩ := xT3 (W := w122) BK205.out) | ((with_reducible refine gate_callee (f := 73) rfl ?_); refine xG (some 54) 73 Try.func73 #[.slice Ao114 t198.length co114, .string a1, .int .i64 a2] (h := ?_); (with_reducible refine (spec_l04Put.calls kj3 (fun k_ => some k_ = (.slice Ao114 t198.length co114 : Value).ownBlock) (.slice Ao114 t198.length co114) t198 a1 a2 false t213 w _ ?side1 ?side2 A91.out).mono ?_); (case side1 => repeat (first | (with_reducible first | exact HB.out | apply below_alloc | apply pw_below_drewN | apply below_drew1 | refine below_set ?_ GE194.out | refine below_set ?_ GE195.out | refine below_set ?_ GE205.out) | exact HB.out)); (case side2 => exact Kd.R_tight rfl HO200.out); rintro e w124 ⟨rfl, hy0, hb, hkp⟩; refine ⟨_, rfl, ?_⟩; have n0_ := am (blk_kept (xB BK194.out) hkp (fun hs_ => (fun e_ => (Kd.R_ne HO200.out BK194.out (by decide)) e_) hs_)); have n1_ := am (blk_kept (xB BK195.out) hkp (fun hs_ => (fun e_ => (Kd.R_ne HO200.out BK195.out (by decide)) e_) hs_)); have n2_ := am (Kd.R_reok rfl hy0 (fun k_ e_ => HO200.out.1 k_ e_)); have n3_ := am (Kd.R_mono (ok' := fun k_ => some k_ ≠ (.slice Ao114 t198.length co114 : Value).ownBlock) (Kd.R_keptB (HO203.out) hkp (fun k_ hk_ hs_ => (hk_) hs_)) (fun k_ hk_ => hk_.1)); have n4_ := am (blk_kept (xB BK205.out) hkp (fun hs_ => (fun e_ => (Kd.R_ne HO200.out BK205.out (by decide)) e_) hs_)); have n5_ := am (hb); clear BK194; clear BK195; clear HO200; clear HO203; clear BK205; clear HB; have BK194 := n0_; have BK195 := n1_; have HO200 := n2_; have HO203 := n3_; have BK205 := n4_; have HB := n5_; clear n0_ n1_ n2_ n3_ n4_ n5_; (try clear hb); (try clear hkp); (try clear hy0); obtain ⟨hcz125_0, hcz125_1, hcz125_2, hfz125_0, hfz125_1, hfz125_2⟩ := xT3 (W := w124) BK195.out))
       refine bodyPost_ret (results_ct rfl _ _ gb195 26 #[.slice none 0 0, .slice none 0 0, .int .i64 0] (0, 0) _ rfl (xP BK195.out) Try.underlying26 rfl (by kernel_rfl)) rfl ?_
       exact ⟨_, _, xV, by first | exact Kd.R_nil _ _ _ _ _ | exact Kd.N_nil _ _ _ _ _ | exact Kd.V_nil _ _ _ _ _ | exact Kd.Q_nil _ _ _ _ _ | exact Kd.S_nil _ _ _ _ _, by first | exact Kd.R_nil _ _ _ _ _ | exact Kd.N_nil _ _ _ _ _ | exact Kd.V_nil _ _ _ _ _ | exact Kd.Q_nil _ _ _ _ _ | exact Kd.S_nil _ _ _ _ _, xW HB.out⟩
def impl_isSize.f (a0 : Int) : Option (Bool) := if a0 = 4 then (some true) else (if a0 = 8 then (some true) else (if a0 = 16 then (some true) else (if a0 = 32 then (some true) else (if a0 = 64 then (some true) else (some false)))))
set_option maxHeartbeats 8000000 in
set_option maxRecDepth 100000 in
theorem impl_isSize.calls (a0 : Int) (r : Bool) (w : World) (h : impl_isSize.f a0 = some r) :
  Calls Try.prog 51 #[.int .i64 a0] w fun e w' => e = .returned (.bool r) ∧ Drawn0 w w' := by
 have H : (if a0 = 4 then (some true) else (if a0 = 8 then (some true) else (if a0 = 16 then (some true) else (if a0 = 32 then (some true) else (if a0 = 64 then (some true) else (some false)))))) = some r := h
 clear h
 by_cases c2 : a0 = 4
 ·rw [if_pos c2] at H
  have c2b0 : (a0 == 4) = true := beq_iff_eq.mpr c2
  have c2b1 : (a0 != 4) = false := bne_eq_false_iff_eq.mpr c2
  clear c2
  obtain rfl := Option.some.inj H
  go_enter Try.func51, Try.ntmps51
  go_wp2
  go_ret
  exact ⟨by first | rfl | (simp; done) | (simp [*]; done), by repeat (first | exact Drawn0.refl _ | apply Drawn0.step)⟩
 ·rw [if_neg c2] at H
  have c2b0 : (a0 == 4) = false := beq_eq_false_iff_ne.mpr c2
  have c2b1 : (a0 != 4) = true := bne_iff_ne.mpr c2
  by_cases c3 : a0 = 8
  ·rw [if_pos c3] at H
   have c3b0 : (a0 == 8) = true := beq_iff_eq.mpr c3
   have c3b1 : (a0 != 8) = false := bne_eq_false_iff_eq.mpr c3
   clear c3
   obtain rfl := Option.some.inj H
   go_enter Try.func51, Try.ntmps51
   go_wp2
   go_ret
   exact ⟨by first | rfl | (simp; done) | (simp [*]; done), by repeat (first | exact Drawn0.refl _ | apply Drawn0.step)⟩
  ·rw [if_neg c3] at H
   have c3b0 : (a0 == 8) = false := beq_eq_false_iff_ne.mpr c3
   have c3b1 : (a0 != 8) = true := bne_iff_ne.mpr c3
   by_cases c4 : a0 = 16
   ·rw [if_pos c4] at H
    have c4b0 : (a0 == 16) = true := beq_iff_eq.mpr c4
    have c4b1 : (a0 != 16) = false := bne_eq_false_iff_eq.mpr c4
    clear c4
    obtain rfl := Option.some.inj H
    go_enter Try.func51, Try.ntmps51
    go_wp2
    go_ret
    exact ⟨by first | rfl | (simp; done) | (simp [*]; done), by repeat (first | exact Drawn0.refl _ | apply Drawn0.step)⟩
   ·rw [if_neg c4] at H
    have c4b0 : (a0 == 16) = false := beq_eq_false_iff_ne.mpr c4
    have c4b1 : (a0 != 16) = true := bne_iff_ne.mpr c4
    by_cases c5 : a0 = 32
    ·rw [if_pos c5] at H
     have c5b0 : (a0 == 32) = true := beq_iff_eq.mpr c5
     have c5b1 : (a0 != 32) = false := bne_eq_false_iff_eq.mpr c5
     clear c5
     obtain rfl := Option.some.inj H
     go_enter Try.func51, Try.ntmps51
     go_wp2
     go_ret
     exact ⟨by first | rfl | (simp; done) | (simp [*]; done), by repeat (first | exact Drawn0.refl _ | apply Drawn0.step)⟩
    ·rw [if_neg c5] at H
     have c5b0 : (a0 == 32) = false := beq_eq_false_iff_ne.mpr c5
     have c5b1 : (a0 != 32) = true := bne_iff_ne.mpr c5
     by_cases c6 : a0 = 64
     ·rw [if_pos c6] at H
      have c6b0 : (a0 == 64) = true := beq_iff_eq.mpr c6
      have c6b1 : (a0 != 64) = false := bne_eq_false_iff_eq.mpr c6
      clear c6
      obtain rfl := Option.some.inj H
      go_enter Try.func51, Try.ntmps51
      go_wp2
      go_ret
      exact ⟨by first | rfl | (simp; done) | (simp [*]; done), by repeat (first | exact Drawn0.refl _ | apply Drawn0.step)⟩
     ·rw [if_neg c6] at H
      have c6b0 : (a0 == 64) = false := beq_eq_false_iff_ne.mpr c6
      have c6b1 : (a0 != 64) = true := bne_iff_ne.mpr c6
      obtain rfl := Option.some.inj H
      go_enter Try.func51, Try.ntmps51
      go_wp2
      go_ret
      exact ⟨by first | rfl | (simp; done) | (simp [*]; done), by repeat (first | exact Drawn0.refl _ | apply Drawn0.step)⟩
def impl_inRange.f (a0 : Int) (a1 : Int) (a2 : Int) : Option (Bool) := if a0 ≥ a1 then (some (decide (a0 ≤ a2))) else (some false)
set_option maxHeartbeats 8000000 in
set_option maxRecDepth 100000 in
theorem impl_inRange.calls (a0 : Int) (a1 : Int) (a2 : Int) (r : Bool) (w : World) (h : impl_inRange.f a0 a1 a2 = some r) :
  Calls Try.prog 52 #[.int .i64 a0, .int .i64 a1, .int .i64 a2] w fun e w' => e = .returned (.bool r) ∧ Drawn0 w w' := by
 have H : (if a0 ≥ a1 then (some (decide (a0 ≤ a2))) else (some false)) = some r := h
 clear h
 by_cases c4 : a0 ≥ a1
 ·rw [if_pos c4] at H
  have c4b0 : decide (a1 ≤ a0) = true := decide_eq_true c4
  clear c4
  obtain rfl := Option.some.inj H
  go_enter Try.func52, Try.ntmps52
  go_wp2
  go_ret
  exact ⟨by first | rfl | (simp; done) | (simp [*]; done), by repeat (first | exact Drawn0.refl _ | apply Drawn0.step)⟩
 ·rw [if_neg c4] at H
  have c4b0 : decide (a1 ≤ a0) = false := decide_eq_false c4
  clear c4
  obtain rfl := Option.some.inj H
  go_enter Try.func52, Try.ntmps52
  go_wp2
  go_ret
  exact ⟨by first | rfl | (simp; done) | (simp [*]; done), by repeat (first | exact Drawn0.refl _ | apply Drawn0.step)⟩
def impl_Cell_91.f (l0 : List (S57)) (a1 : Int) : Option (List (S57)) := if l0.length = 0 then (if 0 ≤ a1 then (if a1.toNat ≤ 5864062014805 then some [] else none) else none) else none
theorem impl_Cell_91.calls (A0 : Option Addr) (c0 : Nat) (l0 : List (S57)) (a1 : Int) (r : List (S57)) (w : World) (hr0 : Kd.C k57 w A0 l0.length l0) (hc0 : l0.length ≤ c0) (h : impl_Cell_91.f l0 a1 = some r) (hn : A0 = none ∧ c0 = 0 := by exact ⟨rfl, rfl⟩) :
  Calls Try.prog 91 #[.slice A0 l0.length c0, .int .i64 a1] w fun e w' => ∃ v0_ : Value, e = .returned (v0_) ∧ Kd.R k57 57 w' w.heap.size (fun _ => True) v0_ r ∧ Below w.heap.size w w' := by
 obtain ⟨rfl, rfl⟩ := hn
 unfold impl_Cell_91.f at h
 by_cases h1 : l0.length = 0
 ·rw [if_pos h1] at h
  by_cases h2 : 0 ≤ a1
  ·rw [if_pos h2] at h
   by_cases h3 : a1.toNat ≤ 5864062014805
   ·rw [if_pos h3] at h
    obtain rfl := Option.some.inj h
    obtain ⟨n, rfl⟩ := Int.eq_ofNat_of_zero_le h2
    simp only [Int.toNat_natCast] at h3
    rw [h1]
    by_cases h4 : n = 0
    ·subst h4
     refine (Try.grow_cells_room none 0 0 0 w (Nat.le_refl _) (Nat.zero_le _) (Nat.zero_le _) (Nat.le_refl _)).mono ?_
     rintro e w' ⟨rfl, rfl⟩
     exact ⟨_, rfl, Kd.R_nil _ _ _ _ _, Below.refl _ _⟩
    ·obtain ⟨i0, hi, hzz⟩ := Option.map_eq_some_iff.1 info57
     simp only [Prod.mk.injEq] at hzz
     obtain ⟨hz0, hz1, hz2⟩ := hzz
     refine (Try.grow_cells i0 (.agg #[(.string ⟨#[]⟩), (.int .i64 0)]) hi hz0 (by rw [hz1]; decide) none 0 0 n [] w (Nat.le_refl _) (by omega) (by rw [hz2]; omega) (by omega) (by simp) (fun _ => rfl) (fun a ha => by cases ha)).mono ?_
     rintro e w' ⟨rfl, rfl⟩
     have hge := grownCap_ge w (0 + n) 0 57
     have hle := grownCap_le_maxLen w (0 + n) 0 57 (by unfold maxLen; omega)
     generalize grownCap w (0 + n) 0 57 = cap at hge hle
     refine ⟨_, rfl, ⟨fun _ _ => trivial, [], World.ownsRow_made w.drew _ cap (Nat.le_refl _) hle ?_, Reps.none _ _⟩, (below_drew (Below.refl _ _)).alloc (Nat.le_refl _) _⟩
     have hsz : ∀ m, (Builtin.zeroCells ((.agg #[(.string ⟨#[]⟩), (.int .i64 0)]) : Value).cells m).size = m * 2 := fun m => by
      have hc : ((.agg #[(.string ⟨#[]⟩), (.int .i64 0)]) : Value).cells.size = 2 := rfl
      simp [Builtin.zeroCells, hc]
     simp only [Array.size_append, List.size_toArray, List.length_nil, hsz]
     show 0 + (0 + n - 0) * 2 + (cap - (0 + n)) * 2 = cap * 2
     omega
   ·rw [if_neg h3] at h; cases h
  ·rw [if_neg h2] at h; cases h
 ·rw [if_neg h1] at h; cases h
mutual
def impl_Cell_83.l0 : Nat → List (List (S57)) → Int → List (List (S57)) → Int → Int → Option ((List (S57)))
 | 0, _, _, _, _, _ => none
 | k + 1, x0, x3, x9, x10, x11 => if x11 < x10 then (if 0 ≤ x11 then (if x11 < (x9.length : Int) then (if (wrap64 (x3 + ((rd_L5 x9 x11).length : Int))) < 0 then (none) else (impl_Cell_83.l0 k x0 (wrap64 (x3 + ((rd_L5 x9 x11).length : Int))) x9 x10 (wrap64 (x11 + 1)))) else (none)) else (none)) else ((impl_Cell_91.f ([] : List (S57)) x3).bind fun t215 => (impl_Cell_83.l1 k t215 x0 (x0.length : Int) 0))
def impl_Cell_83.l1 : Nat → List (S57) → List (List (S57)) → Int → Int → Option ((List (S57)))
 | 0, _, _, _, _ => none
 | k + 1, x6, x25, x26, x27 => if x27 < x26 then (if 0 ≤ x27 then (if x27 < (x25.length : Int) then (if x6.length + (rd_L5 x25 x27).length < 5864062014805 then (impl_Cell_83.l1 k (x6 ++ (rd_L5 x25 x27)) x25 x26 (wrap64 (x27 + 1))) else (none)) else (none)) else (none)) else (some x6)
end
def impl_Cell_83.f (k : Nat) (l0 : List (List (S57))) : Option ((List (S57))) := impl_Cell_83.l0 k l0 0 l0 (l0.length : Int) 0
set_option maxHeartbeats 8000000 in
set_option maxRecDepth 100000 in
theorem impl_Cell_83.calls (k : Nat) (A0 : Option Addr) (c0 : Nat) (l0 : List (List (S57))) (r : List (S57)) (w : World) (hr0 : Kd.C (Kd.slice 57 k57) w A0 l0.length l0) (hc0 : l0.length ≤ c0) (h : impl_Cell_83.f k l0 = some r) :
  Calls Try.prog 83 #[.slice A0 l0.length c0] w fun e w' => ∃ v0_ : Value, e = .returned (v0_) ∧ Kd.R k57 57 w' w.heap.size (fun _ => True) v0_ r ∧ Below w.heap.size w w' := by
 have HR0 := am hr0
 have HC0 := am hc0
 clear hr0 hc0
 have HB := am (Below.refl w.heap.size w)
 have H : (impl_Cell_83.l0 k l0 0 l0 (l0.length : Int) 0) = some r := h
 clear h
 have H' := am H
 clear H
 go_enter Try.func83, Try.ntmps83
 go_wp2
 go_loopg [3, 11] k (fun kq v3 v11 w' => ∃ (x3_1 : Int) (x11_1 : Int), v3 = .int .i64 x3_1 ∧ v11 = .int .i64 x11_1 ∧ Aside0 (impl_Cell_83.l0 kq l0 x3_1 l0 (l0.length : Int) x11_1 = some r) ∧ Aside0 (kq ≤ k) ∧ Aside0 (Below w.heap.size w w'))
 case atStart => exact ⟨(0), (0), (by first | rfl | (simp; done) | (simp [*]; done)), (xQ), H', ⟨Nat.le_refl _⟩, ⟨xW HB.out⟩⟩
 case round =>
  clear H'
  obtain ⟨x3_1, x11_1, rfl, rfl, HA, HK1, HB⟩ := hrel
  cases gk with
  | zero => exact absurd HA.out (by simp [impl_Cell_83.l0])
  | succ k1 =>
   have H := HA.out
   clear HA
   simp only [impl_Cell_83.l0] at H
   by_cases c2 : x11_1 < (l0.length : Int)
   ·rw [if_pos c2] at H
    have c2b0 : decide (x11_1 < (l0.length : Int)) = true := decide_eq_true c2
    clear c2
    by_cases c3 : 0 ≤ x11_1
    ·rw [if_pos c3] at H
     have c3b0 : decide (0 ≤ x11_1) = true := decide_eq_true c3
     clear c3
     by_cases c4 : x11_1 < (l0.length : Int)
     ·rw [if_pos c4] at H
      have c4b0 : decide (x11_1 < (l0.length : Int)) = true := decide_eq_true c4
      clear c4
      by_cases c5 : (wrap64 (x3_1 + ((rd_L5 l0 x11_1).length : Int))) < 0
      ·rw [if_pos c5] at H
       exact absurd H (by simp)
      ·rw [if_neg c5] at H
       have c5b0 : decide ((wrap64 (x3_1 + ((rd_L5 l0 x11_1).length : Int))) < 0) = false := decide_eq_false c5
       clear c5
       have H' := am H
       clear H
       have p214 : 0 ≤ (x11_1 : Int) := of_decide_eq_true (by assumption)
       have q214 : x11_1 < (l0.length : Int) := of_decide_eq_true (by assumption)
       obtain ⟨ad214, A214_0, c214_0, e214, hx214_0, hl214_0, hi214_0⟩ := at_L5 HR0.out x11_1 p214 q214
       cases e214
       replace hx214_0 := (HB.out.cell (World.block_lt_of_cell? w _ hx214_0)).trans hx214_0
       have HR214_0 := am hi214_0
       have HC214_0 := am hl214_0
       clear hi214_0 hl214_0
       replace p214 := eq_true p214
       replace q214 := eq_true q214
       go_wp2
       go_roundg k1
       case measure => have := HK1.out; omega
       case rel => exact ⟨(wrap64 (x3_1 + ((rd_L5 l0 x11_1).length : Int))), (wrap64 (x11_1 + 1)), (by first | rfl | (simp; done) | (simp [*]; done)), (xQ), H', ⟨by have := HK1.out; omega⟩, ⟨xW HB.out⟩⟩
     ·rw [if_neg c4] at H
      exact absurd H (by simp)
    ·rw [if_neg c3] at H
     exact absurd H (by simp)
   ·rw [if_neg c2] at H
    have c2b0 : decide (x11_1 < (l0.length : Int)) = false := decide_eq_false c2
    clear c2
    replace H := Option.bind_eq_some_iff.mp H
    obtain ⟨t215, A60, H⟩ := H
    replace H : (impl_Cell_83.l1 k1 t215 l0 (l0.length : Int) 0) = some r := H
    have A6 := am A60
    clear A60
    have H' := am H
    clear H
    go_wp2_with (first | ((with_reducible refine gate_callee (f := 91) rfl ?_); refine xG (some 24) 91 Try.func91 #[.slice none 0 0, .int .i64 x3_1] (h := ?_); (refine (impl_Cell_91.calls _ _ ([] : List (S57)) x3_1 t215 _ ?side1 ?side2 A6.out).mono ?_); (case side1 => exact Kd.C_nil _ _); (case side2 => exact Nat.le_refl _); rintro e w7 ⟨v216, rfl, ho0, hb⟩; refine ⟨_, rfl, ?_⟩; have n0_ := am (Kd.R_lower ho0 (below_size (xW HB.out))); have n1_ := am (below_step (xW HB.out) hb); clear HB; have HO217 := n0_; have HB := n1_; clear n0_ n1_; (try clear hb); (try clear hb2); (try clear hk); (try clear hi); (try clear ho0)))
    go_loopg [6, 27] k1 (fun kq v6 v27 w' => ∃ (x6_2 : List (S57)) (x27_2 : Int), v27 = .int .i64 x27_2 ∧ Aside0 (impl_Cell_83.l1 kq x6_2 l0 (l0.length : Int) x27_2 = some r) ∧ Aside0 (kq ≤ k1) ∧ Aside0 (Kd.R k57 57 w' w.heap.size (fun _ => True) v6 x6_2) ∧ Aside0 (Below w.heap.size w w'))
    case atStart => exact ⟨(t215), (0), (xQ), H', ⟨Nat.le_refl _⟩, ⟨xR HO217.out⟩, ⟨xW HB.out⟩⟩
    case round =>
     clear H'
     try clear c2
     try clear c2b0
     try clear p2
     try clear q2
     try clear hx2
     try clear c3
     try clear c3b0
     try clear c4
     try clear c4b0
     try clear c5
     try clear c5b0
     try clear p6
     try clear hx214_0
     try clear p214
     try clear q214
     obtain ⟨x6_2, x27_2, rfl, HA, HK2, HO_6, HB⟩ := hrel
     cases gk with
     | zero => exact absurd HA.out (by simp [impl_Cell_83.l1])
     | succ k2 =>
      have H := HA.out
      clear HA
      simp only [impl_Cell_83.l1] at H
      by_cases c8 : x27_2 < (l0.length : Int)
      ·rw [if_pos c8] at H
       have c8b0 : decide (x27_2 < (l0.length : Int)) = true := decide_eq_true c8
       clear c8
       by_cases c9 : 0 ≤ x27_2
       ·rw [if_pos c9] at H
        have c9b0 : decide (0 ≤ x27_2) = true := decide_eq_true c9
        clear c9
        by_cases c10 : x27_2 < (l0.length : Int)
        ·rw [if_pos c10] at H
         have c10b0 : decide (x27_2 < (l0.length : Int)) = true := decide_eq_true c10
         clear c10
         by_cases c11 : x6_2.length + (rd_L5 l0 x27_2).length < 5864062014805
         ·rw [if_pos c11] at H
          have LMc11 := am c11
          clear c11
          obtain ⟨y219, hy219⟩ : ∃ y_ : List (S57), y_ = (x6_2 ++ (rd_L5 l0 x27_2)) := ⟨_, rfl⟩
          replace H : (impl_Cell_83.l1 k2 y219 l0 (l0.length : Int) (wrap64 (x27_2 + 1))) = some r := by first | (rw [hy219]; with_reducible exact H) | (have H2_ := (Option.bind_some _ _).symm.trans H; rw [hy219]; with_reducible exact H2_) | (have H2_ := (Option.bind_some _ _).symm.trans H; with_reducible exact H2_) | with_reducible exact H | (rw [hy219]; exact H) | exact H
          have Ny219 := am hy219
          clear hy219
          have H' := am H
          clear H
          have p218 : 0 ≤ (x27_2 : Int) := of_decide_eq_true (by assumption)
          have q218 : x27_2 < (l0.length : Int) := of_decide_eq_true (by assumption)
          obtain ⟨ad218, A218_0, c218_0, e218, hx218_0, hl218_0, hi218_0⟩ := at_L5 HR0.out x27_2 p218 q218
          cases e218
          replace hx218_0 := (HB.out.cell (World.block_lt_of_cell? w _ hx218_0)).trans hx218_0
          have HR218_0 := am hi218_0
          have HC218_0 := am hl218_0
          clear hi218_0 hl218_0
          replace p218 := eq_true p218
          replace q218 := eq_true q218
          go_wp2_with (first | ((with_reducible refine gate_builtin (b := .append) (xs := #[.tmp 31, .tmp 32]) rfl ?_); at_builtin; refine Kd.R_append_rows k57 (w0 := w) w.heap.size rfl (.tmp 31) (.tmp 32) 24 57 (.agg #[(.string ⟨#[]⟩), (.int .i64 0)]) 24 rfl Try.underlying24 info57 rfl (by decide) (by omega) u6 x6_2 (rd_L5 l0 x27_2) _ _ _ (fun _ => True) (fun _ => False) rfl rfl ?aO ?aR (fun _ _ h => h) (fun _ h => h.elim) ?aF ?aB ?aS ?aL ?_; (case aR => repeat (first | exact (Kd.C_below HR218_0.out HB.out) | (with_reducible refine Kd.C_alloc ?_ _) | (with_reducible refine Kd.C_drewN ?_ _) | (with_reducible refine Kd.C_drew ?_))); (case aB => exact (xW HB.out)); (case aF => exact (fun _ _ => trivial)); (case aO => exact (xR HO_6.out)); (case aS => exact (below_size (xW HB.out))); (case aL => have := LMc11.out; omega); intro v220 w12 ho hb hg hat; rw [← Ny219.out] at ho; have n0_ := am (hb); have n1_ := am (ho); clear HB; clear HO_6; have HB := n0_; have HO221 := n1_; clear n0_ n1_; clear ho hb hg hat))
          go_roundg k2
          case measure => have := HK1.out; have := HK2.out; omega
          case rel => exact ⟨(y219), (wrap64 (x27_2 + 1)), (xQ), H', ⟨by have := HK1.out; have := HK2.out; omega⟩, ⟨xR HO221.out⟩, ⟨xW HB.out⟩⟩
         ·rw [if_neg c11] at H
          exact absurd H (by simp)
        ·rw [if_neg c10] at H
         exact absurd H (by simp)
       ·rw [if_neg c9] at H
        exact absurd H (by simp)
      ·rw [if_neg c8] at H
       have c8b0 : decide (x27_2 < (l0.length : Int)) = false := decide_eq_false c8
       clear c8
       obtain rfl := Option.some.inj H
       go_wp2
       go_ret
       exact ⟨_, xV, xR HO_6.out, xW HB.out⟩
def slices_Sort_string_string.f (l0 : List ByteArray) : Option (List ByteArray) := if l0.length < 4611686018427387904 then some (sortB l0) else none
theorem slices_Sort_string_string.calls (P0_ : Nat → Prop) (u9000_ : Value) (l0 : List ByteArray) (r : List ByteArray) (w0 w : World) (hB : Below w0.heap.size w0 w) (ho0 : Kd.R Kd.string 9 w w0.heap.size P0_ u9000_ l0) (h : slices_Sort_string_string.f l0 = some r) :
  Calls Try.prog 84 #[u9000_] w fun e w' => e = .returned (.tuple #[]) ∧ Kd.R Kd.string 9 w' w0.heap.size (fun k_ => (P0_ k_ ∨ w.heap.size ≤ k_)) u9000_ r ∧ Below w0.heap.size w0 w' ∧ Kept w w' (fun k_ => P0_ k_) := by
 unfold slices_Sort_string_string.f at h
 by_cases hs : l0.length < 4611686018427387904
 ·rw [if_pos hs] at h
  obtain rfl := Option.some.inj h
  exact Kd.sort_calls Try.slices_Sort_string Try.slices_Sort_string_none 9 P0_ u9000_ l0 w0 w hB ho0 hs
 ·rw [if_neg hs] at h
  cases h
def impl_Table_keys.l0 : Nat → List ByteArray → List (S57) → Int → Int → Option (List ByteArray)
 | 0, _, _, _, _ => none
 | k + 1, x3, x11, x12, x13 => if x13 < x12 then (if 0 ≤ x13 then (if x13 < (x11.length : Int) then (if ((rd_T57 x11 x13).f0).toList = ([] : List UInt8) then (impl_Table_keys.l0 k x3 x11 x12 (wrap64 (x13 + 1))) else (if x3.length < 8796093022208 then (impl_Table_keys.l0 k (x3 ++ [(rd_T57 x11 x13).f0]) x11 x12 (wrap64 (x13 + 1))) else (none))) else (none)) else (none)) else ((slices_Sort_string_string.f x3).bind fun t234 => (some t234))
def impl_Table_keys.f (k : Nat) (l0_0 : List (S57)) (l0_1 : List (S57)) (a0_2 : Int) : Option (List ByteArray) := (impl_Cell_83.f k (([l0_0, l0_1] : List (List (S57))))).bind fun t226 => (impl_Table_keys.l0 k ([] : List ByteArray) t226 (t226.length : Int) 0)
set_option maxHeartbeats 8000000 in
set_option maxRecDepth 100000 in
theorem impl_Table_keys.calls (k : Nat) (P0_0_ : Nat → Prop) (A0_0 : Option Addr) (c0_0 : Nat) (l0_0 : List (S57)) (P0_1_ : Nat → Prop) (A0_1 : Option Addr) (c0_1 : Nat) (l0_1 : List (S57)) (a0_2 : Int) (r : List ByteArray) (w : World) (hs0_0 : Kd.V k57 57 w w.heap.size (fun k_ => P0_0_ k_) (.slice A0_0 l0_0.length c0_0) l0_0) (hs0_1 : Kd.V k57 57 w w.heap.size (fun k_ => P0_1_ k_) (.slice A0_1 l0_1.length c0_1) l0_1) (h : impl_Table_keys.f k l0_0 l0_1 a0_2 = some r) :
  Calls Try.prog 53 #[.agg #[.slice A0_0 l0_0.length c0_0, .slice A0_1 l0_1.length c0_1, .int .i64 a0_2]] w fun e w' => ∃ v0_ : Value, e = .returned (v0_) ∧ Kd.R Kd.string 9 w' w.heap.size (fun k_ => (w.heap.size ≤ k_)) v0_ r ∧ Below w.heap.size w w' := by
 have hu26 := Try.underlying26
 have hu57 := Try.underlying57
 have HO0_0 := am (show Kd.V k57 57 w w.heap.size (fun k_ => ((P0_0_ k_ ∨ P0_1_ k_) ∨ w.heap.size ≤ k_)) (.slice A0_0 l0_0.length c0_0) l0_0 from Kd.V_mono hs0_0 (fun k_ hk => .inl (.inl hk)))
 have HO0_1 := am (show Kd.V k57 57 w w.heap.size (fun k_ => ((P0_0_ k_ ∨ P0_1_ k_) ∨ w.heap.size ≤ k_)) (.slice A0_1 l0_1.length c0_1) l0_1 from Kd.V_mono hs0_1 (fun k_ hk => .inl (.inr hk)))
 have HB := am (Below.refl w.heap.size w)
 have H : ((impl_Cell_83.f k (([l0_0, l0_1] : List (List (S57))))).bind fun t226 => (impl_Table_keys.l0 k ([] : List ByteArray) t226 (t226.length : Int) 0)) = some r := h
 clear h
 obtain ⟨y223, hy223⟩ : ∃ y_ : List (List (S57)), y_ = (([l0_0, l0_1] : List (List (S57)))) := ⟨_, rfl⟩
 replace H : ((impl_Cell_83.f k y223).bind fun t226 => (impl_Table_keys.l0 k ([] : List ByteArray) t226 (t226.length : Int) 0)) = some r := by first | (rw [hy223]; with_reducible exact H) | (have H2_ := (Option.bind_some _ _).symm.trans H; rw [hy223]; with_reducible exact H2_) | (have H2_ := (Option.bind_some _ _).symm.trans H; with_reducible exact H2_) | with_reducible exact H | (rw [hy223]; exact H) | exact H
 have Ny223 := am hy223
 clear hy223
 replace H := Option.bind_eq_some_iff.mp H
 obtain ⟨t226, A20, H⟩ := H
 replace H : (impl_Table_keys.l0 k ([] : List ByteArray) t226 (t226.length : Int) 0) = some r := H
 have A2 := am A20
 clear A20
 have H' := am H
 clear H
 go_enter Try.func53, Try.ntmps53
 go_wp2_with (first | ((with_reducible refine gate_dst (N := 1) rfl ?_); refine xE (N := 1) (cs := #[.slice A0_0 l0_0.length c0_0, .slice A0_1 l0_1.length c0_1, .int .i64 a0_2]) (t := 26) (h := ?_); intro gb222 hg w3 hbox hb; have n0_ := am (Kd.V_below (Kd.V_elderB (by (with_reducible repeat (first | apply Kd.V_alloc | apply Kd.V_drewN | apply Kd.V_drew)); exact HO0_0.out) gb222 (Nat.le_of_eq hg.symm)) hb); have n1_ := am (Kd.V_below (Kd.V_elderB (by (with_reducible repeat (first | apply Kd.V_alloc | apply Kd.V_drewN | apply Kd.V_drew)); exact HO0_1.out) gb222 (Nat.le_of_eq hg.symm)) hb); have n2_ := am (below_step (xW HB.out) hb); have n3_ := am (hbox); have n4_ := am (xS hg HB.out); have n5_ := am (xS hg HB.out); clear HO0_0; clear HO0_1; clear HB; have HO0_0 := n0_; have HO0_1 := n1_; have HB := n2_; have BK222 := n3_; have GW222 := n4_; have GE222 := n5_; clear n0_ n1_ n2_ n3_ n4_ n5_; clear hb hbox hg; obtain ⟨hcz4_0, hcz4_1, hcz4_2, hfz4_0, hfz4_1, hfz4_2⟩ := xT3 (W := w3) BK222.out) | ((with_reducible refine gate_dst (N := 10) rfl ?_); refine Kd.N_lit (Kd.slice 57 k57) _ 24 ?hg (N' := 10) ?hd (xs := ([l0_0, l0_1] : List (List (S57)))) (inner := [.slice A0_0 l0_0.length c0_0, .slice A0_1 l0_1.length c0_1]) (ok := (fun k_ => ((P0_0_ k_ ∨ P0_1_ k_) ∨ w.heap.size ≤ k_) ∧ k_ ≠ gb222)) (okp := (fun k_ => ((P0_0_ k_ ∨ P0_1_ k_) ∨ w.heap.size ≤ k_) ∧ k_ ≠ gb222)) ?hr ?hp (fun _ hk => hk) ((show ∀ k_, w3.heap.size ≤ k_ → (fun k_ => ((P0_0_ k_ ∨ P0_1_ k_) ∨ w.heap.size ≤ k_) ∧ k_ ≠ gb222) k_ from fun k_ hk => ⟨(.inr (Nat.le_trans (below_size (xW HB.out)) hk)), Kd.freshB (g := gb222) (o := .cells #[.slice A0_0 l0_0.length c0_0, .slice A0_1 l0_1.length c0_1, .int .i64 a0_2] 26 (0, 0)) (xB BK222.out) k_ hk⟩) _ (Nat.le_refl _)) (Below.refl _ _) (Nat.le_refl _) (by simp) ?_; (case hd => rfl); (case hg => rfl); (case hr => first | (go_simp; done) | (go_simp; rfl)); (case hp => exact (Reps.one (show Kd.FK (Kd.slice 57 k57) _ _ l0_0 [.slice A0_0 l0_0.length c0_0] from (Kd.FK_slice_mk (Kd.V_reads' (Kd.V_mono (ok' := (fun k_ => ((P0_0_ k_ ∨ P0_1_ k_) ∨ w.heap.size ≤ k_) ∧ k_ ≠ gb222)) (HO0_0.out) (fun k_ hk => ⟨hk.1, hk.2⟩))).2.1 (Kd.V_F (Kd.V_mono (ok' := (fun k_ => ((P0_0_ k_ ∨ P0_1_ k_) ∨ w.heap.size ≤ k_) ∧ k_ ≠ gb222)) (HO0_0.out) (fun k_ hk => ⟨hk.1, hk.2⟩))))) (Reps.one (show Kd.FK (Kd.slice 57 k57) _ _ l0_1 [.slice A0_1 l0_1.length c0_1] from (Kd.FK_slice_mk (Kd.V_reads' (Kd.V_mono (ok' := (fun k_ => ((P0_0_ k_ ∨ P0_1_ k_) ∨ w.heap.size ≤ k_) ∧ k_ ≠ gb222)) (HO0_1.out) (fun k_ hk => ⟨hk.1, hk.2⟩))).2.1 (Kd.V_F (Kd.V_mono (ok' := (fun k_ => ((P0_0_ k_ ∨ P0_1_ k_) ∨ w.heap.size ≤ k_) ∧ k_ ≠ gb222)) (HO0_1.out) (fun k_ hk => ⟨hk.1, hk.2⟩))))) (Reps.none _ _)))); intro v224 w5 ho6 hb hg_ hnew_; clear hg_ hnew_; (first | rw [← Ny223.out] at ho6 | (simp only [Int.reduceToNat] at ho6; rw [← Ny223.out] at ho6)); have n0_ := am (Kd.V_elder' (by (with_reducible repeat (first | apply Kd.V_alloc | apply Kd.V_drewN | apply Kd.V_drew)); exact HO0_0.out) (Kd.N_base ho6) hb); have n1_ := am (Kd.V_elder' (by (with_reducible repeat (first | apply Kd.V_alloc | apply Kd.V_drewN | apply Kd.V_drew)); exact HO0_1.out) (Kd.N_base ho6) hb); have n2_ := am (Kd.N_lower ho6 (below_size (xW HB.out))); have n3_ := am (blk_below (xB BK222.out) hb); have n4_ := am (below_step (xW HB.out) hb); clear HO0_0; clear HO0_1; clear BK222; clear HB; have HO0_0 := n0_; have HO0_1 := n1_; have HO225 := n2_; have BK222 := n3_; have HB := n4_; clear n0_ n1_ n2_ n3_ n4_; clear hb ho6; obtain ⟨Ao7, co7, eo7⟩ := Kd.N_slice HO225.out; subst eo7) | ((with_reducible refine gate_callee (f := 83) rfl ?_); refine xG (some 11) 83 Try.func83 #[.slice Ao7 y223.length co7] (h := ?_); (with_reducible refine (impl_Cell_83.calls k _ _ y223 t226 _ ?side1 ?side2 A2.out).mono ?_); (case side1 => exact xC ((Kd.N_reads' HO225.out).2.2)); (case side2 => exact (Kd.N_reads' HO225.out).2.1); rintro e w8 ⟨v227, rfl, ho0, hb⟩; refine ⟨_, rfl, ?_⟩; have n0_ := am (Kd.V_elder' (by (with_reducible repeat (first | apply Kd.V_alloc | apply Kd.V_drewN | apply Kd.V_drew)); exact HO0_0.out) (Kd.R_base ho0) hb); have n1_ := am (Kd.V_elder' (by (with_reducible repeat (first | apply Kd.V_alloc | apply Kd.V_drewN | apply Kd.V_drew)); exact HO0_1.out) (Kd.R_base ho0) hb); have n2_ := am (Kd.N_elder' (by (with_reducible repeat (first | apply Kd.N_alloc | apply Kd.N_drewN | apply Kd.N_drew)); exact HO225.out) (Kd.R_base ho0) hb); have n3_ := am (Kd.R_lower (Kd.R_newM (M := fun k_ => (w.heap.size ≤ k_)) ho0 (below_size (xW HB.out)) (fun k_ h_ => h_)) (below_size (xW HB.out))); have n4_ := am (blk_below (xB BK222.out) hb); have n5_ := am (below_step (xW HB.out) hb); clear HO0_0; clear HO0_1; clear HO225; clear BK222; clear HB; have HO0_0 := n0_; have HO0_1 := n1_; have HO225 := n2_; have HO228 := n3_; have BK222 := n4_; have HB := n5_; clear n0_ n1_ n2_ n3_ n4_ n5_; (try clear hb); (try clear hb2); (try clear hk); (try clear hi); (try clear ho0); obtain ⟨Ao9, co9, eo9⟩ := Kd.R_slice HO228.out; subst eo9))
 go_loopg [3, 13] k (fun kq v3 v13 w' => ∃ (x3_1 : List ByteArray) (x13_1 : Int), v13 = .int .i64 x13_1 ∧ Aside0 (impl_Table_keys.l0 kq x3_1 t226 (t226.length : Int) x13_1 = some r) ∧ Aside0 (kq ≤ k) ∧ Aside0 (Kd.R Kd.string 9 w' w.heap.size (fun k_ => (w.heap.size ≤ k_)) v3 x3_1) ∧ Aside0 (Kd.R k57 57 w' w.heap.size (fun k_ => (w.heap.size ≤ k_)) (.slice Ao9 t226.length co9) t226) ∧ Aside0 (Kd.V k57 57 w' w.heap.size (fun k_ => ((P0_0_ k_ ∨ P0_1_ k_) ∨ w.heap.size ≤ k_) ∧ some k_ ≠ (v3 : Value).ownBlock ∧ some k_ ≠ ((.slice Ao9 t226.length co9) : Value).ownBlock ∧ k_ ≠ gb222) (.slice A0_0 l0_0.length c0_0) l0_0) ∧ Aside0 (Kd.V k57 57 w' w.heap.size (fun k_ => ((P0_0_ k_ ∨ P0_1_ k_) ∨ w.heap.size ≤ k_) ∧ some k_ ≠ (v3 : Value).ownBlock ∧ some k_ ≠ ((.slice Ao9 t226.length co9) : Value).ownBlock ∧ k_ ≠ gb222) (.slice A0_1 l0_1.length c0_1) l0_1) ∧ Aside0 (w'.heap[gb222]? = some (.cells #[(.slice A0_0 l0_0.length c0_0), (.slice A0_1 l0_1.length c0_1), .int .i64 a0_2] 26 (0, 0))) ∧ Aside0 (Below w.heap.size w w'))
 case atStart => exact ⟨(([] : List ByteArray)), (0), (xQ), H', ⟨Nat.le_refl _⟩, ⟨by first | exact Kd.R_nil _ _ _ _ _ | exact Kd.N_nil _ _ _ _ _ | exact Kd.V_nil _ _ _ _ _ | exact Kd.Q_nil _ _ _ _ _ | exact Kd.S_nil _ _ _ _ _⟩, ⟨Kd.R_mono (xR HO228.out) (fun _ hk => hk.1)⟩, ⟨by (with_reducible repeat (first | apply Kd.V_alloc | apply Kd.V_drewN | apply Kd.V_drew)); exact Kd.V_mono HO0_0.out (fun _ hk => ⟨hk.1.1.1, ⟨(by simp [Value.ownBlock]), ⟨hk.2, hk.1.1.2⟩⟩⟩)⟩, ⟨by (with_reducible repeat (first | apply Kd.V_alloc | apply Kd.V_drewN | apply Kd.V_drew)); exact Kd.V_mono HO0_1.out (fun _ hk => ⟨hk.1.1.1, ⟨(by simp [Value.ownBlock]), ⟨hk.2, hk.1.1.2⟩⟩⟩)⟩, ⟨xB BK222.out⟩, ⟨xW HB.out⟩⟩
 case round =>
  clear H'
  try clear p2
  try clear c5
  try clear c8
  try clear hcz4_0
  try clear hcz4_1
  try clear hcz4_2
  try clear hfz4_0
  try clear hfz4_1
  try clear hfz4_2
  obtain ⟨x3_1, x13_1, rfl, HA, HK1, HO_3, HO_11, HO_223000, HO_223001, BK222, HB⟩ := hrel
  cases gk with
  | zero => exact absurd HA.out (by simp [impl_Table_keys.l0])
  | succ k1 =>
   have H := HA.out
   clear HA
   simp only [impl_Table_keys.l0] at H
   by_cases c10 : x13_1 < (t226.length : Int)
   ·rw [if_pos c10] at H
    have c10b0 : decide (x13_1 < (t226.length : Int)) = true := decide_eq_true c10
    clear c10
    by_cases c11 : 0 ≤ x13_1
    ·rw [if_pos c11] at H
     have c11b0 : decide (0 ≤ x13_1) = true := decide_eq_true c11
     clear c11
     by_cases c12 : x13_1 < (t226.length : Int)
     ·rw [if_pos c12] at H
      have c12b0 : decide (x13_1 < (t226.length : Int)) = true := decide_eq_true c12
      clear c12
      by_cases c13 : ((rd_T57 t226 x13_1).f0).toList = ([] : List UInt8)
      ·rw [if_pos c13] at H
       have c13b0 : (((rd_T57 t226 x13_1).f0).toList == ([] : List UInt8)) = true := beq_iff_eq.mpr c13
       have c13b1 : (((rd_T57 t226 x13_1).f0).toList != ([] : List UInt8)) = false := bne_eq_false_iff_eq.mpr c13
       clear c13
       have H' := am H
       clear H
       have p229 : 0 ≤ (x13_1 : Int) := of_decide_eq_true (by assumption)
       have q229 : x13_1 < (t226.length : Int) := of_decide_eq_true (by assumption)
       obtain ⟨ad229, e229, hx229_0, hx229_1⟩ := at_T57 (Kd.R_reads' HO_11.out).2.2 x13_1 p229 q229
       cases e229
       replace p229 := eq_true p229
       replace q229 := eq_true q229
       go_wp2_with (first | ((with_reducible refine gate_dst (N := 5) rfl ?_); refine xE (N := 5) (cs := #[.string (⟨#[]⟩ : ByteArray), .int .i64 0]) (t := 57) (h := ?_); intro gb230 hg w14 hbox hb; have n0_ := am (Kd.R_below (xR HO_3.out) hb); have n1_ := am (Kd.R_below (Kd.R_elderB (xR HO_11.out) gb230 (Nat.le_of_eq hg.symm)) hb); have n2_ := am (Kd.V_below (Kd.V_elderB (by (with_reducible repeat (first | apply Kd.V_alloc | apply Kd.V_drewN | apply Kd.V_drew)); exact HO_223000.out) gb230 (Nat.le_of_eq hg.symm)) hb); have n3_ := am (Kd.V_below (Kd.V_elderB (by (with_reducible repeat (first | apply Kd.V_alloc | apply Kd.V_drewN | apply Kd.V_drew)); exact HO_223001.out) gb230 (Nat.le_of_eq hg.symm)) hb); have n4_ := am (blk_below (xB BK222.out) hb); have n5_ := am (below_step (xW HB.out) hb); have n6_ := am (hbox); have n7_ := am (xS hg HB.out); have n8_ := am (xS hg HB.out); have n9_ := am (xN hg BK222.out); have n10_ := am (xM hg BK222.out); clear HO_3; clear HO_11; clear HO_223000; clear HO_223001; clear BK222; clear HB; have HO_3 := n0_; have HO_11 := n1_; have HO_223000 := n2_; have HO_223001 := n3_; have BK222 := n4_; have HB := n5_; have BK230 := n6_; have GW230 := n7_; have GE230 := n8_; have NB222_230 := n9_; have NB230_222 := n10_; clear n0_ n1_ n2_ n3_ n4_ n5_ n6_ n7_ n8_ n9_ n10_; clear hb hbox hg; have hnb15 := NB230_222.out; have hnc15 := NB222_230.out; obtain ⟨hcz16_0, hcz16_1, hfz16_0, hfz16_1⟩ := xT2 (W := w14) BK230.out))
       go_roundg k1
       case measure => have := HK1.out; omega
       case rel => exact ⟨(x3_1), (wrap64 (x13_1 + 1)), (xQ), H', ⟨by have := HK1.out; omega⟩, ⟨xR HO_3.out⟩, ⟨by (with_reducible repeat (first | apply Kd.R_alloc | apply Kd.R_drewN | apply Kd.R_drew)); exact Kd.R_mono (Kd.R_far (p := ⟨gb230, 1, none⟩) (Kd.R_far (p := ⟨gb230, 0, none⟩) (Kd.R_mono HO_11.out (fun k_ hk => (⟨hk, hk.2⟩ : _ ∧ k_ ≠ gb230))) (fun _ hk => hk.2) (.string ((rd_T57 t226 x13_1).f0))) (fun _ hk => hk.2) (.int .i64 ((rd_T57 t226 x13_1).f1))) (fun _ hk => hk.1.1)⟩, ⟨by (with_reducible repeat (first | apply Kd.V_alloc | apply Kd.V_drewN | apply Kd.V_drew)); exact Kd.V_mono (Kd.V_far (p := ⟨gb230, 1, none⟩) (Kd.V_far (p := ⟨gb230, 0, none⟩) (Kd.V_mono HO_223000.out (fun k_ hk => (⟨hk, hk.2⟩ : _ ∧ k_ ≠ gb230))) (fun _ hk => hk.2) (.string ((rd_T57 t226 x13_1).f0))) (fun _ hk => hk.2) (.int .i64 ((rd_T57 t226 x13_1).f1))) (fun _ hk => ⟨hk.1.1.1, ⟨hk.1.1.2.1, ⟨hk.1.1.2.2.1, hk.1.1.2.2.2⟩⟩⟩)⟩, ⟨by (with_reducible repeat (first | apply Kd.V_alloc | apply Kd.V_drewN | apply Kd.V_drew)); exact Kd.V_mono (Kd.V_far (p := ⟨gb230, 1, none⟩) (Kd.V_far (p := ⟨gb230, 0, none⟩) (Kd.V_mono HO_223001.out (fun k_ hk => (⟨hk, hk.2⟩ : _ ∧ k_ ≠ gb230))) (fun _ hk => hk.2) (.string ((rd_T57 t226 x13_1).f0))) (fun _ hk => hk.2) (.int .i64 ((rd_T57 t226 x13_1).f1))) (fun _ hk => ⟨hk.1.1.1, ⟨hk.1.1.2.1, ⟨hk.1.1.2.2.1, hk.1.1.2.2.2⟩⟩⟩)⟩, ⟨xB BK222.out⟩, ⟨xW HB.out⟩⟩
      ·rw [if_neg c13] at H
       have c13b0 : (((rd_T57 t226 x13_1).f0).toList == ([] : List UInt8)) = false := beq_eq_false_iff_ne.mpr c13
       have c13b1 : (((rd_T57 t226 x13_1).f0).toList != ([] : List UInt8)) = true := bne_iff_ne.mpr c13
       by_cases c17 : x3_1.length < 8796093022208
       ·rw [if_pos c17] at H
        have LMc17 := am c17
        clear c17
        obtain ⟨y231, hy231⟩ : ∃ y_ : List ByteArray, y_ = (x3_1 ++ [(rd_T57 t226 x13_1).f0]) := ⟨_, rfl⟩
        replace H : (impl_Table_keys.l0 k1 y231 t226 (t226.length : Int) (wrap64 (x13_1 + 1))) = some r := by first | (rw [hy231]; with_reducible exact H) | (have H2_ := (Option.bind_some _ _).symm.trans H; rw [hy231]; with_reducible exact H2_) | (have H2_ := (Option.bind_some _ _).symm.trans H; with_reducible exact H2_) | with_reducible exact H | (rw [hy231]; exact H) | exact H
        have Ny231 := am hy231
        clear hy231
        have H' := am H
        clear H
        have p229 : 0 ≤ (x13_1 : Int) := of_decide_eq_true (by assumption)
        have q229 : x13_1 < (t226.length : Int) := of_decide_eq_true (by assumption)
        obtain ⟨ad229, e229, hx229_0, hx229_1⟩ := at_T57 (Kd.R_reads' HO_11.out).2.2 x13_1 p229 q229
        cases e229
        replace p229 := eq_true p229
        replace q229 := eq_true q229
        go_wp2_with (first | ((with_reducible refine gate_dst (N := 5) rfl ?_); refine xE (N := 5) (cs := #[.string (⟨#[]⟩ : ByteArray), .int .i64 0]) (t := 57) (h := ?_); intro gb230 hg w18 hbox hb; have n0_ := am (Kd.R_below (xR HO_3.out) hb); have n1_ := am (Kd.R_below (Kd.R_elderB (xR HO_11.out) gb230 (Nat.le_of_eq hg.symm)) hb); have n2_ := am (Kd.V_below (Kd.V_elderB (by (with_reducible repeat (first | apply Kd.V_alloc | apply Kd.V_drewN | apply Kd.V_drew)); exact HO_223000.out) gb230 (Nat.le_of_eq hg.symm)) hb); have n3_ := am (Kd.V_below (Kd.V_elderB (by (with_reducible repeat (first | apply Kd.V_alloc | apply Kd.V_drewN | apply Kd.V_drew)); exact HO_223001.out) gb230 (Nat.le_of_eq hg.symm)) hb); have n4_ := am (blk_below (xB BK222.out) hb); have n5_ := am (below_step (xW HB.out) hb); have n6_ := am (hbox); have n7_ := am (xS hg HB.out); have n8_ := am (xS hg HB.out); have n9_ := am (xN hg BK222.out); have n10_ := am (xM hg BK222.out); clear HO_3; clear HO_11; clear HO_223000; clear HO_223001; clear BK222; clear HB; have HO_3 := n0_; have HO_11 := n1_; have HO_223000 := n2_; have HO_223001 := n3_; have BK222 := n4_; have HB := n5_; have BK230 := n6_; have GW230 := n7_; have GE230 := n8_; have NB222_230 := n9_; have NB230_222 := n10_; clear n0_ n1_ n2_ n3_ n4_ n5_ n6_ n7_ n8_ n9_ n10_; clear hb hbox hg; have hnb19 := NB230_222.out; have hnc19 := NB222_230.out; obtain ⟨hcz20_0, hcz20_1, hfz20_0, hfz20_1⟩ := xT2 (W := w18) BK230.out) | ((with_reducible refine gate_builtin (b := .append) (xs := #[.tmp 20, .tmp 23]) rfl ?_); at_builtin; refine Kd.R_append Kd.string (w0 := w) w.heap.size rfl (.tmp 20) (.tmp 23) 35 9 (.string ⟨#[]⟩) 16 rfl Try.underlying35 info9 rfl (by decide) (by omega) u3 x3_1 ((rd_T57 t226 x13_1).f0) [.string ((rd_T57 t226 x13_1).f0)] (fun k_ => (w.heap.size ≤ k_)) (fun _ => False) rfl (by first | (go_simp; done) | (go_simp; rfl)) ?aP (fun _ hk => hk.elim) ?aF ?aO ?aB ?aS ?aL ?_; (case aP => exact rfl); (case aB => exact (xW HB.out)); (case aF => exact (fun k_ hk => (Nat.le_trans (below_size (xW HB.out)) hk))); (case aO => exact (xR HO_3.out)); (case aS => exact (below_size (xW HB.out))); (case aL => have := LMc17.out; omega); intro v232 w21 ho hb hg hat; rw [← Ny231.out] at ho; have n0_ := am (Kd.R_over' (by (with_reducible repeat (first | apply Kd.R_alloc | apply Kd.R_drewN | apply Kd.R_drew)); exact (Kd.R_mono (Kd.R_far (p := ⟨gb230, 1, none⟩) (Kd.R_far (p := ⟨gb230, 0, none⟩) (Kd.R_mono HO_11.out (fun k_ hk => (⟨hk, hk.2⟩ : _ ∧ k_ ≠ gb230))) (fun _ hk => hk.2) (.string ((rd_T57 t226 x13_1).f0))) (fun _ hk => hk.2) (.int .i64 ((rd_T57 t226 x13_1).f1))) (fun _ h_ => h_.1))) (Kd.R_typed (xR HO_3.out)) (by decide) hg); have n1_ := am (Kd.V_afterv (ok := (fun k_ => ((P0_0_ k_ ∨ P0_1_ k_) ∨ w.heap.size ≤ k_) ∧ some k_ ≠ (.slice (some ad229) t226.length co9 : Value).ownBlock ∧ k_ ≠ gb222 ∧ k_ ≠ gb230)) (by (with_reducible repeat (first | apply Kd.V_alloc | apply Kd.V_drewN | apply Kd.V_drew)); exact Kd.V_mono (Kd.V_far (p := ⟨gb230, 1, none⟩) (Kd.V_far (p := ⟨gb230, 0, none⟩) (Kd.V_mono HO_223000.out (fun k_ hk => (⟨hk, hk.2⟩ : _ ∧ k_ ≠ gb230))) (fun _ hk => hk.2) (.string ((rd_T57 t226 x13_1).f0))) (fun _ hk => hk.2) (.int .i64 ((rd_T57 t226 x13_1).f1))) (fun _ hk => ⟨⟨hk.1.1.1, ⟨hk.1.1.2.2.1, ⟨hk.1.1.2.2.2, hk.1.2⟩⟩⟩, hk.1.1.2.1⟩)) hg hat); have n2_ := am (Kd.V_afterv (ok := (fun k_ => ((P0_0_ k_ ∨ P0_1_ k_) ∨ w.heap.size ≤ k_) ∧ some k_ ≠ (.slice (some ad229) t226.length co9 : Value).ownBlock ∧ k_ ≠ gb222 ∧ k_ ≠ gb230)) (by (with_reducible repeat (first | apply Kd.V_alloc | apply Kd.V_drewN | apply Kd.V_drew)); exact Kd.V_mono (Kd.V_far (p := ⟨gb230, 1, none⟩) (Kd.V_far (p := ⟨gb230, 0, none⟩) (Kd.V_mono HO_223001.out (fun k_ hk => (⟨hk, hk.2⟩ : _ ∧ k_ ≠ gb230))) (fun _ hk => hk.2) (.string ((rd_T57 t226 x13_1).f0))) (fun _ hk => hk.2) (.int .i64 ((rd_T57 t226 x13_1).f1))) (fun _ hk => ⟨⟨hk.1.1.1, ⟨hk.1.1.2.2.1, ⟨hk.1.1.2.2.2, hk.1.2⟩⟩⟩, hk.1.1.2.1⟩)) hg hat); have n3_ := am (blk_grown (g := gb222) (o := .cells #[.slice A0_0 l0_0.length c0_0, .slice A0_1 l0_1.length c0_1, .int .i64 a0_2] 26 (0, 0)) (xB BK222.out) hg (Kd.R_ne HO_3.out BK222.out (by decide))); have n4_ := am (blk_grown (g := gb230) (o := .cells #[.string ((rd_T57 t226 x13_1).f0), .int .i64 ((rd_T57 t226 x13_1).f1)] 57 (0, 0)) (xP BK230.out) hg (Kd.R_ne HO_3.out BK230.out (by decide))); have n5_ := am (hb); have n6_ := am (ho); clear HO_11; clear HO_223000; clear HO_223001; clear BK222; clear BK230; clear HB; clear HO_3; have HO_11 := n0_; have HO_223000 := n1_; have HO_223001 := n2_; have BK222 := n3_; have BK230 := n4_; have HB := n5_; have HO233 := n6_; clear n0_ n1_ n2_ n3_ n4_ n5_ n6_; clear ho hb hg hat))
        go_roundg k1
        case measure => have := HK1.out; omega
        case rel => exact ⟨(y231), (wrap64 (x13_1 + 1)), (xQ), H', ⟨by have := HK1.out; omega⟩, ⟨xR HO233.out⟩, ⟨Kd.R_mono (xR HO_11.out) (fun _ hk => hk.1)⟩, ⟨by (with_reducible repeat (first | apply Kd.V_alloc | apply Kd.V_drewN | apply Kd.V_drew)); exact Kd.V_mono HO_223000.out (fun _ hk => ⟨hk.1.1, ⟨hk.2, ⟨hk.1.2.1, hk.1.2.2.1⟩⟩⟩)⟩, ⟨by (with_reducible repeat (first | apply Kd.V_alloc | apply Kd.V_drewN | apply Kd.V_drew)); exact Kd.V_mono HO_223001.out (fun _ hk => ⟨hk.1.1, ⟨hk.2, ⟨hk.1.2.1, hk.1.2.2.1⟩⟩⟩)⟩, ⟨xB BK222.out⟩, ⟨xW HB.out⟩⟩
       ·rw [if_neg c17] at H
        exact absurd H (by simp)
     ·rw [if_neg c12] at H
      exact absurd H (by simp)
    ·rw [if_neg c11] at H
     exact absurd H (by simp)
   ·rw [if_neg c10] at H
    have c10b0 : decide (x13_1 < (t226.length : Int)) = false := decide_eq_false c10
    clear c10
    replace H := Option.bind_eq_some_iff.mp H
    obtain ⟨t234, A220, H⟩ := H
    replace H : (some t234) = some r := H
    have A22 := am A220
    clear A220
    obtain rfl := Option.some.inj H
    obtain ⟨Ao23, co23, eo23⟩ := Kd.R_slice HO_3.out
    subst eo23
    go_wp2_with (first | ((with_reducible refine gate_callee (f := 84) rfl ?_); refine xG (some 27) 84 Try.func84 #[.slice Ao23 x3_1.length co23] (h := ?_); (with_reducible refine (slices_Sort_string_string.calls (fun k_ => some k_ = (.slice Ao23 x3_1.length co23 : Value).ownBlock) (.slice Ao23 x3_1.length co23) x3_1 t234 w _ ?side1 ?side2 A22.out).mono ?_); (case side1 => repeat (first | (with_reducible first | exact HB.out | apply below_alloc | apply pw_below_drewN | apply below_drew1 | refine below_set ?_ GE222.out) | exact HB.out)); (case side2 => exact Kd.R_tight rfl HO_3.out); rintro e w24 ⟨rfl, hy0, hb, hkp⟩; refine ⟨_, rfl, ?_⟩; have n0_ := am (Kd.R_reok rfl hy0 (fun k_ e_ => HO_3.out.1 k_ e_)); have n1_ := am (Kd.R_mono (ok' := fun k_ => (w.heap.size ≤ k_)) (Kd.R_keptB ((Kd.R_apart' HO_11.out (Kd.R_typed HO_3.out) (by decide))) hkp (fun k_ hk_ hs_ => (hk_.2) hs_)) (fun k_ hk_ => hk_.1.1)); have n2_ := am (Kd.V_mono (ok' := fun k_ => ((P0_0_ k_ ∨ P0_1_ k_) ∨ w.heap.size ≤ k_) ∧ some k_ ≠ (.slice Ao23 x3_1.length co23 : Value).ownBlock ∧ some k_ ≠ (.slice Ao9 t226.length co9 : Value).ownBlock ∧ k_ ≠ gb222) (Kd.V_keptB (HO_223000.out) hkp (fun k_ hk_ hs_ => (hk_.2.1) hs_)) (fun k_ hk_ => ⟨hk_.1.1, hk_.1.2.1, hk_.1.2.2.1, hk_.1.2.2.2⟩)); have n3_ := am (Kd.V_mono (ok' := fun k_ => ((P0_0_ k_ ∨ P0_1_ k_) ∨ w.heap.size ≤ k_) ∧ some k_ ≠ (.slice Ao23 x3_1.length co23 : Value).ownBlock ∧ some k_ ≠ (.slice Ao9 t226.length co9 : Value).ownBlock ∧ k_ ≠ gb222) (Kd.V_keptB (HO_223001.out) hkp (fun k_ hk_ hs_ => (hk_.2.1) hs_)) (fun k_ hk_ => ⟨hk_.1.1, hk_.1.2.1, hk_.1.2.2.1, hk_.1.2.2.2⟩)); have n4_ := am (blk_kept (xB BK222.out) hkp (fun hs_ => (fun e_ => (Kd.R_ne HO_3.out BK222.out (by decide)) e_) hs_)); have n5_ := am (hb); clear HO_3; clear HO_11; clear HO_223000; clear HO_223001; clear BK222; clear HB; have HO_3 := n0_; have HO_11 := n1_; have HO_223000 := n2_; have HO_223001 := n3_; have BK222 := n4_; have HB := n5_; clear n0_ n1_ n2_ n3_ n4_ n5_; (try clear hb); (try clear hkp); (try clear hy0)))
    go_ret
    exact ⟨_, xV, xR HO_3.out, xW HB.out⟩
def impl_isKey.f (a0 : ByteArray) : Option (Bool) := (impl_inRange.f (a0.size : Int) 1 12).bind fun t235 => (some t235)
set_option maxHeartbeats 8000000 in
set_option maxRecDepth 100000 in
theorem impl_isKey.calls (a0 : ByteArray) (r : Bool) (w : World) (h : impl_isKey.f a0 = some r) :
  Calls Try.prog 74 #[.string a0] w fun e w' => e = .returned (.bool r) ∧ Drawn0 w w' := by
 have H : ((impl_inRange.f (a0.size : Int) 1 12).bind fun t235 => (some t235)) = some r := h
 clear h
 replace H := Option.bind_eq_some_iff.mp H
 obtain ⟨t235, A20, H⟩ := H
 replace H : (some t235) = some r := H
 have A2 := am A20
 clear A20
 obtain rfl := Option.some.inj H
 go_enter Try.func74, Try.ntmps74
 go_wp2_with (first | ((with_reducible refine gate_callee (f := 52) rfl ?_); refine xG (some 5) 52 Try.func52 #[.int .i64 (a0.size : Int), .int .i64 1, .int .i64 12] (h := ?_); (with_reducible refine (impl_inRange.calls (a0.size : Int) 1 12 t235 _ A2.out).mono ?_); rintro e w' ⟨rfl, ⟨nd, rfl⟩⟩; refine ⟨_, rfl, ?_⟩))
 go_ret
 exact ⟨by first | rfl | (simp; done) | (simp [*]; done), by repeat (first | exact Drawn0.refl _ | apply Drawn0.step)⟩
end Go.Proofs.Ytmahoekbedgbcaa.HFnExactPutKey
