/- What the row of the law needs of the printed and the plain texts. -/
import Derived.Test.YtmahoekbedgbcaaZfHX
import Derived.Test.YtmahoekbedgbcaaZfHFnGrowsx0
import Derived.Test.YtmahoekbedgbcaaZfHFnGrowsx2
import Derived.Test.YtmahoekbedgbcaaZfHFnGrowsx3
import Derived.Test.YtmahoekbedgbcaaZfHFnGrowsx4
import Derived.Test.YtmahoekbedgbcaaZfHFnGrowsx5
import Derived.Test.YtmahoekbedgbcaaZfHFnGrowsx6
namespace Go.Proofs.Ytmahoekbedgbcaa.HFnGrows
open Go.RowKit Go.Proofs.YtmahoekbedgbcaaW.PrintWords Go.Proofs.YtmahoekbedgbcaaW.PrintLast Go.Proofs.YtmahoekbedgbcaaW.PrintMore
attribute [local go_sem] max2_int min2_int max_two min_two max_three min_three max_four min_four
set_option linter.unusedVariables false
set_option linter.unusedSimpArgs false
def spec_PutKey.j0 : Nat → ByteArray → Int → Bool → List (S57) → List (S57) → Int → Option ((List (S57)) × (List (S57)) × Int × Bool)
 | 0, _, _, _, _, _, _ => none
 | k + 1, x1, x2, x22, x180000, x180001, x180002 => if x22 = true then (some (([] : List (S57)), ([] : List (S57)), 0, false)) else ((spec_l04Copy.f x180000 x180001 x180002).bind fun bt183 => ((spec_l04Seek.f k x180000 x1).bind fun t191 => (if t191 ≥ 0 then (if 0 ≤ t191 then (if t191 < (bt183.1.length : Int) then (some ((bt183.1.set (t191 : Int).toNat (⟨(rd_T57 bt183.1 t191).f0, x2⟩ : S57)), bt183.2.1, bt183.2.2, true)) else (none)) else (none)) else ((spec_l04Seek.f k x180001 x1).bind fun t193 => (if t193 ≥ 0 then (if 0 ≤ t193 then (if t193 < (bt183.2.1.length : Int) then ((spec_l04Put.f k bt183.1 x1 x2).bind fun bt195 => (if bt195.1 = true then (some (bt195.2, (bt183.2.1.set (t193 : Int).toNat (⟨(⟨#[]⟩ : ByteArray), (-2)⟩ : S57)), bt183.2.2, true)) else (some (([] : List (S57)), ([] : List (S57)), 0, false)))) else (none)) else (none)) else ((spec_l04Put.f k bt183.1 x1 x2).bind fun bt197 => (if bt197.1 = true then (some (bt197.2, bt183.2.1, bt183.2.2, true)) else (some (([] : List (S57)), ([] : List (S57)), 0, false)))))))))
def spec_PutKey.f (k : Nat) (l0_0 : List (S57)) (l0_1 : List (S57)) (a0_2 : Int) (a1 : ByteArray) (a2 : Int) : Option ((List (S57)) × (List (S57)) × Int × Bool) := (spec_TableOk.f k l0_0 l0_1 a0_2).bind fun t181 => (if t181 = true then ((spec_l01In.f (a1.size : Int) 1 12).bind fun t182 => (if t182 = true then (spec_PutKey.j0 k a1 a2 (decide (a2 < 0)) l0_0 l0_1 a0_2) else (spec_PutKey.j0 k a1 a2 true l0_0 l0_1 a0_2))) else (spec_PutKey.j0 k a1 a2 true l0_0 l0_1 a0_2))
set_option maxHeartbeats 8000000 in
set_option maxRecDepth 100000 in
theorem spec_PutKey.calls (k : Nat) (A0_0 : Option Addr) (c0_0 : Nat) (l0_0 : List (S57)) (A0_1 : Option Addr) (c0_1 : Nat) (l0_1 : List (S57)) (a0_2 : Int) (a1 : ByteArray) (a2 : Int) (r1 : List (S57)) (r2 : List (S57)) (r3 : Int) (r4 : Bool) (w : World) (hr0_0 : Kd.C k57 w A0_0 l0_0.length l0_0) (hc0_0 : l0_0.length ≤ c0_0) (hr0_1 : Kd.C k57 w A0_1 l0_1.length l0_1) (hc0_1 : l0_1.length ≤ c0_1) (h : spec_PutKey.f k l0_0 l0_1 a0_2 a1 a2 = some (r1, r2, r3, r4)) :
  Calls Try.prog 37 #[.agg #[.slice A0_0 l0_0.length c0_0, .slice A0_1 l0_1.length c0_1, .int .i64 a0_2], .string a1, .int .i64 a2] w fun e w' => ∃ v0_ v1_ : Value, e = .returned (.tuple #[.agg #[v0_, v1_, .int .i64 r3], .bool r4]) ∧ Kd.R k57 57 w' w.heap.size (fun k_ => some k_ ≠ (v1_ : Value).ownBlock) v0_ r1 ∧ Kd.R k57 57 w' w.heap.size (fun k_ => some k_ ≠ (v0_ : Value).ownBlock) v1_ r2 ∧ Below w.heap.size w w' := by
 have hu26 := Try.underlying26
 have hu57 := Try.underlying57
 have HR0_0 := am hr0_0
 have HC0_0 := am hc0_0
 clear hr0_0 hc0_0
 have HR0_1 := am hr0_1
 have HC0_1 := am hc0_1
 clear hr0_1 hc0_1
 have HB := am (Below.refl w.heap.size w)
 have H : ((spec_TableOk.f k l0_0 l0_1 a0_2).bind fun t181 => (if t181 = true then ((spec_l01In.f (a1.size : Int) 1 12).bind fun t182 => (if t182 = true then (spec_PutKey.j0 k a1 a2 (decide (a2 < 0)) l0_0 l0_1 a0_2) else (spec_PutKey.j0 k a1 a2 true l0_0 l0_1 a0_2))) else (spec_PutKey.j0 k a1 a2 true l0_0 l0_1 a0_2))) = some (r1, r2, r3, r4) := h
 clear h
 have HC4 := am H
 clear H
 go_enter Try.func37, Try.ntmps37
 go_upto_region 1 with (first | ((with_reducible refine gate_dst (N := 3) rfl ?_); (try (refine gate_guard (by rfl) ?_; dsimp only)); refine xE (N := 3) (cs := #[.slice A0_0 l0_0.length c0_0, .slice A0_1 l0_1.length c0_1, .int .i64 a0_2]) (t := 26) (h := ?_); intro gb179 hg w5 hbox hb; have BK179 := am (hbox); have GW179 := am (xS hg HB.out); have GE179 := am (xS hg HB.out); replace HB := am (below_step (xW HB.out) hb); clear hb hbox hg) | ((with_reducible refine gate_dst (N := 6) rfl ?_); (try (refine gate_guard (by rfl) ?_; dsimp only)); refine xE (N := 6) (cs := #[.slice none 0 0, .slice none 0 0, .int .i64 0]) (t := 26) (h := ?_); intro gb180 hg w6 hbox hb; have BK180 := am (hbox); have GW180 := am (xS hg HB.out); have GE180 := am (xS hg HB.out); replace HB := am (below_step (xW HB.out) hb); have NB179_180 := am (xN hg BK179.out); have NB180_179 := am (xM hg BK179.out); replace BK179 := am (blk_below (xB BK179.out) hb); clear hb hbox hg))
 (try simp only [Act.put, List.setIfInBounds_toArray, List.set_cons_zero, List.set_cons_succ])
 go_cut [22] (fun v22 wc => ∃ (kq : Nat) (x22_3 : Bool), v22 = .bool x22_3 ∧ Aside0 (spec_PutKey.j0 kq a1 a2 x22_3 l0_0 l0_1 a0_2 = some (r1, r2, r3, r4)) ∧ Aside0 (kq ≤ k) ∧ Aside0 (wc.heap[gb179]? = some (.cells #[(.slice A0_0 l0_0.length c0_0), (.slice A0_1 l0_1.length c0_1), .int .i64 a0_2] 26 (0, 0))) ∧ Aside0 (wc.heap[gb180]? = some (.cells #[(.slice none 0 0), (.slice none 0 0), .int .i64 0] 26 (0, 0))) ∧ Aside0 (Below w.heap.size w wc))
 case first =>
  have H := HC4.out
  clear HC4
  replace H := Option.bind_eq_some_iff.mp H
  obtain ⟨t181, A70, H⟩ := H
  try dsimp only at H
  have A7 := am A70
  clear A70
  by_cases c8 : t181 = true
  ·subst c8
   have H1 : ((spec_l01In.f (a1.size : Int) 1 12).bind fun t182 => (if t182 = true then (spec_PutKey.j0 k a1 a2 (decide (a2 < 0)) l0_0 l0_1 a0_2) else (spec_PutKey.j0 k a1 a2 true l0_0 l0_1 a0_2))) = some (r1, r2, r3, r4) := by rw [if_pos rfl] at H; exact H
   clear H
   have H := H1
   clear H1
   replace H := Option.bind_eq_some_iff.mp H
   obtain ⟨t182, A90, H⟩ := H
   try dsimp only at H
   have A9 := am A90
   clear A90
   by_cases c10 : t182 = true
   ·subst c10
    have H1 : (spec_PutKey.j0 k a1 a2 (decide (a2 < 0)) l0_0 l0_1 a0_2) = some (r1, r2, r3, r4) := by rw [if_pos rfl] at H; exact H
    clear H
    have H := H1
    clear H1
    have H' := am H
    clear H
    have hnb11 := NB179_180.out
    have hnc11 := NB180_179.out
    obtain ⟨hcz12_0, hcz12_1, hcz12_2, hfz12_0, hfz12_1, hfz12_2⟩ := xT3 (W := w6) BK179.out
    go_wp2_with (first | ((with_reducible refine gate_callee (f := 25) rfl ?_); refine xG (some 11) 25 Try.func25 #[.agg #[.slice A0_0 l0_0.length c0_0, .slice A0_1 l0_1.length c0_1, .int .i64 a0_2]] (h := ?_); (with_reducible refine (spec_TableOk.calls k _ _ l0_0 _ _ l0_1 a0_2 true _ ?side1 ?side2 ?side3 ?side4 A7.out).mono ?_); (case side1 => exact xC (Kd.C_below HR0_0.out HB.out)); (case side2 => exact HC0_0.out); (case side3 => exact xC (Kd.C_below HR0_1.out HB.out)); (case side4 => exact HC0_1.out); rintro e w13 ⟨rfl, hb⟩; refine ⟨_, rfl, ?_⟩; replace BK179 := am (blk_below (xB BK179.out) hb); replace BK180 := am (blk_below (xB BK180.out) hb); replace HB := am (below_step (xW HB.out) hb); (try clear hb); ) | (go_at_call 62; (with_reducible refine (spec_l01In.calls (a1.size : Int) 1 12 true _ A9.out).mono ?_); rintro e w' ⟨rfl, ⟨nd, rfl⟩⟩))
    go_meet
    case rel => exact ⟨_, (decide (a2 < 0)), (xQ), H', ⟨by first | omega | exact Nat.le_refl _⟩, ⟨xB BK179.out⟩, ⟨xB BK180.out⟩, ⟨xW HB.out⟩⟩
   ·replace c10 := Bool.eq_false_iff.mpr c10
    subst c10
    have H1 : (spec_PutKey.j0 k a1 a2 true l0_0 l0_1 a0_2) = some (r1, r2, r3, r4) := by rw [if_neg (show ¬ (false = true) by decide)] at H; exact H
    clear H
    have H := H1
    clear H1
    have H' := am H
    clear H
    have hnb14 := NB179_180.out
    have hnc14 := NB180_179.out
    obtain ⟨hcz15_0, hcz15_1, hcz15_2, hfz15_0, hfz15_1, hfz15_2⟩ := xT3 (W := w6) BK179.out
    go_wp2_with (first | ((with_reducible refine gate_callee (f := 25) rfl ?_); refine xG (some 11) 25 Try.func25 #[.agg #[.slice A0_0 l0_0.length c0_0, .slice A0_1 l0_1.length c0_1, .int .i64 a0_2]] (h := ?_); (with_reducible refine (spec_TableOk.calls k _ _ l0_0 _ _ l0_1 a0_2 true _ ?side1 ?side2 ?side3 ?side4 A7.out).mono ?_); (case side1 => exact xC (Kd.C_below HR0_0.out HB.out)); (case side2 => exact HC0_0.out); (case side3 => exact xC (Kd.C_below HR0_1.out HB.out)); (case side4 => exact HC0_1.out); rintro e w16 ⟨rfl, hb⟩; refine ⟨_, rfl, ?_⟩; replace BK179 := am (blk_below (xB BK179.out) hb); replace BK180 := am (blk_below (xB BK180.out) hb); replace HB := am (below_step (xW HB.out) hb); (try clear hb); ) | (go_at_call 62; (with_reducible refine (spec_l01In.calls (a1.size : Int) 1 12 false _ A9.out).mono ?_); rintro e w' ⟨rfl, ⟨nd, rfl⟩⟩))
    go_meet
    case rel => exact ⟨_, (true), (xQ), H', ⟨by first | omega | exact Nat.le_refl _⟩, ⟨xB BK179.out⟩, ⟨xB BK180.out⟩, ⟨xW HB.out⟩⟩
  ·replace c8 := Bool.eq_false_iff.mpr c8
   subst c8
   have H1 : (spec_PutKey.j0 k a1 a2 true l0_0 l0_1 a0_2) = some (r1, r2, r3, r4) := by rw [if_neg (show ¬ (false = true) by decide)] at H; exact H
   clear H
   have H := H1
   clear H1
   have H' := am H
   clear H
   have hnb17 := NB179_180.out
   have hnc17 := NB180_179.out
   obtain ⟨hcz18_0, hcz18_1, hcz18_2, hfz18_0, hfz18_1, hfz18_2⟩ := xT3 (W := w6) BK179.out
   go_wp2_with (first | ((with_reducible refine gate_callee (f := 25) rfl ?_); refine xG (some 11) 25 Try.func25 #[.agg #[.slice A0_0 l0_0.length c0_0, .slice A0_1 l0_1.length c0_1, .int .i64 a0_2]] (h := ?_); (with_reducible refine (spec_TableOk.calls k _ _ l0_0 _ _ l0_1 a0_2 false _ ?side1 ?side2 ?side3 ?side4 A7.out).mono ?_); (case side1 => exact xC (Kd.C_below HR0_0.out HB.out)); (case side2 => exact HC0_0.out); (case side3 => exact xC (Kd.C_below HR0_1.out HB.out)); (case side4 => exact HC0_1.out); rintro e w19 ⟨rfl, hb⟩; refine ⟨_, rfl, ?_⟩; replace BK179 := am (blk_below (xB BK179.out) hb); replace BK180 := am (blk_below (xB BK180.out) hb); replace HB := am (below_step (xW HB.out) hb); (try clear hb); ))
   go_meet
   case rel => exact ⟨_, (true), (xQ), H', ⟨by first | omega | exact Nat.le_refl _⟩, ⟨xB BK179.out⟩, ⟨xB BK180.out⟩, ⟨xW HB.out⟩⟩
 case rest =>
  clear HC4
  try clear c1
  try clear c2
  try clear p2
  try clear c3
  try clear c8
  try clear c10
  try clear c11
  try clear c14
  try clear c17
  try clear hcz12_0
  try clear hcz12_1
  try clear hcz12_2
  try clear hcz15_0
  try clear hcz15_1
  try clear hcz15_2
  try clear hcz18_0
  try clear hcz18_1
  try clear hcz18_2
  try clear hfz12_0
  try clear hfz12_1
  try clear hfz12_2
  try clear hfz15_0
  try clear hfz15_1
  try clear hfz15_2
  try clear hfz18_0
  try clear hfz18_1
  try clear hfz18_2
  obtain ⟨kq, x22_3, rfl, HA, HJ3, BK179, BK180, HB⟩ := hcut
  cases kq with
  | zero => exact absurd HA.out (by simp [spec_PutKey.j0])
  | succ kj3 =>
   have H := HA.out
   clear HA
   simp only [spec_PutKey.j0] at H
   by_cases c20 : x22_3 = true
   ·subst c20
    have H1 : (some (([] : List (S57)), ([] : List (S57)), 0, false)) = some (r1, r2, r3, r4) := by rw [if_pos rfl] at H; exact H
    clear H
    have H := H1
    clear H1
    simp only [Option.some.injEq, Prod.mk.injEq] at H
    obtain ⟨rfl, rfl, rfl, rfl⟩ := H
    have hnb21 := NB180_179.out
    have hnc21 := NB179_180.out
    obtain ⟨hcz22_0, hcz22_1, hcz22_2, hfz22_0, hfz22_1, hfz22_2⟩ := xT3 (W := wc) BK180.out
    go_wp2
    refine bodyPost_ret (results_ct rfl _ _ gb180 26 #[.slice none 0 0, .slice none 0 0, .int .i64 0] (0, 0) _ rfl (xP BK180.out) Try.underlying26 rfl (by kernel_rfl)) rfl ?_
    exact ⟨_, _, xV, by first | exact Kd.R_nil _ _ _ _ _ | exact Kd.N_nil _ _ _ _ _ | exact Kd.V_nil _ _ _ _ _ | exact Kd.Q_nil _ _ _ _ _ | exact Kd.S_nil _ _ _ _ _, by first | exact Kd.R_nil _ _ _ _ _ | exact Kd.N_nil _ _ _ _ _ | exact Kd.V_nil _ _ _ _ _ | exact Kd.Q_nil _ _ _ _ _ | exact Kd.S_nil _ _ _ _ _, xW HB.out⟩
   ·replace c20 := Bool.eq_false_iff.mpr c20
    subst c20
    have H1 : ((spec_l04Copy.f l0_0 l0_1 a0_2).bind fun bt183 => ((spec_l04Seek.f kj3 l0_0 a1).bind fun t191 => (if t191 ≥ 0 then (if 0 ≤ t191 then (if t191 < (bt183.1.length : Int) then (some ((bt183.1.set (t191 : Int).toNat (⟨(rd_T57 bt183.1 t191).f0, a2⟩ : S57)), bt183.2.1, bt183.2.2, true)) else (none)) else (none)) else ((spec_l04Seek.f kj3 l0_1 a1).bind fun t193 => (if t193 ≥ 0 then (if 0 ≤ t193 then (if t193 < (bt183.2.1.length : Int) then ((spec_l04Put.f kj3 bt183.1 a1 a2).bind fun bt195 => (if bt195.1 = true then (some (bt195.2, (bt183.2.1.set (t193 : Int).toNat (⟨(⟨#[]⟩ : ByteArray), (-2)⟩ : S57)), bt183.2.2, true)) else (some (([] : List (S57)), ([] : List (S57)), 0, false)))) else (none)) else (none)) else ((spec_l04Put.f kj3 bt183.1 a1 a2).bind fun bt197 => (if bt197.1 = true then (some (bt197.2, bt183.2.1, bt183.2.2, true)) else (some (([] : List (S57)), ([] : List (S57)), 0, false))))))))) = some (r1, r2, r3, r4) := by rw [if_neg (show ¬ (false = true) by decide)] at H; exact H
    clear H
    have H := H1
    clear H1
    replace H := Option.bind_eq_some_iff.mp H
    obtain ⟨⟨t183, t186, t189⟩, A230, H⟩ := H
    try dsimp only at H
    have A23 := am A230
    clear A230
    replace H := Option.bind_eq_some_iff.mp H
    obtain ⟨t191, A240, H⟩ := H
    try dsimp only at H
    have A24 := am A240
    clear A240
    by_cases c25 : t191 ≥ 0
    ·rw [if_pos c25] at H
     have c25b0 : decide (0 ≤ t191) = true := decide_eq_true c25
     clear c25
     by_cases c26 : 0 ≤ t191
     ·rw [if_pos c26] at H
      have c26b0 : decide (0 ≤ t191) = true := decide_eq_true c26
      clear c26
      by_cases c27 : t191 < (t183.length : Int)
      ·rw [if_pos c27] at H
       have c27b0 : decide (t191 < (t183.length : Int)) = true := decide_eq_true c27
       clear c27
       obtain ⟨y192, hy192⟩ : ∃ y_ : List (S57), y_ = (t183.set (t191 : Int).toNat (⟨(rd_T57 t183 t191).f0, a2⟩ : S57)) := ⟨_, rfl⟩
       replace H : (some (y192, t186, t189, true)) = some (r1, r2, r3, r4) := by first | (rw [hy192]; with_reducible exact H) | (have H2_ := (Option.bind_some _ _).symm.trans H; rw [hy192]; with_reducible exact H2_) | (have H2_ := (Option.bind_some _ _).symm.trans H; with_reducible exact H2_) | with_reducible exact H | (rw [hy192]; exact H) | exact H
       have Ny192 := am hy192
       clear hy192
       simp only [Option.some.injEq, Prod.mk.injEq] at H
       obtain ⟨rfl, rfl, rfl, rfl⟩ := H
       have hnb29 := NB179_180.out
       have hnc29 := NB180_179.out
       obtain ⟨hcz30_0, hcz30_1, hcz30_2, hfz30_0, hfz30_1, hfz30_2⟩ := xT3 (W := wc) BK179.out
       go_wp2_with (first | ((with_reducible refine gate_callee (f := 69) rfl ?_); refine xG (some 25) 69 Try.func69 #[.agg #[.slice A0_0 l0_0.length c0_0, .slice A0_1 l0_1.length c0_1, .int .i64 a0_2]] (h := ?_); (with_reducible refine (spec_l04Copy.calls _ _ l0_0 _ _ l0_1 a0_2 t183 t186 t189 _ ?side1 ?side2 ?side3 ?side4 A23.out).mono ?_); (case side1 => exact xC (Kd.C_below HR0_0.out HB.out)); (case side2 => exact HC0_0.out); (case side3 => exact xC (Kd.C_below HR0_1.out HB.out)); (case side4 => exact HC0_1.out); rintro e w31 ⟨v184, v187, rfl, ho0, ho1, hb⟩; refine ⟨_, rfl, ?_⟩; have HO185 := am (Kd.R_lower ho0 (below_size (xW HB.out))); have HO188 := am (Kd.R_lower ho1 (below_size (xW HB.out))); replace BK179 := am (blk_below (xB BK179.out) hb); replace BK180 := am (blk_below (xB BK180.out) hb); replace HB := am (below_step (xW HB.out) hb); (try clear hb); (try clear ho0); (try clear ho1)) | ((with_reducible refine gate_dst (N := 8) rfl ?_); (try (refine gate_guard (by rfl) ?_; dsimp only)); refine xE (N := 8) (cs := #[.slice none 0 0, .slice none 0 0, .int .i64 0]) (t := 26) (h := ?_); intro gb190 hg w32 hbox hb; replace HO185 := am (Kd.R_below (xR HO185.out) hb); replace HO188 := am (Kd.R_below (xR HO188.out) hb); have BK190 := am (hbox); have GW190 := am (xS hg HB.out); have GE190 := am (xS hg HB.out); replace HB := am (below_step (xW HB.out) hb); have NB179_190 := am (xN hg BK179.out); have NB190_179 := am (xM hg BK179.out); replace BK179 := am (blk_below (xB BK179.out) hb); have NB180_190 := am (xN hg BK180.out); have NB190_180 := am (xM hg BK180.out); replace BK180 := am (blk_below (xB BK180.out) hb); clear hb hbox hg; obtain ⟨Ao33, co33, eo33⟩ := Kd.R_slice HO185.out; subst eo33; have hnb34 := NB190_179.out; have hnc34 := NB179_190.out; have hnb35 := NB190_180.out; have hnc35 := NB180_190.out; obtain ⟨hcz36_0, hcz36_1, hcz36_2, hfz36_0, hfz36_1, hfz36_2⟩ := xT3 (W := w32) BK190.out; obtain ⟨Ao37, co37, eo37⟩ := Kd.R_slice HO188.out; subst eo37; obtain ⟨hcz38_0, hcz38_1, hcz38_2, hfz38_0, hfz38_1, hfz38_2⟩ := xT3 (W := w32) BK179.out) | ((with_reducible refine gate_callee (f := 58) rfl ?_); refine xG (some 29) 58 Try.func58 #[.slice A0_0 l0_0.length c0_0, .string a1] (h := ?_); (with_reducible refine (spec_l04Seek.calls kj3 _ _ l0_0 a1 t191 _ ?side1 ?side2 A24.out).mono ?_); (case side1 => exact Kd.C_below HR0_0.out (xW HB.out)); (case side2 => exact HC0_0.out); rintro e w39 ⟨rfl, hb⟩; refine ⟨_, rfl, ?_⟩; replace HO185 := am (Kd.R_below (xR HO185.out) hb); replace HO188 := am (Kd.R_below (xR HO188.out) hb); replace BK179 := am (blk_below (xB BK179.out) hb); replace BK180 := am (blk_below (xB BK180.out) hb); replace BK190 := am (blk_below (xP BK190.out) hb); replace HB := am (below_step (xW HB.out) hb); (try clear hb); obtain ⟨hcz40_0, hcz40_1, hcz40_2, hfz40_0, hfz40_1, hfz40_2⟩ := xT3 (W := w39) BK190.out; have p28 : 0 ≤ (t191 : Int) := of_decide_eq_true (by assumption); have q28 : (t191 : Int) < ((t183.length : Int) : Int) := of_decide_eq_true (by assumption); obtain ⟨go28, co28, eo28, gb28, gl28, cl28, HG28⟩ := Kd.R_form HO185.out (by omega); (first | cases eo28 | (injection eo28 with ea_ en_ ec_; (first | subst ea_ | (injection ea_ with ea_; subst ea_)); subst ec_; clear en_)); have GB28 := am gb28; have GG28 := am HG28; clear gb28 gl28 HG28; obtain ⟨ce28, hcl28, hM28, hcc28, hfr28⟩ := Kd.R_elem HO185.out z57 (t191 : Int) p28 q28; obtain rfl := k57_openM hM28; have hx28_0 : w39.cell? ⟨go28, (t191 : Int).toNat * 2, none⟩ = some (.string ((rd_T57 t183 t191).f0)) := hcc28 0 _ rfl; have hx28_1 : w39.cell? ⟨go28, (t191 : Int).toNat * 2 + 1, none⟩ = some (.int .i64 ((rd_T57 t183 t191).f1)) := hcc28 1 _ rfl; have hf28_0 : w39.frozen? ⟨go28, (t191 : Int).toNat * 2, none⟩ = false := hfr28 0; have hf28_1 : w39.frozen? ⟨go28, (t191 : Int).toNat * 2 + 1, none⟩ = false := hfr28 1; clear hcl28 hcc28 hfr28 hM28; replace p28 := eq_true p28; replace q28 := eq_true q28; have HX41 := am (show Kd.R k57 57 w39 w.heap.size (fun k_ => some k_ ≠ (.slice Ao37 t186.length co37 : Value).ownBlock) (.slice (some ⟨go28, 0, none⟩) t183.length co33) t183 from (xR HO185.out)); obtain ⟨ce41, hcl41, hM41, hcc41, hfr41⟩ := Kd.R_elem HX41.out z57 (t191 : Int) (of_decide_eq_true (by assumption)) (by have h_ : (t191 : Int) < ((t183.length : Int) : Int) := of_decide_eq_true (by assumption); first | exact h_ | (have e_ := (Kd.R_reads' HO185.out).1; omega) | simpa using h_); obtain rfl := k57_openM hM41; have HP41 := Kd.R_seg HX41.out (t191 : Int) (of_decide_eq_true (by assumption)) (by have h_ : (t191 : Int) < ((t183.length : Int) : Int) := of_decide_eq_true (by assumption); first | exact h_ | (have e_ := (Kd.R_reads' HO185.out).1; omega) | simpa using h_) (seg := [.int .i64 a2]) (j := 1) hcl41 hcc41 (show 2 ≤ 2 from by decide) (x' := (⟨(rd_T57 t183 t191).f0, a2⟩ : S57)) (k57_mkM _ _ _ (⟨(rd_T57 t183 t191).f0, a2⟩ : S57) ) (fun _ hk => hk); have hx41_1 := hcc41 1 _ rfl; (try simp only [show (k57).sz = 2 from rfl, Nat.mul_one, Nat.add_zero] at hx41_1); have hf41_1 := hfr41 1; (try simp only [show (k57).sz = 2 from rfl, Nat.mul_one, Nat.add_zero] at hf41_1); clear hcl41 hcc41 hfr41 hM41) | ((with_reducible refine gate_store (t := 3) (p := 37) rfl ?_); refine store_event (t := 3) (p := 37) (v := ?vo_w42) (w1 := (w39.setCell ⟨go28, (t191 : Int).toNat * 2 + 1, none⟩ (.int .i64 a2))) ?hg ?ho ?hn ?hr ?_; (case ho => rfl); (case hg => rfl); (case hn => rfl); (case hr => first | (go_simp; done) | (go_simp; rfl)); intro w42 hw; have hg : w39.grownBy w42 (some go28) := (by rw [hw]; exact HP41.2); have hp_ : Kd.R k57 57 w42 w.heap.size (fun k_ => some k_ ≠ (.slice Ao37 t186.length co37 : Value).ownBlock) (.slice (some ⟨go28, 0, none⟩) t183.length co33) y192 := (by rw [hw, Ny192.out]; exact HP41.1); clear HP41; replace BK179 := am (blk_grown (g := gb179) (o := .cells #[.slice A0_0 l0_0.length c0_0, .slice A0_1 l0_1.length c0_1, .int .i64 a0_2] 26 (0, 0)) (xB BK179.out) hg (Kd.R_ne HO185.out BK179.out (by decide))); replace BK180 := am (blk_grown (g := gb180) (o := .cells #[.slice none 0 0, .slice none 0 0, .int .i64 0] 26 (0, 0)) (xB BK180.out) hg (Kd.R_ne HO185.out BK180.out (by decide))); replace HO188 := am (Kd.R_after (v := (.slice (some ⟨go28, 0, none⟩) t183.length co33)) (v1 := (.slice (some ⟨go28, 0, none⟩) t183.length co33)) (ok := (fun _ => True)) (Kd.R_mono (xR HO188.out) (fun _ hk => ⟨trivial, hk⟩)) hg (.inl rfl)); replace BK190 := am (blk_grown (g := gb190) (o := .cells #[.slice (some ⟨go28, 0, none⟩) t183.length co33, .slice Ao37 t186.length co37, .int .i64 t189] 26 (0, 0)) (xB BK190.out) hg (Kd.R_ne HO185.out BK190.out (by decide))); replace HO185 := am (hp_); replace HB := am ((by rw [hw]; exact below_set (HB.out) GB28.out : Below w.heap.size w w42)); clear hg hw hp_; obtain ⟨hcz43_0, hcz43_1, hcz43_2, hfz43_0, hfz43_1, hfz43_2⟩ := xT3 (W := w42) BK190.out; obtain ⟨hcz44_0, hcz44_1, hcz44_2, hfz44_0, hfz44_1, hfz44_2⟩ := xT3 (W := w42) BK180.out))
       refine bodyPost_ret (results_ct rfl _ _ gb180 26 #[.slice (some ⟨go28, 0, none⟩) t183.length co33, .slice Ao37 t186.length co37, .int .i64 t189] (0, 0) _ rfl (xP BK180.out) Try.underlying26 rfl (by kernel_rfl)) rfl ?_
       exact ⟨_, _, xV, xR HO185.out, Kd.R_mono (xR HO188.out) (fun _ hk => hk.2), xW HB.out⟩
      ·rw [if_neg c27] at H
       exact absurd H (by simp)
     ·rw [if_neg c26] at H
      exact absurd H (by simp)
    ·rw [if_neg c25] at H
     have c25b0 : decide (0 ≤ t191) = false := decide_eq_false c25
     clear c25
     replace H := Option.bind_eq_some_iff.mp H
     obtain ⟨t193, A450, H⟩ := H
     try dsimp only at H
     have A45 := am A450
     clear A450
     by_cases c46 : t193 ≥ 0
     ·rw [if_pos c46] at H
      have c46b0 : decide (0 ≤ t193) = true := decide_eq_true c46
      clear c46
      by_cases c47 : 0 ≤ t193
      ·rw [if_pos c47] at H
       have c47b0 : decide (0 ≤ t193) = true := decide_eq_true c47
       clear c47
       by_cases c48 : t193 < (t186.length : Int)
       ·rw [if_pos c48] at H
        have c48b0 : decide (t193 < (t186.length : Int)) = true := decide_eq_true c48
        clear c48
        obtain ⟨y194, hy194⟩ : ∃ y_ : List (S57), y_ = (t186.set (t193 : Int).toNat (⟨(⟨#[]⟩ : ByteArray), (-2)⟩ : S57)) := ⟨_, rfl⟩
        replace H : ((spec_l04Put.f kj3 t183 a1 a2).bind fun bt195 => (if bt195.1 = true then (some (bt195.2, y194, t189, true)) else (some (([] : List (S57)), ([] : List (S57)), 0, false)))) = some (r1, r2, r3, r4) := by first | (rw [hy194]; with_reducible exact H) | (have H2_ := (Option.bind_some _ _).symm.trans H; rw [hy194]; with_reducible exact H2_) | (have H2_ := (Option.bind_some _ _).symm.trans H; with_reducible exact H2_) | with_reducible exact H | (rw [hy194]; exact H) | exact H
        have Ny194 := am hy194
        clear hy194
        replace H := Option.bind_eq_some_iff.mp H
        obtain ⟨⟨t195, t196⟩, A500, H⟩ := H
        try dsimp only at H
        have A50 := am A500
        clear A500
        by_cases c51 : t195 = true
        ·subst c51
         have H1 : (some (t196, y194, t189, true)) = some (r1, r2, r3, r4) := by rw [if_pos rfl] at H; exact H
         clear H
         have H := H1
         clear H1
         simp only [Option.some.injEq, Prod.mk.injEq] at H
         obtain ⟨rfl, rfl, rfl, rfl⟩ := H
         have hnb52 := NB179_180.out
         have hnc52 := NB180_179.out
         obtain ⟨hcz53_0, hcz53_1, hcz53_2, hfz53_0, hfz53_1, hfz53_2⟩ := xT3 (W := wc) BK179.out
         go_wp2_with (first | ((with_reducible refine gate_callee (f := 69) rfl ?_); refine xG (some 25) 69 Try.func69 #[.agg #[.slice A0_0 l0_0.length c0_0, .slice A0_1 l0_1.length c0_1, .int .i64 a0_2]] (h := ?_); (with_reducible refine (spec_l04Copy.calls _ _ l0_0 _ _ l0_1 a0_2 t183 t186 t189 _ ?side1 ?side2 ?side3 ?side4 A23.out).mono ?_); (case side1 => exact xC (Kd.C_below HR0_0.out HB.out)); (case side2 => exact HC0_0.out); (case side3 => exact xC (Kd.C_below HR0_1.out HB.out)); (case side4 => exact HC0_1.out); rintro e w54 ⟨v184, v187, rfl, ho0, ho1, hb⟩; refine ⟨_, rfl, ?_⟩; have HO185 := am (Kd.R_lower ho0 (below_size (xW HB.out))); have HO188 := am (Kd.R_lower ho1 (below_size (xW HB.out))); replace BK179 := am (blk_below (xB BK179.out) hb); replace BK180 := am (blk_below (xB BK180.out) hb); replace HB := am (below_step (xW HB.out) hb); (try clear hb); (try clear ho0); (try clear ho1)) | ((with_reducible refine gate_dst (N := 8) rfl ?_); (try (refine gate_guard (by rfl) ?_; dsimp only)); refine xE (N := 8) (cs := #[.slice none 0 0, .slice none 0 0, .int .i64 0]) (t := 26) (h := ?_); intro gb190 hg w55 hbox hb; replace HO185 := am (Kd.R_below (xR HO185.out) hb); replace HO188 := am (Kd.R_below (xR HO188.out) hb); have BK190 := am (hbox); have GW190 := am (xS hg HB.out); have GE190 := am (xS hg HB.out); replace HB := am (below_step (xW HB.out) hb); have NB179_190 := am (xN hg BK179.out); have NB190_179 := am (xM hg BK179.out); replace BK179 := am (blk_below (xB BK179.out) hb); have NB180_190 := am (xN hg BK180.out); have NB190_180 := am (xM hg BK180.out); replace BK180 := am (blk_below (xB BK180.out) hb); clear hb hbox hg; obtain ⟨Ao56, co56, eo56⟩ := Kd.R_slice HO185.out; subst eo56; have hnb57 := NB190_179.out; have hnc57 := NB179_190.out; have hnb58 := NB190_180.out; have hnc58 := NB180_190.out; obtain ⟨hcz59_0, hcz59_1, hcz59_2, hfz59_0, hfz59_1, hfz59_2⟩ := xT3 (W := w55) BK190.out; obtain ⟨Ao60, co60, eo60⟩ := Kd.R_slice HO188.out; subst eo60; obtain ⟨hcz61_0, hcz61_1, hcz61_2, hfz61_0, hfz61_1, hfz61_2⟩ := xT3 (W := w55) BK179.out) | ((with_reducible refine gate_callee (f := 58) rfl ?_); refine xG (some 29) 58 Try.func58 #[.slice A0_0 l0_0.length c0_0, .string a1] (h := ?_); (with_reducible refine (spec_l04Seek.calls kj3 _ _ l0_0 a1 t191 _ ?side1 ?side2 A24.out).mono ?_); (case side1 => exact Kd.C_below HR0_0.out (xW HB.out)); (case side2 => exact HC0_0.out); rintro e w62 ⟨rfl, hb⟩; refine ⟨_, rfl, ?_⟩; replace HO185 := am (Kd.R_below (xR HO185.out) hb); replace HO188 := am (Kd.R_below (xR HO188.out) hb); replace BK179 := am (blk_below (xB BK179.out) hb); replace BK180 := am (blk_below (xB BK180.out) hb); replace BK190 := am (blk_below (xP BK190.out) hb); replace HB := am (below_step (xW HB.out) hb); (try clear hb); obtain ⟨hcz63_0, hcz63_1, hcz63_2, hfz63_0, hfz63_1, hfz63_2⟩ := xT3 (W := w62) BK179.out) | ((with_reducible refine gate_callee (f := 58) rfl ?_); refine xG (some 42) 58 Try.func58 #[.slice A0_1 l0_1.length c0_1, .string a1] (h := ?_); (with_reducible refine (spec_l04Seek.calls kj3 _ _ l0_1 a1 t193 _ ?side1 ?side2 A45.out).mono ?_); (case side1 => exact xC (Kd.C_below HR0_1.out HB.out)); (case side2 => exact HC0_1.out); rintro e w64 ⟨rfl, hb⟩; refine ⟨_, rfl, ?_⟩; replace HO185 := am (Kd.R_below (xR HO185.out) hb); replace HO188 := am (Kd.R_below (xR HO188.out) hb); replace BK179 := am (blk_below (xB BK179.out) hb); replace BK180 := am (blk_below (xB BK180.out) hb); replace BK190 := am (blk_below (xB BK190.out) hb); replace HB := am (below_step (xW HB.out) hb); (try clear hb); obtain ⟨hcz65_0, hcz65_1, hcz65_2, hfz65_0, hfz65_1, hfz65_2⟩ := xT3 (W := w64) BK190.out; have p49 : 0 ≤ (t193 : Int) := of_decide_eq_true (by assumption); have q49 : (t193 : Int) < ((t186.length : Int) : Int) := of_decide_eq_true (by assumption); obtain ⟨go49, co49, eo49, gb49, gl49, cl49, HG49⟩ := Kd.R_form HO188.out (by omega); (first | cases eo49 | (injection eo49 with ea_ en_ ec_; (first | subst ea_ | (injection ea_ with ea_; subst ea_)); subst ec_; clear en_)); have GB49 := am gb49; have GG49 := am HG49; clear gb49 gl49 HG49; obtain ⟨ce49, hcl49, hM49, hcc49, hfr49⟩ := Kd.R_elem HO188.out z57 (t193 : Int) p49 q49; obtain rfl := k57_openM hM49; have hx49_0 : w64.cell? ⟨go49, (t193 : Int).toNat * 2, none⟩ = some (.string ((rd_T57 t186 t193).f0)) := hcc49 0 _ rfl; have hx49_1 : w64.cell? ⟨go49, (t193 : Int).toNat * 2 + 1, none⟩ = some (.int .i64 ((rd_T57 t186 t193).f1)) := hcc49 1 _ rfl; have hf49_0 : w64.frozen? ⟨go49, (t193 : Int).toNat * 2, none⟩ = false := hfr49 0; have hf49_1 : w64.frozen? ⟨go49, (t193 : Int).toNat * 2 + 1, none⟩ = false := hfr49 1; clear hcl49 hcc49 hfr49 hM49; replace p49 := eq_true p49; replace q49 := eq_true q49; have HX66 := am (show Kd.R k57 57 w64 w.heap.size (fun k_ => some k_ ≠ (.slice Ao56 t183.length co56 : Value).ownBlock) (.slice (some ⟨go49, 0, none⟩) t186.length co60) t186 from (xR HO188.out)); obtain ⟨ce66, hcl66, hM66, hcc66, hfr66⟩ := Kd.R_elem HX66.out z57 (t193 : Int) (of_decide_eq_true (by assumption)) (by have h_ : (t193 : Int) < ((t186.length : Int) : Int) := of_decide_eq_true (by assumption); first | exact h_ | (have e_ := (Kd.R_reads' HO188.out).1; omega) | simpa using h_); obtain rfl := k57_openM hM66; have HP66 := Kd.R_seg HX66.out (t193 : Int) (of_decide_eq_true (by assumption)) (by have h_ : (t193 : Int) < ((t186.length : Int) : Int) := of_decide_eq_true (by assumption); first | exact h_ | (have e_ := (Kd.R_reads' HO188.out).1; omega) | simpa using h_) (seg := [.string (⟨#[]⟩ : ByteArray), .int .i64 (-2)]) (j := 0) hcl66 hcc66 (show 2 ≤ 2 from by decide) (x' := (⟨(⟨#[]⟩ : ByteArray), (-2)⟩ : S57)) (k57_mkM _ _ _ (⟨(⟨#[]⟩ : ByteArray), (-2)⟩ : S57) ) (fun _ hk => hk); have hx66_0 := hcc66 0 _ rfl; (try simp only [show (k57).sz = 2 from rfl, Nat.mul_one, Nat.add_zero] at hx66_0); have hf66_0 := hfr66 0; (try simp only [show (k57).sz = 2 from rfl, Nat.mul_one, Nat.add_zero] at hf66_0); have hx66_1 := hcc66 1 _ rfl; (try simp only [show (k57).sz = 2 from rfl, Nat.mul_one, Nat.add_zero] at hx66_1); have hf66_1 := hfr66 1; (try simp only [show (k57).sz = 2 from rfl, Nat.mul_one, Nat.add_zero] at hf66_1); clear hcl66 hcc66 hfr66 hM66) | ((with_reducible refine gate_store (t := 57) (p := 49) rfl ?_); refine store_event (t := 57) (p := 49) (v := ?vo_w67) (w1 := ((w64.setCell ⟨go49, (t193 : Int).toNat * 2, none⟩ (.string (⟨#[]⟩ : ByteArray))).setCell ⟨go49, (t193 : Int).toNat * 2 + 1, none⟩ (.int .i64 (-2)))) ?hg ?ho ?hn ?hr ?_; (case ho => rfl); (case hg => rfl); (case hn => rfl); (case hr => first | (go_simp; done) | (go_simp; rfl)); intro w67 hw; have hg : w64.grownBy w67 (some go49) := (by rw [hw]; exact HP66.2); have hp_ : Kd.R k57 57 w67 w.heap.size (fun k_ => some k_ ≠ (.slice Ao56 t183.length co56 : Value).ownBlock) (.slice (some ⟨go49, 0, none⟩) t186.length co60) y194 := (by rw [hw, Ny194.out]; exact HP66.1); clear HP66; replace BK179 := am (blk_grown (g := gb179) (o := .cells #[.slice A0_0 l0_0.length c0_0, .slice A0_1 l0_1.length c0_1, .int .i64 a0_2] 26 (0, 0)) (xB BK179.out) hg (Kd.R_ne HO188.out BK179.out (by decide))); replace BK180 := am (blk_grown (g := gb180) (o := .cells #[.slice none 0 0, .slice none 0 0, .int .i64 0] 26 (0, 0)) (xB BK180.out) hg (Kd.R_ne HO188.out BK180.out (by decide))); replace HO185 := am (Kd.R_after (v := (.slice (some ⟨go49, 0, none⟩) t186.length co60)) (v1 := (.slice (some ⟨go49, 0, none⟩) t186.length co60)) (ok := (fun _ => True)) (Kd.R_mono (xR HO185.out) (fun _ hk => ⟨trivial, hk⟩)) hg (.inl rfl)); replace BK190 := am (blk_grown (g := gb190) (o := .cells #[.slice Ao56 t183.length co56, .slice (some ⟨go49, 0, none⟩) t186.length co60, .int .i64 t189] 26 (0, 0)) (xB BK190.out) hg (Kd.R_ne HO188.out BK190.out (by decide))); replace HO188 := am (hp_); replace HB := am ((by rw [hw]; exact below_set (below_set (HB.out) GB49.out) GB49.out : Below w.heap.size w w67)); clear hg hw hp_; obtain ⟨hcz68_0, hcz68_1, hcz68_2, hfz68_0, hfz68_1, hfz68_2⟩ := xT3 (W := w67) BK190.out) | ((with_reducible refine gate_callee (f := 73) rfl ?_); refine xG (some 54) 73 Try.func73 #[.slice Ao56 t183.length co56, .string a1, .int .i64 a2] (h := ?_); (with_reducible refine (spec_l04Put.calls kj3 (fun k_ => some k_ = (.slice Ao56 t183.length co56 : Value).ownBlock) (.slice Ao56 t183.length co56) t183 a1 a2 true t196 w _ ?side1 ?side2 A50.out).mono ?_); (case side1 => exact xW HB.out); (case side2 => exact Kd.R_tight rfl HO185.out); rintro e w69 ⟨rfl, hy0, hb, hkp⟩; refine ⟨_, rfl, ?_⟩; replace BK179 := am (blk_kept (xB BK179.out) hkp (fun hs_ => (fun e_ => (Kd.R_ne HO185.out BK179.out (by decide)) e_) hs_)); replace BK180 := am (blk_kept (xB BK180.out) hkp (fun hs_ => (fun e_ => (Kd.R_ne HO185.out BK180.out (by decide)) e_) hs_)); replace HO188 := am (Kd.R_mono (ok' := fun k_ => some k_ ≠ (.slice Ao56 t183.length co56 : Value).ownBlock) (Kd.R_keptB (HO188.out) hkp (fun k_ hk_ hs_ => (hk_) hs_)) (fun k_ hk_ => hk_.1)); replace BK190 := am (blk_kept (xB BK190.out) hkp (fun hs_ => (fun e_ => (Kd.R_ne HO185.out BK190.out (by decide)) e_) hs_)); replace HO185 := am (Kd.R_reok rfl hy0 (fun k_ e_ => HO185.out.1 k_ e_)); replace HB := am (hb); (try clear hb); (try clear hkp); (try clear hy0); obtain ⟨hcz70_0, hcz70_1, hcz70_2, hfz70_0, hfz70_1, hfz70_2⟩ := xT3 (W := w69) BK190.out; obtain ⟨hcz71_0, hcz71_1, hcz71_2, hfz71_0, hfz71_1, hfz71_2⟩ := xT3 (W := w69) BK180.out))
         refine bodyPost_ret (results_ct rfl _ _ gb180 26 #[.slice Ao56 t183.length co56, .slice (some ⟨go49, 0, none⟩) t186.length co60, .int .i64 t189] (0, 0) _ rfl (xP BK180.out) Try.underlying26 rfl (by kernel_rfl)) rfl ?_
         exact ⟨_, _, xV, Kd.R_mono (xR HO185.out) (fun _ hk => hk.2), xR HO188.out, xW HB.out⟩
        ·replace c51 := Bool.eq_false_iff.mpr c51
         subst c51
         have H1 : (some (([] : List (S57)), ([] : List (S57)), 0, false)) = some (r1, r2, r3, r4) := by rw [if_neg (show ¬ (false = true) by decide)] at H; exact H
         clear H
         have H := H1
         clear H1
         simp only [Option.some.injEq, Prod.mk.injEq] at H
         obtain ⟨rfl, rfl, rfl, rfl⟩ := H
         have hnb72 := NB179_180.out
         have hnc72 := NB180_179.out
         obtain ⟨hcz73_0, hcz73_1, hcz73_2, hfz73_0, hfz73_1, hfz73_2⟩ := xT3 (W := wc) BK179.out
         go_wp2_with (first | ((with_reducible refine gate_callee (f := 69) rfl ?_); refine xG (some 25) 69 Try.func69 #[.agg #[.slice A0_0 l0_0.length c0_0, .slice A0_1 l0_1.length c0_1, .int .i64 a0_2]] (h := ?_); (with_reducible refine (spec_l04Copy.calls _ _ l0_0 _ _ l0_1 a0_2 t183 t186 t189 _ ?side1 ?side2 ?side3 ?side4 A23.out).mono ?_); (case side1 => exact xC (Kd.C_below HR0_0.out HB.out)); (case side2 => exact HC0_0.out); (case side3 => exact xC (Kd.C_below HR0_1.out HB.out)); (case side4 => exact HC0_1.out); rintro e w74 ⟨v184, v187, rfl, ho0, ho1, hb⟩; refine ⟨_, rfl, ?_⟩; have HO185 := am (Kd.R_lower ho0 (below_size (xW HB.out))); have HO188 := am (Kd.R_lower ho1 (below_size (xW HB.out))); replace BK179 := am (blk_below (xB BK179.out) hb); replace BK180 := am (blk_below (xB BK180.out) hb); replace HB := am (below_step (xW HB.out) hb); (try clear hb); (try clear ho0); (try clear ho1)) | ((with_reducible refine gate_dst (N := 8) rfl ?_); (try (refine gate_guard (by rfl) ?_; dsimp only)); refine xE (N := 8) (cs := #[.slice none 0 0, .slice none 0 0, .int .i64 0]) (t := 26) (h := ?_); intro gb190 hg w75 hbox hb; replace HO185 := am (Kd.R_below (xR HO185.out) hb); replace HO188 := am (Kd.R_below (xR HO188.out) hb); have BK190 := am (hbox); have GW190 := am (xS hg HB.out); have GE190 := am (xS hg HB.out); replace HB := am (below_step (xW HB.out) hb); have NB179_190 := am (xN hg BK179.out); have NB190_179 := am (xM hg BK179.out); replace BK179 := am (blk_below (xB BK179.out) hb); have NB180_190 := am (xN hg BK180.out); have NB190_180 := am (xM hg BK180.out); replace BK180 := am (blk_below (xB BK180.out) hb); clear hb hbox hg; obtain ⟨Ao76, co76, eo76⟩ := Kd.R_slice HO185.out; subst eo76; have hnb77 := NB190_179.out; have hnc77 := NB179_190.out; have hnb78 := NB190_180.out; have hnc78 := NB180_190.out; obtain ⟨hcz79_0, hcz79_1, hcz79_2, hfz79_0, hfz79_1, hfz79_2⟩ := xT3 (W := w75) BK190.out; obtain ⟨Ao80, co80, eo80⟩ := Kd.R_slice HO188.out; subst eo80; obtain ⟨hcz81_0, hcz81_1, hcz81_2, hfz81_0, hfz81_1, hfz81_2⟩ := xT3 (W := w75) BK179.out) | ((with_reducible refine gate_callee (f := 58) rfl ?_); refine xG (some 29) 58 Try.func58 #[.slice A0_0 l0_0.length c0_0, .string a1] (h := ?_); (with_reducible refine (spec_l04Seek.calls kj3 _ _ l0_0 a1 t191 _ ?side1 ?side2 A24.out).mono ?_); (case side1 => exact Kd.C_below HR0_0.out (xW HB.out)); (case side2 => exact HC0_0.out); rintro e w82 ⟨rfl, hb⟩; refine ⟨_, rfl, ?_⟩; replace HO185 := am (Kd.R_below (xR HO185.out) hb); replace HO188 := am (Kd.R_below (xR HO188.out) hb); replace BK179 := am (blk_below (xB BK179.out) hb); replace BK180 := am (blk_below (xB BK180.out) hb); replace BK190 := am (blk_below (xP BK190.out) hb); replace HB := am (below_step (xW HB.out) hb); (try clear hb); obtain ⟨hcz83_0, hcz83_1, hcz83_2, hfz83_0, hfz83_1, hfz83_2⟩ := xT3 (W := w82) BK179.out) | ((with_reducible refine gate_callee (f := 58) rfl ?_); refine xG (some 42) 58 Try.func58 #[.slice A0_1 l0_1.length c0_1, .string a1] (h := ?_); (with_reducible refine (spec_l04Seek.calls kj3 _ _ l0_1 a1 t193 _ ?side1 ?side2 A45.out).mono ?_); (case side1 => exact xC (Kd.C_below HR0_1.out HB.out)); (case side2 => exact HC0_1.out); rintro e w84 ⟨rfl, hb⟩; refine ⟨_, rfl, ?_⟩; replace HO185 := am (Kd.R_below (xR HO185.out) hb); replace HO188 := am (Kd.R_below (xR HO188.out) hb); replace BK179 := am (blk_below (xB BK179.out) hb); replace BK180 := am (blk_below (xB BK180.out) hb); replace BK190 := am (blk_below (xB BK190.out) hb); replace HB := am (below_step (xW HB.out) hb); (try clear hb); obtain ⟨hcz85_0, hcz85_1, hcz85_2, hfz85_0, hfz85_1, hfz85_2⟩ := xT3 (W := w84) BK190.out; have p49 : 0 ≤ (t193 : Int) := of_decide_eq_true (by assumption); have q49 : (t193 : Int) < ((t186.length : Int) : Int) := of_decide_eq_true (by assumption); obtain ⟨go49, co49, eo49, gb49, gl49, cl49, HG49⟩ := Kd.R_form HO188.out (by omega); (first | cases eo49 | (injection eo49 with ea_ en_ ec_; (first | subst ea_ | (injection ea_ with ea_; subst ea_)); subst ec_; clear en_)); have GB49 := am gb49; have GG49 := am HG49; clear gb49 gl49 HG49; obtain ⟨ce49, hcl49, hM49, hcc49, hfr49⟩ := Kd.R_elem HO188.out z57 (t193 : Int) p49 q49; obtain rfl := k57_openM hM49; have hx49_0 : w84.cell? ⟨go49, (t193 : Int).toNat * 2, none⟩ = some (.string ((rd_T57 t186 t193).f0)) := hcc49 0 _ rfl; have hx49_1 : w84.cell? ⟨go49, (t193 : Int).toNat * 2 + 1, none⟩ = some (.int .i64 ((rd_T57 t186 t193).f1)) := hcc49 1 _ rfl; have hf49_0 : w84.frozen? ⟨go49, (t193 : Int).toNat * 2, none⟩ = false := hfr49 0; have hf49_1 : w84.frozen? ⟨go49, (t193 : Int).toNat * 2 + 1, none⟩ = false := hfr49 1; clear hcl49 hcc49 hfr49 hM49; replace p49 := eq_true p49; replace q49 := eq_true q49; have HX86 := am (show Kd.R k57 57 w84 w.heap.size (fun k_ => some k_ ≠ (.slice Ao76 t183.length co76 : Value).ownBlock) (.slice (some ⟨go49, 0, none⟩) t186.length co80) t186 from (xR HO188.out)); obtain ⟨ce86, hcl86, hM86, hcc86, hfr86⟩ := Kd.R_elem HX86.out z57 (t193 : Int) (of_decide_eq_true (by assumption)) (by have h_ : (t193 : Int) < ((t186.length : Int) : Int) := of_decide_eq_true (by assumption); first | exact h_ | (have e_ := (Kd.R_reads' HO188.out).1; omega) | simpa using h_); obtain rfl := k57_openM hM86; have HP86 := Kd.R_seg HX86.out (t193 : Int) (of_decide_eq_true (by assumption)) (by have h_ : (t193 : Int) < ((t186.length : Int) : Int) := of_decide_eq_true (by assumption); first | exact h_ | (have e_ := (Kd.R_reads' HO188.out).1; omega) | simpa using h_) (seg := [.string (⟨#[]⟩ : ByteArray), .int .i64 (-2)]) (j := 0) hcl86 hcc86 (show 2 ≤ 2 from by decide) (x' := (⟨(⟨#[]⟩ : ByteArray), (-2)⟩ : S57)) (k57_mkM _ _ _ (⟨(⟨#[]⟩ : ByteArray), (-2)⟩ : S57) ) (fun _ hk => hk); have hx86_0 := hcc86 0 _ rfl; (try simp only [show (k57).sz = 2 from rfl, Nat.mul_one, Nat.add_zero] at hx86_0); have hf86_0 := hfr86 0; (try simp only [show (k57).sz = 2 from rfl, Nat.mul_one, Nat.add_zero] at hf86_0); have hx86_1 := hcc86 1 _ rfl; (try simp only [show (k57).sz = 2 from rfl, Nat.mul_one, Nat.add_zero] at hx86_1); have hf86_1 := hfr86 1; (try simp only [show (k57).sz = 2 from rfl, Nat.mul_one, Nat.add_zero] at hf86_1); clear hcl86 hcc86 hfr86 hM86) | ((with_reducible refine gate_store (t := 57) (p := 49) rfl ?_); refine store_event (t := 57) (p := 49) (v := ?vo_w87) (w1 := ((w84.setCell ⟨go49, (t193 : Int).toNat * 2, none⟩ (.string (⟨#[]⟩ : ByteArray))).setCell ⟨go49, (t193 : Int).toNat * 2 + 1, none⟩ (.int .i64 (-2)))) ?hg ?ho ?hn ?hr ?_; (case ho => rfl); (case hg => rfl); (case hn => rfl); (case hr => first | (go_simp; done) | (go_simp; rfl)); intro w87 hw; have hg : w84.grownBy w87 (some go49) := (by rw [hw]; exact HP86.2); have hp_ : Kd.R k57 57 w87 w.heap.size (fun k_ => some k_ ≠ (.slice Ao76 t183.length co76 : Value).ownBlock) (.slice (some ⟨go49, 0, none⟩) t186.length co80) y194 := (by rw [hw, Ny194.out]; exact HP86.1); clear HP86; replace BK179 := am (blk_grown (g := gb179) (o := .cells #[.slice A0_0 l0_0.length c0_0, .slice A0_1 l0_1.length c0_1, .int .i64 a0_2] 26 (0, 0)) (xB BK179.out) hg (Kd.R_ne HO188.out BK179.out (by decide))); replace BK180 := am (blk_grown (g := gb180) (o := .cells #[.slice none 0 0, .slice none 0 0, .int .i64 0] 26 (0, 0)) (xB BK180.out) hg (Kd.R_ne HO188.out BK180.out (by decide))); replace HO185 := am (Kd.R_after (v := (.slice (some ⟨go49, 0, none⟩) t186.length co80)) (v1 := (.slice (some ⟨go49, 0, none⟩) t186.length co80)) (ok := (fun _ => True)) (Kd.R_mono (xR HO185.out) (fun _ hk => ⟨trivial, hk⟩)) hg (.inl rfl)); replace BK190 := am (blk_grown (g := gb190) (o := .cells #[.slice Ao76 t183.length co76, .slice (some ⟨go49, 0, none⟩) t186.length co80, .int .i64 t189] 26 (0, 0)) (xB BK190.out) hg (Kd.R_ne HO188.out BK190.out (by decide))); replace HO188 := am (hp_); replace HB := am ((by rw [hw]; exact below_set (below_set (HB.out) GB49.out) GB49.out : Below w.heap.size w w87)); clear hg hw hp_; obtain ⟨hcz88_0, hcz88_1, hcz88_2, hfz88_0, hfz88_1, hfz88_2⟩ := xT3 (W := w87) BK190.out) | ((with_reducible refine gate_callee (f := 73) rfl ?_); refine xG (some 54) 73 Try.func73 #[.slice Ao76 t183.length co76, .string a1, .int .i64 a2] (h := ?_); (with_reducible refine (spec_l04Put.calls kj3 (fun k_ => some k_ = (.slice Ao76 t183.length co76 : Value).ownBlock) (.slice Ao76 t183.length co76) t183 a1 a2 false t196 w _ ?side1 ?side2 A50.out).mono ?_); (case side1 => exact xW HB.out); (case side2 => exact Kd.R_tight rfl HO185.out); rintro e w89 ⟨rfl, hy0, hb, hkp⟩; refine ⟨_, rfl, ?_⟩; replace BK179 := am (blk_kept (xB BK179.out) hkp (fun hs_ => (fun e_ => (Kd.R_ne HO185.out BK179.out (by decide)) e_) hs_)); replace BK180 := am (blk_kept (xB BK180.out) hkp (fun hs_ => (fun e_ => (Kd.R_ne HO185.out BK180.out (by decide)) e_) hs_)); replace HO188 := am (Kd.R_mono (ok' := fun k_ => some k_ ≠ (.slice Ao76 t183.length co76 : Value).ownBlock) (Kd.R_keptB (HO188.out) hkp (fun k_ hk_ hs_ => (hk_) hs_)) (fun k_ hk_ => hk_.1)); replace BK190 := am (blk_kept (xB BK190.out) hkp (fun hs_ => (fun e_ => (Kd.R_ne HO185.out BK190.out (by decide)) e_) hs_)); replace HO185 := am (Kd.R_reok rfl hy0 (fun k_ e_ => HO185.out.1 k_ e_)); replace HB := am (hb); (try clear hb); (try clear hkp); (try clear hy0); obtain ⟨hcz90_0, hcz90_1, hcz90_2, hfz90_0, hfz90_1, hfz90_2⟩ := xT3 (W := w89) BK180.out))
         refine bodyPost_ret (results_ct rfl _ _ gb180 26 #[.slice none 0 0, .slice none 0 0, .int .i64 0] (0, 0) _ rfl (xP BK180.out) Try.underlying26 rfl (by kernel_rfl)) rfl ?_
         exact ⟨_, _, xV, by first | exact Kd.R_nil _ _ _ _ _ | exact Kd.N_nil _ _ _ _ _ | exact Kd.V_nil _ _ _ _ _ | exact Kd.Q_nil _ _ _ _ _ | exact Kd.S_nil _ _ _ _ _, by first | exact Kd.R_nil _ _ _ _ _ | exact Kd.N_nil _ _ _ _ _ | exact Kd.V_nil _ _ _ _ _ | exact Kd.Q_nil _ _ _ _ _ | exact Kd.S_nil _ _ _ _ _, xW HB.out⟩
       ·rw [if_neg c48] at H
        exact absurd H (by simp)
      ·rw [if_neg c47] at H
       exact absurd H (by simp)
     ·rw [if_neg c46] at H
      have c46b0 : decide (0 ≤ t193) = false := decide_eq_false c46
      clear c46
      replace H := Option.bind_eq_some_iff.mp H
      obtain ⟨⟨t197, t198⟩, A910, H⟩ := H
      try dsimp only at H
      have A91 := am A910
      clear A910
      by_cases c92 : t197 = true
      ·subst c92
       have H1 : (some (t198, t186, t189, true)) = some (r1, r2, r3, r4) := by rw [if_pos rfl] at H; exact H
       clear H
       have H := H1
       clear H1
       simp only [Option.some.injEq, Prod.mk.injEq] at H
       obtain ⟨rfl, rfl, rfl, rfl⟩ := H
       have hnb93 := NB179_180.out
       have hnc93 := NB180_179.out
       obtain ⟨hcz94_0, hcz94_1, hcz94_2, hfz94_0, hfz94_1, hfz94_2⟩ := xT3 (W := wc) BK179.out
       go_wp2_with (first | ((with_reducible refine gate_callee (f := 69) rfl ?_); refine xG (some 25) 69 Try.func69 #[.agg #[.slice A0_0 l0_0.length c0_0, .slice A0_1 l0_1.length c0_1, .int .i64 a0_2]] (h := ?_); (with_reducible refine (spec_l04Copy.calls _ _ l0_0 _ _ l0_1 a0_2 t183 t186 t189 _ ?side1 ?side2 ?side3 ?side4 A23.out).mono ?_); (case side1 => exact xC (Kd.C_below HR0_0.out HB.out)); (case side2 => exact HC0_0.out); (case side3 => exact xC (Kd.C_below HR0_1.out HB.out)); (case side4 => exact HC0_1.out); rintro e w95 ⟨v184, v187, rfl, ho0, ho1, hb⟩; refine ⟨_, rfl, ?_⟩; have HO185 := am (Kd.R_lower ho0 (below_size (xW HB.out))); have HO188 := am (Kd.R_lower ho1 (below_size (xW HB.out))); replace BK179 := am (blk_below (xB BK179.out) hb); replace BK180 := am (blk_below (xB BK180.out) hb); replace HB := am (below_step (xW HB.out) hb); (try clear hb); (try clear ho0); (try clear ho1)) | ((with_reducible refine gate_dst (N := 8) rfl ?_); (try (refine gate_guard (by rfl) ?_; dsimp only)); refine xE (N := 8) (cs := #[.slice none 0 0, .slice none 0 0, .int .i64 0]) (t := 26) (h := ?_); intro gb190 hg w96 hbox hb; replace HO185 := am (Kd.R_below (xR HO185.out) hb); replace HO188 := am (Kd.R_below (xR HO188.out) hb); have BK190 := am (hbox); have GW190 := am (xS hg HB.out); have GE190 := am (xS hg HB.out); replace HB := am (below_step (xW HB.out) hb); have NB179_190 := am (xN hg BK179.out); have NB190_179 := am (xM hg BK179.out); replace BK179 := am (blk_below (xB BK179.out) hb); have NB180_190 := am (xN hg BK180.out); have NB190_180 := am (xM hg BK180.out); replace BK180 := am (blk_below (xB BK180.out) hb); clear hb hbox hg; obtain ⟨Ao97, co97, eo97⟩ := Kd.R_slice HO185.out; subst eo97; have hnb98 := NB190_179.out; have hnc98 := NB179_190.out; have hnb99 := NB190_180.out; have hnc99 := NB180_190.out; obtain ⟨hcz100_0, hcz100_1, hcz100_2, hfz100_0, hfz100_1, hfz100_2⟩ := xT3 (W := w96) BK190.out; obtain ⟨Ao101, co101, eo101⟩ := Kd.R_slice HO188.out; subst eo101; obtain ⟨hcz102_0, hcz102_1, hcz102_2, hfz102_0, hfz102_1, hfz102_2⟩ := xT3 (W := w96) BK179.out) | ((with_reducible refine gate_callee (f := 58) rfl ?_); refine xG (some 29) 58 Try.func58 #[.slice A0_0 l0_0.length c0_0, .string a1] (h := ?_); (with_reducible refine (spec_l04Seek.calls kj3 _ _ l0_0 a1 t191 _ ?side1 ?side2 A24.out).mono ?_); (case side1 => exact Kd.C_below HR0_0.out (xW HB.out)); (case side2 => exact HC0_0.out); rintro e w103 ⟨rfl, hb⟩; refine ⟨_, rfl, ?_⟩; replace HO185 := am (Kd.R_below (xR HO185.out) hb); replace HO188 := am (Kd.R_below (xR HO188.out) hb); replace BK179 := am (blk_below (xB BK179.out) hb); replace BK180 := am (blk_below (xB BK180.out) hb); replace BK190 := am (blk_below (xP BK190.out) hb); replace HB := am (below_step (xW HB.out) hb); (try clear hb); obtain ⟨hcz104_0, hcz104_1, hcz104_2, hfz104_0, hfz104_1, hfz104_2⟩ := xT3 (W := w103) BK179.out) | ((with_reducible refine gate_callee (f := 58) rfl ?_); refine xG (some 42) 58 Try.func58 #[.slice A0_1 l0_1.length c0_1, .string a1] (h := ?_); (with_reducible refine (spec_l04Seek.calls kj3 _ _ l0_1 a1 t193 _ ?side1 ?side2 A45.out).mono ?_); (case side1 => exact xC (Kd.C_below HR0_1.out HB.out)); (case side2 => exact HC0_1.out); rintro e w105 ⟨rfl, hb⟩; refine ⟨_, rfl, ?_⟩; replace HO185 := am (Kd.R_below (xR HO185.out) hb); replace HO188 := am (Kd.R_below (xR HO188.out) hb); replace BK179 := am (blk_below (xB BK179.out) hb); replace BK180 := am (blk_below (xB BK180.out) hb); replace BK190 := am (blk_below (xB BK190.out) hb); replace HB := am (below_step (xW HB.out) hb); (try clear hb); obtain ⟨hcz106_0, hcz106_1, hcz106_2, hfz106_0, hfz106_1, hfz106_2⟩ := xT3 (W := w105) BK190.out) | ((with_reducible refine gate_callee (f := 73) rfl ?_); refine xG (some 54) 73 Try.func73 #[.slice Ao97 t183.length co97, .string a1, .int .i64 a2] (h := ?_); (with_reducible refine (spec_l04Put.calls kj3 (fun k_ => some k_ = (.slice Ao97 t183.length co97 : Value).ownBlock) (.slice Ao97 t183.length co97) t183 a1 a2 true t198 w _ ?side1 ?side2 A91.out).mono ?_); (case side1 => exact xW HB.out); (case side2 => exact Kd.R_tight rfl HO185.out); rintro e w107 ⟨rfl, hy0, hb, hkp⟩; refine ⟨_, rfl, ?_⟩; replace BK179 := am (blk_kept (xB BK179.out) hkp (fun hs_ => (fun e_ => (Kd.R_ne HO185.out BK179.out (by decide)) e_) hs_)); replace BK180 := am (blk_kept (xB BK180.out) hkp (fun hs_ => (fun e_ => (Kd.R_ne HO185.out BK180.out (by decide)) e_) hs_)); replace HO188 := am (Kd.R_mono (ok' := fun k_ => some k_ ≠ (.slice Ao97 t183.length co97 : Value).ownBlock) (Kd.R_keptB (HO188.out) hkp (fun k_ hk_ hs_ => (hk_) hs_)) (fun k_ hk_ => hk_.1)); replace BK190 := am (blk_kept (xB BK190.out) hkp (fun hs_ => (fun e_ => (Kd.R_ne HO185.out BK190.out (by decide)) e_) hs_)); replace HO185 := am (Kd.R_reok rfl hy0 (fun k_ e_ => HO185.out.1 k_ e_)); replace HB := am (hb); (try clear hb); (try clear hkp); (try clear hy0); obtain ⟨hcz108_0, hcz108_1, hcz108_2, hfz108_0, hfz108_1, hfz108_2⟩ := xT3 (W := w107) BK190.out; obtain ⟨hcz109_0, hcz109_1, hcz109_2, hfz109_0, hfz109_1, hfz109_2⟩ := xT3 (W := w107) BK180.out))
       refine bodyPost_ret (results_ct rfl _ _ gb180 26 #[.slice Ao97 t183.length co97, .slice Ao101 t186.length co101, .int .i64 t189] (0, 0) _ rfl (xP BK180.out) Try.underlying26 rfl (by kernel_rfl)) rfl ?_
       exact ⟨_, _, xV, xR HO185.out, xR HO188.out, xW HB.out⟩
      ·replace c92 := Bool.eq_false_iff.mpr c92
       subst c92
       have H1 : (some (([] : List (S57)), ([] : List (S57)), 0, false)) = some (r1, r2, r3, r4) := by rw [if_neg (show ¬ (false = true) by decide)] at H; exact H
       clear H
       have H := H1
       clear H1
       simp only [Option.some.injEq, Prod.mk.injEq] at H
       obtain ⟨rfl, rfl, rfl, rfl⟩ := H
       have hnb110 := NB179_180.out
       have hnc110 := NB180_179.out
       obtain ⟨hcz111_0, hcz111_1, hcz111_2, hfz111_0, hfz111_1, hfz111_2⟩ := xT3 (W := wc) BK179.out
       go_wp2_with (first | ((with_reducible refine gate_callee (f := 69) rfl ?_); refine xG (some 25) 69 Try.func69 #[.agg #[.slice A0_0 l0_0.length c0_0, .slice A0_1 l0_1.length c0_1, .int .i64 a0_2]] (h := ?_); (with_reducible refine (spec_l04Copy.calls _ _ l0_0 _ _ l0_1 a0_2 t183 t186 t189 _ ?side1 ?side2 ?side3 ?side4 A23.out).mono ?_); (case side1 => exact xC (Kd.C_below HR0_0.out HB.out)); (case side2 => exact HC0_0.out); (case side3 => exact xC (Kd.C_below HR0_1.out HB.out)); (case side4 => exact HC0_1.out); rintro e w112 ⟨v184, v187, rfl, ho0, ho1, hb⟩; refine ⟨_, rfl, ?_⟩; have HO185 := am (Kd.R_lower ho0 (below_size (xW HB.out))); have HO188 := am (Kd.R_lower ho1 (below_size (xW HB.out))); replace BK179 := am (blk_below (xB BK179.out) hb); replace BK180 := am (blk_below (xB BK180.out) hb); replace HB := am (below_step (xW HB.out) hb); (try clear hb); (try clear ho0); (try clear ho1)) | ((with_reducible refine gate_dst (N := 8) rfl ?_); (try (refine gate_guard (by rfl) ?_; dsimp only)); refine xE (N := 8) (cs := #[.slice none 0 0, .slice none 0 0, .int .i64 0]) (t := 26) (h := ?_); intro gb190 hg w113 hbox hb; replace HO185 := am (Kd.R_below (xR HO185.out) hb); replace HO188 := am (Kd.R_below (xR HO188.out) hb); have BK190 := am (hbox); have GW190 := am (xS hg HB.out); have GE190 := am (xS hg HB.out); replace HB := am (below_step (xW HB.out) hb); have NB179_190 := am (xN hg BK179.out); have NB190_179 := am (xM hg BK179.out); replace BK179 := am (blk_below (xB BK179.out) hb); have NB180_190 := am (xN hg BK180.out); have NB190_180 := am (xM hg BK180.out); replace BK180 := am (blk_below (xB BK180.out) hb); clear hb hbox hg; obtain ⟨Ao114, co114, eo114⟩ := Kd.R_slice HO185.out; subst eo114; have hnb115 := NB190_179.out; have hnc115 := NB179_190.out; have hnb116 := NB190_180.out; have hnc116 := NB180_190.out; obtain ⟨hcz117_0, hcz117_1, hcz117_2, hfz117_0, hfz117_1, hfz117_2⟩ := xT3 (W := w113) BK190.out; obtain ⟨Ao118, co118, eo118⟩ := Kd.R_slice HO188.out; subst eo118; obtain ⟨hcz119_0, hcz119_1, hcz119_2, hfz119_0, hfz119_1, hfz119_2⟩ := xT3 (W := w113) BK179.out) | ((with_reducible refine gate_callee (f := 58) rfl ?_); refine xG (some 29) 58 Try.func58 #[.slice A0_0 l0_0.length c0_0, .string a1] (h := ?_); (with_reducible refine (spec_l04Seek.calls kj3 _ _ l0_0 a1 t191 _ ?side1 ?side2 A24.out).mono ?_); (case side1 => exact Kd.C_below HR0_0.out (xW HB.out)); (case side2 => exact HC0_0.out); rintro e w120 ⟨rfl, hb⟩; refine ⟨_, rfl, ?_⟩; replace HO185 := am (Kd.R_below (xR HO185.out) hb); replace HO188 := am (Kd.R_below (xR HO188.out) hb); replace BK179 := am (blk_below (xB BK179.out) hb); replace BK180 := am (blk_below (xB BK180.out) hb); replace BK190 := am (blk_below (xP BK190.out) hb); replace HB := am (below_step (xW HB.out) hb); (try clear hb); obtain ⟨hcz121_0, hcz121_1, hcz121_2, hfz121_0, hfz121_1, hfz121_2⟩ := xT3 (W := w120) BK179.out) | ((with_reducible refine gate_callee (f := 58) rfl ?_); refine xG (some 42) 58 Try.func58 #[.slice A0_1 l0_1.length c0_1, .string a1] (h := ?_); (with_reducible refine (spec_l04Seek.calls kj3 _ _ l0_1 a1 t193 _ ?side1 ?side2 A45.out).mono ?_); (case side1 => exact xC (Kd.C_below HR0_1.out HB.out)); (case side2 => exact HC0_1.out); rintro e w122 ⟨rfl, hb⟩; refine ⟨_, rfl, ?_⟩; replace HO185 := am (Kd.R_below (xR HO185.out) hb); replace HO188 := am (Kd.R_below (xR HO188.out) hb); replace BK179 := am (blk_below (xB BK179.out) hb); replace BK180 := am (blk_below (xB BK180.out) hb); replace BK190 := am (blk_below (xB BK190.out) hb); replace HB := am (below_step (xW HB.out) hb); (try clear hb); obtain ⟨hcz123_0, hcz123_1, hcz123_2, hfz123_0, hfz123_1, hfz123_2⟩ := xT3 (W := w122) BK190.out) | ((with_reducible refine gate_callee (f := 73) rfl ?_); refine xG (some 54) 73 Try.func73 #[.slice Ao114 t183.length co114, .string a1, .int .i64 a2] (h := ?_); (with_reducible refine (spec_l04Put.calls kj3 (fun k_ => some k_ = (.slice Ao114 t183.length co114 : Value).ownBlock) (.slice Ao114 t183.length co114) t183 a1 a2 false t198 w _ ?side1 ?side2 A91.out).mono ?_); (case side1 => exact xW HB.out); (case side2 => exact Kd.R_tight rfl HO185.out); rintro e w124 ⟨rfl, hy0, hb, hkp⟩; refine ⟨_, rfl, ?_⟩; replace BK179 := am (blk_kept (xB BK179.out) hkp (fun hs_ => (fun e_ => (Kd.R_ne HO185.out BK179.out (by decide)) e_) hs_)); replace BK180 := am (blk_kept (xB BK180.out) hkp (fun hs_ => (fun e_ => (Kd.R_ne HO185.out BK180.out (by decide)) e_) hs_)); replace HO188 := am (Kd.R_mono (ok' := fun k_ => some k_ ≠ (.slice Ao114 t183.length co114 : Value).ownBlock) (Kd.R_keptB (HO188.out) hkp (fun k_ hk_ hs_ => (hk_) hs_)) (fun k_ hk_ => hk_.1)); replace BK190 := am (blk_kept (xB BK190.out) hkp (fun hs_ => (fun e_ => (Kd.R_ne HO185.out BK190.out (by decide)) e_) hs_)); replace HO185 := am (Kd.R_reok rfl hy0 (fun k_ e_ => HO185.out.1 k_ e_)); replace HB := am (hb); (try clear hb); (try clear hkp); (try clear hy0); obtain ⟨hcz125_0, hcz125_1, hcz125_2, hfz125_0, hfz125_1, hfz125_2⟩ := xT3 (W := w124) BK180.out))
       refine bodyPost_ret (results_ct rfl _ _ gb180 26 #[.slice none 0 0, .slice none 0 0, .int .i64 0] (0, 0) _ rfl (xP BK180.out) Try.underlying26 rfl (by kernel_rfl)) rfl ?_
       exact ⟨_, _, xV, by first | exact Kd.R_nil _ _ _ _ _ | exact Kd.N_nil _ _ _ _ _ | exact Kd.V_nil _ _ _ _ _ | exact Kd.Q_nil _ _ _ _ _ | exact Kd.S_nil _ _ _ _ _, by first | exact Kd.R_nil _ _ _ _ _ | exact Kd.N_nil _ _ _ _ _ | exact Kd.V_nil _ _ _ _ _ | exact Kd.Q_nil _ _ _ _ _ | exact Kd.S_nil _ _ _ _ _, xW HB.out⟩
def spec_l01Byte.f (s0_0 : List Int) (s0_1 : Int) (s0_2 : Int) : Option (Int × Int × Int) := if s0_1 < (s0_0.length : Int) then (if 0 ≤ s0_1 then (some (Go.bits .and .i64 (wrap64 ((Go.bits .and .i64 (Go.bits .xor .i64 ((wrap64 ((wrap64 (s0_2 * 6364136223846793005)) + 1442695040888963407)) / 8589934592) ((wrap64 ((wrap64 (s0_2 * 6364136223846793005)) + 1442695040888963407)) / 35184372088832)) 255) + (wrap64 (rd s0_0 s0_1)))) 255, wrap64 (s0_1 + 1), wrap64 ((wrap64 (s0_2 * 6364136223846793005)) + 1442695040888963407))) else (none)) else (some (Go.bits .and .i64 (Go.bits .xor .i64 ((wrap64 ((wrap64 (s0_2 * 6364136223846793005)) + 1442695040888963407)) / 8589934592) ((wrap64 ((wrap64 (s0_2 * 6364136223846793005)) + 1442695040888963407)) / 35184372088832)) 255, s0_1, wrap64 ((wrap64 (s0_2 * 6364136223846793005)) + 1442695040888963407)))
set_option maxHeartbeats 8000000 in
set_option maxRecDepth 100000 in
theorem spec_l01Byte.calls (g : Nat) (s0_0 : List Int) (s0_1 : Int) (s0_2 : Int) (r1 : Int) (r2 : Int) (r3 : Int) (w0 w : World) (hI : IsS85 w0 w g s0_0 s0_1 s0_2) (hB : Below w0.heap.size w0 w) (h : spec_l01Byte.f s0_0 s0_1 s0_2 = some (r1, r2, r3)) :
  Calls Try.prog 56 #[.pointer (some ⟨g, 0, none⟩)] w fun e w' => e = .returned (.int .i64 r1) ∧ IsS85 w0 w' g s0_0 r2 r3 ∧ Below w0.heap.size w0 w' ∧ KeepBut w w' g none := by
 have HI0 := am hI
 have HK := am (KeepBut.refl w g none)
 have HL := am hB.size
 clear hI
 have HW0 := am hB.size
 have HB := am hB
 clear hB
 have H : (if s0_1 < (s0_0.length : Int) then (if 0 ≤ s0_1 then (some (Go.bits .and .i64 (wrap64 ((Go.bits .and .i64 (Go.bits .xor .i64 ((wrap64 ((wrap64 (s0_2 * 6364136223846793005)) + 1442695040888963407)) / 8589934592) ((wrap64 ((wrap64 (s0_2 * 6364136223846793005)) + 1442695040888963407)) / 35184372088832)) 255) + (wrap64 (rd s0_0 s0_1)))) 255, wrap64 (s0_1 + 1), wrap64 ((wrap64 (s0_2 * 6364136223846793005)) + 1442695040888963407))) else (none)) else (some (Go.bits .and .i64 (Go.bits .xor .i64 ((wrap64 ((wrap64 (s0_2 * 6364136223846793005)) + 1442695040888963407)) / 8589934592) ((wrap64 ((wrap64 (s0_2 * 6364136223846793005)) + 1442695040888963407)) / 35184372088832)) 255, s0_1, wrap64 ((wrap64 (s0_2 * 6364136223846793005)) + 1442695040888963407)))) = some (r1, r2, r3) := h
 clear h
 by_cases c2 : s0_1 < (s0_0.length : Int)
 ·rw [if_pos c2] at H
  have c2b0 : decide (s0_1 < (s0_0.length : Int)) = true := decide_eq_true c2
  clear c2
  by_cases c3 : 0 ≤ s0_1
  ·rw [if_pos c3] at H
   have c3b0 : decide (0 ≤ s0_1) = true := decide_eq_true c3
   clear c3
   simp only [Option.some.injEq, Prod.mk.injEq] at H
   obtain ⟨rfl, rfl, rfl⟩ := H
   obtain ⟨ASz4_0, cSz4_0, HGz4, hgz4, HSz4_0⟩ := HI0.out
   have hcz4_0 := cellS85_0 HGz4
   have hcz4_1 := cellS85_1 HGz4
   have hcz4_2 := cellS85_2 HGz4
   have hfz4_1 := blk_frozen HGz4 1
   have hfz4_2 := blk_frozen HGz4 2
   clear HGz4 hgz4
   have p199 : 0 ≤ (s0_1 : Int) := of_decide_eq_true (by assumption)
   have q199 : s0_1 < (s0_0.length : Int) := of_decide_eq_true (by assumption)
   obtain ⟨ad199, e199, hx199_0⟩ := Kd.at_int HSz4_0 s0_1 p199 q199
   cases e199
   have hn199_0 : ad199.block ≠ g := Nat.ne_of_lt (Nat.lt_of_lt_of_le (by have := World.block_lt_of_cell? _ _ hx199_0; first | rwa [add_block] at this | exact this) (IsS85.ge HI0.out))
   replace hx199_0 := pw_cell_below HB.out hx199_0
   replace hx199_0 := (cell_far (p := ⟨g, 2, none⟩) (by first | (rw [add_block]; exact hn199_0) | (show (Addr.add _ _).block ≠ _; rw [add_block]; exact hn199_0) | exact hn199_0) (.int .i64 (wrap64 ((wrap64 (s0_2 * 6364136223846793005)) + 1442695040888963407)))).trans hx199_0
   (try have hy199_0 := fun (n_ : Nat) => (show (((w.drewN n_).setCell ⟨g, 2, none⟩ (.int .i64 (wrap64 ((wrap64 (s0_2 * 6364136223846793005)) + 1442695040888963407))))).cell? _ = some _ from hx199_0))
   clear hn199_0
   replace p199 := eq_true p199
   replace q199 := eq_true q199
   go_enter Try.func56, Try.ntmps56
   go_wp2
   repeat (go_quiet (fail); try go_wp2)
   go_ret
   exact ⟨xV, xH85 HI0.out, xWI HB.out (IsS85.ge HI0.out), xK HK.out⟩
  ·rw [if_neg c3] at H
   exact absurd H (by simp)
 ·rw [if_neg c2] at H
  have c2b0 : decide (s0_1 < (s0_0.length : Int)) = false := decide_eq_false c2
  clear c2
  simp only [Option.some.injEq, Prod.mk.injEq] at H
  obtain ⟨rfl, rfl, rfl⟩ := H
  obtain ⟨ASz5_0, cSz5_0, HGz5, hgz5, HSz5_0⟩ := HI0.out
  have hcz5_0 := cellS85_0 HGz5
  have hcz5_1 := cellS85_1 HGz5
  have hcz5_2 := cellS85_2 HGz5
  have hfz5_1 := blk_frozen HGz5 1
  have hfz5_2 := blk_frozen HGz5 2
  clear HGz5 hgz5
  go_enter Try.func56, Try.ntmps56
  go_wp2
  repeat (go_quiet (fail); try go_wp2)
  go_ret
  exact ⟨xV, xH85 HI0.out, xWI HB.out (IsS85.ge HI0.out), xK HK.out⟩
def spec_l01Below.f (s0_0 : List Int) (s0_1 : Int) (s0_2 : Int) (a1 : Int) : Option (Int × Int × Int) := if a1 ≤ 0 then (some (0, s0_1, s0_2)) else (if a1 ≤ 256 then ((spec_l01Byte.f s0_0 s0_1 s0_2).bind fun bt200 => (if a1 = 0 then (none) else (some (Int.tmod bt200.1 a1, bt200.2.1, bt200.2.2)))) else ((spec_l01Byte.f s0_0 s0_1 s0_2).bind fun bt203 => ((spec_l01Byte.f s0_0 bt203.2.1 bt203.2.2).bind fun bt206 => ((spec_l01Byte.f s0_0 bt206.2.1 bt206.2.2).bind fun bt209 => ((spec_l01Byte.f s0_0 bt209.2.1 bt209.2.2).bind fun bt212 => (if a1 = 0 then (none) else (some (Int.tmod (wrap64 ((wrap64 ((wrap64 ((wrap64 (bt203.1 * 16777216)) + (wrap64 (bt206.1 * 65536)))) + (wrap64 (bt209.1 * 256)))) + bt212.1)) a1, bt212.2.1, bt212.2.2))))))))
set_option maxHeartbeats 8000000 in
set_option maxRecDepth 100000 in
theorem spec_l01Below.calls (g : Nat) (s0_0 : List Int) (s0_1 : Int) (s0_2 : Int) (a1 : Int) (r1 : Int) (r2 : Int) (r3 : Int) (w0 w : World) (hI : IsS85 w0 w g s0_0 s0_1 s0_2) (hB : Below w0.heap.size w0 w) (h : spec_l01Below.f s0_0 s0_1 s0_2 a1 = some (r1, r2, r3)) :
  Calls Try.prog 57 #[.pointer (some ⟨g, 0, none⟩), .int .i64 a1] w fun e w' => e = .returned (.int .i64 r1) ∧ IsS85 w0 w' g s0_0 r2 r3 ∧ Below w0.heap.size w0 w' ∧ KeepBut w w' g none := by
 have HI0 := am hI
 have HK := am (KeepBut.refl w g none)
 have HL := am hB.size
 clear hI
 have HW0 := am hB.size
 have HB := am hB
 clear hB
 have H : (if a1 ≤ 0 then (some (0, s0_1, s0_2)) else (if a1 ≤ 256 then ((spec_l01Byte.f s0_0 s0_1 s0_2).bind fun bt200 => (if a1 = 0 then (none) else (some (Int.tmod bt200.1 a1, bt200.2.1, bt200.2.2)))) else ((spec_l01Byte.f s0_0 s0_1 s0_2).bind fun bt203 => ((spec_l01Byte.f s0_0 bt203.2.1 bt203.2.2).bind fun bt206 => ((spec_l01Byte.f s0_0 bt206.2.1 bt206.2.2).bind fun bt209 => ((spec_l01Byte.f s0_0 bt209.2.1 bt209.2.2).bind fun bt212 => (if a1 = 0 then (none) else (some (Int.tmod (wrap64 ((wrap64 ((wrap64 ((wrap64 (bt203.1 * 16777216)) + (wrap64 (bt206.1 * 65536)))) + (wrap64 (bt209.1 * 256)))) + bt212.1)) a1, bt212.2.1, bt212.2.2))))))))) = some (r1, r2, r3) := h
 clear h
 by_cases c3 : a1 ≤ 0
 ·rw [if_pos c3] at H
  have c3b0 : decide (a1 ≤ 0) = true := decide_eq_true c3
  clear c3
  simp only [Option.some.injEq, Prod.mk.injEq] at H
  obtain ⟨rfl, rfl, rfl⟩ := H
  go_enter Try.func57, Try.ntmps57
  go_wp2
  go_ret
  exact ⟨xV, xH85 HI0.out, xWI HB.out (IsS85.ge HI0.out), xK HK.out⟩
 ·rw [if_neg c3] at H
  have c3b0 : decide (a1 ≤ 0) = false := decide_eq_false c3
  clear c3
  by_cases c4 : a1 ≤ 256
  ·rw [if_pos c4] at H
   have c4b0 : decide (a1 ≤ 256) = true := decide_eq_true c4
   clear c4
   replace H := Option.bind_eq_some_iff.mp H
   obtain ⟨⟨t200, t201, t202⟩, A50, H⟩ := H
   try dsimp only at H
   have A5 := am A50
   clear A50
   by_cases c6 : a1 = 0
   ·rw [if_pos c6] at H
    exact absurd H (by simp)
   ·rw [if_neg c6] at H
    have c6b0 : (a1 == 0) = false := beq_eq_false_iff_ne.mpr c6
    have c6b1 : (a1 != 0) = true := bne_iff_ne.mpr c6
    simp only [Option.some.injEq, Prod.mk.injEq] at H
    obtain ⟨rfl, rfl, rfl⟩ := H
    go_enter Try.func57, Try.ntmps57
    go_wp2_with (first | ((with_reducible refine gate_callee (f := 56) rfl ?_); refine xG (some 14) 56 Try.func56 #[.pointer (some ⟨g, 0, none⟩)] (h := ?_); (with_reducible refine (spec_l01Byte.calls g s0_0 s0_1 s0_2 t200 t201 t202 w0 _ ?side1 ?side2 A5.out).mono ?_); (case side1 => exact xH85 HI0.out); (case side2 => exact xWI HB.out (IsS85.ge HI0.out)); rintro e w7 ⟨rfl, hi, hb, hk⟩; refine ⟨_, rfl, ?_⟩; replace HK := am (KeepBut.trans (xK HK.out) hk (.inl rfl)); replace HB := am (hb); replace HI0 := am (hi); (try clear hb); (try clear hk); (try clear hi)))
    go_ret
    exact ⟨xV, xH85 HI0.out, xWI HB.out (IsS85.ge HI0.out), xK HK.out⟩
  ·rw [if_neg c4] at H
   have c4b0 : decide (a1 ≤ 256) = false := decide_eq_false c4
   clear c4
   replace H := Option.bind_eq_some_iff.mp H
   obtain ⟨⟨t203, t204, t205⟩, A80, H⟩ := H
   try dsimp only at H
   have A8 := am A80
   clear A80
   replace H := Option.bind_eq_some_iff.mp H
   obtain ⟨⟨t206, t207, t208⟩, A90, H⟩ := H
   try dsimp only at H
   have A9 := am A90
   clear A90
   replace H := Option.bind_eq_some_iff.mp H
   obtain ⟨⟨t209, t210, t211⟩, A100, H⟩ := H
   try dsimp only at H
   have A10 := am A100
   clear A100
   replace H := Option.bind_eq_some_iff.mp H
   obtain ⟨⟨t212, t213, t214⟩, A110, H⟩ := H
   try dsimp only at H
   have A11 := am A110
   clear A110
   by_cases c12 : a1 = 0
   ·rw [if_pos c12] at H
    exact absurd H (by simp)
   ·rw [if_neg c12] at H
    have c12b0 : (a1 == 0) = false := beq_eq_false_iff_ne.mpr c12
    have c12b1 : (a1 != 0) = true := bne_iff_ne.mpr c12
    simp only [Option.some.injEq, Prod.mk.injEq] at H
    obtain ⟨rfl, rfl, rfl⟩ := H
    go_enter Try.func57, Try.ntmps57
    go_wp2_with (first | ((with_reducible refine gate_callee (f := 56) rfl ?_); refine xG (some 18) 56 Try.func56 #[.pointer (some ⟨g, 0, none⟩)] (h := ?_); (with_reducible refine (spec_l01Byte.calls g s0_0 s0_1 s0_2 t203 t204 t205 w0 _ ?side1 ?side2 A8.out).mono ?_); (case side1 => exact xH85 HI0.out); (case side2 => exact xWI HB.out (IsS85.ge HI0.out)); rintro e w13 ⟨rfl, hi, hb, hk⟩; refine ⟨_, rfl, ?_⟩; replace HK := am (KeepBut.trans (xK HK.out) hk (.inl rfl)); replace HB := am (hb); replace HI0 := am (hi); (try clear hb); (try clear hk); (try clear hi)) | ((with_reducible refine gate_callee (f := 56) rfl ?_); refine xG (some 20) 56 Try.func56 #[.pointer (some ⟨g, 0, none⟩)] (h := ?_); (with_reducible refine (spec_l01Byte.calls g s0_0 t204 t205 t206 t207 t208 w0 _ ?side1 ?side2 A9.out).mono ?_); (case side1 => exact xH85 HI0.out); (case side2 => exact xWI HB.out (IsS85.ge HI0.out)); rintro e w14 ⟨rfl, hi, hb, hk⟩; refine ⟨_, rfl, ?_⟩; replace HK := am (KeepBut.trans (xK HK.out) hk (.inl rfl)); replace HB := am (hb); replace HI0 := am (hi); (try clear hb); (try clear hk); (try clear hi)) | ((with_reducible refine gate_callee (f := 56) rfl ?_); refine xG (some 22) 56 Try.func56 #[.pointer (some ⟨g, 0, none⟩)] (h := ?_); (with_reducible refine (spec_l01Byte.calls g s0_0 t207 t208 t209 t210 t211 w0 _ ?side1 ?side2 A10.out).mono ?_); (case side1 => exact xH85 HI0.out); (case side2 => exact xWI HB.out (IsS85.ge HI0.out)); rintro e w15 ⟨rfl, hi, hb, hk⟩; refine ⟨_, rfl, ?_⟩; replace HK := am (KeepBut.trans (xK HK.out) hk (.inl rfl)); replace HB := am (hb); replace HI0 := am (hi); (try clear hb); (try clear hk); (try clear hi)) | ((with_reducible refine gate_callee (f := 56) rfl ?_); refine xG (some 24) 56 Try.func56 #[.pointer (some ⟨g, 0, none⟩)] (h := ?_); (with_reducible refine (spec_l01Byte.calls g s0_0 t210 t211 t212 t213 t214 w0 _ ?side1 ?side2 A11.out).mono ?_); (case side1 => exact xH85 HI0.out); (case side2 => exact xWI HB.out (IsS85.ge HI0.out)); rintro e w16 ⟨rfl, hi, hb, hk⟩; refine ⟨_, rfl, ?_⟩; replace HK := am (KeepBut.trans (xK HK.out) hk (.inl rfl)); replace HB := am (hb); replace HI0 := am (hi); (try clear hb); (try clear hk); (try clear hi)))
    go_ret
    exact ⟨xV, xH85 HI0.out, xWI HB.out (IsS85.ge HI0.out), xK HK.out⟩
def spec_l01Pick.f (s0_0 : List Int) (s0_1 : Int) (s0_2 : Int) (l1 : List ByteArray) : Option (ByteArray × Int × Int) := (spec_l01Below.f s0_0 s0_1 s0_2 (l1.length : Int)).bind fun bt215 => (if 0 ≤ bt215.1 then (if bt215.1 < (l1.length : Int) then (some (rdOf ByteArray.empty l1 bt215.1, bt215.2.1, bt215.2.2)) else (none)) else (none))
set_option maxHeartbeats 8000000 in
set_option maxRecDepth 100000 in
theorem spec_l01Pick.calls (g : Nat) (s0_0 : List Int) (s0_1 : Int) (s0_2 : Int) (A1 : Option Addr) (c1 : Nat) (l1 : List ByteArray) (r1 : ByteArray) (r2 : Int) (r3 : Int) (w0 w : World) (hI : IsS85 w0 w g s0_0 s0_1 s0_2) (hB : Below w0.heap.size w0 w) (hr1 : Kd.C Kd.string w A1 l1.length l1) (hc1 : l1.length ≤ c1) (hf1 : ∀ ad, A1 = some ad → 0 < l1.length → ad.block ≠ g) (h : spec_l01Pick.f s0_0 s0_1 s0_2 l1 = some (r1, r2, r3)) :
  Calls Try.prog 79 #[.pointer (some ⟨g, 0, none⟩), .slice A1 l1.length c1] w fun e w' => e = .returned (.string r1) ∧ IsS85 w0 w' g s0_0 r2 r3 ∧ Below w0.heap.size w0 w' ∧ KeepBut w w' g none := by
 have HR1 := am hr1
 have HC1 := am hc1
 clear hr1 hc1
 have HI0 := am hI
 have HK := am (KeepBut.refl w g none)
 have HL := am hB.size
 clear hI
 have HW0 := am hB.size
 have HB := am hB
 clear hB
 have H : ((spec_l01Below.f s0_0 s0_1 s0_2 (l1.length : Int)).bind fun bt215 => (if 0 ≤ bt215.1 then (if bt215.1 < (l1.length : Int) then (some (rdOf ByteArray.empty l1 bt215.1, bt215.2.1, bt215.2.2)) else (none)) else (none))) = some (r1, r2, r3) := h
 clear h
 replace H := Option.bind_eq_some_iff.mp H
 obtain ⟨⟨t215, t216, t217⟩, A30, H⟩ := H
 try dsimp only at H
 have A3 := am A30
 clear A30
 by_cases c4 : 0 ≤ t215
 ·rw [if_pos c4] at H
  have c4b0 : decide (0 ≤ t215) = true := decide_eq_true c4
  clear c4
  by_cases c5 : t215 < (l1.length : Int)
  ·rw [if_pos c5] at H
   have c5b0 : decide (t215 < (l1.length : Int)) = true := decide_eq_true c5
   clear c5
   simp only [Option.some.injEq, Prod.mk.injEq] at H
   obtain ⟨rfl, rfl, rfl⟩ := H
   go_enter Try.func79, Try.ntmps79
   go_wp2_with (first | ((with_reducible refine gate_callee (f := 57) rfl ?_); refine xG (some 9) 57 Try.func57 #[.pointer (some ⟨g, 0, none⟩), .int .i64 (l1.length : Int)] (h := ?_); (with_reducible refine (spec_l01Below.calls g s0_0 s0_1 s0_2 (l1.length : Int) t215 t216 t217 w0 _ ?side1 ?side2 A3.out).mono ?_); (case side1 => exact xH85 HI0.out); (case side2 => exact xWI HB.out (IsS85.ge HI0.out)); rintro e w6 ⟨rfl, hi, hb, hk⟩; refine ⟨_, rfl, ?_⟩; replace HK := am (KeepBut.trans (xK HK.out) hk (.inl rfl)); replace HB := am (hb); replace HI0 := am (hi); (try clear hb); (try clear hk); (try clear hi); have p218 : 0 ≤ (t215 : Int) := of_decide_eq_true (by assumption); have q218 : t215 < (l1.length : Int) := of_decide_eq_true (by assumption); obtain ⟨ad218, e218, hx218_0⟩ := Kd.at_string HR1.out t215 p218 q218; cases e218; replace hx218_0 := keep_cell HK.out hx218_0 (by first | (rw [add_block]; exact hf1 _ rfl (by omega)) | exact hf1 _ rfl (by omega) | exact hf1 ad218 rfl (by omega)); replace p218 := eq_true p218; replace q218 := eq_true q218))
   go_ret
   exact ⟨xV, xH85 HI0.out, xWI HB.out (IsS85.ge HI0.out), xK HK.out⟩
  ·rw [if_neg c5] at H
   exact absurd H (by simp)
 ·rw [if_neg c4] at H
  exact absurd H (by simp)
def spec_l03Key.f (s0_0 : List Int) (s0_1 : Int) (s0_2 : Int) : Option (ByteArray × Int × Int) := (spec_l01Pick.f s0_0 s0_1 s0_2 (([(⟨#[97]⟩ : ByteArray), (⟨#[98]⟩ : ByteArray), (⟨#[99]⟩ : ByteArray), (⟨#[100]⟩ : ByteArray), (⟨#[101]⟩ : ByteArray), (⟨#[102]⟩ : ByteArray), (⟨#[103]⟩ : ByteArray), (⟨#[104]⟩ : ByteArray), (⟨#[107, 49]⟩ : ByteArray), (⟨#[107, 50]⟩ : ByteArray), (⟨#[107, 51]⟩ : ByteArray), (⟨#[107, 101, 121]⟩ : ByteArray)] : List ByteArray))).bind fun bt222 => (some (bt222.1, bt222.2.1, bt222.2.2))
set_option maxHeartbeats 8000000 in
set_option maxRecDepth 100000 in
theorem spec_l03Key.calls (g : Nat) (s0_0 : List Int) (s0_1 : Int) (s0_2 : Int) (r1 : ByteArray) (r2 : Int) (r3 : Int) (w0 w : World) (hI : IsS85 w0 w g s0_0 s0_1 s0_2) (hB : Below w0.heap.size w0 w) (h : spec_l03Key.f s0_0 s0_1 s0_2 = some (r1, r2, r3)) :
  Calls Try.prog 46 #[.pointer (some ⟨g, 0, none⟩)] w fun e w' => e = .returned (.string r1) ∧ IsS85 w0 w' g s0_0 r2 r3 ∧ Below w0.heap.size w0 w' ∧ KeepBut w w' g none := by
 have HI0 := am hI
 have HK := am (KeepBut.refl w g none)
 have HL := am hB.size
 clear hI
 have HW0 := am hB.size
 have HB := am hB
 clear hB
 have H : ((spec_l01Pick.f s0_0 s0_1 s0_2 (([(⟨#[97]⟩ : ByteArray), (⟨#[98]⟩ : ByteArray), (⟨#[99]⟩ : ByteArray), (⟨#[100]⟩ : ByteArray), (⟨#[101]⟩ : ByteArray), (⟨#[102]⟩ : ByteArray), (⟨#[103]⟩ : ByteArray), (⟨#[104]⟩ : ByteArray), (⟨#[107, 49]⟩ : ByteArray), (⟨#[107, 50]⟩ : ByteArray), (⟨#[107, 51]⟩ : ByteArray), (⟨#[107, 101, 121]⟩ : ByteArray)] : List ByteArray))).bind fun bt222 => (some (bt222.1, bt222.2.1, bt222.2.2))) = some (r1, r2, r3) := h
 clear h
 obtain ⟨y219, hy219⟩ : ∃ y_ : List ByteArray, y_ = (([(⟨#[97]⟩ : ByteArray), (⟨#[98]⟩ : ByteArray), (⟨#[99]⟩ : ByteArray), (⟨#[100]⟩ : ByteArray), (⟨#[101]⟩ : ByteArray), (⟨#[102]⟩ : ByteArray), (⟨#[103]⟩ : ByteArray), (⟨#[104]⟩ : ByteArray), (⟨#[107, 49]⟩ : ByteArray), (⟨#[107, 50]⟩ : ByteArray), (⟨#[107, 51]⟩ : ByteArray), (⟨#[107, 101, 121]⟩ : ByteArray)] : List ByteArray)) := ⟨_, rfl⟩
 replace H : ((spec_l01Pick.f s0_0 s0_1 s0_2 y219).bind fun bt222 => (some (bt222.1, bt222.2.1, bt222.2.2))) = some (r1, r2, r3) := by first | (rw [hy219]; with_reducible exact H) | (have H2_ := (Option.bind_some _ _).symm.trans H; rw [hy219]; with_reducible exact H2_) | (have H2_ := (Option.bind_some _ _).symm.trans H; with_reducible exact H2_) | with_reducible exact H | (rw [hy219]; exact H) | exact H
 have Ny219 := am hy219
 clear hy219
 replace H := Option.bind_eq_some_iff.mp H
 obtain ⟨⟨t222, t223, t224⟩, A20, H⟩ := H
 replace H : (some (t222, t223, t224)) = some (r1, r2, r3) := H
 have A2 := am A20
 clear A20
 simp only [Option.some.injEq, Prod.mk.injEq] at H
 obtain ⟨rfl, rfl, rfl⟩ := H
 go_enter Try.func46, Try.ntmps46
 go_wp2_with (first | ((with_reducible refine gate_dst (N := 4) rfl ?_); refine Kd.R_lit Kd.string _ 9 ?hg (N := 4) ?hd (xs := ([(⟨#[97]⟩ : ByteArray), (⟨#[98]⟩ : ByteArray), (⟨#[99]⟩ : ByteArray), (⟨#[100]⟩ : ByteArray), (⟨#[101]⟩ : ByteArray), (⟨#[102]⟩ : ByteArray), (⟨#[103]⟩ : ByteArray), (⟨#[104]⟩ : ByteArray), (⟨#[107, 49]⟩ : ByteArray), (⟨#[107, 50]⟩ : ByteArray), (⟨#[107, 51]⟩ : ByteArray), (⟨#[107, 101, 121]⟩ : ByteArray)] : List ByteArray)) (inner := [.string (⟨#[97]⟩ : ByteArray), .string (⟨#[98]⟩ : ByteArray), .string (⟨#[99]⟩ : ByteArray), .string (⟨#[100]⟩ : ByteArray), .string (⟨#[101]⟩ : ByteArray), .string (⟨#[102]⟩ : ByteArray), .string (⟨#[103]⟩ : ByteArray), .string (⟨#[104]⟩ : ByteArray), .string (⟨#[107, 49]⟩ : ByteArray), .string (⟨#[107, 50]⟩ : ByteArray), .string (⟨#[107, 51]⟩ : ByteArray), .string (⟨#[107, 101, 121]⟩ : ByteArray)]) (ok := fun _ => True) (okp := fun _ => True) ?hr ?hp (fun _ hk => hk) trivial (Below.refl _ _) (Nat.le_refl _) (by simp) ?_; (case hd => rfl); (case hg => rfl); (case hr => first | (go_simp; done) | (go_simp; rfl)); (case hp => exact (Reps.one (show Kd.M Kd.string _ _ _ (⟨#[97]⟩ : ByteArray) [.string (⟨#[97]⟩ : ByteArray)] from rfl) (Reps.one (show Kd.M Kd.string _ _ _ (⟨#[98]⟩ : ByteArray) [.string (⟨#[98]⟩ : ByteArray)] from rfl) (Reps.one (show Kd.M Kd.string _ _ _ (⟨#[99]⟩ : ByteArray) [.string (⟨#[99]⟩ : ByteArray)] from rfl) (Reps.one (show Kd.M Kd.string _ _ _ (⟨#[100]⟩ : ByteArray) [.string (⟨#[100]⟩ : ByteArray)] from rfl) (Reps.one (show Kd.M Kd.string _ _ _ (⟨#[101]⟩ : ByteArray) [.string (⟨#[101]⟩ : ByteArray)] from rfl) (Reps.one (show Kd.M Kd.string _ _ _ (⟨#[102]⟩ : ByteArray) [.string (⟨#[102]⟩ : ByteArray)] from rfl) (Reps.one (show Kd.M Kd.string _ _ _ (⟨#[103]⟩ : ByteArray) [.string (⟨#[103]⟩ : ByteArray)] from rfl) (Reps.one (show Kd.M Kd.string _ _ _ (⟨#[104]⟩ : ByteArray) [.string (⟨#[104]⟩ : ByteArray)] from rfl) (Reps.one (show Kd.M Kd.string _ _ _ (⟨#[107, 49]⟩ : ByteArray) [.string (⟨#[107, 49]⟩ : ByteArray)] from rfl) (Reps.one (show Kd.M Kd.string _ _ _ (⟨#[107, 50]⟩ : ByteArray) [.string (⟨#[107, 50]⟩ : ByteArray)] from rfl) (Reps.one (show Kd.M Kd.string _ _ _ (⟨#[107, 51]⟩ : ByteArray) [.string (⟨#[107, 51]⟩ : ByteArray)] from rfl) (Reps.one (show Kd.M Kd.string _ _ _ (⟨#[107, 101, 121]⟩ : ByteArray) [.string (⟨#[107, 101, 121]⟩ : ByteArray)] from rfl) (Reps.none _ _)))))))))))))); intro v220 w3 ho4 hb hg_ hnew_; clear hg_ hnew_; (first | rw [← Ny219.out] at ho4 | (simp only [Int.reduceToNat] at ho4; rw [← Ny219.out] at ho4)); have HO221 := am (Kd.R_lower ho4 (xKZ HK.out)); replace HK := am (xKB HK.out hb); replace HB := am (below_step (xWI HB.out (IsS85.ge HI0.out)) hb); replace HI0 := am (IsS85.below (xH85 HI0.out) hb); clear hb ho4; obtain ⟨Ao5, co5, eo5⟩ := Kd.R_slice HO221.out; subst eo5) | ((with_reducible refine gate_callee (f := 79) rfl ?_); refine xG (some 5) 79 Try.func79 #[.pointer (some ⟨g, 0, none⟩), .slice Ao5 y219.length co5] (h := ?_); (with_reducible refine (spec_l01Pick.calls g s0_0 s0_1 s0_2 _ _ y219 t222 t223 t224 w0 _ ?side1 ?side2 ?side3 ?side4 ?side5 A2.out).mono ?_); (case side1 => exact xH85 HI0.out); (case side2 => exact xWI HB.out (IsS85.ge HI0.out)); (case side3 => exact xC ((Kd.R_reads' HO221.out).2.2)); (case side4 => exact (Kd.R_reads' HO221.out).2.1); (case side5 => exact far_slice (IsS85.own_ne HI0.out HO221.out (by decide))); rintro e w6 ⟨rfl, hi, hb, hk⟩; refine ⟨_, rfl, ?_⟩; replace HO221 := am (Kd.R_mono (Kd.R_keep (IsS85.apart (show IsS85 w0 _ g s0_0 s0_1 s0_2 from xH85 HI0.out) (xR HO221.out) (by decide)) hk (fun _ h => h.2)) (fun _ h => h.1)); replace HK := am (KeepBut.trans (xK HK.out) hk (.inl rfl)); replace HB := am (hb); replace HI0 := am (hi); (try clear hb); (try clear hk); (try clear hi)))
 go_ret
 exact ⟨xV, xH85 HI0.out, xWI HB.out (IsS85.ge HI0.out), xK HK.out⟩
def spec_TableNew.f (k : Nat) (a0 : Int) : Option ((List (S57)) × (List (S57)) × Int × Bool) := (spec_l04Size.f a0).bind fun t226 => (if t226 = true then ((spec_l04Cells.f k a0).bind fun t227 => (some (t227, ([] : List (S57)), 0, true))) else (some (([] : List (S57)), ([] : List (S57)), 0, false)))
set_option maxHeartbeats 8000000 in
set_option maxRecDepth 100000 in
theorem spec_TableNew.calls (k : Nat) (a0 : Int) (r1 : List (S57)) (r2 : List (S57)) (r3 : Int) (r4 : Bool) (w : World) (h : spec_TableNew.f k a0 = some (r1, r2, r3, r4)) :
  Calls Try.prog 76 #[.int .i64 a0] w fun e w' => ∃ v0_ v1_ : Value, e = .returned (.tuple #[.agg #[v0_, v1_, .int .i64 r3], .bool r4]) ∧ Kd.R k57 57 w' w.heap.size (fun k_ => some k_ ≠ (v1_ : Value).ownBlock) v0_ r1 ∧ Kd.R k57 57 w' w.heap.size (fun k_ => some k_ ≠ (v0_ : Value).ownBlock) v1_ r2 ∧ Below w.heap.size w w' := by
 have hu26 := Try.underlying26
 have HB := am (Below.refl w.heap.size w)
 have H : ((spec_l04Size.f a0).bind fun t226 => (if t226 = true then ((spec_l04Cells.f k a0).bind fun t227 => (some (t227, ([] : List (S57)), 0, true))) else (some (([] : List (S57)), ([] : List (S57)), 0, false)))) = some (r1, r2, r3, r4) := h
 clear h
 replace H := Option.bind_eq_some_iff.mp H
 obtain ⟨t226, A20, H⟩ := H
 try dsimp only at H
 have A2 := am A20
 clear A20
 by_cases c3 : t226 = true
 ·subst c3
  have H1 : ((spec_l04Cells.f k a0).bind fun t227 => (some (t227, ([] : List (S57)), 0, true))) = some (r1, r2, r3, r4) := by rw [if_pos rfl] at H; exact H
  clear H
  have H := H1
  clear H1
  replace H := Option.bind_eq_some_iff.mp H
  obtain ⟨t227, A40, H⟩ := H
  try dsimp only at H
  have A4 := am A40
  clear A40
  simp only [Option.some.injEq, Prod.mk.injEq] at H
  obtain ⟨rfl, rfl, rfl, rfl⟩ := H
  go_enter Try.func76, Try.ntmps76
  go_wp2_with (first | ((with_reducible refine gate_dst (N := 2) rfl ?_); refine xE (N := 2) (cs := #[.slice none 0 0, .slice none 0 0, .int .i64 0]) (t := 26) (h := ?_); intro gb225 hg w5 hbox hb; have BK225 := am (hbox); have GW225 := am (xS hg HB.out); have GE225 := am (xS hg HB.out); replace HB := am (below_step (xW HB.out) hb); clear hb hbox hg) | ((with_reducible refine gate_callee (f := 61) rfl ?_); refine xG (some 5) 61 Try.func61 #[.int .i64 a0] (h := ?_); (with_reducible refine (spec_l04Size.calls a0 true _ A2.out).mono ?_); rintro e w' ⟨rfl, ⟨nd, rfl⟩⟩; refine ⟨_, rfl, ?_⟩; (try (rw [drewN_self w5]; generalize hq_ : World.drewN w5 _ = w5; have n0_ : Aside0 (w5.heap[gb225]? = some (.cells #[.slice none 0 0, .slice none 0 0, .int .i64 0] 26 (0, 0))) := ⟨by rw [← hq_]; exact (xB BK225.out)⟩; have n1_ : Aside0 (Below w.heap.size w w5) := ⟨by rw [← hq_]; exact (xW HB.out)⟩; clear BK225 HB hq_; have BK225 := n0_; have HB := n1_; clear n0_ n1_))) | ((with_reducible refine gate_callee (f := 72) rfl ?_); refine xG (some 9) 72 Try.func72 #[.int .i64 a0] (h := ?_); (with_reducible refine (spec_l04Cells.calls k a0 t227 _ A4.out).mono ?_); rintro e w6 ⟨v228, rfl, ho0, hb⟩; refine ⟨_, rfl, ?_⟩; have HO229 := am (Kd.R_lower ho0 (below_size (xW HB.out))); replace BK225 := am (blk_below (xB BK225.out) hb); replace HB := am (below_step (xW HB.out) hb); (try clear hb); (try clear ho0); obtain ⟨Ao7, co7, eo7⟩ := Kd.R_slice HO229.out; subst eo7; obtain ⟨hcz8_0, hcz8_1, hcz8_2, hfz8_0, hfz8_1, hfz8_2⟩ := xT3 (W := w6) BK225.out))
  refine bodyPost_ret (results_ct rfl _ _ gb225 26 #[.slice Ao7 t227.length co7, .slice none 0 0, .int .i64 0] (0, 0) _ rfl (xP BK225.out) Try.underlying26 rfl (by kernel_rfl)) rfl ?_
  exact ⟨_, _, xV, by (with_reducible repeat (first | apply Kd.R_alloc | apply Kd.R_drewN | apply Kd.R_drew)); exact Kd.R_mono (Kd.R_far (p := ⟨gb225, 2, none⟩) (Kd.R_far (p := ⟨gb225, 1, none⟩) (Kd.R_far (p := ⟨gb225, 0, none⟩) (Kd.R_types HO229.out BK225.out (by decide)) (fun _ hk => hk.2) (.slice Ao7 t227.length co7)) (fun _ hk => hk.2) (.slice none 0 0)) (fun _ hk => hk.2) (.int .i64 0)) (fun _ hk => (by simp [Value.ownBlock])), by first | exact Kd.R_nil _ _ _ _ _ | exact Kd.N_nil _ _ _ _ _ | exact Kd.V_nil _ _ _ _ _ | exact Kd.Q_nil _ _ _ _ _ | exact Kd.S_nil _ _ _ _ _, xW HB.out⟩
 ·replace c3 := Bool.eq_false_iff.mpr c3
  subst c3
  have H1 : (some (([] : List (S57)), ([] : List (S57)), 0, false)) = some (r1, r2, r3, r4) := by rw [if_neg (show ¬ (false = true) by decide)] at H; exact H
  clear H
  have H := H1
  clear H1
  simp only [Option.some.injEq, Prod.mk.injEq] at H
  obtain ⟨rfl, rfl, rfl, rfl⟩ := H
  go_enter Try.func76, Try.ntmps76
  go_wp2_with (first | ((with_reducible refine gate_dst (N := 2) rfl ?_); refine xE (N := 2) (cs := #[.slice none 0 0, .slice none 0 0, .int .i64 0]) (t := 26) (h := ?_); intro gb225 hg w9 hbox hb; have BK225 := am (hbox); have GW225 := am (xS hg HB.out); have GE225 := am (xS hg HB.out); replace HB := am (below_step (xW HB.out) hb); clear hb hbox hg) | ((with_reducible refine gate_callee (f := 61) rfl ?_); refine xG (some 5) 61 Try.func61 #[.int .i64 a0] (h := ?_); (with_reducible refine (spec_l04Size.calls a0 false _ A2.out).mono ?_); rintro e w' ⟨rfl, ⟨nd, rfl⟩⟩; refine ⟨_, rfl, ?_⟩; (try (rw [drewN_self w9]; generalize hq_ : World.drewN w9 _ = w9; have n0_ : Aside0 (w9.heap[gb225]? = some (.cells #[.slice none 0 0, .slice none 0 0, .int .i64 0] 26 (0, 0))) := ⟨by rw [← hq_]; exact (xB BK225.out)⟩; have n1_ : Aside0 (Below w.heap.size w w9) := ⟨by rw [← hq_]; exact (xW HB.out)⟩; clear BK225 HB hq_; have BK225 := n0_; have HB := n1_; clear n0_ n1_)); obtain ⟨hcz10_0, hcz10_1, hcz10_2, hfz10_0, hfz10_1, hfz10_2⟩ := xT3 (W := w9) BK225.out))
  refine bodyPost_ret (results_ct rfl _ _ gb225 26 #[.slice none 0 0, .slice none 0 0, .int .i64 0] (0, 0) _ rfl (xP BK225.out) Try.underlying26 rfl (by kernel_rfl)) rfl ?_
  exact ⟨_, _, xV, by first | exact Kd.R_nil _ _ _ _ _ | exact Kd.N_nil _ _ _ _ _ | exact Kd.V_nil _ _ _ _ _ | exact Kd.Q_nil _ _ _ _ _ | exact Kd.S_nil _ _ _ _ _, by first | exact Kd.R_nil _ _ _ _ _ | exact Kd.N_nil _ _ _ _ _ | exact Kd.V_nil _ _ _ _ _ | exact Kd.Q_nil _ _ _ _ _ | exact Kd.S_nil _ _ _ _ _, xW HB.out⟩
def spec_l01PickInt.f (s0_0 : List Int) (s0_1 : Int) (s0_2 : Int) (l1 : List Int) : Option (Int × Int × Int) := (spec_l01Below.f s0_0 s0_1 s0_2 (l1.length : Int)).bind fun bt230 => (if 0 ≤ bt230.1 then (if bt230.1 < (l1.length : Int) then (some (rd l1 bt230.1, bt230.2.1, bt230.2.2)) else (none)) else (none))
set_option maxHeartbeats 8000000 in
set_option maxRecDepth 100000 in
theorem spec_l01PickInt.calls (g : Nat) (s0_0 : List Int) (s0_1 : Int) (s0_2 : Int) (A1 : Option Addr) (c1 : Nat) (l1 : List Int) (r1 : Int) (r2 : Int) (r3 : Int) (w0 w : World) (hI : IsS85 w0 w g s0_0 s0_1 s0_2) (hB : Below w0.heap.size w0 w) (hr1 : Kd.C (Kd.int .i64) w A1 l1.length l1) (hc1 : l1.length ≤ c1) (hf1 : ∀ ad, A1 = some ad → 0 < l1.length → ad.block ≠ g) (h : spec_l01PickInt.f s0_0 s0_1 s0_2 l1 = some (r1, r2, r3)) :
  Calls Try.prog 77 #[.pointer (some ⟨g, 0, none⟩), .slice A1 l1.length c1] w fun e w' => e = .returned (.int .i64 r1) ∧ IsS85 w0 w' g s0_0 r2 r3 ∧ Below w0.heap.size w0 w' ∧ KeepBut w w' g none := by
 have HR1 := am hr1
 have HC1 := am hc1
 clear hr1 hc1
 have HI0 := am hI
 have HK := am (KeepBut.refl w g none)
 have HL := am hB.size
 clear hI
 have HW0 := am hB.size
 have HB := am hB
 clear hB
 have H : ((spec_l01Below.f s0_0 s0_1 s0_2 (l1.length : Int)).bind fun bt230 => (if 0 ≤ bt230.1 then (if bt230.1 < (l1.length : Int) then (some (rd l1 bt230.1, bt230.2.1, bt230.2.2)) else (none)) else (none))) = some (r1, r2, r3) := h
 clear h
 replace H := Option.bind_eq_some_iff.mp H
 obtain ⟨⟨t230, t231, t232⟩, A30, H⟩ := H
 try dsimp only at H
 have A3 := am A30
 clear A30
 by_cases c4 : 0 ≤ t230
 ·rw [if_pos c4] at H
  have c4b0 : decide (0 ≤ t230) = true := decide_eq_true c4
  clear c4
  by_cases c5 : t230 < (l1.length : Int)
  ·rw [if_pos c5] at H
   have c5b0 : decide (t230 < (l1.length : Int)) = true := decide_eq_true c5
   clear c5
   simp only [Option.some.injEq, Prod.mk.injEq] at H
   obtain ⟨rfl, rfl, rfl⟩ := H
   go_enter Try.func77, Try.ntmps77
   go_wp2_with (first | ((with_reducible refine gate_callee (f := 57) rfl ?_); refine xG (some 9) 57 Try.func57 #[.pointer (some ⟨g, 0, none⟩), .int .i64 (l1.length : Int)] (h := ?_); (with_reducible refine (spec_l01Below.calls g s0_0 s0_1 s0_2 (l1.length : Int) t230 t231 t232 w0 _ ?side1 ?side2 A3.out).mono ?_); (case side1 => exact xH85 HI0.out); (case side2 => exact xWI HB.out (IsS85.ge HI0.out)); rintro e w6 ⟨rfl, hi, hb, hk⟩; refine ⟨_, rfl, ?_⟩; replace HK := am (KeepBut.trans (xK HK.out) hk (.inl rfl)); replace HB := am (hb); replace HI0 := am (hi); (try clear hb); (try clear hk); (try clear hi); have p233 : 0 ≤ (t230 : Int) := of_decide_eq_true (by assumption); have q233 : t230 < (l1.length : Int) := of_decide_eq_true (by assumption); obtain ⟨ad233, e233, hx233_0⟩ := Kd.at_int HR1.out t230 p233 q233; cases e233; replace hx233_0 := keep_cell HK.out hx233_0 (by first | (rw [add_block]; exact hf1 _ rfl (by omega)) | exact hf1 _ rfl (by omega) | exact hf1 ad233 rfl (by omega)); replace p233 := eq_true p233; replace q233 := eq_true q233))
   go_ret
   exact ⟨xV, xH85 HI0.out, xWI HB.out (IsS85.ge HI0.out), xK HK.out⟩
  ·rw [if_neg c5] at H
   exact absurd H (by simp)
 ·rw [if_neg c4] at H
  exact absurd H (by simp)
end Go.Proofs.Ytmahoekbedgbcaa.HFnGrows
