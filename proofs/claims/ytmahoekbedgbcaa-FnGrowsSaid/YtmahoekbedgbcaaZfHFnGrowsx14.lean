/- What the row of the law needs of the printed and the plain texts. -/
import Derived.Test.YtmahoekbedgbcaaZfHX
import Derived.Test.YtmahoekbedgbcaaZfHFnGrowsx0
import Derived.Test.YtmahoekbedgbcaaZfHFnGrowsx12
import Derived.Test.YtmahoekbedgbcaaZfHFnGrowsx13
namespace Go.Proofs.Ytmahoekbedgbcaa.HFnGrows
open Go.RowKit Go.Proofs.YtmahoekbedgbcaaW.PrintWords Go.Proofs.YtmahoekbedgbcaaW.PrintLast Go.Proofs.YtmahoekbedgbcaaW.PrintMore
attribute [local go_sem] max2_int min2_int max_two min_two max_three min_three max_four min_four
set_option linter.unusedVariables false
set_option linter.unusedSimpArgs false
mutual
def impl_MoveSome.j0 : Nat → Int → Bool → List (S57) → List (S57) → Int → Option ((List (S57)) × (List (S57)) × Int)
 | 0, _, _, _, _, _ => none
 | k + 1, x1, x15, x424000, x424001, x424002 => if x15 = true then (some (x424000, x424001, x424002)) else (impl_MoveSome.l0 k x1 x424000 x424001 x424002)
def impl_MoveSome.l0 : Nat → Int → List (S57) → List (S57) → Int → Option ((List (S57)) × (List (S57)) × Int)
 | 0, _, _, _, _ => none
 | k + 1, x1, x424000, x424001, x424002 => if x1 > 0 then (impl_MoveSome.j2 k x1 (decide (x424002 < (x424001.length : Int))) x424000 x424001 x424002) else (impl_MoveSome.j2 k x1 false x424000 x424001 x424002)
def impl_MoveSome.j2 : Nat → Int → Bool → List (S57) → List (S57) → Int → Option ((List (S57)) × (List (S57)) × Int)
 | 0, _, _, _, _, _ => none
 | k + 1, x1, x26, x424000, x424001, x424002 => if x26 = true then (if 0 ≤ x424002 then (if x424002 < (x424001.length : Int) then (if ((rd_T57 x424001 x424002).f0).toList = ([] : List UInt8) then (impl_MoveSome.l0 k (wrap64 (x1 - 1)) x424000 (x424001.set (x424002 : Int).toNat (⟨(⟨#[]⟩ : ByteArray), (-2)⟩ : S57)) (wrap64 (x424002 + 1))) else ((impl_Table_put.f k x424000 x424001 x424002 ((rd_T57 x424001 x424002).f0) ((rd_T57 x424001 x424002).f1)).bind fun bt428 => (if bt428.1 = true then (impl_MoveSome.l0 k (wrap64 (x1 - 1)) bt428.2.1 (bt428.2.2.set (x424002 : Int).toNat (⟨(⟨#[]⟩ : ByteArray), (-2)⟩ : S57)) (wrap64 (x424002 + 1))) else (some (bt428.2.1, bt428.2.2, x424002))))) else (none)) else (none)) else (if x424002 = (x424001.length : Int) then (some (x424000, ([] : List (S57)), 0)) else (some (x424000, x424001, x424002)))
end
def impl_MoveSome.f (k : Nat) (l0_0 : List (S57)) (l0_1 : List (S57)) (a0_2 : Int) (a1 : Int) : Option ((List (S57)) × (List (S57)) × Int) := (impl_copyTable.f l0_0 l0_1 a0_2).bind fun bt416 => (if a1 < 1 then (impl_MoveSome.j0 k a1 true bt416.1 bt416.2.1 bt416.2.2) else ((impl_TableOk.f k l0_0 l0_1 a0_2).bind fun t424 => (impl_MoveSome.j0 k a1 (!t424) bt416.1 bt416.2.1 bt416.2.2)))
set_option maxHeartbeats 8000000 in
set_option maxRecDepth 100000 in
theorem impl_MoveSome.calls (k : Nat) (A0_0 : Option Addr) (c0_0 : Nat) (l0_0 : List (S57)) (A0_1 : Option Addr) (c0_1 : Nat) (l0_1 : List (S57)) (a0_2 : Int) (a1 : Int) (r1 : List (S57)) (r2 : List (S57)) (r3 : Int) (w : World) (hr0_0 : Kd.C k57 w A0_0 l0_0.length l0_0) (hc0_0 : l0_0.length ≤ c0_0) (hr0_1 : Kd.C k57 w A0_1 l0_1.length l0_1) (hc0_1 : l0_1.length ≤ c0_1) (h : impl_MoveSome.f k l0_0 l0_1 a0_2 a1 = some (r1, r2, r3)) :
  Calls Try.prog 16 #[.agg #[.slice A0_0 l0_0.length c0_0, .slice A0_1 l0_1.length c0_1, .int .i64 a0_2], .int .i64 a1] w fun e w' => ∃ v0_ v1_ : Value, e = .returned (.agg #[v0_, v1_, .int .i64 r3]) ∧ Kd.R k57 57 w' w.heap.size (fun k_ => some k_ ≠ (v1_ : Value).ownBlock) v0_ r1 ∧ Kd.R k57 57 w' w.heap.size (fun k_ => some k_ ≠ (v0_ : Value).ownBlock) v1_ r2 ∧ Below w.heap.size w w' := by
 have hu26 := Try.underlying26
 have hu57 := Try.underlying57
 have HR0_0 := am hr0_0
 have HC0_0 := am hc0_0
 clear hr0_0 hc0_0
 have HR0_1 := am hr0_1
 have HC0_1 := am hc0_1
 clear hr0_1 hc0_1
 have HB := am (Below.refl w.heap.size w)
 have H : ((impl_copyTable.f l0_0 l0_1 a0_2).bind fun bt416 => (if a1 < 1 then (impl_MoveSome.j0 k a1 true bt416.1 bt416.2.1 bt416.2.2) else ((impl_TableOk.f k l0_0 l0_1 a0_2).bind fun t424 => (impl_MoveSome.j0 k a1 (!t424) bt416.1 bt416.2.1 bt416.2.2)))) = some (r1, r2, r3) := h
 clear h
 replace H := Option.bind_eq_some_iff.mp H
 obtain ⟨⟨t416, t419, t422⟩, A30, H⟩ := H
 try dsimp only at H
 have A3 := am A30
 clear A30
 have HC4 := am H
 clear H
 go_enter Try.func16, Try.ntmps16
 go_upto_region 2 with (first | ((with_reducible refine gate_dst (N := 2) rfl ?_); (try (refine gate_guard (by rfl) ?_; dsimp only)); refine xE (N := 2) (cs := #[.slice A0_0 l0_0.length c0_0, .slice A0_1 l0_1.length c0_1, .int .i64 a0_2]) (t := 26) (h := ?_); intro gb414 hg w5 hbox hb; have BK414 := am (hbox); have GW414 := am (xS hg HB.out); have GE414 := am (xS hg HB.out); replace HB := am (below_step (xW HB.out) hb); clear hb hbox hg) | ((with_reducible refine gate_dst (N := 4) rfl ?_); (try (refine gate_guard (by rfl) ?_; dsimp only)); refine xE (N := 4) (cs := #[.slice none 0 0, .slice none 0 0, .int .i64 0]) (t := 26) (h := ?_); intro gb415 hg w6 hbox hb; have BK415 := am (hbox); have GW415 := am (xS hg HB.out); have GE415 := am (xS hg HB.out); replace HB := am (below_step (xW HB.out) hb); have NB414_415 := am (xN hg BK414.out); have NB415_414 := am (xM hg BK414.out); replace BK414 := am (blk_below (xB BK414.out) hb); clear hb hbox hg; have hnb7 := NB414_415.out; have hnc7 := NB415_414.out; obtain ⟨hcz8_0, hcz8_1, hcz8_2, hfz8_0, hfz8_1, hfz8_2⟩ := xT3 (W := w6) BK414.out) | ((with_reducible refine gate_callee (f := 47) rfl ?_); refine xG (some 8) 47 Try.func47 #[.agg #[.slice A0_0 l0_0.length c0_0, .slice A0_1 l0_1.length c0_1, .int .i64 a0_2]] (h := ?_); (with_reducible refine (impl_copyTable.calls _ _ l0_0 _ _ l0_1 a0_2 t416 t419 t422 _ ?side1 ?side2 ?side3 ?side4 A3.out).mono ?_); (case side1 => exact xC (Kd.C_below HR0_0.out HB.out)); (case side2 => exact HC0_0.out); (case side3 => exact xC (Kd.C_below HR0_1.out HB.out)); (case side4 => exact HC0_1.out); rintro e w9 ⟨v417, v420, rfl, ho0, ho1, hb⟩; refine ⟨_, rfl, ?_⟩; have HO418 := am (Kd.R_lower ho0 (below_size (xW HB.out))); have HO421 := am (Kd.R_lower ho1 (below_size (xW HB.out))); replace BK414 := am (blk_below (xB BK414.out) hb); replace BK415 := am (blk_below (xB BK415.out) hb); replace HB := am (below_step (xW HB.out) hb); (try clear hb); (try clear ho0); (try clear ho1)) | ((with_reducible refine gate_dst (N := 5) rfl ?_); (try (refine gate_guard (by rfl) ?_; dsimp only)); refine xE (N := 5) (cs := #[.slice none 0 0, .slice none 0 0, .int .i64 0]) (t := 26) (h := ?_); intro gb423 hg w10 hbox hb; replace HO418 := am (Kd.R_below (xR HO418.out) hb); replace HO421 := am (Kd.R_below (xR HO421.out) hb); have BK423 := am (hbox); have GW423 := am (xS hg HB.out); have GE423 := am (xS hg HB.out); replace HB := am (below_step (xW HB.out) hb); have NB414_423 := am (xN hg BK414.out); have NB423_414 := am (xM hg BK414.out); replace BK414 := am (blk_below (xB BK414.out) hb); have NB415_423 := am (xN hg BK415.out); have NB423_415 := am (xM hg BK415.out); replace BK415 := am (blk_below (xB BK415.out) hb); clear hb hbox hg; obtain ⟨Ao11, co11, eo11⟩ := Kd.R_slice HO418.out; subst eo11; have hnb12 := NB423_414.out; have hnc12 := NB414_423.out; have hnb13 := NB423_415.out; have hnc13 := NB415_423.out; obtain ⟨hcz14_0, hcz14_1, hcz14_2, hfz14_0, hfz14_1, hfz14_2⟩ := xT3 (W := w10) BK423.out; obtain ⟨Ao15, co15, eo15⟩ := Kd.R_slice HO421.out; subst eo15))
 (try simp only [Act.put, List.setIfInBounds_toArray, List.set_cons_zero, List.set_cons_succ])
 go_cut [15] (fun v15 wc => ∃ (kq : Nat) (x15_3 : Bool), v15 = .bool x15_3 ∧ Aside0 (impl_MoveSome.j0 kq a1 x15_3 t416 t419 t422 = some (r1, r2, r3)) ∧ Aside0 (kq ≤ k) ∧ Aside0 (Kd.R k57 57 wc w.heap.size (fun k_ => some k_ ≠ ((.slice Ao15 t419.length co15) : Value).ownBlock) (.slice Ao11 t416.length co11) t416) ∧ Aside0 (Kd.R k57 57 wc w.heap.size (fun k_ => some k_ ≠ ((.slice Ao11 t416.length co11) : Value).ownBlock) (.slice Ao15 t419.length co15) t419) ∧ Aside0 (wc.heap[gb414]? = some (.cells #[(.slice A0_0 l0_0.length c0_0), (.slice A0_1 l0_1.length c0_1), .int .i64 a0_2] 26 (0, 0))) ∧ Aside0 (wc.heap[gb415]? = some (.cells #[(.slice none 0 0), (.slice none 0 0), .int .i64 0] 26 (0, 0))) ∧ Aside0 (wc.heap[gb423]? = some (.cells #[(.slice Ao11 t416.length co11), (.slice Ao15 t419.length co15), .int .i64 t422] 26 (0, 0))) ∧ Aside0 (Below w.heap.size w wc))
 case first =>
  have H := HC4.out
  clear HC4
  by_cases c16 : a1 < 1
  ·rw [if_pos c16] at H
   have c16b0 : decide (a1 < 1) = true := decide_eq_true c16
   clear c16
   (first | rw [c16b0] | (simp only [i64_w, i32_w]; rw [c16b0]) | skip)
   have H' := am H
   clear H
   go_wp2
   go_meet
   case rel => exact ⟨_, (true), (xQ), H', ⟨by first | omega | exact Nat.le_refl _⟩, ⟨xR HO418.out⟩, ⟨xR HO421.out⟩, ⟨xB BK414.out⟩, ⟨xB BK415.out⟩, ⟨xP BK423.out⟩, ⟨xW HB.out⟩⟩
  ·rw [if_neg c16] at H
   have c16b0 : decide (a1 < 1) = false := decide_eq_false c16
   clear c16
   (first | rw [c16b0] | (simp only [i64_w, i32_w]; rw [c16b0]) | skip)
   replace H := Option.bind_eq_some_iff.mp H
   obtain ⟨t424, A170, H⟩ := H
   try dsimp only at H
   have A17 := am A170
   clear A170
   have H' := am H
   clear H
   have hnb18 := NB414_415.out
   have hnc18 := NB415_414.out
   have hnb19 := NB414_423.out
   have hnc19 := NB423_414.out
   obtain ⟨hcz20_0, hcz20_1, hcz20_2, hfz20_0, hfz20_1, hfz20_2⟩ := xT3 (W := w10) BK414.out
   go_wp2_with (first | (go_at_call 18; (with_reducible refine (impl_TableOk.calls k _ _ l0_0 _ _ l0_1 a0_2 t424 _ ?side1 ?side2 ?side3 ?side4 A17.out).mono ?_); (case side1 => exact Kd.C_below HR0_0.out (xW HB.out)); (case side2 => exact HC0_0.out); (case side3 => exact Kd.C_below HR0_1.out (xW HB.out)); (case side4 => exact HC0_1.out); rintro e w21 ⟨rfl, hb⟩; replace HO418 := am (Kd.R_below (xR HO418.out) hb); replace HO421 := am (Kd.R_below (xR HO421.out) hb); replace BK414 := am (blk_below (xB BK414.out) hb); replace BK415 := am (blk_below (xB BK415.out) hb); replace BK423 := am (blk_below (xP BK423.out) hb); replace HB := am (below_step (xW HB.out) hb); (try clear hb); ))
   go_meet
   case rel => exact ⟨_, (!t424), (xQ), H', ⟨by first | omega | exact Nat.le_refl _⟩, ⟨xR HO418.out⟩, ⟨xR HO421.out⟩, ⟨xB BK414.out⟩, ⟨xB BK415.out⟩, ⟨xB BK423.out⟩, ⟨xW HB.out⟩⟩
 case rest =>
  clear HC4
  try clear c1
  try clear p2
  try clear c4
  try clear c7
  try clear c12
  try clear c13
  try clear c16
  try clear c16b0
  try clear c18
  try clear c19
  try clear hcz14_0
  try clear hcz14_1
  try clear hcz14_2
  try clear hcz20_0
  try clear hcz20_1
  try clear hcz20_2
  try clear hcz8_0
  try clear hcz8_1
  try clear hcz8_2
  try clear hfz14_0
  try clear hfz14_1
  try clear hfz14_2
  try clear hfz20_0
  try clear hfz20_1
  try clear hfz20_2
  try clear hfz8_0
  try clear hfz8_1
  try clear hfz8_2
  obtain ⟨kq, x15_3, rfl, HA, HJ3, HO_424000, HO_424001, BK414, BK415, BK423, HB⟩ := hcut
  cases kq with
  | zero => exact absurd HA.out (by simp [impl_MoveSome.j0])
  | succ kj3 =>
   have H := HA.out
   clear HA
   simp only [impl_MoveSome.j0] at H
   by_cases c22 : x15_3 = true
   ·subst c22
    have H1 : (some (t416, t419, t422)) = some (r1, r2, r3) := by rw [if_pos rfl] at H; exact H
    clear H
    have H := H1
    clear H1
    simp only [Option.some.injEq, Prod.mk.injEq] at H
    obtain ⟨rfl, rfl, rfl⟩ := H
    have hnb23 := NB423_414.out
    have hnc23 := NB414_423.out
    have hnb24 := NB423_415.out
    have hnc24 := NB415_423.out
    obtain ⟨hcz25_0, hcz25_1, hcz25_2, hfz25_0, hfz25_1, hfz25_2⟩ := xT3 (W := wc) BK423.out
    have hnb26 := NB415_414.out
    have hnc26 := NB414_415.out
    obtain ⟨hcz27_0, hcz27_1, hcz27_2, hfz27_0, hfz27_1, hfz27_2⟩ := xT3 (W := wc) BK415.out
    go_wp2
    refine bodyPost_ret (results_cell_row rfl _ _ gb415 26 #[.slice Ao11 t416.length co11, .slice Ao15 t419.length co15, .int .i64 t422] (0, 0) _ rfl (xP BK415.out) Try.underlying26 rfl (by kernel_rfl)) rfl ?_
    exact ⟨_, _, xV, xR HO_424000.out, xR HO_424001.out, xW HB.out⟩
   ·replace c22 := Bool.eq_false_iff.mpr c22
    subst c22
    have H1 : (impl_MoveSome.l0 kj3 a1 t416 t419 t422) = some (r1, r2, r3) := by rw [if_neg (show ¬ (false = true) by decide)] at H; exact H
    clear H
    have H := H1
    clear H1
    have H' := am H
    clear H
    go_wp2
    go_loopg [1] kj3 (fun kq v1 w' => ∃ (x1_2 : Int) (x416002_2 : Int) (x424000_2 : List (S57)) (x424001_2 : List (S57)) (x424002_2 : Int) (u424000 : Value) (u424001 : Value), v1 = .int .i64 x1_2 ∧ Aside0 (impl_MoveSome.l0 kq x1_2 x424000_2 x424001_2 x424002_2 = some (r1, r2, r3)) ∧ Aside0 (kq ≤ kj3) ∧ Aside0 (Kd.R k57 57 w' w.heap.size (fun k_ => some k_ ≠ (u424001 : Value).ownBlock) u424000 x424000_2) ∧ Aside0 (Kd.R k57 57 w' w.heap.size (fun k_ => some k_ ≠ (u424000 : Value).ownBlock) u424001 x424001_2) ∧ Aside0 (w'.heap[gb414]? = some (.cells #[(.slice A0_0 l0_0.length c0_0), (.slice A0_1 l0_1.length c0_1), .int .i64 a0_2] 26 (0, 0))) ∧ Aside0 (w'.heap[gb415]? = some (.cells #[(.slice none 0 0), (.slice none 0 0), .int .i64 x416002_2] 26 (0, 0))) ∧ Aside0 (w'.heap[gb423]? = some (.cells #[u424000, u424001, .int .i64 x424002_2] 26 (0, 0))) ∧ Aside0 (Below w.heap.size w w'))
    case atStart => exact ⟨(a1), (0), (t416), (t419), (t422), (.slice Ao11 t416.length co11), (.slice Ao15 t419.length co15), (xQ), H', ⟨Nat.le_refl _⟩, ⟨xR HO_424000.out⟩, ⟨xR HO_424001.out⟩, ⟨xB BK414.out⟩, ⟨xB BK415.out⟩, ⟨xB BK423.out⟩, ⟨xW HB.out⟩⟩
    case round =>
     clear H'
     try clear c1
     try clear c2
     try clear p2
     try clear c4
     try clear c7
     try clear c12
     try clear c13
     try clear c16
     try clear c16b0
     try clear c18
     try clear c19
     try clear c22
     try clear c23
     try clear c24
     try clear c26
     try clear hcz14_0
     try clear hcz14_1
     try clear hcz14_2
     try clear hcz20_0
     try clear hcz20_1
     try clear hcz20_2
     try clear hcz25_0
     try clear hcz25_1
     try clear hcz25_2
     try clear hcz27_0
     try clear hcz27_1
     try clear hcz27_2
     try clear hcz8_0
     try clear hcz8_1
     try clear hcz8_2
     try clear hfz14_0
     try clear hfz14_1
     try clear hfz14_2
     try clear hfz20_0
     try clear hfz20_1
     try clear hfz20_2
     try clear hfz25_0
     try clear hfz25_1
     try clear hfz25_2
     try clear hfz27_0
     try clear hfz27_1
     try clear hfz27_2
     try clear hfz8_0
     try clear hfz8_1
     try clear hfz8_2
     try clear p2
     obtain ⟨x1_2, x416002_2, x424000_2, x424001_2, x424002_2, u424000, u424001, rfl, HA, HK2, HO_424000, HO_424001, BK414, BK415, BK423, HB⟩ := hrel
     cases gk with
     | zero => exact absurd HA.out (by simp [impl_MoveSome.l0])
     | succ k2 =>
      have H := HA.out
      clear HA
      simp only [impl_MoveSome.l0] at H
      have HC28 := am H
      clear H
      go_upto_region 4 with (fail)
      go_cut [26] (fun v26 wc => ∃ (kq : Nat) (x26_27 : Bool), v26 = .bool x26_27 ∧ Aside0 (impl_MoveSome.j2 kq x1_2 x26_27 x424000_2 x424001_2 x424002_2 = some (r1, r2, r3)) ∧ Aside0 (kq ≤ k2) ∧ Aside0 (Kd.R k57 57 wc w.heap.size (fun k_ => some k_ ≠ (u424001 : Value).ownBlock) u424000 x424000_2) ∧ Aside0 (Kd.R k57 57 wc w.heap.size (fun k_ => some k_ ≠ (u424000 : Value).ownBlock) u424001 x424001_2) ∧ Aside0 (wc.heap[gb414]? = some (.cells #[(.slice A0_0 l0_0.length c0_0), (.slice A0_1 l0_1.length c0_1), .int .i64 a0_2] 26 (0, 0))) ∧ Aside0 (wc.heap[gb415]? = some (.cells #[(.slice none 0 0), (.slice none 0 0), .int .i64 x416002_2] 26 (0, 0))) ∧ Aside0 (wc.heap[gb423]? = some (.cells #[u424000, u424001, .int .i64 x424002_2] 26 (0, 0))) ∧ Aside0 (Below w.heap.size w wc))
      case first =>
       have H := HC28.out
       clear HC28
       by_cases c29 : x1_2 > 0
       ·rw [if_pos c29] at H
        have c29b0 : decide (0 < x1_2) = true := decide_eq_true c29
        clear c29
        (first | rw [c29b0] | (simp only [i64_w, i32_w]; rw [c29b0]) | skip)
        have H' := am H
        clear H
        have hnb30 := NB423_414.out
        have hnc30 := NB414_423.out
        have hnb31 := NB423_415.out
        have hnc31 := NB415_423.out
        obtain ⟨hcz32_0, hcz32_1, hcz32_2, hfz32_0, hfz32_1, hfz32_2⟩ := xT3 (W := wr) BK423.out
        obtain ⟨Ao33, co33, eo33⟩ := Kd.R_slice HO_424001.out
        subst eo33
        go_wp2
        go_meet
        case rel => exact ⟨_, (decide (x424002_2 < (x424001_2.length : Int))), (xQ), H', ⟨by have := HJ3.out; have := HK2.out; first | omega | exact Nat.le_refl _⟩, ⟨xR HO_424000.out⟩, ⟨xR HO_424001.out⟩, ⟨xB BK414.out⟩, ⟨xB BK415.out⟩, ⟨xB BK423.out⟩, ⟨xW HB.out⟩⟩
       ·rw [if_neg c29] at H
        have c29b0 : decide (0 < x1_2) = false := decide_eq_false c29
        clear c29
        (first | rw [c29b0] | (simp only [i64_w, i32_w]; rw [c29b0]) | skip)
        have H' := am H
        clear H
        go_wp2
        go_meet
        case rel => exact ⟨_, (false), (xQ), H', ⟨by have := HJ3.out; have := HK2.out; first | omega | exact Nat.le_refl _⟩, ⟨xR HO_424000.out⟩, ⟨xR HO_424001.out⟩, ⟨xB BK414.out⟩, ⟨xB BK415.out⟩, ⟨xB BK423.out⟩, ⟨xW HB.out⟩⟩
      case rest =>
       clear HC28
       try clear c1
       try clear c2
       try clear p2
       try clear c3
       try clear c4
       try clear c7
       try clear c12
       try clear c13
       try clear c16
       try clear c16b0
       try clear c18
       try clear c19
       try clear c22
       try clear c23
       try clear c24
       try clear c26
       try clear c29
       try clear c29b0
       try clear c30
       try clear c31
       try clear hcz14_0
       try clear hcz14_1
       try clear hcz14_2
       try clear hcz20_0
       try clear hcz20_1
       try clear hcz20_2
       try clear hcz25_0
       try clear hcz25_1
       try clear hcz25_2
       try clear hcz27_0
       try clear hcz27_1
       try clear hcz27_2
       try clear hcz32_0
       try clear hcz32_1
       try clear hcz32_2
       try clear hcz8_0
       try clear hcz8_1
       try clear hcz8_2
       try clear hfz14_0
       try clear hfz14_1
       try clear hfz14_2
       try clear hfz20_0
       try clear hfz20_1
       try clear hfz20_2
       try clear hfz25_0
       try clear hfz25_1
       try clear hfz25_2
       try clear hfz27_0
       try clear hfz27_1
       try clear hfz27_2
       try clear hfz32_0
       try clear hfz32_1
       try clear hfz32_2
       try clear hfz8_0
       try clear hfz8_1
       try clear hfz8_2
       try clear p2
       obtain ⟨kq, x26_27, rfl, HA, HJ27, HO_424000, HO_424001, BK414, BK415, BK423, HB⟩ := hcut
       cases kq with
       | zero => exact absurd HA.out (by simp [impl_MoveSome.j2])
       | succ kj27 =>
        have H := HA.out
        clear HA
        simp only [impl_MoveSome.j2] at H
        by_cases c34 : x26_27 = true
        ·subst c34
         have H1 : (if 0 ≤ x424002_2 then (if x424002_2 < (x424001_2.length : Int) then (if ((rd_T57 x424001_2 x424002_2).f0).toList = ([] : List UInt8) then (impl_MoveSome.l0 kj27 (wrap64 (x1_2 - 1)) x424000_2 (x424001_2.set (x424002_2 : Int).toNat (⟨(⟨#[]⟩ : ByteArray), (-2)⟩ : S57)) (wrap64 (x424002_2 + 1))) else ((impl_Table_put.f kj27 x424000_2 x424001_2 x424002_2 ((rd_T57 x424001_2 x424002_2).f0) ((rd_T57 x424001_2 x424002_2).f1)).bind fun bt428 => (if bt428.1 = true then (impl_MoveSome.l0 kj27 (wrap64 (x1_2 - 1)) bt428.2.1 (bt428.2.2.set (x424002_2 : Int).toNat (⟨(⟨#[]⟩ : ByteArray), (-2)⟩ : S57)) (wrap64 (x424002_2 + 1))) else (some (bt428.2.1, bt428.2.2, x424002_2))))) else (none)) else (none)) = some (r1, r2, r3) := by rw [if_pos rfl] at H; exact H
         clear H
         have H := H1
         clear H1
         by_cases c35 : 0 ≤ x424002_2
         ·rw [if_pos c35] at H
          have c35b0 : decide (0 ≤ x424002_2) = true := decide_eq_true c35
          clear c35
          by_cases c36 : x424002_2 < (x424001_2.length : Int)
          ·rw [if_pos c36] at H
           have c36b0 : decide (x424002_2 < (x424001_2.length : Int)) = true := decide_eq_true c36
           clear c36
           by_cases c37 : ((rd_T57 x424001_2 x424002_2).f0).toList = ([] : List UInt8)
           ·rw [if_pos c37] at H
            have c37b0 : (((rd_T57 x424001_2 x424002_2).f0).toList == ([] : List UInt8)) = true := beq_iff_eq.mpr c37
            have c37b1 : (((rd_T57 x424001_2 x424002_2).f0).toList != ([] : List UInt8)) = false := bne_eq_false_iff_eq.mpr c37
            clear c37
            obtain ⟨y427, hy427⟩ : ∃ y_ : List (S57), y_ = (x424001_2.set (x424002_2 : Int).toNat (⟨(⟨#[]⟩ : ByteArray), (-2)⟩ : S57)) := ⟨_, rfl⟩
            replace H : (impl_MoveSome.l0 kj27 (wrap64 (x1_2 - 1)) x424000_2 y427 (wrap64 (x424002_2 + 1))) = some (r1, r2, r3) := by first | (rw [hy427]; with_reducible exact H) | (have H2_ := (Option.bind_some _ _).symm.trans H; rw [hy427]; with_reducible exact H2_) | (have H2_ := (Option.bind_some _ _).symm.trans H; with_reducible exact H2_) | with_reducible exact H | (rw [hy427]; exact H) | exact H
            have Ny427 := am hy427
            clear hy427
            have H' := am H
            clear H
            have hnb39 := NB423_414.out
            have hnc39 := NB414_423.out
            have hnb40 := NB423_415.out
            have hnc40 := NB415_423.out
            obtain ⟨hcz41_0, hcz41_1, hcz41_2, hfz41_0, hfz41_1, hfz41_2⟩ := xT3 (W := wc) BK423.out
            obtain ⟨Ao42, co42, eo42⟩ := Kd.R_slice HO_424001.out
            subst eo42
            have p425 : 0 ≤ (x424002_2 : Int) := of_decide_eq_true (by assumption)
            have q425 : x424002_2 < (x424001_2.length : Int) := of_decide_eq_true (by assumption)
            obtain ⟨ad425, e425, hx425_0, hx425_1⟩ := at_T57 (Kd.R_reads' HO_424001.out).2.2 x424002_2 p425 q425
            cases e425
            replace p425 := eq_true p425
            replace q425 := eq_true q425
            go_wp2_with (first | ((with_reducible refine gate_dst (N := 6) rfl ?_); (try (refine gate_guard (by rfl) ?_; dsimp only)); refine xE (N := 6) (cs := #[.string (⟨#[]⟩ : ByteArray), .int .i64 0]) (t := 57) (h := ?_); intro gb426 hg w43 hbox hb; replace HO_424000 := am (Kd.R_below (Kd.R_elderB (xR HO_424000.out) gb426 (Nat.le_of_eq hg.symm)) hb); replace HO_424001 := am (Kd.R_below (Kd.R_elderB (xR HO_424001.out) gb426 (Nat.le_of_eq hg.symm)) hb); have BK426 := am (hbox); have GW426 := am (xS hg HB.out); have GE426 := am (xS hg HB.out); replace HB := am (below_step (xW HB.out) hb); have NB414_426 := am (xN hg BK414.out); have NB426_414 := am (xM hg BK414.out); replace BK414 := am (blk_below (xB BK414.out) hb); have NB415_426 := am (xN hg BK415.out); have NB426_415 := am (xM hg BK415.out); replace BK415 := am (blk_below (xB BK415.out) hb); have NB423_426 := am (xN hg BK423.out); have NB426_423 := am (xM hg BK423.out); replace BK423 := am (blk_below (xB BK423.out) hb); clear hb hbox hg; have hnb44 := NB426_414.out; have hnc44 := NB414_426.out; have hnb45 := NB426_415.out; have hnc45 := NB415_426.out; have hnb46 := NB426_423.out; have hnc46 := NB423_426.out; obtain ⟨hcz47_0, hcz47_1, hfz47_0, hfz47_1⟩ := xT2 (W := w43) BK426.out) | ((with_reducible refine gate_store (t := 57) (p := 6) rfl ?_); refine store_event (t := 57) (p := 6) (v := ?vo_w48) (w1 := ((w43.setCell ⟨gb426, 0, none⟩ (.string ((rd_T57 x424001_2 x424002_2).f0))).setCell ⟨gb426, 1, none⟩ (.int .i64 ((rd_T57 x424001_2 x424002_2).f1)))) ?hg ?ho ?hn ?hr ?_; (case ho => rfl); (case hg => rfl); (case hn => rfl); (case hr => first | (go_simp; done) | (go_simp; rfl)); intro w48 hw; have n0_ : Aside0 (Kd.R k57 57 w48 w.heap.size (fun k_ => some k_ ≠ (.slice (some ad425) x424001_2.length co42 : Value).ownBlock ∧ k_ ≠ gb426) u424000 x424000_2) := ⟨(by rw [hw]; exact (by (with_reducible repeat (first | apply Kd.R_alloc | apply Kd.R_drewN | apply Kd.R_drew)); exact Kd.R_mono (Kd.R_far (p := ⟨gb426, 1, none⟩) (Kd.R_far (p := ⟨gb426, 0, none⟩) (Kd.R_mono HO_424000.out (fun k_ hk => (⟨hk, hk.2⟩ : _ ∧ k_ ≠ gb426))) (fun _ hk => hk.2) (.string ((rd_T57 x424001_2 x424002_2).f0))) (fun _ hk => hk.2) (.int .i64 ((rd_T57 x424001_2 x424002_2).f1))) (fun _ hk => ⟨hk.1.1, hk.1.2⟩)))⟩; have n1_ : Aside0 (Kd.R k57 57 w48 w.heap.size (fun k_ => some k_ ≠ (u424000 : Value).ownBlock ∧ k_ ≠ gb426) (.slice (some ad425) x424001_2.length co42) x424001_2) := ⟨(by rw [hw]; exact (by (with_reducible repeat (first | apply Kd.R_alloc | apply Kd.R_drewN | apply Kd.R_drew)); exact Kd.R_mono (Kd.R_far (p := ⟨gb426, 1, none⟩) (Kd.R_far (p := ⟨gb426, 0, none⟩) (Kd.R_mono HO_424001.out (fun k_ hk => (⟨hk, hk.2⟩ : _ ∧ k_ ≠ gb426))) (fun _ hk => hk.2) (.string ((rd_T57 x424001_2 x424002_2).f0))) (fun _ hk => hk.2) (.int .i64 ((rd_T57 x424001_2 x424002_2).f1))) (fun _ hk => ⟨hk.1.1, hk.1.2⟩)))⟩; have n2_ : Aside0 (w48.heap[gb414]? = some (.cells #[.slice A0_0 l0_0.length c0_0, .slice A0_1 l0_1.length c0_1, .int .i64 a0_2] 26 (0, 0))) := ⟨(by rw [hw]; exact (xB BK414.out))⟩; have n3_ : Aside0 (w48.heap[gb415]? = some (.cells #[.slice none 0 0, .slice none 0 0, .int .i64 x416002_2] 26 (0, 0))) := ⟨(by rw [hw]; exact (xB BK415.out))⟩; have n4_ : Aside0 (w48.heap[gb423]? = some (.cells #[u424000, .slice (some ad425) x424001_2.length co42, .int .i64 x424002_2] 26 (0, 0))) := ⟨(by rw [hw]; exact (xB BK423.out))⟩; have n5_ : Aside0 (w48.heap[gb426]? = some (.cells #[.string ((rd_T57 x424001_2 x424002_2).f0), .int .i64 ((rd_T57 x424001_2 x424002_2).f1)] 57 (0, 0))) := ⟨(by rw [hw]; exact (xP BK426.out))⟩; have n6_ : Aside0 (Below w.heap.size w w48) := ⟨(by rw [hw]; exact (xW HB.out))⟩; clear hw; clear HO_424000; clear HO_424001; clear BK414; clear BK415; clear BK423; clear BK426; clear HB; have HO_424000 := n0_; have HO_424001 := n1_; have BK414 := n2_; have BK415 := n3_; have BK423 := n4_; have BK426 := n5_; have HB := n6_; clear n0_ n1_ n2_ n3_ n4_ n5_ n6_; obtain ⟨hcz49_0, hcz49_1, hfz49_0, hfz49_1⟩ := xT2 (W := w48) BK426.out; obtain ⟨hcz50_0, hcz50_1, hcz50_2, hfz50_0, hfz50_1, hfz50_2⟩ := xT3 (W := w48) BK423.out; have p38 : 0 ≤ (x424002_2 : Int) := of_decide_eq_true (by assumption); have q38 : (x424002_2 : Int) < ((x424001_2.length : Int) : Int) := of_decide_eq_true (by assumption); obtain ⟨go38, co38, eo38, gb38, gl38, cl38, HG38⟩ := Kd.R_form HO_424001.out (by first | omega | (have e_ := (Kd.R_reads' HO_424001.out).1; omega)); (first | cases eo38 | (injection eo38 with ea_ en_ ec_; (first | subst ea_ | (injection ea_ with ea_; subst ea_)); subst ec_; clear en_)); have GB38 := am gb38; have GG38 := am HG38; clear gb38 gl38 HG38; (first | simp only [add_plain] at hx425_0 | skip); (first | simp only [add_plain] at hx425_1 | skip); obtain ⟨ce38, hcl38, hM38, hcc38, hfr38⟩ := Kd.R_elem HO_424001.out z57 (x424002_2 : Int) p38 q38; obtain rfl := k57_openM hM38; have hx38_0 : w48.cell? ⟨go38, (x424002_2 : Int).toNat * 2, none⟩ = some (.string ((rd_T57 x424001_2 x424002_2).f0)) := hcc38 0 _ rfl; have hx38_1 : w48.cell? ⟨go38, (x424002_2 : Int).toNat * 2 + 1, none⟩ = some (.int .i64 ((rd_T57 x424001_2 x424002_2).f1)) := hcc38 1 _ rfl; have hf38_0 : w48.frozen? ⟨go38, (x424002_2 : Int).toNat * 2, none⟩ = false := hfr38 0; have hf38_1 : w48.frozen? ⟨go38, (x424002_2 : Int).toNat * 2 + 1, none⟩ = false := hfr38 1; clear hcl38 hcc38 hfr38 hM38; replace p38 := eq_true p38; replace q38 := eq_true q38; have HX51 := am (show Kd.R k57 57 w48 w.heap.size (fun k_ => some k_ ≠ (u424000 : Value).ownBlock ∧ k_ ≠ gb426) (.slice (some ⟨go38, 0, none⟩) x424001_2.length co42) x424001_2 from (xR HO_424001.out)); obtain ⟨ce51, hcl51, hM51, hcc51, hfr51⟩ := Kd.R_elem HX51.out z57 (x424002_2 : Int) (of_decide_eq_true (by assumption)) (by have h_ : (x424002_2 : Int) < ((x424001_2.length : Int) : Int) := of_decide_eq_true (by assumption); first | exact h_ | (have e_ := (Kd.R_reads' HO_424001.out).1; omega) | simpa using h_); obtain rfl := k57_openM hM51; have HP51 := Kd.R_seg HX51.out (x424002_2 : Int) (of_decide_eq_true (by assumption)) (by have h_ : (x424002_2 : Int) < ((x424001_2.length : Int) : Int) := of_decide_eq_true (by assumption); first | exact h_ | (have e_ := (Kd.R_reads' HO_424001.out).1; omega) | simpa using h_) (seg := [.string (⟨#[]⟩ : ByteArray), .int .i64 (-2)]) (j := 0) hcl51 hcc51 (show 2 ≤ 2 from by decide) (x' := (⟨(⟨#[]⟩ : ByteArray), (-2)⟩ : S57)) (k57_mkM _ _ _ (⟨(⟨#[]⟩ : ByteArray), (-2)⟩ : S57) ) (fun _ hk => hk); have hx51_0 := hcc51 0 _ rfl; (try simp only [show (k57).sz = 2 from rfl, Nat.mul_one, Nat.add_zero] at hx51_0); have hf51_0 := hfr51 0; (try simp only [show (k57).sz = 2 from rfl, Nat.mul_one, Nat.add_zero] at hf51_0); have hx51_1 := hcc51 1 _ rfl; (try simp only [show (k57).sz = 2 from rfl, Nat.mul_one, Nat.add_zero] at hx51_1); have hf51_1 := hfr51 1; (try simp only [show (k57).sz = 2 from rfl, Nat.mul_one, Nat.add_zero] at hf51_1); clear hcl51 hcc51 hfr51 hM51) | ((with_reducible refine gate_store (t := 57) (p := 52) rfl ?_); refine store_event (t := 57) (p := 52) (v := ?vo_w52) (w1 := ((w48.setCell ⟨go38, (x424002_2 : Int).toNat * 2, none⟩ (.string (⟨#[]⟩ : ByteArray))).setCell ⟨go38, (x424002_2 : Int).toNat * 2 + 1, none⟩ (.int .i64 (-2)))) ?hg ?ho ?hn ?hr ?_; (case ho => rfl); (case hg => rfl); (case hn => rfl); (case hr => first | (go_simp; done) | (go_simp; rfl)); intro w52 hw; have hg : w48.grownBy w52 (some go38) := (by rw [hw]; exact HP51.2); have hp_ : Kd.R k57 57 w52 w.heap.size (fun k_ => some k_ ≠ (u424000 : Value).ownBlock ∧ k_ ≠ gb426) (.slice (some ⟨go38, 0, none⟩) x424001_2.length co42) y427 := (by rw [hw, Ny427.out]; exact HP51.1); clear HP51; replace HO_424000 := am (Kd.R_after (v := (.slice (some ⟨go38, 0, none⟩) x424001_2.length co42)) (v1 := (.slice (some ⟨go38, 0, none⟩) x424001_2.length co42)) (ok := (fun k_ => k_ ≠ gb426)) (Kd.R_mono (xR HO_424000.out) (fun _ hk => ⟨hk.2, hk.1⟩)) hg (.inl rfl)); replace BK414 := am (blk_grown (g := gb414) (o := .cells #[.slice A0_0 l0_0.length c0_0, .slice A0_1 l0_1.length c0_1, .int .i64 a0_2] 26 (0, 0)) (xB BK414.out) hg (Kd.R_ne HO_424001.out BK414.out (by decide))); replace BK415 := am (blk_grown (g := gb415) (o := .cells #[.slice none 0 0, .slice none 0 0, .int .i64 x416002_2] 26 (0, 0)) (xB BK415.out) hg (Kd.R_ne HO_424001.out BK415.out (by decide))); replace BK423 := am (blk_grown (g := gb423) (o := .cells #[u424000, .slice (some ⟨go38, 0, none⟩) x424001_2.length co42, .int .i64 x424002_2] 26 (0, 0)) (xB BK423.out) hg (Kd.R_ne HO_424001.out BK423.out (by decide))); replace BK426 := am (blk_grown (g := gb426) (o := .cells #[.string ((rd_T57 x424001_2 x424002_2).f0), .int .i64 ((rd_T57 x424001_2 x424002_2).f1)] 57 (0, 0)) (xB BK426.out) hg (Kd.R_away HO_424001.out (fun _ hk => hk.2))); replace HO_424001 := am (hp_); replace HB := am ((by rw [hw]; exact below_set (below_set (HB.out) GB38.out) GB38.out : Below w.heap.size w w52)); clear hg hw hp_; obtain ⟨hcz53_0, hcz53_1, hcz53_2, hfz53_0, hfz53_1, hfz53_2⟩ := xT3 (W := w52) BK423.out))
            go_roundg kj27
            case measure => have := HJ3.out; have := HK2.out; have := HJ27.out; omega
            case rel => exact ⟨(wrap64 (x1_2 - 1)), (x416002_2), (x424000_2), (y427), (wrap64 (x424002_2 + 1)), (u424000), (.slice (some ⟨go38, 0, none⟩) x424001_2.length co42), (xQ), H', ⟨by have := HJ3.out; have := HK2.out; have := HJ27.out; omega⟩, ⟨Kd.R_mono (xR HO_424000.out) (fun _ hk => hk.2)⟩, ⟨Kd.R_mono (xR HO_424001.out) (fun _ hk => hk.1)⟩, ⟨xB BK414.out⟩, ⟨xB BK415.out⟩, ⟨xP BK423.out⟩, ⟨xW HB.out⟩⟩
           ·rw [if_neg c37] at H
            have c37b0 : (((rd_T57 x424001_2 x424002_2).f0).toList == ([] : List UInt8)) = false := beq_eq_false_iff_ne.mpr c37
            have c37b1 : (((rd_T57 x424001_2 x424002_2).f0).toList != ([] : List UInt8)) = true := bne_iff_ne.mpr c37
            replace H := Option.bind_eq_some_iff.mp H
            obtain ⟨⟨t428, t429, t430⟩, A540, H⟩ := H
            try dsimp only at H
            have A54 := am A540
            clear A540
            by_cases c55 : t428 = true
            ·subst c55
             have H1 : (impl_MoveSome.l0 kj27 (wrap64 (x1_2 - 1)) t429 (t430.set (x424002_2 : Int).toNat (⟨(⟨#[]⟩ : ByteArray), (-2)⟩ : S57)) (wrap64 (x424002_2 + 1))) = some (r1, r2, r3) := by rw [if_pos rfl] at H; exact H
             clear H
             have H := H1
             clear H1
             obtain ⟨y431, hy431⟩ : ∃ y_ : List (S57), y_ = (t430.set (x424002_2 : Int).toNat (⟨(⟨#[]⟩ : ByteArray), (-2)⟩ : S57)) := ⟨_, rfl⟩
             replace H : (impl_MoveSome.l0 kj27 (wrap64 (x1_2 - 1)) t429 y431 (wrap64 (x424002_2 + 1))) = some (r1, r2, r3) := by first | (rw [hy431]; with_reducible exact H) | (have H2_ := (Option.bind_some _ _).symm.trans H; rw [hy431]; with_reducible exact H2_) | (have H2_ := (Option.bind_some _ _).symm.trans H; with_reducible exact H2_) | with_reducible exact H | (rw [hy431]; exact H) | exact H
             have Ny431 := am hy431
             clear hy431
             have H' := am H
             clear H
             have hnb57 := NB423_414.out
             have hnc57 := NB414_423.out
             have hnb58 := NB423_415.out
             have hnc58 := NB415_423.out
             obtain ⟨hcz59_0, hcz59_1, hcz59_2, hfz59_0, hfz59_1, hfz59_2⟩ := xT3 (W := wc) BK423.out
             obtain ⟨Ao60, co60, eo60⟩ := Kd.R_slice HO_424001.out
             subst eo60
             have p425 : 0 ≤ (x424002_2 : Int) := of_decide_eq_true (by assumption)
             have q425 : x424002_2 < (x424001_2.length : Int) := of_decide_eq_true (by assumption)
             obtain ⟨ad425, e425, hx425_0, hx425_1⟩ := at_T57 (Kd.R_reads' HO_424001.out).2.2 x424002_2 p425 q425
             cases e425
             replace p425 := eq_true p425
             replace q425 := eq_true q425
             go_wp2_with (first | ((with_reducible refine gate_dst (N := 6) rfl ?_); (try (refine gate_guard (by rfl) ?_; dsimp only)); refine xE (N := 6) (cs := #[.string (⟨#[]⟩ : ByteArray), .int .i64 0]) (t := 57) (h := ?_); intro gb426 hg w61 hbox hb; replace HO_424000 := am (Kd.R_below (Kd.R_elderB (xR HO_424000.out) gb426 (Nat.le_of_eq hg.symm)) hb); replace HO_424001 := am (Kd.R_below (Kd.R_elderB (xR HO_424001.out) gb426 (Nat.le_of_eq hg.symm)) hb); have BK426 := am (hbox); have GW426 := am (xS hg HB.out); have GE426 := am (xS hg HB.out); replace HB := am (below_step (xW HB.out) hb); have NB414_426 := am (xN hg BK414.out); have NB426_414 := am (xM hg BK414.out); replace BK414 := am (blk_below (xB BK414.out) hb); have NB415_426 := am (xN hg BK415.out); have NB426_415 := am (xM hg BK415.out); replace BK415 := am (blk_below (xB BK415.out) hb); have NB423_426 := am (xN hg BK423.out); have NB426_423 := am (xM hg BK423.out); replace BK423 := am (blk_below (xB BK423.out) hb); clear hb hbox hg; have hnb62 := NB426_414.out; have hnc62 := NB414_426.out; have hnb63 := NB426_415.out; have hnc63 := NB415_426.out; have hnb64 := NB426_423.out; have hnc64 := NB423_426.out; obtain ⟨hcz65_0, hcz65_1, hfz65_0, hfz65_1⟩ := xT2 (W := w61) BK426.out) | ((with_reducible refine gate_store (t := 57) (p := 6) rfl ?_); refine store_event (t := 57) (p := 6) (v := ?vo_w66) (w1 := ((w61.setCell ⟨gb426, 0, none⟩ (.string ((rd_T57 x424001_2 x424002_2).f0))).setCell ⟨gb426, 1, none⟩ (.int .i64 ((rd_T57 x424001_2 x424002_2).f1)))) ?hg ?ho ?hn ?hr ?_; (case ho => rfl); (case hg => rfl); (case hn => rfl); (case hr => first | (go_simp; done) | (go_simp; rfl)); intro w66 hw; have n0_ : Aside0 (Kd.R k57 57 w66 w.heap.size (fun k_ => some k_ ≠ (.slice (some ad425) x424001_2.length co60 : Value).ownBlock ∧ k_ ≠ gb426) u424000 x424000_2) := ⟨(by rw [hw]; exact (by (with_reducible repeat (first | apply Kd.R_alloc | apply Kd.R_drewN | apply Kd.R_drew)); exact Kd.R_mono (Kd.R_far (p := ⟨gb426, 1, none⟩) (Kd.R_far (p := ⟨gb426, 0, none⟩) (Kd.R_mono HO_424000.out (fun k_ hk => (⟨hk, hk.2⟩ : _ ∧ k_ ≠ gb426))) (fun _ hk => hk.2) (.string ((rd_T57 x424001_2 x424002_2).f0))) (fun _ hk => hk.2) (.int .i64 ((rd_T57 x424001_2 x424002_2).f1))) (fun _ hk => ⟨hk.1.1, hk.1.2⟩)))⟩; have n1_ : Aside0 (Kd.R k57 57 w66 w.heap.size (fun k_ => some k_ ≠ (u424000 : Value).ownBlock ∧ k_ ≠ gb426) (.slice (some ad425) x424001_2.length co60) x424001_2) := ⟨(by rw [hw]; exact (by (with_reducible repeat (first | apply Kd.R_alloc | apply Kd.R_drewN | apply Kd.R_drew)); exact Kd.R_mono (Kd.R_far (p := ⟨gb426, 1, none⟩) (Kd.R_far (p := ⟨gb426, 0, none⟩) (Kd.R_mono HO_424001.out (fun k_ hk => (⟨hk, hk.2⟩ : _ ∧ k_ ≠ gb426))) (fun _ hk => hk.2) (.string ((rd_T57 x424001_2 x424002_2).f0))) (fun _ hk => hk.2) (.int .i64 ((rd_T57 x424001_2 x424002_2).f1))) (fun _ hk => ⟨hk.1.1, hk.1.2⟩)))⟩; have n2_ : Aside0 (w66.heap[gb414]? = some (.cells #[.slice A0_0 l0_0.length c0_0, .slice A0_1 l0_1.length c0_1, .int .i64 a0_2] 26 (0, 0))) := ⟨(by rw [hw]; exact (xB BK414.out))⟩; have n3_ : Aside0 (w66.heap[gb415]? = some (.cells #[.slice none 0 0, .slice none 0 0, .int .i64 x416002_2] 26 (0, 0))) := ⟨(by rw [hw]; exact (xB BK415.out))⟩; have n4_ : Aside0 (w66.heap[gb423]? = some (.cells #[u424000, .slice (some ad425) x424001_2.length co60, .int .i64 x424002_2] 26 (0, 0))) := ⟨(by rw [hw]; exact (xB BK423.out))⟩; have n5_ : Aside0 (w66.heap[gb426]? = some (.cells #[.string ((rd_T57 x424001_2 x424002_2).f0), .int .i64 ((rd_T57 x424001_2 x424002_2).f1)] 57 (0, 0))) := ⟨(by rw [hw]; exact (xP BK426.out))⟩; have n6_ : Aside0 (Below w.heap.size w w66) := ⟨(by rw [hw]; exact (xW HB.out))⟩; clear hw; clear HO_424000; clear HO_424001; clear BK414; clear BK415; clear BK423; clear BK426; clear HB; have HO_424000 := n0_; have HO_424001 := n1_; have BK414 := n2_; have BK415 := n3_; have BK423 := n4_; have BK426 := n5_; have HB := n6_; clear n0_ n1_ n2_ n3_ n4_ n5_ n6_; obtain ⟨hcz67_0, hcz67_1, hfz67_0, hfz67_1⟩ := xT2 (W := w66) BK426.out; obtain ⟨hcz68_0, hcz68_1, hcz68_2, hfz68_0, hfz68_1, hfz68_2⟩ := xT3 (W := w66) BK423.out; obtain ⟨Ao69, co69, eo69⟩ := Kd.R_slice HO_424000.out; subst eo69) | (go_at_call 48; (with_reducible refine (impl_Table_put.calls kj27 (fun k_ => some k_ = (.slice Ao69 x424000_2.length co69 : Value).ownBlock) (.slice Ao69 x424000_2.length co69) x424000_2 (fun k_ => some k_ = (.slice (some ad425) x424001_2.length co60 : Value).ownBlock) (.slice (some ad425) x424001_2.length co60) x424001_2 x424002_2 ((rd_T57 x424001_2 x424002_2).f0) ((rd_T57 x424001_2 x424002_2).f1) true t429 t430 w _ ?side1 ?side2 ?side3 ?side4 ?side5 A54.out gb423 (xB BK423.out) GE423.out).mono ?_); (case side1 => exact xW HB.out); (case side2 => exact Kd.R_tight rfl HO_424000.out); (case side3 => first | exact fun k_ e_ => (HO_424000.out.1 k_ e_.symm).1 | exact fun k_ e_ hs_ => by have hh_ := HO_424000.out.1 k_ e_.symm; revert hh_; simp [hs_]); (case side4 => exact Kd.R_tight rfl HO_424001.out); (case side5 => first | exact fun k_ e_ => (HO_424001.out.1 k_ e_.symm).1 | exact fun k_ e_ hs_ => by have hh_ := HO_424001.out.1 k_ e_.symm; revert hh_; simp [hs_]); rintro e w70 ⟨rfl, hy0, hy1, hb, hkp⟩; replace BK414 := am (blk_kept (xB BK414.out) hkp (fun hs_ => Or.elim hs_ (fun e_ => (fun e_ => (Kd.R_ne HO_424000.out BK414.out (by decide)) e_) e_) (fun e_ => (fun e_ => (Kd.R_ne HO_424001.out BK414.out (by decide)) e_) e_))); replace BK415 := am (blk_kept (xB BK415.out) hkp (fun hs_ => Or.elim hs_ (fun e_ => (fun e_ => (Kd.R_ne HO_424000.out BK415.out (by decide)) e_) e_) (fun e_ => (fun e_ => (Kd.R_ne HO_424001.out BK415.out (by decide)) e_) e_))); replace BK423 := am (blk_kept (xB BK423.out) hkp (fun hs_ => Or.elim hs_ (fun e_ => (fun e_ => (Kd.R_ne HO_424000.out BK423.out (by decide)) e_) e_) (fun e_ => (fun e_ => (Kd.R_ne HO_424001.out BK423.out (by decide)) e_) e_))); replace BK426 := am (blk_kept (xB BK426.out) hkp (fun hs_ => Or.elim hs_ (fun e_ => (fun e_ => (Kd.R_away HO_424000.out (fun _ hk => hk.2)) e_) e_) (fun e_ => (fun e_ => (Kd.R_away HO_424001.out (fun _ hk => hk.2)) e_) e_))); replace HO_424000 := am (Kd.R_reok rfl hy0 (fun k_ e_ => HO_424000.out.1 k_ e_)); replace HO_424001 := am (Kd.R_reok rfl hy1 (fun k_ e_ => HO_424001.out.1 k_ e_)); replace HB := am (hb); (try clear hb); (try clear hkp); (try clear hy0); (try clear hy1); obtain ⟨hcz71_0, hcz71_1, hcz71_2, hfz71_0, hfz71_1, hfz71_2⟩ := xT3 (W := w70) BK423.out; have p56 : 0 ≤ (x424002_2 : Int) := of_decide_eq_true (by assumption); have q56 : (x424002_2 : Int) < ((x424001_2.length : Int) : Int) := of_decide_eq_true (by assumption); obtain ⟨go56, co56, eo56, gb56, gl56, cl56, HG56⟩ := Kd.R_form HO_424001.out (by first | omega | (have e_ := (Kd.R_reads' HO_424001.out).1; omega)); (first | cases eo56 | (injection eo56 with ea_ en_ ec_; (first | subst ea_ | (injection ea_ with ea_; subst ea_)); subst ec_; clear en_)); have GB56 := am gb56; have GG56 := am HG56; clear gb56 gl56 HG56; (first | simp only [add_plain] at hx425_0 | skip); (first | simp only [add_plain] at hx425_1 | skip); obtain ⟨ce56, hcl56, hM56, hcc56, hfr56⟩ := Kd.R_elem HO_424001.out z57 (x424002_2 : Int) p56 q56; obtain rfl := k57_openM hM56; have hx56_0 : w70.cell? ⟨go56, (x424002_2 : Int).toNat * 2, none⟩ = some (.string ((rd_T57 t430 x424002_2).f0)) := hcc56 0 _ rfl; have hx56_1 : w70.cell? ⟨go56, (x424002_2 : Int).toNat * 2 + 1, none⟩ = some (.int .i64 ((rd_T57 t430 x424002_2).f1)) := hcc56 1 _ rfl; have hf56_0 : w70.frozen? ⟨go56, (x424002_2 : Int).toNat * 2, none⟩ = false := hfr56 0; have hf56_1 : w70.frozen? ⟨go56, (x424002_2 : Int).toNat * 2 + 1, none⟩ = false := hfr56 1; clear hcl56 hcc56 hfr56 hM56; replace p56 := eq_true p56; replace q56 := eq_true q56; have HX72 := am (show Kd.R k57 57 w70 w.heap.size (fun k_ => some k_ ≠ (.slice Ao69 x424000_2.length co69 : Value).ownBlock ∧ k_ ≠ gb426) (.slice (some ⟨go56, 0, none⟩) x424001_2.length co60) t430 from (xR HO_424001.out)); obtain ⟨ce72, hcl72, hM72, hcc72, hfr72⟩ := Kd.R_elem HX72.out z57 (x424002_2 : Int) (of_decide_eq_true (by assumption)) (by have h_ : (x424002_2 : Int) < ((x424001_2.length : Int) : Int) := of_decide_eq_true (by assumption); first | exact h_ | (have e_ := (Kd.R_reads' HO_424001.out).1; omega) | simpa using h_); obtain rfl := k57_openM hM72; have HP72 := Kd.R_seg HX72.out (x424002_2 : Int) (of_decide_eq_true (by assumption)) (by have h_ : (x424002_2 : Int) < ((x424001_2.length : Int) : Int) := of_decide_eq_true (by assumption); first | exact h_ | (have e_ := (Kd.R_reads' HO_424001.out).1; omega) | simpa using h_) (seg := [.string (⟨#[]⟩ : ByteArray), .int .i64 (-2)]) (j := 0) hcl72 hcc72 (show 2 ≤ 2 from by decide) (x' := (⟨(⟨#[]⟩ : ByteArray), (-2)⟩ : S57)) (k57_mkM _ _ _ (⟨(⟨#[]⟩ : ByteArray), (-2)⟩ : S57) ) (fun _ hk => hk); have hx72_0 := hcc72 0 _ rfl; (try simp only [show (k57).sz = 2 from rfl, Nat.mul_one, Nat.add_zero] at hx72_0); have hf72_0 := hfr72 0; (try simp only [show (k57).sz = 2 from rfl, Nat.mul_one, Nat.add_zero] at hf72_0); have hx72_1 := hcc72 1 _ rfl; (try simp only [show (k57).sz = 2 from rfl, Nat.mul_one, Nat.add_zero] at hx72_1); have hf72_1 := hfr72 1; (try simp only [show (k57).sz = 2 from rfl, Nat.mul_one, Nat.add_zero] at hf72_1); clear hcl72 hcc72 hfr72 hM72) | ((with_reducible refine gate_store (t := 57) (p := 52) rfl ?_); refine store_event (t := 57) (p := 52) (v := ?vo_w73) (w1 := ((w70.setCell ⟨go56, (x424002_2 : Int).toNat * 2, none⟩ (.string (⟨#[]⟩ : ByteArray))).setCell ⟨go56, (x424002_2 : Int).toNat * 2 + 1, none⟩ (.int .i64 (-2)))) ?hg ?ho ?hn ?hr ?_; (case ho => rfl); (case hg => rfl); (case hn => rfl); (case hr => first | (go_simp; done) | (go_simp; rfl)); intro w73 hw; have hg : w70.grownBy w73 (some go56) := (by rw [hw]; exact HP72.2); have hp_ : Kd.R k57 57 w73 w.heap.size (fun k_ => some k_ ≠ (.slice Ao69 x424000_2.length co69 : Value).ownBlock ∧ k_ ≠ gb426) (.slice (some ⟨go56, 0, none⟩) x424001_2.length co60) y431 := (by rw [hw, Ny431.out]; exact HP72.1); clear HP72; replace HO_424000 := am (Kd.R_after (v := (.slice (some ⟨go56, 0, none⟩) x424001_2.length co60)) (v1 := (.slice (some ⟨go56, 0, none⟩) x424001_2.length co60)) (ok := (fun k_ => k_ ≠ gb426)) (Kd.R_mono (xR HO_424000.out) (fun _ hk => ⟨hk.2, hk.1⟩)) hg (.inl rfl)); replace BK414 := am (blk_grown (g := gb414) (o := .cells #[.slice A0_0 l0_0.length c0_0, .slice A0_1 l0_1.length c0_1, .int .i64 a0_2] 26 (0, 0)) (xB BK414.out) hg (Kd.R_ne HO_424001.out BK414.out (by decide))); replace BK415 := am (blk_grown (g := gb415) (o := .cells #[.slice none 0 0, .slice none 0 0, .int .i64 x416002_2] 26 (0, 0)) (xB BK415.out) hg (Kd.R_ne HO_424001.out BK415.out (by decide))); replace BK423 := am (blk_grown (g := gb423) (o := .cells #[.slice Ao69 x424000_2.length co69, .slice (some ⟨go56, 0, none⟩) x424001_2.length co60, .int .i64 x424002_2] 26 (0, 0)) (xB BK423.out) hg (Kd.R_ne HO_424001.out BK423.out (by decide))); replace BK426 := am (blk_grown (g := gb426) (o := .cells #[.string ((rd_T57 x424001_2 x424002_2).f0), .int .i64 ((rd_T57 x424001_2 x424002_2).f1)] 57 (0, 0)) (xB BK426.out) hg (Kd.R_away HO_424001.out (fun _ hk => hk.2))); replace HO_424001 := am (hp_); replace HB := am ((by rw [hw]; exact below_set (below_set (HB.out) GB56.out) GB56.out : Below w.heap.size w w73)); clear hg hw hp_; obtain ⟨hcz74_0, hcz74_1, hcz74_2, hfz74_0, hfz74_1, hfz74_2⟩ := xT3 (W := w73) BK423.out))
             go_roundg kj27
             case measure => have := HJ3.out; have := HK2.out; have := HJ27.out; omega
             case rel => exact ⟨(wrap64 (x1_2 - 1)), (x416002_2), (t429), (y431), (wrap64 (x424002_2 + 1)), (.slice Ao69 x424000_2.length co69), (.slice (some ⟨go56, 0, none⟩) x424001_2.length co60), (xQ), H', ⟨by have := HJ3.out; have := HK2.out; have := HJ27.out; omega⟩, ⟨Kd.R_mono (xR HO_424000.out) (fun _ hk => hk.2)⟩, ⟨Kd.R_mono (xR HO_424001.out) (fun _ hk => hk.1)⟩, ⟨xB BK414.out⟩, ⟨xB BK415.out⟩, ⟨xP BK423.out⟩, ⟨xW HB.out⟩⟩
            ·replace c55 := Bool.eq_false_iff.mpr c55
             subst c55
             have H1 : (some (t429, t430, x424002_2)) = some (r1, r2, r3) := by rw [if_neg (show ¬ (false = true) by decide)] at H; exact H
             clear H
             have H := H1
             clear H1
             simp only [Option.some.injEq, Prod.mk.injEq] at H
             obtain ⟨rfl, rfl, rfl⟩ := H
             have hnb75 := NB423_414.out
             have hnc75 := NB414_423.out
             have hnb76 := NB423_415.out
             have hnc76 := NB415_423.out
             obtain ⟨hcz77_0, hcz77_1, hcz77_2, hfz77_0, hfz77_1, hfz77_2⟩ := xT3 (W := wc) BK423.out
             obtain ⟨Ao78, co78, eo78⟩ := Kd.R_slice HO_424001.out
             subst eo78
             have p425 : 0 ≤ (x424002_2 : Int) := of_decide_eq_true (by assumption)
             have q425 : x424002_2 < (x424001_2.length : Int) := of_decide_eq_true (by assumption)
             obtain ⟨ad425, e425, hx425_0, hx425_1⟩ := at_T57 (Kd.R_reads' HO_424001.out).2.2 x424002_2 p425 q425
             cases e425
             replace p425 := eq_true p425
             replace q425 := eq_true q425
             go_wp2_with (first | ((with_reducible refine gate_dst (N := 6) rfl ?_); (try (refine gate_guard (by rfl) ?_; dsimp only)); refine xE (N := 6) (cs := #[.string (⟨#[]⟩ : ByteArray), .int .i64 0]) (t := 57) (h := ?_); intro gb426 hg w79 hbox hb; replace HO_424000 := am (Kd.R_below (Kd.R_elderB (xR HO_424000.out) gb426 (Nat.le_of_eq hg.symm)) hb); replace HO_424001 := am (Kd.R_below (Kd.R_elderB (xR HO_424001.out) gb426 (Nat.le_of_eq hg.symm)) hb); have BK426 := am (hbox); have GW426 := am (xS hg HB.out); have GE426 := am (xS hg HB.out); replace HB := am (below_step (xW HB.out) hb); have NB414_426 := am (xN hg BK414.out); have NB426_414 := am (xM hg BK414.out); replace BK414 := am (blk_below (xB BK414.out) hb); have NB415_426 := am (xN hg BK415.out); have NB426_415 := am (xM hg BK415.out); replace BK415 := am (blk_below (xB BK415.out) hb); have NB423_426 := am (xN hg BK423.out); have NB426_423 := am (xM hg BK423.out); replace BK423 := am (blk_below (xB BK423.out) hb); clear hb hbox hg; have hnb80 := NB426_414.out; have hnc80 := NB414_426.out; have hnb81 := NB426_415.out; have hnc81 := NB415_426.out; have hnb82 := NB426_423.out; have hnc82 := NB423_426.out; obtain ⟨hcz83_0, hcz83_1, hfz83_0, hfz83_1⟩ := xT2 (W := w79) BK426.out) | ((with_reducible refine gate_store (t := 57) (p := 6) rfl ?_); refine store_event (t := 57) (p := 6) (v := ?vo_w84) (w1 := ((w79.setCell ⟨gb426, 0, none⟩ (.string ((rd_T57 x424001_2 x424002_2).f0))).setCell ⟨gb426, 1, none⟩ (.int .i64 ((rd_T57 x424001_2 x424002_2).f1)))) ?hg ?ho ?hn ?hr ?_; (case ho => rfl); (case hg => rfl); (case hn => rfl); (case hr => first | (go_simp; done) | (go_simp; rfl)); intro w84 hw; have n0_ : Aside0 (Kd.R k57 57 w84 w.heap.size (fun k_ => some k_ ≠ (.slice (some ad425) x424001_2.length co78 : Value).ownBlock ∧ k_ ≠ gb426) u424000 x424000_2) := ⟨(by rw [hw]; exact (by (with_reducible repeat (first | apply Kd.R_alloc | apply Kd.R_drewN | apply Kd.R_drew)); exact Kd.R_mono (Kd.R_far (p := ⟨gb426, 1, none⟩) (Kd.R_far (p := ⟨gb426, 0, none⟩) (Kd.R_mono HO_424000.out (fun k_ hk => (⟨hk, hk.2⟩ : _ ∧ k_ ≠ gb426))) (fun _ hk => hk.2) (.string ((rd_T57 x424001_2 x424002_2).f0))) (fun _ hk => hk.2) (.int .i64 ((rd_T57 x424001_2 x424002_2).f1))) (fun _ hk => ⟨hk.1.1, hk.1.2⟩)))⟩; have n1_ : Aside0 (Kd.R k57 57 w84 w.heap.size (fun k_ => some k_ ≠ (u424000 : Value).ownBlock ∧ k_ ≠ gb426) (.slice (some ad425) x424001_2.length co78) x424001_2) := ⟨(by rw [hw]; exact (by (with_reducible repeat (first | apply Kd.R_alloc | apply Kd.R_drewN | apply Kd.R_drew)); exact Kd.R_mono (Kd.R_far (p := ⟨gb426, 1, none⟩) (Kd.R_far (p := ⟨gb426, 0, none⟩) (Kd.R_mono HO_424001.out (fun k_ hk => (⟨hk, hk.2⟩ : _ ∧ k_ ≠ gb426))) (fun _ hk => hk.2) (.string ((rd_T57 x424001_2 x424002_2).f0))) (fun _ hk => hk.2) (.int .i64 ((rd_T57 x424001_2 x424002_2).f1))) (fun _ hk => ⟨hk.1.1, hk.1.2⟩)))⟩; have n2_ : Aside0 (w84.heap[gb414]? = some (.cells #[.slice A0_0 l0_0.length c0_0, .slice A0_1 l0_1.length c0_1, .int .i64 a0_2] 26 (0, 0))) := ⟨(by rw [hw]; exact (xB BK414.out))⟩; have n3_ : Aside0 (w84.heap[gb415]? = some (.cells #[.slice none 0 0, .slice none 0 0, .int .i64 x416002_2] 26 (0, 0))) := ⟨(by rw [hw]; exact (xB BK415.out))⟩; have n4_ : Aside0 (w84.heap[gb423]? = some (.cells #[u424000, .slice (some ad425) x424001_2.length co78, .int .i64 x424002_2] 26 (0, 0))) := ⟨(by rw [hw]; exact (xB BK423.out))⟩; have n5_ : Aside0 (w84.heap[gb426]? = some (.cells #[.string ((rd_T57 x424001_2 x424002_2).f0), .int .i64 ((rd_T57 x424001_2 x424002_2).f1)] 57 (0, 0))) := ⟨(by rw [hw]; exact (xP BK426.out))⟩; have n6_ : Aside0 (Below w.heap.size w w84) := ⟨(by rw [hw]; exact (xW HB.out))⟩; clear hw; clear HO_424000; clear HO_424001; clear BK414; clear BK415; clear BK423; clear BK426; clear HB; have HO_424000 := n0_; have HO_424001 := n1_; have BK414 := n2_; have BK415 := n3_; have BK423 := n4_; have BK426 := n5_; have HB := n6_; clear n0_ n1_ n2_ n3_ n4_ n5_ n6_; obtain ⟨hcz85_0, hcz85_1, hfz85_0, hfz85_1⟩ := xT2 (W := w84) BK426.out; obtain ⟨hcz86_0, hcz86_1, hcz86_2, hfz86_0, hfz86_1, hfz86_2⟩ := xT3 (W := w84) BK423.out; obtain ⟨Ao87, co87, eo87⟩ := Kd.R_slice HO_424000.out; subst eo87) | (go_at_call 48; (with_reducible refine (impl_Table_put.calls kj27 (fun k_ => some k_ = (.slice Ao87 x424000_2.length co87 : Value).ownBlock) (.slice Ao87 x424000_2.length co87) x424000_2 (fun k_ => some k_ = (.slice (some ad425) x424001_2.length co78 : Value).ownBlock) (.slice (some ad425) x424001_2.length co78) x424001_2 x424002_2 ((rd_T57 x424001_2 x424002_2).f0) ((rd_T57 x424001_2 x424002_2).f1) false t429 t430 w _ ?side1 ?side2 ?side3 ?side4 ?side5 A54.out gb423 (xB BK423.out) GE423.out).mono ?_); (case side1 => exact xW HB.out); (case side2 => exact Kd.R_tight rfl HO_424000.out); (case side3 => first | exact fun k_ e_ => (HO_424000.out.1 k_ e_.symm).1 | exact fun k_ e_ hs_ => by have hh_ := HO_424000.out.1 k_ e_.symm; revert hh_; simp [hs_]); (case side4 => exact Kd.R_tight rfl HO_424001.out); (case side5 => first | exact fun k_ e_ => (HO_424001.out.1 k_ e_.symm).1 | exact fun k_ e_ hs_ => by have hh_ := HO_424001.out.1 k_ e_.symm; revert hh_; simp [hs_]); rintro e w88 ⟨rfl, hy0, hy1, hb, hkp⟩; replace BK414 := am (blk_kept (xB BK414.out) hkp (fun hs_ => Or.elim hs_ (fun e_ => (fun e_ => (Kd.R_ne HO_424000.out BK414.out (by decide)) e_) e_) (fun e_ => (fun e_ => (Kd.R_ne HO_424001.out BK414.out (by decide)) e_) e_))); replace BK415 := am (blk_kept (xB BK415.out) hkp (fun hs_ => Or.elim hs_ (fun e_ => (fun e_ => (Kd.R_ne HO_424000.out BK415.out (by decide)) e_) e_) (fun e_ => (fun e_ => (Kd.R_ne HO_424001.out BK415.out (by decide)) e_) e_))); replace BK423 := am (blk_kept (xB BK423.out) hkp (fun hs_ => Or.elim hs_ (fun e_ => (fun e_ => (Kd.R_ne HO_424000.out BK423.out (by decide)) e_) e_) (fun e_ => (fun e_ => (Kd.R_ne HO_424001.out BK423.out (by decide)) e_) e_))); replace BK426 := am (blk_kept (xB BK426.out) hkp (fun hs_ => Or.elim hs_ (fun e_ => (fun e_ => (Kd.R_away HO_424000.out (fun _ hk => hk.2)) e_) e_) (fun e_ => (fun e_ => (Kd.R_away HO_424001.out (fun _ hk => hk.2)) e_) e_))); replace HO_424000 := am (Kd.R_reok rfl hy0 (fun k_ e_ => HO_424000.out.1 k_ e_)); replace HO_424001 := am (Kd.R_reok rfl hy1 (fun k_ e_ => HO_424001.out.1 k_ e_)); replace HB := am (hb); (try clear hb); (try clear hkp); (try clear hy0); (try clear hy1); obtain ⟨hcz89_0, hcz89_1, hcz89_2, hfz89_0, hfz89_1, hfz89_2⟩ := xT3 (W := w88) BK423.out; have hnb90 := NB415_414.out; have hnc90 := NB414_415.out; obtain ⟨hcz91_0, hcz91_1, hcz91_2, hfz91_0, hfz91_1, hfz91_2⟩ := xT3 (W := w88) BK415.out))
             refine bodyPost_ret (results_cell_row rfl _ _ gb415 26 #[.slice Ao87 x424000_2.length co87, .slice (some ad425) x424001_2.length co78, .int .i64 x424002_2] (0, 0) _ rfl (xP BK415.out) Try.underlying26 rfl (by kernel_rfl)) rfl ?_
             exact ⟨_, _, xV, Kd.R_mono (xR HO_424000.out) (fun _ hk => hk.1), Kd.R_mono (xR HO_424001.out) (fun _ hk => hk.1), xW HB.out⟩
          ·rw [if_neg c36] at H
           exact absurd H (by simp)
         ·rw [if_neg c35] at H
          exact absurd H (by simp)
        ·replace c34 := Bool.eq_false_iff.mpr c34
         subst c34
         have H1 : (if x424002_2 = (x424001_2.length : Int) then (some (x424000_2, ([] : List (S57)), 0)) else (some (x424000_2, x424001_2, x424002_2))) = some (r1, r2, r3) := by rw [if_neg (show ¬ (false = true) by decide)] at H; exact H
         clear H
         have H := H1
         clear H1
         by_cases c92 : x424002_2 = (x424001_2.length : Int)
         ·rw [if_pos c92] at H
          have c92b0 : (x424002_2 == (x424001_2.length : Int)) = true := beq_iff_eq.mpr c92
          have c92b1 : (x424002_2 != (x424001_2.length : Int)) = false := bne_eq_false_iff_eq.mpr c92
          clear c92
          simp only [Option.some.injEq, Prod.mk.injEq] at H
          obtain ⟨rfl, rfl, rfl⟩ := H
          have hnb93 := NB423_414.out
          have hnc93 := NB414_423.out
          have hnb94 := NB423_415.out
          have hnc94 := NB415_423.out
          obtain ⟨hcz95_0, hcz95_1, hcz95_2, hfz95_0, hfz95_1, hfz95_2⟩ := xT3 (W := wc) BK423.out
          obtain ⟨Ao96, co96, eo96⟩ := Kd.R_slice HO_424001.out
          subst eo96
          obtain ⟨Ao97, co97, eo97⟩ := Kd.R_slice HO_424000.out
          subst eo97
          have hnb98 := NB415_414.out
          have hnc98 := NB414_415.out
          obtain ⟨hcz99_0, hcz99_1, hcz99_2, hfz99_0, hfz99_1, hfz99_2⟩ := xT3 (W := wc) BK415.out
          go_wp2
          refine bodyPost_ret (results_cell_row rfl _ _ gb415 26 #[.slice Ao97 x424000_2.length co97, .slice none 0 0, .int .i64 0] (0, 0) _ rfl (xP BK415.out) Try.underlying26 rfl (by kernel_rfl)) rfl ?_
          exact ⟨_, _, xV, by (with_reducible repeat (first | apply Kd.R_alloc | apply Kd.R_drewN | apply Kd.R_drew)); exact Kd.R_mono (Kd.R_far (p := ⟨gb415, 2, none⟩) (Kd.R_far (p := ⟨gb415, 1, none⟩) (Kd.R_far (p := ⟨gb415, 0, none⟩) (Kd.R_far (p := ⟨gb423, 2, none⟩) (Kd.R_far (p := ⟨gb423, 1, none⟩) (Kd.R_types (Kd.R_types HO_424000.out BK423.out (by decide)) BK415.out (by decide)) (fun _ hk => hk.1.2) (.slice none 0 0)) (fun _ hk => hk.1.2) (.int .i64 0)) (fun _ hk => hk.2) (.slice Ao97 x424000_2.length co97)) (fun _ hk => hk.2) (.slice none 0 0)) (fun _ hk => hk.2) (.int .i64 0)) (fun _ hk => (by simp [Value.ownBlock])), by first | exact Kd.R_nil _ _ _ _ _ | exact Kd.N_nil _ _ _ _ _ | exact Kd.V_nil _ _ _ _ _ | exact Kd.Q_nil _ _ _ _ _ | exact Kd.S_nil _ _ _ _ _, xW HB.out⟩
         ·rw [if_neg c92] at H
          have c92b0 : (x424002_2 == (x424001_2.length : Int)) = false := beq_eq_false_iff_ne.mpr c92
          have c92b1 : (x424002_2 != (x424001_2.length : Int)) = true := bne_iff_ne.mpr c92
          simp only [Option.some.injEq, Prod.mk.injEq] at H
          obtain ⟨rfl, rfl, rfl⟩ := H
          have hnb100 := NB423_414.out
          have hnc100 := NB414_423.out
          have hnb101 := NB423_415.out
          have hnc101 := NB415_423.out
          obtain ⟨hcz102_0, hcz102_1, hcz102_2, hfz102_0, hfz102_1, hfz102_2⟩ := xT3 (W := wc) BK423.out
          obtain ⟨Ao103, co103, eo103⟩ := Kd.R_slice HO_424001.out
          subst eo103
          obtain ⟨Ao104, co104, eo104⟩ := Kd.R_slice HO_424000.out
          subst eo104
          have hnb105 := NB415_414.out
          have hnc105 := NB414_415.out
          obtain ⟨hcz106_0, hcz106_1, hcz106_2, hfz106_0, hfz106_1, hfz106_2⟩ := xT3 (W := wc) BK415.out
          go_wp2
          refine bodyPost_ret (results_cell_row rfl _ _ gb415 26 #[.slice Ao104 x424000_2.length co104, .slice Ao103 x424001_2.length co103, .int .i64 x424002_2] (0, 0) _ rfl (xP BK415.out) Try.underlying26 rfl (by kernel_rfl)) rfl ?_
          exact ⟨_, _, xV, xR HO_424000.out, xR HO_424001.out, xW HB.out⟩
theorem plain57 : Kd.Plain k57 (fun x : S57 => [.string x.f0, .int .i64 x.f1]) where
 len := fun _ => rfl
 one := by intro x u hu; simp at hu; rcases hu with rfl | rfl <;> rfl
 K := fun w x cs => ⟨k57_open, fun h => h ▸ k57_mk w x⟩
 M := fun w b ok x cs => ⟨k57_openM, fun h => h ▸ k57_mkM w b ok x⟩
theorem size57 : (Try.prog.info? 57).map (·.size) = some k57.sz := by
 obtain ⟨i, hi, hz⟩ := Option.map_eq_some_iff.1 info57
 simp only [Prod.mk.injEq] at hz
 rw [hi]
 exact congrArg some hz.2.1
def impl_Cell_82.f (l0 : List S57) (a1 : Int) : Option (List S57) := if l0.length = 1 then (if 1 ≤ a1 ∧ a1 ≤ 64 then some (List.replicate a1.toNat (rd_T57 l0 0)) else none) else none
theorem impl_Cell_82.step_ (c z : S57) (n m : Nat) (h : n ≤ m) (q : Nat) (hq : n + q ≤ m) (hqn : q ≤ n) : (List.replicate n c ++ List.replicate (m - n) z).take n ++ List.replicate q c ++ (List.replicate n c ++ List.replicate (m - n) z).drop (n + (List.replicate q c).length) = List.replicate (n + q) c ++ List.replicate (m - (n + q)) z := by
 rw [List.take_left' (by simp), List.length_replicate, List.replicate_append_replicate, List.drop_append, List.drop_eq_nil_of_le (by simp), List.nil_append, List.length_replicate, List.drop_replicate]
 congr 2
 omega
set_option maxHeartbeats 8000000 in
set_option maxRecDepth 100000 in
theorem impl_Cell_82.calls (A0 : Option Addr) (c0 : Nat) (l0 : List S57) (a1 : Int) (r : List S57) (w : World) (hr0 : Kd.C k57 w A0 l0.length l0) (hc0 : l0.length ≤ c0) (h : impl_Cell_82.f l0 a1 = some r) :
  Calls Try.prog 82 #[.slice A0 l0.length c0, .int .i64 a1] w fun e w' => ∃ v0_ : Value, e = .returned (v0_) ∧ Kd.R k57 57 w' w.heap.size (fun _ => True) v0_ r ∧ Below w.heap.size w w' := by
 unfold impl_Cell_82.f at h
 by_cases h1 : l0.length = 1
 ·rw [if_pos h1] at h
  by_cases h2 : 1 ≤ a1 ∧ a1 ≤ 64
  ·rw [if_pos h2] at h
   obtain rfl := Option.some.inj h
   obtain ⟨x, rfl⟩ : ∃ x, l0 = [x] := by
    match l0, h1 with
    | [x], _ => exact ⟨x, rfl⟩
   obtain ⟨m, rfl⟩ := Int.eq_ofNat_of_zero_le (show 0 ≤ a1 by omega)
   have hm1 : 1 ≤ m := by omega
   have hm2 : m ≤ 64 := by omega
   clear h h1 h2
   obtain ⟨ad, rfl, hcell⟩ := Kd.C_cells plain57 hr0 (by simp)
   have HC := am hcell
   clear hcell hr0
   have HB := am (Below.refl w.heap.size w)
   have hx0 : rd_T57 [x] 0 = x := rfl
   have hl1 : ([x] : List S57).length = 1 := rfl
   rw [hx0]
   simp only [hl1, Int.toNat_natCast] at hc0 ⊢
   have b0 : ¬ (m : Int) < 0 := by omega
   have b1 : ((m : Int) % 18446744073709551616) = (m : Int) := by omega
   have b2 : (m : Int) ≤ 9223372036854775807 := by omega
   have b3 : ¬ (9223372036854775807 : Int) < (m : Int) := by omega
   have bm : ∀ w : World, Calls Try.prog 90 #[.int .u64 1, .int .u64 (m : Int)] w fun e w' => e = .returned (.tuple #[.int .u64 0, .int .u64 (m : Int)]) ∧ w' = w := fun w => (Try.bits_Mul 1 m (by omega) (by omega) w).mono (by
    rintro e w' ⟨rfl, rfl⟩
    have e1 : 1 * m / 18446744073709551616 = 0 := by omega
    have e2 : 1 * m % 18446744073709551616 = m := by omega
    rw [e1, e2]
    exact ⟨rfl, rfl⟩)
   have BM := am bm
   clear bm
   go_enter Try.func82, Try.ntmps82
   go_wp2_with (first | ((with_reducible refine gate_callee (f := 90) rfl ?_); refine goesL_ (some 18) rfl rfl Try.func90 (by kernel_rfl) rfl #[.int .u64 1, .int .u64 (m : Int)] rfl (by (try simp only [List.map_toArray, List.map_cons, List.map_nil]); first | done | rfl | (go_simp; done) | (simp; done)) ?_; refine (BM.out _).mono ?_; rintro e w' ⟨rfl, rfl⟩; refine ⟨_, rfl, ?_⟩) | ((with_reducible refine gate_dst (N := 30) rfl ?_); refine Kd.R_make k57 _ 57 rfl (N := 30) rfl 24 _ _ rfl (m : Int) rfl rfl Try.underlying24 (.agg #[(.string ⟨#[]⟩), (.int .i64 0)]) 24 info57 rfl (by decide) (by omega) z57 (ok := fun _ => True) (okp := fun _ => True) (k57_mkM _ _ _ z57 ) (fun _ hk => hk) trivial (by omega) (by omega) (Below.refl _ _) (Nat.le_refl _) ?_; intro v30 w4 ho5 hb hg_ hnew_; clear hg_ hnew_; simp only [Int.toNat_natCast] at ho5; obtain ⟨g, cap, rfl, _, _, _⟩ := Kd.R_form ho5 (by simp; omega); simp only [List.length_replicate] at ho5; have HO := am ho5; clear HB; have HB := am hb; clear ho5 hb))
   obtain ⟨w5, hrun, ho, hb⟩ := Kd.copy_run (P := Try.prog) plain57 24 Try.underlying24 size57 g 0 m cap ad 1 c0 HO.out 0 (by simp) [x] (by show Nat.min 1 m = 1; exact Nat.min_eq_left hm1) (by simp; omega) (fun j u hu => (HB.out.cell (World.block_lt_of_cell? _ _ (HC.out j u hu))).trans (HC.out j u hu)) HB.out
   have e0 : (List.replicate m z57).take 0 ++ [x] ++ (List.replicate m z57).drop (0 + [x].length) = List.replicate 1 x ++ List.replicate (m - 1) z57 := by simp
   rw [e0] at ho
   rw [hrun]
   clear hrun HO HB e0
   have HO := am ho
   have HB := am hb
   clear ho hb
   go_wp2
   go_loopg [8] m (fun kq v8 w1 => ∃ n : Nat, v8 = .int .i64 (n : Int) ∧ Aside0 (1 ≤ n ∧ n ≤ m) ∧ Aside0 (m - n ≤ kq) ∧ Aside0 (Kd.R k57 57 w1 w'.heap.size (fun _ => True) (.slice (some ⟨g, 0, none⟩) m cap) (List.replicate n x ++ List.replicate (m - n) z57)) ∧ Aside0 (Below w'.heap.size w' w1))
   case atStart => exact ⟨1, rfl, ⟨by omega, hm1⟩, ⟨by omega⟩, ⟨HO.out⟩, ⟨HB.out⟩⟩
   case round =>
    obtain ⟨n, rfl, HN, HK, HO, HB⟩ := hrel
    by_cases hn : n < m
    ·obtain ⟨k1, rfl⟩ : ∃ k1, gk = k1 + 1 := ⟨gk - 1, by have := HK.out; omega⟩
     have c1 : (n : Int) < (m : Int) := by omega
     have c2 : (0 : Int) ≤ (n : Int) := by omega
     have c3 : (n : Int) ≤ (m : Int) := by omega
     have c4 : (n : Int) ≤ (cap : Int) := by have h1 := (Kd.R_cap HO.out).1; simp at h1; have := HN.out; omega
     have c5 : ¬ cap = n := by have h1 := (Kd.R_cap HO.out).1; simp at h1; have := HN.out; omega
     obtain ⟨q, hq⟩ : ∃ q, q = min n (m - n) := ⟨_, rfl⟩
     have HQ := am hq
     clear hq
     go_wp2
     have hE1 : (List.replicate n x ++ List.replicate (m - n) z57).take q = List.replicate q x := by
      rw [List.take_append_of_le_length (by rw [List.length_replicate, HQ.out]; omega), List.take_replicate, Nat.min_eq_left (by rw [HQ.out]; omega)]
     have E1 := am hE1
     clear hE1
     go_region_law (refine Kd.step_copy plain57 rfl (.tmp 41) (.tmp 44) 24 rfl Try.underlying24 size57 g (n * 2) (m - n) (cap - n) ⟨g, 0, none⟩ n cap (by simp [Act.eval, Act.put]) (by simp [Act.eval, Act.put]) (show Kd.R k57 57 _ w'.heap.size (fun _ => True) (.slice (some ⟨g, 0, none⟩) m cap) (List.replicate n x ++ List.replicate (m - n) z57) from (xR HO.out)) n rfl (List.replicate q x) (by rw [List.length_replicate, HQ.out]) (by simp; have := HQ.out; omega) (fun j u hu => Kd.R_src plain57 (show Kd.R k57 57 _ w'.heap.size (fun _ => True) (.slice (some ⟨g, 0, none⟩) m cap) (List.replicate n x ++ List.replicate (m - n) z57) from (xR HO.out)) q (by simp; have := HQ.out; omega) j u (by rw [E1.out]; exact hu)) (w0 := w') (xW HB.out) ?_; intro w6 ho6 hb6; have HO6 := am ho6; have HB6 := am hb6; clear ho6 hb6)
     go_wp2
     go_roundg k1
     case measure => have := HK.out; omega
     case rel =>
      have hq1 : 1 ≤ q := by have := HN.out; rw [HQ.out]; omega
      have hq2 : n + q ≤ m := by rw [HQ.out]; omega
      have hq3 : q ≤ n := by rw [HQ.out]; omega
      have hR6 := HO6.out
      rw [impl_Cell_82.step_ x z57 n m (by omega) q hq2 hq3] at hR6
      refine ⟨n + q, ?_, ⟨by have := HN.out; omega, hq2⟩, ⟨by have := HK.out; omega⟩, ⟨hR6⟩, ⟨HB6.out⟩⟩
      refine congrArg (Value.int .i64) ?_
      first | (simp only [i64_w, i32_w]; unfold wrap64; omega) | (simp; unfold wrap64; omega) | omega
    ·have c1 : ¬ (n : Int) < (m : Int) := by omega
     go_wp2
     go_ret
     have hnm : n = m := by have := HN.out; omega
     subst hnm
     refine ⟨_, rfl, ?_, HB.out⟩
     have := HO.out
     rw [Nat.sub_self, List.replicate_zero, List.append_nil] at this
     exact this
  ·rw [if_neg h2] at h
   cases h
 ·rw [if_neg h1] at h
  cases h
def impl_newCells.f (a0 : Int) : Option ((List (S57))) := (impl_Cell_82.f (([(⟨(⟨#[]⟩ : ByteArray), (-1)⟩ : S57)] : List (S57))) a0).bind fun t435 => (some t435)
set_option maxHeartbeats 8000000 in
set_option maxRecDepth 100000 in
theorem impl_newCells.calls (a0 : Int) (r : List (S57)) (w : World) (h : impl_newCells.f a0 = some r) :
  Calls Try.prog 49 #[.int .i64 a0] w fun e w' => ∃ v0_ : Value, e = .returned (v0_) ∧ Kd.R k57 57 w' w.heap.size (fun _ => True) v0_ r ∧ Below w.heap.size w w' := by
 have hu57 := Try.underlying57
 have HB := am (Below.refl w.heap.size w)
 have H : ((impl_Cell_82.f (([(⟨(⟨#[]⟩ : ByteArray), (-1)⟩ : S57)] : List (S57))) a0).bind fun t435 => (some t435)) = some r := h
 clear h
 obtain ⟨y432, hy432⟩ : ∃ y_ : List (S57), y_ = (([(⟨(⟨#[]⟩ : ByteArray), (-1)⟩ : S57)] : List (S57))) := ⟨_, rfl⟩
 replace H : ((impl_Cell_82.f y432 a0).bind fun t435 => (some t435)) = some r := by first | (rw [hy432]; with_reducible exact H) | (have H2_ := (Option.bind_some _ _).symm.trans H; rw [hy432]; with_reducible exact H2_) | (have H2_ := (Option.bind_some _ _).symm.trans H; with_reducible exact H2_) | with_reducible exact H | (rw [hy432]; exact H) | exact H
 have Ny432 := am hy432
 clear hy432
 replace H := Option.bind_eq_some_iff.mp H
 obtain ⟨t435, A20, H⟩ := H
 replace H : (some t435) = some r := H
 have A2 := am A20
 clear A20
 obtain rfl := Option.some.inj H
 go_enter Try.func49, Try.ntmps49
 go_wp2_with (first | ((with_reducible refine gate_dst (N := 4) rfl ?_); refine Kd.R_lit k57 _ 57 ?hg (N := 4) ?hd (xs := ([(⟨(⟨#[]⟩ : ByteArray), (-1)⟩ : S57)] : List (S57))) (inner := [.string (⟨#[]⟩ : ByteArray), .int .i64 (-1)]) (ok := fun _ => True) (okp := fun _ => True) ?hr ?hp (fun _ hk => hk) trivial (Below.refl _ _) (Nat.le_refl _) (by simp) ?_; (case hd => rfl); (case hg => rfl); (case hr => first | (go_simp; done) | (go_simp; rfl)); (case hp => exact (Reps.c2 (show Kd.M k57 _ _ _ (⟨(⟨#[]⟩ : ByteArray), (-1)⟩ : S57) [.string (⟨#[]⟩ : ByteArray), .int .i64 (-1)] from (k57_mkM _ _ _ (⟨(⟨#[]⟩ : ByteArray), (-1)⟩ : S57) )) (Reps.none _ _))); intro v433 w3 ho4 hb hg_ hnew_; clear hg_ hnew_; (first | rw [← Ny432.out] at ho4 | (simp only [Int.reduceToNat] at ho4; rw [← Ny432.out] at ho4)); have HO434 := am (Kd.R_lower ho4 (below_size (xW HB.out))); replace HB := am (below_step (xW HB.out) hb); clear hb ho4; obtain ⟨Ao5, co5, eo5⟩ := Kd.R_slice HO434.out; subst eo5) | ((with_reducible refine gate_callee (f := 82) rfl ?_); refine xG (some 6) 82 Try.func82 #[.slice Ao5 y432.length co5, .int .i64 a0] (h := ?_); (with_reducible refine (impl_Cell_82.calls _ _ y432 a0 t435 _ ?side1 ?side2 A2.out).mono ?_); (case side1 => exact xC ((Kd.R_reads' HO434.out).2.2)); (case side2 => exact (Kd.R_reads' HO434.out).2.1); rintro e w6 ⟨v436, rfl, ho0, hb⟩; refine ⟨_, rfl, ?_⟩; have HO437 := am (Kd.R_lower (Kd.R_new' ho0 (Kd.R_lt (xR HO434.out))) (below_size (xW HB.out))); replace HO434 := am (Kd.R_elder' (xR HO434.out) (Kd.R_base ho0) hb); replace HB := am (below_step (xW HB.out) hb); (try clear hb); (try clear ho0)))
 go_ret
 exact ⟨_, xV, Kd.R_mono (xR HO437.out) (fun _ hk => trivial), xW HB.out⟩
end Go.Proofs.Ytmahoekbedgbcaa.HFnGrows
