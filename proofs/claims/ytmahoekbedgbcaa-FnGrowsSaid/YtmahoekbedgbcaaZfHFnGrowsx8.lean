/- What the row of the law needs of the printed and the plain texts. -/
import Derived.Test.YtmahoekbedgbcaaZfHX
import Derived.Test.YtmahoekbedgbcaaZfHFnGrowsx0
import Derived.Test.YtmahoekbedgbcaaZfHFnGrowsx4
import Derived.Test.YtmahoekbedgbcaaZfHFnGrowsx5
import Derived.Test.YtmahoekbedgbcaaZfHFnGrowsx6
namespace Go.Proofs.Ytmahoekbedgbcaa.HFnGrows
open Go.RowKit Go.Proofs.YtmahoekbedgbcaaW.PrintWords Go.Proofs.YtmahoekbedgbcaaW.PrintLast Go.Proofs.YtmahoekbedgbcaaW.PrintMore
attribute [local go_sem] max2_int min2_int max_two min_two max_three min_three max_four min_four
set_option linter.unusedVariables false
set_option linter.unusedSimpArgs false
mutual
def spec_MoveSome.j0 : Nat → Int → Bool → List (S57) → List (S57) → Int → Option ((List (S57)) × (List (S57)) × Int)
 | 0, _, _, _, _, _ => none
 | k + 1, x1, x18, x244000, x244001, x244002 => if x18 = true then (some (x244000, x244001, x244002)) else (spec_MoveSome.l0 k x1 0 x244000 x244001 x244002)
def spec_MoveSome.l0 : Nat → Int → Int → List (S57) → List (S57) → Int → Option ((List (S57)) × (List (S57)) × Int)
 | 0, _, _, _, _, _ => none
 | k + 1, x1, x6, x244000, x244001, x244002 => if x6 < x1 then (spec_MoveSome.j2 k x1 x6 (decide (x244002 < (x244001.length : Int))) x244000 x244001 x244002) else (spec_MoveSome.j2 k x1 x6 false x244000 x244001 x244002)
def spec_MoveSome.j2 : Nat → Int → Int → Bool → List (S57) → List (S57) → Int → Option ((List (S57)) × (List (S57)) × Int)
 | 0, _, _, _, _, _, _ => none
 | k + 1, x1, x6, x30, x244000, x244001, x244002 => if x30 = true then (if 0 ≤ x244002 then (if x244002 < (x244001.length : Int) then (if ((rd_T57 x244001 x244002).f0).toList = ([] : List UInt8) then (spec_MoveSome.l0 k x1 (wrap64 (x6 + 1)) x244000 (x244001.set (x244002 : Int).toNat (⟨(⟨#[]⟩ : ByteArray), (-2)⟩ : S57)) (wrap64 (x244002 + 1))) else ((spec_l04Put.f k x244000 ((rd_T57 x244001 x244002).f0) ((rd_T57 x244001 x244002).f1)).bind fun bt248 => (if bt248.1 = true then (spec_MoveSome.l0 k x1 (wrap64 (x6 + 1)) bt248.2 (x244001.set (x244002 : Int).toNat (⟨(⟨#[]⟩ : ByteArray), (-2)⟩ : S57)) (wrap64 (x244002 + 1))) else (some (bt248.2, x244001, x244002))))) else (none)) else (none)) else (if x244002 = (x244001.length : Int) then (some (x244000, (([] : List (S57))), 0)) else (some (x244000, x244001, x244002)))
end
def spec_MoveSome.f (k : Nat) (l0_0 : List (S57)) (l0_1 : List (S57)) (a0_2 : Int) (a1 : Int) : Option ((List (S57)) × (List (S57)) × Int) := (spec_l04Copy.f l0_0 l0_1 a0_2).bind fun bt236 => ((spec_TableOk.f k l0_0 l0_1 a0_2).bind fun t244 => (if t244 = true then (spec_MoveSome.j0 k a1 ((l0_1.length : Int) == 0) bt236.1 bt236.2.1 bt236.2.2) else (spec_MoveSome.j0 k a1 true bt236.1 bt236.2.1 bt236.2.2)))
set_option maxHeartbeats 8000000 in
set_option maxRecDepth 100000 in
theorem spec_MoveSome.calls (k : Nat) (A0_0 : Option Addr) (c0_0 : Nat) (l0_0 : List (S57)) (A0_1 : Option Addr) (c0_1 : Nat) (l0_1 : List (S57)) (a0_2 : Int) (a1 : Int) (r1 : List (S57)) (r2 : List (S57)) (r3 : Int) (w : World) (hr0_0 : Kd.C k57 w A0_0 l0_0.length l0_0) (hc0_0 : l0_0.length ≤ c0_0) (hr0_1 : Kd.C k57 w A0_1 l0_1.length l0_1) (hc0_1 : l0_1.length ≤ c0_1) (h : spec_MoveSome.f k l0_0 l0_1 a0_2 a1 = some (r1, r2, r3)) :
  Calls Try.prog 78 #[.agg #[.slice A0_0 l0_0.length c0_0, .slice A0_1 l0_1.length c0_1, .int .i64 a0_2], .int .i64 a1] w fun e w' => ∃ v0_ v1_ : Value, e = .returned (.agg #[v0_, v1_, .int .i64 r3]) ∧ Kd.R k57 57 w' w.heap.size (fun k_ => some k_ ≠ (v1_ : Value).ownBlock) v0_ r1 ∧ Kd.R k57 57 w' w.heap.size (fun k_ => some k_ ≠ (v0_ : Value).ownBlock) v1_ r2 ∧ Below w.heap.size w w' := by
 have hu26 := Try.underlying26
 have hu57 := Try.underlying57
 have HR0_0 := am hr0_0
 have HC0_0 := am hc0_0
 clear hr0_0 hc0_0
 have HR0_1 := am hr0_1
 have HC0_1 := am hc0_1
 clear hr0_1 hc0_1
 have HB := am (Below.refl w.heap.size w)
 have H : ((spec_l04Copy.f l0_0 l0_1 a0_2).bind fun bt236 => ((spec_TableOk.f k l0_0 l0_1 a0_2).bind fun t244 => (if t244 = true then (spec_MoveSome.j0 k a1 ((l0_1.length : Int) == 0) bt236.1 bt236.2.1 bt236.2.2) else (spec_MoveSome.j0 k a1 true bt236.1 bt236.2.1 bt236.2.2)))) = some (r1, r2, r3) := h
 clear h
 replace H := Option.bind_eq_some_iff.mp H
 obtain ⟨⟨t236, t239, t242⟩, A30, H⟩ := H
 try dsimp only at H
 have A3 := am A30
 clear A30
 have HC4 := am H
 clear H
 go_enter Try.func78, Try.ntmps78
 go_upto_region 2 with (first | ((with_reducible refine gate_dst (N := 2) rfl ?_); (try (refine gate_guard (by rfl) ?_; dsimp only)); refine xE (N := 2) (cs := #[.slice A0_0 l0_0.length c0_0, .slice A0_1 l0_1.length c0_1, .int .i64 a0_2]) (t := 26) (h := ?_); intro gb234 hg w5 hbox hb; have BK234 := am (hbox); have GW234 := am (xS hg HB.out); have GE234 := am (xS hg HB.out); replace HB := am (below_step (xW HB.out) hb); clear hb hbox hg) | ((with_reducible refine gate_dst (N := 4) rfl ?_); (try (refine gate_guard (by rfl) ?_; dsimp only)); refine xE (N := 4) (cs := #[.slice none 0 0, .slice none 0 0, .int .i64 0]) (t := 26) (h := ?_); intro gb235 hg w6 hbox hb; have BK235 := am (hbox); have GW235 := am (xS hg HB.out); have GE235 := am (xS hg HB.out); replace HB := am (below_step (xW HB.out) hb); have NB234_235 := am (xN hg BK234.out); have NB235_234 := am (xM hg BK234.out); replace BK234 := am (blk_below (xB BK234.out) hb); clear hb hbox hg; have hnb7 := NB234_235.out; have hnc7 := NB235_234.out; obtain ⟨hcz8_0, hcz8_1, hcz8_2, hfz8_0, hfz8_1, hfz8_2⟩ := xT3 (W := w6) BK234.out) | ((with_reducible refine gate_callee (f := 69) rfl ?_); refine xG (some 9) 69 Try.func69 #[.agg #[.slice A0_0 l0_0.length c0_0, .slice A0_1 l0_1.length c0_1, .int .i64 a0_2]] (h := ?_); (with_reducible refine (spec_l04Copy.calls _ _ l0_0 _ _ l0_1 a0_2 t236 t239 t242 _ ?side1 ?side2 ?side3 ?side4 A3.out).mono ?_); (case side1 => exact xC (Kd.C_below HR0_0.out HB.out)); (case side2 => exact HC0_0.out); (case side3 => exact xC (Kd.C_below HR0_1.out HB.out)); (case side4 => exact HC0_1.out); rintro e w9 ⟨v237, v240, rfl, ho0, ho1, hb⟩; refine ⟨_, rfl, ?_⟩; have HO238 := am (Kd.R_lower ho0 (below_size (xW HB.out))); have HO241 := am (Kd.R_lower ho1 (below_size (xW HB.out))); replace BK234 := am (blk_below (xB BK234.out) hb); replace BK235 := am (blk_below (xB BK235.out) hb); replace HB := am (below_step (xW HB.out) hb); (try clear hb); (try clear ho0); (try clear ho1)) | ((with_reducible refine gate_dst (N := 5) rfl ?_); (try (refine gate_guard (by rfl) ?_; dsimp only)); refine xE (N := 5) (cs := #[.slice none 0 0, .slice none 0 0, .int .i64 0]) (t := 26) (h := ?_); intro gb243 hg w10 hbox hb; replace HO238 := am (Kd.R_below (xR HO238.out) hb); replace HO241 := am (Kd.R_below (xR HO241.out) hb); have BK243 := am (hbox); have GW243 := am (xS hg HB.out); have GE243 := am (xS hg HB.out); replace HB := am (below_step (xW HB.out) hb); have NB234_243 := am (xN hg BK234.out); have NB243_234 := am (xM hg BK234.out); replace BK234 := am (blk_below (xB BK234.out) hb); have NB235_243 := am (xN hg BK235.out); have NB243_235 := am (xM hg BK235.out); replace BK235 := am (blk_below (xB BK235.out) hb); clear hb hbox hg; obtain ⟨Ao11, co11, eo11⟩ := Kd.R_slice HO238.out; subst eo11; have hnb12 := NB243_234.out; have hnc12 := NB234_243.out; have hnb13 := NB243_235.out; have hnc13 := NB235_243.out; obtain ⟨hcz14_0, hcz14_1, hcz14_2, hfz14_0, hfz14_1, hfz14_2⟩ := xT3 (W := w10) BK243.out; obtain ⟨Ao15, co15, eo15⟩ := Kd.R_slice HO241.out; subst eo15))
 (try simp only [Act.put, List.setIfInBounds_toArray, List.set_cons_zero, List.set_cons_succ])
 go_cut [18] (fun v18 wc => ∃ (kq : Nat) (x18_3 : Bool), v18 = .bool x18_3 ∧ Aside0 (spec_MoveSome.j0 kq a1 x18_3 t236 t239 t242 = some (r1, r2, r3)) ∧ Aside0 (kq ≤ k) ∧ Aside0 (Kd.R k57 57 wc w.heap.size (fun k_ => some k_ ≠ ((.slice Ao15 t239.length co15) : Value).ownBlock) (.slice Ao11 t236.length co11) t236) ∧ Aside0 (Kd.R k57 57 wc w.heap.size (fun k_ => some k_ ≠ ((.slice Ao11 t236.length co11) : Value).ownBlock) (.slice Ao15 t239.length co15) t239) ∧ Aside0 (wc.heap[gb234]? = some (.cells #[(.slice A0_0 l0_0.length c0_0), (.slice A0_1 l0_1.length c0_1), .int .i64 a0_2] 26 (0, 0))) ∧ Aside0 (wc.heap[gb235]? = some (.cells #[(.slice none 0 0), (.slice none 0 0), .int .i64 0] 26 (0, 0))) ∧ Aside0 (wc.heap[gb243]? = some (.cells #[(.slice Ao11 t236.length co11), (.slice Ao15 t239.length co15), .int .i64 t242] 26 (0, 0))) ∧ Aside0 (Below w.heap.size w wc))
 case first =>
  have H := HC4.out
  clear HC4
  replace H := Option.bind_eq_some_iff.mp H
  obtain ⟨t244, A160, H⟩ := H
  try dsimp only at H
  have A16 := am A160
  clear A160
  by_cases c17 : t244 = true
  ·subst c17
   have H1 : (spec_MoveSome.j0 k a1 ((l0_1.length : Int) == 0) t236 t239 t242) = some (r1, r2, r3) := by rw [if_pos rfl] at H; exact H
   clear H
   have H := H1
   clear H1
   have H' := am H
   clear H
   have hnb18 := NB234_235.out
   have hnc18 := NB235_234.out
   have hnb19 := NB234_243.out
   have hnc19 := NB243_234.out
   obtain ⟨hcz20_0, hcz20_1, hcz20_2, hfz20_0, hfz20_1, hfz20_2⟩ := xT3 (W := w10) BK234.out
   go_wp2_with (first | ((with_reducible refine gate_callee (f := 25) rfl ?_); refine xG (some 11) 25 Try.func25 #[.agg #[.slice A0_0 l0_0.length c0_0, .slice A0_1 l0_1.length c0_1, .int .i64 a0_2]] (h := ?_); (with_reducible refine (spec_TableOk.calls k _ _ l0_0 _ _ l0_1 a0_2 true _ ?side1 ?side2 ?side3 ?side4 A16.out).mono ?_); (case side1 => exact Kd.C_below HR0_0.out (xW HB.out)); (case side2 => exact HC0_0.out); (case side3 => exact Kd.C_below HR0_1.out (xW HB.out)); (case side4 => exact HC0_1.out); rintro e w21 ⟨rfl, hb⟩; refine ⟨_, rfl, ?_⟩; replace HO238 := am (Kd.R_below (xR HO238.out) hb); replace HO241 := am (Kd.R_below (xR HO241.out) hb); replace BK234 := am (blk_below (xB BK234.out) hb); replace BK235 := am (blk_below (xB BK235.out) hb); replace BK243 := am (blk_below (xP BK243.out) hb); replace HB := am (below_step (xW HB.out) hb); (try clear hb); obtain ⟨hcz22_0, hcz22_1, hcz22_2, hfz22_0, hfz22_1, hfz22_2⟩ := xT3 (W := w21) BK234.out))
   go_meet
   case rel => exact ⟨_, (((l0_1.length : Int) == 0)), (xQ), H', ⟨by first | omega | exact Nat.le_refl _⟩, ⟨xR HO238.out⟩, ⟨xR HO241.out⟩, ⟨xB BK234.out⟩, ⟨xB BK235.out⟩, ⟨xB BK243.out⟩, ⟨xW HB.out⟩⟩
  ·replace c17 := Bool.eq_false_iff.mpr c17
   subst c17
   have H1 : (spec_MoveSome.j0 k a1 true t236 t239 t242) = some (r1, r2, r3) := by rw [if_neg (show ¬ (false = true) by decide)] at H; exact H
   clear H
   have H := H1
   clear H1
   have H' := am H
   clear H
   have hnb23 := NB234_235.out
   have hnc23 := NB235_234.out
   have hnb24 := NB234_243.out
   have hnc24 := NB243_234.out
   obtain ⟨hcz25_0, hcz25_1, hcz25_2, hfz25_0, hfz25_1, hfz25_2⟩ := xT3 (W := w10) BK234.out
   go_wp2_with (first | ((with_reducible refine gate_callee (f := 25) rfl ?_); refine xG (some 11) 25 Try.func25 #[.agg #[.slice A0_0 l0_0.length c0_0, .slice A0_1 l0_1.length c0_1, .int .i64 a0_2]] (h := ?_); (with_reducible refine (spec_TableOk.calls k _ _ l0_0 _ _ l0_1 a0_2 false _ ?side1 ?side2 ?side3 ?side4 A16.out).mono ?_); (case side1 => exact Kd.C_below HR0_0.out (xW HB.out)); (case side2 => exact HC0_0.out); (case side3 => exact Kd.C_below HR0_1.out (xW HB.out)); (case side4 => exact HC0_1.out); rintro e w26 ⟨rfl, hb⟩; refine ⟨_, rfl, ?_⟩; replace HO238 := am (Kd.R_below (xR HO238.out) hb); replace HO241 := am (Kd.R_below (xR HO241.out) hb); replace BK234 := am (blk_below (xB BK234.out) hb); replace BK235 := am (blk_below (xB BK235.out) hb); replace BK243 := am (blk_below (xP BK243.out) hb); replace HB := am (below_step (xW HB.out) hb); (try clear hb); ))
   go_meet
   case rel => exact ⟨_, (true), (xQ), H', ⟨by first | omega | exact Nat.le_refl _⟩, ⟨xR HO238.out⟩, ⟨xR HO241.out⟩, ⟨xB BK234.out⟩, ⟨xB BK235.out⟩, ⟨xB BK243.out⟩, ⟨xW HB.out⟩⟩
 case rest =>
  clear HC4
  try clear c1
  try clear c2
  try clear p2
  try clear c6
  try clear c7
  try clear c12
  try clear c13
  try clear c17
  try clear c18
  try clear c19
  try clear c23
  try clear c24
  try clear c25
  try clear hcz14_0
  try clear hcz14_1
  try clear hcz14_2
  try clear hcz20_0
  try clear hcz20_1
  try clear hcz20_2
  try clear hcz22_0
  try clear hcz22_1
  try clear hcz22_2
  try clear hcz25_0
  try clear hcz25_1
  try clear hcz25_2
  try clear hcz8_0
  try clear hcz8_1
  try clear hcz8_2
  try clear hfz14_0
  try clear hfz14_1
  try clear hfz14_2
  try clear hfz20_0
  try clear hfz20_1
  try clear hfz20_2
  try clear hfz22_0
  try clear hfz22_1
  try clear hfz22_2
  try clear hfz25_0
  try clear hfz25_1
  try clear hfz25_2
  try clear hfz8_0
  try clear hfz8_1
  try clear hfz8_2
  obtain ⟨kq, x18_3, rfl, HA, HJ3, HO_244000, HO_244001, BK234, BK235, BK243, HB⟩ := hcut
  cases kq with
  | zero => exact absurd HA.out (by simp [spec_MoveSome.j0])
  | succ kj3 =>
   have H := HA.out
   clear HA
   simp only [spec_MoveSome.j0] at H
   by_cases c27 : x18_3 = true
   ·subst c27
    have H1 : (some (t236, t239, t242)) = some (r1, r2, r3) := by rw [if_pos rfl] at H; exact H
    clear H
    have H := H1
    clear H1
    simp only [Option.some.injEq, Prod.mk.injEq] at H
    obtain ⟨rfl, rfl, rfl⟩ := H
    have hnb28 := NB243_234.out
    have hnc28 := NB234_243.out
    have hnb29 := NB243_235.out
    have hnc29 := NB235_243.out
    obtain ⟨hcz30_0, hcz30_1, hcz30_2, hfz30_0, hfz30_1, hfz30_2⟩ := xT3 (W := wc) BK243.out
    have hnb31 := NB235_234.out
    have hnc31 := NB234_235.out
    obtain ⟨hcz32_0, hcz32_1, hcz32_2, hfz32_0, hfz32_1, hfz32_2⟩ := xT3 (W := wc) BK235.out
    go_wp2
    refine bodyPost_ret (results_cell_row rfl _ _ gb235 26 #[.slice Ao11 t236.length co11, .slice Ao15 t239.length co15, .int .i64 t242] (0, 0) _ rfl (xP BK235.out) Try.underlying26 rfl (by kernel_rfl)) rfl ?_
    exact ⟨_, _, xV, xR HO_244000.out, xR HO_244001.out, xW HB.out⟩
   ·replace c27 := Bool.eq_false_iff.mpr c27
    subst c27
    have H1 : (spec_MoveSome.l0 kj3 a1 0 t236 t239 t242) = some (r1, r2, r3) := by rw [if_neg (show ¬ (false = true) by decide)] at H; exact H
    clear H
    have H := H1
    clear H1
    have H' := am H
    clear H
    go_wp2
    go_loopg [6] kj3 (fun kq v6 w' => ∃ (x6_2 : Int) (x236002_2 : Int) (x244000_2 : List (S57)) (x244001_2 : List (S57)) (x244002_2 : Int) (u244000 : Value) (u244001 : Value), v6 = .int .i64 x6_2 ∧ Aside0 (spec_MoveSome.l0 kq a1 x6_2 x244000_2 x244001_2 x244002_2 = some (r1, r2, r3)) ∧ Aside0 (kq ≤ kj3) ∧ Aside0 (Kd.R k57 57 w' w.heap.size (fun k_ => some k_ ≠ (u244001 : Value).ownBlock) u244000 x244000_2) ∧ Aside0 (Kd.R k57 57 w' w.heap.size (fun k_ => some k_ ≠ (u244000 : Value).ownBlock) u244001 x244001_2) ∧ Aside0 (w'.heap[gb234]? = some (.cells #[(.slice A0_0 l0_0.length c0_0), (.slice A0_1 l0_1.length c0_1), .int .i64 a0_2] 26 (0, 0))) ∧ Aside0 (w'.heap[gb235]? = some (.cells #[(.slice none 0 0), (.slice none 0 0), .int .i64 x236002_2] 26 (0, 0))) ∧ Aside0 (w'.heap[gb243]? = some (.cells #[u244000, u244001, .int .i64 x244002_2] 26 (0, 0))) ∧ Aside0 (Below w.heap.size w w'))
    case atStart => exact ⟨(0), (0), (t236), (t239), (t242), (.slice Ao11 t236.length co11), (.slice Ao15 t239.length co15), (xQ), H', ⟨Nat.le_refl _⟩, ⟨xR HO_244000.out⟩, ⟨xR HO_244001.out⟩, ⟨xB BK234.out⟩, ⟨xB BK235.out⟩, ⟨xB BK243.out⟩, ⟨xW HB.out⟩⟩
    case round =>
     clear H'
     try clear c1
     try clear c2
     try clear p2
     try clear c3
     try clear c6
     try clear c7
     try clear c12
     try clear c13
     try clear c17
     try clear c18
     try clear c19
     try clear c23
     try clear c24
     try clear c25
     try clear c27
     try clear c28
     try clear c29
     try clear c31
     try clear hcz14_0
     try clear hcz14_1
     try clear hcz14_2
     try clear hcz20_0
     try clear hcz20_1
     try clear hcz20_2
     try clear hcz22_0
     try clear hcz22_1
     try clear hcz22_2
     try clear hcz25_0
     try clear hcz25_1
     try clear hcz25_2
     try clear hcz30_0
     try clear hcz30_1
     try clear hcz30_2
     try clear hcz32_0
     try clear hcz32_1
     try clear hcz32_2
     try clear hcz8_0
     try clear hcz8_1
     try clear hcz8_2
     try clear hfz14_0
     try clear hfz14_1
     try clear hfz14_2
     try clear hfz20_0
     try clear hfz20_1
     try clear hfz20_2
     try clear hfz22_0
     try clear hfz22_1
     try clear hfz22_2
     try clear hfz25_0
     try clear hfz25_1
     try clear hfz25_2
     try clear hfz30_0
     try clear hfz30_1
     try clear hfz30_2
     try clear hfz32_0
     try clear hfz32_1
     try clear hfz32_2
     try clear hfz8_0
     try clear hfz8_1
     try clear hfz8_2
     try clear p2
     obtain ⟨x6_2, x236002_2, x244000_2, x244001_2, x244002_2, u244000, u244001, rfl, HA, HK2, HO_244000, HO_244001, BK234, BK235, BK243, HB⟩ := hrel
     cases gk with
     | zero => exact absurd HA.out (by simp [spec_MoveSome.l0])
     | succ k2 =>
      have H := HA.out
      clear HA
      simp only [spec_MoveSome.l0] at H
      have HC33 := am H
      clear H
      go_upto_region 5 with (fail)
      go_cut [30] (fun v30 wc => ∃ (kq : Nat) (x30_32 : Bool), v30 = .bool x30_32 ∧ Aside0 (spec_MoveSome.j2 kq a1 x6_2 x30_32 x244000_2 x244001_2 x244002_2 = some (r1, r2, r3)) ∧ Aside0 (kq ≤ k2) ∧ Aside0 (Kd.R k57 57 wc w.heap.size (fun k_ => some k_ ≠ (u244001 : Value).ownBlock) u244000 x244000_2) ∧ Aside0 (Kd.R k57 57 wc w.heap.size (fun k_ => some k_ ≠ (u244000 : Value).ownBlock) u244001 x244001_2) ∧ Aside0 (wc.heap[gb234]? = some (.cells #[(.slice A0_0 l0_0.length c0_0), (.slice A0_1 l0_1.length c0_1), .int .i64 a0_2] 26 (0, 0))) ∧ Aside0 (wc.heap[gb235]? = some (.cells #[(.slice none 0 0), (.slice none 0 0), .int .i64 x236002_2] 26 (0, 0))) ∧ Aside0 (wc.heap[gb243]? = some (.cells #[u244000, u244001, .int .i64 x244002_2] 26 (0, 0))) ∧ Aside0 (Below w.heap.size w wc))
      case first =>
       have H := HC33.out
       clear HC33
       by_cases c34 : x6_2 < a1
       ·rw [if_pos c34] at H
        have c34b0 : decide (x6_2 < a1) = true := decide_eq_true c34
        clear c34
        (first | rw [c34b0] | (simp only [i64_w, i32_w]; rw [c34b0]) | skip)
        have H' := am H
        clear H
        have hnb35 := NB243_234.out
        have hnc35 := NB234_243.out
        have hnb36 := NB243_235.out
        have hnc36 := NB235_243.out
        obtain ⟨hcz37_0, hcz37_1, hcz37_2, hfz37_0, hfz37_1, hfz37_2⟩ := xT3 (W := wr) BK243.out
        obtain ⟨Ao38, co38, eo38⟩ := Kd.R_slice HO_244001.out
        subst eo38
        go_wp2
        go_meet
        case rel => exact ⟨_, (decide (x244002_2 < (x244001_2.length : Int))), (xQ), H', ⟨by have := HJ3.out; have := HK2.out; first | omega | exact Nat.le_refl _⟩, ⟨xR HO_244000.out⟩, ⟨xR HO_244001.out⟩, ⟨xB BK234.out⟩, ⟨xB BK235.out⟩, ⟨xB BK243.out⟩, ⟨xW HB.out⟩⟩
       ·rw [if_neg c34] at H
        have c34b0 : decide (x6_2 < a1) = false := decide_eq_false c34
        clear c34
        (first | rw [c34b0] | (simp only [i64_w, i32_w]; rw [c34b0]) | skip)
        have H' := am H
        clear H
        go_wp2
        go_meet
        case rel => exact ⟨_, (false), (xQ), H', ⟨by have := HJ3.out; have := HK2.out; first | omega | exact Nat.le_refl _⟩, ⟨xR HO_244000.out⟩, ⟨xR HO_244001.out⟩, ⟨xB BK234.out⟩, ⟨xB BK235.out⟩, ⟨xB BK243.out⟩, ⟨xW HB.out⟩⟩
      case rest =>
       clear HC33
       try clear c1
       try clear c2
       try clear p2
       try clear c3
       try clear c6
       try clear c7
       try clear c12
       try clear c13
       try clear c17
       try clear c18
       try clear c19
       try clear c23
       try clear c24
       try clear c25
       try clear c27
       try clear c28
       try clear c29
       try clear c31
       try clear c34
       try clear c34b0
       try clear c35
       try clear c36
       try clear hcz14_0
       try clear hcz14_1
       try clear hcz14_2
       try clear hcz20_0
       try clear hcz20_1
       try clear hcz20_2
       try clear hcz22_0
       try clear hcz22_1
       try clear hcz22_2
       try clear hcz25_0
       try clear hcz25_1
       try clear hcz25_2
       try clear hcz30_0
       try clear hcz30_1
       try clear hcz30_2
       try clear hcz32_0
       try clear hcz32_1
       try clear hcz32_2
       try clear hcz37_0
       try clear hcz37_1
       try clear hcz37_2
       try clear hcz8_0
       try clear hcz8_1
       try clear hcz8_2
       try clear hfz14_0
       try clear hfz14_1
       try clear hfz14_2
       try clear hfz20_0
       try clear hfz20_1
       try clear hfz20_2
       try clear hfz22_0
       try clear hfz22_1
       try clear hfz22_2
       try clear hfz25_0
       try clear hfz25_1
       try clear hfz25_2
       try clear hfz30_0
       try clear hfz30_1
       try clear hfz30_2
       try clear hfz32_0
       try clear hfz32_1
       try clear hfz32_2
       try clear hfz37_0
       try clear hfz37_1
       try clear hfz37_2
       try clear hfz8_0
       try clear hfz8_1
       try clear hfz8_2
       try clear p2
       obtain ⟨kq, x30_32, rfl, HA, HJ32, HO_244000, HO_244001, BK234, BK235, BK243, HB⟩ := hcut
       cases kq with
       | zero => exact absurd HA.out (by simp [spec_MoveSome.j2])
       | succ kj32 =>
        have H := HA.out
        clear HA
        simp only [spec_MoveSome.j2] at H
        by_cases c39 : x30_32 = true
        ·subst c39
         have H1 : (if 0 ≤ x244002_2 then (if x244002_2 < (x244001_2.length : Int) then (if ((rd_T57 x244001_2 x244002_2).f0).toList = ([] : List UInt8) then (spec_MoveSome.l0 kj32 a1 (wrap64 (x6_2 + 1)) x244000_2 (x244001_2.set (x244002_2 : Int).toNat (⟨(⟨#[]⟩ : ByteArray), (-2)⟩ : S57)) (wrap64 (x244002_2 + 1))) else ((spec_l04Put.f kj32 x244000_2 ((rd_T57 x244001_2 x244002_2).f0) ((rd_T57 x244001_2 x244002_2).f1)).bind fun bt248 => (if bt248.1 = true then (spec_MoveSome.l0 kj32 a1 (wrap64 (x6_2 + 1)) bt248.2 (x244001_2.set (x244002_2 : Int).toNat (⟨(⟨#[]⟩ : ByteArray), (-2)⟩ : S57)) (wrap64 (x244002_2 + 1))) else (some (bt248.2, x244001_2, x244002_2))))) else (none)) else (none)) = some (r1, r2, r3) := by rw [if_pos rfl] at H; exact H
         clear H
         have H := H1
         clear H1
         by_cases c40 : 0 ≤ x244002_2
         ·rw [if_pos c40] at H
          have c40b0 : decide (0 ≤ x244002_2) = true := decide_eq_true c40
          clear c40
          by_cases c41 : x244002_2 < (x244001_2.length : Int)
          ·rw [if_pos c41] at H
           have c41b0 : decide (x244002_2 < (x244001_2.length : Int)) = true := decide_eq_true c41
           clear c41
           by_cases c42 : ((rd_T57 x244001_2 x244002_2).f0).toList = ([] : List UInt8)
           ·rw [if_pos c42] at H
            have c42b0 : (((rd_T57 x244001_2 x244002_2).f0).toList == ([] : List UInt8)) = true := beq_iff_eq.mpr c42
            have c42b1 : (((rd_T57 x244001_2 x244002_2).f0).toList != ([] : List UInt8)) = false := bne_eq_false_iff_eq.mpr c42
            clear c42
            obtain ⟨y247, hy247⟩ : ∃ y_ : List (S57), y_ = (x244001_2.set (x244002_2 : Int).toNat (⟨(⟨#[]⟩ : ByteArray), (-2)⟩ : S57)) := ⟨_, rfl⟩
            replace H : (spec_MoveSome.l0 kj32 a1 (wrap64 (x6_2 + 1)) x244000_2 y247 (wrap64 (x244002_2 + 1))) = some (r1, r2, r3) := by first | (rw [hy247]; with_reducible exact H) | (have H2_ := (Option.bind_some _ _).symm.trans H; rw [hy247]; with_reducible exact H2_) | (have H2_ := (Option.bind_some _ _).symm.trans H; with_reducible exact H2_) | with_reducible exact H | (rw [hy247]; exact H) | exact H
            have Ny247 := am hy247
            clear hy247
            have H' := am H
            clear H
            have hnb44 := NB243_234.out
            have hnc44 := NB234_243.out
            have hnb45 := NB243_235.out
            have hnc45 := NB235_243.out
            obtain ⟨hcz46_0, hcz46_1, hcz46_2, hfz46_0, hfz46_1, hfz46_2⟩ := xT3 (W := wc) BK243.out
            obtain ⟨Ao47, co47, eo47⟩ := Kd.R_slice HO_244001.out
            subst eo47
            have p245 : 0 ≤ (x244002_2 : Int) := of_decide_eq_true (by assumption)
            have q245 : x244002_2 < (x244001_2.length : Int) := of_decide_eq_true (by assumption)
            obtain ⟨ad245, e245, hx245_0, hx245_1⟩ := at_T57 (Kd.R_reads' HO_244001.out).2.2 x244002_2 p245 q245
            cases e245
            replace p245 := eq_true p245
            replace q245 := eq_true q245
            go_wp2_with (first | ((with_reducible refine gate_dst (N := 7) rfl ?_); (try (refine gate_guard (by rfl) ?_; dsimp only)); refine xE (N := 7) (cs := #[.string (⟨#[]⟩ : ByteArray), .int .i64 0]) (t := 57) (h := ?_); intro gb246 hg w48 hbox hb; replace HO_244000 := am (Kd.R_below (Kd.R_elderB (xR HO_244000.out) gb246 (Nat.le_of_eq hg.symm)) hb); replace HO_244001 := am (Kd.R_below (Kd.R_elderB (xR HO_244001.out) gb246 (Nat.le_of_eq hg.symm)) hb); have BK246 := am (hbox); have GW246 := am (xS hg HB.out); have GE246 := am (xS hg HB.out); replace HB := am (below_step (xW HB.out) hb); have NB234_246 := am (xN hg BK234.out); have NB246_234 := am (xM hg BK234.out); replace BK234 := am (blk_below (xB BK234.out) hb); have NB235_246 := am (xN hg BK235.out); have NB246_235 := am (xM hg BK235.out); replace BK235 := am (blk_below (xB BK235.out) hb); have NB243_246 := am (xN hg BK243.out); have NB246_243 := am (xM hg BK243.out); replace BK243 := am (blk_below (xB BK243.out) hb); clear hb hbox hg; have hnb49 := NB246_234.out; have hnc49 := NB234_246.out; have hnb50 := NB246_235.out; have hnc50 := NB235_246.out; have hnb51 := NB246_243.out; have hnc51 := NB243_246.out; obtain ⟨hcz52_0, hcz52_1, hfz52_0, hfz52_1⟩ := xT2 (W := w48) BK246.out) | ((with_reducible refine gate_store (t := 57) (p := 7) rfl ?_); refine store_event (t := 57) (p := 7) (v := ?vo_w53) (w1 := ((w48.setCell ⟨gb246, 0, none⟩ (.string ((rd_T57 x244001_2 x244002_2).f0))).setCell ⟨gb246, 1, none⟩ (.int .i64 ((rd_T57 x244001_2 x244002_2).f1)))) ?hg ?ho ?hn ?hr ?_; (case ho => rfl); (case hg => rfl); (case hn => rfl); (case hr => first | (go_simp; done) | (go_simp; rfl)); intro w53 hw; have n0_ : Aside0 (Kd.R k57 57 w53 w.heap.size (fun k_ => some k_ ≠ (.slice (some ad245) x244001_2.length co47 : Value).ownBlock ∧ k_ ≠ gb246) u244000 x244000_2) := ⟨(by rw [hw]; exact (by (with_reducible repeat (first | apply Kd.R_alloc | apply Kd.R_drewN | apply Kd.R_drew)); exact Kd.R_mono (Kd.R_far (p := ⟨gb246, 1, none⟩) (Kd.R_far (p := ⟨gb246, 0, none⟩) (Kd.R_mono HO_244000.out (fun k_ hk => (⟨hk, hk.2⟩ : _ ∧ k_ ≠ gb246))) (fun _ hk => hk.2) (.string ((rd_T57 x244001_2 x244002_2).f0))) (fun _ hk => hk.2) (.int .i64 ((rd_T57 x244001_2 x244002_2).f1))) (fun _ hk => ⟨hk.1.1, hk.1.2⟩)))⟩; have n1_ : Aside0 (Kd.R k57 57 w53 w.heap.size (fun k_ => some k_ ≠ (u244000 : Value).ownBlock ∧ k_ ≠ gb246) (.slice (some ad245) x244001_2.length co47) x244001_2) := ⟨(by rw [hw]; exact (by (with_reducible repeat (first | apply Kd.R_alloc | apply Kd.R_drewN | apply Kd.R_drew)); exact Kd.R_mono (Kd.R_far (p := ⟨gb246, 1, none⟩) (Kd.R_far (p := ⟨gb246, 0, none⟩) (Kd.R_mono HO_244001.out (fun k_ hk => (⟨hk, hk.2⟩ : _ ∧ k_ ≠ gb246))) (fun _ hk => hk.2) (.string ((rd_T57 x244001_2 x244002_2).f0))) (fun _ hk => hk.2) (.int .i64 ((rd_T57 x244001_2 x244002_2).f1))) (fun _ hk => ⟨hk.1.1, hk.1.2⟩)))⟩; have n2_ : Aside0 (w53.heap[gb234]? = some (.cells #[.slice A0_0 l0_0.length c0_0, .slice A0_1 l0_1.length c0_1, .int .i64 a0_2] 26 (0, 0))) := ⟨(by rw [hw]; exact (xB BK234.out))⟩; have n3_ : Aside0 (w53.heap[gb235]? = some (.cells #[.slice none 0 0, .slice none 0 0, .int .i64 x236002_2] 26 (0, 0))) := ⟨(by rw [hw]; exact (xB BK235.out))⟩; have n4_ : Aside0 (w53.heap[gb243]? = some (.cells #[u244000, .slice (some ad245) x244001_2.length co47, .int .i64 x244002_2] 26 (0, 0))) := ⟨(by rw [hw]; exact (xB BK243.out))⟩; have n5_ : Aside0 (w53.heap[gb246]? = some (.cells #[.string ((rd_T57 x244001_2 x244002_2).f0), .int .i64 ((rd_T57 x244001_2 x244002_2).f1)] 57 (0, 0))) := ⟨(by rw [hw]; exact (xP BK246.out))⟩; have n6_ : Aside0 (Below w.heap.size w w53) := ⟨(by rw [hw]; exact (xW HB.out))⟩; clear hw; clear HO_244000; clear HO_244001; clear BK234; clear BK235; clear BK243; clear BK246; clear HB; have HO_244000 := n0_; have HO_244001 := n1_; have BK234 := n2_; have BK235 := n3_; have BK243 := n4_; have BK246 := n5_; have HB := n6_; clear n0_ n1_ n2_ n3_ n4_ n5_ n6_; obtain ⟨hcz54_0, hcz54_1, hfz54_0, hfz54_1⟩ := xT2 (W := w53) BK246.out; obtain ⟨hcz55_0, hcz55_1, hcz55_2, hfz55_0, hfz55_1, hfz55_2⟩ := xT3 (W := w53) BK243.out; have p43 : 0 ≤ (x244002_2 : Int) := of_decide_eq_true (by assumption); have q43 : (x244002_2 : Int) < ((x244001_2.length : Int) : Int) := of_decide_eq_true (by assumption); obtain ⟨go43, co43, eo43, gb43, gl43, cl43, HG43⟩ := Kd.R_form HO_244001.out (by omega); (first | cases eo43 | (injection eo43 with ea_ en_ ec_; (first | subst ea_ | (injection ea_ with ea_; subst ea_)); subst ec_; clear en_)); have GB43 := am gb43; have GG43 := am HG43; clear gb43 gl43 HG43; (first | simp only [add_plain] at hx245_0 | skip); (first | simp only [add_plain] at hx245_1 | skip); obtain ⟨ce43, hcl43, hM43, hcc43, hfr43⟩ := Kd.R_elem HO_244001.out z57 (x244002_2 : Int) p43 q43; obtain rfl := k57_openM hM43; have hx43_0 : w53.cell? ⟨go43, (x244002_2 : Int).toNat * 2, none⟩ = some (.string ((rd_T57 x244001_2 x244002_2).f0)) := hcc43 0 _ rfl; have hx43_1 : w53.cell? ⟨go43, (x244002_2 : Int).toNat * 2 + 1, none⟩ = some (.int .i64 ((rd_T57 x244001_2 x244002_2).f1)) := hcc43 1 _ rfl; have hf43_0 : w53.frozen? ⟨go43, (x244002_2 : Int).toNat * 2, none⟩ = false := hfr43 0; have hf43_1 : w53.frozen? ⟨go43, (x244002_2 : Int).toNat * 2 + 1, none⟩ = false := hfr43 1; clear hcl43 hcc43 hfr43 hM43; replace p43 := eq_true p43; replace q43 := eq_true q43; have HX56 := am (show Kd.R k57 57 w53 w.heap.size (fun k_ => some k_ ≠ (u244000 : Value).ownBlock ∧ k_ ≠ gb246) (.slice (some ⟨go43, 0, none⟩) x244001_2.length co47) x244001_2 from (xR HO_244001.out)); obtain ⟨ce56, hcl56, hM56, hcc56, hfr56⟩ := Kd.R_elem HX56.out z57 (x244002_2 : Int) (of_decide_eq_true (by assumption)) (by have h_ : (x244002_2 : Int) < ((x244001_2.length : Int) : Int) := of_decide_eq_true (by assumption); first | exact h_ | (have e_ := (Kd.R_reads' HO_244001.out).1; omega) | simpa using h_); obtain rfl := k57_openM hM56; have HP56 := Kd.R_seg HX56.out (x244002_2 : Int) (of_decide_eq_true (by assumption)) (by have h_ : (x244002_2 : Int) < ((x244001_2.length : Int) : Int) := of_decide_eq_true (by assumption); first | exact h_ | (have e_ := (Kd.R_reads' HO_244001.out).1; omega) | simpa using h_) (seg := [.string (⟨#[]⟩ : ByteArray), .int .i64 (-2)]) (j := 0) hcl56 hcc56 (show 2 ≤ 2 from by decide) (x' := (⟨(⟨#[]⟩ : ByteArray), (-2)⟩ : S57)) (k57_mkM _ _ _ (⟨(⟨#[]⟩ : ByteArray), (-2)⟩ : S57) ) (fun _ hk => hk); have hx56_0 := hcc56 0 _ rfl; (try simp only [show (k57).sz = 2 from rfl, Nat.mul_one, Nat.add_zero] at hx56_0); have hf56_0 := hfr56 0; (try simp only [show (k57).sz = 2 from rfl, Nat.mul_one, Nat.add_zero] at hf56_0); have hx56_1 := hcc56 1 _ rfl; (try simp only [show (k57).sz = 2 from rfl, Nat.mul_one, Nat.add_zero] at hx56_1); have hf56_1 := hfr56 1; (try simp only [show (k57).sz = 2 from rfl, Nat.mul_one, Nat.add_zero] at hf56_1); clear hcl56 hcc56 hfr56 hM56) | ((with_reducible refine gate_store (t := 57) (p := 58) rfl ?_); refine store_event (t := 57) (p := 58) (v := ?vo_w57) (w1 := ((w53.setCell ⟨go43, (x244002_2 : Int).toNat * 2, none⟩ (.string (⟨#[]⟩ : ByteArray))).setCell ⟨go43, (x244002_2 : Int).toNat * 2 + 1, none⟩ (.int .i64 (-2)))) ?hg ?ho ?hn ?hr ?_; (case ho => rfl); (case hg => rfl); (case hn => rfl); (case hr => first | (go_simp; done) | (go_simp; rfl)); intro w57 hw; have hg : w53.grownBy w57 (some go43) := (by rw [hw]; exact HP56.2); have hp_ : Kd.R k57 57 w57 w.heap.size (fun k_ => some k_ ≠ (u244000 : Value).ownBlock ∧ k_ ≠ gb246) (.slice (some ⟨go43, 0, none⟩) x244001_2.length co47) y247 := (by rw [hw, Ny247.out]; exact HP56.1); clear HP56; replace HO_244000 := am (Kd.R_after (v := (.slice (some ⟨go43, 0, none⟩) x244001_2.length co47)) (v1 := (.slice (some ⟨go43, 0, none⟩) x244001_2.length co47)) (ok := (fun k_ => k_ ≠ gb246)) (Kd.R_mono (xR HO_244000.out) (fun _ hk => ⟨hk.2, hk.1⟩)) hg (.inl rfl)); replace BK234 := am (blk_grown (g := gb234) (o := .cells #[.slice A0_0 l0_0.length c0_0, .slice A0_1 l0_1.length c0_1, .int .i64 a0_2] 26 (0, 0)) (xB BK234.out) hg (Kd.R_ne HO_244001.out BK234.out (by decide))); replace BK235 := am (blk_grown (g := gb235) (o := .cells #[.slice none 0 0, .slice none 0 0, .int .i64 x236002_2] 26 (0, 0)) (xB BK235.out) hg (Kd.R_ne HO_244001.out BK235.out (by decide))); replace BK243 := am (blk_grown (g := gb243) (o := .cells #[u244000, .slice (some ⟨go43, 0, none⟩) x244001_2.length co47, .int .i64 x244002_2] 26 (0, 0)) (xB BK243.out) hg (Kd.R_ne HO_244001.out BK243.out (by decide))); replace BK246 := am (blk_grown (g := gb246) (o := .cells #[.string ((rd_T57 x244001_2 x244002_2).f0), .int .i64 ((rd_T57 x244001_2 x244002_2).f1)] 57 (0, 0)) (xB BK246.out) hg (Kd.R_away HO_244001.out (fun _ hk => hk.2))); replace HO_244001 := am (hp_); replace HB := am ((by rw [hw]; exact below_set (below_set (HB.out) GB43.out) GB43.out : Below w.heap.size w w57)); clear hg hw hp_; obtain ⟨hcz58_0, hcz58_1, hcz58_2, hfz58_0, hfz58_1, hfz58_2⟩ := xT3 (W := w57) BK243.out))
            go_roundg kj32
            case measure => have := HJ3.out; have := HK2.out; have := HJ32.out; omega
            case rel => exact ⟨(wrap64 (x6_2 + 1)), (x236002_2), (x244000_2), (y247), (wrap64 (x244002_2 + 1)), (u244000), (.slice (some ⟨go43, 0, none⟩) x244001_2.length co47), (xQ), H', ⟨by have := HJ3.out; have := HK2.out; have := HJ32.out; omega⟩, ⟨Kd.R_mono (xR HO_244000.out) (fun _ hk => hk.2)⟩, ⟨Kd.R_mono (xR HO_244001.out) (fun _ hk => hk.1)⟩, ⟨xB BK234.out⟩, ⟨xB BK235.out⟩, ⟨xP BK243.out⟩, ⟨xW HB.out⟩⟩
           ·rw [if_neg c42] at H
            have c42b0 : (((rd_T57 x244001_2 x244002_2).f0).toList == ([] : List UInt8)) = false := beq_eq_false_iff_ne.mpr c42
            have c42b1 : (((rd_T57 x244001_2 x244002_2).f0).toList != ([] : List UInt8)) = true := bne_iff_ne.mpr c42
            replace H := Option.bind_eq_some_iff.mp H
            obtain ⟨⟨t248, t249⟩, A590, H⟩ := H
            try dsimp only at H
            have A59 := am A590
            clear A590
            by_cases c60 : t248 = true
            ·subst c60
             have H1 : (spec_MoveSome.l0 kj32 a1 (wrap64 (x6_2 + 1)) t249 (x244001_2.set (x244002_2 : Int).toNat (⟨(⟨#[]⟩ : ByteArray), (-2)⟩ : S57)) (wrap64 (x244002_2 + 1))) = some (r1, r2, r3) := by rw [if_pos rfl] at H; exact H
             clear H
             have H := H1
             clear H1
             obtain ⟨y250, hy250⟩ : ∃ y_ : List (S57), y_ = (x244001_2.set (x244002_2 : Int).toNat (⟨(⟨#[]⟩ : ByteArray), (-2)⟩ : S57)) := ⟨_, rfl⟩
             replace H : (spec_MoveSome.l0 kj32 a1 (wrap64 (x6_2 + 1)) t249 y250 (wrap64 (x244002_2 + 1))) = some (r1, r2, r3) := by first | (rw [hy250]; with_reducible exact H) | (have H2_ := (Option.bind_some _ _).symm.trans H; rw [hy250]; with_reducible exact H2_) | (have H2_ := (Option.bind_some _ _).symm.trans H; with_reducible exact H2_) | with_reducible exact H | (rw [hy250]; exact H) | exact H
             have Ny250 := am hy250
             clear hy250
             have H' := am H
             clear H
             have hnb62 := NB243_234.out
             have hnc62 := NB234_243.out
             have hnb63 := NB243_235.out
             have hnc63 := NB235_243.out
             obtain ⟨hcz64_0, hcz64_1, hcz64_2, hfz64_0, hfz64_1, hfz64_2⟩ := xT3 (W := wc) BK243.out
             obtain ⟨Ao65, co65, eo65⟩ := Kd.R_slice HO_244001.out
             subst eo65
             have p245 : 0 ≤ (x244002_2 : Int) := of_decide_eq_true (by assumption)
             have q245 : x244002_2 < (x244001_2.length : Int) := of_decide_eq_true (by assumption)
             obtain ⟨ad245, e245, hx245_0, hx245_1⟩ := at_T57 (Kd.R_reads' HO_244001.out).2.2 x244002_2 p245 q245
             cases e245
             replace p245 := eq_true p245
             replace q245 := eq_true q245
             go_wp2_with (first | ((with_reducible refine gate_dst (N := 7) rfl ?_); (try (refine gate_guard (by rfl) ?_; dsimp only)); refine xE (N := 7) (cs := #[.string (⟨#[]⟩ : ByteArray), .int .i64 0]) (t := 57) (h := ?_); intro gb246 hg w66 hbox hb; replace HO_244000 := am (Kd.R_below (Kd.R_elderB (xR HO_244000.out) gb246 (Nat.le_of_eq hg.symm)) hb); replace HO_244001 := am (Kd.R_below (Kd.R_elderB (xR HO_244001.out) gb246 (Nat.le_of_eq hg.symm)) hb); have BK246 := am (hbox); have GW246 := am (xS hg HB.out); have GE246 := am (xS hg HB.out); replace HB := am (below_step (xW HB.out) hb); have NB234_246 := am (xN hg BK234.out); have NB246_234 := am (xM hg BK234.out); replace BK234 := am (blk_below (xB BK234.out) hb); have NB235_246 := am (xN hg BK235.out); have NB246_235 := am (xM hg BK235.out); replace BK235 := am (blk_below (xB BK235.out) hb); have NB243_246 := am (xN hg BK243.out); have NB246_243 := am (xM hg BK243.out); replace BK243 := am (blk_below (xB BK243.out) hb); clear hb hbox hg; have hnb67 := NB246_234.out; have hnc67 := NB234_246.out; have hnb68 := NB246_235.out; have hnc68 := NB235_246.out; have hnb69 := NB246_243.out; have hnc69 := NB243_246.out; obtain ⟨hcz70_0, hcz70_1, hfz70_0, hfz70_1⟩ := xT2 (W := w66) BK246.out) | ((with_reducible refine gate_store (t := 57) (p := 7) rfl ?_); refine store_event (t := 57) (p := 7) (v := ?vo_w71) (w1 := ((w66.setCell ⟨gb246, 0, none⟩ (.string ((rd_T57 x244001_2 x244002_2).f0))).setCell ⟨gb246, 1, none⟩ (.int .i64 ((rd_T57 x244001_2 x244002_2).f1)))) ?hg ?ho ?hn ?hr ?_; (case ho => rfl); (case hg => rfl); (case hn => rfl); (case hr => first | (go_simp; done) | (go_simp; rfl)); intro w71 hw; have n0_ : Aside0 (Kd.R k57 57 w71 w.heap.size (fun k_ => some k_ ≠ (.slice (some ad245) x244001_2.length co65 : Value).ownBlock ∧ k_ ≠ gb246) u244000 x244000_2) := ⟨(by rw [hw]; exact (by (with_reducible repeat (first | apply Kd.R_alloc | apply Kd.R_drewN | apply Kd.R_drew)); exact Kd.R_mono (Kd.R_far (p := ⟨gb246, 1, none⟩) (Kd.R_far (p := ⟨gb246, 0, none⟩) (Kd.R_mono HO_244000.out (fun k_ hk => (⟨hk, hk.2⟩ : _ ∧ k_ ≠ gb246))) (fun _ hk => hk.2) (.string ((rd_T57 x244001_2 x244002_2).f0))) (fun _ hk => hk.2) (.int .i64 ((rd_T57 x244001_2 x244002_2).f1))) (fun _ hk => ⟨hk.1.1, hk.1.2⟩)))⟩; have n1_ : Aside0 (Kd.R k57 57 w71 w.heap.size (fun k_ => some k_ ≠ (u244000 : Value).ownBlock ∧ k_ ≠ gb246) (.slice (some ad245) x244001_2.length co65) x244001_2) := ⟨(by rw [hw]; exact (by (with_reducible repeat (first | apply Kd.R_alloc | apply Kd.R_drewN | apply Kd.R_drew)); exact Kd.R_mono (Kd.R_far (p := ⟨gb246, 1, none⟩) (Kd.R_far (p := ⟨gb246, 0, none⟩) (Kd.R_mono HO_244001.out (fun k_ hk => (⟨hk, hk.2⟩ : _ ∧ k_ ≠ gb246))) (fun _ hk => hk.2) (.string ((rd_T57 x244001_2 x244002_2).f0))) (fun _ hk => hk.2) (.int .i64 ((rd_T57 x244001_2 x244002_2).f1))) (fun _ hk => ⟨hk.1.1, hk.1.2⟩)))⟩; have n2_ : Aside0 (w71.heap[gb234]? = some (.cells #[.slice A0_0 l0_0.length c0_0, .slice A0_1 l0_1.length c0_1, .int .i64 a0_2] 26 (0, 0))) := ⟨(by rw [hw]; exact (xB BK234.out))⟩; have n3_ : Aside0 (w71.heap[gb235]? = some (.cells #[.slice none 0 0, .slice none 0 0, .int .i64 x236002_2] 26 (0, 0))) := ⟨(by rw [hw]; exact (xB BK235.out))⟩; have n4_ : Aside0 (w71.heap[gb243]? = some (.cells #[u244000, .slice (some ad245) x244001_2.length co65, .int .i64 x244002_2] 26 (0, 0))) := ⟨(by rw [hw]; exact (xB BK243.out))⟩; have n5_ : Aside0 (w71.heap[gb246]? = some (.cells #[.string ((rd_T57 x244001_2 x244002_2).f0), .int .i64 ((rd_T57 x244001_2 x244002_2).f1)] 57 (0, 0))) := ⟨(by rw [hw]; exact (xP BK246.out))⟩; have n6_ : Aside0 (Below w.heap.size w w71) := ⟨(by rw [hw]; exact (xW HB.out))⟩; clear hw; clear HO_244000; clear HO_244001; clear BK234; clear BK235; clear BK243; clear BK246; clear HB; have HO_244000 := n0_; have HO_244001 := n1_; have BK234 := n2_; have BK235 := n3_; have BK243 := n4_; have BK246 := n5_; have HB := n6_; clear n0_ n1_ n2_ n3_ n4_ n5_ n6_; obtain ⟨hcz72_0, hcz72_1, hfz72_0, hfz72_1⟩ := xT2 (W := w71) BK246.out; obtain ⟨hcz73_0, hcz73_1, hcz73_2, hfz73_0, hfz73_1, hfz73_2⟩ := xT3 (W := w71) BK243.out; obtain ⟨Ao74, co74, eo74⟩ := Kd.R_slice HO_244000.out; subst eo74) | (go_at_call 73; (with_reducible refine (spec_l04Put.calls kj32 (fun k_ => some k_ = (.slice Ao74 x244000_2.length co74 : Value).ownBlock) (.slice Ao74 x244000_2.length co74) x244000_2 ((rd_T57 x244001_2 x244002_2).f0) ((rd_T57 x244001_2 x244002_2).f1) true t249 w _ ?side1 ?side2 A59.out).mono ?_); (case side1 => exact xW HB.out); (case side2 => exact Kd.R_tight rfl HO_244000.out); rintro e w75 ⟨rfl, hy0, hb, hkp⟩; replace HO_244001 := am (Kd.R_mono (ok' := fun k_ => some k_ ≠ (.slice Ao74 x244000_2.length co74 : Value).ownBlock ∧ k_ ≠ gb246) (Kd.R_keptB (HO_244001.out) hkp (fun k_ hk_ hs_ => (hk_.1) hs_)) (fun k_ hk_ => ⟨hk_.1.1, hk_.1.2⟩)); replace BK234 := am (blk_kept (xB BK234.out) hkp (fun hs_ => (fun e_ => (Kd.R_ne HO_244000.out BK234.out (by decide)) e_) hs_)); replace BK235 := am (blk_kept (xB BK235.out) hkp (fun hs_ => (fun e_ => (Kd.R_ne HO_244000.out BK235.out (by decide)) e_) hs_)); replace BK243 := am (blk_kept (xB BK243.out) hkp (fun hs_ => (fun e_ => (Kd.R_ne HO_244000.out BK243.out (by decide)) e_) hs_)); replace BK246 := am (blk_kept (xB BK246.out) hkp (fun hs_ => (fun e_ => (Kd.R_away HO_244000.out (fun _ hk => hk.2)) e_) hs_)); replace HO_244000 := am (Kd.R_reok rfl hy0 (fun k_ e_ => HO_244000.out.1 k_ e_)); replace HB := am (hb); (try clear hb); (try clear hkp); (try clear hy0); obtain ⟨hcz76_0, hcz76_1, hcz76_2, hfz76_0, hfz76_1, hfz76_2⟩ := xT3 (W := w75) BK243.out; have p61 : 0 ≤ (x244002_2 : Int) := of_decide_eq_true (by assumption); have q61 : (x244002_2 : Int) < ((x244001_2.length : Int) : Int) := of_decide_eq_true (by assumption); obtain ⟨go61, co61, eo61, gb61, gl61, cl61, HG61⟩ := Kd.R_form HO_244001.out (by omega); (first | cases eo61 | (injection eo61 with ea_ en_ ec_; (first | subst ea_ | (injection ea_ with ea_; subst ea_)); subst ec_; clear en_)); have GB61 := am gb61; have GG61 := am HG61; clear gb61 gl61 HG61; (first | simp only [add_plain] at hx245_0 | skip); (first | simp only [add_plain] at hx245_1 | skip); obtain ⟨ce61, hcl61, hM61, hcc61, hfr61⟩ := Kd.R_elem HO_244001.out z57 (x244002_2 : Int) p61 q61; obtain rfl := k57_openM hM61; have hx61_0 : w75.cell? ⟨go61, (x244002_2 : Int).toNat * 2, none⟩ = some (.string ((rd_T57 x244001_2 x244002_2).f0)) := hcc61 0 _ rfl; have hx61_1 : w75.cell? ⟨go61, (x244002_2 : Int).toNat * 2 + 1, none⟩ = some (.int .i64 ((rd_T57 x244001_2 x244002_2).f1)) := hcc61 1 _ rfl; have hf61_0 : w75.frozen? ⟨go61, (x244002_2 : Int).toNat * 2, none⟩ = false := hfr61 0; have hf61_1 : w75.frozen? ⟨go61, (x244002_2 : Int).toNat * 2 + 1, none⟩ = false := hfr61 1; clear hcl61 hcc61 hfr61 hM61; replace p61 := eq_true p61; replace q61 := eq_true q61; have HX77 := am (show Kd.R k57 57 w75 w.heap.size (fun k_ => some k_ ≠ (.slice Ao74 x244000_2.length co74 : Value).ownBlock ∧ k_ ≠ gb246) (.slice (some ⟨go61, 0, none⟩) x244001_2.length co65) x244001_2 from (xR HO_244001.out)); obtain ⟨ce77, hcl77, hM77, hcc77, hfr77⟩ := Kd.R_elem HX77.out z57 (x244002_2 : Int) (of_decide_eq_true (by assumption)) (by have h_ : (x244002_2 : Int) < ((x244001_2.length : Int) : Int) := of_decide_eq_true (by assumption); first | exact h_ | (have e_ := (Kd.R_reads' HO_244001.out).1; omega) | simpa using h_); obtain rfl := k57_openM hM77; have HP77 := Kd.R_seg HX77.out (x244002_2 : Int) (of_decide_eq_true (by assumption)) (by have h_ : (x244002_2 : Int) < ((x244001_2.length : Int) : Int) := of_decide_eq_true (by assumption); first | exact h_ | (have e_ := (Kd.R_reads' HO_244001.out).1; omega) | simpa using h_) (seg := [.string (⟨#[]⟩ : ByteArray), .int .i64 (-2)]) (j := 0) hcl77 hcc77 (show 2 ≤ 2 from by decide) (x' := (⟨(⟨#[]⟩ : ByteArray), (-2)⟩ : S57)) (k57_mkM _ _ _ (⟨(⟨#[]⟩ : ByteArray), (-2)⟩ : S57) ) (fun _ hk => hk); have hx77_0 := hcc77 0 _ rfl; (try simp only [show (k57).sz = 2 from rfl, Nat.mul_one, Nat.add_zero] at hx77_0); have hf77_0 := hfr77 0; (try simp only [show (k57).sz = 2 from rfl, Nat.mul_one, Nat.add_zero] at hf77_0); have hx77_1 := hcc77 1 _ rfl; (try simp only [show (k57).sz = 2 from rfl, Nat.mul_one, Nat.add_zero] at hx77_1); have hf77_1 := hfr77 1; (try simp only [show (k57).sz = 2 from rfl, Nat.mul_one, Nat.add_zero] at hf77_1); clear hcl77 hcc77 hfr77 hM77) | ((with_reducible refine gate_store (t := 57) (p := 58) rfl ?_); refine store_event (t := 57) (p := 58) (v := ?vo_w78) (w1 := ((w75.setCell ⟨go61, (x244002_2 : Int).toNat * 2, none⟩ (.string (⟨#[]⟩ : ByteArray))).setCell ⟨go61, (x244002_2 : Int).toNat * 2 + 1, none⟩ (.int .i64 (-2)))) ?hg ?ho ?hn ?hr ?_; (case ho => rfl); (case hg => rfl); (case hn => rfl); (case hr => first | (go_simp; done) | (go_simp; rfl)); intro w78 hw; have hg : w75.grownBy w78 (some go61) := (by rw [hw]; exact HP77.2); have hp_ : Kd.R k57 57 w78 w.heap.size (fun k_ => some k_ ≠ (.slice Ao74 x244000_2.length co74 : Value).ownBlock ∧ k_ ≠ gb246) (.slice (some ⟨go61, 0, none⟩) x244001_2.length co65) y250 := (by rw [hw, Ny250.out]; exact HP77.1); clear HP77; replace HO_244000 := am (Kd.R_after (v := (.slice (some ⟨go61, 0, none⟩) x244001_2.length co65)) (v1 := (.slice (some ⟨go61, 0, none⟩) x244001_2.length co65)) (ok := (fun k_ => k_ ≠ gb246)) (Kd.R_mono (xR HO_244000.out) (fun _ hk => ⟨hk.2, hk.1⟩)) hg (.inl rfl)); replace BK234 := am (blk_grown (g := gb234) (o := .cells #[.slice A0_0 l0_0.length c0_0, .slice A0_1 l0_1.length c0_1, .int .i64 a0_2] 26 (0, 0)) (xB BK234.out) hg (Kd.R_ne HO_244001.out BK234.out (by decide))); replace BK235 := am (blk_grown (g := gb235) (o := .cells #[.slice none 0 0, .slice none 0 0, .int .i64 x236002_2] 26 (0, 0)) (xB BK235.out) hg (Kd.R_ne HO_244001.out BK235.out (by decide))); replace BK243 := am (blk_grown (g := gb243) (o := .cells #[.slice Ao74 x244000_2.length co74, .slice (some ⟨go61, 0, none⟩) x244001_2.length co65, .int .i64 x244002_2] 26 (0, 0)) (xB BK243.out) hg (Kd.R_ne HO_244001.out BK243.out (by decide))); replace BK246 := am (blk_grown (g := gb246) (o := .cells #[.string ((rd_T57 x244001_2 x244002_2).f0), .int .i64 ((rd_T57 x244001_2 x244002_2).f1)] 57 (0, 0)) (xB BK246.out) hg (Kd.R_away HO_244001.out (fun _ hk => hk.2))); replace HO_244001 := am (hp_); replace HB := am ((by rw [hw]; exact below_set (below_set (HB.out) GB61.out) GB61.out : Below w.heap.size w w78)); clear hg hw hp_; obtain ⟨hcz79_0, hcz79_1, hcz79_2, hfz79_0, hfz79_1, hfz79_2⟩ := xT3 (W := w78) BK243.out))
             go_roundg kj32
             case measure => have := HJ3.out; have := HK2.out; have := HJ32.out; omega
             case rel => exact ⟨(wrap64 (x6_2 + 1)), (x236002_2), (t249), (y250), (wrap64 (x244002_2 + 1)), (.slice Ao74 x244000_2.length co74), (.slice (some ⟨go61, 0, none⟩) x244001_2.length co65), (xQ), H', ⟨by have := HJ3.out; have := HK2.out; have := HJ32.out; omega⟩, ⟨Kd.R_mono (xR HO_244000.out) (fun _ hk => hk.2)⟩, ⟨Kd.R_mono (xR HO_244001.out) (fun _ hk => hk.1)⟩, ⟨xB BK234.out⟩, ⟨xB BK235.out⟩, ⟨xP BK243.out⟩, ⟨xW HB.out⟩⟩
            ·replace c60 := Bool.eq_false_iff.mpr c60
             subst c60
             have H1 : (some (t249, x244001_2, x244002_2)) = some (r1, r2, r3) := by rw [if_neg (show ¬ (false = true) by decide)] at H; exact H
             clear H
             have H := H1
             clear H1
             simp only [Option.some.injEq, Prod.mk.injEq] at H
             obtain ⟨rfl, rfl, rfl⟩ := H
             have hnb80 := NB243_234.out
             have hnc80 := NB234_243.out
             have hnb81 := NB243_235.out
             have hnc81 := NB235_243.out
             obtain ⟨hcz82_0, hcz82_1, hcz82_2, hfz82_0, hfz82_1, hfz82_2⟩ := xT3 (W := wc) BK243.out
             obtain ⟨Ao83, co83, eo83⟩ := Kd.R_slice HO_244001.out
             subst eo83
             have p245 : 0 ≤ (x244002_2 : Int) := of_decide_eq_true (by assumption)
             have q245 : x244002_2 < (x244001_2.length : Int) := of_decide_eq_true (by assumption)
             obtain ⟨ad245, e245, hx245_0, hx245_1⟩ := at_T57 (Kd.R_reads' HO_244001.out).2.2 x244002_2 p245 q245
             cases e245
             replace p245 := eq_true p245
             replace q245 := eq_true q245
             go_wp2_with (first | ((with_reducible refine gate_dst (N := 7) rfl ?_); (try (refine gate_guard (by rfl) ?_; dsimp only)); refine xE (N := 7) (cs := #[.string (⟨#[]⟩ : ByteArray), .int .i64 0]) (t := 57) (h := ?_); intro gb246 hg w84 hbox hb; replace HO_244000 := am (Kd.R_below (Kd.R_elderB (xR HO_244000.out) gb246 (Nat.le_of_eq hg.symm)) hb); replace HO_244001 := am (Kd.R_below (Kd.R_elderB (xR HO_244001.out) gb246 (Nat.le_of_eq hg.symm)) hb); have BK246 := am (hbox); have GW246 := am (xS hg HB.out); have GE246 := am (xS hg HB.out); replace HB := am (below_step (xW HB.out) hb); have NB234_246 := am (xN hg BK234.out); have NB246_234 := am (xM hg BK234.out); replace BK234 := am (blk_below (xB BK234.out) hb); have NB235_246 := am (xN hg BK235.out); have NB246_235 := am (xM hg BK235.out); replace BK235 := am (blk_below (xB BK235.out) hb); have NB243_246 := am (xN hg BK243.out); have NB246_243 := am (xM hg BK243.out); replace BK243 := am (blk_below (xB BK243.out) hb); clear hb hbox hg; have hnb85 := NB246_234.out; have hnc85 := NB234_246.out; have hnb86 := NB246_235.out; have hnc86 := NB235_246.out; have hnb87 := NB246_243.out; have hnc87 := NB243_246.out; obtain ⟨hcz88_0, hcz88_1, hfz88_0, hfz88_1⟩ := xT2 (W := w84) BK246.out) | ((with_reducible refine gate_store (t := 57) (p := 7) rfl ?_); refine store_event (t := 57) (p := 7) (v := ?vo_w89) (w1 := ((w84.setCell ⟨gb246, 0, none⟩ (.string ((rd_T57 x244001_2 x244002_2).f0))).setCell ⟨gb246, 1, none⟩ (.int .i64 ((rd_T57 x244001_2 x244002_2).f1)))) ?hg ?ho ?hn ?hr ?_; (case ho => rfl); (case hg => rfl); (case hn => rfl); (case hr => first | (go_simp; done) | (go_simp; rfl)); intro w89 hw; have n0_ : Aside0 (Kd.R k57 57 w89 w.heap.size (fun k_ => some k_ ≠ (.slice (some ad245) x244001_2.length co83 : Value).ownBlock ∧ k_ ≠ gb246) u244000 x244000_2) := ⟨(by rw [hw]; exact (by (with_reducible repeat (first | apply Kd.R_alloc | apply Kd.R_drewN | apply Kd.R_drew)); exact Kd.R_mono (Kd.R_far (p := ⟨gb246, 1, none⟩) (Kd.R_far (p := ⟨gb246, 0, none⟩) (Kd.R_mono HO_244000.out (fun k_ hk => (⟨hk, hk.2⟩ : _ ∧ k_ ≠ gb246))) (fun _ hk => hk.2) (.string ((rd_T57 x244001_2 x244002_2).f0))) (fun _ hk => hk.2) (.int .i64 ((rd_T57 x244001_2 x244002_2).f1))) (fun _ hk => ⟨hk.1.1, hk.1.2⟩)))⟩; have n1_ : Aside0 (Kd.R k57 57 w89 w.heap.size (fun k_ => some k_ ≠ (u244000 : Value).ownBlock ∧ k_ ≠ gb246) (.slice (some ad245) x244001_2.length co83) x244001_2) := ⟨(by rw [hw]; exact (by (with_reducible repeat (first | apply Kd.R_alloc | apply Kd.R_drewN | apply Kd.R_drew)); exact Kd.R_mono (Kd.R_far (p := ⟨gb246, 1, none⟩) (Kd.R_far (p := ⟨gb246, 0, none⟩) (Kd.R_mono HO_244001.out (fun k_ hk => (⟨hk, hk.2⟩ : _ ∧ k_ ≠ gb246))) (fun _ hk => hk.2) (.string ((rd_T57 x244001_2 x244002_2).f0))) (fun _ hk => hk.2) (.int .i64 ((rd_T57 x244001_2 x244002_2).f1))) (fun _ hk => ⟨hk.1.1, hk.1.2⟩)))⟩; have n2_ : Aside0 (w89.heap[gb234]? = some (.cells #[.slice A0_0 l0_0.length c0_0, .slice A0_1 l0_1.length c0_1, .int .i64 a0_2] 26 (0, 0))) := ⟨(by rw [hw]; exact (xB BK234.out))⟩; have n3_ : Aside0 (w89.heap[gb235]? = some (.cells #[.slice none 0 0, .slice none 0 0, .int .i64 x236002_2] 26 (0, 0))) := ⟨(by rw [hw]; exact (xB BK235.out))⟩; have n4_ : Aside0 (w89.heap[gb243]? = some (.cells #[u244000, .slice (some ad245) x244001_2.length co83, .int .i64 x244002_2] 26 (0, 0))) := ⟨(by rw [hw]; exact (xB BK243.out))⟩; have n5_ : Aside0 (w89.heap[gb246]? = some (.cells #[.string ((rd_T57 x244001_2 x244002_2).f0), .int .i64 ((rd_T57 x244001_2 x244002_2).f1)] 57 (0, 0))) := ⟨(by rw [hw]; exact (xP BK246.out))⟩; have n6_ : Aside0 (Below w.heap.size w w89) := ⟨(by rw [hw]; exact (xW HB.out))⟩; clear hw; clear HO_244000; clear HO_244001; clear BK234; clear BK235; clear BK243; clear BK246; clear HB; have HO_244000 := n0_; have HO_244001 := n1_; have BK234 := n2_; have BK235 := n3_; have BK243 := n4_; have BK246 := n5_; have HB := n6_; clear n0_ n1_ n2_ n3_ n4_ n5_ n6_; obtain ⟨hcz90_0, hcz90_1, hfz90_0, hfz90_1⟩ := xT2 (W := w89) BK246.out; obtain ⟨hcz91_0, hcz91_1, hcz91_2, hfz91_0, hfz91_1, hfz91_2⟩ := xT3 (W := w89) BK243.out; obtain ⟨Ao92, co92, eo92⟩ := Kd.R_slice HO_244000.out; subst eo92) | (go_at_call 73; (with_reducible refine (spec_l04Put.calls kj32 (fun k_ => some k_ = (.slice Ao92 x244000_2.length co92 : Value).ownBlock) (.slice Ao92 x244000_2.length co92) x244000_2 ((rd_T57 x244001_2 x244002_2).f0) ((rd_T57 x244001_2 x244002_2).f1) false t249 w _ ?side1 ?side2 A59.out).mono ?_); (case side1 => exact xW HB.out); (case side2 => exact Kd.R_tight rfl HO_244000.out); rintro e w93 ⟨rfl, hy0, hb, hkp⟩; replace HO_244001 := am (Kd.R_mono (ok' := fun k_ => some k_ ≠ (.slice Ao92 x244000_2.length co92 : Value).ownBlock ∧ k_ ≠ gb246) (Kd.R_keptB (HO_244001.out) hkp (fun k_ hk_ hs_ => (hk_.1) hs_)) (fun k_ hk_ => ⟨hk_.1.1, hk_.1.2⟩)); replace BK234 := am (blk_kept (xB BK234.out) hkp (fun hs_ => (fun e_ => (Kd.R_ne HO_244000.out BK234.out (by decide)) e_) hs_)); replace BK235 := am (blk_kept (xB BK235.out) hkp (fun hs_ => (fun e_ => (Kd.R_ne HO_244000.out BK235.out (by decide)) e_) hs_)); replace BK243 := am (blk_kept (xB BK243.out) hkp (fun hs_ => (fun e_ => (Kd.R_ne HO_244000.out BK243.out (by decide)) e_) hs_)); replace BK246 := am (blk_kept (xB BK246.out) hkp (fun hs_ => (fun e_ => (Kd.R_away HO_244000.out (fun _ hk => hk.2)) e_) hs_)); replace HO_244000 := am (Kd.R_reok rfl hy0 (fun k_ e_ => HO_244000.out.1 k_ e_)); replace HB := am (hb); (try clear hb); (try clear hkp); (try clear hy0); obtain ⟨hcz94_0, hcz94_1, hcz94_2, hfz94_0, hfz94_1, hfz94_2⟩ := xT3 (W := w93) BK243.out; have hnb95 := NB235_234.out; have hnc95 := NB234_235.out; obtain ⟨hcz96_0, hcz96_1, hcz96_2, hfz96_0, hfz96_1, hfz96_2⟩ := xT3 (W := w93) BK235.out))
             refine bodyPost_ret (results_cell_row rfl _ _ gb235 26 #[.slice Ao92 x244000_2.length co92, .slice (some ad245) x244001_2.length co83, .int .i64 x244002_2] (0, 0) _ rfl (xP BK235.out) Try.underlying26 rfl (by kernel_rfl)) rfl ?_
             exact ⟨_, _, xV, Kd.R_mono (xR HO_244000.out) (fun _ hk => hk.1), Kd.R_mono (xR HO_244001.out) (fun _ hk => hk.1), xW HB.out⟩
          ·rw [if_neg c41] at H
           exact absurd H (by simp)
         ·rw [if_neg c40] at H
          exact absurd H (by simp)
        ·replace c39 := Bool.eq_false_iff.mpr c39
         subst c39
         have H1 : (if x244002_2 = (x244001_2.length : Int) then (some (x244000_2, (([] : List (S57))), 0)) else (some (x244000_2, x244001_2, x244002_2))) = some (r1, r2, r3) := by rw [if_neg (show ¬ (false = true) by decide)] at H; exact H
         clear H
         have H := H1
         clear H1
         by_cases c97 : x244002_2 = (x244001_2.length : Int)
         ·rw [if_pos c97] at H
          have c97b0 : (x244002_2 == (x244001_2.length : Int)) = true := beq_iff_eq.mpr c97
          have c97b1 : (x244002_2 != (x244001_2.length : Int)) = false := bne_eq_false_iff_eq.mpr c97
          clear c97
          obtain ⟨y251, hy251⟩ : ∃ y_ : List (S57), y_ = (([] : List (S57))) := ⟨_, rfl⟩
          replace H : (some (x244000_2, y251, 0)) = some (r1, r2, r3) := by first | (rw [hy251]; with_reducible exact H) | (have H2_ := (Option.bind_some _ _).symm.trans H; rw [hy251]; with_reducible exact H2_) | (have H2_ := (Option.bind_some _ _).symm.trans H; with_reducible exact H2_) | with_reducible exact H | (rw [hy251]; exact H) | exact H
          have Ny251 := am hy251
          clear hy251
          simp only [Option.some.injEq, Prod.mk.injEq] at H
          obtain ⟨rfl, rfl, rfl⟩ := H
          have hnb98 := NB243_234.out
          have hnc98 := NB234_243.out
          have hnb99 := NB243_235.out
          have hnc99 := NB235_243.out
          obtain ⟨hcz100_0, hcz100_1, hcz100_2, hfz100_0, hfz100_1, hfz100_2⟩ := xT3 (W := wc) BK243.out
          obtain ⟨Ao101, co101, eo101⟩ := Kd.R_slice HO_244001.out
          subst eo101
          go_wp2_with (first | ((with_reducible refine gate_dst (N := 69) rfl ?_); (try (refine gate_guard (by rfl) ?_; dsimp only)); refine Kd.R_lit k57 _ 57 ?hg (N := 69) ?hd (xs := ([] : List (S57))) (inner := []) (ok := fun _ => True) (okp := fun _ => True) ?hr ?hp (fun _ hk => hk) trivial (Below.refl _ _) (Nat.le_refl _) (by simp) ?_; (case hd => rfl); (case hg => rfl); (case hr => first | (go_simp; done) | (go_simp; rfl)); (case hp => exact (Reps.none _ _)); intro v252 w102 ho103 hb hg_ hnew_; clear hg_ hnew_; (first | rw [← Ny251.out] at ho103 | (simp only [Int.reduceToNat] at ho103; rw [← Ny251.out] at ho103)); have HO253 := am (Kd.R_lower (Kd.R_new' (Kd.R_new' ho103 (Kd.R_lt (xR HO_244000.out))) (Kd.R_lt (xR HO_244001.out))) (below_size (xW HB.out))); replace HO_244000 := am (Kd.R_elder' (xR HO_244000.out) (Kd.R_base ho103) hb); replace HO_244001 := am (Kd.R_elder' (xR HO_244001.out) (Kd.R_base ho103) hb); replace BK234 := am (blk_below (xB BK234.out) hb); replace BK235 := am (blk_below (xB BK235.out) hb); replace BK243 := am (blk_below (xB BK243.out) hb); replace HB := am (below_step (xW HB.out) hb); clear hb ho103; obtain ⟨Ao104, co104, eo104⟩ := Kd.R_slice HO253.out; subst eo104; obtain ⟨hcz105_0, hcz105_1, hcz105_2, hfz105_0, hfz105_1, hfz105_2⟩ := xT3 (W := w102) BK243.out; obtain ⟨Ao106, co106, eo106⟩ := Kd.R_slice HO_244000.out; subst eo106; have hnb107 := NB235_234.out; have hnc107 := NB234_235.out; obtain ⟨hcz108_0, hcz108_1, hcz108_2, hfz108_0, hfz108_1, hfz108_2⟩ := xT3 (W := w102) BK235.out))
          refine bodyPost_ret (results_cell_row rfl _ _ gb235 26 #[.slice Ao106 x244000_2.length co106, .slice Ao104 y251.length co104, .int .i64 0] (0, 0) _ rfl (xP BK235.out) Try.underlying26 rfl (by kernel_rfl)) rfl ?_
          exact ⟨_, _, xV, Kd.R_mono (xR HO_244000.out) (fun _ hk => hk.2), Kd.R_mono (xR HO253.out) (fun _ hk => hk.1.2), xW HB.out⟩
         ·rw [if_neg c97] at H
          have c97b0 : (x244002_2 == (x244001_2.length : Int)) = false := beq_eq_false_iff_ne.mpr c97
          have c97b1 : (x244002_2 != (x244001_2.length : Int)) = true := bne_iff_ne.mpr c97
          simp only [Option.some.injEq, Prod.mk.injEq] at H
          obtain ⟨rfl, rfl, rfl⟩ := H
          have hnb109 := NB243_234.out
          have hnc109 := NB234_243.out
          have hnb110 := NB243_235.out
          have hnc110 := NB235_243.out
          obtain ⟨hcz111_0, hcz111_1, hcz111_2, hfz111_0, hfz111_1, hfz111_2⟩ := xT3 (W := wc) BK243.out
          obtain ⟨Ao112, co112, eo112⟩ := Kd.R_slice HO_244001.out
          subst eo112
          obtain ⟨Ao113, co113, eo113⟩ := Kd.R_slice HO_244000.out
          subst eo113
          have hnb114 := NB235_234.out
          have hnc114 := NB234_235.out
          obtain ⟨hcz115_0, hcz115_1, hcz115_2, hfz115_0, hfz115_1, hfz115_2⟩ := xT3 (W := wc) BK235.out
          go_wp2
          refine bodyPost_ret (results_cell_row rfl _ _ gb235 26 #[.slice Ao113 x244000_2.length co113, .slice Ao112 x244001_2.length co112, .int .i64 x244002_2] (0, 0) _ rfl (xP BK235.out) Try.underlying26 rfl (by kernel_rfl)) rfl ?_
          exact ⟨_, _, xV, xR HO_244000.out, xR HO_244001.out, xW HB.out⟩
end Go.Proofs.Ytmahoekbedgbcaa.HFnGrows
