/- What the row of the law needs of the printed and the plain texts. -/
import Derived.Test.YtmahoekbedgbcaaZbHX
import Derived.Test.YtmahoekbedgbcaaZbHFnExactCleanTablex0
import Derived.Test.YtmahoekbedgbcaaZbHFnExactCleanTablex1
import Derived.Test.YtmahoekbedgbcaaZbHFnExactCleanTablex9
import Derived.Test.YtmahoekbedgbcaaZbHFnExactCleanTablex10
import Derived.Test.YtmahoekbedgbcaaZbHFnExactCleanTablex11
namespace Go.Proofs.Ytmahoekbedgbcaa.HFnExactCleanTable
open Go.RowKit Go.Proofs.YtmahoekbedgbcaaW.PrintWords Go.Proofs.YtmahoekbedgbcaaW.PrintLast Go.Proofs.YtmahoekbedgbcaaW.PrintMore
attribute [local go_sem] max2_int min2_int max_two min_two max_three min_three max_four min_four
set_option linter.unusedVariables false
set_option linter.unusedSimpArgs false
attribute [local go_sem high] eqA57
mutual
def impl_TableOk.j0 : Nat → Bool → List (S57) → List (S57) → Int → Option (Bool)
 | 0, _, _, _, _ => none
 | k + 1, x36, x271000, x271001, x271002 => if x36 = true then (some false) else (if 0 ≤ x271002 then (if x271002 ≤ (x271001.length : Int) then ((some (x271001.take (x271002 : Int).toNat : List (S57))).bind fun y274 => (impl_TableOk.l0 k y274 (y274.length : Int) 0 x271000 x271001 x271002)) else (none)) else (none))
def impl_TableOk.l0 : Nat → List (S57) → Int → Int → List (S57) → List (S57) → Int → Option (Bool)
 | 0, _, _, _, _, _, _ => none
 | k + 1, x41, x42, x43, x271000, x271001, x271002 => if x43 < x42 then (if 0 ≤ x43 then (if x43 < (x41.length : Int) then (if (!((((rd_T57 x41 x43).f0).toList) == ([] : List UInt8)) || (!(((rd_T57 x41 x43).f1) == (-2)))) = true then (some false) else (impl_TableOk.l0 k x41 x42 (wrap64 (x43 + 1)) x271000 x271001 x271002)) else (none)) else (none)) else ((impl_Table_keys.f k x271000 x271001 x271002).bind fun t280 => (impl_TableOk.l1 k t280 1 x271000 x271001 x271002))
def impl_TableOk.l1 : Nat → List ByteArray → Int → List (S57) → List (S57) → Int → Option (Bool)
 | 0, _, _, _, _, _ => none
 | k + 1, x5, x6, x271000, x271001, x271002 => if x6 < (x5.length : Int) then (if 0 ≤ x6 then (if 0 ≤ (wrap64 (x6 - 1)) then (if (wrap64 (x6 - 1)) < (x5.length : Int) then (if (rdOf ByteArray.empty x5 x6).toList = (rdOf ByteArray.empty x5 (wrap64 (x6 - 1))).toList then (some false) else (impl_TableOk.l1 k x5 (wrap64 (x6 + 1)) x271000 x271001 x271002)) else (none)) else (none)) else (none)) else ((impl_cellsOk.f k x271000).bind fun t285 => (if t285 = true then ((impl_cellsOk.f k x271001).bind fun t286 => (if t286 = true then ((impl_nones.f k x271000).bind fun t287 => (some (decide (t287 > 0)))) else (some false))) else (some false)))
end
def impl_TableOk.f (k : Nat) (l0_0 : List (S57)) (l0_1 : List (S57)) (a0_2 : Int) : Option (Bool) := (impl_isSize.f (l0_0.length : Int)).bind fun t271 => (if t271 = true then (if (l0_1.length : Int) = 0 then ((impl_inRange.f a0_2 0 (l0_1.length : Int)).bind fun t272 => (impl_TableOk.j0 k (!t272) l0_0 l0_1 a0_2)) else (if (wrap64 (2 * (l0_1.length : Int))) = (l0_0.length : Int) then ((impl_inRange.f a0_2 0 (l0_1.length : Int)).bind fun t273 => (impl_TableOk.j0 k (!t273) l0_0 l0_1 a0_2)) else (impl_TableOk.j0 k true l0_0 l0_1 a0_2))) else (impl_TableOk.j0 k true l0_0 l0_1 a0_2))
set_option maxHeartbeats 8000000 in
set_option maxRecDepth 100000 in
theorem impl_TableOk.calls (k : Nat) (A0_0 : Option Addr) (c0_0 : Nat) (l0_0 : List (S57)) (A0_1 : Option Addr) (c0_1 : Nat) (l0_1 : List (S57)) (a0_2 : Int) (r : Bool) (w : World) (hr0_0 : Kd.C k57 w A0_0 l0_0.length l0_0) (hc0_0 : l0_0.length ≤ c0_0) (hr0_1 : Kd.C k57 w A0_1 l0_1.length l0_1) (hc0_1 : l0_1.length ≤ c0_1) (h : impl_TableOk.f k l0_0 l0_1 a0_2 = some r) :
  Calls Try.prog 18 #[.agg #[.slice A0_0 l0_0.length c0_0, .slice A0_1 l0_1.length c0_1, .int .i64 a0_2]] w fun e w' => e = .returned (.bool r) ∧ Below w.heap.size w w' := by
 have hu26 := Try.underlying26
 have hu57 := Try.underlying57
 have HR0_0 := am hr0_0
 have HC0_0 := am hc0_0
 clear hr0_0 hc0_0
 have HR0_1 := am hr0_1
 have HC0_1 := am hc0_1
 clear hr0_1 hc0_1
 have HB := am (Below.refl w.heap.size w)
 have H : ((impl_isSize.f (l0_0.length : Int)).bind fun t271 => (if t271 = true then (if (l0_1.length : Int) = 0 then ((impl_inRange.f a0_2 0 (l0_1.length : Int)).bind fun t272 => (impl_TableOk.j0 k (!t272) l0_0 l0_1 a0_2)) else (if (wrap64 (2 * (l0_1.length : Int))) = (l0_0.length : Int) then ((impl_inRange.f a0_2 0 (l0_1.length : Int)).bind fun t273 => (impl_TableOk.j0 k (!t273) l0_0 l0_1 a0_2)) else (impl_TableOk.j0 k true l0_0 l0_1 a0_2))) else (impl_TableOk.j0 k true l0_0 l0_1 a0_2))) = some r := h
 clear h
 have HC2 := am H
 clear H
 go_enter Try.func18, Try.ntmps18
 go_upto_region 1 with (first | ((with_reducible refine gate_dst (N := 1) rfl ?_); (try (refine gate_guard (by rfl) ?_; dsimp only)); refine xE (N := 1) (cs := #[.slice A0_0 l0_0.length c0_0, .slice A0_1 l0_1.length c0_1, .int .i64 a0_2]) (t := 26) (h := ?_); intro gb270 hg w3 hbox hb; have n0_ := am (below_step (xW HB.out) hb); have n1_ := am (hbox); have n2_ := am (xS hg HB.out); have n3_ := am (xS hg HB.out); clear HB; have HB := n0_; have BK270 := n1_; have GW270 := n2_; have GE270 := n3_; clear n0_ n1_ n2_ n3_; clear hb hbox hg))
 repeat (go_quiet (first | ((with_reducible refine gate_dst (N := 1) rfl ?_); (try (refine gate_guard (by rfl) ?_; dsimp only)); refine xE (N := 1) (cs := #[.slice A0_0 l0_0.length c0_0, .slice A0_1 l0_1.length c0_1, .int .i64 a0_2]) (t := 26) (h := ?_); intro gb270 hg w3 hbox hb; have n0_ := am (below_step (xW HB.out) hb); have n1_ := am (hbox); have n2_ := am (xS hg HB.out); have n3_ := am (xS hg HB.out); clear HB; have HB := n0_; have BK270 := n1_; have GW270 := n2_; have GE270 := n3_; clear n0_ n1_ n2_ n3_; clear hb hbox hg)); go_upto_region 1 with (first | ((with_reducible refine gate_dst (N := 1) rfl ?_); (try (refine gate_guard (by rfl) ?_; dsimp only)); refine xE (N := 1) (cs := #[.slice A0_0 l0_0.length c0_0, .slice A0_1 l0_1.length c0_1, .int .i64 a0_2]) (t := 26) (h := ?_); intro gb270 hg w3 hbox hb; have n0_ := am (below_step (xW HB.out) hb); have n1_ := am (hbox); have n2_ := am (xS hg HB.out); have n3_ := am (xS hg HB.out); clear HB; have HB := n0_; have BK270 := n1_; have GW270 := n2_; have GE270 := n3_; clear n0_ n1_ n2_ n3_; clear hb hbox hg)))
 (try simp only [Act.put, List.setIfInBounds_toArray, List.set_cons_zero, List.set_cons_succ])
 go_cut [36] (fun v36 wc => ∃ (kq : Nat) (x36_1 : Bool), v36 = .bool x36_1 ∧ Aside0 (impl_TableOk.j0 kq x36_1 l0_0 l0_1 a0_2 = some r) ∧ Aside0 (kq ≤ k) ∧ Aside0 (wc.heap[gb270]? = some (.cells #[(.slice A0_0 l0_0.length c0_0), (.slice A0_1 l0_1.length c0_1), .int .i64 a0_2] 26 (0, 0))) ∧ Aside0 (Below w.heap.size w wc))
 case first =>
  have H := HC2.out
  clear HC2
  replace H := Option.bind_eq_some_iff.mp H
  obtain ⟨t271, A40, H⟩ := H
  replace H : (if t271 = true then (if (l0_1.length : Int) = 0 then ((impl_inRange.f a0_2 0 (l0_1.length : Int)).bind fun t272 => (impl_TableOk.j0 k (!t272) l0_0 l0_1 a0_2)) else (if (wrap64 (2 * (l0_1.length : Int))) = (l0_0.length : Int) then ((impl_inRange.f a0_2 0 (l0_1.length : Int)).bind fun t273 => (impl_TableOk.j0 k (!t273) l0_0 l0_1 a0_2)) else (impl_TableOk.j0 k true l0_0 l0_1 a0_2))) else (impl_TableOk.j0 k true l0_0 l0_1 a0_2)) = some r := H
  have A4 := am A40
  clear A40
  by_cases c5 : t271 = true
  ·subst c5
   have H1 : (if (l0_1.length : Int) = 0 then ((impl_inRange.f a0_2 0 (l0_1.length : Int)).bind fun t272 => (impl_TableOk.j0 k (!t272) l0_0 l0_1 a0_2)) else (if (wrap64 (2 * (l0_1.length : Int))) = (l0_0.length : Int) then ((impl_inRange.f a0_2 0 (l0_1.length : Int)).bind fun t273 => (impl_TableOk.j0 k (!t273) l0_0 l0_1 a0_2)) else (impl_TableOk.j0 k true l0_0 l0_1 a0_2))) = some r := by rw [if_pos rfl] at H; exact H
   clear H
   have H := H1
   clear H1
   by_cases c6 : (l0_1.length : Int) = 0
   ·rw [if_pos c6] at H
    have c6b0 : ((l0_1.length : Int) == 0) = true := beq_iff_eq.mpr c6
    have c6b1 : ((l0_1.length : Int) != 0) = false := bne_eq_false_iff_eq.mpr c6
    clear c6
    (first | rw [c6b0] | (simp only [i64_w, i32_w]; rw [c6b0]) | skip)
    replace H := Option.bind_eq_some_iff.mp H
    obtain ⟨t272, A70, H⟩ := H
    replace H : (impl_TableOk.j0 k (!t272) l0_0 l0_1 a0_2) = some r := H
    have A7 := am A70
    clear A70
    have H' := am H
    clear H
    obtain ⟨hcz8_0, hcz8_1, hcz8_2, hfz8_0, hfz8_1, hfz8_2⟩ := xT3 (W := w3) BK270.out
    go_wp2_with (first | (go_at_call 51; (with_reducible refine (impl_isSize.calls (l0_0.length : Int) true _ A4.out).mono ?_); rintro e w' ⟨rfl, ⟨nd, rfl⟩⟩; (try first | exact ⟨rfl, _, World.drewN_drewN _ _ _⟩ | exact ⟨rfl, _, Eq.trans (World.drewN_drewN _ _ _) (congrArg (World.drewN _) (Nat.add_assoc _ _ _))⟩)) | (go_at_call 52; (with_reducible refine (impl_inRange.calls a0_2 0 (l0_1.length : Int) t272 _ A7.out).mono ?_); rintro e w' ⟨rfl, ⟨nd, rfl⟩⟩; (try first | exact ⟨rfl, _, World.drewN_drewN _ _ _⟩ | exact ⟨rfl, _, Eq.trans (World.drewN_drewN _ _ _) (congrArg (World.drewN _) (Nat.add_assoc _ _ _))⟩)))
    repeat (go_quiet (first | (go_at_call 51; (with_reducible refine (impl_isSize.calls (l0_0.length : Int) true _ A4.out).mono ?_); rintro e w' ⟨rfl, ⟨nd, rfl⟩⟩; (try first | exact ⟨rfl, _, World.drewN_drewN _ _ _⟩ | exact ⟨rfl, _, Eq.trans (World.drewN_drewN _ _ _) (congrArg (World.drewN _) (Nat.add_assoc _ _ _))⟩)) | (go_at_call 52; (with_reducible refine (impl_inRange.calls a0_2 0 (l0_1.length : Int) t272 _ A7.out).mono ?_); rintro e w' ⟨rfl, ⟨nd, rfl⟩⟩; (try first | exact ⟨rfl, _, World.drewN_drewN _ _ _⟩ | exact ⟨rfl, _, Eq.trans (World.drewN_drewN _ _ _) (congrArg (World.drewN _) (Nat.add_assoc _ _ _))⟩))); try go_wp2_with (first | (go_at_call 51; (with_reducible refine (impl_isSize.calls (l0_0.length : Int) true _ A4.out).mono ?_); rintro e w' ⟨rfl, ⟨nd, rfl⟩⟩; (try first | exact ⟨rfl, _, World.drewN_drewN _ _ _⟩ | exact ⟨rfl, _, Eq.trans (World.drewN_drewN _ _ _) (congrArg (World.drewN _) (Nat.add_assoc _ _ _))⟩)) | (go_at_call 52; (with_reducible refine (impl_inRange.calls a0_2 0 (l0_1.length : Int) t272 _ A7.out).mono ?_); rintro e w' ⟨rfl, ⟨nd, rfl⟩⟩; (try first | exact ⟨rfl, _, World.drewN_drewN _ _ _⟩ | exact ⟨rfl, _, Eq.trans (World.drewN_drewN _ _ _) (congrArg (World.drewN _) (Nat.add_assoc _ _ _))⟩))))
    go_meet
    case rel => exact ⟨_, (!t272), (xQ), H', ⟨by first | omega | exact Nat.le_refl _⟩, ⟨xB BK270.out⟩, ⟨xW HB.out⟩⟩
   ·rw [if_neg c6] at H
    have c6b0 : ((l0_1.length : Int) == 0) = false := beq_eq_false_iff_ne.mpr c6
    have c6b1 : ((l0_1.length : Int) != 0) = true := bne_iff_ne.mpr c6
    have c6b2 : ¬ (l0_1 = []) := fun h_ => c6 (by rw [h_]; rfl)
    (first | rw [c6b0] | (simp only [i64_w, i32_w]; rw [c6b0]) | skip)
    by_cases c9 : (wrap64 (2 * (l0_1.length : Int))) = (l0_0.length : Int)
    ·rw [if_pos c9] at H
     have c9b0 : ((wrap64 (2 * (l0_1.length : Int))) == (l0_0.length : Int)) = true := beq_iff_eq.mpr c9
     have c9b1 : ((wrap64 (2 * (l0_1.length : Int))) != (l0_0.length : Int)) = false := bne_eq_false_iff_eq.mpr c9
     clear c9
     replace H := Option.bind_eq_some_iff.mp H
     obtain ⟨t273, A100, H⟩ := H
     replace H : (impl_TableOk.j0 k (!t273) l0_0 l0_1 a0_2) = some r := H
     have A10 := am A100
     clear A100
     have H' := am H
     clear H
     obtain ⟨hcz11_0, hcz11_1, hcz11_2, hfz11_0, hfz11_1, hfz11_2⟩ := xT3 (W := w3) BK270.out
     go_wp2_with (first | (go_at_call 51; (with_reducible refine (impl_isSize.calls (l0_0.length : Int) true _ A4.out).mono ?_); rintro e w' ⟨rfl, ⟨nd, rfl⟩⟩; (try first | exact ⟨rfl, _, World.drewN_drewN _ _ _⟩ | exact ⟨rfl, _, Eq.trans (World.drewN_drewN _ _ _) (congrArg (World.drewN _) (Nat.add_assoc _ _ _))⟩)) | (go_at_call 52; (with_reducible refine (impl_inRange.calls a0_2 0 (l0_1.length : Int) t273 _ A10.out).mono ?_); rintro e w' ⟨rfl, ⟨nd, rfl⟩⟩; (try first | exact ⟨rfl, _, World.drewN_drewN _ _ _⟩ | exact ⟨rfl, _, Eq.trans (World.drewN_drewN _ _ _) (congrArg (World.drewN _) (Nat.add_assoc _ _ _))⟩)))
     repeat (go_quiet (first | (go_at_call 51; (with_reducible refine (impl_isSize.calls (l0_0.length : Int) true _ A4.out).mono ?_); rintro e w' ⟨rfl, ⟨nd, rfl⟩⟩; (try first | exact ⟨rfl, _, World.drewN_drewN _ _ _⟩ | exact ⟨rfl, _, Eq.trans (World.drewN_drewN _ _ _) (congrArg (World.drewN _) (Nat.add_assoc _ _ _))⟩)) | (go_at_call 52; (with_reducible refine (impl_inRange.calls a0_2 0 (l0_1.length : Int) t273 _ A10.out).mono ?_); rintro e w' ⟨rfl, ⟨nd, rfl⟩⟩; (try first | exact ⟨rfl, _, World.drewN_drewN _ _ _⟩ | exact ⟨rfl, _, Eq.trans (World.drewN_drewN _ _ _) (congrArg (World.drewN _) (Nat.add_assoc _ _ _))⟩))); try go_wp2_with (first | (go_at_call 51; (with_reducible refine (impl_isSize.calls (l0_0.length : Int) true _ A4.out).mono ?_); rintro e w' ⟨rfl, ⟨nd, rfl⟩⟩; (try first | exact ⟨rfl, _, World.drewN_drewN _ _ _⟩ | exact ⟨rfl, _, Eq.trans (World.drewN_drewN _ _ _) (congrArg (World.drewN _) (Nat.add_assoc _ _ _))⟩)) | (go_at_call 52; (with_reducible refine (impl_inRange.calls a0_2 0 (l0_1.length : Int) t273 _ A10.out).mono ?_); rintro e w' ⟨rfl, ⟨nd, rfl⟩⟩; (try first | exact ⟨rfl, _, World.drewN_drewN _ _ _⟩ | exact ⟨rfl, _, Eq.trans (World.drewN_drewN _ _ _) (congrArg (World.drewN _) (Nat.add_assoc _ _ _))⟩))))
     go_meet
     case rel => exact ⟨_, (!t273), (xQ), H', ⟨by first | omega | exact Nat.le_refl _⟩, ⟨xB BK270.out⟩, ⟨xW HB.out⟩⟩
    ·rw [if_neg c9] at H
     have c9b0 : ((wrap64 (2 * (l0_1.length : Int))) == (l0_0.length : Int)) = false := beq_eq_false_iff_ne.mpr c9
     have c9b1 : ((wrap64 (2 * (l0_1.length : Int))) != (l0_0.length : Int)) = true := bne_iff_ne.mpr c9
     have H' := am H
     clear H
     obtain ⟨hcz12_0, hcz12_1, hcz12_2, hfz12_0, hfz12_1, hfz12_2⟩ := xT3 (W := w3) BK270.out
     go_wp2_with (first | (go_at_call 51; (with_reducible refine (impl_isSize.calls (l0_0.length : Int) true _ A4.out).mono ?_); rintro e w' ⟨rfl, ⟨nd, rfl⟩⟩; (try first | exact ⟨rfl, _, World.drewN_drewN _ _ _⟩ | exact ⟨rfl, _, Eq.trans (World.drewN_drewN _ _ _) (congrArg (World.drewN _) (Nat.add_assoc _ _ _))⟩)))
     repeat (go_quiet (first | (go_at_call 51; (with_reducible refine (impl_isSize.calls (l0_0.length : Int) true _ A4.out).mono ?_); rintro e w' ⟨rfl, ⟨nd, rfl⟩⟩; (try first | exact ⟨rfl, _, World.drewN_drewN _ _ _⟩ | exact ⟨rfl, _, Eq.trans (World.drewN_drewN _ _ _) (congrArg (World.drewN _) (Nat.add_assoc _ _ _))⟩))); try go_wp2_with (first | (go_at_call 51; (with_reducible refine (impl_isSize.calls (l0_0.length : Int) true _ A4.out).mono ?_); rintro e w' ⟨rfl, ⟨nd, rfl⟩⟩; (try first | exact ⟨rfl, _, World.drewN_drewN _ _ _⟩ | exact ⟨rfl, _, Eq.trans (World.drewN_drewN _ _ _) (congrArg (World.drewN _) (Nat.add_assoc _ _ _))⟩))))
     go_meet
     case rel => exact ⟨_, (true), (xQ), H', ⟨by first | omega | exact Nat.le_refl _⟩, ⟨xB BK270.out⟩, ⟨xW HB.out⟩⟩
  ·replace c5 := Bool.eq_false_iff.mpr c5
   subst c5
   have H1 : (impl_TableOk.j0 k true l0_0 l0_1 a0_2) = some r := by rw [if_neg (show ¬ (false = true) by decide)] at H; exact H
   clear H
   have H := H1
   clear H1
   have H' := am H
   clear H
   obtain ⟨hcz13_0, hcz13_1, hcz13_2, hfz13_0, hfz13_1, hfz13_2⟩ := xT3 (W := w3) BK270.out
   go_wp2_with (first | (go_at_call 51; (with_reducible refine (impl_isSize.calls (l0_0.length : Int) false _ A4.out).mono ?_); rintro e w' ⟨rfl, ⟨nd, rfl⟩⟩; (try first | exact ⟨rfl, _, World.drewN_drewN _ _ _⟩ | exact ⟨rfl, _, Eq.trans (World.drewN_drewN _ _ _) (congrArg (World.drewN _) (Nat.add_assoc _ _ _))⟩)))
   repeat (go_quiet (first | (go_at_call 51; (with_reducible refine (impl_isSize.calls (l0_0.length : Int) false _ A4.out).mono ?_); rintro e w' ⟨rfl, ⟨nd, rfl⟩⟩; (try first | exact ⟨rfl, _, World.drewN_drewN _ _ _⟩ | exact ⟨rfl, _, Eq.trans (World.drewN_drewN _ _ _) (congrArg (World.drewN _) (Nat.add_assoc _ _ _))⟩))); try go_wp2_with (first | (go_at_call 51; (with_reducible refine (impl_isSize.calls (l0_0.length : Int) false _ A4.out).mono ?_); rintro e w' ⟨rfl, ⟨nd, rfl⟩⟩; (try first | exact ⟨rfl, _, World.drewN_drewN _ _ _⟩ | exact ⟨rfl, _, Eq.trans (World.drewN_drewN _ _ _) (congrArg (World.drewN _) (Nat.add_assoc _ _ _))⟩))))
   go_meet
   case rel => exact ⟨_, (true), (xQ), H', ⟨by first | omega | exact Nat.le_refl _⟩, ⟨xB BK270.out⟩, ⟨xW HB.out⟩⟩
 case rest =>
  clear HC2
  try clear c1
  try clear p2
  try clear c5
  try clear c6
  try clear c6b0
  try clear c6b1
  try clear c6b2
  try clear p6
  try clear c9
  try clear c9b0
  try clear c9b1
  try clear hcz11_0
  try clear hcz11_1
  try clear hcz11_2
  try clear hcz12_0
  try clear hcz12_1
  try clear hcz12_2
  try clear hcz13_0
  try clear hcz13_1
  try clear hcz13_2
  try clear hcz8_0
  try clear hcz8_1
  try clear hcz8_2
  try clear hfz11_0
  try clear hfz11_1
  try clear hfz11_2
  try clear hfz12_0
  try clear hfz12_1
  try clear hfz12_2
  try clear hfz13_0
  try clear hfz13_1
  try clear hfz13_2
  try clear hfz8_0
  try clear hfz8_1
  try clear hfz8_2
  obtain ⟨kq, x36_1, rfl, HA, HJ1, BK270, HB⟩ := hcut
  cases kq with
  | zero => exact absurd HA.out (by simp [impl_TableOk.j0])
  | succ kj1 =>
   have H := HA.out
   clear HA
   simp only [impl_TableOk.j0] at H
   by_cases c14 : x36_1 = true
   ·subst c14
    have H1 : (some false) = some r := by rw [if_pos rfl] at H; exact H
    clear H
    have H := H1
    clear H1
    obtain rfl := Option.some.inj H
    go_wp2
    repeat (go_quiet (fail); try go_wp2)
    go_ret
    exact ⟨xV, xW HB.out⟩
   ·replace c14 := Bool.eq_false_iff.mpr c14
    subst c14
    have H1 : (if 0 ≤ a0_2 then (if a0_2 ≤ (l0_1.length : Int) then ((some (l0_1.take (a0_2 : Int).toNat : List (S57))).bind fun y274 => (impl_TableOk.l0 kj1 y274 (y274.length : Int) 0 l0_0 l0_1 a0_2)) else (none)) else (none)) = some r := by rw [if_neg (show ¬ (false = true) by decide)] at H; exact H
    clear H
    have H := H1
    clear H1
    by_cases c15 : 0 ≤ a0_2
    ·rw [if_pos c15] at H
     have c15b0 := eq_true c15
     have c15b1 : decide (0 ≤ a0_2) = true := decide_eq_true c15
     clear c15
     by_cases c16 : a0_2 ≤ (l0_1.length : Int)
     ·rw [if_pos c16] at H
      have c16b0 := eq_true c16
      have c16b1 : decide (a0_2 ≤ (l0_1.length : Int)) = true := decide_eq_true c16
      clear c16
      obtain ⟨y274, hy274⟩ : ∃ y_ : List (S57), y_ = (l0_1.take (a0_2 : Int).toNat) := ⟨_, rfl⟩
      replace H : (impl_TableOk.l0 kj1 y274 (y274.length : Int) 0 l0_0 l0_1 a0_2) = some r := by first | (rw [hy274]; with_reducible exact H) | (have H2_ := (Option.bind_some _ _).symm.trans H; rw [hy274]; with_reducible exact H2_) | (have H2_ := (Option.bind_some _ _).symm.trans H; with_reducible exact H2_) | with_reducible exact H | (rw [hy274]; exact H) | exact H
      have Ny274 := am hy274
      clear hy274
      have H' := am H
      clear H
      obtain ⟨hcz17_0, hcz17_1, hcz17_2, hfz17_0, hfz17_1, hfz17_2⟩ := xT3 (W := wc) BK270.out
      have q18 : (a0_2 : Int) ≤ ((l0_1.length : Int) : Int) := of_decide_eq_true (by assumption)
      obtain ⟨i018, hi018, _, hsz18, _⟩ := info_parts info57
      have hroom18 : l0_1.length ≤ c0_1 := HC0_1.out
      have hC18 : Kd.C k57 _ A0_1 l0_1.length l0_1 := HR0_1.out
      have hcut18 := cut_to (P := Try.prog) 24 57 .i64 Try.underlying24 hi018 A0_1 l0_1.length c0_1 a0_2 (of_decide_eq_true (by assumption)) q18 hroom18
      have hr18 := Kd.C_take (m := (a0_2 : Int).toNat) hC18 (by omega)
      have hy18 : y274.length = (a0_2 : Int).toNat := (by rw [Ny274.out, List.length_take]; omega)
      rw [← Ny274.out] at hr18
      rw [← hy18] at hcut18
      have HR277 := am hr18
      have HC277 := am (show y274.length ≤ c0_1 from by omega)
      clear hr18 hC18 hroom18 hi018 hsz18
      have KY18 := am hy18
      clear hy18
      replace q18 := eq_true q18
      go_wp2
      repeat (go_quiet (fail); try go_wp2)
      go_loopg [43] kj1 (fun kq v43 w' => ∃ (x43_2 : Int), v43 = .int .i64 x43_2 ∧ Aside0 (impl_TableOk.l0 kq y274 (y274.length : Int) x43_2 l0_0 l0_1 a0_2 = some r) ∧ Aside0 (kq ≤ kj1) ∧ Aside0 (w'.heap[gb270]? = some (.cells #[(.slice A0_0 l0_0.length c0_0), (.slice A0_1 l0_1.length c0_1), .int .i64 a0_2] 26 (0, 0))) ∧ Aside0 (Below w.heap.size w w'))
      case atStart => exact ⟨(0), (xQ), H', ⟨Nat.le_refl _⟩, ⟨xB BK270.out⟩, ⟨xW HB.out⟩⟩
      case round =>
       clear H'
       try clear c1
       try clear q1
       try clear p2
       try clear c5
       try clear c6
       try clear c6b0
       try clear c6b1
       try clear c6b2
       try clear p6
       try clear c9
       try clear c9b0
       try clear c9b1
       try clear c14
       try clear c15
       try clear c15b0
       try clear c15b1
       try clear c16
       try clear c16b0
       try clear c16b1
       try clear c18
       try clear q18
       try clear hcz11_0
       try clear hcz11_1
       try clear hcz11_2
       try clear hcz12_0
       try clear hcz12_1
       try clear hcz12_2
       try clear hcz13_0
       try clear hcz13_1
       try clear hcz13_2
       try clear hcz17_0
       try clear hcz17_1
       try clear hcz17_2
       try clear hcz8_0
       try clear hcz8_1
       try clear hcz8_2
       try clear hfz11_0
       try clear hfz11_1
       try clear hfz11_2
       try clear hfz12_0
       try clear hfz12_1
       try clear hfz12_2
       try clear hfz13_0
       try clear hfz13_1
       try clear hfz13_2
       try clear hfz17_0
       try clear hfz17_1
       try clear hfz17_2
       try clear hfz8_0
       try clear hfz8_1
       try clear hfz8_2
       try clear p2
       try clear p6
       try clear q18
       obtain ⟨x43_2, rfl, HA, HK2, BK270, HB⟩ := hrel
       cases gk with
       | zero => exact absurd HA.out (by simp [impl_TableOk.l0])
       | succ k2 =>
        have H := HA.out
        clear HA
        simp only [impl_TableOk.l0] at H
        by_cases c19 : x43_2 < (y274.length : Int)
        ·rw [if_pos c19] at H
         have c19b0 : decide (x43_2 < (y274.length : Int)) = true := decide_eq_true c19
         clear c19
         by_cases c20 : 0 ≤ x43_2
         ·rw [if_pos c20] at H
          have c20b0 : decide (0 ≤ x43_2) = true := decide_eq_true c20
          clear c20
          by_cases c21 : x43_2 < (y274.length : Int)
          ·rw [if_pos c21] at H
           have c21b0 : decide (x43_2 < (y274.length : Int)) = true := decide_eq_true c21
           clear c21
           by_cases c22 : (!((((rd_T57 y274 x43_2).f0).toList) == ([] : List UInt8)) || (!(((rd_T57 y274 x43_2).f1) == (-2)))) = true
           ·rw [if_pos c22] at H
            have c22b0 : (!((((rd_T57 y274 x43_2).f0).toList) == ([] : List UInt8)) || (!(((rd_T57 y274 x43_2).f1) == (-2)))) = true := c22
            have c22b0n : (!((((rd_T57 y274 x43_2).f0).toList).isEmpty) || (!(((rd_T57 y274 x43_2).f1) == (-2)))) = true := by simp at c22b0 ⊢; exact c22b0
            clear c22
            obtain rfl := Option.some.inj H
            have p278 : 0 ≤ (x43_2 : Int) := of_decide_eq_true (by assumption)
            have q278 : x43_2 < (y274.length : Int) := of_decide_eq_true (by assumption)
            obtain ⟨ad278, e278, hx278_0, hx278_1⟩ := at_T57 HR277.out x43_2 p278 q278
            cases e278
            replace hx278_0 := (HB.out.cell (World.block_lt_of_cell? w _ hx278_0)).trans hx278_0
            replace hx278_1 := (HB.out.cell (World.block_lt_of_cell? w _ hx278_1)).trans hx278_1
            replace p278 := eq_true p278
            replace q278 := eq_true q278
            go_wp2_with (first | ((with_reducible refine gate_dst (N := 4) rfl ?_); (try (refine gate_guard (by rfl) ?_; dsimp only)); refine xE (N := 4) (cs := #[.string (⟨#[]⟩ : ByteArray), .int .i64 0]) (t := 57) (h := ?_); intro gb279 hg w23 hbox hb; have n0_ := am (blk_below (xB BK270.out) hb); have n1_ := am (below_step (xW HB.out) hb); have n2_ := am (hbox); have n3_ := am (xS hg HB.out); have n4_ := am (xS hg HB.out); have n5_ := am (xN hg BK270.out); have n6_ := am (xM hg BK270.out); clear BK270; clear HB; have BK270 := n0_; have HB := n1_; have BK279 := n2_; have GW279 := n3_; have GE279 := n4_; have NB270_279 := n5_; have NB279_270 := n6_; clear n0_ n1_ n2_ n3_ n4_ n5_ n6_; clear hb hbox hg; have hnb24 := NB279_270.out; have hnc24 := NB270_279.out; obtain ⟨hcz25_0, hcz25_1, hfz25_0, hfz25_1⟩ := xT2 (W := w23) BK279.out))
            repeat (go_quiet (first | ((with_reducible refine gate_dst (N := 4) rfl ?_); (try (refine gate_guard (by rfl) ?_; dsimp only)); refine xE (N := 4) (cs := #[.string (⟨#[]⟩ : ByteArray), .int .i64 0]) (t := 57) (h := ?_); intro gb279 hg w23 hbox hb; have n0_ := am (blk_below (xB BK270.out) hb); have n1_ := am (below_step (xW HB.out) hb); have n2_ := am (hbox); have n3_ := am (xS hg HB.out); have n4_ := am (xS hg HB.out); have n5_ := am (xN hg BK270.out); have n6_ := am (xM hg BK270.out); clear BK270; clear HB; have BK270 := n0_; have HB := n1_; have BK279 := n2_; have GW279 := n3_; have GE279 := n4_; have NB270_279 := n5_; have NB279_270 := n6_; clear n0_ n1_ n2_ n3_ n4_ n5_ n6_; clear hb hbox hg; have hnb24 := NB279_270.out; have hnc24 := NB270_279.out; obtain ⟨hcz25_0, hcz25_1, hfz25_0, hfz25_1⟩ := xT2 (W := w23) BK279.out)); try go_wp2_with (first | ((with_reducible refine gate_dst (N := 4) rfl ?_); (try (refine gate_guard (by rfl) ?_; dsimp only)); refine xE (N := 4) (cs := #[.string (⟨#[]⟩ : ByteArray), .int .i64 0]) (t := 57) (h := ?_); intro gb279 hg w23 hbox hb; have n0_ := am (blk_below (xB BK270.out) hb); have n1_ := am (below_step (xW HB.out) hb); have n2_ := am (hbox); have n3_ := am (xS hg HB.out); have n4_ := am (xS hg HB.out); have n5_ := am (xN hg BK270.out); have n6_ := am (xM hg BK270.out); clear BK270; clear HB; have BK270 := n0_; have HB := n1_; have BK279 := n2_; have GW279 := n3_; have GE279 := n4_; have NB270_279 := n5_; have NB279_270 := n6_; clear n0_ n1_ n2_ n3_ n4_ n5_ n6_; clear hb hbox hg; have hnb24 := NB279_270.out; have hnc24 := NB270_279.out; obtain ⟨hcz25_0, hcz25_1, hfz25_0, hfz25_1⟩ := xT2 (W := w23) BK279.out)))
            go_ret
            exact ⟨xV, xW HB.out⟩
           ·rw [if_neg c22] at H
            have c22b0 : (!((((rd_T57 y274 x43_2).f0).toList) == ([] : List UInt8)) || (!(((rd_T57 y274 x43_2).f1) == (-2)))) = false := by simpa using c22
            have c22b0n : (!((((rd_T57 y274 x43_2).f0).toList).isEmpty) || (!(((rd_T57 y274 x43_2).f1) == (-2)))) = false := by simp at c22b0 ⊢; exact c22b0
            clear c22
            have H' := am H
            clear H
            have p278 : 0 ≤ (x43_2 : Int) := of_decide_eq_true (by assumption)
            have q278 : x43_2 < (y274.length : Int) := of_decide_eq_true (by assumption)
            obtain ⟨ad278, e278, hx278_0, hx278_1⟩ := at_T57 HR277.out x43_2 p278 q278
            cases e278
            replace hx278_0 := (HB.out.cell (World.block_lt_of_cell? w _ hx278_0)).trans hx278_0
            replace hx278_1 := (HB.out.cell (World.block_lt_of_cell? w _ hx278_1)).trans hx278_1
            replace p278 := eq_true p278
            replace q278 := eq_true q278
            go_wp2_with (first | ((with_reducible refine gate_dst (N := 4) rfl ?_); (try (refine gate_guard (by rfl) ?_; dsimp only)); refine xE (N := 4) (cs := #[.string (⟨#[]⟩ : ByteArray), .int .i64 0]) (t := 57) (h := ?_); intro gb279 hg w26 hbox hb; have n0_ := am (blk_below (xB BK270.out) hb); have n1_ := am (below_step (xW HB.out) hb); have n2_ := am (hbox); have n3_ := am (xS hg HB.out); have n4_ := am (xS hg HB.out); have n5_ := am (xN hg BK270.out); have n6_ := am (xM hg BK270.out); clear BK270; clear HB; have BK270 := n0_; have HB := n1_; have BK279 := n2_; have GW279 := n3_; have GE279 := n4_; have NB270_279 := n5_; have NB279_270 := n6_; clear n0_ n1_ n2_ n3_ n4_ n5_ n6_; clear hb hbox hg; have hnb27 := NB279_270.out; have hnc27 := NB270_279.out; obtain ⟨hcz28_0, hcz28_1, hfz28_0, hfz28_1⟩ := xT2 (W := w26) BK279.out))
            repeat (go_quiet (first | ((with_reducible refine gate_dst (N := 4) rfl ?_); (try (refine gate_guard (by rfl) ?_; dsimp only)); refine xE (N := 4) (cs := #[.string (⟨#[]⟩ : ByteArray), .int .i64 0]) (t := 57) (h := ?_); intro gb279 hg w26 hbox hb; have n0_ := am (blk_below (xB BK270.out) hb); have n1_ := am (below_step (xW HB.out) hb); have n2_ := am (hbox); have n3_ := am (xS hg HB.out); have n4_ := am (xS hg HB.out); have n5_ := am (xN hg BK270.out); have n6_ := am (xM hg BK270.out); clear BK270; clear HB; have BK270 := n0_; have HB := n1_; have BK279 := n2_; have GW279 := n3_; have GE279 := n4_; have NB270_279 := n5_; have NB279_270 := n6_; clear n0_ n1_ n2_ n3_ n4_ n5_ n6_; clear hb hbox hg; have hnb27 := NB279_270.out; have hnc27 := NB270_279.out; obtain ⟨hcz28_0, hcz28_1, hfz28_0, hfz28_1⟩ := xT2 (W := w26) BK279.out)); try go_wp2_with (first | ((with_reducible refine gate_dst (N := 4) rfl ?_); (try (refine gate_guard (by rfl) ?_; dsimp only)); refine xE (N := 4) (cs := #[.string (⟨#[]⟩ : ByteArray), .int .i64 0]) (t := 57) (h := ?_); intro gb279 hg w26 hbox hb; have n0_ := am (blk_below (xB BK270.out) hb); have n1_ := am (below_step (xW HB.out) hb); have n2_ := am (hbox); have n3_ := am (xS hg HB.out); have n4_ := am (xS hg HB.out); have n5_ := am (xN hg BK270.out); have n6_ := am (xM hg BK270.out); clear BK270; clear HB; have BK270 := n0_; have HB := n1_; have BK279 := n2_; have GW279 := n3_; have GE279 := n4_; have NB270_279 := n5_; have NB279_270 := n6_; clear n0_ n1_ n2_ n3_ n4_ n5_ n6_; clear hb hbox hg; have hnb27 := NB279_270.out; have hnc27 := NB270_279.out; obtain ⟨hcz28_0, hcz28_1, hfz28_0, hfz28_1⟩ := xT2 (W := w26) BK279.out)))
            go_roundg k2
            case measure => have := HJ1.out; have := HK2.out; omega
            case rel => exact ⟨(wrap64 (x43_2 + 1)), (xQ), H', ⟨by have := HJ1.out; have := HK2.out; omega⟩, ⟨xB BK270.out⟩, ⟨xW HB.out⟩⟩
          ·rw [if_neg c21] at H
           exact absurd H (by simp)
         ·rw [if_neg c20] at H
          exact absurd H (by simp)
        ·rw [if_neg c19] at H
         have c19b0 : decide (x43_2 < (y274.length : Int)) = false := decide_eq_false c19
         clear c19
         replace H := Option.bind_eq_some_iff.mp H
         obtain ⟨t280, A290, H⟩ := H
         replace H : (impl_TableOk.l1 k2 t280 1 l0_0 l0_1 a0_2) = some r := H
         have A29 := am A290
         clear A290
         have H' := am H
         clear H
         obtain ⟨hcz30_0, hcz30_1, hcz30_2, hfz30_0, hfz30_1, hfz30_2⟩ := xT3 (W := wr) BK270.out
         go_wp2_with (first | (go_at_call 53; (with_reducible refine (impl_Table_keys.calls k2 (fun k_ => k_ < w.heap.size) _ _ l0_0 (fun k_ => k_ < w.heap.size) _ _ l0_1 a0_2 t280 _ ?side1 ?side2 A29.out).mono ?_); (case side1 => exact Kd.V_mk HC0_0.out (Kd.F_below (Kd.C_F k57_heap HR0_0.out) (xW HB.out))); (case side2 => exact Kd.V_mk HC0_1.out (Kd.F_below (Kd.C_F k57_heap HR0_1.out) (xW HB.out))); rintro e w31 ⟨v281, rfl, ho0, hb⟩; have n0_ := am (Kd.R_lower (Kd.R_mono (ok' := fun k_ => True) ho0 (fun _ hk_ => trivial)) (below_size (xW HB.out))); have n1_ := am (blk_below (xB BK270.out) hb); have n2_ := am (below_step (xW HB.out) hb); clear BK270; clear HB; have HO282 := n0_; have BK270 := n1_; have HB := n2_; clear n0_ n1_ n2_; (try clear hb); (try clear hb2); (try clear hk); (try clear hi); (try clear ho0)))
         repeat (go_quiet (first | (go_at_call 53; (with_reducible refine (impl_Table_keys.calls k2 (fun k_ => k_ < w.heap.size) _ _ l0_0 (fun k_ => k_ < w.heap.size) _ _ l0_1 a0_2 t280 _ ?side1 ?side2 A29.out).mono ?_); (case side1 => exact Kd.V_mk HC0_0.out (Kd.F_below (Kd.C_F k57_heap HR0_0.out) (xW HB.out))); (case side2 => exact Kd.V_mk HC0_1.out (Kd.F_below (Kd.C_F k57_heap HR0_1.out) (xW HB.out))); rintro e w31 ⟨v281, rfl, ho0, hb⟩; have n0_ := am (Kd.R_lower (Kd.R_mono (ok' := fun k_ => True) ho0 (fun _ hk_ => trivial)) (below_size (xW HB.out))); have n1_ := am (blk_below (xB BK270.out) hb); have n2_ := am (below_step (xW HB.out) hb); clear BK270; clear HB; have HO282 := n0_; have BK270 := n1_; have HB := n2_; clear n0_ n1_ n2_; (try clear hb); (try clear hb2); (try clear hk); (try clear hi); (try clear ho0))); try go_wp2_with (first | (go_at_call 53; (with_reducible refine (impl_Table_keys.calls k2 (fun k_ => k_ < w.heap.size) _ _ l0_0 (fun k_ => k_ < w.heap.size) _ _ l0_1 a0_2 t280 _ ?side1 ?side2 A29.out).mono ?_); (case side1 => exact Kd.V_mk HC0_0.out (Kd.F_below (Kd.C_F k57_heap HR0_0.out) (xW HB.out))); (case side2 => exact Kd.V_mk HC0_1.out (Kd.F_below (Kd.C_F k57_heap HR0_1.out) (xW HB.out))); rintro e w31 ⟨v281, rfl, ho0, hb⟩; have n0_ := am (Kd.R_lower (Kd.R_mono (ok' := fun k_ => True) ho0 (fun _ hk_ => trivial)) (below_size (xW HB.out))); have n1_ := am (blk_below (xB BK270.out) hb); have n2_ := am (below_step (xW HB.out) hb); clear BK270; clear HB; have HO282 := n0_; have BK270 := n1_; have HB := n2_; clear n0_ n1_ n2_; (try clear hb); (try clear hb2); (try clear hk); (try clear hi); (try clear ho0))))
         go_loopg [6] k2 (fun kq v6 w' => ∃ (x6_3 : Int), v6 = .int .i64 x6_3 ∧ Aside0 (impl_TableOk.l1 kq t280 x6_3 l0_0 l0_1 a0_2 = some r) ∧ Aside0 (kq ≤ k2) ∧ Aside0 (Kd.R Kd.string 9 w' w.heap.size (fun _ => True) v281 t280) ∧ Aside0 (w'.heap[gb270]? = some (.cells #[(.slice A0_0 l0_0.length c0_0), (.slice A0_1 l0_1.length c0_1), .int .i64 a0_2] 26 (0, 0))) ∧ Aside0 (Below w.heap.size w w'))
         case atStart => exact ⟨(1), (xQ), H', ⟨Nat.le_refl _⟩, ⟨xR HO282.out⟩, ⟨xB BK270.out⟩, ⟨xW HB.out⟩⟩
         case round =>
          clear H'
          try clear c1
          try clear q1
          try clear c2
          try clear p2
          try clear q2
          try clear hx2
          try clear c5
          try clear c6
          try clear c6b0
          try clear c6b1
          try clear c6b2
          try clear p6
          try clear c9
          try clear c9b0
          try clear c9b1
          try clear c14
          try clear c15
          try clear c15b0
          try clear c15b1
          try clear c16
          try clear c16b0
          try clear c16b1
          try clear c18
          try clear q18
          try clear c19
          try clear c19b0
          try clear c20
          try clear c20b0
          try clear c21
          try clear c21b0
          try clear c22
          try clear c22b0
          try clear c24
          try clear c27
          try clear p27
          try clear q27
          try clear hx27
          try clear hcz11_0
          try clear hcz11_1
          try clear hcz11_2
          try clear hcz12_0
          try clear hcz12_1
          try clear hcz12_2
          try clear hcz13_0
          try clear hcz13_1
          try clear hcz13_2
          try clear hcz17_0
          try clear hcz17_1
          try clear hcz17_2
          try clear hcz25_0
          try clear hcz25_1
          try clear hcz28_0
          try clear hcz28_1
          try clear hcz30_0
          try clear hcz30_1
          try clear hcz30_2
          try clear hcz8_0
          try clear hcz8_1
          try clear hcz8_2
          try clear hfz11_0
          try clear hfz11_1
          try clear hfz11_2
          try clear hfz12_0
          try clear hfz12_1
          try clear hfz12_2
          try clear hfz13_0
          try clear hfz13_1
          try clear hfz13_2
          try clear hfz17_0
          try clear hfz17_1
          try clear hfz17_2
          try clear hfz25_0
          try clear hfz25_1
          try clear hfz28_0
          try clear hfz28_1
          try clear hfz30_0
          try clear hfz30_1
          try clear hfz30_2
          try clear hfz8_0
          try clear hfz8_1
          try clear hfz8_2
          try clear hx278_0
          try clear hx278_1
          try clear p2
          try clear p278
          try clear p6
          try clear q1
          try clear q18
          try clear q278
          obtain ⟨x6_3, rfl, HA, HK3, HO_5, BK270, HB⟩ := hrel
          cases gk with
          | zero => exact absurd HA.out (by simp [impl_TableOk.l1])
          | succ k3 =>
           have H := HA.out
           clear HA
           simp only [impl_TableOk.l1] at H
           by_cases c32 : x6_3 < (t280.length : Int)
           ·rw [if_pos c32] at H
            have c32b0 : decide (x6_3 < (t280.length : Int)) = true := decide_eq_true c32
            clear c32
            by_cases c33 : 0 ≤ x6_3
            ·rw [if_pos c33] at H
             have c33b0 : decide (0 ≤ x6_3) = true := decide_eq_true c33
             clear c33
             obtain ⟨ji34, hji34⟩ : ∃ j_ : Int, (wrap64 (x6_3 - 1)) = j_ := ⟨_, rfl⟩
             replace H : (if 0 ≤ (ji34) then (if (ji34) < (t280.length : Int) then (if (rdOf ByteArray.empty t280 x6_3).toList = (rdOf ByteArray.empty t280 (ji34)).toList then (some false) else (impl_TableOk.l1 k3 t280 (wrap64 (x6_3 + 1)) l0_0 l0_1 a0_2)) else (none)) else (none)) = some r := by first | (rw [hji34] at H; exact H) | (simp only [hji34] at H ⊢; exact H)
             have hji34w : (IntKind.i64.wrap (x6_3 - 1)) = ji34 := (i64_w _).trans hji34
             by_cases c35 : 0 ≤ (ji34)
             ·rw [if_pos c35] at H
              have c35b0 : decide (0 ≤ (ji34)) = true := decide_eq_true c35
              clear c35
              by_cases c36 : (ji34) < (t280.length : Int)
              ·rw [if_pos c36] at H
               have c36b0 : decide ((ji34) < (t280.length : Int)) = true := decide_eq_true c36
               clear c36
               by_cases c37 : (rdOf ByteArray.empty t280 x6_3).toList = (rdOf ByteArray.empty t280 (ji34)).toList
               ·rw [if_pos c37] at H
                have c37b0 : ((rdOf ByteArray.empty t280 x6_3).toList == (rdOf ByteArray.empty t280 (ji34)).toList) = true := beq_iff_eq.mpr c37
                have c37b1 : ((rdOf ByteArray.empty t280 x6_3).toList != (rdOf ByteArray.empty t280 (ji34)).toList) = false := bne_eq_false_iff_eq.mpr c37
                clear c37
                obtain rfl := Option.some.inj H
                obtain ⟨Ao38, co38, eo38⟩ := Kd.R_slice HO_5.out
                subst eo38
                have p283 : 0 ≤ (x6_3 : Int) := of_decide_eq_true (by assumption)
                have q283 : x6_3 < (t280.length : Int) := of_decide_eq_true (by assumption)
                obtain ⟨ad283, e283, hx283_0⟩ := Kd.at_string (Kd.R_reads' HO_5.out).2.2 x6_3 p283 q283
                cases e283
                replace p283 := eq_true p283
                replace q283 := eq_true q283
                have p284 : 0 ≤ ((ji34) : Int) := of_decide_eq_true (by assumption)
                have q284 : (ji34) < (t280.length : Int) := of_decide_eq_true (by assumption)
                obtain ⟨ad284, e284, hx284_0⟩ := Kd.at_string (Kd.R_reads' HO_5.out).2.2 (ji34) p284 q284
                obtain rfl : ad283 = ad284 := (by injection e284)
                replace p284 := eq_true p284
                replace q284 := eq_true q284
                go_wp2
                repeat (go_quiet (fail); try go_wp2)
                go_ret
                exact ⟨by first | rfl | (simp [errW_none, errW_some] <;> rfl) | (simp only [← hji34]; first | rfl | (simp [errW_none, errW_some] <;> rfl)) | (simp [*, errW_none, errW_some] <;> rfl), xW HB.out⟩
               ·rw [if_neg c37] at H
                have c37b0 : ((rdOf ByteArray.empty t280 x6_3).toList == (rdOf ByteArray.empty t280 (ji34)).toList) = false := beq_eq_false_iff_ne.mpr c37
                have c37b1 : ((rdOf ByteArray.empty t280 x6_3).toList != (rdOf ByteArray.empty t280 (ji34)).toList) = true := bne_iff_ne.mpr c37
                have H' := am H
                clear H
                obtain ⟨Ao39, co39, eo39⟩ := Kd.R_slice HO_5.out
                subst eo39
                have p283 : 0 ≤ (x6_3 : Int) := of_decide_eq_true (by assumption)
                have q283 : x6_3 < (t280.length : Int) := of_decide_eq_true (by assumption)
                obtain ⟨ad283, e283, hx283_0⟩ := Kd.at_string (Kd.R_reads' HO_5.out).2.2 x6_3 p283 q283
                cases e283
                replace p283 := eq_true p283
                replace q283 := eq_true q283
                have p284 : 0 ≤ ((ji34) : Int) := of_decide_eq_true (by assumption)
                have q284 : (ji34) < (t280.length : Int) := of_decide_eq_true (by assumption)
                obtain ⟨ad284, e284, hx284_0⟩ := Kd.at_string (Kd.R_reads' HO_5.out).2.2 (ji34) p284 q284
                obtain rfl : ad283 = ad284 := (by injection e284)
                replace p284 := eq_true p284
                replace q284 := eq_true q284
                go_wp2
                repeat (go_quiet (fail); try go_wp2)
                go_roundg k3
                case measure => have := HJ1.out; have := HK2.out; have := HK3.out; omega
                case rel => exact ⟨(wrap64 (x6_3 + 1)), (xQ), H', ⟨by have := HJ1.out; have := HK2.out; have := HK3.out; omega⟩, ⟨xR HO_5.out⟩, ⟨xB BK270.out⟩, ⟨xW HB.out⟩⟩
              ·rw [if_neg c36] at H
               exact absurd H (by simp)
             ·rw [if_neg c35] at H
              exact absurd H (by simp)
            ·rw [if_neg c33] at H
             exact absurd H (by simp)
           ·rw [if_neg c32] at H
            have c32b0 : decide (x6_3 < (t280.length : Int)) = false := decide_eq_false c32
            clear c32
            replace H := Option.bind_eq_some_iff.mp H
            obtain ⟨t285, A400, H⟩ := H
            replace H : (if t285 = true then ((impl_cellsOk.f k3 l0_1).bind fun t286 => (if t286 = true then ((impl_nones.f k3 l0_0).bind fun t287 => (some (decide (t287 > 0)))) else (some false))) else (some false)) = some r := H
            have A40 := am A400
            clear A400
            by_cases c41 : t285 = true
            ·subst c41
             have H1 : ((impl_cellsOk.f k3 l0_1).bind fun t286 => (if t286 = true then ((impl_nones.f k3 l0_0).bind fun t287 => (some (decide (t287 > 0)))) else (some false))) = some r := by rw [if_pos rfl] at H; exact H
             clear H
             have H := H1
             clear H1
             replace H := Option.bind_eq_some_iff.mp H
             obtain ⟨t286, A420, H⟩ := H
             replace H : (if t286 = true then ((impl_nones.f k3 l0_0).bind fun t287 => (some (decide (t287 > 0)))) else (some false)) = some r := H
             have A42 := am A420
             clear A420
             by_cases c43 : t286 = true
             ·subst c43
              have H1 : ((impl_nones.f k3 l0_0).bind fun t287 => (some (decide (t287 > 0)))) = some r := by rw [if_pos rfl] at H; exact H
              clear H
              have H := H1
              clear H1
              replace H := Option.bind_eq_some_iff.mp H
              obtain ⟨t287, A440, H⟩ := H
              replace H : (some (decide (t287 > 0))) = some r := H
              have A44 := am A440
              clear A440
              obtain rfl := Option.some.inj H
              obtain ⟨Ao45, co45, eo45⟩ := Kd.R_slice HO_5.out
              subst eo45
              obtain ⟨hcz46_0, hcz46_1, hcz46_2, hfz46_0, hfz46_1, hfz46_2⟩ := xT3 (W := wr) BK270.out
              go_wp2_with (first | (go_at_call 54; (with_reducible refine (impl_cellsOk.calls k3 _ _ l0_0 true _ ?side1 ?side2 A40.out).mono ?_); (case side1 => exact xC (Kd.C_below HR0_0.out HB.out)); (case side2 => exact HC0_0.out); rintro e w47 ⟨rfl, hb⟩; have n0_ := am (Kd.R_below (xR HO_5.out) hb); have n1_ := am (blk_below (xB BK270.out) hb); have n2_ := am (below_step (xW HB.out) hb); clear HO_5; clear BK270; clear HB; have HO_5 := n0_; have BK270 := n1_; have HB := n2_; clear n0_ n1_ n2_; (try clear hb); (try clear hb2); (try clear hk); (try clear hi); obtain ⟨hcz48_0, hcz48_1, hcz48_2, hfz48_0, hfz48_1, hfz48_2⟩ := xT3 (W := w47) BK270.out) | (go_at_call 54; (with_reducible refine (impl_cellsOk.calls k3 _ _ l0_1 true _ ?side1 ?side2 A42.out).mono ?_); (case side1 => exact xC (Kd.C_below HR0_1.out HB.out)); (case side2 => exact HC0_1.out); rintro e w49 ⟨rfl, hb⟩; have n0_ := am (Kd.R_below (xR HO_5.out) hb); have n1_ := am (blk_below (xB BK270.out) hb); have n2_ := am (below_step (xW HB.out) hb); clear HO_5; clear BK270; clear HB; have HO_5 := n0_; have BK270 := n1_; have HB := n2_; clear n0_ n1_ n2_; (try clear hb); (try clear hb2); (try clear hk); (try clear hi); obtain ⟨hcz50_0, hcz50_1, hcz50_2, hfz50_0, hfz50_1, hfz50_2⟩ := xT3 (W := w49) BK270.out) | (go_at_call 55; (with_reducible refine (impl_nones.calls k3 _ _ l0_0 t287 _ ?side1 ?side2 A44.out).mono ?_); (case side1 => exact xC (Kd.C_below HR0_0.out HB.out)); (case side2 => exact HC0_0.out); rintro e w51 ⟨rfl, hb⟩; have n0_ := am (Kd.R_below (xR HO_5.out) hb); have n1_ := am (blk_below (xB BK270.out) hb); have n2_ := am (below_step (xW HB.out) hb); clear HO_5; clear BK270; clear HB; have HO_5 := n0_; have BK270 := n1_; have HB := n2_; clear n0_ n1_ n2_; (try clear hb); (try clear hb2); (try clear hk); (try clear hi)))
              repeat (go_quiet (first | (go_at_call 54; (with_reducible refine (impl_cellsOk.calls k3 _ _ l0_0 true _ ?side1 ?side2 A40.out).mono ?_); (case side1 => exact xC (Kd.C_below HR0_0.out HB.out)); (case side2 => exact HC0_0.out); rintro e w47 ⟨rfl, hb⟩; have n0_ := am (Kd.R_below (xR HO_5.out) hb); have n1_ := am (blk_below (xB BK270.out) hb); have n2_ := am (below_step (xW HB.out) hb); clear HO_5; clear BK270; clear HB; have HO_5 := n0_; have BK270 := n1_; have HB := n2_; clear n0_ n1_ n2_; (try clear hb); (try clear hb2); (try clear hk); (try clear hi); obtain ⟨hcz48_0, hcz48_1, hcz48_2, hfz48_0, hfz48_1, hfz48_2⟩ := xT3 (W := w47) BK270.out) | (go_at_call 54; (with_reducible refine (impl_cellsOk.calls k3 _ _ l0_1 true _ ?side1 ?side2 A42.out).mono ?_); (case side1 => exact xC (Kd.C_below HR0_1.out HB.out)); (case side2 => exact HC0_1.out); rintro e w49 ⟨rfl, hb⟩; have n0_ := am (Kd.R_below (xR HO_5.out) hb); have n1_ := am (blk_below (xB BK270.out) hb); have n2_ := am (below_step (xW HB.out) hb); clear HO_5; clear BK270; clear HB; have HO_5 := n0_; have BK270 := n1_; have HB := n2_; clear n0_ n1_ n2_; (try clear hb); (try clear hb2); (try clear hk); (try clear hi); obtain ⟨hcz50_0, hcz50_1, hcz50_2, hfz50_0, hfz50_1, hfz50_2⟩ := xT3 (W := w49) BK270.out) | (go_at_call 55; (with_reducible refine (impl_nones.calls k3 _ _ l0_0 t287 _ ?side1 ?side2 A44.out).mono ?_); (case side1 => exact xC (Kd.C_below HR0_0.out HB.out)); (case side2 => exact HC0_0.out); rintro e w51 ⟨rfl, hb⟩; have n0_ := am (Kd.R_below (xR HO_5.out) hb); have n1_ := am (blk_below (xB BK270.out) hb); have n2_ := am (below_step (xW HB.out) hb); clear HO_5; clear BK270; clear HB; have HO_5 := n0_; have BK270 := n1_; have HB := n2_; clear n0_ n1_ n2_; (try clear hb); (try clear hb2); (try clear hk); (try clear hi))); try go_wp2_with (first | (go_at_call 54; (with_reducible refine (impl_cellsOk.calls k3 _ _ l0_0 true _ ?side1 ?side2 A40.out).mono ?_); (case side1 => exact xC (Kd.C_below HR0_0.out HB.out)); (case side2 => exact HC0_0.out); rintro e w47 ⟨rfl, hb⟩; have n0_ := am (Kd.R_below (xR HO_5.out) hb); have n1_ := am (blk_below (xB BK270.out) hb); have n2_ := am (below_step (xW HB.out) hb); clear HO_5; clear BK270; clear HB; have HO_5 := n0_; have BK270 := n1_; have HB := n2_; clear n0_ n1_ n2_; (try clear hb); (try clear hb2); (try clear hk); (try clear hi); obtain ⟨hcz48_0, hcz48_1, hcz48_2, hfz48_0, hfz48_1, hfz48_2⟩ := xT3 (W := w47) BK270.out) | (go_at_call 54; (with_reducible refine (impl_cellsOk.calls k3 _ _ l0_1 true _ ?side1 ?side2 A42.out).mono ?_); (case side1 => exact xC (Kd.C_below HR0_1.out HB.out)); (case side2 => exact HC0_1.out); rintro e w49 ⟨rfl, hb⟩; have n0_ := am (Kd.R_below (xR HO_5.out) hb); have n1_ := am (blk_below (xB BK270.out) hb); have n2_ := am (below_step (xW HB.out) hb); clear HO_5; clear BK270; clear HB; have HO_5 := n0_; have BK270 := n1_; have HB := n2_; clear n0_ n1_ n2_; (try clear hb); (try clear hb2); (try clear hk); (try clear hi); obtain ⟨hcz50_0, hcz50_1, hcz50_2, hfz50_0, hfz50_1, hfz50_2⟩ := xT3 (W := w49) BK270.out) | (go_at_call 55; (with_reducible refine (impl_nones.calls k3 _ _ l0_0 t287 _ ?side1 ?side2 A44.out).mono ?_); (case side1 => exact xC (Kd.C_below HR0_0.out HB.out)); (case side2 => exact HC0_0.out); rintro e w51 ⟨rfl, hb⟩; have n0_ := am (Kd.R_below (xR HO_5.out) hb); have n1_ := am (blk_below (xB BK270.out) hb); have n2_ := am (below_step (xW HB.out) hb); clear HO_5; clear BK270; clear HB; have HO_5 := n0_; have BK270 := n1_; have HB := n2_; clear n0_ n1_ n2_; (try clear hb); (try clear hb2); (try clear hk); (try clear hi))))
              go_ret
              exact ⟨xV, xW HB.out⟩
             ·replace c43 := Bool.eq_false_iff.mpr c43
              subst c43
              have H1 : (some false) = some r := by rw [if_neg (show ¬ (false = true) by decide)] at H; exact H
              clear H
              have H := H1
              clear H1
              obtain rfl := Option.some.inj H
              obtain ⟨Ao52, co52, eo52⟩ := Kd.R_slice HO_5.out
              subst eo52
              obtain ⟨hcz53_0, hcz53_1, hcz53_2, hfz53_0, hfz53_1, hfz53_2⟩ := xT3 (W := wr) BK270.out
              go_wp2_with (first | (go_at_call 54; (with_reducible refine (impl_cellsOk.calls k3 _ _ l0_0 true _ ?side1 ?side2 A40.out).mono ?_); (case side1 => exact xC (Kd.C_below HR0_0.out HB.out)); (case side2 => exact HC0_0.out); rintro e w54 ⟨rfl, hb⟩; have n0_ := am (Kd.R_below (xR HO_5.out) hb); have n1_ := am (blk_below (xB BK270.out) hb); have n2_ := am (below_step (xW HB.out) hb); clear HO_5; clear BK270; clear HB; have HO_5 := n0_; have BK270 := n1_; have HB := n2_; clear n0_ n1_ n2_; (try clear hb); (try clear hb2); (try clear hk); (try clear hi); obtain ⟨hcz55_0, hcz55_1, hcz55_2, hfz55_0, hfz55_1, hfz55_2⟩ := xT3 (W := w54) BK270.out) | (go_at_call 54; (with_reducible refine (impl_cellsOk.calls k3 _ _ l0_1 false _ ?side1 ?side2 A42.out).mono ?_); (case side1 => exact xC (Kd.C_below HR0_1.out HB.out)); (case side2 => exact HC0_1.out); rintro e w56 ⟨rfl, hb⟩; have n0_ := am (Kd.R_below (xR HO_5.out) hb); have n1_ := am (blk_below (xB BK270.out) hb); have n2_ := am (below_step (xW HB.out) hb); clear HO_5; clear BK270; clear HB; have HO_5 := n0_; have BK270 := n1_; have HB := n2_; clear n0_ n1_ n2_; (try clear hb); (try clear hb2); (try clear hk); (try clear hi)))
              repeat (go_quiet (first | (go_at_call 54; (with_reducible refine (impl_cellsOk.calls k3 _ _ l0_0 true _ ?side1 ?side2 A40.out).mono ?_); (case side1 => exact xC (Kd.C_below HR0_0.out HB.out)); (case side2 => exact HC0_0.out); rintro e w54 ⟨rfl, hb⟩; have n0_ := am (Kd.R_below (xR HO_5.out) hb); have n1_ := am (blk_below (xB BK270.out) hb); have n2_ := am (below_step (xW HB.out) hb); clear HO_5; clear BK270; clear HB; have HO_5 := n0_; have BK270 := n1_; have HB := n2_; clear n0_ n1_ n2_; (try clear hb); (try clear hb2); (try clear hk); (try clear hi); obtain ⟨hcz55_0, hcz55_1, hcz55_2, hfz55_0, hfz55_1, hfz55_2⟩ := xT3 (W := w54) BK270.out) | (go_at_call 54; (with_reducible refine (impl_cellsOk.calls k3 _ _ l0_1 false _ ?side1 ?side2 A42.out).mono ?_); (case side1 => exact xC (Kd.C_below HR0_1.out HB.out)); (case side2 => exact HC0_1.out); rintro e w56 ⟨rfl, hb⟩; have n0_ := am (Kd.R_below (xR HO_5.out) hb); have n1_ := am (blk_below (xB BK270.out) hb); have n2_ := am (below_step (xW HB.out) hb); clear HO_5; clear BK270; clear HB; have HO_5 := n0_; have BK270 := n1_; have HB := n2_; clear n0_ n1_ n2_; (try clear hb); (try clear hb2); (try clear hk); (try clear hi))); try go_wp2_with (first | (go_at_call 54; (with_reducible refine (impl_cellsOk.calls k3 _ _ l0_0 true _ ?side1 ?side2 A40.out).mono ?_); (case side1 => exact xC (Kd.C_below HR0_0.out HB.out)); (case side2 => exact HC0_0.out); rintro e w54 ⟨rfl, hb⟩; have n0_ := am (Kd.R_below (xR HO_5.out) hb); have n1_ := am (blk_below (xB BK270.out) hb); have n2_ := am (below_step (xW HB.out) hb); clear HO_5; clear BK270; clear HB; have HO_5 := n0_; have BK270 := n1_; have HB := n2_; clear n0_ n1_ n2_; (try clear hb); (try clear hb2); (try clear hk); (try clear hi); obtain ⟨hcz55_0, hcz55_1, hcz55_2, hfz55_0, hfz55_1, hfz55_2⟩ := xT3 (W := w54) BK270.out) | (go_at_call 54; (with_reducible refine (impl_cellsOk.calls k3 _ _ l0_1 false _ ?side1 ?side2 A42.out).mono ?_); (case side1 => exact xC (Kd.C_below HR0_1.out HB.out)); (case side2 => exact HC0_1.out); rintro e w56 ⟨rfl, hb⟩; have n0_ := am (Kd.R_below (xR HO_5.out) hb); have n1_ := am (blk_below (xB BK270.out) hb); have n2_ := am (below_step (xW HB.out) hb); clear HO_5; clear BK270; clear HB; have HO_5 := n0_; have BK270 := n1_; have HB := n2_; clear n0_ n1_ n2_; (try clear hb); (try clear hb2); (try clear hk); (try clear hi))))
              go_ret
              exact ⟨xV, xW HB.out⟩
            ·replace c41 := Bool.eq_false_iff.mpr c41
             subst c41
             have H1 : (some false) = some r := by rw [if_neg (show ¬ (false = true) by decide)] at H; exact H
             clear H
             have H := H1
             clear H1
             obtain rfl := Option.some.inj H
             obtain ⟨Ao57, co57, eo57⟩ := Kd.R_slice HO_5.out
             subst eo57
             obtain ⟨hcz58_0, hcz58_1, hcz58_2, hfz58_0, hfz58_1, hfz58_2⟩ := xT3 (W := wr) BK270.out
             go_wp2_with (first | (go_at_call 54; (with_reducible refine (impl_cellsOk.calls k3 _ _ l0_0 false _ ?side1 ?side2 A40.out).mono ?_); (case side1 => exact xC (Kd.C_below HR0_0.out HB.out)); (case side2 => exact HC0_0.out); rintro e w59 ⟨rfl, hb⟩; have n0_ := am (Kd.R_below (xR HO_5.out) hb); have n1_ := am (blk_below (xB BK270.out) hb); have n2_ := am (below_step (xW HB.out) hb); clear HO_5; clear BK270; clear HB; have HO_5 := n0_; have BK270 := n1_; have HB := n2_; clear n0_ n1_ n2_; (try clear hb); (try clear hb2); (try clear hk); (try clear hi)))
             repeat (go_quiet (first | (go_at_call 54; (with_reducible refine (impl_cellsOk.calls k3 _ _ l0_0 false _ ?side1 ?side2 A40.out).mono ?_); (case side1 => exact xC (Kd.C_below HR0_0.out HB.out)); (case side2 => exact HC0_0.out); rintro e w59 ⟨rfl, hb⟩; have n0_ := am (Kd.R_below (xR HO_5.out) hb); have n1_ := am (blk_below (xB BK270.out) hb); have n2_ := am (below_step (xW HB.out) hb); clear HO_5; clear BK270; clear HB; have HO_5 := n0_; have BK270 := n1_; have HB := n2_; clear n0_ n1_ n2_; (try clear hb); (try clear hb2); (try clear hk); (try clear hi))); try go_wp2_with (first | (go_at_call 54; (with_reducible refine (impl_cellsOk.calls k3 _ _ l0_0 false _ ?side1 ?side2 A40.out).mono ?_); (case side1 => exact xC (Kd.C_below HR0_0.out HB.out)); (case side2 => exact HC0_0.out); rintro e w59 ⟨rfl, hb⟩; have n0_ := am (Kd.R_below (xR HO_5.out) hb); have n1_ := am (blk_below (xB BK270.out) hb); have n2_ := am (below_step (xW HB.out) hb); clear HO_5; clear BK270; clear HB; have HO_5 := n0_; have BK270 := n1_; have HB := n2_; clear n0_ n1_ n2_; (try clear hb); (try clear hb2); (try clear hk); (try clear hi))))
             go_ret
             exact ⟨xV, xW HB.out⟩
     ·rw [if_neg c16] at H
      exact absurd H (by simp)
    ·rw [if_neg c15] at H
     exact absurd H (by simp)
end Go.Proofs.Ytmahoekbedgbcaa.HFnExactCleanTable
