/- What the row of the law needs of the printed and the plain texts. -/
import Derived.Test.YtmahoekbedgbcaaZfHX
import Derived.Test.YtmahoekbedgbcaaZfHFnGrowsx0
import Derived.Test.YtmahoekbedgbcaaZfHFnGrowsx1
import Derived.Test.YtmahoekbedgbcaaZfHFnGrowsx10
import Derived.Test.YtmahoekbedgbcaaZfHFnGrowsx11
namespace Go.Proofs.Ytmahoekbedgbcaa.HFnGrows
open Go.RowKit Go.Proofs.YtmahoekbedgbcaaW.PrintWords Go.Proofs.YtmahoekbedgbcaaW.PrintLast Go.Proofs.YtmahoekbedgbcaaW.PrintMore
attribute [local go_sem] max2_int min2_int max_two min_two max_three min_three max_four min_four
set_option linter.unusedVariables false
set_option linter.unusedSimpArgs false
attribute [local go_sem high] eqA57
mutual
def impl_TableOk.j0 : Nat → Bool → List (S57) → List (S57) → Int → Option (Bool)
 | 0, _, _, _, _ => none
 | k + 1, x36, x371000, x371001, x371002 => if x36 = true then (some false) else (if 0 ≤ x371002 then (if x371002 ≤ (x371001.length : Int) then ((some (x371001.take (x371002 : Int).toNat : List (S57))).bind fun y374 => (impl_TableOk.l0 k y374 (y374.length : Int) 0 x371000 x371001 x371002)) else (none)) else (none))
def impl_TableOk.l0 : Nat → List (S57) → Int → Int → List (S57) → List (S57) → Int → Option (Bool)
 | 0, _, _, _, _, _, _ => none
 | k + 1, x41, x42, x43, x371000, x371001, x371002 => if x43 < x42 then (if 0 ≤ x43 then (if x43 < (x41.length : Int) then (if (!((((rd_T57 x41 x43).f0).toList) == ([] : List UInt8)) || (!(((rd_T57 x41 x43).f1) == (-2)))) = true then (some false) else (impl_TableOk.l0 k x41 x42 (wrap64 (x43 + 1)) x371000 x371001 x371002)) else (none)) else (none)) else ((impl_Table_keys.f k x371000 x371001 x371002).bind fun t380 => (impl_TableOk.l1 k t380 1 x371000 x371001 x371002))
def impl_TableOk.l1 : Nat → List ByteArray → Int → List (S57) → List (S57) → Int → Option (Bool)
 | 0, _, _, _, _, _ => none
 | k + 1, x5, x6, x371000, x371001, x371002 => if x6 < (x5.length : Int) then (if 0 ≤ x6 then (if 0 ≤ (wrap64 (x6 - 1)) then (if (wrap64 (x6 - 1)) < (x5.length : Int) then (if (rdOf ByteArray.empty x5 x6).toList = (rdOf ByteArray.empty x5 (wrap64 (x6 - 1))).toList then (some false) else (impl_TableOk.l1 k x5 (wrap64 (x6 + 1)) x371000 x371001 x371002)) else (none)) else (none)) else (none)) else ((impl_cellsOk.f k x371000).bind fun t385 => (if t385 = true then ((impl_cellsOk.f k x371001).bind fun t386 => (if t386 = true then ((impl_nones.f k x371000).bind fun t387 => (some (decide (t387 > 0)))) else (some false))) else (some false)))
end
def impl_TableOk.f (k : Nat) (l0_0 : List (S57)) (l0_1 : List (S57)) (a0_2 : Int) : Option (Bool) := (impl_isSize.f (l0_0.length : Int)).bind fun t371 => (if t371 = true then (if (l0_1.length : Int) = 0 then ((impl_inRange.f a0_2 0 (l0_1.length : Int)).bind fun t372 => (impl_TableOk.j0 k (!t372) l0_0 l0_1 a0_2)) else (if (wrap64 (2 * (l0_1.length : Int))) = (l0_0.length : Int) then ((impl_inRange.f a0_2 0 (l0_1.length : Int)).bind fun t373 => (impl_TableOk.j0 k (!t373) l0_0 l0_1 a0_2)) else (impl_TableOk.j0 k true l0_0 l0_1 a0_2))) else (impl_TableOk.j0 k true l0_0 l0_1 a0_2))
set_option maxHeartbeats 8000000 in
set_option maxRecDepth 100000 in
theorem impl_TableOk.calls (k : Nat) (A0_0 : Option Addr) (c0_0 : Nat) (l0_0 : List (S57)) (A0_1 : Option Addr) (c0_1 : Nat) (l0_1 : List (S57)) (a0_2 : Int) (r : Bool) (w : World) (hr0_0 : Kd.C k57 w A0_0 l0_0.length l0_0) (hc0_0 : l0_0.length ≤ c0_0) (hr0_1 : Kd.C k57 w A0_1 l0_1.length l0_1) (hc0_1 : l0_1.length ≤ c0_1) (h : impl_TableOk.f k l0_0 l0_1 a0_2 = some r) :
  Calls Try.prog 18 #[.agg #[.slice A0_0 l0_0.length c0_0, .slice A0_1 l0_1.length c0_1, .int .i64 a0_2]] w fun e w' => e = .returned (.bool r) ∧ Below w.heap.size w w' := by
 have hu26 := Try.underlying26
 have hu57 := Try.underlying57
 have HR0_0 := am hr0_0
 have HC0_0 := am hc0_0
 clear hr0_0 hc0_0
 have HR0_1 := am hr0_1
 have HC0_1 := am hc0_1
 clear hr0_1 hc0_1
 have HB := am (Below.refl w.heap.size w)
 have H : ((impl_isSize.f (l0_0.length : Int)).bind fun t371 => (if t371 = true then (if (l0_1.length : Int) = 0 then ((impl_inRange.f a0_2 0 (l0_1.length : Int)).bind fun t372 => (impl_TableOk.j0 k (!t372) l0_0 l0_1 a0_2)) else (if (wrap64 (2 * (l0_1.length : Int))) = (l0_0.length : Int) then ((impl_inRange.f a0_2 0 (l0_1.length : Int)).bind fun t373 => (impl_TableOk.j0 k (!t373) l0_0 l0_1 a0_2)) else (impl_TableOk.j0 k true l0_0 l0_1 a0_2))) else (impl_TableOk.j0 k true l0_0 l0_1 a0_2))) = some r := h
 clear h
 have HC2 := am H
 clear H
 go_enter Try.func18, Try.ntmps18
 go_upto_region 1 with (first | ((with_reducible refine gate_dst (N := 1) rfl ?_); (try (refine gate_guard (by rfl) ?_; dsimp only)); refine xE (N := 1) (cs := #[.slice A0_0 l0_0.length c0_0, .slice A0_1 l0_1.length c0_1, .int .i64 a0_2]) (t := 26) (h := ?_); intro gb370 hg w3 hbox hb; have BK370 := am (hbox); have GW370 := am (xS hg HB.out); have GE370 := am (xS hg HB.out); replace HB := am (below_step (xW HB.out) hb); clear hb hbox hg))
 repeat (go_quiet (first | ((with_reducible refine gate_dst (N := 1) rfl ?_); (try (refine gate_guard (by rfl) ?_; dsimp only)); refine xE (N := 1) (cs := #[.slice A0_0 l0_0.length c0_0, .slice A0_1 l0_1.length c0_1, .int .i64 a0_2]) (t := 26) (h := ?_); intro gb370 hg w3 hbox hb; have BK370 := am (hbox); have GW370 := am (xS hg HB.out); have GE370 := am (xS hg HB.out); replace HB := am (below_step (xW HB.out) hb); clear hb hbox hg)); go_upto_region 1 with (first | ((with_reducible refine gate_dst (N := 1) rfl ?_); (try (refine gate_guard (by rfl) ?_; dsimp only)); refine xE (N := 1) (cs := #[.slice A0_0 l0_0.length c0_0, .slice A0_1 l0_1.length c0_1, .int .i64 a0_2]) (t := 26) (h := ?_); intro gb370 hg w3 hbox hb; have BK370 := am (hbox); have GW370 := am (xS hg HB.out); have GE370 := am (xS hg HB.out); replace HB := am (below_step (xW HB.out) hb); clear hb hbox hg)))
 (try simp only [Act.put, List.setIfInBounds_toArray, List.set_cons_zero, List.set_cons_succ])
 go_cut [36] (fun v36 wc => ∃ (kq : Nat) (x36_1 : Bool), v36 = .bool x36_1 ∧ Aside0 (impl_TableOk.j0 kq x36_1 l0_0 l0_1 a0_2 = some r) ∧ Aside0 (kq ≤ k) ∧ Aside0 (wc.heap[gb370]? = some (.cells #[(.slice A0_0 l0_0.length c0_0), (.slice A0_1 l0_1.length c0_1), .int .i64 a0_2] 26 (0, 0))) ∧ Aside0 (Below w.heap.size w wc))
 case first =>
  have H := HC2.out
  clear HC2
  replace H := Option.bind_eq_some_iff.mp H
  obtain ⟨t371, A40, H⟩ := H
  try dsimp only at H
  have A4 := am A40
  clear A40
  by_cases c5 : t371 = true
  ·subst c5
   have H1 : (if (l0_1.length : Int) = 0 then ((impl_inRange.f a0_2 0 (l0_1.length : Int)).bind fun t372 => (impl_TableOk.j0 k (!t372) l0_0 l0_1 a0_2)) else (if (wrap64 (2 * (l0_1.length : Int))) = (l0_0.length : Int) then ((impl_inRange.f a0_2 0 (l0_1.length : Int)).bind fun t373 => (impl_TableOk.j0 k (!t373) l0_0 l0_1 a0_2)) else (impl_TableOk.j0 k true l0_0 l0_1 a0_2))) = some r := by rw [if_pos rfl] at H; exact H
   clear H
   have H := H1
   clear H1
   by_cases c6 : (l0_1.length : Int) = 0
   ·rw [if_pos c6] at H
    have c6b0 : ((l0_1.length : Int) == 0) = true := beq_iff_eq.mpr c6
    have c6b1 : ((l0_1.length : Int) != 0) = false := bne_eq_false_iff_eq.mpr c6
    clear c6
    (first | rw [c6b0] | (simp only [i64_w, i32_w]; rw [c6b0]) | skip)
    replace H := Option.bind_eq_some_iff.mp H
    obtain ⟨t372, A70, H⟩ := H
    replace H : (impl_TableOk.j0 k (!t372) l0_0 l0_1 a0_2) = some r := H
    have A7 := am A70
    clear A70
    have H' := am H
    clear H
    obtain ⟨hcz8_0, hcz8_1, hcz8_2, hfz8_0, hfz8_1, hfz8_2⟩ := xT3 (W := w3) BK370.out
    go_wp2_with (first | (go_at_call 51; (with_reducible refine (impl_isSize.calls (l0_0.length : Int) true _ A4.out).mono ?_); rintro e w' ⟨rfl, ⟨nd, rfl⟩⟩; (try first | exact ⟨rfl, _, World.drewN_drewN _ _ _⟩ | exact ⟨rfl, _, Eq.trans (World.drewN_drewN _ _ _) (congrArg (World.drewN _) (Nat.add_assoc _ _ _))⟩)) | (go_at_call 52; (with_reducible refine (impl_inRange.calls a0_2 0 (l0_1.length : Int) t372 _ A7.out).mono ?_); rintro e w' ⟨rfl, ⟨nd, rfl⟩⟩; (try first | exact ⟨rfl, _, World.drewN_drewN _ _ _⟩ | exact ⟨rfl, _, Eq.trans (World.drewN_drewN _ _ _) (congrArg (World.drewN _) (Nat.add_assoc _ _ _))⟩)))
    repeat (go_quiet (first | (go_at_call 51; (with_reducible refine (impl_isSize.calls (l0_0.length : Int) true _ A4.out).mono ?_); rintro e w' ⟨rfl, ⟨nd, rfl⟩⟩; (try first | exact ⟨rfl, _, World.drewN_drewN _ _ _⟩ | exact ⟨rfl, _, Eq.trans (World.drewN_drewN _ _ _) (congrArg (World.drewN _) (Nat.add_assoc _ _ _))⟩)) | (go_at_call 52; (with_reducible refine (impl_inRange.calls a0_2 0 (l0_1.length : Int) t372 _ A7.out).mono ?_); rintro e w' ⟨rfl, ⟨nd, rfl⟩⟩; (try first | exact ⟨rfl, _, World.drewN_drewN _ _ _⟩ | exact ⟨rfl, _, Eq.trans (World.drewN_drewN _ _ _) (congrArg (World.drewN _) (Nat.add_assoc _ _ _))⟩))); try go_wp2_with (first | (go_at_call 51; (with_reducible refine (impl_isSize.calls (l0_0.length : Int) true _ A4.out).mono ?_); rintro e w' ⟨rfl, ⟨nd, rfl⟩⟩; (try first | exact ⟨rfl, _, World.drewN_drewN _ _ _⟩ | exact ⟨rfl, _, Eq.trans (World.drewN_drewN _ _ _) (congrArg (World.drewN _) (Nat.add_assoc _ _ _))⟩)) | (go_at_call 52; (with_reducible refine (impl_inRange.calls a0_2 0 (l0_1.length : Int) t372 _ A7.out).mono ?_); rintro e w' ⟨rfl, ⟨nd, rfl⟩⟩; (try first | exact ⟨rfl, _, World.drewN_drewN _ _ _⟩ | exact ⟨rfl, _, Eq.trans (World.drewN_drewN _ _ _) (congrArg (World.drewN _) (Nat.add_assoc _ _ _))⟩))))
    go_meet
    case rel => exact ⟨_, (!t372), (xQ), H', ⟨by first | omega | exact Nat.le_refl _⟩, ⟨xB BK370.out⟩, ⟨xW HB.out⟩⟩
   ·rw [if_neg c6] at H
    have c6b0 : ((l0_1.length : Int) == 0) = false := beq_eq_false_iff_ne.mpr c6
    have c6b1 : ((l0_1.length : Int) != 0) = true := bne_iff_ne.mpr c6
    have c6b2 : ¬ (l0_1 = []) := fun h_ => c6 (by rw [h_]; rfl)
    (first | rw [c6b0] | (simp only [i64_w, i32_w]; rw [c6b0]) | skip)
    by_cases c9 : (wrap64 (2 * (l0_1.length : Int))) = (l0_0.length : Int)
    ·rw [if_pos c9] at H
     have c9b0 : ((wrap64 (2 * (l0_1.length : Int))) == (l0_0.length : Int)) = true := beq_iff_eq.mpr c9
     have c9b1 : ((wrap64 (2 * (l0_1.length : Int))) != (l0_0.length : Int)) = false := bne_eq_false_iff_eq.mpr c9
     clear c9
     replace H := Option.bind_eq_some_iff.mp H
     obtain ⟨t373, A100, H⟩ := H
     replace H : (impl_TableOk.j0 k (!t373) l0_0 l0_1 a0_2) = some r := H
     have A10 := am A100
     clear A100
     have H' := am H
     clear H
     obtain ⟨hcz11_0, hcz11_1, hcz11_2, hfz11_0, hfz11_1, hfz11_2⟩ := xT3 (W := w3) BK370.out
     go_wp2_with (first | (go_at_call 51; (with_reducible refine (impl_isSize.calls (l0_0.length : Int) true _ A4.out).mono ?_); rintro e w' ⟨rfl, ⟨nd, rfl⟩⟩; (try first | exact ⟨rfl, _, World.drewN_drewN _ _ _⟩ | exact ⟨rfl, _, Eq.trans (World.drewN_drewN _ _ _) (congrArg (World.drewN _) (Nat.add_assoc _ _ _))⟩)) | (go_at_call 52; (with_reducible refine (impl_inRange.calls a0_2 0 (l0_1.length : Int) t373 _ A10.out).mono ?_); rintro e w' ⟨rfl, ⟨nd, rfl⟩⟩; (try first | exact ⟨rfl, _, World.drewN_drewN _ _ _⟩ | exact ⟨rfl, _, Eq.trans (World.drewN_drewN _ _ _) (congrArg (World.drewN _) (Nat.add_assoc _ _ _))⟩)))
     repeat (go_quiet (first | (go_at_call 51; (with_reducible refine (impl_isSize.calls (l0_0.length : Int) true _ A4.out).mono ?_); rintro e w' ⟨rfl, ⟨nd, rfl⟩⟩; (try first | exact ⟨rfl, _, World.drewN_drewN _ _ _⟩ | exact ⟨rfl, _, Eq.trans (World.drewN_drewN _ _ _) (congrArg (World.drewN _) (Nat.add_assoc _ _ _))⟩)) | (go_at_call 52; (with_reducible refine (impl_inRange.calls a0_2 0 (l0_1.length : Int) t373 _ A10.out).mono ?_); rintro e w' ⟨rfl, ⟨nd, rfl⟩⟩; (try first | exact ⟨rfl, _, World.drewN_drewN _ _ _⟩ | exact ⟨rfl, _, Eq.trans (World.drewN_drewN _ _ _) (congrArg (World.drewN _) (Nat.add_assoc _ _ _))⟩))); try go_wp2_with (first | (go_at_call 51; (with_reducible refine (impl_isSize.calls (l0_0.length : Int) true _ A4.out).mono ?_); rintro e w' ⟨rfl, ⟨nd, rfl⟩⟩; (try first | exact ⟨rfl, _, World.drewN_drewN _ _ _⟩ | exact ⟨rfl, _, Eq.trans (World.drewN_drewN _ _ _) (congrArg (World.drewN _) (Nat.add_assoc _ _ _))⟩)) | (go_at_call 52; (with_reducible refine (impl_inRange.calls a0_2 0 (l0_1.length : Int) t373 _ A10.out).mono ?_); rintro e w' ⟨rfl, ⟨nd, rfl⟩⟩; (try first | exact ⟨rfl, _, World.drewN_drewN _ _ _⟩ | exact ⟨rfl, _, Eq.trans (World.drewN_drewN _ _ _) (congrArg (World.drewN _) (Nat.add_assoc _ _ _))⟩))))
     go_meet
     case rel => exact ⟨_, (!t373), (xQ), H', ⟨by first | omega | exact Nat.le_refl _⟩, ⟨xB BK370.out⟩, ⟨xW HB.out⟩⟩
    ·rw [if_neg c9] at H
     have c9b0 : ((wrap64 (2 * (l0_1.length : Int))) == (l0_0.length : Int)) = false := beq_eq_false_iff_ne.mpr c9
     have c9b1 : ((wrap64 (2 * (l0_1.length : Int))) != (l0_0.length : Int)) = true := bne_iff_ne.mpr c9
     have H' := am H
     clear H
     obtain ⟨hcz12_0, hcz12_1, hcz12_2, hfz12_0, hfz12_1, hfz12_2⟩ := xT3 (W := w3) BK370.out
     go_wp2_with (first | (go_at_call 51; (with_reducible refine (impl_isSize.calls (l0_0.length : Int) true _ A4.out).mono ?_); rintro e w' ⟨rfl, ⟨nd, rfl⟩⟩; (try first | exact ⟨rfl, _, World.drewN_drewN _ _ _⟩ | exact ⟨rfl, _, Eq.trans (World.drewN_drewN _ _ _) (congrArg (World.drewN _) (Nat.add_assoc _ _ _))⟩)))
     repeat (go_quiet (first | (go_at_call 51; (with_reducible refine (impl_isSize.calls (l0_0.length : Int) true _ A4.out).mono ?_); rintro e w' ⟨rfl, ⟨nd, rfl⟩⟩; (try first | exact ⟨rfl, _, World.drewN_drewN _ _ _⟩ | exact ⟨rfl, _, Eq.trans (World.drewN_drewN _ _ _) (congrArg (World.drewN _) (Nat.add_assoc _ _ _))⟩))); try go_wp2_with (first | (go_at_call 51; (with_reducible refine (impl_isSize.calls (l0_0.length : Int) true _ A4.out).mono ?_); rintro e w' ⟨rfl, ⟨nd, rfl⟩⟩; (try first | exact ⟨rfl, _, World.drewN_drewN _ _ _⟩ | exact ⟨rfl, _, Eq.trans (World.drewN_drewN _ _ _) (congrArg (World.drewN _) (Nat.add_assoc _ _ _))⟩))))
     go_meet
     case rel => exact ⟨_, (true), (xQ), H', ⟨by first | omega | exact Nat.le_refl _⟩, ⟨xB BK370.out⟩, ⟨xW HB.out⟩⟩
  ·replace c5 := Bool.eq_false_iff.mpr c5
   subst c5
   have H1 : (impl_TableOk.j0 k true l0_0 l0_1 a0_2) = some r := by rw [if_neg (show ¬ (false = true) by decide)] at H; exact H
   clear H
   have H := H1
   clear H1
   have H' := am H
   clear H
   obtain ⟨hcz13_0, hcz13_1, hcz13_2, hfz13_0, hfz13_1, hfz13_2⟩ := xT3 (W := w3) BK370.out
   go_wp2_with (first | (go_at_call 51; (with_reducible refine (impl_isSize.calls (l0_0.length : Int) false _ A4.out).mono ?_); rintro e w' ⟨rfl, ⟨nd, rfl⟩⟩; (try first | exact ⟨rfl, _, World.drewN_drewN _ _ _⟩ | exact ⟨rfl, _, Eq.trans (World.drewN_drewN _ _ _) (congrArg (World.drewN _) (Nat.add_assoc _ _ _))⟩)))
   repeat (go_quiet (first | (go_at_call 51; (with_reducible refine (impl_isSize.calls (l0_0.length : Int) false _ A4.out).mono ?_); rintro e w' ⟨rfl, ⟨nd, rfl⟩⟩; (try first | exact ⟨rfl, _, World.drewN_drewN _ _ _⟩ | exact ⟨rfl, _, Eq.trans (World.drewN_drewN _ _ _) (congrArg (World.drewN _) (Nat.add_assoc _ _ _))⟩))); try go_wp2_with (first | (go_at_call 51; (with_reducible refine (impl_isSize.calls (l0_0.length : Int) false _ A4.out).mono ?_); rintro e w' ⟨rfl, ⟨nd, rfl⟩⟩; (try first | exact ⟨rfl, _, World.drewN_drewN _ _ _⟩ | exact ⟨rfl, _, Eq.trans (World.drewN_drewN _ _ _) (congrArg (World.drewN _) (Nat.add_assoc _ _ _))⟩))))
   go_meet
   case rel => exact ⟨_, (true), (xQ), H', ⟨by first | omega | exact Nat.le_refl _⟩, ⟨xB BK370.out⟩, ⟨xW HB.out⟩⟩
 case rest =>
  clear HC2
  try clear c1
  try clear p2
  try clear c5
  try clear c6
  try clear c6b0
  try clear c6b1
  try clear c6b2
  try clear p6
  try clear c9
  try clear c9b0
  try clear c9b1
  try clear hcz11_0
  try clear hcz11_1
  try clear hcz11_2
  try clear hcz12_0
  try clear hcz12_1
  try clear hcz12_2
  try clear hcz13_0
  try clear hcz13_1
  try clear hcz13_2
  try clear hcz8_0
  try clear hcz8_1
  try clear hcz8_2
  try clear hfz11_0
  try clear hfz11_1
  try clear hfz11_2
  try clear hfz12_0
  try clear hfz12_1
  try clear hfz12_2
  try clear hfz13_0
  try clear hfz13_1
  try clear hfz13_2
  try clear hfz8_0
  try clear hfz8_1
  try clear hfz8_2
  obtain ⟨kq, x36_1, rfl, HA, HJ1, BK370, HB⟩ := hcut
  cases kq with
  | zero => exact absurd HA.out (by simp [impl_TableOk.j0])
  | succ kj1 =>
   have H := HA.out
   clear HA
   simp only [impl_TableOk.j0] at H
   by_cases c14 : x36_1 = true
   ·subst c14
    have H1 : (some false) = some r := by rw [if_pos rfl] at H; exact H
    clear H
    have H := H1
    clear H1
    obtain rfl := Option.some.inj H
    go_wp2
    repeat (go_quiet (fail); try go_wp2)
    go_ret
    exact ⟨xV, xW HB.out⟩
   ·replace c14 := Bool.eq_false_iff.mpr c14
    subst c14
    have H1 : (if 0 ≤ a0_2 then (if a0_2 ≤ (l0_1.length : Int) then ((some (l0_1.take (a0_2 : Int).toNat : List (S57))).bind fun y374 => (impl_TableOk.l0 kj1 y374 (y374.length : Int) 0 l0_0 l0_1 a0_2)) else (none)) else (none)) = some r := by rw [if_neg (show ¬ (false = true) by decide)] at H; exact H
    clear H
    have H := H1
    clear H1
    by_cases c15 : 0 ≤ a0_2
    ·rw [if_pos c15] at H
     have c15b0 := eq_true c15
     have c15b1 : decide (0 ≤ a0_2) = true := decide_eq_true c15
     clear c15
     by_cases c16 : a0_2 ≤ (l0_1.length : Int)
     ·rw [if_pos c16] at H
      have c16b0 := eq_true c16
      have c16b1 : decide (a0_2 ≤ (l0_1.length : Int)) = true := decide_eq_true c16
      clear c16
      obtain ⟨y374, hy374⟩ : ∃ y_ : List (S57), y_ = (l0_1.take (a0_2 : Int).toNat) := ⟨_, rfl⟩
      replace H : (impl_TableOk.l0 kj1 y374 (y374.length : Int) 0 l0_0 l0_1 a0_2) = some r := by first | (rw [hy374]; with_reducible exact H) | (have H2_ := (Option.bind_some _ _).symm.trans H; rw [hy374]; with_reducible exact H2_) | (have H2_ := (Option.bind_some _ _).symm.trans H; with_reducible exact H2_) | with_reducible exact H | (rw [hy374]; exact H) | exact H
      have Ny374 := am hy374
      clear hy374
      have H' := am H
      clear H
      obtain ⟨hcz17_0, hcz17_1, hcz17_2, hfz17_0, hfz17_1, hfz17_2⟩ := xT3 (W := wc) BK370.out
      have q18 : (a0_2 : Int) ≤ ((l0_1.length : Int) : Int) := of_decide_eq_true (by assumption)
      obtain ⟨i018, hi018, _, hsz18, _⟩ := info_parts info57
      have hroom18 : l0_1.length ≤ c0_1 := HC0_1.out
      have hC18 : Kd.C k57 _ A0_1 l0_1.length l0_1 := HR0_1.out
      have hcut18 := cut_to (P := Try.prog) 24 57 .i64 Try.underlying24 hi018 A0_1 l0_1.length c0_1 a0_2 (of_decide_eq_true (by assumption)) q18 hroom18
      have hr18 := Kd.C_take (m := (a0_2 : Int).toNat) hC18 (by omega)
      have hy18 : y374.length = (a0_2 : Int).toNat := (by rw [Ny374.out, List.length_take]; omega)
      rw [← Ny374.out] at hr18
      rw [← hy18] at hcut18
      have HR377 := am hr18
      have HC377 := am (show y374.length ≤ c0_1 from by omega)
      clear hr18 hC18 hroom18 hi018 hsz18
      have KY18 := am hy18
      clear hy18
      replace q18 := eq_true q18
      go_wp2
      repeat (go_quiet (fail); try go_wp2)
      go_loopg [43] kj1 (fun kq v43 w' => ∃ (x43_2 : Int), v43 = .int .i64 x43_2 ∧ Aside0 (impl_TableOk.l0 kq y374 (y374.length : Int) x43_2 l0_0 l0_1 a0_2 = some r) ∧ Aside0 (kq ≤ kj1) ∧ Aside0 (w'.heap[gb370]? = some (.cells #[(.slice A0_0 l0_0.length c0_0), (.slice A0_1 l0_1.length c0_1), .int .i64 a0_2] 26 (0, 0))) ∧ Aside0 (Below w.heap.size w w'))
      case atStart => exact ⟨(0), (xQ), H', ⟨Nat.le_refl _⟩, ⟨xB BK370.out⟩, ⟨xW HB.out⟩⟩
      case round =>
       clear H'
       try clear c1
       try clear q1
       try clear p2
       try clear c5
       try clear c6
       try clear c6b0
       try clear c6b1
       try clear c6b2
       try clear p6
       try clear c9
       try clear c9b0
       try clear c9b1
       try clear c14
       try clear c15
       try clear c15b0
       try clear c15b1
       try clear c16
       try clear c16b0
       try clear c16b1
       try clear c18
       try clear q18
       try clear hcz11_0
       try clear hcz11_1
       try clear hcz11_2
       try clear hcz12_0
       try clear hcz12_1
       try clear hcz12_2
       try clear hcz13_0
       try clear hcz13_1
       try clear hcz13_2
       try clear hcz17_0
       try clear hcz17_1
       try clear hcz17_2
       try clear hcz8_0
       try clear hcz8_1
       try clear hcz8_2
       try clear hfz11_0
       try clear hfz11_1
       try clear hfz11_2
       try clear hfz12_0
       try clear hfz12_1
       try clear hfz12_2
       try clear hfz13_0
       try clear hfz13_1
       try clear hfz13_2
       try clear hfz17_0
       try clear hfz17_1
       try clear hfz17_2
       try clear hfz8_0
       try clear hfz8_1
       try clear hfz8_2
       try clear p2
       try clear p6
       try clear q18
       obtain ⟨x43_2, rfl, HA, HK2, BK370, HB⟩ := hrel
       cases gk with
       | zero => exact absurd HA.out (by simp [impl_TableOk.l0])
       | succ k2 =>
        have H := HA.out
        clear HA
        simp only [impl_TableOk.l0] at H
        by_cases c19 : x43_2 < (y374.length : Int)
        ·rw [if_pos c19] at H
         have c19b0 : decide (x43_2 < (y374.length : Int)) = true := decide_eq_true c19
         clear c19
         by_cases c20 : 0 ≤ x43_2
         ·rw [if_pos c20] at H
          have c20b0 : decide (0 ≤ x43_2) = true := decide_eq_true c20
          clear c20
          by_cases c21 : x43_2 < (y374.length : Int)
          ·rw [if_pos c21] at H
           have c21b0 : decide (x43_2 < (y374.length : Int)) = true := decide_eq_true c21
           clear c21
           by_cases c22 : (!((((rd_T57 y374 x43_2).f0).toList) == ([] : List UInt8)) || (!(((rd_T57 y374 x43_2).f1) == (-2)))) = true
           ·rw [if_pos c22] at H
            have c22b0 : (!((((rd_T57 y374 x43_2).f0).toList) == ([] : List UInt8)) || (!(((rd_T57 y374 x43_2).f1) == (-2)))) = true := c22
            have c22b0n : (!((((rd_T57 y374 x43_2).f0).toList).isEmpty) || (!(((rd_T57 y374 x43_2).f1) == (-2)))) = true := by simp at c22b0 ⊢; exact c22b0
            clear c22
            obtain rfl := Option.some.inj H
            have p378 : 0 ≤ (x43_2 : Int) := of_decide_eq_true (by assumption)
            have q378 : x43_2 < (y374.length : Int) := of_decide_eq_true (by assumption)
            obtain ⟨ad378, e378, hx378_0, hx378_1⟩ := at_T57 HR377.out x43_2 p378 q378
            cases e378
            replace hx378_0 := (HB.out.cell (World.block_lt_of_cell? w _ hx378_0)).trans hx378_0
            replace hx378_1 := (HB.out.cell (World.block_lt_of_cell? w _ hx378_1)).trans hx378_1
            replace p378 := eq_true p378
            replace q378 := eq_true q378
            go_wp2_with (first | ((with_reducible refine gate_dst (N := 4) rfl ?_); (try (refine gate_guard (by rfl) ?_; dsimp only)); refine xE (N := 4) (cs := #[.string (⟨#[]⟩ : ByteArray), .int .i64 0]) (t := 57) (h := ?_); intro gb379 hg w23 hbox hb; have BK379 := am (hbox); have GW379 := am (xS hg HB.out); have GE379 := am (xS hg HB.out); replace HB := am (below_step (xW HB.out) hb); have NB370_379 := am (xN hg BK370.out); have NB379_370 := am (xM hg BK370.out); replace BK370 := am (blk_below (xB BK370.out) hb); clear hb hbox hg; have hnb24 := NB379_370.out; have hnc24 := NB370_379.out; obtain ⟨hcz25_0, hcz25_1, hfz25_0, hfz25_1⟩ := xT2 (W := w23) BK379.out))
            repeat (go_quiet (first | ((with_reducible refine gate_dst (N := 4) rfl ?_); (try (refine gate_guard (by rfl) ?_; dsimp only)); refine xE (N := 4) (cs := #[.string (⟨#[]⟩ : ByteArray), .int .i64 0]) (t := 57) (h := ?_); intro gb379 hg w23 hbox hb; have BK379 := am (hbox); have GW379 := am (xS hg HB.out); have GE379 := am (xS hg HB.out); replace HB := am (below_step (xW HB.out) hb); have NB370_379 := am (xN hg BK370.out); have NB379_370 := am (xM hg BK370.out); replace BK370 := am (blk_below (xB BK370.out) hb); clear hb hbox hg; have hnb24 := NB379_370.out; have hnc24 := NB370_379.out; obtain ⟨hcz25_0, hcz25_1, hfz25_0, hfz25_1⟩ := xT2 (W := w23) BK379.out)); try go_wp2_with (first | ((with_reducible refine gate_dst (N := 4) rfl ?_); (try (refine gate_guard (by rfl) ?_; dsimp only)); refine xE (N := 4) (cs := #[.string (⟨#[]⟩ : ByteArray), .int .i64 0]) (t := 57) (h := ?_); intro gb379 hg w23 hbox hb; have BK379 := am (hbox); have GW379 := am (xS hg HB.out); have GE379 := am (xS hg HB.out); replace HB := am (below_step (xW HB.out) hb); have NB370_379 := am (xN hg BK370.out); have NB379_370 := am (xM hg BK370.out); replace BK370 := am (blk_below (xB BK370.out) hb); clear hb hbox hg; have hnb24 := NB379_370.out; have hnc24 := NB370_379.out; obtain ⟨hcz25_0, hcz25_1, hfz25_0, hfz25_1⟩ := xT2 (W := w23) BK379.out)))
            go_ret
            exact ⟨xV, xW HB.out⟩
           ·rw [if_neg c22] at H
            have c22b0 : (!((((rd_T57 y374 x43_2).f0).toList) == ([] : List UInt8)) || (!(((rd_T57 y374 x43_2).f1) == (-2)))) = false := by simpa using c22
            have c22b0n : (!((((rd_T57 y374 x43_2).f0).toList).isEmpty) || (!(((rd_T57 y374 x43_2).f1) == (-2)))) = false := by simp at c22b0 ⊢; exact c22b0
            clear c22
            have H' := am H
            clear H
            have p378 : 0 ≤ (x43_2 : Int) := of_decide_eq_true (by assumption)
            have q378 : x43_2 < (y374.length : Int) := of_decide_eq_true (by assumption)
            obtain ⟨ad378, e378, hx378_0, hx378_1⟩ := at_T57 HR377.out x43_2 p378 q378
            cases e378
            replace hx378_0 := (HB.out.cell (World.block_lt_of_cell? w _ hx378_0)).trans hx378_0
            replace hx378_1 := (HB.out.cell (World.block_lt_of_cell? w _ hx378_1)).trans hx378_1
            replace p378 := eq_true p378
            replace q378 := eq_true q378
            go_wp2_with (first | ((with_reducible refine gate_dst (N := 4) rfl ?_); (try (refine gate_guard (by rfl) ?_; dsimp only)); refine xE (N := 4) (cs := #[.string (⟨#[]⟩ : ByteArray), .int .i64 0]) (t := 57) (h := ?_); intro gb379 hg w26 hbox hb; have BK379 := am (hbox); have GW379 := am (xS hg HB.out); have GE379 := am (xS hg HB.out); replace HB := am (below_step (xW HB.out) hb); have NB370_379 := am (xN hg BK370.out); have NB379_370 := am (xM hg BK370.out); replace BK370 := am (blk_below (xB BK370.out) hb); clear hb hbox hg; have hnb27 := NB379_370.out; have hnc27 := NB370_379.out; obtain ⟨hcz28_0, hcz28_1, hfz28_0, hfz28_1⟩ := xT2 (W := w26) BK379.out))
            repeat (go_quiet (first | ((with_reducible refine gate_dst (N := 4) rfl ?_); (try (refine gate_guard (by rfl) ?_; dsimp only)); refine xE (N := 4) (cs := #[.string (⟨#[]⟩ : ByteArray), .int .i64 0]) (t := 57) (h := ?_); intro gb379 hg w26 hbox hb; have BK379 := am (hbox); have GW379 := am (xS hg HB.out); have GE379 := am (xS hg HB.out); replace HB := am (below_step (xW HB.out) hb); have NB370_379 := am (xN hg BK370.out); have NB379_370 := am (xM hg BK370.out); replace BK370 := am (blk_below (xB BK370.out) hb); clear hb hbox hg; have hnb27 := NB379_370.out; have hnc27 := NB370_379.out; obtain ⟨hcz28_0, hcz28_1, hfz28_0, hfz28_1⟩ := xT2 (W := w26) BK379.out)); try go_wp2_with (first | ((with_reducible refine gate_dst (N := 4) rfl ?_); (try (refine gate_guard (by rfl) ?_; dsimp only)); refine xE (N := 4) (cs := #[.string (⟨#[]⟩ : ByteArray), .int .i64 0]) (t := 57) (h := ?_); intro gb379 hg w26 hbox hb; have BK379 := am (hbox); have GW379 := am (xS hg HB.out); have GE379 := am (xS hg HB.out); replace HB := am (below_step (xW HB.out) hb); have NB370_379 := am (xN hg BK370.out); have NB379_370 := am (xM hg BK370.out); replace BK370 := am (blk_below (xB BK370.out) hb); clear hb hbox hg; have hnb27 := NB379_370.out; have hnc27 := NB370_379.out; obtain ⟨hcz28_0, hcz28_1, hfz28_0, hfz28_1⟩ := xT2 (W := w26) BK379.out)))
            go_roundg k2
            case measure => have := HJ1.out; have := HK2.out; omega
            case rel => exact ⟨(wrap64 (x43_2 + 1)), (xQ), H', ⟨by have := HJ1.out; have := HK2.out; omega⟩, ⟨xB BK370.out⟩, ⟨xW HB.out⟩⟩
          ·rw [if_neg c21] at H
           exact absurd H (by simp)
         ·rw [if_neg c20] at H
          exact absurd H (by simp)
        ·rw [if_neg c19] at H
         have c19b0 : decide (x43_2 < (y374.length : Int)) = false := decide_eq_false c19
         clear c19
         replace H := Option.bind_eq_some_iff.mp H
         obtain ⟨t380, A290, H⟩ := H
         replace H : (impl_TableOk.l1 k2 t380 1 l0_0 l0_1 a0_2) = some r := H
         have A29 := am A290
         clear A290
         have H' := am H
         clear H
         obtain ⟨hcz30_0, hcz30_1, hcz30_2, hfz30_0, hfz30_1, hfz30_2⟩ := xT3 (W := wr) BK370.out
         go_wp2_with (first | (go_at_call 53; (with_reducible refine (impl_Table_keys.calls k2 (fun k_ => k_ < w.heap.size) _ _ l0_0 (fun k_ => k_ < w.heap.size) _ _ l0_1 a0_2 t380 _ ?side1 ?side2 A29.out).mono ?_); (case side1 => exact Kd.V_mk HC0_0.out (Kd.F_below (Kd.C_F k57_heap HR0_0.out) (xW HB.out))); (case side2 => exact Kd.V_mk HC0_1.out (Kd.F_below (Kd.C_F k57_heap HR0_1.out) (xW HB.out))); rintro e w31 ⟨v381, rfl, ho0, hb⟩; have HO382 := am (Kd.R_lower (Kd.R_mono (ok' := fun k_ => True) ho0 (fun _ hk_ => trivial)) (below_size (xW HB.out))); replace BK370 := am (blk_below (xB BK370.out) hb); replace HB := am (below_step (xW HB.out) hb); (try clear hb); (try clear ho0)))
         repeat (go_quiet (first | (go_at_call 53; (with_reducible refine (impl_Table_keys.calls k2 (fun k_ => k_ < w.heap.size) _ _ l0_0 (fun k_ => k_ < w.heap.size) _ _ l0_1 a0_2 t380 _ ?side1 ?side2 A29.out).mono ?_); (case side1 => exact Kd.V_mk HC0_0.out (Kd.F_below (Kd.C_F k57_heap HR0_0.out) (xW HB.out))); (case side2 => exact Kd.V_mk HC0_1.out (Kd.F_below (Kd.C_F k57_heap HR0_1.out) (xW HB.out))); rintro e w31 ⟨v381, rfl, ho0, hb⟩; have HO382 := am (Kd.R_lower (Kd.R_mono (ok' := fun k_ => True) ho0 (fun _ hk_ => trivial)) (below_size (xW HB.out))); replace BK370 := am (blk_below (xB BK370.out) hb); replace HB := am (below_step (xW HB.out) hb); (try clear hb); (try clear ho0))); try go_wp2_with (first | (go_at_call 53; (with_reducible refine (impl_Table_keys.calls k2 (fun k_ => k_ < w.heap.size) _ _ l0_0 (fun k_ => k_ < w.heap.size) _ _ l0_1 a0_2 t380 _ ?side1 ?side2 A29.out).mono ?_); (case side1 => exact Kd.V_mk HC0_0.out (Kd.F_below (Kd.C_F k57_heap HR0_0.out) (xW HB.out))); (case side2 => exact Kd.V_mk HC0_1.out (Kd.F_below (Kd.C_F k57_heap HR0_1.out) (xW HB.out))); rintro e w31 ⟨v381, rfl, ho0, hb⟩; have HO382 := am (Kd.R_lower (Kd.R_mono (ok' := fun k_ => True) ho0 (fun _ hk_ => trivial)) (below_size (xW HB.out))); replace BK370 := am (blk_below (xB BK370.out) hb); replace HB := am (below_step (xW HB.out) hb); (try clear hb); (try clear ho0))))
         go_loopg [6] k2 (fun kq v6 w' => ∃ (x6_3 : Int), v6 = .int .i64 x6_3 ∧ Aside0 (impl_TableOk.l1 kq t380 x6_3 l0_0 l0_1 a0_2 = some r) ∧ Aside0 (kq ≤ k2) ∧ Aside0 (Kd.R Kd.string 9 w' w.heap.size (fun _ => True) v381 t380) ∧ Aside0 (w'.heap[gb370]? = some (.cells #[(.slice A0_0 l0_0.length c0_0), (.slice A0_1 l0_1.length c0_1), .int .i64 a0_2] 26 (0, 0))) ∧ Aside0 (Below w.heap.size w w'))
         case atStart => exact ⟨(1), (xQ), H', ⟨Nat.le_refl _⟩, ⟨xR HO382.out⟩, ⟨xB BK370.out⟩, ⟨xW HB.out⟩⟩
         case round =>
          clear H'
          try clear c1
          try clear q1
          try clear c2
          try clear p2
          try clear p3
          try clear q3
          try clear hx3
          try clear c5
          try clear c6
          try clear c6b0
          try clear c6b1
          try clear c6b2
          try clear p6
          try clear c9
          try clear c9b0
          try clear c9b1
          try clear c14
          try clear c15
          try clear c15b0
          try clear c15b1
          try clear c16
          try clear c16b0
          try clear c16b1
          try clear c18
          try clear q18
          try clear c19
          try clear c19b0
          try clear c20
          try clear c20b0
          try clear c21
          try clear c21b0
          try clear c22
          try clear c22b0
          try clear c24
          try clear c27
          try clear hcz11_0
          try clear hcz11_1
          try clear hcz11_2
          try clear hcz12_0
          try clear hcz12_1
          try clear hcz12_2
          try clear hcz13_0
          try clear hcz13_1
          try clear hcz13_2
          try clear hcz17_0
          try clear hcz17_1
          try clear hcz17_2
          try clear hcz25_0
          try clear hcz25_1
          try clear hcz28_0
          try clear hcz28_1
          try clear hcz30_0
          try clear hcz30_1
          try clear hcz30_2
          try clear hcz8_0
          try clear hcz8_1
          try clear hcz8_2
          try clear hfz11_0
          try clear hfz11_1
          try clear hfz11_2
          try clear hfz12_0
          try clear hfz12_1
          try clear hfz12_2
          try clear hfz13_0
          try clear hfz13_1
          try clear hfz13_2
          try clear hfz17_0
          try clear hfz17_1
          try clear hfz17_2
          try clear hfz25_0
          try clear hfz25_1
          try clear hfz28_0
          try clear hfz28_1
          try clear hfz30_0
          try clear hfz30_1
          try clear hfz30_2
          try clear hfz8_0
          try clear hfz8_1
          try clear hfz8_2
          try clear hx378_0
          try clear hx378_1
          try clear p2
          try clear p378
          try clear p6
          try clear q1
          try clear q18
          try clear q378
          obtain ⟨x6_3, rfl, HA, HK3, HO_5, BK370, HB⟩ := hrel
          cases gk with
          | zero => exact absurd HA.out (by simp [impl_TableOk.l1])
          | succ k3 =>
           have H := HA.out
           clear HA
           simp only [impl_TableOk.l1] at H
           by_cases c32 : x6_3 < (t380.length : Int)
           ·rw [if_pos c32] at H
            have c32b0 : decide (x6_3 < (t380.length : Int)) = true := decide_eq_true c32
            clear c32
            by_cases c33 : 0 ≤ x6_3
            ·rw [if_pos c33] at H
             have c33b0 : decide (0 ≤ x6_3) = true := decide_eq_true c33
             clear c33
             obtain ⟨ji34, hji34⟩ : ∃ j_ : Int, (wrap64 (x6_3 - 1)) = j_ := ⟨_, rfl⟩
             replace H : (if 0 ≤ (ji34) then (if (ji34) < (t380.length : Int) then (if (rdOf ByteArray.empty t380 x6_3).toList = (rdOf ByteArray.empty t380 (ji34)).toList then (some false) else (impl_TableOk.l1 k3 t380 (wrap64 (x6_3 + 1)) l0_0 l0_1 a0_2)) else (none)) else (none)) = some r := by first | (rw [hji34] at H; exact H) | (simp only [hji34] at H ⊢; exact H)
             have hji34w : (IntKind.i64.wrap (x6_3 - 1)) = ji34 := (i64_w _).trans hji34
             by_cases c35 : 0 ≤ (ji34)
             ·rw [if_pos c35] at H
              have c35b0 : decide (0 ≤ (ji34)) = true := decide_eq_true c35
              clear c35
              by_cases c36 : (ji34) < (t380.length : Int)
              ·rw [if_pos c36] at H
               have c36b0 : decide ((ji34) < (t380.length : Int)) = true := decide_eq_true c36
               clear c36
               by_cases c37 : (rdOf ByteArray.empty t380 x6_3).toList = (rdOf ByteArray.empty t380 (ji34)).toList
               ·rw [if_pos c37] at H
                have c37b0 : ((rdOf ByteArray.empty t380 x6_3).toList == (rdOf ByteArray.empty t380 (ji34)).toList) = true := beq_iff_eq.mpr c37
                have c37b1 : ((rdOf ByteArray.empty t380 x6_3).toList != (rdOf ByteArray.empty t380 (ji34)).toList) = false := bne_eq_false_iff_eq.mpr c37
                clear c37
                obtain rfl := Option.some.inj H
                obtain ⟨Ao38, co38, eo38⟩ := Kd.R_slice HO_5.out
                subst eo38
                have p383 : 0 ≤ (x6_3 : Int) := of_decide_eq_true (by assumption)
                have q383 : x6_3 < (t380.length : Int) := of_decide_eq_true (by assumption)
                obtain ⟨ad383, e383, hx383_0⟩ := Kd.at_string (Kd.R_reads' HO_5.out).2.2 x6_3 p383 q383
                cases e383
                replace p383 := eq_true p383
                replace q383 := eq_true q383
                have p384 : 0 ≤ ((ji34) : Int) := of_decide_eq_true (by assumption)
                have q384 : (ji34) < (t380.length : Int) := of_decide_eq_true (by assumption)
                obtain ⟨ad384, e384, hx384_0⟩ := Kd.at_string (Kd.R_reads' HO_5.out).2.2 (ji34) p384 q384
                obtain rfl : ad383 = ad384 := (by injection e384)
                replace p384 := eq_true p384
                replace q384 := eq_true q384
                go_wp2
                repeat (go_quiet (fail); try go_wp2)
                go_ret
                exact ⟨by first | rfl | (simp [errW_none, errW_some] <;> rfl) | (simp only [← hji34]; first | rfl | (simp [errW_none, errW_some] <;> rfl)) | (simp [*, errW_none, errW_some] <;> rfl), xW HB.out⟩
               ·rw [if_neg c37] at H
                have c37b0 : ((rdOf ByteArray.empty t380 x6_3).toList == (rdOf ByteArray.empty t380 (ji34)).toList) = false := beq_eq_false_iff_ne.mpr c37
                have c37b1 : ((rdOf ByteArray.empty t380 x6_3).toList != (rdOf ByteArray.empty t380 (ji34)).toList) = true := bne_iff_ne.mpr c37
                have H' := am H
                clear H
                obtain ⟨Ao39, co39, eo39⟩ := Kd.R_slice HO_5.out
                subst eo39
                have p383 : 0 ≤ (x6_3 : Int) := of_decide_eq_true (by assumption)
                have q383 : x6_3 < (t380.length : Int) := of_decide_eq_true (by assumption)
                obtain ⟨ad383, e383, hx383_0⟩ := Kd.at_string (Kd.R_reads' HO_5.out).2.2 x6_3 p383 q383
                cases e383
                replace p383 := eq_true p383
                replace q383 := eq_true q383
                have p384 : 0 ≤ ((ji34) : Int) := of_decide_eq_true (by assumption)
                have q384 : (ji34) < (t380.length : Int) := of_decide_eq_true (by assumption)
                obtain ⟨ad384, e384, hx384_0⟩ := Kd.at_string (Kd.R_reads' HO_5.out).2.2 (ji34) p384 q384
                obtain rfl : ad383 = ad384 := (by injection e384)
                replace p384 := eq_true p384
                replace q384 := eq_true q384
                go_wp2
                repeat (go_quiet (fail); try go_wp2)
                go_roundg k3
                case measure => have := HJ1.out; have := HK2.out; have := HK3.out; omega
                case rel => exact ⟨(wrap64 (x6_3 + 1)), (xQ), H', ⟨by have := HJ1.out; have := HK2.out; have := HK3.out; omega⟩, ⟨xR HO_5.out⟩, ⟨xB BK370.out⟩, ⟨xW HB.out⟩⟩
              ·rw [if_neg c36] at H
               exact absurd H (by simp)
             ·rw [if_neg c35] at H
              exact absurd H (by simp)
            ·rw [if_neg c33] at H
             exact absurd H (by simp)
           ·rw [if_neg c32] at H
            have c32b0 : decide (x6_3 < (t380.length : Int)) = false := decide_eq_false c32
            clear c32
            replace H := Option.bind_eq_some_iff.mp H
            obtain ⟨t385, A400, H⟩ := H
            try dsimp only at H
            have A40 := am A400
            clear A400
            by_cases c41 : t385 = true
            ·subst c41
             have H1 : ((impl_cellsOk.f k3 l0_1).bind fun t386 => (if t386 = true then ((impl_nones.f k3 l0_0).bind fun t387 => (some (decide (t387 > 0)))) else (some false))) = some r := by rw [if_pos rfl] at H; exact H
             clear H
             have H := H1
             clear H1
             replace H := Option.bind_eq_some_iff.mp H
             obtain ⟨t386, A420, H⟩ := H
             try dsimp only at H
             have A42 := am A420
             clear A420
             by_cases c43 : t386 = true
             ·subst c43
              have H1 : ((impl_nones.f k3 l0_0).bind fun t387 => (some (decide (t387 > 0)))) = some r := by rw [if_pos rfl] at H; exact H
              clear H
              have H := H1
              clear H1
              replace H := Option.bind_eq_some_iff.mp H
              obtain ⟨t387, A440, H⟩ := H
              replace H : (some (decide (t387 > 0))) = some r := H
              have A44 := am A440
              clear A440
              obtain rfl := Option.some.inj H
              obtain ⟨Ao45, co45, eo45⟩ := Kd.R_slice HO_5.out
              subst eo45
              obtain ⟨hcz46_0, hcz46_1, hcz46_2, hfz46_0, hfz46_1, hfz46_2⟩ := xT3 (W := wr) BK370.out
              go_wp2_with (first | (go_at_call 54; (with_reducible refine (impl_cellsOk.calls k3 _ _ l0_0 true _ ?side1 ?side2 A40.out).mono ?_); (case side1 => exact xC (Kd.C_below HR0_0.out HB.out)); (case side2 => exact HC0_0.out); rintro e w47 ⟨rfl, hb⟩; replace HO_5 := am (Kd.R_below (xR HO_5.out) hb); replace BK370 := am (blk_below (xB BK370.out) hb); replace HB := am (below_step (xW HB.out) hb); (try clear hb); obtain ⟨hcz48_0, hcz48_1, hcz48_2, hfz48_0, hfz48_1, hfz48_2⟩ := xT3 (W := w47) BK370.out) | (go_at_call 54; (with_reducible refine (impl_cellsOk.calls k3 _ _ l0_1 true _ ?side1 ?side2 A42.out).mono ?_); (case side1 => exact xC (Kd.C_below HR0_1.out HB.out)); (case side2 => exact HC0_1.out); rintro e w49 ⟨rfl, hb⟩; replace HO_5 := am (Kd.R_below (xR HO_5.out) hb); replace BK370 := am (blk_below (xB BK370.out) hb); replace HB := am (below_step (xW HB.out) hb); (try clear hb); obtain ⟨hcz50_0, hcz50_1, hcz50_2, hfz50_0, hfz50_1, hfz50_2⟩ := xT3 (W := w49) BK370.out) | (go_at_call 55; (with_reducible refine (impl_nones.calls k3 _ _ l0_0 t387 _ ?side1 ?side2 A44.out).mono ?_); (case side1 => exact xC (Kd.C_below HR0_0.out HB.out)); (case side2 => exact HC0_0.out); rintro e w51 ⟨rfl, hb⟩; replace HO_5 := am (Kd.R_below (xR HO_5.out) hb); replace BK370 := am (blk_below (xB BK370.out) hb); replace HB := am (below_step (xW HB.out) hb); (try clear hb); ))
              repeat (go_quiet (first | (go_at_call 54; (with_reducible refine (impl_cellsOk.calls k3 _ _ l0_0 true _ ?side1 ?side2 A40.out).mono ?_); (case side1 => exact xC (Kd.C_below HR0_0.out HB.out)); (case side2 => exact HC0_0.out); rintro e w47 ⟨rfl, hb⟩; replace HO_5 := am (Kd.R_below (xR HO_5.out) hb); replace BK370 := am (blk_below (xB BK370.out) hb); replace HB := am (below_step (xW HB.out) hb); (try clear hb); obtain ⟨hcz48_0, hcz48_1, hcz48_2, hfz48_0, hfz48_1, hfz48_2⟩ := xT3 (W := w47) BK370.out) | (go_at_call 54; (with_reducible refine (impl_cellsOk.calls k3 _ _ l0_1 true _ ?side1 ?side2 A42.out).mono ?_); (case side1 => exact xC (Kd.C_below HR0_1.out HB.out)); (case side2 => exact HC0_1.out); rintro e w49 ⟨rfl, hb⟩; replace HO_5 := am (Kd.R_below (xR HO_5.out) hb); replace BK370 := am (blk_below (xB BK370.out) hb); replace HB := am (below_step (xW HB.out) hb); (try clear hb); obtain ⟨hcz50_0, hcz50_1, hcz50_2, hfz50_0, hfz50_1, hfz50_2⟩ := xT3 (W := w49) BK370.out) | (go_at_call 55; (with_reducible refine (impl_nones.calls k3 _ _ l0_0 t387 _ ?side1 ?side2 A44.out).mono ?_); (case side1 => exact xC (Kd.C_below HR0_0.out HB.out)); (case side2 => exact HC0_0.out); rintro e w51 ⟨rfl, hb⟩; replace HO_5 := am (Kd.R_below (xR HO_5.out) hb); replace BK370 := am (blk_below (xB BK370.out) hb); replace HB := am (below_step (xW HB.out) hb); (try clear hb); )); try go_wp2_with (first | (go_at_call 54; (with_reducible refine (impl_cellsOk.calls k3 _ _ l0_0 true _ ?side1 ?side2 A40.out).mono ?_); (case side1 => exact xC (Kd.C_below HR0_0.out HB.out)); (case side2 => exact HC0_0.out); rintro e w47 ⟨rfl, hb⟩; replace HO_5 := am (Kd.R_below (xR HO_5.out) hb); replace BK370 := am (blk_below (xB BK370.out) hb); replace HB := am (below_step (xW HB.out) hb); (try clear hb); obtain ⟨hcz48_0, hcz48_1, hcz48_2, hfz48_0, hfz48_1, hfz48_2⟩ := xT3 (W := w47) BK370.out) | (go_at_call 54; (with_reducible refine (impl_cellsOk.calls k3 _ _ l0_1 true _ ?side1 ?side2 A42.out).mono ?_); (case side1 => exact xC (Kd.C_below HR0_1.out HB.out)); (case side2 => exact HC0_1.out); rintro e w49 ⟨rfl, hb⟩; replace HO_5 := am (Kd.R_below (xR HO_5.out) hb); replace BK370 := am (blk_below (xB BK370.out) hb); replace HB := am (below_step (xW HB.out) hb); (try clear hb); obtain ⟨hcz50_0, hcz50_1, hcz50_2, hfz50_0, hfz50_1, hfz50_2⟩ := xT3 (W := w49) BK370.out) | (go_at_call 55; (with_reducible refine (impl_nones.calls k3 _ _ l0_0 t387 _ ?side1 ?side2 A44.out).mono ?_); (case side1 => exact xC (Kd.C_below HR0_0.out HB.out)); (case side2 => exact HC0_0.out); rintro e w51 ⟨rfl, hb⟩; replace HO_5 := am (Kd.R_below (xR HO_5.out) hb); replace BK370 := am (blk_below (xB BK370.out) hb); replace HB := am (below_step (xW HB.out) hb); (try clear hb); )))
              go_ret
              exact ⟨xV, xW HB.out⟩
             ·replace c43 := Bool.eq_false_iff.mpr c43
              subst c43
              have H1 : (some false) = some r := by rw [if_neg (show ¬ (false = true) by decide)] at H; exact H
              clear H
              have H := H1
              clear H1
              obtain rfl := Option.some.inj H
              obtain ⟨Ao52, co52, eo52⟩ := Kd.R_slice HO_5.out
              subst eo52
              obtain ⟨hcz53_0, hcz53_1, hcz53_2, hfz53_0, hfz53_1, hfz53_2⟩ := xT3 (W := wr) BK370.out
              go_wp2_with (first | (go_at_call 54; (with_reducible refine (impl_cellsOk.calls k3 _ _ l0_0 true _ ?side1 ?side2 A40.out).mono ?_); (case side1 => exact xC (Kd.C_below HR0_0.out HB.out)); (case side2 => exact HC0_0.out); rintro e w54 ⟨rfl, hb⟩; replace HO_5 := am (Kd.R_below (xR HO_5.out) hb); replace BK370 := am (blk_below (xB BK370.out) hb); replace HB := am (below_step (xW HB.out) hb); (try clear hb); obtain ⟨hcz55_0, hcz55_1, hcz55_2, hfz55_0, hfz55_1, hfz55_2⟩ := xT3 (W := w54) BK370.out) | (go_at_call 54; (with_reducible refine (impl_cellsOk.calls k3 _ _ l0_1 false _ ?side1 ?side2 A42.out).mono ?_); (case side1 => exact xC (Kd.C_below HR0_1.out HB.out)); (case side2 => exact HC0_1.out); rintro e w56 ⟨rfl, hb⟩; replace HO_5 := am (Kd.R_below (xR HO_5.out) hb); replace BK370 := am (blk_below (xB BK370.out) hb); replace HB := am (below_step (xW HB.out) hb); (try clear hb); ))
              repeat (go_quiet (first | (go_at_call 54; (with_reducible refine (impl_cellsOk.calls k3 _ _ l0_0 true _ ?side1 ?side2 A40.out).mono ?_); (case side1 => exact xC (Kd.C_below HR0_0.out HB.out)); (case side2 => exact HC0_0.out); rintro e w54 ⟨rfl, hb⟩; replace HO_5 := am (Kd.R_below (xR HO_5.out) hb); replace BK370 := am (blk_below (xB BK370.out) hb); replace HB := am (below_step (xW HB.out) hb); (try clear hb); obtain ⟨hcz55_0, hcz55_1, hcz55_2, hfz55_0, hfz55_1, hfz55_2⟩ := xT3 (W := w54) BK370.out) | (go_at_call 54; (with_reducible refine (impl_cellsOk.calls k3 _ _ l0_1 false _ ?side1 ?side2 A42.out).mono ?_); (case side1 => exact xC (Kd.C_below HR0_1.out HB.out)); (case side2 => exact HC0_1.out); rintro e w56 ⟨rfl, hb⟩; replace HO_5 := am (Kd.R_below (xR HO_5.out) hb); replace BK370 := am (blk_below (xB BK370.out) hb); replace HB := am (below_step (xW HB.out) hb); (try clear hb); )); try go_wp2_with (first | (go_at_call 54; (with_reducible refine (impl_cellsOk.calls k3 _ _ l0_0 true _ ?side1 ?side2 A40.out).mono ?_); (case side1 => exact xC (Kd.C_below HR0_0.out HB.out)); (case side2 => exact HC0_0.out); rintro e w54 ⟨rfl, hb⟩; replace HO_5 := am (Kd.R_below (xR HO_5.out) hb); replace BK370 := am (blk_below (xB BK370.out) hb); replace HB := am (below_step (xW HB.out) hb); (try clear hb); obtain ⟨hcz55_0, hcz55_1, hcz55_2, hfz55_0, hfz55_1, hfz55_2⟩ := xT3 (W := w54) BK370.out) | (go_at_call 54; (with_reducible refine (impl_cellsOk.calls k3 _ _ l0_1 false _ ?side1 ?side2 A42.out).mono ?_); (case side1 => exact xC (Kd.C_below HR0_1.out HB.out)); (case side2 => exact HC0_1.out); rintro e w56 ⟨rfl, hb⟩; replace HO_5 := am (Kd.R_below (xR HO_5.out) hb); replace BK370 := am (blk_below (xB BK370.out) hb); replace HB := am (below_step (xW HB.out) hb); (try clear hb); )))
              go_ret
              exact ⟨xV, xW HB.out⟩
            ·replace c41 := Bool.eq_false_iff.mpr c41
             subst c41
             have H1 : (some false) = some r := by rw [if_neg (show ¬ (false = true) by decide)] at H; exact H
             clear H
             have H := H1
             clear H1
             obtain rfl := Option.some.inj H
             obtain ⟨Ao57, co57, eo57⟩ := Kd.R_slice HO_5.out
             subst eo57
             obtain ⟨hcz58_0, hcz58_1, hcz58_2, hfz58_0, hfz58_1, hfz58_2⟩ := xT3 (W := wr) BK370.out
             go_wp2_with (first | (go_at_call 54; (with_reducible refine (impl_cellsOk.calls k3 _ _ l0_0 false _ ?side1 ?side2 A40.out).mono ?_); (case side1 => exact xC (Kd.C_below HR0_0.out HB.out)); (case side2 => exact HC0_0.out); rintro e w59 ⟨rfl, hb⟩; replace HO_5 := am (Kd.R_below (xR HO_5.out) hb); replace BK370 := am (blk_below (xB BK370.out) hb); replace HB := am (below_step (xW HB.out) hb); (try clear hb); ))
             repeat (go_quiet (first | (go_at_call 54; (with_reducible refine (impl_cellsOk.calls k3 _ _ l0_0 false _ ?side1 ?side2 A40.out).mono ?_); (case side1 => exact xC (Kd.C_below HR0_0.out HB.out)); (case side2 => exact HC0_0.out); rintro e w59 ⟨rfl, hb⟩; replace HO_5 := am (Kd.R_below (xR HO_5.out) hb); replace BK370 := am (blk_below (xB BK370.out) hb); replace HB := am (below_step (xW HB.out) hb); (try clear hb); )); try go_wp2_with (first | (go_at_call 54; (with_reducible refine (impl_cellsOk.calls k3 _ _ l0_0 false _ ?side1 ?side2 A40.out).mono ?_); (case side1 => exact xC (Kd.C_below HR0_0.out HB.out)); (case side2 => exact HC0_0.out); rintro e w59 ⟨rfl, hb⟩; replace HO_5 := am (Kd.R_below (xR HO_5.out) hb); replace BK370 := am (blk_below (xB BK370.out) hb); replace HB := am (below_step (xW HB.out) hb); (try clear hb); )))
             go_ret
             exact ⟨xV, xW HB.out⟩
     ·rw [if_neg c16] at H
      exact absurd H (by simp)
    ·rw [if_neg c15] at H
     exact absurd H (by simp)
def impl_Cell_50.f (l0 : List (S57)) : Option ((List (S57))) := (some (([] : List (S57)) : List (S57))).bind fun y388 => (if y388.length + l0.length < 5864062014805 then (some (y388 ++ l0)) else (none))
set_option maxHeartbeats 8000000 in
set_option maxRecDepth 100000 in
theorem impl_Cell_50.calls (A0 : Option Addr) (c0 : Nat) (l0 : List (S57)) (r : List (S57)) (w : World) (hr0 : Kd.C k57 w A0 l0.length l0) (hc0 : l0.length ≤ c0) (h : impl_Cell_50.f l0 = some r) :
  Calls Try.prog 50 #[.slice A0 l0.length c0] w fun e w' => ∃ v0_ : Value, e = .returned (v0_) ∧ Kd.R k57 57 w' w.heap.size (fun _ => True) v0_ r ∧ Below w.heap.size w w' := by
 have HR0 := am hr0
 have HC0 := am hc0
 clear hr0 hc0
 have HB := am (Below.refl w.heap.size w)
 have H : ((some (([] : List (S57)) : List (S57))).bind fun y388 => (if y388.length + l0.length < 5864062014805 then (some (y388 ++ l0)) else (none))) = some r := h
 clear h
 obtain ⟨y388, hy388⟩ : ∃ y_ : List (S57), y_ = (([] : List (S57))) := ⟨_, rfl⟩
 replace H : (if y388.length + l0.length < 5864062014805 then (some (y388 ++ l0)) else (none)) = some r := by first | (rw [hy388]; with_reducible exact H) | (have H2_ := (Option.bind_some _ _).symm.trans H; rw [hy388]; with_reducible exact H2_) | (have H2_ := (Option.bind_some _ _).symm.trans H; with_reducible exact H2_) | with_reducible exact H | (rw [hy388]; exact H) | exact H
 have Ny388 := am hy388
 clear hy388
 by_cases c2 : y388.length + l0.length < 5864062014805
 ·rw [if_pos c2] at H
  have LMc2 := am c2
  clear c2
  obtain ⟨y391, hy391⟩ : ∃ y_ : List (S57), y_ = (y388 ++ l0) := ⟨_, rfl⟩
  replace H : (some y391) = some r := by first | (rw [hy391]; with_reducible exact H) | (have H2_ := (Option.bind_some _ _).symm.trans H; rw [hy391]; with_reducible exact H2_) | (have H2_ := (Option.bind_some _ _).symm.trans H; with_reducible exact H2_) | with_reducible exact H | (rw [hy391]; exact H) | exact H
  have Ny391 := am hy391
  clear hy391
  obtain rfl := Option.some.inj H
  have q24_ : ∀ (w : World) (a : Option Addr) (n c n' c' : Nat), (binOp .eql 24 (.slice a n c) (.slice none n' c')).run Try.prog w = .ok (.bool a.isNone) w := fun w a n c n' c' => Lib.run_eql_slice_nil w _ _ a n c n' c' Try.underlying24
  rcases A0 with _ | ad0_
  ·have hl0_ : l0 = [] := by
    rcases Nat.eq_zero_or_pos l0.length with h_ | h_
    ·exact List.eq_nil_of_length_eq_zero h_
    ·obtain ⟨ad_, e_, _⟩ := HR0.out.2.2 h_
     cases e_
   have hr0_ : y391 = [] := by rw [Ny391.out, Ny388.out, hl0_]; rfl
   clear Ny391 Ny388 HR0 HC0 LMc2
   subst hl0_ hr0_
   go_enter Try.func50, Try.ntmps50
   go_wp2
   go_ret
   exact ⟨_, rfl, Kd.R_nil _ _ _ _ _, Below.refl _ _⟩
  ·go_enter Try.func50, Try.ntmps50
   go_wp2_with (first | ((with_reducible refine gate_dst (N := 5) rfl ?_); refine Kd.R_lit k57 _ 57 ?hg (N := 5) ?hd (xs := ([] : List (S57))) (inner := []) (ok := fun _ => True) (okp := fun _ => True) ?hr ?hp (fun _ hk => hk) trivial (Below.refl _ _) (Nat.le_refl _) (by simp) ?_; (case hd => rfl); (case hg => rfl); (case hr => first | (go_simp; done) | (go_simp; rfl)); (case hp => exact (Reps.none _ _)); intro v389 w3 ho4 hb hg_ hnew_; clear hg_ hnew_; (first | rw [← Ny388.out] at ho4 | (simp only [Int.reduceToNat] at ho4; rw [← Ny388.out] at ho4)); have HO390 := am (Kd.R_lower ho4 (below_size (xW HB.out))); replace HB := am (below_step (xW HB.out) hb); clear hb ho4) | ((with_reducible refine gate_builtin (b := .append) (xs := #[.tmp 5, .tmp 6]) rfl ?_); at_builtin; refine Kd.R_append_rows k57 (w0 := w) w.heap.size rfl (.tmp 5) (.tmp 6) 24 57 (.agg #[(.string ⟨#[]⟩), (.int .i64 0)]) 24 rfl Try.underlying24 info57 rfl (by decide) (by omega) v389 y388 l0 _ _ _ (fun _ => True) (fun _ => False) rfl rfl ?aO ?aR (fun _ _ h => h) (fun _ h => h.elim) ?aF ?aB ?aS ?aL ?_; (case aR => repeat (first | exact (Kd.C_below HR0.out HB.out) | (with_reducible refine Kd.C_alloc ?_ _) | (with_reducible refine Kd.C_drewN ?_ _) | (with_reducible refine Kd.C_drew ?_))); (case aB => exact (xW HB.out)); (case aF => exact (fun _ _ => trivial)); (case aO => exact (xR HO390.out)); (case aS => exact (below_size (xW HB.out))); (case aL => have := LMc2.out; omega); intro v392 w5 ho hb hg hat; rw [← Ny391.out] at ho; replace HB := am (hb); have HO393 := am (ho); clear HO390; clear ho hb hg hat))
   go_ret
   exact ⟨_, xV, xR HO393.out, xW HB.out⟩
 ·rw [if_neg c2] at H
  exact absurd H (by simp)
end Go.Proofs.Ytmahoekbedgbcaa.HFnGrows
