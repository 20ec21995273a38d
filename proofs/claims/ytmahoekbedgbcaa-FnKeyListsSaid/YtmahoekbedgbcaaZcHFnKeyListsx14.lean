/- What the row of the law needs of the printed and the plain texts. -/
import Derived.Test.YtmahoekbedgbcaaZcHX
import Derived.Test.YtmahoekbedgbcaaZcHFnKeyListsx0
import Derived.Test.YtmahoekbedgbcaaZcHFnKeyListsx2
import Derived.Test.YtmahoekbedgbcaaZcHFnKeyListsx10
import Derived.Test.YtmahoekbedgbcaaZcHFnKeyListsx12
import Derived.Test.YtmahoekbedgbcaaZcHFnKeyListsx13
namespace Go.Proofs.Ytmahoekbedgbcaa.HFnKeyLists
open Go.RowKit Go.Proofs.YtmahoekbedgbcaaW.PrintWords Go.Proofs.YtmahoekbedgbcaaW.PrintLast Go.Proofs.YtmahoekbedgbcaaW.PrintMore
attribute [local go_sem] max2_int min2_int max_two min_two max_three min_three max_four min_four
set_option linter.unusedVariables false
set_option linter.unusedSimpArgs false
theorem geq_text14 (t : TypeId) (a b : ByteArray) : binOp .geq t (.string a) (.string b) = pure (.bool !(Op.bytesLess a.toList b.toList)) := by simp [binOp, Op.stringOp]
attribute [local go_sem] geq_text14
mutual
def laws_FnKeyLists.l0 : Nat → List ByteArray → List ByteArray → Int → Int → List (S57) → List (S57) → Int → Option (Bool)
 | 0, _, _, _, _, _, _, _ => none
 | k + 1, x5, x6, x7, x8, x427000, x427001, x427002 => if x8 < (x6.length : Int) then (if 0 ≤ x8 then ((impl_SeekKey.f k x427000 x427001 x427002 (rdOf ByteArray.empty x6 x8)).bind fun bt434 => ((laws_has.f k x5 (rdOf ByteArray.empty x6 x8)).bind fun t437 => (if (bt434.2 != t437) = true then (some false) else (if bt434.2 = true then (laws_FnKeyLists.l0 k x5 x6 (wrap64 (x7 + 1)) (wrap64 (x8 + 1)) x427000 x427001 x427002) else (laws_FnKeyLists.l0 k x5 x6 x7 (wrap64 (x8 + 1)) x427000 x427001 x427002))))) else (none)) else (laws_FnKeyLists.l1 k x5 x7 1)
def laws_FnKeyLists.l1 : Nat → List ByteArray → Int → Int → Option (Bool)
 | 0, _, _, _ => none
 | k + 1, x5, x7, x11 => if x11 < (x5.length : Int) then (if 0 ≤ (wrap64 (x11 - 1)) then (if (wrap64 (x11 - 1)) < (x5.length : Int) then (if 0 ≤ x11 then (if ((Op.bytesLess ((rdOf ByteArray.empty x5 (wrap64 (x11 - 1))).toList) ((rdOf ByteArray.empty x5 x11).toList)) = true) then (laws_FnKeyLists.l1 k x5 x7 (wrap64 (x11 + 1))) else (some false)) else (none)) else (none)) else (none)) else ((impl_TableNew.f 8).bind fun bt440 => (if x7 = (x5.length : Int) then (if bt440.2.2.2 = true then ((impl_KeysOf.f k bt440.1 bt440.2.1 bt440.2.2.1).bind fun t449 => (if (t449.length : Int) = 0 then ((impl_TableOk.f k bt440.1 bt440.2.1 bt440.2.2.1).bind fun t452 => (some t452)) else (some false))) else (some false)) else (some false)))
end
def laws_FnKeyLists.f (k : Nat) (l0 : List Int) : Option (Bool) := (laws_big.f l0).bind fun t417 => (if t417 = true then (some true) else ((spec_DrawRightTable.f k l0).bind fun bt418 => ((impl_KeysOf.f k bt418.1 bt418.2.1 bt418.2.2.1).bind fun t427 => ((laws_names.f).bind fun t430 => (laws_FnKeyLists.l0 k t427 t430 0 0 bt418.1 bt418.2.1 bt418.2.2.1)))))
def laws_FnKeyLists.T10 : Bool × List (List Nat × List Nat) := (true, [([], []), ([], []), ([], []), ([1, 2], [1, 2]), ([3], [3]), ([0, 4], [0, 4]), ([5], [5]), ([6], [6]), ([6], [6]), ([7, 5, 0, 1, 2, 3, 4, 5, 6, 7], [7]), ([8, 9, 0, 1, 2, 3, 4, 5, 6, 7, 8, 9], [8])])
def laws_FnKeyLists.B10 : List Nat := [0, 0, 0, 6, 14, 31, 63, 127, 127, 255, 1023]
theorem laws_FnKeyLists.tab10 : rtab .any (opsOf Try.f10 10) = laws_FnKeyLists.T10 := by kernel_rfl
theorem laws_FnKeyLists.bits10 : waitsOk laws_FnKeyLists.T10.2 laws_FnKeyLists.B10 = true := by kernel_rfl
def laws_FnKeyLists.T18 : Bool × List (List Nat × List Nat) := (true, [([], []), ([], []), ([1], [1]), ([0, 2], [0, 2]), ([3], [3]), ([], []), ([], []), ([5, 6], [5, 6]), ([7], [7]), ([4, 8], [4, 8])])
def laws_FnKeyLists.B18 : List Nat := [0, 0, 2, 7, 15, 0, 0, 96, 224, 511]
theorem laws_FnKeyLists.tab18 : rtab .any (opsOf Try.f10 18) = laws_FnKeyLists.T18 := by kernel_rfl
theorem laws_FnKeyLists.bits18 : waitsOk laws_FnKeyLists.T18.2 laws_FnKeyLists.B18 = true := by kernel_rfl
set_option maxHeartbeats 8000000 in
set_option maxRecDepth 100000 in
theorem laws_FnKeyLists.calls (k : Nat) (A0 : Option Addr) (c0 : Nat) (l0 : List Int) (r : Bool) (w : World) (hr0 : Kd.C (Kd.int .u8) w A0 l0.length l0) (hc0 : l0.length ≤ c0) (h : laws_FnKeyLists.f k l0 = some r) :
  Calls Try.prog 10 #[.slice A0 l0.length c0] w fun e w' => e = .returned (.bool r) ∧ Below w.heap.size w w' := by
 have hu26 := Try.underlying26
 have HR0 := am hr0
 have HC0 := am hc0
 clear hr0 hc0
 have HB := am (Below.refl w.heap.size w)
 have H : ((laws_big.f l0).bind fun t417 => (if t417 = true then (some true) else ((spec_DrawRightTable.f k l0).bind fun bt418 => ((impl_KeysOf.f k bt418.1 bt418.2.1 bt418.2.2.1).bind fun t427 => ((laws_names.f).bind fun t430 => (laws_FnKeyLists.l0 k t427 t430 0 0 bt418.1 bt418.2.1 bt418.2.2.1)))))) = some r := h
 clear h
 replace H := Option.bind_eq_some_iff.mp H
 obtain ⟨t417, A20, H⟩ := H
 try dsimp only at H
 have A2 := am A20
 clear A20
 by_cases c3 : t417 = true
 ·subst c3
  have H1 : (some true) = some r := by rw [if_pos rfl] at H; exact H
  clear H
  have H := H1
  clear H1
  obtain rfl := Option.some.inj H
  go_enter Try.func10, Try.ntmps10
  go_wp2_with (first | ((with_reducible refine gate_callee (f := 14) rfl ?_); refine xG (some 15) 14 Try.func14 #[.slice A0 l0.length c0] (h := ?_); (with_reducible refine (laws_big.calls _ _ l0 true _ ?side1 ?side2 A2.out).mono ?_); (case side1 => exact xC (HR0.out)); (case side2 => exact HC0.out); rintro e w' ⟨rfl, ⟨nd, rfl⟩⟩; refine ⟨_, rfl, ?_⟩))
  go_ret
  exact ⟨xV, xW HB.out⟩
 ·replace c3 := Bool.eq_false_iff.mpr c3
  subst c3
  have H1 : ((spec_DrawRightTable.f k l0).bind fun bt418 => ((impl_KeysOf.f k bt418.1 bt418.2.1 bt418.2.2.1).bind fun t427 => ((laws_names.f).bind fun t430 => (laws_FnKeyLists.l0 k t427 t430 0 0 bt418.1 bt418.2.1 bt418.2.2.1)))) = some r := by rw [if_neg (show ¬ (false = true) by decide)] at H; exact H
  clear H
  have H := H1
  clear H1
  replace H := Option.bind_eq_some_iff.mp H
  obtain ⟨⟨t418, t421, t424, t425⟩, A40, H⟩ := H
  try dsimp only at H
  have A4 := am A40
  clear A40
  replace H := Option.bind_eq_some_iff.mp H
  obtain ⟨t427, A50, H⟩ := H
  try dsimp only at H
  have A5 := am A50
  clear A50
  replace H := Option.bind_eq_some_iff.mp H
  obtain ⟨t430, A60, H⟩ := H
  try dsimp only at H
  have A6 := am A60
  clear A60
  have H' := am H
  clear H
  go_enter Try.func10, Try.ntmps10
  go_wp2_with (first | ((with_reducible refine gate_callee (f := 14) rfl ?_); refine xG (some 15) 14 Try.func14 #[.slice A0 l0.length c0] (h := ?_); (with_reducible refine (laws_big.calls _ _ l0 false _ ?side1 ?side2 A2.out).mono ?_); (case side1 => exact xC (HR0.out)); (case side2 => exact HC0.out); rintro e w' ⟨rfl, ⟨nd, rfl⟩⟩; refine ⟨_, rfl, ?_⟩) | ((with_reducible refine gate_callee (f := 15) rfl ?_); refine xG (some 18) 15 Try.func15 #[.slice A0 l0.length c0] (h := ?_); (with_reducible refine (spec_DrawRightTable.calls k _ _ l0 t418 t421 t424 t425 _ ?side1 ?side2 A4.out).mono ?_); (case side1 => exact xC (HR0.out)); (case side2 => exact HC0.out); rintro e w7 ⟨v419, v422, rfl, ho0, ho1, hb⟩; refine ⟨_, rfl, ?_⟩; have HO420 := am (Kd.R_lower ho0 (below_size (xW HB.out))); have HO423 := am (Kd.R_lower ho1 (below_size (xW HB.out))); replace HB := am (below_step (xW HB.out) hb); (try clear hb); (try clear ho0); (try clear ho1)) | ((with_reducible refine gate_dst (N := 3) rfl ?_); (try (refine gate_guard (by rfl) ?_; dsimp only)); refine xE (N := 3) (cs := #[.slice none 0 0, .slice none 0 0, .int .i64 0]) (t := 26) (h := ?_); intro gb426 hg w8 hbox hb; replace HO420 := am (Kd.R_below (xR HO420.out) hb); replace HO423 := am (Kd.R_below (xR HO423.out) hb); have BK426 := am (hbox); have GW426 := am (xS hg HB.out); have GE426 := am (xS hg HB.out); replace HB := am (below_step (xW HB.out) hb); clear hb hbox hg; obtain ⟨Ao9, co9, eo9⟩ := Kd.R_slice HO420.out; subst eo9; obtain ⟨hcz10_0, hcz10_1, hcz10_2, hfz10_0, hfz10_1, hfz10_2⟩ := xT3 (W := w8) BK426.out; obtain ⟨Ao11, co11, eo11⟩ := Kd.R_slice HO423.out; subst eo11) | ((with_reducible refine gate_callee (f := 20) rfl ?_); refine xG (some 22) 20 Try.func20 #[.agg #[.slice Ao9 t418.length co9, .slice Ao11 t421.length co11, .int .i64 t424]] (h := ?_); (with_reducible refine (impl_KeysOf.calls k _ _ t418 _ _ t421 t424 t427 _ ?side1 ?side2 ?side3 ?side4 A5.out).mono ?_); (case side1 => refine (Kd.R_reads' (e := 57) (base := w.heap.size) (ok := fun k_ => some k_ ≠ (.slice Ao11 t421.length co11 : Value).ownBlock) (n := t418.length) (c := co9) ?_).2.2; exact (by (with_reducible repeat (first | apply Kd.R_alloc | apply Kd.R_drewN | apply Kd.R_drew)); exact (Kd.R_mono (Kd.R_far (p := ⟨gb426, 2, none⟩) (Kd.R_far (p := ⟨gb426, 1, none⟩) (Kd.R_far (p := ⟨gb426, 0, none⟩) (Kd.R_types HO420.out BK426.out (by decide)) (fun _ hk => by first | exact hk.2 | (simp [hk])) (.slice Ao9 t418.length co9)) (fun _ hk => by first | exact hk.2 | (simp [hk])) (.slice Ao11 t421.length co11)) (fun _ hk => by first | exact hk.2 | (simp [hk])) (.int .i64 t424)) (fun _ h_ => h_.1)))); (case side2 => exact (Kd.R_reads' HO420.out).2.1); (case side3 => refine (Kd.R_reads' (e := 57) (base := w.heap.size) (ok := fun k_ => some k_ ≠ (.slice Ao9 t418.length co9 : Value).ownBlock) (n := t421.length) (c := co11) ?_).2.2; exact (by (with_reducible repeat (first | apply Kd.R_alloc | apply Kd.R_drewN | apply Kd.R_drew)); exact (Kd.R_mono (Kd.R_far (p := ⟨gb426, 2, none⟩) (Kd.R_far (p := ⟨gb426, 1, none⟩) (Kd.R_far (p := ⟨gb426, 0, none⟩) (Kd.R_types HO423.out BK426.out (by decide)) (fun _ hk => by first | exact hk.2 | (simp [hk])) (.slice Ao9 t418.length co9)) (fun _ hk => by first | exact hk.2 | (simp [hk])) (.slice Ao11 t421.length co11)) (fun _ hk => by first | exact hk.2 | (simp [hk])) (.int .i64 t424)) (fun _ h_ => h_.1)))); (case side4 => exact (Kd.R_reads' HO423.out).2.1); rintro e w12 ⟨v428, rfl, ho0, hb⟩; refine ⟨_, rfl, ?_⟩; replace HO420 := am (Kd.R_below (by (with_reducible repeat (first | apply Kd.R_alloc | apply Kd.R_drewN | apply Kd.R_drew)); exact (Kd.R_mono (Kd.R_far (p := ⟨gb426, 2, none⟩) (Kd.R_far (p := ⟨gb426, 1, none⟩) (Kd.R_far (p := ⟨gb426, 0, none⟩) (Kd.R_types HO420.out BK426.out (by decide)) (fun _ hk => by first | exact hk.2 | (simp [hk])) (.slice Ao9 t418.length co9)) (fun _ hk => by first | exact hk.2 | (simp [hk])) (.slice Ao11 t421.length co11)) (fun _ hk => by first | exact hk.2 | (simp [hk])) (.int .i64 t424)) (fun _ h_ => h_.1))) hb); replace HO423 := am (Kd.R_below (by (with_reducible repeat (first | apply Kd.R_alloc | apply Kd.R_drewN | apply Kd.R_drew)); exact (Kd.R_mono (Kd.R_far (p := ⟨gb426, 2, none⟩) (Kd.R_far (p := ⟨gb426, 1, none⟩) (Kd.R_far (p := ⟨gb426, 0, none⟩) (Kd.R_types HO423.out BK426.out (by decide)) (fun _ hk => by first | exact hk.2 | (simp [hk])) (.slice Ao9 t418.length co9)) (fun _ hk => by first | exact hk.2 | (simp [hk])) (.slice Ao11 t421.length co11)) (fun _ hk => by first | exact hk.2 | (simp [hk])) (.int .i64 t424)) (fun _ h_ => h_.1))) hb); have HO429 := am (Kd.R_lower ho0 (below_size (xW HB.out))); replace BK426 := am (blk_below (xP BK426.out) hb); replace HB := am (below_step (xW HB.out) hb); (try clear hb); (try clear ho0)) | ((with_reducible refine gate_callee (f := 39) rfl ?_); refine xG (some 23) 39 Try.func39 #[] (h := ?_); (with_reducible refine (laws_names.calls  t430 _ A6.out).mono ?_); rintro e w13 ⟨v431, rfl, ho0, hb⟩; refine ⟨_, rfl, ?_⟩; replace HO420 := am (Kd.R_below (xR HO420.out) hb); replace HO423 := am (Kd.R_below (xR HO423.out) hb); have HO432 := am (Kd.R_lower (Kd.R_new' ho0 (Kd.R_lt (xR HO429.out))) (below_size (xW HB.out))); replace HO429 := am (Kd.R_elder' (xR HO429.out) (Kd.R_base ho0) hb); replace BK426 := am (blk_below (xB BK426.out) hb); replace HB := am (below_step (xW HB.out) hb); (try clear hb); (try clear ho0)))
  go_loopg [7, 8] k (fun kq v7 v8 w' => ∃ (x7_1 : Int) (x8_1 : Int), v7 = .int .i64 x7_1 ∧ v8 = .int .i64 x8_1 ∧ Aside0 (laws_FnKeyLists.l0 kq t427 t430 x7_1 x8_1 t418 t421 t424 = some r) ∧ Aside0 (kq ≤ k) ∧ Aside0 (Kd.R Kd.string 9 w' w.heap.size (fun k_ => some k_ ≠ (v431 : Value).ownBlock) v428 t427) ∧ Aside0 (Kd.R Kd.string 9 w' w.heap.size (fun k_ => some k_ ≠ (v428 : Value).ownBlock) v431 t430) ∧ Aside0 (Kd.R k57 57 w' w.heap.size (fun k_ => some k_ ≠ ((.slice Ao11 t421.length co11) : Value).ownBlock) (.slice Ao9 t418.length co9) t418) ∧ Aside0 (Kd.R k57 57 w' w.heap.size (fun k_ => some k_ ≠ ((.slice Ao9 t418.length co9) : Value).ownBlock) (.slice Ao11 t421.length co11) t421) ∧ Aside0 (w'.heap[gb426]? = some (.cells #[(.slice Ao9 t418.length co9), (.slice Ao11 t421.length co11), .int .i64 t424] 26 (0, 0))) ∧ Aside0 (Below w.heap.size w w'))
  case atStart => exact ⟨(0), (0), (by first | rfl | (simp; done) | (simp [*]; done)), (xQ), H', ⟨Nat.le_refl _⟩, ⟨Kd.R_mono (xR HO429.out) (fun _ hk => by first | exact hk.2 | (simp [hk]))⟩, ⟨Kd.R_mono (xR HO432.out) (fun _ hk => by first | exact hk.2 | (simp [hk]))⟩, ⟨xR HO420.out⟩, ⟨xR HO423.out⟩, ⟨xB BK426.out⟩, ⟨xW HB.out⟩⟩
  case round =>
   clear H'
   try clear c1
   try clear c2
   try clear p2
   try clear c3
   try clear c10
   try clear hcz10_0
   try clear hcz10_1
   try clear hcz10_2
   try clear hfz10_0
   try clear hfz10_1
   try clear hfz10_2
   obtain ⟨x7_1, x8_1, rfl, rfl, HA, HK1, HO_5, HO_6, HO_427000, HO_427001, BK426, HB⟩ := hrel
   cases gk with
   | zero => exact absurd HA.out (by simp [laws_FnKeyLists.l0])
   | succ k1 =>
    have H := HA.out
    clear HA
    simp only [laws_FnKeyLists.l0] at H
    by_cases c14 : x8_1 < (t430.length : Int)
    ·rw [if_pos c14] at H
     have c14b0 : decide (x8_1 < (t430.length : Int)) = true := decide_eq_true c14
     clear c14
     by_cases c15 : 0 ≤ x8_1
     ·rw [if_pos c15] at H
      have c15b0 : decide (0 ≤ x8_1) = true := decide_eq_true c15
      clear c15
      replace H := Option.bind_eq_some_iff.mp H
      obtain ⟨⟨t434, t435⟩, A160, H⟩ := H
      try dsimp only at H
      have A16 := am A160
      clear A160
      replace H := Option.bind_eq_some_iff.mp H
      obtain ⟨t437, A170, H⟩ := H
      try dsimp only at H
      have A17 := am A170
      clear A170
      by_cases c18 : (t435 != t437) = true
      ·rw [if_pos c18] at H
       have c18b0 : (t435 != t437) = true := c18
       (try (have c18b1 : decide (t435 = t437) = false := by simpa using c18))
       (try (have c18b2 : (t435 == t437) = false := by simpa using c18))
       (try (have c18b3 : ¬ (t435 = t437) := by simpa using c18))
       clear c18
       obtain rfl := Option.some.inj H
       obtain ⟨Ao19, co19, eo19⟩ := Kd.R_slice HO_6.out
       subst eo19
       try go_wp2
       replace HO_5 := am (Kd.R_drew HO_5.out)
       replace HO_6 := am (Kd.R_drew HO_6.out)
       replace HO_427000 := am (Kd.R_drew HO_427000.out)
       replace HO_427001 := am (Kd.R_drew HO_427001.out)
       replace BK426 := am (blk_drew BK426.out)
       replace HB := am (below_drew1 HB.out)
       have p433 : 0 ≤ (x8_1 : Int) := of_decide_eq_true (by assumption)
       have q433 : x8_1 < (t430.length : Int) := of_decide_eq_true (by assumption)
       obtain ⟨ad433, e433, hx433_0⟩ := Kd.at_string (Kd.R_reads' HO_6.out).2.2 x8_1 p433 q433
       cases e433
       replace p433 := eq_true p433
       replace q433 := eq_true q433
       refine start_ (n := 11) (S := fun w' => w'.cell? ⟨gb426, 0, none⟩ = some (.slice Ao9 t418.length co9) ∧ w'.cell? ⟨gb426, 1, none⟩ = some (.slice Ao11 t421.length co11) ∧ w'.cell? ⟨gb426, 2, none⟩ = some (.int .i64 t424) ∧ w'.cell? (ad433.add (x8_1).toNat) = some (.string (rdOf ByteArray.empty t430 x8_1))) (ds := []) #[false, false, false, false, false, false, false, false, false, false, false] (by kernel_rfl) rfl rfl ⟨(blk_cell BK426.out 0).trans rfl, (blk_cell BK426.out 1).trans rfl, (blk_cell BK426.out 2).trans rfl, hx433_0⟩ (fun hHeld => ?_); refine with_tabW laws_FnKeyLists.tab10 laws_FnKeyLists.bits10 (fun HT_ HW_ => ?_)
       generalize wr.drew = w20 at HO_5 HO_6 HO_427000 HO_427001 BK426 HB hx433_0 hHeld ⊢
       refine xP1 (i := 1) (N := some 32) #[false, true, false, false, false, false, false, false, false, false, false] (any_of HT_.out (by kernel_rfl)) (h := ?_)
       refine xP1 (i := 2) (N := some 33) #[false, true, true, false, false, false, false, false, false, false, false] (any_of HT_.out (by kernel_rfl)) (h := ?_)
       refine xP1 (i := 3) (N := some 34) #[false, true, true, true, false, false, false, false, false, false, false] (any_of HT_.out (by kernel_rfl)) (h := ?_)
       refine take_ (i := 0) (N := some 31) (v := ?_) (a' := ?_) #[true, true, true, true, false, false, false, false, false, false, false] rfl rfl (take_ofW HT_.out HW_.out (by kernel_rfl)) (fun _ _ _ h => h) (Or.inl ⟨by rfl, ?_⟩) hHeld ?_ ?_
       rotate_left
       ·rintro w' ⟨s0, s1, s2, s3⟩
        go_simp
        with_reducible rfl
       rotate_left
       ·simp only [Act.put, List.setIfInBounds_toArray, List.set_cons_zero, List.set_cons_succ, i64_w, i32_w]
        rfl
       refine take_ (i := 4) (N := some 35) (v := ?_) (a' := ?_) #[true, true, true, true, true, false, false, false, false, false, false] rfl rfl (take_ofW HT_.out HW_.out (by kernel_rfl)) (fun _ _ _ h => h) (Or.inl ⟨by rfl, ?_⟩) hHeld ?_ ?_
       rotate_left
       ·rintro w' ⟨s0, s1, s2, s3⟩
        go_simp
        with_reducible rfl
       rotate_left
       ·simp only [Act.put, List.setIfInBounds_toArray, List.set_cons_zero, List.set_cons_succ, i64_w, i32_w]
        rfl
       refine one_ (i := 5) (N := some 36) #[true, true, true, true, true, true, false, false, false, false, false] rfl rfl (one_of HT_.out (by kernel_rfl)) (by decide) (fun K hK => ?_)
       refine xG1 23 Try.func23 #[.agg #[.slice Ao9 t418.length co9, .slice Ao11 t421.length co11, .int .i64 t424], .string (rdOf ByteArray.empty t430 x8_1)] (h := ?_)
       with_reducible refine (impl_SeekKey.calls k1 _ _ t418 _ _ t421 t424 (rdOf ByteArray.empty t430 x8_1) t434 t435 _ ?side1 ?side2 ?side3 ?side4 A16.out).mono ?_
       (case side1 => exact xC ((Kd.R_reads' HO_427000.out).2.2))
       (case side2 => exact (Kd.R_reads' HO_427000.out).2.1)
       (case side3 => exact xC ((Kd.R_reads' HO_427001.out).2.2))
       (case side4 => exact (Kd.R_reads' HO_427001.out).2.1)
       rintro e w21 ⟨rfl, hb⟩
       have HS3_ := (hb.cell (World.block_lt_of_cell? _ _ (hHeld.2.2.2))).trans (hHeld.2.2.2)
       refine ⟨_, rfl, ?_⟩
       replace HO_5 := am (Kd.R_below (xR HO_5.out) hb)
       replace HO_6 := am (Kd.R_below (xR HO_6.out) hb)
       replace HO_427000 := am (Kd.R_below (xR HO_427000.out) hb)
       replace HO_427001 := am (Kd.R_below (xR HO_427001.out) hb)
       replace BK426 := am (blk_below (xB BK426.out) hb)
       replace HB := am (below_step (xW HB.out) hb)
       (try clear hb)
       refine hK.out _ _ ⟨(blk_cell BK426.out 0).trans rfl, (blk_cell BK426.out 1).trans rfl, (blk_cell BK426.out 2).trans rfl, HS3_⟩ (fun hHeld => ?_)
       clear hK K
       refine xN1 (h := ?_)
       refine xP1 (i := 6) (N := some 30) #[true, true, true, true, true, true, true, false, false, false, false] (any_of HT_.out (by kernel_rfl)) (h := ?_)
       refine xP1 (i := 7) (N := some 37) #[true, true, true, true, true, true, true, true, false, false, false] (any_of HT_.out (by kernel_rfl)) (h := ?_)
       refine xP1 (i := 8) (N := some 38) #[true, true, true, true, true, true, true, true, true, false, false] (any_of HT_.out (by kernel_rfl)) (h := ?_)
       refine xP1 (i := 9) (N := some 9) #[true, true, true, true, true, true, true, true, true, true, false] (any_of HT_.out (by kernel_rfl)) (h := ?_)
       refine xP1 (i := 10) (N := some 10) #[true, true, true, true, true, true, true, true, true, true, true] (any_of HT_.out (by kernel_rfl)) (h := ?_)
       refine done_ (done_of HT_.out (by kernel_rfl)) ?_
       have p436 : 0 ≤ (x8_1 : Int) := of_decide_eq_true (by assumption)
       have q436 : x8_1 < (t430.length : Int) := of_decide_eq_true (by assumption)
       obtain ⟨ad436, e436, hx436_0⟩ := Kd.at_string (Kd.R_reads' HO_6.out).2.2 x8_1 p436 q436
       obtain rfl : ad433 = ad436 := (by injection e436)
       replace p436 := eq_true p436
       replace q436 := eq_true q436
       obtain ⟨Ao22, co22, eo22⟩ := Kd.R_slice HO_5.out
       subst eo22
       try go_wp2_with (first | ((with_reducible refine gate_callee (f := 40) rfl ?_); refine xG (some 45) 40 Try.func40 #[.slice Ao22 t427.length co22, .string (rdOf ByteArray.empty t430 x8_1)] (h := ?_); (with_reducible refine (laws_has.calls k1 _ _ t427 (rdOf ByteArray.empty t430 x8_1) t437 _ ?side1 ?side2 A17.out).mono ?_); (case side1 => exact xC ((Kd.R_reads' HO_5.out).2.2)); (case side2 => exact (Kd.R_reads' HO_5.out).2.1); rintro e w' ⟨rfl, ⟨nd, rfl⟩⟩; refine ⟨_, rfl, ?_⟩))
       go_ret
       exact ⟨xV, xW HB.out⟩
      ·rw [if_neg c18] at H
       have c18b0 : (t435 != t437) = false := by simpa using c18
       (try (have c18b1 : decide (t435 = t437) = true := by simpa using c18))
       (try (have c18b2 : (t435 == t437) = true := by simpa using c18))
       clear c18
       by_cases c23 : t435 = true
       ·subst c23
        have H1 : (laws_FnKeyLists.l0 k1 t427 t430 (wrap64 (x7_1 + 1)) (wrap64 (x8_1 + 1)) t418 t421 t424) = some r := by rw [if_pos rfl] at H; exact H
        clear H
        have H := H1
        clear H1
        have H' := am H
        clear H
        obtain ⟨Ao24, co24, eo24⟩ := Kd.R_slice HO_6.out
        subst eo24
        try go_wp2
        replace HO_5 := am (Kd.R_drew HO_5.out)
        replace HO_6 := am (Kd.R_drew HO_6.out)
        replace HO_427000 := am (Kd.R_drew HO_427000.out)
        replace HO_427001 := am (Kd.R_drew HO_427001.out)
        replace BK426 := am (blk_drew BK426.out)
        replace HB := am (below_drew1 HB.out)
        have p433 : 0 ≤ (x8_1 : Int) := of_decide_eq_true (by assumption)
        have q433 : x8_1 < (t430.length : Int) := of_decide_eq_true (by assumption)
        obtain ⟨ad433, e433, hx433_0⟩ := Kd.at_string (Kd.R_reads' HO_6.out).2.2 x8_1 p433 q433
        cases e433
        replace p433 := eq_true p433
        replace q433 := eq_true q433
        refine start_ (n := 11) (S := fun w' => w'.cell? ⟨gb426, 0, none⟩ = some (.slice Ao9 t418.length co9) ∧ w'.cell? ⟨gb426, 1, none⟩ = some (.slice Ao11 t421.length co11) ∧ w'.cell? ⟨gb426, 2, none⟩ = some (.int .i64 t424) ∧ w'.cell? (ad433.add (x8_1).toNat) = some (.string (rdOf ByteArray.empty t430 x8_1))) (ds := []) #[false, false, false, false, false, false, false, false, false, false, false] (by kernel_rfl) rfl rfl ⟨(blk_cell BK426.out 0).trans rfl, (blk_cell BK426.out 1).trans rfl, (blk_cell BK426.out 2).trans rfl, hx433_0⟩ (fun hHeld => ?_); refine with_tabW laws_FnKeyLists.tab10 laws_FnKeyLists.bits10 (fun HT_ HW_ => ?_)
        generalize wr.drew = w25 at HO_5 HO_6 HO_427000 HO_427001 BK426 HB hx433_0 hHeld ⊢
        refine xP1 (i := 1) (N := some 32) #[false, true, false, false, false, false, false, false, false, false, false] (any_of HT_.out (by kernel_rfl)) (h := ?_)
        refine xP1 (i := 2) (N := some 33) #[false, true, true, false, false, false, false, false, false, false, false] (any_of HT_.out (by kernel_rfl)) (h := ?_)
        refine xP1 (i := 3) (N := some 34) #[false, true, true, true, false, false, false, false, false, false, false] (any_of HT_.out (by kernel_rfl)) (h := ?_)
        refine take_ (i := 0) (N := some 31) (v := ?_) (a' := ?_) #[true, true, true, true, false, false, false, false, false, false, false] rfl rfl (take_ofW HT_.out HW_.out (by kernel_rfl)) (fun _ _ _ h => h) (Or.inl ⟨by rfl, ?_⟩) hHeld ?_ ?_
        rotate_left
        ·rintro w' ⟨s0, s1, s2, s3⟩
         go_simp
         with_reducible rfl
        rotate_left
        ·simp only [Act.put, List.setIfInBounds_toArray, List.set_cons_zero, List.set_cons_succ, i64_w, i32_w]
         rfl
        refine take_ (i := 4) (N := some 35) (v := ?_) (a' := ?_) #[true, true, true, true, true, false, false, false, false, false, false] rfl rfl (take_ofW HT_.out HW_.out (by kernel_rfl)) (fun _ _ _ h => h) (Or.inl ⟨by rfl, ?_⟩) hHeld ?_ ?_
        rotate_left
        ·rintro w' ⟨s0, s1, s2, s3⟩
         go_simp
         with_reducible rfl
        rotate_left
        ·simp only [Act.put, List.setIfInBounds_toArray, List.set_cons_zero, List.set_cons_succ, i64_w, i32_w]
         rfl
        refine one_ (i := 5) (N := some 36) #[true, true, true, true, true, true, false, false, false, false, false] rfl rfl (one_of HT_.out (by kernel_rfl)) (by decide) (fun K hK => ?_)
        refine xG1 23 Try.func23 #[.agg #[.slice Ao9 t418.length co9, .slice Ao11 t421.length co11, .int .i64 t424], .string (rdOf ByteArray.empty t430 x8_1)] (h := ?_)
        with_reducible refine (impl_SeekKey.calls k1 _ _ t418 _ _ t421 t424 (rdOf ByteArray.empty t430 x8_1) t434 true _ ?side1 ?side2 ?side3 ?side4 A16.out).mono ?_
        (case side1 => exact xC ((Kd.R_reads' HO_427000.out).2.2))
        (case side2 => exact (Kd.R_reads' HO_427000.out).2.1)
        (case side3 => exact xC ((Kd.R_reads' HO_427001.out).2.2))
        (case side4 => exact (Kd.R_reads' HO_427001.out).2.1)
        rintro e w26 ⟨rfl, hb⟩
        have HS3_ := (hb.cell (World.block_lt_of_cell? _ _ (hHeld.2.2.2))).trans (hHeld.2.2.2)
        refine ⟨_, rfl, ?_⟩
        replace HO_5 := am (Kd.R_below (xR HO_5.out) hb)
        replace HO_6 := am (Kd.R_below (xR HO_6.out) hb)
        replace HO_427000 := am (Kd.R_below (xR HO_427000.out) hb)
        replace HO_427001 := am (Kd.R_below (xR HO_427001.out) hb)
        replace BK426 := am (blk_below (xB BK426.out) hb)
        replace HB := am (below_step (xW HB.out) hb)
        (try clear hb)
        refine hK.out _ _ ⟨(blk_cell BK426.out 0).trans rfl, (blk_cell BK426.out 1).trans rfl, (blk_cell BK426.out 2).trans rfl, HS3_⟩ (fun hHeld => ?_)
        clear hK K
        refine xN1 (h := ?_)
        refine xP1 (i := 6) (N := some 30) #[true, true, true, true, true, true, true, false, false, false, false] (any_of HT_.out (by kernel_rfl)) (h := ?_)
        refine xP1 (i := 7) (N := some 37) #[true, true, true, true, true, true, true, true, false, false, false] (any_of HT_.out (by kernel_rfl)) (h := ?_)
        refine xP1 (i := 8) (N := some 38) #[true, true, true, true, true, true, true, true, true, false, false] (any_of HT_.out (by kernel_rfl)) (h := ?_)
        refine xP1 (i := 9) (N := some 9) #[true, true, true, true, true, true, true, true, true, true, false] (any_of HT_.out (by kernel_rfl)) (h := ?_)
        refine xP1 (i := 10) (N := some 10) #[true, true, true, true, true, true, true, true, true, true, true] (any_of HT_.out (by kernel_rfl)) (h := ?_)
        refine done_ (done_of HT_.out (by kernel_rfl)) ?_
        have p436 : 0 ≤ (x8_1 : Int) := of_decide_eq_true (by assumption)
        have q436 : x8_1 < (t430.length : Int) := of_decide_eq_true (by assumption)
        obtain ⟨ad436, e436, hx436_0⟩ := Kd.at_string (Kd.R_reads' HO_6.out).2.2 x8_1 p436 q436
        obtain rfl : ad433 = ad436 := (by injection e436)
        replace p436 := eq_true p436
        replace q436 := eq_true q436
        obtain ⟨Ao27, co27, eo27⟩ := Kd.R_slice HO_5.out
        subst eo27
        try go_wp2_with (first | ((with_reducible refine gate_callee (f := 40) rfl ?_); refine xG (some 45) 40 Try.func40 #[.slice Ao27 t427.length co27, .string (rdOf ByteArray.empty t430 x8_1)] (h := ?_); (with_reducible refine (laws_has.calls k1 _ _ t427 (rdOf ByteArray.empty t430 x8_1) t437 _ ?side1 ?side2 A17.out).mono ?_); (case side1 => exact xC ((Kd.R_reads' HO_5.out).2.2)); (case side2 => exact (Kd.R_reads' HO_5.out).2.1); rintro e w' ⟨rfl, ⟨nd, rfl⟩⟩; refine ⟨_, rfl, ?_⟩))
        go_roundg k1
        case measure => have := HK1.out; omega
        case rel => exact ⟨(wrap64 (x7_1 + 1)), (wrap64 (x8_1 + 1)), (by first | rfl | (simp; done) | (simp [*]; done)), (xQ), H', ⟨by have := HK1.out; omega⟩, ⟨xR HO_5.out⟩, ⟨xR HO_6.out⟩, ⟨xR HO_427000.out⟩, ⟨xR HO_427001.out⟩, ⟨xB BK426.out⟩, ⟨xW HB.out⟩⟩
       ·replace c23 := Bool.eq_false_iff.mpr c23
        subst c23
        have H1 : (laws_FnKeyLists.l0 k1 t427 t430 x7_1 (wrap64 (x8_1 + 1)) t418 t421 t424) = some r := by rw [if_neg (show ¬ (false = true) by decide)] at H; exact H
        clear H
        have H := H1
        clear H1
        have H' := am H
        clear H
        obtain ⟨Ao28, co28, eo28⟩ := Kd.R_slice HO_6.out
        subst eo28
        try go_wp2
        replace HO_5 := am (Kd.R_drew HO_5.out)
        replace HO_6 := am (Kd.R_drew HO_6.out)
        replace HO_427000 := am (Kd.R_drew HO_427000.out)
        replace HO_427001 := am (Kd.R_drew HO_427001.out)
        replace BK426 := am (blk_drew BK426.out)
        replace HB := am (below_drew1 HB.out)
        have p433 : 0 ≤ (x8_1 : Int) := of_decide_eq_true (by assumption)
        have q433 : x8_1 < (t430.length : Int) := of_decide_eq_true (by assumption)
        obtain ⟨ad433, e433, hx433_0⟩ := Kd.at_string (Kd.R_reads' HO_6.out).2.2 x8_1 p433 q433
        cases e433
        replace p433 := eq_true p433
        replace q433 := eq_true q433
        refine start_ (n := 11) (S := fun w' => w'.cell? ⟨gb426, 0, none⟩ = some (.slice Ao9 t418.length co9) ∧ w'.cell? ⟨gb426, 1, none⟩ = some (.slice Ao11 t421.length co11) ∧ w'.cell? ⟨gb426, 2, none⟩ = some (.int .i64 t424) ∧ w'.cell? (ad433.add (x8_1).toNat) = some (.string (rdOf ByteArray.empty t430 x8_1))) (ds := []) #[false, false, false, false, false, false, false, false, false, false, false] (by kernel_rfl) rfl rfl ⟨(blk_cell BK426.out 0).trans rfl, (blk_cell BK426.out 1).trans rfl, (blk_cell BK426.out 2).trans rfl, hx433_0⟩ (fun hHeld => ?_); refine with_tabW laws_FnKeyLists.tab10 laws_FnKeyLists.bits10 (fun HT_ HW_ => ?_)
        generalize wr.drew = w29 at HO_5 HO_6 HO_427000 HO_427001 BK426 HB hx433_0 hHeld ⊢
        refine xP1 (i := 1) (N := some 32) #[false, true, false, false, false, false, false, false, false, false, false] (any_of HT_.out (by kernel_rfl)) (h := ?_)
        refine xP1 (i := 2) (N := some 33) #[false, true, true, false, false, false, false, false, false, false, false] (any_of HT_.out (by kernel_rfl)) (h := ?_)
        refine xP1 (i := 3) (N := some 34) #[false, true, true, true, false, false, false, false, false, false, false] (any_of HT_.out (by kernel_rfl)) (h := ?_)
        refine take_ (i := 0) (N := some 31) (v := ?_) (a' := ?_) #[true, true, true, true, false, false, false, false, false, false, false] rfl rfl (take_ofW HT_.out HW_.out (by kernel_rfl)) (fun _ _ _ h => h) (Or.inl ⟨by rfl, ?_⟩) hHeld ?_ ?_
        rotate_left
        ·rintro w' ⟨s0, s1, s2, s3⟩
         go_simp
         with_reducible rfl
        rotate_left
        ·simp only [Act.put, List.setIfInBounds_toArray, List.set_cons_zero, List.set_cons_succ, i64_w, i32_w]
         rfl
        refine take_ (i := 4) (N := some 35) (v := ?_) (a' := ?_) #[true, true, true, true, true, false, false, false, false, false, false] rfl rfl (take_ofW HT_.out HW_.out (by kernel_rfl)) (fun _ _ _ h => h) (Or.inl ⟨by rfl, ?_⟩) hHeld ?_ ?_
        rotate_left
        ·rintro w' ⟨s0, s1, s2, s3⟩
         go_simp
         with_reducible rfl
        rotate_left
        ·simp only [Act.put, List.setIfInBounds_toArray, List.set_cons_zero, List.set_cons_succ, i64_w, i32_w]
         rfl
        refine one_ (i := 5) (N := some 36) #[true, true, true, true, true, true, false, false, false, false, false] rfl rfl (one_of HT_.out (by kernel_rfl)) (by decide) (fun K hK => ?_)
        refine xG1 23 Try.func23 #[.agg #[.slice Ao9 t418.length co9, .slice Ao11 t421.length co11, .int .i64 t424], .string (rdOf ByteArray.empty t430 x8_1)] (h := ?_)
        with_reducible refine (impl_SeekKey.calls k1 _ _ t418 _ _ t421 t424 (rdOf ByteArray.empty t430 x8_1) t434 false _ ?side1 ?side2 ?side3 ?side4 A16.out).mono ?_
        (case side1 => exact xC ((Kd.R_reads' HO_427000.out).2.2))
        (case side2 => exact (Kd.R_reads' HO_427000.out).2.1)
        (case side3 => exact xC ((Kd.R_reads' HO_427001.out).2.2))
        (case side4 => exact (Kd.R_reads' HO_427001.out).2.1)
        rintro e w30 ⟨rfl, hb⟩
        have HS3_ := (hb.cell (World.block_lt_of_cell? _ _ (hHeld.2.2.2))).trans (hHeld.2.2.2)
        refine ⟨_, rfl, ?_⟩
        replace HO_5 := am (Kd.R_below (xR HO_5.out) hb)
        replace HO_6 := am (Kd.R_below (xR HO_6.out) hb)
        replace HO_427000 := am (Kd.R_below (xR HO_427000.out) hb)
        replace HO_427001 := am (Kd.R_below (xR HO_427001.out) hb)
        replace BK426 := am (blk_below (xB BK426.out) hb)
        replace HB := am (below_step (xW HB.out) hb)
        (try clear hb)
        refine hK.out _ _ ⟨(blk_cell BK426.out 0).trans rfl, (blk_cell BK426.out 1).trans rfl, (blk_cell BK426.out 2).trans rfl, HS3_⟩ (fun hHeld => ?_)
        clear hK K
        refine xN1 (h := ?_)
        refine xP1 (i := 6) (N := some 30) #[true, true, true, true, true, true, true, false, false, false, false] (any_of HT_.out (by kernel_rfl)) (h := ?_)
        refine xP1 (i := 7) (N := some 37) #[true, true, true, true, true, true, true, true, false, false, false] (any_of HT_.out (by kernel_rfl)) (h := ?_)
        refine xP1 (i := 8) (N := some 38) #[true, true, true, true, true, true, true, true, true, false, false] (any_of HT_.out (by kernel_rfl)) (h := ?_)
        refine xP1 (i := 9) (N := some 9) #[true, true, true, true, true, true, true, true, true, true, false] (any_of HT_.out (by kernel_rfl)) (h := ?_)
        refine xP1 (i := 10) (N := some 10) #[true, true, true, true, true, true, true, true, true, true, true] (any_of HT_.out (by kernel_rfl)) (h := ?_)
        refine done_ (done_of HT_.out (by kernel_rfl)) ?_
        have p436 : 0 ≤ (x8_1 : Int) := of_decide_eq_true (by assumption)
        have q436 : x8_1 < (t430.length : Int) := of_decide_eq_true (by assumption)
        obtain ⟨ad436, e436, hx436_0⟩ := Kd.at_string (Kd.R_reads' HO_6.out).2.2 x8_1 p436 q436
        obtain rfl : ad433 = ad436 := (by injection e436)
        replace p436 := eq_true p436
        replace q436 := eq_true q436
        obtain ⟨Ao31, co31, eo31⟩ := Kd.R_slice HO_5.out
        subst eo31
        try go_wp2_with (first | ((with_reducible refine gate_callee (f := 40) rfl ?_); refine xG (some 45) 40 Try.func40 #[.slice Ao31 t427.length co31, .string (rdOf ByteArray.empty t430 x8_1)] (h := ?_); (with_reducible refine (laws_has.calls k1 _ _ t427 (rdOf ByteArray.empty t430 x8_1) t437 _ ?side1 ?side2 A17.out).mono ?_); (case side1 => exact xC ((Kd.R_reads' HO_5.out).2.2)); (case side2 => exact (Kd.R_reads' HO_5.out).2.1); rintro e w' ⟨rfl, ⟨nd, rfl⟩⟩; refine ⟨_, rfl, ?_⟩))
        go_roundg k1
        case measure => have := HK1.out; omega
        case rel => exact ⟨(x7_1), (wrap64 (x8_1 + 1)), (by first | rfl | (simp; done) | (simp [*]; done)), (xQ), H', ⟨by have := HK1.out; omega⟩, ⟨xR HO_5.out⟩, ⟨xR HO_6.out⟩, ⟨xR HO_427000.out⟩, ⟨xR HO_427001.out⟩, ⟨xB BK426.out⟩, ⟨xW HB.out⟩⟩
     ·rw [if_neg c15] at H
      exact absurd H (by simp)
    ·rw [if_neg c14] at H
     have c14b0 : decide (x8_1 < (t430.length : Int)) = false := decide_eq_false c14
     clear c14
     have H' := am H
     clear H
     obtain ⟨Ao32, co32, eo32⟩ := Kd.R_slice HO_6.out
     subst eo32
     go_wp2
     go_loopg [11] k1 (fun kq v11 w' => ∃ (x11_2 : Int), v11 = .int .i64 x11_2 ∧ Aside0 (laws_FnKeyLists.l1 kq t427 x7_1 x11_2 = some r) ∧ Aside0 (kq ≤ k1) ∧ Aside0 (Kd.R Kd.string 9 w' w.heap.size (fun _ => True) v428 t427) ∧ Aside0 (Kd.R k57 57 w' w.heap.size (fun k_ => some k_ ≠ ((.slice Ao11 t421.length co11) : Value).ownBlock) (.slice Ao9 t418.length co9) t418) ∧ Aside0 (Kd.R k57 57 w' w.heap.size (fun k_ => some k_ ≠ ((.slice Ao9 t418.length co9) : Value).ownBlock) (.slice Ao11 t421.length co11) t421) ∧ Aside0 (w'.heap[gb426]? = some (.cells #[(.slice Ao9 t418.length co9), (.slice Ao11 t421.length co11), .int .i64 t424] 26 (0, 0))) ∧ Aside0 (Below w.heap.size w w'))
     case atStart => exact ⟨(1), (xQ), H', ⟨Nat.le_refl _⟩, ⟨Kd.R_mono (xR HO_5.out) (fun _ hk => trivial)⟩, ⟨xR HO_427000.out⟩, ⟨xR HO_427001.out⟩, ⟨xB BK426.out⟩, ⟨xW HB.out⟩⟩
     case round =>
      clear H'
      try clear c1
      try clear c2
      try clear p2
      try clear c3
      try clear c4
      try clear p4
      try clear q4
      try clear hx4
      try clear p6
      try clear c10
      try clear c14
      try clear c14b0
      try clear c15
      try clear c15b0
      try clear c18
      try clear c18b0
      try clear c18b1
      try clear c18b2
      try clear c20
      try clear c23
      try clear hcz10_0
      try clear hcz10_1
      try clear hcz10_2
      try clear hfz10_0
      try clear hfz10_1
      try clear hfz10_2
      try clear hx433_0
      try clear hx436_0
      try clear p2
      try clear p433
      try clear p436
      try clear q433
      try clear q436
      obtain ⟨x11_2, rfl, HA, HK2, HO_5, HO_427000, HO_427001, BK426, HB⟩ := hrel
      cases gk with
      | zero => exact absurd HA.out (by simp [laws_FnKeyLists.l1])
      | succ k2 =>
       have H := HA.out
       clear HA
       simp only [laws_FnKeyLists.l1] at H
       by_cases c33 : x11_2 < (t427.length : Int)
       ·rw [if_pos c33] at H
        have c33b0 : decide (x11_2 < (t427.length : Int)) = true := decide_eq_true c33
        clear c33
        obtain ⟨ji34, hji34⟩ : ∃ j_ : Int, (wrap64 (x11_2 - 1)) = j_ := ⟨_, rfl⟩
        replace H : (if 0 ≤ (ji34) then (if (ji34) < (t427.length : Int) then (if 0 ≤ x11_2 then (if ((Op.bytesLess ((rdOf ByteArray.empty t427 (ji34)).toList) ((rdOf ByteArray.empty t427 x11_2).toList)) = true) then (laws_FnKeyLists.l1 k2 t427 x7_1 (wrap64 (x11_2 + 1))) else (some false)) else (none)) else (none)) else (none)) = some r := by first | (rw [hji34] at H; exact H) | (simp only [hji34] at H ⊢; exact H)
        have hji34w : (IntKind.i64.wrap (x11_2 - 1)) = ji34 := (i64_w _).trans hji34
        by_cases c35 : 0 ≤ (ji34)
        ·rw [if_pos c35] at H
         have c35b0 : decide (0 ≤ (ji34)) = true := decide_eq_true c35
         clear c35
         by_cases c36 : (ji34) < (t427.length : Int)
         ·rw [if_pos c36] at H
          have c36b0 : decide ((ji34) < (t427.length : Int)) = true := decide_eq_true c36
          clear c36
          by_cases c37 : 0 ≤ x11_2
          ·rw [if_pos c37] at H
           have c37b0 : decide (0 ≤ x11_2) = true := decide_eq_true c37
           clear c37
           by_cases c38 : ((Op.bytesLess ((rdOf ByteArray.empty t427 (ji34)).toList) ((rdOf ByteArray.empty t427 x11_2).toList)) = true)
           ·rw [if_pos c38] at H
            have c38b0 : (Op.bytesLess ((rdOf ByteArray.empty t427 (ji34)).toList) ((rdOf ByteArray.empty t427 x11_2).toList)) = true := c38
            clear c38
            have H' := am H
            clear H
            obtain ⟨Ao39, co39, eo39⟩ := Kd.R_slice HO_5.out
            subst eo39
            try go_wp2
            replace HO_5 := am (Kd.R_drew HO_5.out)
            replace HO_427000 := am (Kd.R_drew HO_427000.out)
            replace HO_427001 := am (Kd.R_drew HO_427001.out)
            replace BK426 := am (blk_drew BK426.out)
            replace HB := am (below_drew1 HB.out)
            have p438 : 0 ≤ ((ji34) : Int) := of_decide_eq_true (by assumption)
            have q438 : (ji34) < (t427.length : Int) := of_decide_eq_true (by assumption)
            obtain ⟨ad438, e438, hx438_0⟩ := Kd.at_string (Kd.R_reads' HO_5.out).2.2 (ji34) p438 q438
            cases e438
            replace p438 := eq_true p438
            replace q438 := eq_true q438
            have p439 : 0 ≤ (x11_2 : Int) := of_decide_eq_true (by assumption)
            have q439 : x11_2 < (t427.length : Int) := of_decide_eq_true (by assumption)
            obtain ⟨ad439, e439, hx439_0⟩ := Kd.at_string (Kd.R_reads' HO_5.out).2.2 x11_2 p439 q439
            obtain rfl : ad438 = ad439 := (by injection e439)
            replace p439 := eq_true p439
            replace q439 := eq_true q439
            refine start_ (n := 10) (S := fun w' => w'.cell? (ad438.add ((ji34)).toNat) = some (.string (rdOf ByteArray.empty t427 (ji34))) ∧ w'.cell? (ad438.add (x11_2).toNat) = some (.string (rdOf ByteArray.empty t427 x11_2))) (ds := []) #[false, false, false, false, false, false, false, false, false, false] (by kernel_rfl) rfl rfl ⟨hx438_0, hx439_0⟩ (fun hHeld => ?_); refine with_tabW laws_FnKeyLists.tab18 laws_FnKeyLists.bits18 (fun HT_ HW_ => ?_)
            generalize wr.drew = w40 at HO_5 HO_427000 HO_427001 BK426 HB hx438_0 hx439_0 hHeld ⊢
            refine xP1 (i := 0) (N := some 56) #[true, false, false, false, false, false, false, false, false, false] (any_of HT_.out (by kernel_rfl)) (h := ?_)
            refine xP1 (i := 1) (N := some 57) #[true, true, false, false, false, false, false, false, false, false] (any_of HT_.out (by kernel_rfl)) (h := ?_)
            refine xP1 (i := 2) (N := some 58) #[true, true, true, false, false, false, false, false, false, false] (any_of HT_.out (by kernel_rfl)) (h := ?_)
            refine xP1 (i := 3) (N := some 59) #[true, true, true, true, false, false, false, false, false, false] (any_of HT_.out (by kernel_rfl)) (h := ?_)
            refine xP1 (i := 5) (N := some 61) #[true, true, true, true, false, true, false, false, false, false] (any_of HT_.out (by kernel_rfl)) (h := ?_)
            refine xP1 (i := 6) (N := some 62) #[true, true, true, true, false, true, true, false, false, false] (any_of HT_.out (by kernel_rfl)) (h := ?_)
            refine xP1 (i := 7) (N := some 63) #[true, true, true, true, false, true, true, true, false, false] (any_of HT_.out (by kernel_rfl)) (h := ?_)
            refine take_ (i := 4) (N := some 60) (v := ?_) (a' := ?_) #[true, true, true, true, true, true, true, true, false, false] rfl rfl (take_ofW HT_.out HW_.out (by kernel_rfl)) (fun _ _ _ h => h) (Or.inl ⟨by rfl, ?_⟩) hHeld ?_ ?_
            rotate_left
            ·rintro w' ⟨s0, s1⟩
             go_simp
             with_reducible rfl
            rotate_left
            ·simp only [Act.put, List.setIfInBounds_toArray, List.set_cons_zero, List.set_cons_succ, i64_w, i32_w]
             rfl
            refine take_ (i := 8) (N := some 64) (v := ?_) (a' := ?_) #[true, true, true, true, true, true, true, true, true, false] rfl rfl (take_ofW HT_.out HW_.out (by kernel_rfl)) (fun _ _ _ h => h) (Or.inl ⟨by rfl, ?_⟩) hHeld ?_ ?_
            rotate_left
            ·rintro w' ⟨s0, s1⟩
             go_simp
             with_reducible rfl
            rotate_left
            ·simp only [Act.put, List.setIfInBounds_toArray, List.set_cons_zero, List.set_cons_succ, i64_w, i32_w]
             rfl
            refine xP1 (i := 9) (N := some 65) #[true, true, true, true, true, true, true, true, true, true] (any_of HT_.out (by kernel_rfl)) (h := ?_)
            refine done_ (done_of HT_.out (by kernel_rfl)) ?_
            try go_wp2
            go_roundg k2
            case measure => have := HK1.out; have := HK2.out; omega
            case rel => exact ⟨(wrap64 (x11_2 + 1)), (xQ), H', ⟨by have := HK1.out; have := HK2.out; omega⟩, ⟨xR HO_5.out⟩, ⟨xR HO_427000.out⟩, ⟨xR HO_427001.out⟩, ⟨xB BK426.out⟩, ⟨xW HB.out⟩⟩
           ·rw [if_neg c38] at H
            have c38b0 : (Op.bytesLess ((rdOf ByteArray.empty t427 (ji34)).toList) ((rdOf ByteArray.empty t427 x11_2).toList)) = false := by simpa using c38
            clear c38
            obtain rfl := Option.some.inj H
            obtain ⟨Ao41, co41, eo41⟩ := Kd.R_slice HO_5.out
            subst eo41
            try go_wp2
            replace HO_5 := am (Kd.R_drew HO_5.out)
            replace HO_427000 := am (Kd.R_drew HO_427000.out)
            replace HO_427001 := am (Kd.R_drew HO_427001.out)
            replace BK426 := am (blk_drew BK426.out)
            replace HB := am (below_drew1 HB.out)
            have p438 : 0 ≤ ((ji34) : Int) := of_decide_eq_true (by assumption)
            have q438 : (ji34) < (t427.length : Int) := of_decide_eq_true (by assumption)
            obtain ⟨ad438, e438, hx438_0⟩ := Kd.at_string (Kd.R_reads' HO_5.out).2.2 (ji34) p438 q438
            cases e438
            replace p438 := eq_true p438
            replace q438 := eq_true q438
            have p439 : 0 ≤ (x11_2 : Int) := of_decide_eq_true (by assumption)
            have q439 : x11_2 < (t427.length : Int) := of_decide_eq_true (by assumption)
            obtain ⟨ad439, e439, hx439_0⟩ := Kd.at_string (Kd.R_reads' HO_5.out).2.2 x11_2 p439 q439
            obtain rfl : ad438 = ad439 := (by injection e439)
            replace p439 := eq_true p439
            replace q439 := eq_true q439
            refine start_ (n := 10) (S := fun w' => w'.cell? (ad438.add ((ji34)).toNat) = some (.string (rdOf ByteArray.empty t427 (ji34))) ∧ w'.cell? (ad438.add (x11_2).toNat) = some (.string (rdOf ByteArray.empty t427 x11_2))) (ds := []) #[false, false, false, false, false, false, false, false, false, false] (by kernel_rfl) rfl rfl ⟨hx438_0, hx439_0⟩ (fun hHeld => ?_); refine with_tabW laws_FnKeyLists.tab18 laws_FnKeyLists.bits18 (fun HT_ HW_ => ?_)
            generalize wr.drew = w42 at HO_5 HO_427000 HO_427001 BK426 HB hx438_0 hx439_0 hHeld ⊢
            refine xP1 (i := 0) (N := some 56) #[true, false, false, false, false, false, false, false, false, false] (any_of HT_.out (by kernel_rfl)) (h := ?_)
            refine xP1 (i := 1) (N := some 57) #[true, true, false, false, false, false, false, false, false, false] (any_of HT_.out (by kernel_rfl)) (h := ?_)
            refine xP1 (i := 2) (N := some 58) #[true, true, true, false, false, false, false, false, false, false] (any_of HT_.out (by kernel_rfl)) (h := ?_)
            refine xP1 (i := 3) (N := some 59) #[true, true, true, true, false, false, false, false, false, false] (any_of HT_.out (by kernel_rfl)) (h := ?_)
            refine xP1 (i := 5) (N := some 61) #[true, true, true, true, false, true, false, false, false, false] (any_of HT_.out (by kernel_rfl)) (h := ?_)
            refine xP1 (i := 6) (N := some 62) #[true, true, true, true, false, true, true, false, false, false] (any_of HT_.out (by kernel_rfl)) (h := ?_)
            refine xP1 (i := 7) (N := some 63) #[true, true, true, true, false, true, true, true, false, false] (any_of HT_.out (by kernel_rfl)) (h := ?_)
            refine take_ (i := 4) (N := some 60) (v := ?_) (a' := ?_) #[true, true, true, true, true, true, true, true, false, false] rfl rfl (take_ofW HT_.out HW_.out (by kernel_rfl)) (fun _ _ _ h => h) (Or.inl ⟨by rfl, ?_⟩) hHeld ?_ ?_
            rotate_left
            ·rintro w' ⟨s0, s1⟩
             go_simp
             with_reducible rfl
            rotate_left
            ·simp only [Act.put, List.setIfInBounds_toArray, List.set_cons_zero, List.set_cons_succ, i64_w, i32_w]
             rfl
            refine take_ (i := 8) (N := some 64) (v := ?_) (a' := ?_) #[true, true, true, true, true, true, true, true, true, false] rfl rfl (take_ofW HT_.out HW_.out (by kernel_rfl)) (fun _ _ _ h => h) (Or.inl ⟨by rfl, ?_⟩) hHeld ?_ ?_
            rotate_left
            ·rintro w' ⟨s0, s1⟩
             go_simp
             with_reducible rfl
            rotate_left
            ·simp only [Act.put, List.setIfInBounds_toArray, List.set_cons_zero, List.set_cons_succ, i64_w, i32_w]
             rfl
            refine xP1 (i := 9) (N := some 65) #[true, true, true, true, true, true, true, true, true, true] (any_of HT_.out (by kernel_rfl)) (h := ?_)
            refine done_ (done_of HT_.out (by kernel_rfl)) ?_
            try go_wp2
            go_ret
            exact ⟨by first | rfl | (simp [errW_none, errW_some] <;> rfl) | (simp only [← hji34]; first | rfl | (simp [errW_none, errW_some] <;> rfl)) | (simp [*, errW_none, errW_some] <;> rfl), xW HB.out⟩
          ·rw [if_neg c37] at H
           exact absurd H (by simp)
         ·rw [if_neg c36] at H
          exact absurd H (by simp)
        ·rw [if_neg c35] at H
         exact absurd H (by simp)
       ·rw [if_neg c33] at H
        have c33b0 : decide (x11_2 < (t427.length : Int)) = false := decide_eq_false c33
        clear c33
        replace H := Option.bind_eq_some_iff.mp H
        obtain ⟨⟨t440, t443, t446, t447⟩, A430, H⟩ := H
        try dsimp only at H
        have A43 := am A430
        clear A430
        by_cases c44 : x7_1 = (t427.length : Int)
        ·rw [if_pos c44] at H
         have c44b0 : (x7_1 == (t427.length : Int)) = true := beq_iff_eq.mpr c44
         have c44b1 : (x7_1 != (t427.length : Int)) = false := bne_eq_false_iff_eq.mpr c44
         clear c44
         by_cases c45 : t447 = true
         ·subst c45
          have H1 : ((impl_KeysOf.f k2 t440 t443 t446).bind fun t449 => (if (t449.length : Int) = 0 then ((impl_TableOk.f k2 t440 t443 t446).bind fun t452 => (some t452)) else (some false))) = some r := by rw [if_pos rfl] at H; exact H
          clear H
          have H := H1
          clear H1
          replace H := Option.bind_eq_some_iff.mp H
          obtain ⟨t449, A460, H⟩ := H
          try dsimp only at H
          have A46 := am A460
          clear A460
          by_cases c47 : (t449.length : Int) = 0
          ·rw [if_pos c47] at H
           have c47b0 : ((t449.length : Int) == 0) = true := beq_iff_eq.mpr c47
           have c47b1 : ((t449.length : Int) != 0) = false := bne_eq_false_iff_eq.mpr c47
           clear c47
           replace H := Option.bind_eq_some_iff.mp H
           obtain ⟨t452, A480, H⟩ := H
           replace H : (some t452) = some r := H
           have A48 := am A480
           clear A480
           obtain rfl := Option.some.inj H
           obtain ⟨Ao49, co49, eo49⟩ := Kd.R_slice HO_5.out
           subst eo49
           go_wp2_with (first | ((with_reducible refine gate_callee (f := 41) rfl ?_); refine xG (some 67) 41 Try.func41 #[.int .i64 8] (h := ?_); (with_reducible refine (impl_TableNew.calls 8 t440 t443 t446 true _ A43.out).mono ?_); rintro e w50 ⟨v441, v444, rfl, ho0, ho1, hb⟩; refine ⟨_, rfl, ?_⟩; replace HO_5 := am (Kd.R_below (xR HO_5.out) hb); have HO442 := am (Kd.R_lower (Kd.R_new' (Kd.R_new' ho0 (Kd.R_lt (xR HO_427000.out))) (Kd.R_lt (xR HO_427001.out))) (below_size (xW HB.out))); have HO445 := am (Kd.R_lower (Kd.R_new' (Kd.R_new' ho1 (Kd.R_lt (xR HO_427000.out))) (Kd.R_lt (xR HO_427001.out))) (below_size (xW HB.out))); replace HO_427000 := am (Kd.R_mono (Kd.R_told (Kd.R_told (Kd.R_old (xR HO_427000.out) hb) (Kd.R_base ho0)) (Kd.R_base ho1)) (fun _ h_ => h_.1)); replace HO_427001 := am (Kd.R_mono (Kd.R_told (Kd.R_told (Kd.R_old (xR HO_427001.out) hb) (Kd.R_base ho0)) (Kd.R_base ho1)) (fun _ h_ => h_.1)); replace BK426 := am (blk_below (xB BK426.out) hb); replace HB := am (below_step (xW HB.out) hb); (try clear hb); (try clear ho0); (try clear ho1)) | ((with_reducible refine gate_dst (N := 12) rfl ?_); (try (refine gate_guard (by rfl) ?_; dsimp only)); refine xE (N := 12) (cs := #[.slice none 0 0, .slice none 0 0, .int .i64 0]) (t := 26) (h := ?_); intro gb448 hg w51 hbox hb; replace HO_5 := am (Kd.R_below (xR HO_5.out) hb); replace HO_427000 := am (Kd.R_below (xR HO_427000.out) hb); replace HO_427001 := am (Kd.R_below (xR HO_427001.out) hb); replace HO442 := am (Kd.R_below (xR HO442.out) hb); replace HO445 := am (Kd.R_below (xR HO445.out) hb); have BK448 := am (hbox); have GW448 := am (xS hg HB.out); have GE448 := am (xS hg HB.out); replace HB := am (below_step (xW HB.out) hb); have NB426_448 := am (xN hg BK426.out); have NB448_426 := am (xM hg BK426.out); replace BK426 := am (blk_below (xB BK426.out) hb); clear hb hbox hg; obtain ⟨Ao52, co52, eo52⟩ := Kd.R_slice HO442.out; subst eo52; have hnb53 := NB448_426.out; have hnc53 := NB426_448.out; obtain ⟨hcz54_0, hcz54_1, hcz54_2, hfz54_0, hfz54_1, hfz54_2⟩ := xT3 (W := w51) BK448.out; obtain ⟨Ao55, co55, eo55⟩ := Kd.R_slice HO445.out; subst eo55) | (go_at_call 20; (with_reducible refine (impl_KeysOf.calls k2 _ _ t440 _ _ t443 t446 t449 _ ?side1 ?side2 ?side3 ?side4 A46.out).mono ?_); (case side1 => refine (Kd.R_reads' (e := 57) (base := w.heap.size) (ok := fun k_ => ((some k_ ≠ (.slice Ao55 t443.length co55 : Value).ownBlock ∧ some k_ ≠ (.slice Ao9 t418.length co9 : Value).ownBlock) ∧ some k_ ≠ (.slice Ao11 t421.length co11 : Value).ownBlock)) (n := t440.length) (c := co52) ?_).2.2; exact (by (with_reducible repeat (first | apply Kd.R_alloc | apply Kd.R_drewN | apply Kd.R_drew)); exact (Kd.R_mono (Kd.R_far (p := ⟨gb448, 2, none⟩) (Kd.R_far (p := ⟨gb448, 1, none⟩) (Kd.R_far (p := ⟨gb448, 0, none⟩) (Kd.R_types HO442.out BK448.out (by decide)) (fun _ hk => by first | exact hk.2 | (simp [hk])) (.slice Ao52 t440.length co52)) (fun _ hk => by first | exact hk.2 | (simp [hk])) (.slice Ao55 t443.length co55)) (fun _ hk => by first | exact hk.2 | (simp [hk])) (.int .i64 t446)) (fun _ h_ => h_.1)))); (case side2 => exact (Kd.R_reads' HO442.out).2.1); (case side3 => refine (Kd.R_reads' (e := 57) (base := w.heap.size) (ok := fun k_ => ((some k_ ≠ (.slice Ao52 t440.length co52 : Value).ownBlock ∧ some k_ ≠ (.slice Ao9 t418.length co9 : Value).ownBlock) ∧ some k_ ≠ (.slice Ao11 t421.length co11 : Value).ownBlock)) (n := t443.length) (c := co55) ?_).2.2; exact (by (with_reducible repeat (first | apply Kd.R_alloc | apply Kd.R_drewN | apply Kd.R_drew)); exact (Kd.R_mono (Kd.R_far (p := ⟨gb448, 2, none⟩) (Kd.R_far (p := ⟨gb448, 1, none⟩) (Kd.R_far (p := ⟨gb448, 0, none⟩) (Kd.R_types HO445.out BK448.out (by decide)) (fun _ hk => by first | exact hk.2 | (simp [hk])) (.slice Ao52 t440.length co52)) (fun _ hk => by first | exact hk.2 | (simp [hk])) (.slice Ao55 t443.length co55)) (fun _ hk => by first | exact hk.2 | (simp [hk])) (.int .i64 t446)) (fun _ h_ => h_.1)))); (case side4 => exact (Kd.R_reads' HO445.out).2.1); rintro e w56 ⟨v450, rfl, ho0, hb⟩; replace HO_427000 := am (Kd.R_below (by (with_reducible repeat (first | apply Kd.R_alloc | apply Kd.R_drewN | apply Kd.R_drew)); exact (Kd.R_mono (Kd.R_far (p := ⟨gb448, 2, none⟩) (Kd.R_far (p := ⟨gb448, 1, none⟩) (Kd.R_far (p := ⟨gb448, 0, none⟩) (Kd.R_types HO_427000.out BK448.out (by decide)) (fun _ hk => by first | exact hk.2 | (simp [hk])) (.slice Ao52 t440.length co52)) (fun _ hk => by first | exact hk.2 | (simp [hk])) (.slice Ao55 t443.length co55)) (fun _ hk => by first | exact hk.2 | (simp [hk])) (.int .i64 t446)) (fun _ h_ => h_.1))) hb); replace HO_427001 := am (Kd.R_below (by (with_reducible repeat (first | apply Kd.R_alloc | apply Kd.R_drewN | apply Kd.R_drew)); exact (Kd.R_mono (Kd.R_far (p := ⟨gb448, 2, none⟩) (Kd.R_far (p := ⟨gb448, 1, none⟩) (Kd.R_far (p := ⟨gb448, 0, none⟩) (Kd.R_types HO_427001.out BK448.out (by decide)) (fun _ hk => by first | exact hk.2 | (simp [hk])) (.slice Ao52 t440.length co52)) (fun _ hk => by first | exact hk.2 | (simp [hk])) (.slice Ao55 t443.length co55)) (fun _ hk => by first | exact hk.2 | (simp [hk])) (.int .i64 t446)) (fun _ h_ => h_.1))) hb); replace HO442 := am (Kd.R_below (by (with_reducible repeat (first | apply Kd.R_alloc | apply Kd.R_drewN | apply Kd.R_drew)); exact (Kd.R_mono (Kd.R_far (p := ⟨gb448, 2, none⟩) (Kd.R_far (p := ⟨gb448, 1, none⟩) (Kd.R_far (p := ⟨gb448, 0, none⟩) (Kd.R_types HO442.out BK448.out (by decide)) (fun _ hk => by first | exact hk.2 | (simp [hk])) (.slice Ao52 t440.length co52)) (fun _ hk => by first | exact hk.2 | (simp [hk])) (.slice Ao55 t443.length co55)) (fun _ hk => by first | exact hk.2 | (simp [hk])) (.int .i64 t446)) (fun _ h_ => h_.1))) hb); replace HO445 := am (Kd.R_below (by (with_reducible repeat (first | apply Kd.R_alloc | apply Kd.R_drewN | apply Kd.R_drew)); exact (Kd.R_mono (Kd.R_far (p := ⟨gb448, 2, none⟩) (Kd.R_far (p := ⟨gb448, 1, none⟩) (Kd.R_far (p := ⟨gb448, 0, none⟩) (Kd.R_types HO445.out BK448.out (by decide)) (fun _ hk => by first | exact hk.2 | (simp [hk])) (.slice Ao52 t440.length co52)) (fun _ hk => by first | exact hk.2 | (simp [hk])) (.slice Ao55 t443.length co55)) (fun _ hk => by first | exact hk.2 | (simp [hk])) (.int .i64 t446)) (fun _ h_ => h_.1))) hb); have HO451 := am (Kd.R_lower (Kd.R_new' ho0 (Kd.R_lt (by (with_reducible repeat (first | apply Kd.R_alloc | apply Kd.R_drewN | apply Kd.R_drew)); exact (Kd.R_mono (Kd.R_far (p := ⟨gb448, 2, none⟩) (Kd.R_far (p := ⟨gb448, 1, none⟩) (Kd.R_far (p := ⟨gb448, 0, none⟩) (Kd.R_types HO_5.out BK448.out (by decide)) (fun _ hk => by first | exact hk.2 | (simp [hk])) (.slice Ao52 t440.length co52)) (fun _ hk => by first | exact hk.2 | (simp [hk])) (.slice Ao55 t443.length co55)) (fun _ hk => by first | exact hk.2 | (simp [hk])) (.int .i64 t446)) (fun _ h_ => h_.1))))) (below_size (xW HB.out))); replace HO_5 := am (Kd.R_elder' (by (with_reducible repeat (first | apply Kd.R_alloc | apply Kd.R_drewN | apply Kd.R_drew)); exact (Kd.R_mono (Kd.R_far (p := ⟨gb448, 2, none⟩) (Kd.R_far (p := ⟨gb448, 1, none⟩) (Kd.R_far (p := ⟨gb448, 0, none⟩) (Kd.R_types HO_5.out BK448.out (by decide)) (fun _ hk => by first | exact hk.2 | (simp [hk])) (.slice Ao52 t440.length co52)) (fun _ hk => by first | exact hk.2 | (simp [hk])) (.slice Ao55 t443.length co55)) (fun _ hk => by first | exact hk.2 | (simp [hk])) (.int .i64 t446)) (fun _ h_ => h_.1))) (Kd.R_base ho0) hb); replace BK426 := am (blk_below (xB BK426.out) hb); replace BK448 := am (blk_below (xP BK448.out) hb); replace HB := am (below_step (xW HB.out) hb); (try clear hb); (try clear ho0); obtain ⟨Ao57, co57, eo57⟩ := Kd.R_slice HO451.out; subst eo57; obtain ⟨hcz58_0, hcz58_1, hcz58_2, hfz58_0, hfz58_1, hfz58_2⟩ := xT3 (W := w56) BK448.out) | (go_at_call 18; (with_reducible refine (impl_TableOk.calls k2 _ _ t440 _ _ t443 t446 t452 _ ?side1 ?side2 ?side3 ?side4 A48.out).mono ?_); (case side1 => exact xC ((Kd.R_reads' HO442.out).2.2)); (case side2 => exact (Kd.R_reads' HO442.out).2.1); (case side3 => exact xC ((Kd.R_reads' HO445.out).2.2)); (case side4 => exact (Kd.R_reads' HO445.out).2.1); rintro e w59 ⟨rfl, hb⟩; replace HO_5 := am (Kd.R_below (xR HO_5.out) hb); replace HO_427000 := am (Kd.R_below (xR HO_427000.out) hb); replace HO_427001 := am (Kd.R_below (xR HO_427001.out) hb); replace HO442 := am (Kd.R_below (xR HO442.out) hb); replace HO445 := am (Kd.R_below (xR HO445.out) hb); replace HO451 := am (Kd.R_below (xR HO451.out) hb); replace BK426 := am (blk_below (xB BK426.out) hb); replace BK448 := am (blk_below (xB BK448.out) hb); replace HB := am (below_step (xW HB.out) hb); (try clear hb); ))
           go_ret
           exact ⟨xV, xW HB.out⟩
          ·rw [if_neg c47] at H
           have c47b0 : ((t449.length : Int) == 0) = false := beq_eq_false_iff_ne.mpr c47
           have c47b1 : ((t449.length : Int) != 0) = true := bne_iff_ne.mpr c47
           have c47b2 : ¬ (t449 = []) := fun h_ => c47 (by rw [h_]; rfl)
           obtain rfl := Option.some.inj H
           obtain ⟨Ao60, co60, eo60⟩ := Kd.R_slice HO_5.out
           subst eo60
           go_wp2_with (first | ((with_reducible refine gate_callee (f := 41) rfl ?_); refine xG (some 67) 41 Try.func41 #[.int .i64 8] (h := ?_); (with_reducible refine (impl_TableNew.calls 8 t440 t443 t446 true _ A43.out).mono ?_); rintro e w61 ⟨v441, v444, rfl, ho0, ho1, hb⟩; refine ⟨_, rfl, ?_⟩; replace HO_5 := am (Kd.R_below (xR HO_5.out) hb); have HO442 := am (Kd.R_lower (Kd.R_new' (Kd.R_new' ho0 (Kd.R_lt (xR HO_427000.out))) (Kd.R_lt (xR HO_427001.out))) (below_size (xW HB.out))); have HO445 := am (Kd.R_lower (Kd.R_new' (Kd.R_new' ho1 (Kd.R_lt (xR HO_427000.out))) (Kd.R_lt (xR HO_427001.out))) (below_size (xW HB.out))); replace HO_427000 := am (Kd.R_mono (Kd.R_told (Kd.R_told (Kd.R_old (xR HO_427000.out) hb) (Kd.R_base ho0)) (Kd.R_base ho1)) (fun _ h_ => h_.1)); replace HO_427001 := am (Kd.R_mono (Kd.R_told (Kd.R_told (Kd.R_old (xR HO_427001.out) hb) (Kd.R_base ho0)) (Kd.R_base ho1)) (fun _ h_ => h_.1)); replace BK426 := am (blk_below (xB BK426.out) hb); replace HB := am (below_step (xW HB.out) hb); (try clear hb); (try clear ho0); (try clear ho1)) | ((with_reducible refine gate_dst (N := 12) rfl ?_); (try (refine gate_guard (by rfl) ?_; dsimp only)); refine xE (N := 12) (cs := #[.slice none 0 0, .slice none 0 0, .int .i64 0]) (t := 26) (h := ?_); intro gb448 hg w62 hbox hb; replace HO_5 := am (Kd.R_below (xR HO_5.out) hb); replace HO_427000 := am (Kd.R_below (xR HO_427000.out) hb); replace HO_427001 := am (Kd.R_below (xR HO_427001.out) hb); replace HO442 := am (Kd.R_below (xR HO442.out) hb); replace HO445 := am (Kd.R_below (xR HO445.out) hb); have BK448 := am (hbox); have GW448 := am (xS hg HB.out); have GE448 := am (xS hg HB.out); replace HB := am (below_step (xW HB.out) hb); have NB426_448 := am (xN hg BK426.out); have NB448_426 := am (xM hg BK426.out); replace BK426 := am (blk_below (xB BK426.out) hb); clear hb hbox hg; obtain ⟨Ao63, co63, eo63⟩ := Kd.R_slice HO442.out; subst eo63; have hnb64 := NB448_426.out; have hnc64 := NB426_448.out; obtain ⟨hcz65_0, hcz65_1, hcz65_2, hfz65_0, hfz65_1, hfz65_2⟩ := xT3 (W := w62) BK448.out; obtain ⟨Ao66, co66, eo66⟩ := Kd.R_slice HO445.out; subst eo66) | (go_at_call 20; (with_reducible refine (impl_KeysOf.calls k2 _ _ t440 _ _ t443 t446 t449 _ ?side1 ?side2 ?side3 ?side4 A46.out).mono ?_); (case side1 => refine (Kd.R_reads' (e := 57) (base := w.heap.size) (ok := fun k_ => ((some k_ ≠ (.slice Ao66 t443.length co66 : Value).ownBlock ∧ some k_ ≠ (.slice Ao9 t418.length co9 : Value).ownBlock) ∧ some k_ ≠ (.slice Ao11 t421.length co11 : Value).ownBlock)) (n := t440.length) (c := co63) ?_).2.2; exact (by (with_reducible repeat (first | apply Kd.R_alloc | apply Kd.R_drewN | apply Kd.R_drew)); exact (Kd.R_mono (Kd.R_far (p := ⟨gb448, 2, none⟩) (Kd.R_far (p := ⟨gb448, 1, none⟩) (Kd.R_far (p := ⟨gb448, 0, none⟩) (Kd.R_types HO442.out BK448.out (by decide)) (fun _ hk => by first | exact hk.2 | (simp [hk])) (.slice Ao63 t440.length co63)) (fun _ hk => by first | exact hk.2 | (simp [hk])) (.slice Ao66 t443.length co66)) (fun _ hk => by first | exact hk.2 | (simp [hk])) (.int .i64 t446)) (fun _ h_ => h_.1)))); (case side2 => exact (Kd.R_reads' HO442.out).2.1); (case side3 => refine (Kd.R_reads' (e := 57) (base := w.heap.size) (ok := fun k_ => ((some k_ ≠ (.slice Ao63 t440.length co63 : Value).ownBlock ∧ some k_ ≠ (.slice Ao9 t418.length co9 : Value).ownBlock) ∧ some k_ ≠ (.slice Ao11 t421.length co11 : Value).ownBlock)) (n := t443.length) (c := co66) ?_).2.2; exact (by (with_reducible repeat (first | apply Kd.R_alloc | apply Kd.R_drewN | apply Kd.R_drew)); exact (Kd.R_mono (Kd.R_far (p := ⟨gb448, 2, none⟩) (Kd.R_far (p := ⟨gb448, 1, none⟩) (Kd.R_far (p := ⟨gb448, 0, none⟩) (Kd.R_types HO445.out BK448.out (by decide)) (fun _ hk => by first | exact hk.2 | (simp [hk])) (.slice Ao63 t440.length co63)) (fun _ hk => by first | exact hk.2 | (simp [hk])) (.slice Ao66 t443.length co66)) (fun _ hk => by first | exact hk.2 | (simp [hk])) (.int .i64 t446)) (fun _ h_ => h_.1)))); (case side4 => exact (Kd.R_reads' HO445.out).2.1); rintro e w67 ⟨v450, rfl, ho0, hb⟩; replace HO_427000 := am (Kd.R_below (by (with_reducible repeat (first | apply Kd.R_alloc | apply Kd.R_drewN | apply Kd.R_drew)); exact (Kd.R_mono (Kd.R_far (p := ⟨gb448, 2, none⟩) (Kd.R_far (p := ⟨gb448, 1, none⟩) (Kd.R_far (p := ⟨gb448, 0, none⟩) (Kd.R_types HO_427000.out BK448.out (by decide)) (fun _ hk => by first | exact hk.2 | (simp [hk])) (.slice Ao63 t440.length co63)) (fun _ hk => by first | exact hk.2 | (simp [hk])) (.slice Ao66 t443.length co66)) (fun _ hk => by first | exact hk.2 | (simp [hk])) (.int .i64 t446)) (fun _ h_ => h_.1))) hb); replace HO_427001 := am (Kd.R_below (by (with_reducible repeat (first | apply Kd.R_alloc | apply Kd.R_drewN | apply Kd.R_drew)); exact (Kd.R_mono (Kd.R_far (p := ⟨gb448, 2, none⟩) (Kd.R_far (p := ⟨gb448, 1, none⟩) (Kd.R_far (p := ⟨gb448, 0, none⟩) (Kd.R_types HO_427001.out BK448.out (by decide)) (fun _ hk => by first | exact hk.2 | (simp [hk])) (.slice Ao63 t440.length co63)) (fun _ hk => by first | exact hk.2 | (simp [hk])) (.slice Ao66 t443.length co66)) (fun _ hk => by first | exact hk.2 | (simp [hk])) (.int .i64 t446)) (fun _ h_ => h_.1))) hb); replace HO442 := am (Kd.R_below (by (with_reducible repeat (first | apply Kd.R_alloc | apply Kd.R_drewN | apply Kd.R_drew)); exact (Kd.R_mono (Kd.R_far (p := ⟨gb448, 2, none⟩) (Kd.R_far (p := ⟨gb448, 1, none⟩) (Kd.R_far (p := ⟨gb448, 0, none⟩) (Kd.R_types HO442.out BK448.out (by decide)) (fun _ hk => by first | exact hk.2 | (simp [hk])) (.slice Ao63 t440.length co63)) (fun _ hk => by first | exact hk.2 | (simp [hk])) (.slice Ao66 t443.length co66)) (fun _ hk => by first | exact hk.2 | (simp [hk])) (.int .i64 t446)) (fun _ h_ => h_.1))) hb); replace HO445 := am (Kd.R_below (by (with_reducible repeat (first | apply Kd.R_alloc | apply Kd.R_drewN | apply Kd.R_drew)); exact (Kd.R_mono (Kd.R_far (p := ⟨gb448, 2, none⟩) (Kd.R_far (p := ⟨gb448, 1, none⟩) (Kd.R_far (p := ⟨gb448, 0, none⟩) (Kd.R_types HO445.out BK448.out (by decide)) (fun _ hk => by first | exact hk.2 | (simp [hk])) (.slice Ao63 t440.length co63)) (fun _ hk => by first | exact hk.2 | (simp [hk])) (.slice Ao66 t443.length co66)) (fun _ hk => by first | exact hk.2 | (simp [hk])) (.int .i64 t446)) (fun _ h_ => h_.1))) hb); have HO451 := am (Kd.R_lower (Kd.R_new' ho0 (Kd.R_lt (by (with_reducible repeat (first | apply Kd.R_alloc | apply Kd.R_drewN | apply Kd.R_drew)); exact (Kd.R_mono (Kd.R_far (p := ⟨gb448, 2, none⟩) (Kd.R_far (p := ⟨gb448, 1, none⟩) (Kd.R_far (p := ⟨gb448, 0, none⟩) (Kd.R_types HO_5.out BK448.out (by decide)) (fun _ hk => by first | exact hk.2 | (simp [hk])) (.slice Ao63 t440.length co63)) (fun _ hk => by first | exact hk.2 | (simp [hk])) (.slice Ao66 t443.length co66)) (fun _ hk => by first | exact hk.2 | (simp [hk])) (.int .i64 t446)) (fun _ h_ => h_.1))))) (below_size (xW HB.out))); replace HO_5 := am (Kd.R_elder' (by (with_reducible repeat (first | apply Kd.R_alloc | apply Kd.R_drewN | apply Kd.R_drew)); exact (Kd.R_mono (Kd.R_far (p := ⟨gb448, 2, none⟩) (Kd.R_far (p := ⟨gb448, 1, none⟩) (Kd.R_far (p := ⟨gb448, 0, none⟩) (Kd.R_types HO_5.out BK448.out (by decide)) (fun _ hk => by first | exact hk.2 | (simp [hk])) (.slice Ao63 t440.length co63)) (fun _ hk => by first | exact hk.2 | (simp [hk])) (.slice Ao66 t443.length co66)) (fun _ hk => by first | exact hk.2 | (simp [hk])) (.int .i64 t446)) (fun _ h_ => h_.1))) (Kd.R_base ho0) hb); replace BK426 := am (blk_below (xB BK426.out) hb); replace BK448 := am (blk_below (xP BK448.out) hb); replace HB := am (below_step (xW HB.out) hb); (try clear hb); (try clear ho0); obtain ⟨Ao68, co68, eo68⟩ := Kd.R_slice HO451.out; subst eo68))
           go_ret
           exact ⟨xV, xW HB.out⟩
         ·replace c45 := Bool.eq_false_iff.mpr c45
          subst c45
          have H1 : (some false) = some r := by rw [if_neg (show ¬ (false = true) by decide)] at H; exact H
          clear H
          have H := H1
          clear H1
          obtain rfl := Option.some.inj H
          obtain ⟨Ao69, co69, eo69⟩ := Kd.R_slice HO_5.out
          subst eo69
          go_wp2_with (first | ((with_reducible refine gate_callee (f := 41) rfl ?_); refine xG (some 67) 41 Try.func41 #[.int .i64 8] (h := ?_); (with_reducible refine (impl_TableNew.calls 8 t440 t443 t446 false _ A43.out).mono ?_); rintro e w70 ⟨v441, v444, rfl, ho0, ho1, hb⟩; refine ⟨_, rfl, ?_⟩; replace HO_5 := am (Kd.R_below (xR HO_5.out) hb); have HO442 := am (Kd.R_lower (Kd.R_new' (Kd.R_new' ho0 (Kd.R_lt (xR HO_427000.out))) (Kd.R_lt (xR HO_427001.out))) (below_size (xW HB.out))); have HO445 := am (Kd.R_lower (Kd.R_new' (Kd.R_new' ho1 (Kd.R_lt (xR HO_427000.out))) (Kd.R_lt (xR HO_427001.out))) (below_size (xW HB.out))); replace HO_427000 := am (Kd.R_mono (Kd.R_told (Kd.R_told (Kd.R_old (xR HO_427000.out) hb) (Kd.R_base ho0)) (Kd.R_base ho1)) (fun _ h_ => h_.1)); replace HO_427001 := am (Kd.R_mono (Kd.R_told (Kd.R_told (Kd.R_old (xR HO_427001.out) hb) (Kd.R_base ho0)) (Kd.R_base ho1)) (fun _ h_ => h_.1)); replace BK426 := am (blk_below (xB BK426.out) hb); replace HB := am (below_step (xW HB.out) hb); (try clear hb); (try clear ho0); (try clear ho1)) | ((with_reducible refine gate_dst (N := 12) rfl ?_); (try (refine gate_guard (by rfl) ?_; dsimp only)); refine xE (N := 12) (cs := #[.slice none 0 0, .slice none 0 0, .int .i64 0]) (t := 26) (h := ?_); intro gb448 hg w71 hbox hb; replace HO_5 := am (Kd.R_below (xR HO_5.out) hb); replace HO_427000 := am (Kd.R_below (xR HO_427000.out) hb); replace HO_427001 := am (Kd.R_below (xR HO_427001.out) hb); replace HO442 := am (Kd.R_below (xR HO442.out) hb); replace HO445 := am (Kd.R_below (xR HO445.out) hb); have BK448 := am (hbox); have GW448 := am (xS hg HB.out); have GE448 := am (xS hg HB.out); replace HB := am (below_step (xW HB.out) hb); have NB426_448 := am (xN hg BK426.out); have NB448_426 := am (xM hg BK426.out); replace BK426 := am (blk_below (xB BK426.out) hb); clear hb hbox hg; obtain ⟨Ao72, co72, eo72⟩ := Kd.R_slice HO442.out; subst eo72; have hnb73 := NB448_426.out; have hnc73 := NB426_448.out; obtain ⟨hcz74_0, hcz74_1, hcz74_2, hfz74_0, hfz74_1, hfz74_2⟩ := xT3 (W := w71) BK448.out; obtain ⟨Ao75, co75, eo75⟩ := Kd.R_slice HO445.out; subst eo75))
          go_ret
          exact ⟨xV, xW HB.out⟩
        ·rw [if_neg c44] at H
         have c44b0 : (x7_1 == (t427.length : Int)) = false := beq_eq_false_iff_ne.mpr c44
         have c44b1 : (x7_1 != (t427.length : Int)) = true := bne_iff_ne.mpr c44
         obtain rfl := Option.some.inj H
         obtain ⟨Ao76, co76, eo76⟩ := Kd.R_slice HO_5.out
         subst eo76
         go_wp2_with (first | ((with_reducible refine gate_callee (f := 41) rfl ?_); refine xG (some 67) 41 Try.func41 #[.int .i64 8] (h := ?_); (with_reducible refine (impl_TableNew.calls 8 t440 t443 t446 t447 _ A43.out).mono ?_); rintro e w77 ⟨v441, v444, rfl, ho0, ho1, hb⟩; refine ⟨_, rfl, ?_⟩; replace HO_5 := am (Kd.R_below (xR HO_5.out) hb); have HO442 := am (Kd.R_lower (Kd.R_new' (Kd.R_new' ho0 (Kd.R_lt (xR HO_427000.out))) (Kd.R_lt (xR HO_427001.out))) (below_size (xW HB.out))); have HO445 := am (Kd.R_lower (Kd.R_new' (Kd.R_new' ho1 (Kd.R_lt (xR HO_427000.out))) (Kd.R_lt (xR HO_427001.out))) (below_size (xW HB.out))); replace HO_427000 := am (Kd.R_mono (Kd.R_told (Kd.R_told (Kd.R_old (xR HO_427000.out) hb) (Kd.R_base ho0)) (Kd.R_base ho1)) (fun _ h_ => h_.1)); replace HO_427001 := am (Kd.R_mono (Kd.R_told (Kd.R_told (Kd.R_old (xR HO_427001.out) hb) (Kd.R_base ho0)) (Kd.R_base ho1)) (fun _ h_ => h_.1)); replace BK426 := am (blk_below (xB BK426.out) hb); replace HB := am (below_step (xW HB.out) hb); (try clear hb); (try clear ho0); (try clear ho1)) | ((with_reducible refine gate_dst (N := 12) rfl ?_); (try (refine gate_guard (by rfl) ?_; dsimp only)); refine xE (N := 12) (cs := #[.slice none 0 0, .slice none 0 0, .int .i64 0]) (t := 26) (h := ?_); intro gb448 hg w78 hbox hb; replace HO_5 := am (Kd.R_below (xR HO_5.out) hb); replace HO_427000 := am (Kd.R_below (xR HO_427000.out) hb); replace HO_427001 := am (Kd.R_below (xR HO_427001.out) hb); replace HO442 := am (Kd.R_below (xR HO442.out) hb); replace HO445 := am (Kd.R_below (xR HO445.out) hb); have BK448 := am (hbox); have GW448 := am (xS hg HB.out); have GE448 := am (xS hg HB.out); replace HB := am (below_step (xW HB.out) hb); have NB426_448 := am (xN hg BK426.out); have NB448_426 := am (xM hg BK426.out); replace BK426 := am (blk_below (xB BK426.out) hb); clear hb hbox hg; obtain ⟨Ao79, co79, eo79⟩ := Kd.R_slice HO442.out; subst eo79; have hnb80 := NB448_426.out; have hnc80 := NB426_448.out; obtain ⟨hcz81_0, hcz81_1, hcz81_2, hfz81_0, hfz81_1, hfz81_2⟩ := xT3 (W := w78) BK448.out; obtain ⟨Ao82, co82, eo82⟩ := Kd.R_slice HO445.out; subst eo82))
         go_ret
         exact ⟨xV, xW HB.out⟩
def laws_FnKeyLists.Pure : Prop := ∀ (l0 : List Int), l0.length ≤ maxLen → l0.length * 1 ≤ 140737488351232 → (∀ x ∈ l0, (Lit.int .u8 x).wf = true) → ∃ k, laws_FnKeyLists.f k l0 = some true
theorem laws_FnKeyLists.walk (P : laws_FnKeyLists.Pure) (a0 : Option Addr) (len0 cap0 : Nat) (z0 : List Int) (w : World) (w0 : (a0 = none ∧ len0 = 0 ∧ cap0 = 0 ∧ z0 = []) ∨ ∃ x, a0 = some x ∧ len0 ≤ cap0 ∧ cap0 ≤ maxLen ∧ z0.length = cap0 ∧ (∀ i, i < z0.length → w.cell? (x.add i) = some (.int .u8 (z0.getD i 0))) ∧ ∀ n ∈ z0, (Lit.int .u8 n).wf = true) (y0 : len0 * 1 ≤ 140737488351232) :
  Calls Try.prog 10 #[.slice a0 len0 cap0] w fun e w' => e = .returned (.bool true) ∧ Below w.heap.size w w' := by
 obtain ⟨l0, rfl, hr0, hm0, hw0, hc0⟩ := ReadsInt.ofRowC w0
 obtain ⟨k, h⟩ := P l0 hm0 y0 hw0
 refine (laws_FnKeyLists.calls k _ _ l0 true w (Kd.C_of_reads (d := (0 : Int)) (h1 := fun _ => rfl) hr0) hc0 h).mono ?_
 rintro e w' ⟨rfl, hd⟩
 exact ⟨rfl, hd⟩
end Go.Proofs.Ytmahoekbedgbcaa.HFnKeyLists
