/- What the row of the law needs of the printed and the plain texts. -/
import Derived.Test.YtmahoekbedgbcaaZfHX
import Derived.Test.YtmahoekbedgbcaaZfHFnGrowsx0
import Derived.Test.YtmahoekbedgbcaaZfHFnGrowsx10
import Derived.Test.YtmahoekbedgbcaaZfHFnGrowsx11
import Derived.Test.YtmahoekbedgbcaaZfHFnGrowsx12
namespace Go.Proofs.Ytmahoekbedgbcaa.HFnGrows
open Go.RowKit Go.Proofs.YtmahoekbedgbcaaW.PrintWords Go.Proofs.YtmahoekbedgbcaaW.PrintLast Go.Proofs.YtmahoekbedgbcaaW.PrintMore
attribute [local go_sem] max2_int min2_int max_two min_two max_three min_three max_four min_four
set_option linter.unusedVariables false
set_option linter.unusedSimpArgs false
def impl_copyTable.f (l0_0 : List (S57)) (l0_1 : List (S57)) (a0_2 : Int) : Option ((List (S57)) × (List (S57)) × Int) := (impl_Cell_50.f l0_0).bind fun t396 => ((impl_Cell_50.f l0_1).bind fun t399 => (some (t396, t399, a0_2)))
def impl_copyTable.T1 : Bool × List (List Nat × List Nat) := (true, [([], []), ([0], [0]), ([1], [1]), ([], []), ([3], [3]), ([4, 2], [4]), ([0, 1, 2, 3, 4], []), ([6, 2, 5, 0, 1, 2, 3, 4], [2, 6]), ([0, 1, 2, 3, 4, 5, 6, 7], []), ([8, 5, 7, 0, 1, 2, 3, 4, 5, 6, 7], [5, 8])])
def impl_copyTable.B1 : List Nat := [0, 1, 3, 0, 8, 31, 31, 127, 255, 511]
theorem impl_copyTable.tab1 : rtab .any (opsOf Try.f47 1) = impl_copyTable.T1 := by kernel_rfl
theorem impl_copyTable.bits1 : waitsOk impl_copyTable.T1.2 impl_copyTable.B1 = true := by kernel_rfl
set_option maxHeartbeats 8000000 in
set_option maxRecDepth 100000 in
theorem impl_copyTable.calls (A0_0 : Option Addr) (c0_0 : Nat) (l0_0 : List (S57)) (A0_1 : Option Addr) (c0_1 : Nat) (l0_1 : List (S57)) (a0_2 : Int) (r1 : List (S57)) (r2 : List (S57)) (r3 : Int) (w : World) (hr0_0 : Kd.C k57 w A0_0 l0_0.length l0_0) (hc0_0 : l0_0.length ≤ c0_0) (hr0_1 : Kd.C k57 w A0_1 l0_1.length l0_1) (hc0_1 : l0_1.length ≤ c0_1) (h : impl_copyTable.f l0_0 l0_1 a0_2 = some (r1, r2, r3)) :
  Calls Try.prog 47 #[.agg #[.slice A0_0 l0_0.length c0_0, .slice A0_1 l0_1.length c0_1, .int .i64 a0_2]] w fun e w' => ∃ v0_ v1_ : Value, e = .returned (.agg #[v0_, v1_, .int .i64 r3]) ∧ Kd.R k57 57 w' w.heap.size (fun k_ => some k_ ≠ (v1_ : Value).ownBlock) v0_ r1 ∧ Kd.R k57 57 w' w.heap.size (fun k_ => some k_ ≠ (v0_ : Value).ownBlock) v1_ r2 ∧ Below w.heap.size w w' := by
 have hu26 := Try.underlying26
 have HR0_0 := am hr0_0
 have HC0_0 := am hc0_0
 clear hr0_0 hc0_0
 have HR0_1 := am hr0_1
 have HC0_1 := am hc0_1
 clear hr0_1 hc0_1
 have HB := am (Below.refl w.heap.size w)
 have H : ((impl_Cell_50.f l0_0).bind fun t396 => ((impl_Cell_50.f l0_1).bind fun t399 => (some (t396, t399, a0_2)))) = some (r1, r2, r3) := h
 clear h
 replace H := Option.bind_eq_some_iff.mp H
 obtain ⟨t396, A20, H⟩ := H
 try dsimp only at H
 have A2 := am A20
 clear A20
 replace H := Option.bind_eq_some_iff.mp H
 obtain ⟨t399, A30, H⟩ := H
 replace H : (some (t396, t399, a0_2)) = some (r1, r2, r3) := H
 have A3 := am A30
 clear A30
 simp only [Option.some.injEq, Prod.mk.injEq] at H
 obtain ⟨rfl, rfl, rfl⟩ := H
 go_enter Try.func47, Try.ntmps47
 try go_wp2_with (first | ((with_reducible refine gate_dst (N := 1) rfl ?_); refine xE (N := 1) (cs := #[.slice A0_0 l0_0.length c0_0, .slice A0_1 l0_1.length c0_1, .int .i64 a0_2]) (t := 26) (h := ?_); intro gb394 hg w4 hbox hb; have BK394 := am (hbox); have GW394 := am (xS hg HB.out); have GE394 := am (xS hg HB.out); replace HB := am (below_step (xW HB.out) hb); clear hb hbox hg) | ((with_reducible refine gate_dst (N := 2) rfl ?_); refine xE (N := 2) (cs := #[.slice none 0 0, .slice none 0 0, .int .i64 0]) (t := 26) (h := ?_); intro gb395 hg w5 hbox hb; have BK395 := am (hbox); have GW395 := am (xS hg HB.out); have GE395 := am (xS hg HB.out); replace HB := am (below_step (xW HB.out) hb); have NB394_395 := am (xN hg BK394.out); have NB395_394 := am (xM hg BK394.out); replace BK394 := am (blk_below (xB BK394.out) hb); clear hb hbox hg))
 replace BK394 := am (blk_drew BK394.out)
 replace BK395 := am (blk_drew BK395.out)
 replace HB := am (below_drew1 HB.out)
 refine start_ (n := 10) (S := fun w' => w'.cell? ⟨gb394, 0, none⟩ = some (.slice A0_0 l0_0.length c0_0) ∧ w'.cell? ⟨gb394, 1, none⟩ = some (.slice A0_1 l0_1.length c0_1) ∧ w'.cell? ⟨gb394, 2, none⟩ = some (.int .i64 a0_2)) (ds := [7, 9]) #[false, false, false, false, false, false, false, false, false, false] (by kernel_rfl) rfl rfl (xC3 BK394.out) (fun hHeld => ?_); refine with_tabW impl_copyTable.tab1 impl_copyTable.bits1 (fun HT_ HW_ => ?_)
 generalize w5.drew = w6 at BK394 BK395 HB hHeld ⊢
 refine xP1 (i := 0) (N := some 3) #[true, false, false, false, false, false, false, false, false, false] (any_of HT_.out (by kernel_rfl)) (h := ?_)
 refine xP1 (i := 3) (N := some 6) #[true, false, false, true, false, false, false, false, false, false] (any_of HT_.out (by kernel_rfl)) (h := ?_)
 refine take_ (i := 1) (N := some 4) (v := ?_) (a' := ?_) #[true, true, false, true, false, false, false, false, false, false] rfl rfl (take_ofW HT_.out HW_.out (by kernel_rfl)) (fun _ _ _ h => h) (Or.inl ⟨by rfl, ?_⟩) hHeld ?_ ?_
 rotate_left
 ·rintro w' ⟨s0, s1, s2⟩
  go_simp
  with_reducible rfl
 rotate_left
 ·simp only [Act.put, List.setIfInBounds_toArray, List.set_cons_zero, List.set_cons_succ, i64_w, i32_w]
  rfl
 refine take_ (i := 4) (N := some 7) (v := ?_) (a' := ?_) #[true, true, false, true, true, false, false, false, false, false] rfl rfl (take_ofW HT_.out HW_.out (by kernel_rfl)) (fun _ _ _ h => h) (Or.inl ⟨by rfl, ?_⟩) hHeld ?_ ?_
 rotate_left
 ·rintro w' ⟨s0, s1, s2⟩
  go_simp
  with_reducible rfl
 rotate_left
 ·simp only [Act.put, List.setIfInBounds_toArray, List.set_cons_zero, List.set_cons_succ, i64_w, i32_w]
  rfl
 refine one_ (i := 2) (N := some 5) #[true, true, true, true, true, false, false, false, false, false] rfl rfl (one_of HT_.out (by kernel_rfl)) (by decide) (fun K hK => ?_)
 refine xG1 50 Try.func50 #[.slice A0_0 l0_0.length c0_0] (h := ?_)
 with_reducible refine (impl_Cell_50.calls _ _ l0_0 t396 _ ?side1 ?side2 A2.out).mono ?_
 (case side1 => exact xC (Kd.C_below HR0_0.out HB.out))
 (case side2 => exact HC0_0.out)
 rintro e w7 ⟨v397, rfl, ho0, hb⟩
 refine ⟨_, rfl, ?_⟩
 have HO398 := am (Kd.R_lower ho0 (below_size (xW HB.out)))
 replace BK394 := am (blk_below (xB BK394.out) hb)
 replace BK395 := am (blk_below (xB BK395.out) hb)
 replace HB := am (below_step (xW HB.out) hb)
 (try clear hb)
 (try clear ho0)
 refine hK.out _ _ (xC3 BK394.out) (fun hHeld => ?_)
 clear hK K
 refine xN1 (h := ?_)
 refine xP1 (i := 6) (N := some 9) #[true, true, true, true, true, false, true, false, false, false] (any_of HT_.out (by kernel_rfl)) (h := ?_)
 refine one_ (i := 5) (N := some 8) #[true, true, true, true, true, true, true, false, false, false] rfl rfl (one_of HT_.out (by kernel_rfl)) (by decide) (fun K hK => ?_)
 refine xG1 50 Try.func50 #[.slice A0_1 l0_1.length c0_1] (h := ?_)
 with_reducible refine (impl_Cell_50.calls _ _ l0_1 t399 _ ?side1 ?side2 A3.out).mono ?_
 (case side1 => exact xC (Kd.C_below HR0_1.out HB.out))
 (case side2 => exact HC0_1.out)
 rintro e w8 ⟨v400, rfl, ho0, hb⟩
 refine ⟨_, rfl, ?_⟩
 have HO401 := am (Kd.R_lower (Kd.R_new' ho0 (Kd.R_lt (xR HO398.out))) (below_size (xW HB.out)))
 replace HO398 := am (Kd.R_elder' (xR HO398.out) (Kd.R_base ho0) hb)
 replace BK394 := am (blk_below (xB BK394.out) hb)
 replace BK395 := am (blk_below (xB BK395.out) hb)
 replace HB := am (below_step (xW HB.out) hb)
 (try clear hb)
 (try clear ho0)
 obtain ⟨Ao9, co9, eo9⟩ := Kd.R_slice HO398.out
 (first | subst eo9 | (injection eo9 with f1_ f2_ f3_; have f4_ := f1_.symm; have f5_ := f3_.symm; clear f1_ f2_ f3_; subst f4_; subst f5_))
 obtain ⟨Ao11, co11, eo11⟩ := Kd.R_slice HO401.out
 (first | subst eo11 | (injection eo11 with f1_ f2_ f3_; have f4_ := f1_.symm; have f5_ := f3_.symm; clear f1_ f2_ f3_; subst f4_; subst f5_))
 refine hK.out _ _ (xC3 BK394.out) (fun hHeld => ?_)
 clear hK K
 refine xN1 (h := ?_)
 refine last_ (i := 7) (N := none) #[true, true, true, true, true, true, true, true, false, false] rfl rfl (one_of HT_.out (by kernel_rfl)) (by decide) (fun K hK => ?_)
 have hs10 : w8.cell? ⟨gb394, 0, none⟩ = some (.slice A0_0 l0_0.length c0_0) := (blk_cell BK394.out 0).trans rfl
 have hfs10 := blk_frozen BK394.out 0
 have hns10_1 := NB395_394.out
 have hms10_1 := NB394_395.out
 refine skip_ (w1 := ?_) (by rfl) rfl ?_ ?_
 rotate_left
 ·go_simp
  rfl
 refine hK.out _ _ ?_
 clear hK K
 refine xP1 (i := 8) (N := some 10) #[true, true, true, true, true, true, true, true, true, false] (any_of HT_.out (by kernel_rfl)) (h := ?_)
 refine last_ (i := 9) (N := none) #[true, true, true, true, true, true, true, true, true, true] rfl rfl (one_of HT_.out (by kernel_rfl)) (by decide) (fun K hK => ?_)
 have hs12 : w8.cell? ⟨gb394, 1, none⟩ = some (.slice A0_1 l0_1.length c0_1) := (blk_cell BK394.out 1).trans rfl
 have hfs12 := blk_frozen BK394.out 1
 have hns12_1 := NB395_394.out
 have hms12_1 := NB394_395.out
 refine skip_ (w1 := ?_) (by rfl) rfl ?_ ?_
 rotate_left
 ·go_simp
  rfl
 refine hK.out _ _ ?_
 clear hK K
 refine done_ (done_of HT_.out (by kernel_rfl)) ?_
 have hnb13 := NB394_395.out
 have hnc13 := NB395_394.out
 obtain ⟨hcz14_0, hcz14_1, hcz14_2, hfz14_0, hfz14_1, hfz14_2⟩ := xT3 (W := w8) BK394.out
 obtain ⟨hcz15_0, hcz15_1, hcz15_2, hfz15_0, hfz15_1, hfz15_2⟩ := xT3 (W := w8) BK395.out
 try go_wp2
 refine bodyPost_ret (results_cell_row rfl _ _ gb395 26 #[.slice Ao9 t396.length co9, .slice Ao11 t399.length co11, .int .i64 a0_2] (0, 0) _ rfl (xP BK395.out) Try.underlying26 rfl (by kernel_rfl)) rfl ?_
 exact ⟨_, _, xV, Kd.R_mono (xR HO398.out) (fun _ hk => hk.2), Kd.R_mono (xR HO401.out) (fun _ hk => hk.2), xW HB.out⟩
mutual
def impl_Table_put.l0 : Nat → ByteArray → Int → Int → List (S57) → List (S57) → Int → Option (Bool × (List (S57)) × (List (S57)))
 | 0, _, _, _, _, _, _ => none
 | k + 1, x1, x2, x7, x403000, x403001, x403002 => if 0 ≤ x7 then (if x7 < (x403000.length : Int) then (if ((rd_T57 x403000 x7).f0).toList = ([] : List UInt8) then (if ((rd_T57 x403000 x7).f1) = (-1) then ((impl_nones.f k x403000).bind fun t407 => (impl_Table_put.j1 k x1 x2 x7 (t407 == 1) x403000 x403001 x403002)) else (impl_Table_put.j1 k x1 x2 x7 false x403000 x403001 x403002)) else (if (x403000.length : Int) = 0 then (none) else (impl_Table_put.l0 k x1 x2 (Int.tmod (wrap64 (x7 + 1)) (x403000.length : Int)) x403000 x403001 x403002))) else (none)) else (none)
def impl_Table_put.j1 : Nat → ByteArray → Int → Int → Bool → List (S57) → List (S57) → Int → Option (Bool × (List (S57)) × (List (S57)))
 | 0, _, _, _, _, _, _, _ => none
 | k + 1, x1, x2, x7, x58, x403000, x403001, x403002 => if x58 = true then (some (false, x403000, x403001)) else (if 0 ≤ x7 then (if x7 < (x403000.length : Int) then ((some (x403000.set (x7 : Int).toNat (⟨x1, x2⟩ : S57) : List (S57))).bind fun y408 => ((impl_seek.f k x403001 x1).bind fun t409 => (if t409 ≥ 0 then (if 0 ≤ t409 then (if t409 < (x403001.length : Int) then (some (true, y408, (x403001.set (t409 : Int).toNat (⟨(⟨#[]⟩ : ByteArray), (-2)⟩ : S57)))) else (none)) else (none)) else (some (true, y408, x403001))))) else (none)) else (none))
end
def impl_Table_put.f (k : Nat) (l0_0 : List (S57)) (l0_1 : List (S57)) (a0_2 : Int) (a1 : ByteArray) (a2 : Int) : Option (Bool × (List (S57)) × (List (S57))) := (impl_seek.f k l0_0 a1).bind fun t403 => (if t403 < 0 then ((impl_HashOf.f k a1 0).bind fun t404 => (if (l0_0.length : Int) = 0 then (none) else (impl_Table_put.l0 k a1 a2 (Int.tmod t404 (l0_0.length : Int)) l0_0 l0_1 a0_2))) else (if 0 ≤ t403 then (if t403 < (l0_0.length : Int) then ((some (l0_0.set (t403 : Int).toNat (⟨a1, a2⟩ : S57) : List (S57))).bind fun y411 => ((impl_seek.f k l0_1 a1).bind fun t412 => (if t412 ≥ 0 then (if 0 ≤ t412 then (if t412 < (l0_1.length : Int) then (some (true, y411, (l0_1.set (t412 : Int).toNat (⟨(⟨#[]⟩ : ByteArray), (-2)⟩ : S57)))) else (none)) else (none)) else (some (true, y411, l0_1))))) else (none)) else (none)))
def impl_Table_put.T3 : Bool × List (List Nat × List Nat) := (true, [([], []), ([0], [0]), ([], []), ([2], [2]), ([3], [3]), ([4], [4]), ([5], [5]), ([1, 6], [1, 6]), ([7, 1, 0, 1, 2, 3, 4, 5, 6, 7], [7])])
def impl_Table_put.B3 : List Nat := [0, 1, 0, 4, 12, 28, 60, 127, 255]
theorem impl_Table_put.tab3 : rtab .any (opsOf Try.f48 3) = impl_Table_put.T3 := by kernel_rfl
theorem impl_Table_put.bits3 : waitsOk impl_Table_put.T3.2 impl_Table_put.B3 = true := by kernel_rfl
set_option maxHeartbeats 8000000 in
set_option maxRecDepth 100000 in
theorem impl_Table_put.calls (k : Nat) (P0_0_ : Nat → Prop) (u9000_ : Value) (l0_0 : List (S57)) (P0_1_ : Nat → Prop) (u9001_ : Value) (l0_1 : List (S57)) (a0_2 : Int) (a1 : ByteArray) (a2 : Int) (r1 : Bool) (r2 : List (S57)) (r3 : List (S57)) (w0 w : World) (hB : Below w0.heap.size w0 w) (ho0_0 : Kd.R k57 57 w w0.heap.size P0_0_ u9000_ l0_0) (hp0_0_0_1 : ∀ k_, P0_0_ k_ → ¬ P0_1_ k_) (ho0_1 : Kd.R k57 57 w w0.heap.size P0_1_ u9001_ l0_1) (hp0_1_0_0 : ∀ k_, P0_1_ k_ → ¬ P0_0_ k_) (h : impl_Table_put.f k l0_0 l0_1 a0_2 a1 a2 = some (r1, r2, r3)) (gb0_ : Nat) (hg0_ : w.heap[gb0_]? = some (.cells #[u9000_, u9001_, .int .i64 a0_2] 26 (0, 0))) (hge0_ : w0.heap.size ≤ gb0_) :
  Calls Try.prog 48 #[.pointer (some ⟨gb0_, 0, none⟩), .string a1, .int .i64 a2] w fun e w' => e = .returned (.bool r1) ∧ Kd.R k57 57 w' w0.heap.size (fun k_ => ((P0_0_ k_ ∨ P0_1_ k_) ∨ w.heap.size ≤ k_)) u9000_ r2 ∧ Kd.R k57 57 w' w0.heap.size (fun k_ => ((P0_0_ k_ ∨ P0_1_ k_) ∨ w.heap.size ≤ k_)) u9001_ r3 ∧ Below w0.heap.size w0 w' ∧ Kept w w' (fun k_ => P0_0_ k_ ∨ P0_1_ k_) := by
 have hu26 := Try.underlying26
 have hu57 := Try.underlying57
 have HO0_0 := am (show Kd.R k57 57 w w0.heap.size (fun k_ => ((P0_0_ k_ ∨ P0_1_ k_) ∨ w.heap.size ≤ k_) ∧ some k_ ≠ (u9001_ : Value).ownBlock) u9000_ l0_0 from Kd.R_mono ho0_0 (fun k_ hk => ⟨(.inl (.inl hk)), fun e_ => hp0_0_0_1 k_ hk (ho0_1.1 k_ e_.symm)⟩))
 have HO0_1 := am (show Kd.R k57 57 w w0.heap.size (fun k_ => ((P0_0_ k_ ∨ P0_1_ k_) ∨ w.heap.size ≤ k_) ∧ some k_ ≠ (u9000_ : Value).ownBlock) u9001_ l0_1 from Kd.R_mono ho0_1 (fun k_ hk => ⟨(.inl (.inr hk)), fun e_ => hp0_1_0_0 k_ hk (ho0_0.1 k_ e_.symm)⟩))
 have HK := am (Kept.refl w (fun k_ => P0_0_ k_ ∨ P0_1_ k_))
 have HW0 := am hB.size
 have HB := am hB
 clear hB
 have H : ((impl_seek.f k l0_0 a1).bind fun t403 => (if t403 < 0 then ((impl_HashOf.f k a1 0).bind fun t404 => (if (l0_0.length : Int) = 0 then (none) else (impl_Table_put.l0 k a1 a2 (Int.tmod t404 (l0_0.length : Int)) l0_0 l0_1 a0_2))) else (if 0 ≤ t403 then (if t403 < (l0_0.length : Int) then ((some (l0_0.set (t403 : Int).toNat (⟨a1, a2⟩ : S57) : List (S57))).bind fun y411 => ((impl_seek.f k l0_1 a1).bind fun t412 => (if t412 ≥ 0 then (if 0 ≤ t412 then (if t412 < (l0_1.length : Int) then (some (true, y411, (l0_1.set (t412 : Int).toNat (⟨(⟨#[]⟩ : ByteArray), (-2)⟩ : S57)))) else (none)) else (none)) else (some (true, y411, l0_1))))) else (none)) else (none)))) = some (r1, r2, r3) := h
 clear h
 replace H := Option.bind_eq_some_iff.mp H
 obtain ⟨t403, A40, H⟩ := H
 try dsimp only at H
 have A4 := am A40
 clear A40
 by_cases c5 : t403 < 0
 ·rw [if_pos c5] at H
  have c5b0 : decide (t403 < 0) = true := decide_eq_true c5
  clear c5
  replace H := Option.bind_eq_some_iff.mp H
  obtain ⟨t404, A60, H⟩ := H
  try dsimp only at H
  have A6 := am A60
  clear A60
  by_cases c7 : (l0_0.length : Int) = 0
  ·rw [if_pos c7] at H
   exact absurd H (by simp)
  ·rw [if_neg c7] at H
   have c7b0 : ((l0_0.length : Int) == 0) = false := beq_eq_false_iff_ne.mpr c7
   have c7b1 : ((l0_0.length : Int) != 0) = true := bne_iff_ne.mpr c7
   have c7b2 : ¬ (l0_0 = []) := fun h_ => c7 (by rw [h_]; rfl)
   have H' := am H
   clear H
   obtain ⟨Ao8, co8, eo8⟩ := Kd.R_slice HO0_0.out
   subst eo8
   obtain ⟨Ao9, co9, eo9⟩ := Kd.R_slice HO0_1.out
   subst eo9
   have BK402 := am hg0_
   have GE402 := am hge0_
   obtain ⟨hcz11_0, hcz11_1, hcz11_2, hfz11_0, hfz11_1, hfz11_2⟩ := xT3 (W := w) BK402.out
   go_enter Try.func48, Try.ntmps48
   try go_wp2_with (first | ((with_reducible refine gate_callee (f := 80) rfl ?_); refine xG (some 14) 80 Try.func80 #[.slice Ao8 l0_0.length co8, .string a1] (h := ?_); (with_reducible refine (impl_seek.calls k _ _ l0_0 a1 t403 _ ?side1 ?side2 A4.out).mono ?_); (case side1 => exact xC ((Kd.R_reads' HO0_0.out).2.2)); (case side2 => exact (Kd.R_reads' HO0_0.out).2.1); rintro e w12 ⟨rfl, hb⟩; refine ⟨_, rfl, ?_⟩; replace HO0_0 := am (Kd.R_below (xR HO0_0.out) hb); replace HO0_1 := am (Kd.R_below (xR HO0_1.out) hb); replace BK402 := am (blk_below (xB BK402.out) hb); replace HK := am (Kept.below (S := (fun k_ => P0_0_ k_ ∨ P0_1_ k_)) (xJ HK.out) hb); replace HB := am (below_step (xW HB.out) hb); (try clear hb); ))
   replace HO0_0 := am (Kd.R_drew HO0_0.out)
   replace HO0_1 := am (Kd.R_drew HO0_1.out)
   replace BK402 := am (blk_drew BK402.out)
   replace HK := am (Kept.drew HK.out)
   replace HB := am (below_drew1 HB.out)
   refine start_ (n := 9) (S := fun w' => w'.cell? ⟨gb0_, 0, none⟩ = some (.slice Ao8 l0_0.length co8) ∧ w'.cell? ⟨gb0_, 1, none⟩ = some (.slice Ao9 l0_1.length co9) ∧ w'.cell? ⟨gb0_, 2, none⟩ = some (.int .i64 a0_2)) (ds := []) #[false, false, false, false, false, false, false, false, false] (by kernel_rfl) rfl rfl (xC3 BK402.out) (fun hHeld => ?_); refine with_tabW impl_Table_put.tab3 impl_Table_put.bits3 (fun HT_ HW_ => ?_)
   generalize w12.drew = w13 at HO0_0 HO0_1 BK402 HK HB hHeld ⊢
   refine xP1 (i := 0) (N := some 17) #[true, false, false, false, false, false, false, false, false] (any_of HT_.out (by kernel_rfl)) (h := ?_)
   refine xP1 (i := 2) (N := some 19) #[true, false, true, false, false, false, false, false, false] (any_of HT_.out (by kernel_rfl)) (h := ?_)
   refine xP1 (i := 3) (N := some 20) #[true, false, true, true, false, false, false, false, false] (any_of HT_.out (by kernel_rfl)) (h := ?_)
   refine xP1 (i := 4) (N := some 21) #[true, false, true, true, true, false, false, false, false] (any_of HT_.out (by kernel_rfl)) (h := ?_)
   refine take_ (i := 5) (N := some 22) (v := ?_) (a' := ?_) #[true, false, true, true, true, true, false, false, false] rfl rfl (take_ofW HT_.out HW_.out (by kernel_rfl)) (fun _ _ _ h => h) (Or.inl ⟨by rfl, ?_⟩) hHeld ?_ ?_
   rotate_left
   ·rintro w' ⟨s0, s1, s2⟩
    go_simp
    with_reducible rfl
   rotate_left
   ·simp only [Act.put, List.setIfInBounds_toArray, List.set_cons_zero, List.set_cons_succ, i64_w, i32_w]
    rfl
   refine xP1 (i := 6) (N := some 23) #[true, false, true, true, true, true, true, false, false] (any_of HT_.out (by kernel_rfl)) (h := ?_)
   refine one_ (i := 1) (N := some 18) #[true, true, true, true, true, true, true, false, false] rfl rfl (one_of HT_.out (by kernel_rfl)) (by decide) (fun K hK => ?_)
   refine xG1 81 Try.func81 #[.string a1, .int .i64 0] (h := ?_)
   with_reducible refine (impl_HashOf.calls k a1 0 t404 _ A6.out).mono ?_
   rintro e w14 ⟨rfl, hb⟩
   refine ⟨_, rfl, ?_⟩
   replace HO0_0 := am (Kd.R_below (xR HO0_0.out) hb)
   replace HO0_1 := am (Kd.R_below (xR HO0_1.out) hb)
   replace BK402 := am (blk_below (xB BK402.out) hb)
   replace HK := am (Kept.below (S := (fun k_ => P0_0_ k_ ∨ P0_1_ k_)) (xJ HK.out) hb)
   replace HB := am (below_step (xW HB.out) hb)
   (try clear hb)
   refine hK.out _ _ (xC3 BK402.out) (fun hHeld => ?_)
   clear hK K
   refine xN1 (h := ?_)
   refine xP1 (i := 7) (N := some 24) #[true, true, true, true, true, true, true, true, false] (any_of HT_.out (by kernel_rfl)) (h := ?_)
   refine xP1 (i := 8) (N := some 7) #[true, true, true, true, true, true, true, true, true] (any_of HT_.out (by kernel_rfl)) (h := ?_)
   refine done_ (done_of HT_.out (by kernel_rfl)) ?_
   try go_wp2
   go_loopg [7] k (fun kq v7 w' => ∃ (x7_1 : Int), v7 = .int .i64 x7_1 ∧ Aside0 (impl_Table_put.l0 kq a1 a2 x7_1 l0_0 l0_1 a0_2 = some (r1, r2, r3)) ∧ Aside0 (kq ≤ k) ∧ Aside0 (Kd.R k57 57 w' w0.heap.size (fun k_ => ((P0_0_ k_ ∨ P0_1_ k_) ∨ w.heap.size ≤ k_) ∧ some k_ ≠ ((.slice Ao9 l0_1.length co9) : Value).ownBlock) (.slice Ao8 l0_0.length co8) l0_0) ∧ Aside0 (Kd.R k57 57 w' w0.heap.size (fun k_ => ((P0_0_ k_ ∨ P0_1_ k_) ∨ w.heap.size ≤ k_) ∧ some k_ ≠ ((.slice Ao8 l0_0.length co8) : Value).ownBlock) (.slice Ao9 l0_1.length co9) l0_1) ∧ Aside0 (w'.heap[gb0_]? = some (.cells #[(.slice Ao8 l0_0.length co8), (.slice Ao9 l0_1.length co9), .int .i64 a0_2] 26 (0, 0))) ∧ Aside0 (Kept w w' (fun k_ => P0_0_ k_ ∨ P0_1_ k_)) ∧ Aside0 (Below w0.heap.size w0 w'))
   case atStart => exact ⟨(Int.tmod t404 (l0_0.length : Int)), (xQ), H', ⟨Nat.le_refl _⟩, ⟨xR HO0_0.out⟩, ⟨xR HO0_1.out⟩, ⟨xB BK402.out⟩, ⟨xJ HK.out⟩, ⟨xW HB.out⟩⟩
   case round =>
    clear H'
    try clear p2
    try clear c4
    try clear c5
    try clear c5b0
    try clear c7
    try clear c7b0
    try clear c7b1
    try clear c7b2
    try clear c8
    try clear hcz11_0
    try clear hcz11_1
    try clear hcz11_2
    try clear hfz11_0
    try clear hfz11_1
    try clear hfz11_2
    obtain ⟨x7_1, rfl, HA, HK1, HO_403000, HO_403001, BK402, HK, HB⟩ := hrel
    cases gk with
    | zero => exact absurd HA.out (by simp [impl_Table_put.l0])
    | succ k1 =>
     have H := HA.out
     clear HA
     simp only [impl_Table_put.l0] at H
     by_cases c15 : 0 ≤ x7_1
     ·rw [if_pos c15] at H
      have c15b0 : decide (0 ≤ x7_1) = true := decide_eq_true c15
      clear c15
      by_cases c16 : x7_1 < (l0_0.length : Int)
      ·rw [if_pos c16] at H
       have c16b0 : decide (x7_1 < (l0_0.length : Int)) = true := decide_eq_true c16
       clear c16
       by_cases c17 : ((rd_T57 l0_0 x7_1).f0).toList = ([] : List UInt8)
       ·rw [if_pos c17] at H
        have c17b0 : (((rd_T57 l0_0 x7_1).f0).toList == ([] : List UInt8)) = true := beq_iff_eq.mpr c17
        have c17b1 : (((rd_T57 l0_0 x7_1).f0).toList != ([] : List UInt8)) = false := bne_eq_false_iff_eq.mpr c17
        clear c17
        have HC18 := am H
        clear H
        obtain ⟨hcz19_0, hcz19_1, hcz19_2, hfz19_0, hfz19_1, hfz19_2⟩ := xT3 (W := wr) BK402.out
        have p405 : 0 ≤ (x7_1 : Int) := of_decide_eq_true (by assumption)
        have q405 : x7_1 < (l0_0.length : Int) := of_decide_eq_true (by assumption)
        obtain ⟨ad405, e405, hx405_0, hx405_1⟩ := at_T57 (Kd.R_reads' HO_403000.out).2.2 x7_1 p405 q405
        cases e405
        replace p405 := eq_true p405
        replace q405 := eq_true q405
        go_upto_region 6 with (fail)
        go_cut [58] (fun v58 wc => ∃ (kq : Nat) (x58_17 : Bool), v58 = .bool x58_17 ∧ Aside0 (impl_Table_put.j1 kq a1 a2 x7_1 x58_17 l0_0 l0_1 a0_2 = some (r1, r2, r3)) ∧ Aside0 (kq ≤ k1) ∧ Aside0 (Kd.R k57 57 wc w0.heap.size (fun k_ => ((P0_0_ k_ ∨ P0_1_ k_) ∨ w.heap.size ≤ k_) ∧ some k_ ≠ ((.slice Ao9 l0_1.length co9) : Value).ownBlock) (.slice (some ad405) l0_0.length co8) l0_0) ∧ Aside0 (Kd.R k57 57 wc w0.heap.size (fun k_ => ((P0_0_ k_ ∨ P0_1_ k_) ∨ w.heap.size ≤ k_) ∧ some k_ ≠ ((.slice (some ad405) l0_0.length co8) : Value).ownBlock) (.slice Ao9 l0_1.length co9) l0_1) ∧ Aside0 (wc.heap[gb0_]? = some (.cells #[(.slice (some ad405) l0_0.length co8), (.slice Ao9 l0_1.length co9), .int .i64 a0_2] 26 (0, 0))) ∧ Aside0 (Kept w wc (fun k_ => P0_0_ k_ ∨ P0_1_ k_)) ∧ Aside0 (Below w0.heap.size w0 wc))
        case first =>
         have H := HC18.out
         clear HC18
         by_cases c20 : ((rd_T57 l0_0 x7_1).f1) = (-1)
         ·rw [if_pos c20] at H
          have c20b0 : (((rd_T57 l0_0 x7_1).f1) == (-1)) = true := beq_iff_eq.mpr c20
          have c20b1 : (((rd_T57 l0_0 x7_1).f1) != (-1)) = false := bne_eq_false_iff_eq.mpr c20
          clear c20
          (first | rw [c20b0] | (simp only [i64_w, i32_w]; rw [c20b0]) | skip)
          replace H := Option.bind_eq_some_iff.mp H
          obtain ⟨t407, A210, H⟩ := H
          try dsimp only at H
          have A21 := am A210
          clear A210
          have H' := am H
          clear H
          obtain ⟨hcz22_0, hcz22_1, hcz22_2, hfz22_0, hfz22_1, hfz22_2⟩ := xT3 (W := wr) BK402.out
          have p406 : 0 ≤ (x7_1 : Int) := of_decide_eq_true (by assumption)
          have q406 : x7_1 < (l0_0.length : Int) := of_decide_eq_true (by assumption)
          obtain ⟨ad406, e406, hx406_0, hx406_1⟩ := at_T57 (Kd.R_reads' HO_403000.out).2.2 x7_1 p406 q406
          obtain rfl : ad405 = ad406 := (by injection e406)
          replace p406 := eq_true p406
          replace q406 := eq_true q406
          go_wp2_with (first | (go_at_call 55; (with_reducible refine (impl_nones.calls k1 _ _ l0_0 t407 _ ?side1 ?side2 A21.out).mono ?_); (case side1 => exact xC ((Kd.R_reads' HO_403000.out).2.2)); (case side2 => exact (Kd.R_reads' HO_403000.out).2.1); rintro e w23 ⟨rfl, hb⟩; replace HO_403000 := am (Kd.R_below (xR HO_403000.out) hb); replace HO_403001 := am (Kd.R_below (xR HO_403001.out) hb); replace BK402 := am (blk_below (xB BK402.out) hb); replace HK := am (Kept.below (S := (fun k_ => P0_0_ k_ ∨ P0_1_ k_)) (xJ HK.out) hb); replace HB := am (below_step (xW HB.out) hb); (try clear hb); ))
          go_meet
          case rel => exact ⟨_, ((t407 == 1)), (xQ), H', ⟨by have := HK1.out; first | omega | exact Nat.le_refl _⟩, ⟨xR HO_403000.out⟩, ⟨xR HO_403001.out⟩, ⟨xB BK402.out⟩, ⟨xJ HK.out⟩, ⟨xW HB.out⟩⟩
         ·rw [if_neg c20] at H
          have c20b0 : (((rd_T57 l0_0 x7_1).f1) == (-1)) = false := beq_eq_false_iff_ne.mpr c20
          have c20b1 : (((rd_T57 l0_0 x7_1).f1) != (-1)) = true := bne_iff_ne.mpr c20
          (first | rw [c20b0] | (simp only [i64_w, i32_w]; rw [c20b0]) | skip)
          have H' := am H
          clear H
          obtain ⟨hcz24_0, hcz24_1, hcz24_2, hfz24_0, hfz24_1, hfz24_2⟩ := xT3 (W := wr) BK402.out
          have p406 : 0 ≤ (x7_1 : Int) := of_decide_eq_true (by assumption)
          have q406 : x7_1 < (l0_0.length : Int) := of_decide_eq_true (by assumption)
          obtain ⟨ad406, e406, hx406_0, hx406_1⟩ := at_T57 (Kd.R_reads' HO_403000.out).2.2 x7_1 p406 q406
          obtain rfl : ad405 = ad406 := (by injection e406)
          replace p406 := eq_true p406
          replace q406 := eq_true q406
          go_wp2
          go_meet
          case rel => exact ⟨_, (false), (xQ), H', ⟨by have := HK1.out; first | omega | exact Nat.le_refl _⟩, ⟨xR HO_403000.out⟩, ⟨xR HO_403001.out⟩, ⟨xB BK402.out⟩, ⟨xJ HK.out⟩, ⟨xW HB.out⟩⟩
        case rest =>
         clear HC18
         try clear c1
         try clear c2
         try clear p2
         try clear c4
         try clear p4
         try clear q4
         try clear hx4
         try clear c5
         try clear c5b0
         try clear c7
         try clear c7b0
         try clear c7b1
         try clear c7b2
         try clear c8
         try clear c15
         try clear c15b0
         try clear c16
         try clear c16b0
         try clear c17
         try clear c17b0
         try clear c17b1
         try clear c20
         try clear c20b0
         try clear c20b1
         try clear hcz11_0
         try clear hcz11_1
         try clear hcz11_2
         try clear hcz19_0
         try clear hcz19_1
         try clear hcz19_2
         try clear hcz22_0
         try clear hcz22_1
         try clear hcz22_2
         try clear hcz24_0
         try clear hcz24_1
         try clear hcz24_2
         try clear hfz11_0
         try clear hfz11_1
         try clear hfz11_2
         try clear hfz19_0
         try clear hfz19_1
         try clear hfz19_2
         try clear hfz22_0
         try clear hfz22_1
         try clear hfz22_2
         try clear hfz24_0
         try clear hfz24_1
         try clear hfz24_2
         try clear hx405_0
         try clear hx405_1
         try clear hx406_0
         try clear hx406_1
         try clear p2
         try clear p405
         try clear p406
         try clear q405
         try clear q406
         obtain ⟨kq, x58_17, rfl, HA, HJ17, HO_403000, HO_403001, BK402, HK, HB⟩ := hcut
         cases kq with
         | zero => exact absurd HA.out (by simp [impl_Table_put.j1])
         | succ kj17 =>
          have H := HA.out
          clear HA
          simp only [impl_Table_put.j1] at H
          by_cases c25 : x58_17 = true
          ·subst c25
           have H1 : (some (false, l0_0, l0_1)) = some (r1, r2, r3) := by rw [if_pos rfl] at H; exact H
           clear H
           have H := H1
           clear H1
           simp only [Option.some.injEq, Prod.mk.injEq] at H
           obtain ⟨rfl, rfl, rfl⟩ := H
           go_wp2
           go_ret
           exact ⟨xV, Kd.R_mono (xR HO_403000.out) (fun _ hk => hk.1), Kd.R_mono (xR HO_403001.out) (fun _ hk => hk.1), xW HB.out, xJ HK.out⟩
          ·replace c25 := Bool.eq_false_iff.mpr c25
           subst c25
           have H1 : (if 0 ≤ x7_1 then (if x7_1 < (l0_0.length : Int) then ((some (l0_0.set (x7_1 : Int).toNat (⟨a1, a2⟩ : S57) : List (S57))).bind fun y408 => ((impl_seek.f kj17 l0_1 a1).bind fun t409 => (if t409 ≥ 0 then (if 0 ≤ t409 then (if t409 < (l0_1.length : Int) then (some (true, y408, (l0_1.set (t409 : Int).toNat (⟨(⟨#[]⟩ : ByteArray), (-2)⟩ : S57)))) else (none)) else (none)) else (some (true, y408, l0_1))))) else (none)) else (none)) = some (r1, r2, r3) := by rw [if_neg (show ¬ (false = true) by decide)] at H; exact H
           clear H
           have H := H1
           clear H1
           by_cases c26 : 0 ≤ x7_1
           ·rw [if_pos c26] at H
            have c26b0 : decide (0 ≤ x7_1) = true := decide_eq_true c26
            clear c26
            by_cases c27 : x7_1 < (l0_0.length : Int)
            ·rw [if_pos c27] at H
             have c27b0 : decide (x7_1 < (l0_0.length : Int)) = true := decide_eq_true c27
             clear c27
             obtain ⟨y408, hy408⟩ : ∃ y_ : List (S57), y_ = (l0_0.set (x7_1 : Int).toNat (⟨a1, a2⟩ : S57)) := ⟨_, rfl⟩
             replace H : ((impl_seek.f kj17 l0_1 a1).bind fun t409 => (if t409 ≥ 0 then (if 0 ≤ t409 then (if t409 < (l0_1.length : Int) then (some (true, y408, (l0_1.set (t409 : Int).toNat (⟨(⟨#[]⟩ : ByteArray), (-2)⟩ : S57)))) else (none)) else (none)) else (some (true, y408, l0_1)))) = some (r1, r2, r3) := by first | (rw [hy408]; with_reducible exact H) | (have H2_ := (Option.bind_some _ _).symm.trans H; rw [hy408]; with_reducible exact H2_) | (have H2_ := (Option.bind_some _ _).symm.trans H; with_reducible exact H2_) | with_reducible exact H | (rw [hy408]; exact H) | exact H
             have Ny408 := am hy408
             clear hy408
             replace H := Option.bind_eq_some_iff.mp H
             obtain ⟨t409, A290, H⟩ := H
             try dsimp only at H
             have A29 := am A290
             clear A290
             by_cases c30 : t409 ≥ 0
             ·rw [if_pos c30] at H
              have c30b0 : decide (0 ≤ t409) = true := decide_eq_true c30
              clear c30
              by_cases c31 : 0 ≤ t409
              ·rw [if_pos c31] at H
               have c31b0 : decide (0 ≤ t409) = true := decide_eq_true c31
               clear c31
               by_cases c32 : t409 < (l0_1.length : Int)
               ·rw [if_pos c32] at H
                have c32b0 : decide (t409 < (l0_1.length : Int)) = true := decide_eq_true c32
                clear c32
                obtain ⟨y410, hy410⟩ : ∃ y_ : List (S57), y_ = (l0_1.set (t409 : Int).toNat (⟨(⟨#[]⟩ : ByteArray), (-2)⟩ : S57)) := ⟨_, rfl⟩
                replace H : (some (true, y408, y410)) = some (r1, r2, r3) := by first | (rw [hy410]; with_reducible exact H) | (have H2_ := (Option.bind_some _ _).symm.trans H; rw [hy410]; with_reducible exact H2_) | (have H2_ := (Option.bind_some _ _).symm.trans H; with_reducible exact H2_) | with_reducible exact H | (rw [hy410]; exact H) | exact H
                have Ny410 := am hy410
                clear hy410
                simp only [Option.some.injEq, Prod.mk.injEq] at H
                obtain ⟨rfl, rfl, rfl⟩ := H
                obtain ⟨hcz34_0, hcz34_1, hcz34_2, hfz34_0, hfz34_1, hfz34_2⟩ := xT3 (W := wc) BK402.out
                have p28 : 0 ≤ (x7_1 : Int) := of_decide_eq_true (by assumption)
                have q28 : (x7_1 : Int) < ((l0_0.length : Int) : Int) := of_decide_eq_true (by assumption)
                obtain ⟨go28, co28, eo28, gb28, gl28, cl28, HG28⟩ := Kd.R_form HO_403000.out (by omega)
                (first | cases eo28 | (injection eo28 with ea_ en_ ec_; (first | subst ea_ | (injection ea_ with ea_; subst ea_)); subst ec_; clear en_))
                have GB28 := am gb28
                have GG28 := am HG28
                clear gb28 gl28 HG28
                have HMgo28 := am (show ((P0_0_ go28 ∨ P0_1_ go28) ∨ w.heap.size ≤ go28) from (HO_403000.out.1 _ rfl).1)
                (first | simp only [add_plain] at hx405_0 | skip)
                (first | simp only [add_plain] at hx405_1 | skip)
                (first | simp only [add_plain] at hx406_0 | skip)
                (first | simp only [add_plain] at hx406_1 | skip)
                obtain ⟨ce28, hcl28, hM28, hcc28, hfr28⟩ := Kd.R_elem HO_403000.out z57 (x7_1 : Int) p28 q28
                obtain rfl := k57_openM hM28
                have hx28_0 : wc.cell? ⟨go28, (x7_1 : Int).toNat * 2, none⟩ = some (.string ((rd_T57 l0_0 x7_1).f0)) := hcc28 0 _ rfl
                have hx28_1 : wc.cell? ⟨go28, (x7_1 : Int).toNat * 2 + 1, none⟩ = some (.int .i64 ((rd_T57 l0_0 x7_1).f1)) := hcc28 1 _ rfl
                have hf28_0 : wc.frozen? ⟨go28, (x7_1 : Int).toNat * 2, none⟩ = false := hfr28 0
                have hf28_1 : wc.frozen? ⟨go28, (x7_1 : Int).toNat * 2 + 1, none⟩ = false := hfr28 1
                clear hcl28 hcc28 hfr28 hM28
                replace p28 := eq_true p28
                replace q28 := eq_true q28
                have HX35 := am (show Kd.R k57 57 wc w0.heap.size (fun k_ => ((P0_0_ k_ ∨ P0_1_ k_) ∨ w.heap.size ≤ k_) ∧ some k_ ≠ (.slice Ao9 l0_1.length co9 : Value).ownBlock) (.slice (some ⟨go28, 0, none⟩) l0_0.length co8) l0_0 from (xR HO_403000.out))
                obtain ⟨ce35, hcl35, hM35, hcc35, hfr35⟩ := Kd.R_elem HX35.out z57 (x7_1 : Int) (of_decide_eq_true (by assumption)) (by have h_ : (x7_1 : Int) < ((l0_0.length : Int) : Int) := of_decide_eq_true (by assumption); first | exact h_ | (have e_ := (Kd.R_reads' HO_403000.out).1; omega) | simpa using h_)
                obtain rfl := k57_openM hM35
                have HP35 := Kd.R_seg HX35.out (x7_1 : Int) (of_decide_eq_true (by assumption)) (by have h_ : (x7_1 : Int) < ((l0_0.length : Int) : Int) := of_decide_eq_true (by assumption); first | exact h_ | (have e_ := (Kd.R_reads' HO_403000.out).1; omega) | simpa using h_) (seg := [.string a1, .int .i64 a2]) (j := 0) hcl35 hcc35 (show 2 ≤ 2 from by decide) (x' := (⟨a1, a2⟩ : S57)) (k57_mkM _ _ _ (⟨a1, a2⟩ : S57) ) (fun _ hk => hk)
                have hx35_0 := hcc35 0 _ rfl
                (try simp only [show (k57).sz = 2 from rfl, Nat.mul_one, Nat.add_zero] at hx35_0)
                have hf35_0 := hfr35 0
                (try simp only [show (k57).sz = 2 from rfl, Nat.mul_one, Nat.add_zero] at hf35_0)
                have hx35_1 := hcc35 1 _ rfl
                (try simp only [show (k57).sz = 2 from rfl, Nat.mul_one, Nat.add_zero] at hx35_1)
                have hf35_1 := hfr35 1
                (try simp only [show (k57).sz = 2 from rfl, Nat.mul_one, Nat.add_zero] at hf35_1)
                clear hcl35 hcc35 hfr35 hM35
                go_wp2_with (first | ((with_reducible refine gate_store (t := 57) (p := 67) rfl ?_); refine store_event (t := 57) (p := 67) (v := ?vo_w36) (w1 := ((wc.setCell ⟨go28, (x7_1 : Int).toNat * 2, none⟩ (.string a1)).setCell ⟨go28, (x7_1 : Int).toNat * 2 + 1, none⟩ (.int .i64 a2))) ?hg ?ho ?hn ?hr ?_; (case ho => rfl); (case hg => rfl); (case hn => rfl); (case hr => first | (go_simp; done) | (go_simp; rfl)); intro w36 hw; have hg : wc.grownBy w36 (some go28) := (by rw [hw]; exact HP35.2); have hp_ : Kd.R k57 57 w36 w0.heap.size (fun k_ => ((P0_0_ k_ ∨ P0_1_ k_) ∨ w.heap.size ≤ k_) ∧ some k_ ≠ (.slice Ao9 l0_1.length co9 : Value).ownBlock) (.slice (some ⟨go28, 0, none⟩) l0_0.length co8) y408 := (by rw [hw, Ny408.out]; exact HP35.1); clear HP35; replace HO_403001 := am (Kd.R_after (v := (.slice (some ⟨go28, 0, none⟩) l0_0.length co8)) (v1 := (.slice (some ⟨go28, 0, none⟩) l0_0.length co8)) (ok := (fun k_ => ((P0_0_ k_ ∨ P0_1_ k_) ∨ w.heap.size ≤ k_))) (xR HO_403001.out) hg (.inl rfl)); replace BK402 := am (blk_grown (g := gb0_) (o := .cells #[.slice (some ⟨go28, 0, none⟩) l0_0.length co8, .slice Ao9 l0_1.length co9, .int .i64 a0_2] 26 (0, 0)) (xB BK402.out) hg (Kd.R_ne HO_403000.out BK402.out (by decide))); replace HB := am ((by rw [hw]; exact below_set (below_set (HB.out) GB28.out) GB28.out : Below w0.heap.size w0 w36)); replace HK := am (Kept.of_grown (S := (fun k_ => P0_0_ k_ ∨ P0_1_ k_)) hg (xJ HK.out) (fun k_ e_ => (HO_403000.out.1 k_ e_).1)); replace HO_403000 := am (hp_); clear hg hw hp_; obtain ⟨hcz37_0, hcz37_1, hcz37_2, hfz37_0, hfz37_1, hfz37_2⟩ := xT3 (W := w36) BK402.out) | ((with_reducible refine gate_callee (f := 80) rfl ?_); refine xG (some 73) 80 Try.func80 #[.slice Ao9 l0_1.length co9, .string a1] (h := ?_); (with_reducible refine (impl_seek.calls kj17 _ _ l0_1 a1 t409 _ ?side1 ?side2 A29.out).mono ?_); (case side1 => exact xC ((Kd.R_reads' HO_403001.out).2.2)); (case side2 => exact (Kd.R_reads' HO_403001.out).2.1); rintro e w38 ⟨rfl, hb⟩; refine ⟨_, rfl, ?_⟩; replace HO_403000 := am (Kd.R_below (xR HO_403000.out) hb); replace HO_403001 := am (Kd.R_below (xR HO_403001.out) hb); replace BK402 := am (blk_below (xB BK402.out) hb); replace HK := am (Kept.below (S := (fun k_ => P0_0_ k_ ∨ P0_1_ k_)) (xJ HK.out) hb); replace HB := am (below_step (xW HB.out) hb); (try clear hb); obtain ⟨hcz39_0, hcz39_1, hcz39_2, hfz39_0, hfz39_1, hfz39_2⟩ := xT3 (W := w38) BK402.out; have p33 : 0 ≤ (t409 : Int) := of_decide_eq_true (by assumption); have q33 : (t409 : Int) < ((l0_1.length : Int) : Int) := of_decide_eq_true (by assumption); obtain ⟨go33, co33, eo33, gb33, gl33, cl33, HG33⟩ := Kd.R_form HO_403001.out (by omega); (first | cases eo33 | (injection eo33 with ea_ en_ ec_; (first | subst ea_ | (injection ea_ with ea_; subst ea_)); subst ec_; clear en_)); have GB33 := am gb33; have GG33 := am HG33; clear gb33 gl33 HG33; have HMgo33 := am (show ((P0_0_ go33 ∨ P0_1_ go33) ∨ w.heap.size ≤ go33) from (HO_403001.out.1 _ rfl).1); obtain ⟨ce33, hcl33, hM33, hcc33, hfr33⟩ := Kd.R_elem HO_403001.out z57 (t409 : Int) p33 q33; obtain rfl := k57_openM hM33; have hx33_0 : w38.cell? ⟨go33, (t409 : Int).toNat * 2, none⟩ = some (.string ((rd_T57 l0_1 t409).f0)) := hcc33 0 _ rfl; have hx33_1 : w38.cell? ⟨go33, (t409 : Int).toNat * 2 + 1, none⟩ = some (.int .i64 ((rd_T57 l0_1 t409).f1)) := hcc33 1 _ rfl; have hf33_0 : w38.frozen? ⟨go33, (t409 : Int).toNat * 2, none⟩ = false := hfr33 0; have hf33_1 : w38.frozen? ⟨go33, (t409 : Int).toNat * 2 + 1, none⟩ = false := hfr33 1; clear hcl33 hcc33 hfr33 hM33; replace p33 := eq_true p33; replace q33 := eq_true q33; have HX40 := am (show Kd.R k57 57 w38 w0.heap.size (fun k_ => ((P0_0_ k_ ∨ P0_1_ k_) ∨ w.heap.size ≤ k_) ∧ some k_ ≠ (.slice (some ⟨go28, 0, none⟩) l0_0.length co8 : Value).ownBlock) (.slice (some ⟨go33, 0, none⟩) l0_1.length co9) l0_1 from (xR HO_403001.out)); obtain ⟨ce40, hcl40, hM40, hcc40, hfr40⟩ := Kd.R_elem HX40.out z57 (t409 : Int) (of_decide_eq_true (by assumption)) (by have h_ : (t409 : Int) < ((l0_1.length : Int) : Int) := of_decide_eq_true (by assumption); first | exact h_ | (have e_ := (Kd.R_reads' HO_403001.out).1; omega) | simpa using h_); obtain rfl := k57_openM hM40; have HP40 := Kd.R_seg HX40.out (t409 : Int) (of_decide_eq_true (by assumption)) (by have h_ : (t409 : Int) < ((l0_1.length : Int) : Int) := of_decide_eq_true (by assumption); first | exact h_ | (have e_ := (Kd.R_reads' HO_403001.out).1; omega) | simpa using h_) (seg := [.string (⟨#[]⟩ : ByteArray), .int .i64 (-2)]) (j := 0) hcl40 hcc40 (show 2 ≤ 2 from by decide) (x' := (⟨(⟨#[]⟩ : ByteArray), (-2)⟩ : S57)) (k57_mkM _ _ _ (⟨(⟨#[]⟩ : ByteArray), (-2)⟩ : S57) ) (fun _ hk => hk); have hx40_0 := hcc40 0 _ rfl; (try simp only [show (k57).sz = 2 from rfl, Nat.mul_one, Nat.add_zero] at hx40_0); have hf40_0 := hfr40 0; (try simp only [show (k57).sz = 2 from rfl, Nat.mul_one, Nat.add_zero] at hf40_0); have hx40_1 := hcc40 1 _ rfl; (try simp only [show (k57).sz = 2 from rfl, Nat.mul_one, Nat.add_zero] at hx40_1); have hf40_1 := hfr40 1; (try simp only [show (k57).sz = 2 from rfl, Nat.mul_one, Nat.add_zero] at hf40_1); clear hcl40 hcc40 hfr40 hM40) | ((with_reducible refine gate_store (t := 57) (p := 82) rfl ?_); refine store_event (t := 57) (p := 82) (v := ?vo_w41) (w1 := ((w38.setCell ⟨go33, (t409 : Int).toNat * 2, none⟩ (.string (⟨#[]⟩ : ByteArray))).setCell ⟨go33, (t409 : Int).toNat * 2 + 1, none⟩ (.int .i64 (-2)))) ?hg ?ho ?hn ?hr ?_; (case ho => rfl); (case hg => rfl); (case hn => rfl); (case hr => first | (go_simp; done) | (go_simp; rfl)); intro w41 hw; have hg : w38.grownBy w41 (some go33) := (by rw [hw]; exact HP40.2); have hp_ : Kd.R k57 57 w41 w0.heap.size (fun k_ => ((P0_0_ k_ ∨ P0_1_ k_) ∨ w.heap.size ≤ k_) ∧ some k_ ≠ (.slice (some ⟨go28, 0, none⟩) l0_0.length co8 : Value).ownBlock) (.slice (some ⟨go33, 0, none⟩) l0_1.length co9) y410 := (by rw [hw, Ny410.out]; exact HP40.1); clear HP40; replace HO_403000 := am (Kd.R_after (v := (.slice (some ⟨go33, 0, none⟩) l0_1.length co9)) (v1 := (.slice (some ⟨go33, 0, none⟩) l0_1.length co9)) (ok := (fun k_ => ((P0_0_ k_ ∨ P0_1_ k_) ∨ w.heap.size ≤ k_))) (xR HO_403000.out) hg (.inl rfl)); replace BK402 := am (blk_grown (g := gb0_) (o := .cells #[.slice (some ⟨go28, 0, none⟩) l0_0.length co8, .slice (some ⟨go33, 0, none⟩) l0_1.length co9, .int .i64 a0_2] 26 (0, 0)) (xB BK402.out) hg (Kd.R_ne HO_403001.out BK402.out (by decide))); replace HB := am ((by rw [hw]; exact below_set (below_set (HB.out) GB33.out) GB33.out : Below w0.heap.size w0 w41)); replace HK := am (Kept.of_grown (S := (fun k_ => P0_0_ k_ ∨ P0_1_ k_)) hg (xJ HK.out) (fun k_ e_ => (HO_403001.out.1 k_ e_).1)); replace HO_403001 := am (hp_); clear hg hw hp_))
                go_ret
                exact ⟨xV, Kd.R_mono (xR HO_403000.out) (fun _ hk => hk.1), Kd.R_mono (xR HO_403001.out) (fun _ hk => hk.1), xW HB.out, xJ HK.out⟩
               ·rw [if_neg c32] at H
                exact absurd H (by simp)
              ·rw [if_neg c31] at H
               exact absurd H (by simp)
             ·rw [if_neg c30] at H
              have c30b0 : decide (0 ≤ t409) = false := decide_eq_false c30
              clear c30
              simp only [Option.some.injEq, Prod.mk.injEq] at H
              obtain ⟨rfl, rfl, rfl⟩ := H
              obtain ⟨hcz42_0, hcz42_1, hcz42_2, hfz42_0, hfz42_1, hfz42_2⟩ := xT3 (W := wc) BK402.out
              have p28 : 0 ≤ (x7_1 : Int) := of_decide_eq_true (by assumption)
              have q28 : (x7_1 : Int) < ((l0_0.length : Int) : Int) := of_decide_eq_true (by assumption)
              obtain ⟨go28, co28, eo28, gb28, gl28, cl28, HG28⟩ := Kd.R_form HO_403000.out (by omega)
              (first | cases eo28 | (injection eo28 with ea_ en_ ec_; (first | subst ea_ | (injection ea_ with ea_; subst ea_)); subst ec_; clear en_))
              have GB28 := am gb28
              have GG28 := am HG28
              clear gb28 gl28 HG28
              have HMgo28 := am (show ((P0_0_ go28 ∨ P0_1_ go28) ∨ w.heap.size ≤ go28) from (HO_403000.out.1 _ rfl).1)
              obtain ⟨ce28, hcl28, hM28, hcc28, hfr28⟩ := Kd.R_elem HO_403000.out z57 (x7_1 : Int) p28 q28
              obtain rfl := k57_openM hM28
              have hx28_0 : wc.cell? ⟨go28, (x7_1 : Int).toNat * 2, none⟩ = some (.string ((rd_T57 l0_0 x7_1).f0)) := hcc28 0 _ rfl
              have hx28_1 : wc.cell? ⟨go28, (x7_1 : Int).toNat * 2 + 1, none⟩ = some (.int .i64 ((rd_T57 l0_0 x7_1).f1)) := hcc28 1 _ rfl
              have hf28_0 : wc.frozen? ⟨go28, (x7_1 : Int).toNat * 2, none⟩ = false := hfr28 0
              have hf28_1 : wc.frozen? ⟨go28, (x7_1 : Int).toNat * 2 + 1, none⟩ = false := hfr28 1
              clear hcl28 hcc28 hfr28 hM28
              replace p28 := eq_true p28
              replace q28 := eq_true q28
              have HX43 := am (show Kd.R k57 57 wc w0.heap.size (fun k_ => ((P0_0_ k_ ∨ P0_1_ k_) ∨ w.heap.size ≤ k_) ∧ some k_ ≠ (.slice Ao9 l0_1.length co9 : Value).ownBlock) (.slice (some ⟨go28, 0, none⟩) l0_0.length co8) l0_0 from (xR HO_403000.out))
              obtain ⟨ce43, hcl43, hM43, hcc43, hfr43⟩ := Kd.R_elem HX43.out z57 (x7_1 : Int) (of_decide_eq_true (by assumption)) (by have h_ : (x7_1 : Int) < ((l0_0.length : Int) : Int) := of_decide_eq_true (by assumption); first | exact h_ | (have e_ := (Kd.R_reads' HO_403000.out).1; omega) | simpa using h_)
              obtain rfl := k57_openM hM43
              have HP43 := Kd.R_seg HX43.out (x7_1 : Int) (of_decide_eq_true (by assumption)) (by have h_ : (x7_1 : Int) < ((l0_0.length : Int) : Int) := of_decide_eq_true (by assumption); first | exact h_ | (have e_ := (Kd.R_reads' HO_403000.out).1; omega) | simpa using h_) (seg := [.string a1, .int .i64 a2]) (j := 0) hcl43 hcc43 (show 2 ≤ 2 from by decide) (x' := (⟨a1, a2⟩ : S57)) (k57_mkM _ _ _ (⟨a1, a2⟩ : S57) ) (fun _ hk => hk)
              have hx43_0 := hcc43 0 _ rfl
              (try simp only [show (k57).sz = 2 from rfl, Nat.mul_one, Nat.add_zero] at hx43_0)
              have hf43_0 := hfr43 0
              (try simp only [show (k57).sz = 2 from rfl, Nat.mul_one, Nat.add_zero] at hf43_0)
              have hx43_1 := hcc43 1 _ rfl
              (try simp only [show (k57).sz = 2 from rfl, Nat.mul_one, Nat.add_zero] at hx43_1)
              have hf43_1 := hfr43 1
              (try simp only [show (k57).sz = 2 from rfl, Nat.mul_one, Nat.add_zero] at hf43_1)
              clear hcl43 hcc43 hfr43 hM43
              go_wp2_with (first | ((with_reducible refine gate_store (t := 57) (p := 67) rfl ?_); refine store_event (t := 57) (p := 67) (v := ?vo_w44) (w1 := ((wc.setCell ⟨go28, (x7_1 : Int).toNat * 2, none⟩ (.string a1)).setCell ⟨go28, (x7_1 : Int).toNat * 2 + 1, none⟩ (.int .i64 a2))) ?hg ?ho ?hn ?hr ?_; (case ho => rfl); (case hg => rfl); (case hn => rfl); (case hr => first | (go_simp; done) | (go_simp; rfl)); intro w44 hw; have hg : wc.grownBy w44 (some go28) := (by rw [hw]; exact HP43.2); have hp_ : Kd.R k57 57 w44 w0.heap.size (fun k_ => ((P0_0_ k_ ∨ P0_1_ k_) ∨ w.heap.size ≤ k_) ∧ some k_ ≠ (.slice Ao9 l0_1.length co9 : Value).ownBlock) (.slice (some ⟨go28, 0, none⟩) l0_0.length co8) y408 := (by rw [hw, Ny408.out]; exact HP43.1); clear HP43; replace HO_403001 := am (Kd.R_after (v := (.slice (some ⟨go28, 0, none⟩) l0_0.length co8)) (v1 := (.slice (some ⟨go28, 0, none⟩) l0_0.length co8)) (ok := (fun k_ => ((P0_0_ k_ ∨ P0_1_ k_) ∨ w.heap.size ≤ k_))) (xR HO_403001.out) hg (.inl rfl)); replace BK402 := am (blk_grown (g := gb0_) (o := .cells #[.slice (some ⟨go28, 0, none⟩) l0_0.length co8, .slice Ao9 l0_1.length co9, .int .i64 a0_2] 26 (0, 0)) (xB BK402.out) hg (Kd.R_ne HO_403000.out BK402.out (by decide))); replace HB := am ((by rw [hw]; exact below_set (below_set (HB.out) GB28.out) GB28.out : Below w0.heap.size w0 w44)); replace HK := am (Kept.of_grown (S := (fun k_ => P0_0_ k_ ∨ P0_1_ k_)) hg (xJ HK.out) (fun k_ e_ => (HO_403000.out.1 k_ e_).1)); replace HO_403000 := am (hp_); clear hg hw hp_; obtain ⟨hcz45_0, hcz45_1, hcz45_2, hfz45_0, hfz45_1, hfz45_2⟩ := xT3 (W := w44) BK402.out) | ((with_reducible refine gate_callee (f := 80) rfl ?_); refine xG (some 73) 80 Try.func80 #[.slice Ao9 l0_1.length co9, .string a1] (h := ?_); (with_reducible refine (impl_seek.calls kj17 _ _ l0_1 a1 t409 _ ?side1 ?side2 A29.out).mono ?_); (case side1 => exact xC ((Kd.R_reads' HO_403001.out).2.2)); (case side2 => exact (Kd.R_reads' HO_403001.out).2.1); rintro e w46 ⟨rfl, hb⟩; refine ⟨_, rfl, ?_⟩; replace HO_403000 := am (Kd.R_below (xR HO_403000.out) hb); replace HO_403001 := am (Kd.R_below (xR HO_403001.out) hb); replace BK402 := am (blk_below (xB BK402.out) hb); replace HK := am (Kept.below (S := (fun k_ => P0_0_ k_ ∨ P0_1_ k_)) (xJ HK.out) hb); replace HB := am (below_step (xW HB.out) hb); (try clear hb); ))
              go_ret
              exact ⟨xV, Kd.R_mono (xR HO_403000.out) (fun _ hk => hk.1), Kd.R_mono (xR HO_403001.out) (fun _ hk => hk.1), xW HB.out, xJ HK.out⟩
            ·rw [if_neg c27] at H
             exact absurd H (by simp)
           ·rw [if_neg c26] at H
            exact absurd H (by simp)
       ·rw [if_neg c17] at H
        have c17b0 : (((rd_T57 l0_0 x7_1).f0).toList == ([] : List UInt8)) = false := beq_eq_false_iff_ne.mpr c17
        have c17b1 : (((rd_T57 l0_0 x7_1).f0).toList != ([] : List UInt8)) = true := bne_iff_ne.mpr c17
        by_cases c47 : (l0_0.length : Int) = 0
        ·rw [if_pos c47] at H
         exact absurd H (by simp)
        ·rw [if_neg c47] at H
         have c47b0 : ((l0_0.length : Int) == 0) = false := beq_eq_false_iff_ne.mpr c47
         have c47b1 : ((l0_0.length : Int) != 0) = true := bne_iff_ne.mpr c47
         have c47b2 : ¬ (l0_0 = []) := fun h_ => c47 (by rw [h_]; rfl)
         have H' := am H
         clear H
         obtain ⟨hcz48_0, hcz48_1, hcz48_2, hfz48_0, hfz48_1, hfz48_2⟩ := xT3 (W := wr) BK402.out
         have p405 : 0 ≤ (x7_1 : Int) := of_decide_eq_true (by assumption)
         have q405 : x7_1 < (l0_0.length : Int) := of_decide_eq_true (by assumption)
         obtain ⟨ad405, e405, hx405_0, hx405_1⟩ := at_T57 (Kd.R_reads' HO_403000.out).2.2 x7_1 p405 q405
         cases e405
         replace p405 := eq_true p405
         replace q405 := eq_true q405
         go_wp2
         go_roundg k1
         case measure => have := HK1.out; omega
         case rel => exact ⟨(Int.tmod (wrap64 (x7_1 + 1)) (l0_0.length : Int)), (xQ), H', ⟨by have := HK1.out; omega⟩, ⟨xR HO_403000.out⟩, ⟨xR HO_403001.out⟩, ⟨xB BK402.out⟩, ⟨xJ HK.out⟩, ⟨xW HB.out⟩⟩
      ·rw [if_neg c16] at H
       exact absurd H (by simp)
     ·rw [if_neg c15] at H
      exact absurd H (by simp)
 ·rw [if_neg c5] at H
  have c5b0 : decide (t403 < 0) = false := decide_eq_false c5
  clear c5
  by_cases c49 : 0 ≤ t403
  ·rw [if_pos c49] at H
   have c49b0 : decide (0 ≤ t403) = true := decide_eq_true c49
   clear c49
   by_cases c50 : t403 < (l0_0.length : Int)
   ·rw [if_pos c50] at H
    have c50b0 : decide (t403 < (l0_0.length : Int)) = true := decide_eq_true c50
    clear c50
    obtain ⟨y411, hy411⟩ : ∃ y_ : List (S57), y_ = (l0_0.set (t403 : Int).toNat (⟨a1, a2⟩ : S57)) := ⟨_, rfl⟩
    replace H : ((impl_seek.f k l0_1 a1).bind fun t412 => (if t412 ≥ 0 then (if 0 ≤ t412 then (if t412 < (l0_1.length : Int) then (some (true, y411, (l0_1.set (t412 : Int).toNat (⟨(⟨#[]⟩ : ByteArray), (-2)⟩ : S57)))) else (none)) else (none)) else (some (true, y411, l0_1)))) = some (r1, r2, r3) := by first | (rw [hy411]; with_reducible exact H) | (have H2_ := (Option.bind_some _ _).symm.trans H; rw [hy411]; with_reducible exact H2_) | (have H2_ := (Option.bind_some _ _).symm.trans H; with_reducible exact H2_) | with_reducible exact H | (rw [hy411]; exact H) | exact H
    have Ny411 := am hy411
    clear hy411
    replace H := Option.bind_eq_some_iff.mp H
    obtain ⟨t412, A520, H⟩ := H
    try dsimp only at H
    have A52 := am A520
    clear A520
    by_cases c53 : t412 ≥ 0
    ·rw [if_pos c53] at H
     have c53b0 : decide (0 ≤ t412) = true := decide_eq_true c53
     clear c53
     by_cases c54 : 0 ≤ t412
     ·rw [if_pos c54] at H
      have c54b0 : decide (0 ≤ t412) = true := decide_eq_true c54
      clear c54
      by_cases c55 : t412 < (l0_1.length : Int)
      ·rw [if_pos c55] at H
       have c55b0 : decide (t412 < (l0_1.length : Int)) = true := decide_eq_true c55
       clear c55
       obtain ⟨y413, hy413⟩ : ∃ y_ : List (S57), y_ = (l0_1.set (t412 : Int).toNat (⟨(⟨#[]⟩ : ByteArray), (-2)⟩ : S57)) := ⟨_, rfl⟩
       replace H : (some (true, y411, y413)) = some (r1, r2, r3) := by first | (rw [hy413]; with_reducible exact H) | (have H2_ := (Option.bind_some _ _).symm.trans H; rw [hy413]; with_reducible exact H2_) | (have H2_ := (Option.bind_some _ _).symm.trans H; with_reducible exact H2_) | with_reducible exact H | (rw [hy413]; exact H) | exact H
       have Ny413 := am hy413
       clear hy413
       simp only [Option.some.injEq, Prod.mk.injEq] at H
       obtain ⟨rfl, rfl, rfl⟩ := H
       obtain ⟨Ao57, co57, eo57⟩ := Kd.R_slice HO0_0.out
       subst eo57
       obtain ⟨Ao58, co58, eo58⟩ := Kd.R_slice HO0_1.out
       subst eo58
       have BK402 := am hg0_
       have GE402 := am hge0_
       obtain ⟨hcz60_0, hcz60_1, hcz60_2, hfz60_0, hfz60_1, hfz60_2⟩ := xT3 (W := w) BK402.out
       go_enter Try.func48, Try.ntmps48
       go_wp2_with (first | ((with_reducible refine gate_callee (f := 80) rfl ?_); refine xG (some 14) 80 Try.func80 #[.slice Ao57 l0_0.length co57, .string a1] (h := ?_); (with_reducible refine (impl_seek.calls k _ _ l0_0 a1 t403 _ ?side1 ?side2 A4.out).mono ?_); (case side1 => exact xC ((Kd.R_reads' HO0_0.out).2.2)); (case side2 => exact (Kd.R_reads' HO0_0.out).2.1); rintro e w61 ⟨rfl, hb⟩; refine ⟨_, rfl, ?_⟩; replace HO0_0 := am (Kd.R_below (xR HO0_0.out) hb); replace HO0_1 := am (Kd.R_below (xR HO0_1.out) hb); replace BK402 := am (blk_below (xB BK402.out) hb); replace HK := am (Kept.below (S := (fun k_ => P0_0_ k_ ∨ P0_1_ k_)) (xJ HK.out) hb); replace HB := am (below_step (xW HB.out) hb); (try clear hb); obtain ⟨hcz62_0, hcz62_1, hcz62_2, hfz62_0, hfz62_1, hfz62_2⟩ := xT3 (W := w61) BK402.out; have p51 : 0 ≤ (t403 : Int) := of_decide_eq_true (by assumption); have q51 : (t403 : Int) < ((l0_0.length : Int) : Int) := of_decide_eq_true (by assumption); obtain ⟨go51, co51, eo51, gb51, gl51, cl51, HG51⟩ := Kd.R_form HO0_0.out (by omega); (first | cases eo51 | (injection eo51 with ea_ en_ ec_; (first | subst ea_ | (injection ea_ with ea_; subst ea_)); subst ec_; clear en_)); have GB51 := am gb51; have GG51 := am HG51; clear gb51 gl51 HG51; have HMgo51 := am (show ((P0_0_ go51 ∨ P0_1_ go51) ∨ w.heap.size ≤ go51) from (HO0_0.out.1 _ rfl).1); obtain ⟨ce51, hcl51, hM51, hcc51, hfr51⟩ := Kd.R_elem HO0_0.out z57 (t403 : Int) p51 q51; obtain rfl := k57_openM hM51; have hx51_0 : w61.cell? ⟨go51, (t403 : Int).toNat * 2, none⟩ = some (.string ((rd_T57 l0_0 t403).f0)) := hcc51 0 _ rfl; have hx51_1 : w61.cell? ⟨go51, (t403 : Int).toNat * 2 + 1, none⟩ = some (.int .i64 ((rd_T57 l0_0 t403).f1)) := hcc51 1 _ rfl; have hf51_0 : w61.frozen? ⟨go51, (t403 : Int).toNat * 2, none⟩ = false := hfr51 0; have hf51_1 : w61.frozen? ⟨go51, (t403 : Int).toNat * 2 + 1, none⟩ = false := hfr51 1; clear hcl51 hcc51 hfr51 hM51; replace p51 := eq_true p51; replace q51 := eq_true q51; have HX63 := am (show Kd.R k57 57 w61 w0.heap.size (fun k_ => ((P0_0_ k_ ∨ P0_1_ k_) ∨ w.heap.size ≤ k_) ∧ some k_ ≠ (.slice Ao58 l0_1.length co58 : Value).ownBlock) (.slice (some ⟨go51, 0, none⟩) l0_0.length co57) l0_0 from (xR HO0_0.out)); obtain ⟨ce63, hcl63, hM63, hcc63, hfr63⟩ := Kd.R_elem HX63.out z57 (t403 : Int) (of_decide_eq_true (by assumption)) (by have h_ : (t403 : Int) < ((l0_0.length : Int) : Int) := of_decide_eq_true (by assumption); first | exact h_ | (have e_ := (Kd.R_reads' HO0_0.out).1; omega) | simpa using h_); obtain rfl := k57_openM hM63; have HP63 := Kd.R_seg HX63.out (t403 : Int) (of_decide_eq_true (by assumption)) (by have h_ : (t403 : Int) < ((l0_0.length : Int) : Int) := of_decide_eq_true (by assumption); first | exact h_ | (have e_ := (Kd.R_reads' HO0_0.out).1; omega) | simpa using h_) (seg := [.string a1, .int .i64 a2]) (j := 0) hcl63 hcc63 (show 2 ≤ 2 from by decide) (x' := (⟨a1, a2⟩ : S57)) (k57_mkM _ _ _ (⟨a1, a2⟩ : S57) ) (fun _ hk => hk); have hx63_0 := hcc63 0 _ rfl; (try simp only [show (k57).sz = 2 from rfl, Nat.mul_one, Nat.add_zero] at hx63_0); have hf63_0 := hfr63 0; (try simp only [show (k57).sz = 2 from rfl, Nat.mul_one, Nat.add_zero] at hf63_0); have hx63_1 := hcc63 1 _ rfl; (try simp only [show (k57).sz = 2 from rfl, Nat.mul_one, Nat.add_zero] at hx63_1); have hf63_1 := hfr63 1; (try simp only [show (k57).sz = 2 from rfl, Nat.mul_one, Nat.add_zero] at hf63_1); clear hcl63 hcc63 hfr63 hM63) | ((with_reducible refine gate_store (t := 57) (p := 67) rfl ?_); refine store_event (t := 57) (p := 67) (v := ?vo_w64) (w1 := ((w61.setCell ⟨go51, (t403 : Int).toNat * 2, none⟩ (.string a1)).setCell ⟨go51, (t403 : Int).toNat * 2 + 1, none⟩ (.int .i64 a2))) ?hg ?ho ?hn ?hr ?_; (case ho => rfl); (case hg => rfl); (case hn => rfl); (case hr => first | (go_simp; done) | (go_simp; rfl)); intro w64 hw; have hg : w61.grownBy w64 (some go51) := (by rw [hw]; exact HP63.2); have hp_ : Kd.R k57 57 w64 w0.heap.size (fun k_ => ((P0_0_ k_ ∨ P0_1_ k_) ∨ w.heap.size ≤ k_) ∧ some k_ ≠ (.slice Ao58 l0_1.length co58 : Value).ownBlock) (.slice (some ⟨go51, 0, none⟩) l0_0.length co57) y411 := (by rw [hw, Ny411.out]; exact HP63.1); clear HP63; replace HO0_1 := am (Kd.R_after (v := (.slice (some ⟨go51, 0, none⟩) l0_0.length co57)) (v1 := (.slice (some ⟨go51, 0, none⟩) l0_0.length co57)) (ok := (fun k_ => ((P0_0_ k_ ∨ P0_1_ k_) ∨ w.heap.size ≤ k_))) (xR HO0_1.out) hg (.inl rfl)); replace BK402 := am (blk_grown (g := gb0_) (o := .cells #[.slice (some ⟨go51, 0, none⟩) l0_0.length co57, .slice Ao58 l0_1.length co58, .int .i64 a0_2] 26 (0, 0)) (xB BK402.out) hg (Kd.R_ne HO0_0.out BK402.out (by decide))); replace HB := am ((by rw [hw]; exact below_set (below_set (HB.out) GB51.out) GB51.out : Below w0.heap.size w0 w64)); replace HK := am (Kept.of_grown (S := (fun k_ => P0_0_ k_ ∨ P0_1_ k_)) hg (xJ HK.out) (fun k_ e_ => (HO0_0.out.1 k_ e_).1)); replace HO0_0 := am (hp_); clear hg hw hp_; obtain ⟨hcz65_0, hcz65_1, hcz65_2, hfz65_0, hfz65_1, hfz65_2⟩ := xT3 (W := w64) BK402.out) | ((with_reducible refine gate_callee (f := 80) rfl ?_); refine xG (some 73) 80 Try.func80 #[.slice Ao58 l0_1.length co58, .string a1] (h := ?_); (with_reducible refine (impl_seek.calls k _ _ l0_1 a1 t412 _ ?side1 ?side2 A52.out).mono ?_); (case side1 => exact xC ((Kd.R_reads' HO0_1.out).2.2)); (case side2 => exact (Kd.R_reads' HO0_1.out).2.1); rintro e w66 ⟨rfl, hb⟩; refine ⟨_, rfl, ?_⟩; replace HO0_0 := am (Kd.R_below (xR HO0_0.out) hb); replace HO0_1 := am (Kd.R_below (xR HO0_1.out) hb); replace BK402 := am (blk_below (xB BK402.out) hb); replace HK := am (Kept.below (S := (fun k_ => P0_0_ k_ ∨ P0_1_ k_)) (xJ HK.out) hb); replace HB := am (below_step (xW HB.out) hb); (try clear hb); obtain ⟨hcz67_0, hcz67_1, hcz67_2, hfz67_0, hfz67_1, hfz67_2⟩ := xT3 (W := w66) BK402.out; have p56 : 0 ≤ (t412 : Int) := of_decide_eq_true (by assumption); have q56 : (t412 : Int) < ((l0_1.length : Int) : Int) := of_decide_eq_true (by assumption); obtain ⟨go56, co56, eo56, gb56, gl56, cl56, HG56⟩ := Kd.R_form HO0_1.out (by omega); (first | cases eo56 | (injection eo56 with ea_ en_ ec_; (first | subst ea_ | (injection ea_ with ea_; subst ea_)); subst ec_; clear en_)); have GB56 := am gb56; have GG56 := am HG56; clear gb56 gl56 HG56; have HMgo56 := am (show ((P0_0_ go56 ∨ P0_1_ go56) ∨ w.heap.size ≤ go56) from (HO0_1.out.1 _ rfl).1); obtain ⟨ce56, hcl56, hM56, hcc56, hfr56⟩ := Kd.R_elem HO0_1.out z57 (t412 : Int) p56 q56; obtain rfl := k57_openM hM56; have hx56_0 : w66.cell? ⟨go56, (t412 : Int).toNat * 2, none⟩ = some (.string ((rd_T57 l0_1 t412).f0)) := hcc56 0 _ rfl; have hx56_1 : w66.cell? ⟨go56, (t412 : Int).toNat * 2 + 1, none⟩ = some (.int .i64 ((rd_T57 l0_1 t412).f1)) := hcc56 1 _ rfl; have hf56_0 : w66.frozen? ⟨go56, (t412 : Int).toNat * 2, none⟩ = false := hfr56 0; have hf56_1 : w66.frozen? ⟨go56, (t412 : Int).toNat * 2 + 1, none⟩ = false := hfr56 1; clear hcl56 hcc56 hfr56 hM56; replace p56 := eq_true p56; replace q56 := eq_true q56; have HX68 := am (show Kd.R k57 57 w66 w0.heap.size (fun k_ => ((P0_0_ k_ ∨ P0_1_ k_) ∨ w.heap.size ≤ k_) ∧ some k_ ≠ (.slice (some ⟨go51, 0, none⟩) l0_0.length co57 : Value).ownBlock) (.slice (some ⟨go56, 0, none⟩) l0_1.length co58) l0_1 from (xR HO0_1.out)); obtain ⟨ce68, hcl68, hM68, hcc68, hfr68⟩ := Kd.R_elem HX68.out z57 (t412 : Int) (of_decide_eq_true (by assumption)) (by have h_ : (t412 : Int) < ((l0_1.length : Int) : Int) := of_decide_eq_true (by assumption); first | exact h_ | (have e_ := (Kd.R_reads' HO0_1.out).1; omega) | simpa using h_); obtain rfl := k57_openM hM68; have HP68 := Kd.R_seg HX68.out (t412 : Int) (of_decide_eq_true (by assumption)) (by have h_ : (t412 : Int) < ((l0_1.length : Int) : Int) := of_decide_eq_true (by assumption); first | exact h_ | (have e_ := (Kd.R_reads' HO0_1.out).1; omega) | simpa using h_) (seg := [.string (⟨#[]⟩ : ByteArray), .int .i64 (-2)]) (j := 0) hcl68 hcc68 (show 2 ≤ 2 from by decide) (x' := (⟨(⟨#[]⟩ : ByteArray), (-2)⟩ : S57)) (k57_mkM _ _ _ (⟨(⟨#[]⟩ : ByteArray), (-2)⟩ : S57) ) (fun _ hk => hk); have hx68_0 := hcc68 0 _ rfl; (try simp only [show (k57).sz = 2 from rfl, Nat.mul_one, Nat.add_zero] at hx68_0); have hf68_0 := hfr68 0; (try simp only [show (k57).sz = 2 from rfl, Nat.mul_one, Nat.add_zero] at hf68_0); have hx68_1 := hcc68 1 _ rfl; (try simp only [show (k57).sz = 2 from rfl, Nat.mul_one, Nat.add_zero] at hx68_1); have hf68_1 := hfr68 1; (try simp only [show (k57).sz = 2 from rfl, Nat.mul_one, Nat.add_zero] at hf68_1); clear hcl68 hcc68 hfr68 hM68) | ((with_reducible refine gate_store (t := 57) (p := 82) rfl ?_); refine store_event (t := 57) (p := 82) (v := ?vo_w69) (w1 := ((w66.setCell ⟨go56, (t412 : Int).toNat * 2, none⟩ (.string (⟨#[]⟩ : ByteArray))).setCell ⟨go56, (t412 : Int).toNat * 2 + 1, none⟩ (.int .i64 (-2)))) ?hg ?ho ?hn ?hr ?_; (case ho => rfl); (case hg => rfl); (case hn => rfl); (case hr => first | (go_simp; done) | (go_simp; rfl)); intro w69 hw; have hg : w66.grownBy w69 (some go56) := (by rw [hw]; exact HP68.2); have hp_ : Kd.R k57 57 w69 w0.heap.size (fun k_ => ((P0_0_ k_ ∨ P0_1_ k_) ∨ w.heap.size ≤ k_) ∧ some k_ ≠ (.slice (some ⟨go51, 0, none⟩) l0_0.length co57 : Value).ownBlock) (.slice (some ⟨go56, 0, none⟩) l0_1.length co58) y413 := (by rw [hw, Ny413.out]; exact HP68.1); clear HP68; replace HO0_0 := am (Kd.R_after (v := (.slice (some ⟨go56, 0, none⟩) l0_1.length co58)) (v1 := (.slice (some ⟨go56, 0, none⟩) l0_1.length co58)) (ok := (fun k_ => ((P0_0_ k_ ∨ P0_1_ k_) ∨ w.heap.size ≤ k_))) (xR HO0_0.out) hg (.inl rfl)); replace BK402 := am (blk_grown (g := gb0_) (o := .cells #[.slice (some ⟨go51, 0, none⟩) l0_0.length co57, .slice (some ⟨go56, 0, none⟩) l0_1.length co58, .int .i64 a0_2] 26 (0, 0)) (xB BK402.out) hg (Kd.R_ne HO0_1.out BK402.out (by decide))); replace HB := am ((by rw [hw]; exact below_set (below_set (HB.out) GB56.out) GB56.out : Below w0.heap.size w0 w69)); replace HK := am (Kept.of_grown (S := (fun k_ => P0_0_ k_ ∨ P0_1_ k_)) hg (xJ HK.out) (fun k_ e_ => (HO0_1.out.1 k_ e_).1)); replace HO0_1 := am (hp_); clear hg hw hp_))
       go_ret
       exact ⟨xV, Kd.R_mono (xR HO0_0.out) (fun _ hk => hk.1), Kd.R_mono (xR HO0_1.out) (fun _ hk => hk.1), xW HB.out, xJ HK.out⟩
      ·rw [if_neg c55] at H
       exact absurd H (by simp)
     ·rw [if_neg c54] at H
      exact absurd H (by simp)
    ·rw [if_neg c53] at H
     have c53b0 : decide (0 ≤ t412) = false := decide_eq_false c53
     clear c53
     simp only [Option.some.injEq, Prod.mk.injEq] at H
     obtain ⟨rfl, rfl, rfl⟩ := H
     obtain ⟨Ao70, co70, eo70⟩ := Kd.R_slice HO0_0.out
     subst eo70
     obtain ⟨Ao71, co71, eo71⟩ := Kd.R_slice HO0_1.out
     subst eo71
     have BK402 := am hg0_
     have GE402 := am hge0_
     obtain ⟨hcz73_0, hcz73_1, hcz73_2, hfz73_0, hfz73_1, hfz73_2⟩ := xT3 (W := w) BK402.out
     go_enter Try.func48, Try.ntmps48
     go_wp2_with (first | ((with_reducible refine gate_callee (f := 80) rfl ?_); refine xG (some 14) 80 Try.func80 #[.slice Ao70 l0_0.length co70, .string a1] (h := ?_); (with_reducible refine (impl_seek.calls k _ _ l0_0 a1 t403 _ ?side1 ?side2 A4.out).mono ?_); (case side1 => exact xC ((Kd.R_reads' HO0_0.out).2.2)); (case side2 => exact (Kd.R_reads' HO0_0.out).2.1); rintro e w74 ⟨rfl, hb⟩; refine ⟨_, rfl, ?_⟩; replace HO0_0 := am (Kd.R_below (xR HO0_0.out) hb); replace HO0_1 := am (Kd.R_below (xR HO0_1.out) hb); replace BK402 := am (blk_below (xB BK402.out) hb); replace HK := am (Kept.below (S := (fun k_ => P0_0_ k_ ∨ P0_1_ k_)) (xJ HK.out) hb); replace HB := am (below_step (xW HB.out) hb); (try clear hb); obtain ⟨hcz75_0, hcz75_1, hcz75_2, hfz75_0, hfz75_1, hfz75_2⟩ := xT3 (W := w74) BK402.out; have p51 : 0 ≤ (t403 : Int) := of_decide_eq_true (by assumption); have q51 : (t403 : Int) < ((l0_0.length : Int) : Int) := of_decide_eq_true (by assumption); obtain ⟨go51, co51, eo51, gb51, gl51, cl51, HG51⟩ := Kd.R_form HO0_0.out (by omega); (first | cases eo51 | (injection eo51 with ea_ en_ ec_; (first | subst ea_ | (injection ea_ with ea_; subst ea_)); subst ec_; clear en_)); have GB51 := am gb51; have GG51 := am HG51; clear gb51 gl51 HG51; have HMgo51 := am (show ((P0_0_ go51 ∨ P0_1_ go51) ∨ w.heap.size ≤ go51) from (HO0_0.out.1 _ rfl).1); obtain ⟨ce51, hcl51, hM51, hcc51, hfr51⟩ := Kd.R_elem HO0_0.out z57 (t403 : Int) p51 q51; obtain rfl := k57_openM hM51; have hx51_0 : w74.cell? ⟨go51, (t403 : Int).toNat * 2, none⟩ = some (.string ((rd_T57 l0_0 t403).f0)) := hcc51 0 _ rfl; have hx51_1 : w74.cell? ⟨go51, (t403 : Int).toNat * 2 + 1, none⟩ = some (.int .i64 ((rd_T57 l0_0 t403).f1)) := hcc51 1 _ rfl; have hf51_0 : w74.frozen? ⟨go51, (t403 : Int).toNat * 2, none⟩ = false := hfr51 0; have hf51_1 : w74.frozen? ⟨go51, (t403 : Int).toNat * 2 + 1, none⟩ = false := hfr51 1; clear hcl51 hcc51 hfr51 hM51; replace p51 := eq_true p51; replace q51 := eq_true q51; have HX76 := am (show Kd.R k57 57 w74 w0.heap.size (fun k_ => ((P0_0_ k_ ∨ P0_1_ k_) ∨ w.heap.size ≤ k_) ∧ some k_ ≠ (.slice Ao71 l0_1.length co71 : Value).ownBlock) (.slice (some ⟨go51, 0, none⟩) l0_0.length co70) l0_0 from (xR HO0_0.out)); obtain ⟨ce76, hcl76, hM76, hcc76, hfr76⟩ := Kd.R_elem HX76.out z57 (t403 : Int) (of_decide_eq_true (by assumption)) (by have h_ : (t403 : Int) < ((l0_0.length : Int) : Int) := of_decide_eq_true (by assumption); first | exact h_ | (have e_ := (Kd.R_reads' HO0_0.out).1; omega) | simpa using h_); obtain rfl := k57_openM hM76; have HP76 := Kd.R_seg HX76.out (t403 : Int) (of_decide_eq_true (by assumption)) (by have h_ : (t403 : Int) < ((l0_0.length : Int) : Int) := of_decide_eq_true (by assumption); first | exact h_ | (have e_ := (Kd.R_reads' HO0_0.out).1; omega) | simpa using h_) (seg := [.string a1, .int .i64 a2]) (j := 0) hcl76 hcc76 (show 2 ≤ 2 from by decide) (x' := (⟨a1, a2⟩ : S57)) (k57_mkM _ _ _ (⟨a1, a2⟩ : S57) ) (fun _ hk => hk); have hx76_0 := hcc76 0 _ rfl; (try simp only [show (k57).sz = 2 from rfl, Nat.mul_one, Nat.add_zero] at hx76_0); have hf76_0 := hfr76 0; (try simp only [show (k57).sz = 2 from rfl, Nat.mul_one, Nat.add_zero] at hf76_0); have hx76_1 := hcc76 1 _ rfl; (try simp only [show (k57).sz = 2 from rfl, Nat.mul_one, Nat.add_zero] at hx76_1); have hf76_1 := hfr76 1; (try simp only [show (k57).sz = 2 from rfl, Nat.mul_one, Nat.add_zero] at hf76_1); clear hcl76 hcc76 hfr76 hM76) | ((with_reducible refine gate_store (t := 57) (p := 67) rfl ?_); refine store_event (t := 57) (p := 67) (v := ?vo_w77) (w1 := ((w74.setCell ⟨go51, (t403 : Int).toNat * 2, none⟩ (.string a1)).setCell ⟨go51, (t403 : Int).toNat * 2 + 1, none⟩ (.int .i64 a2))) ?hg ?ho ?hn ?hr ?_; (case ho => rfl); (case hg => rfl); (case hn => rfl); (case hr => first | (go_simp; done) | (go_simp; rfl)); intro w77 hw; have hg : w74.grownBy w77 (some go51) := (by rw [hw]; exact HP76.2); have hp_ : Kd.R k57 57 w77 w0.heap.size (fun k_ => ((P0_0_ k_ ∨ P0_1_ k_) ∨ w.heap.size ≤ k_) ∧ some k_ ≠ (.slice Ao71 l0_1.length co71 : Value).ownBlock) (.slice (some ⟨go51, 0, none⟩) l0_0.length co70) y411 := (by rw [hw, Ny411.out]; exact HP76.1); clear HP76; replace HO0_1 := am (Kd.R_after (v := (.slice (some ⟨go51, 0, none⟩) l0_0.length co70)) (v1 := (.slice (some ⟨go51, 0, none⟩) l0_0.length co70)) (ok := (fun k_ => ((P0_0_ k_ ∨ P0_1_ k_) ∨ w.heap.size ≤ k_))) (xR HO0_1.out) hg (.inl rfl)); replace BK402 := am (blk_grown (g := gb0_) (o := .cells #[.slice (some ⟨go51, 0, none⟩) l0_0.length co70, .slice Ao71 l0_1.length co71, .int .i64 a0_2] 26 (0, 0)) (xB BK402.out) hg (Kd.R_ne HO0_0.out BK402.out (by decide))); replace HB := am ((by rw [hw]; exact below_set (below_set (HB.out) GB51.out) GB51.out : Below w0.heap.size w0 w77)); replace HK := am (Kept.of_grown (S := (fun k_ => P0_0_ k_ ∨ P0_1_ k_)) hg (xJ HK.out) (fun k_ e_ => (HO0_0.out.1 k_ e_).1)); replace HO0_0 := am (hp_); clear hg hw hp_; obtain ⟨hcz78_0, hcz78_1, hcz78_2, hfz78_0, hfz78_1, hfz78_2⟩ := xT3 (W := w77) BK402.out) | ((with_reducible refine gate_callee (f := 80) rfl ?_); refine xG (some 73) 80 Try.func80 #[.slice Ao71 l0_1.length co71, .string a1] (h := ?_); (with_reducible refine (impl_seek.calls k _ _ l0_1 a1 t412 _ ?side1 ?side2 A52.out).mono ?_); (case side1 => exact xC ((Kd.R_reads' HO0_1.out).2.2)); (case side2 => exact (Kd.R_reads' HO0_1.out).2.1); rintro e w79 ⟨rfl, hb⟩; refine ⟨_, rfl, ?_⟩; replace HO0_0 := am (Kd.R_below (xR HO0_0.out) hb); replace HO0_1 := am (Kd.R_below (xR HO0_1.out) hb); replace BK402 := am (blk_below (xB BK402.out) hb); replace HK := am (Kept.below (S := (fun k_ => P0_0_ k_ ∨ P0_1_ k_)) (xJ HK.out) hb); replace HB := am (below_step (xW HB.out) hb); (try clear hb); ))
     go_ret
     exact ⟨xV, Kd.R_mono (xR HO0_0.out) (fun _ hk => hk.1), Kd.R_mono (xR HO0_1.out) (fun _ hk => hk.1), xW HB.out, xJ HK.out⟩
   ·rw [if_neg c50] at H
    exact absurd H (by simp)
  ·rw [if_neg c49] at H
   exact absurd H (by simp)
end Go.Proofs.Ytmahoekbedgbcaa.HFnGrows
