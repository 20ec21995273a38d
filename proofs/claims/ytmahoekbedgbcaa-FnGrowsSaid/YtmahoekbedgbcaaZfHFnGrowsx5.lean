/- What the row of the law needs of the printed and the plain texts. -/
import Derived.Test.YtmahoekbedgbcaaZfHX
import Derived.Test.YtmahoekbedgbcaaZfHFnGrowsx0
import Derived.Test.YtmahoekbedgbcaaZfHFnGrowsx2
import Derived.Test.YtmahoekbedgbcaaZfHFnGrowsx4
namespace Go.Proofs.Ytmahoekbedgbcaa.HFnGrows
open Go.RowKit Go.Proofs.YtmahoekbedgbcaaW.PrintWords Go.Proofs.YtmahoekbedgbcaaW.PrintLast Go.Proofs.YtmahoekbedgbcaaW.PrintMore
attribute [local go_sem] max2_int min2_int max_two min_two max_three min_three max_four min_four
set_option linter.unusedVariables false
set_option linter.unusedSimpArgs false
def spec_l04Copy.f (l0_0 : List (S57)) (l0_1 : List (S57)) (a0_2 : Int) : Option ((List (S57)) × (List (S57)) × Int) := (some (([] : List (S57)) : List (S57))).bind fun y125 => (if y125.length + l0_0.length < 5864062014805 then ((some (([] : List (S57)) : List (S57))).bind fun y131 => (if y131.length + l0_1.length < 5864062014805 then (some ((y125 ++ l0_0), (y131 ++ l0_1), a0_2)) else (none))) else (none))
def spec_l04Copy.T1 : Bool × List (List Nat × List Nat) := (true, [([], []), ([], []), ([1], [1]), ([0, 2], [0, 2]), ([], []), ([], []), ([5], [5]), ([4, 6, 3], [4, 6]), ([], []), ([8], [8]), ([3, 7, 9], [3, 7, 9]), ([10, 7, 0, 1, 2, 3, 4, 5, 6, 7, 8, 9, 10], [10])])
def spec_l04Copy.B1 : List Nat := [0, 0, 2, 7, 0, 0, 32, 127, 0, 256, 1023, 2047]
theorem spec_l04Copy.tab1 : rtab .any (opsOf Try.f69 1) = spec_l04Copy.T1 := by kernel_rfl
theorem spec_l04Copy.bits1 : waitsOk spec_l04Copy.T1.2 spec_l04Copy.B1 = true := by kernel_rfl
set_option maxHeartbeats 8000000 in
set_option maxRecDepth 100000 in
theorem spec_l04Copy.calls (A0_0 : Option Addr) (c0_0 : Nat) (l0_0 : List (S57)) (A0_1 : Option Addr) (c0_1 : Nat) (l0_1 : List (S57)) (a0_2 : Int) (r1 : List (S57)) (r2 : List (S57)) (r3 : Int) (w : World) (hr0_0 : Kd.C k57 w A0_0 l0_0.length l0_0) (hc0_0 : l0_0.length ≤ c0_0) (hr0_1 : Kd.C k57 w A0_1 l0_1.length l0_1) (hc0_1 : l0_1.length ≤ c0_1) (h : spec_l04Copy.f l0_0 l0_1 a0_2 = some (r1, r2, r3)) :
  Calls Try.prog 69 #[.agg #[.slice A0_0 l0_0.length c0_0, .slice A0_1 l0_1.length c0_1, .int .i64 a0_2]] w fun e w' => ∃ v0_ v1_ : Value, e = .returned (.agg #[v0_, v1_, .int .i64 r3]) ∧ Kd.R k57 57 w' w.heap.size (fun k_ => some k_ ≠ (v1_ : Value).ownBlock) v0_ r1 ∧ Kd.R k57 57 w' w.heap.size (fun k_ => some k_ ≠ (v0_ : Value).ownBlock) v1_ r2 ∧ Below w.heap.size w w' := by
 have hu26 := Try.underlying26
 have HR0_0 := am hr0_0
 have HC0_0 := am hc0_0
 clear hr0_0 hc0_0
 have HR0_1 := am hr0_1
 have HC0_1 := am hc0_1
 clear hr0_1 hc0_1
 have HB := am (Below.refl w.heap.size w)
 have H : ((some (([] : List (S57)) : List (S57))).bind fun y125 => (if y125.length + l0_0.length < 5864062014805 then ((some (([] : List (S57)) : List (S57))).bind fun y131 => (if y131.length + l0_1.length < 5864062014805 then (some ((y125 ++ l0_0), (y131 ++ l0_1), a0_2)) else (none))) else (none))) = some (r1, r2, r3) := h
 clear h
 obtain ⟨y125, hy125⟩ : ∃ y_ : List (S57), y_ = (([] : List (S57))) := ⟨_, rfl⟩
 replace H : (if y125.length + l0_0.length < 5864062014805 then ((some (([] : List (S57)) : List (S57))).bind fun y131 => (if y131.length + l0_1.length < 5864062014805 then (some ((y125 ++ l0_0), (y131 ++ l0_1), a0_2)) else (none))) else (none)) = some (r1, r2, r3) := by first | (rw [hy125]; with_reducible exact H) | (have H2_ := (Option.bind_some _ _).symm.trans H; rw [hy125]; with_reducible exact H2_) | (have H2_ := (Option.bind_some _ _).symm.trans H; with_reducible exact H2_) | with_reducible exact H | (rw [hy125]; exact H) | exact H
 have Ny125 := am hy125
 clear hy125
 by_cases c2 : y125.length + l0_0.length < 5864062014805
 ·rw [if_pos c2] at H
  have LMc2 := am c2
  clear c2
  obtain ⟨y128, hy128⟩ : ∃ y_ : List (S57), y_ = (y125 ++ l0_0) := ⟨_, rfl⟩
  replace H : ((some (([] : List (S57)) : List (S57))).bind fun y131 => (if y131.length + l0_1.length < 5864062014805 then (some (y128, (y131 ++ l0_1), a0_2)) else (none))) = some (r1, r2, r3) := by first | (rw [hy128]; with_reducible exact H) | (have H2_ := (Option.bind_some _ _).symm.trans H; rw [hy128]; with_reducible exact H2_) | (have H2_ := (Option.bind_some _ _).symm.trans H; with_reducible exact H2_) | with_reducible exact H | (rw [hy128]; exact H) | exact H
  have Ny128 := am hy128
  clear hy128
  obtain ⟨y131, hy131⟩ : ∃ y_ : List (S57), y_ = (([] : List (S57))) := ⟨_, rfl⟩
  replace H : (if y131.length + l0_1.length < 5864062014805 then (some (y128, (y131 ++ l0_1), a0_2)) else (none)) = some (r1, r2, r3) := by first | (rw [hy131]; with_reducible exact H) | (have H2_ := (Option.bind_some _ _).symm.trans H; rw [hy131]; with_reducible exact H2_) | (have H2_ := (Option.bind_some _ _).symm.trans H; with_reducible exact H2_) | with_reducible exact H | (rw [hy131]; exact H) | exact H
  have Ny131 := am hy131
  clear hy131
  by_cases c3 : y131.length + l0_1.length < 5864062014805
  ·rw [if_pos c3] at H
   have LMc3 := am c3
   clear c3
   obtain ⟨y134, hy134⟩ : ∃ y_ : List (S57), y_ = (y131 ++ l0_1) := ⟨_, rfl⟩
   replace H : (some (y128, y134, a0_2)) = some (r1, r2, r3) := by first | (rw [hy134]; with_reducible exact H) | (have H2_ := (Option.bind_some _ _).symm.trans H; rw [hy134]; with_reducible exact H2_) | (have H2_ := (Option.bind_some _ _).symm.trans H; with_reducible exact H2_) | with_reducible exact H | (rw [hy134]; exact H) | exact H
   have Ny134 := am hy134
   clear hy134
   simp only [Option.some.injEq, Prod.mk.injEq] at H
   obtain ⟨rfl, rfl, rfl⟩ := H
   go_enter Try.func69, Try.ntmps69
   try go_wp2_with (first | ((with_reducible refine gate_dst (N := 1) rfl ?_); refine xE (N := 1) (cs := #[.slice A0_0 l0_0.length c0_0, .slice A0_1 l0_1.length c0_1, .int .i64 a0_2]) (t := 26) (h := ?_); intro gb123 hg w4 hbox hb; have BK123 := am (hbox); have GW123 := am (xS hg HB.out); have GE123 := am (xS hg HB.out); replace HB := am (below_step (xW HB.out) hb); clear hb hbox hg) | ((with_reducible refine gate_dst (N := 2) rfl ?_); refine xE (N := 2) (cs := #[.slice none 0 0, .slice none 0 0, .int .i64 0]) (t := 26) (h := ?_); intro gb124 hg w5 hbox hb; have BK124 := am (hbox); have GW124 := am (xS hg HB.out); have GE124 := am (xS hg HB.out); replace HB := am (below_step (xW HB.out) hb); have NB123_124 := am (xN hg BK123.out); have NB124_123 := am (xM hg BK123.out); replace BK123 := am (blk_below (xB BK123.out) hb); clear hb hbox hg))
   replace BK123 := am (blk_drew BK123.out)
   replace BK124 := am (blk_drew BK124.out)
   replace HB := am (below_drew1 HB.out)
   refine start_ (n := 12) (S := fun w' => w'.cell? ⟨gb123, 0, none⟩ = some (.slice A0_0 l0_0.length c0_0) ∧ w'.cell? ⟨gb123, 1, none⟩ = some (.slice A0_1 l0_1.length c0_1) ∧ w'.cell? ⟨gb123, 2, none⟩ = some (.int .i64 a0_2)) (ds := []) #[false, false, false, false, false, false, false, false, false, false, false, false] (by kernel_rfl) rfl rfl (xC3 BK123.out) (fun hHeld => ?_); refine with_tabW spec_l04Copy.tab1 spec_l04Copy.bits1 (fun HT_ HW_ => ?_)
   generalize w5.drew = w6 at BK123 BK124 HB hHeld ⊢
   refine xP1 (i := 1) (N := some 4) #[false, true, false, false, false, false, false, false, false, false, false, false] (any_of HT_.out (by kernel_rfl)) (h := ?_)
   refine xP1 (i := 5) (N := some 8) #[false, true, false, false, false, true, false, false, false, false, false, false] (any_of HT_.out (by kernel_rfl)) (h := ?_)
   refine xP1 (i := 8) (N := some 11) #[false, true, false, false, false, true, false, false, true, false, false, false] (any_of HT_.out (by kernel_rfl)) (h := ?_)
   refine take_ (i := 2) (N := some 5) (v := ?_) (a' := ?_) #[false, true, true, false, false, true, false, false, true, false, false, false] rfl rfl (take_ofW HT_.out HW_.out (by kernel_rfl)) (fun _ _ _ h => h) (Or.inl ⟨by rfl, ?_⟩) hHeld ?_ ?_
   rotate_left
   ·rintro w' ⟨s0, s1, s2⟩
    go_simp
    with_reducible rfl
   rotate_left
   ·simp only [Act.put, List.setIfInBounds_toArray, List.set_cons_zero, List.set_cons_succ, i64_w, i32_w]
    rfl
   refine take_ (i := 6) (N := some 9) (v := ?_) (a' := ?_) #[false, true, true, false, false, true, true, false, true, false, false, false] rfl rfl (take_ofW HT_.out HW_.out (by kernel_rfl)) (fun _ _ _ h => h) (Or.inl ⟨by rfl, ?_⟩) hHeld ?_ ?_
   rotate_left
   ·rintro w' ⟨s0, s1, s2⟩
    go_simp
    with_reducible rfl
   rotate_left
   ·simp only [Act.put, List.setIfInBounds_toArray, List.set_cons_zero, List.set_cons_succ, i64_w, i32_w]
    rfl
   refine take_ (i := 9) (N := some 12) (v := ?_) (a' := ?_) #[false, true, true, false, false, true, true, false, true, true, false, false] rfl rfl (take_ofW HT_.out HW_.out (by kernel_rfl)) (fun _ _ _ h => h) (Or.inl ⟨by rfl, ?_⟩) hHeld ?_ ?_
   rotate_left
   ·rintro w' ⟨s0, s1, s2⟩
    go_simp
    with_reducible rfl
   rotate_left
   ·simp only [Act.put, List.setIfInBounds_toArray, List.set_cons_zero, List.set_cons_succ, i64_w, i32_w]
    rfl
   refine join_ (σ := Value × Value × Value) 3 #[true, true, true, true, true, true, true, false, true, true, false, false] (fun s_ => [(3, s_.1), (6, s_.2.1), (7, s_.2.2)]) (fun s_ w' => (w'.cell? ⟨gb123, 0, none⟩ = some (.slice A0_0 l0_0.length c0_0) ∧ w'.cell? ⟨gb123, 1, none⟩ = some (.slice A0_1 l0_1.length c0_1) ∧ w'.cell? ⟨gb123, 2, none⟩ = some (.int .i64 a0_2)) ∧ (Kd.R k57 57 w' w.heap.size (fun k_ => some k_ ≠ (s_.2.2 : Value).ownBlock) s_.2.1 y128) ∧ (Kd.R k57 57 w' w.heap.size (fun k_ => some k_ ≠ (s_.2.1 : Value).ownBlock) s_.2.2 y131) ∧ (w'.heap[gb123]? = some (.cells #[.slice A0_0 l0_0.length c0_0, .slice A0_1 l0_1.length c0_1, .int .i64 a0_2] 26 (0, 0))) ∧ (w'.heap[gb124]? = some (.cells #[.slice none 0 0, .slice none 0 0, .int .i64 0] 26 (0, 0))) ∧ (Below w.heap.size w w')) ?_ ?_
   rotate_left
   ·intro hCont
    refine two_ (i := 0) (j := 4) (Ni := some 3) (Nj := some 7) #[true, true, true, false, false, true, true, false, true, true, false, false] #[false, true, true, false, true, true, true, false, true, true, false, false] rfl rfl rfl rfl (two_of HT_.out (by kernel_rfl)) (by decide) (by decide) (fun K hK => ?_) (fun K hK => ?_)
    ·skip
     refine Kd.R_lit_step k57 _ 57 ?hg (N := 3) ?hd (xs := ([] : List (S57))) (inner := []) (ok := fun _ => True) (okp := fun _ => True) ?hr ?hp (fun _ hk => hk) trivial (Below.refl _ _) (Nat.le_refl _) (by simp) ?_; (case hd => rfl); (case hg => rfl); (case hr => first | (go_simp; done) | (go_simp; rfl)); (case hp => exact (Reps.none _ _))
     intro v126 w7 ho8 hb hg_ hnew_
     clear hg_ hnew_
     (first | rw [← Ny125.out] at ho8 | (simp only [Int.reduceToNat] at ho8; rw [← Ny125.out] at ho8))
     have HO127 := am (Kd.R_lower ho8 (below_size (xW HB.out)))
     replace BK123 := am (blk_below (xB BK123.out) hb)
     replace BK124 := am (blk_below (xB BK124.out) hb)
     replace HB := am (below_step (xW HB.out) hb)
     clear hb ho8
     refine hK.out _ _ (xC3 BK123.out) (fun hHeld => ?_)
     clear hK K
     refine xN1 (h := ?_)
     refine two_ (i := 3) (j := 4) (Ni := some 6) (Nj := some 7) #[true, true, true, true, false, true, true, false, true, true, false, false] #[true, true, true, false, true, true, true, false, true, true, false, false] rfl rfl rfl rfl (two_of HT_.out (by kernel_rfl)) (by decide) (by decide) (fun K hK => ?_) (fun K hK => ?_)
     ·skip
      refine Kd.R_append_rows_step k57 (w0 := w) w.heap.size (by rfl) (.tmp 3) (.tmp 5) 24 57 (.agg #[(.string ⟨#[]⟩), (.int .i64 0)]) 24 rfl Try.underlying24 info57 rfl (by decide) (by omega) v126 y125 l0_0 _ _ _ (fun _ => True) (fun _ => False) rfl rfl ?aO ?aR (fun _ _ h => h) (fun _ h => h.elim) ?aF ?aB ?aS ?aL ?_
      (case aR => repeat (first | exact (Kd.C_below HR0_0.out HB.out) | (with_reducible refine Kd.C_alloc ?_ _) | (with_reducible refine Kd.C_drewN ?_ _) | (with_reducible refine Kd.C_drew ?_)))
      (case aB => exact (xW HB.out))
      (case aF => exact (fun _ _ => trivial))
      (case aO => exact (xR HO127.out))
      (case aS => exact (below_size (xW HB.out)))
      (case aL => have := LMc2.out; omega)
      intro v129 w9 ho hb hg hat
      rw [← Ny128.out] at ho
      replace BK123 := am (blk_grown (g := gb123) (o := .cells #[.slice A0_0 l0_0.length c0_0, .slice A0_1 l0_1.length c0_1, .int .i64 a0_2] 26 (0, 0)) (xB BK123.out) hg (Kd.R_ne HO127.out BK123.out (by decide)))
      replace BK124 := am (blk_grown (g := gb124) (o := .cells #[.slice none 0 0, .slice none 0 0, .int .i64 0] 26 (0, 0)) (xB BK124.out) hg (Kd.R_ne HO127.out BK124.out (by decide)))
      replace HB := am (hb)
      have HO130 := am (ho)
      clear HO127
      clear ho hb hg hat
      refine hK.out _ _ (xC3 BK123.out) (fun hHeld => ?_)
      clear hK K
      refine xN1 (h := ?_)
      refine one_ (i := 4) (N := some 7) #[true, true, true, true, true, true, true, false, true, true, false, false] rfl rfl (one_of HT_.out (by kernel_rfl)) (by decide) (fun K hK => ?_)
      refine Kd.R_lit_step k57 _ 57 ?hg (N := 7) ?hd (xs := ([] : List (S57))) (inner := []) (ok := fun _ => True) (okp := fun _ => True) ?hr ?hp (fun _ hk => hk) trivial (Below.refl _ _) (Nat.le_refl _) (by simp) ?_; (case hd => rfl); (case hg => rfl); (case hr => first | (go_simp; done) | (go_simp; rfl)); (case hp => exact (Reps.none _ _))
      intro v132 w10 ho11 hb hg_ hnew_
      clear hg_ hnew_
      (first | rw [← Ny131.out] at ho11 | (simp only [Int.reduceToNat] at ho11; rw [← Ny131.out] at ho11))
      have HO133 := am (Kd.R_lower (Kd.R_new' ho11 (Kd.R_lt (xR HO130.out))) (below_size (xW HB.out)))
      replace HO130 := am (Kd.R_elder' (xR HO130.out) (Kd.R_base ho11) hb)
      replace BK123 := am (blk_below (xB BK123.out) hb)
      replace BK124 := am (blk_below (xB BK124.out) hb)
      replace HB := am (below_step (xW HB.out) hb)
      clear hb ho11
      refine hK.out _ _ (xC3 BK123.out) (fun hHeld => ?_)
      clear hK K
      refine xN1 (h := ?_)
      exact xN2 (hCont (v126, v129, v132) _ ⟨hHeld, (Kd.R_mono (xR HO130.out) (fun _ hk => hk.2)), (Kd.R_mono (xR HO133.out) (fun _ hk => hk.2)), (xB BK123.out), (xB BK124.out), (xW HB.out)⟩)
     ·skip
      refine Kd.R_lit_step k57 _ 57 ?hg (N := 7) ?hd (xs := ([] : List (S57))) (inner := []) (ok := fun _ => True) (okp := fun _ => True) ?hr ?hp (fun _ hk => hk) trivial (Below.refl _ _) (Nat.le_refl _) (by simp) ?_; (case hd => rfl); (case hg => rfl); (case hr => first | (go_simp; done) | (go_simp; rfl)); (case hp => exact (Reps.none _ _))
      intro v132 w9 ho10 hb hg_ hnew_
      clear hg_ hnew_
      (first | rw [← Ny131.out] at ho10 | (simp only [Int.reduceToNat] at ho10; rw [← Ny131.out] at ho10))
      have HO133 := am (Kd.R_lower (Kd.R_new' ho10 (Kd.R_lt (xR HO127.out))) (below_size (xW HB.out)))
      replace HO127 := am (Kd.R_elder' (xR HO127.out) (Kd.R_base ho10) hb)
      replace BK123 := am (blk_below (xB BK123.out) hb)
      replace BK124 := am (blk_below (xB BK124.out) hb)
      replace HB := am (below_step (xW HB.out) hb)
      clear hb ho10
      refine hK.out _ _ (xC3 BK123.out) (fun hHeld => ?_)
      clear hK K
      refine xN1 (h := ?_)
      refine one_ (i := 3) (N := some 6) #[true, true, true, true, true, true, true, false, true, true, false, false] rfl rfl (one_of HT_.out (by kernel_rfl)) (by decide) (fun K hK => ?_)
      refine Kd.R_append_rows_step k57 (w0 := w) w.heap.size (by rfl) (.tmp 3) (.tmp 5) 24 57 (.agg #[(.string ⟨#[]⟩), (.int .i64 0)]) 24 rfl Try.underlying24 info57 rfl (by decide) (by omega) v126 y125 l0_0 _ _ _ (fun k_ => some k_ ≠ (v132 : Value).ownBlock) (fun _ => False) rfl rfl ?aO ?aR (fun _ _ h => h) (fun _ h => h.elim) ?aF ?aB ?aS ?aL ?_
      (case aR => repeat (first | exact (Kd.C_below HR0_0.out HB.out) | (with_reducible refine Kd.C_alloc ?_ _) | (with_reducible refine Kd.C_drewN ?_ _) | (with_reducible refine Kd.C_drew ?_)))
      (case aB => exact (xW HB.out))
      (case aF => exact (fun k_ hk => Kd.fresh' (Kd.R_lt (xR HO133.out)) k_ hk))
      (case aO => exact (Kd.R_mono (xR HO127.out) (fun _ hk => hk.2)))
      (case aS => exact (below_size (xW HB.out)))
      (case aL => have := LMc2.out; omega)
      intro v129 w11 ho hb hg hat
      rw [← Ny128.out] at ho
      replace BK123 := am (blk_grown (g := gb123) (o := .cells #[.slice A0_0 l0_0.length c0_0, .slice A0_1 l0_1.length c0_1, .int .i64 a0_2] 26 (0, 0)) (xB BK123.out) hg (Kd.R_ne HO127.out BK123.out (by decide)))
      replace BK124 := am (blk_grown (g := gb124) (o := .cells #[.slice none 0 0, .slice none 0 0, .int .i64 0] 26 (0, 0)) (xB BK124.out) hg (Kd.R_ne HO127.out BK124.out (by decide)))
      replace HO133 := am (Kd.R_after (ok := (fun _ => True)) (xR HO133.out) hg hat)
      replace HB := am (hb)
      have HO130 := am (ho)
      clear HO127
      clear ho hb hg hat
      refine hK.out _ _ (xC3 BK123.out) (fun hHeld => ?_)
      clear hK K
      refine xN1 (h := ?_)
      exact xN2 (hCont (v126, v129, v132) _ ⟨hHeld, (xR HO130.out), (Kd.R_mono (xR HO133.out) (fun _ hk => hk.2)), (xB BK123.out), (xB BK124.out), (xW HB.out)⟩)
    ·skip
     refine Kd.R_lit_step k57 _ 57 ?hg (N := 7) ?hd (xs := ([] : List (S57))) (inner := []) (ok := fun _ => True) (okp := fun _ => True) ?hr ?hp (fun _ hk => hk) trivial (Below.refl _ _) (Nat.le_refl _) (by simp) ?_; (case hd => rfl); (case hg => rfl); (case hr => first | (go_simp; done) | (go_simp; rfl)); (case hp => exact (Reps.none _ _))
     intro v132 w7 ho8 hb hg_ hnew_
     clear hg_ hnew_
     (first | rw [← Ny131.out] at ho8 | (simp only [Int.reduceToNat] at ho8; rw [← Ny131.out] at ho8))
     have HO133 := am (Kd.R_lower ho8 (below_size (xW HB.out)))
     replace BK123 := am (blk_below (xB BK123.out) hb)
     replace BK124 := am (blk_below (xB BK124.out) hb)
     replace HB := am (below_step (xW HB.out) hb)
     clear hb ho8
     refine hK.out _ _ (xC3 BK123.out) (fun hHeld => ?_)
     clear hK K
     refine xN1 (h := ?_)
     refine one_ (i := 0) (N := some 3) #[true, true, true, false, true, true, true, false, true, true, false, false] rfl rfl (one_of HT_.out (by kernel_rfl)) (by decide) (fun K hK => ?_)
     refine Kd.R_lit_step k57 _ 57 ?hg (N := 3) ?hd (xs := ([] : List (S57))) (inner := []) (ok := fun _ => True) (okp := fun _ => True) ?hr ?hp (fun _ hk => hk) trivial (Below.refl _ _) (Nat.le_refl _) (by simp) ?_; (case hd => rfl); (case hg => rfl); (case hr => first | (go_simp; done) | (go_simp; rfl)); (case hp => exact (Reps.none _ _))
     intro v126 w9 ho10 hb hg_ hnew_
     clear hg_ hnew_
     (first | rw [← Ny125.out] at ho10 | (simp only [Int.reduceToNat] at ho10; rw [← Ny125.out] at ho10))
     have HO127 := am (Kd.R_lower (Kd.R_new' ho10 (Kd.R_lt (xR HO133.out))) (below_size (xW HB.out)))
     replace HO133 := am (Kd.R_elder' (xR HO133.out) (Kd.R_base ho10) hb)
     replace BK123 := am (blk_below (xB BK123.out) hb)
     replace BK124 := am (blk_below (xB BK124.out) hb)
     replace HB := am (below_step (xW HB.out) hb)
     clear hb ho10
     refine hK.out _ _ (xC3 BK123.out) (fun hHeld => ?_)
     clear hK K
     refine xN1 (h := ?_)
     refine one_ (i := 3) (N := some 6) #[true, true, true, true, true, true, true, false, true, true, false, false] rfl rfl (one_of HT_.out (by kernel_rfl)) (by decide) (fun K hK => ?_)
     refine Kd.R_append_rows_step k57 (w0 := w) w.heap.size (by rfl) (.tmp 3) (.tmp 5) 24 57 (.agg #[(.string ⟨#[]⟩), (.int .i64 0)]) 24 rfl Try.underlying24 info57 rfl (by decide) (by omega) v126 y125 l0_0 _ _ _ (fun k_ => some k_ ≠ (v132 : Value).ownBlock) (fun _ => False) rfl rfl ?aO ?aR (fun _ _ h => h) (fun _ h => h.elim) ?aF ?aB ?aS ?aL ?_
     (case aR => repeat (first | exact (Kd.C_below HR0_0.out HB.out) | (with_reducible refine Kd.C_alloc ?_ _) | (with_reducible refine Kd.C_drewN ?_ _) | (with_reducible refine Kd.C_drew ?_)))
     (case aB => exact (xW HB.out))
     (case aF => exact (fun k_ hk => Kd.fresh' (Kd.R_lt (xR HO133.out)) k_ hk))
     (case aO => exact (Kd.R_mono (xR HO127.out) (fun _ hk => hk.2)))
     (case aS => exact (below_size (xW HB.out)))
     (case aL => have := LMc2.out; omega)
     intro v129 w11 ho hb hg hat
     rw [← Ny128.out] at ho
     replace BK123 := am (blk_grown (g := gb123) (o := .cells #[.slice A0_0 l0_0.length c0_0, .slice A0_1 l0_1.length c0_1, .int .i64 a0_2] 26 (0, 0)) (xB BK123.out) hg (Kd.R_ne HO127.out BK123.out (by decide)))
     replace BK124 := am (blk_grown (g := gb124) (o := .cells #[.slice none 0 0, .slice none 0 0, .int .i64 0] 26 (0, 0)) (xB BK124.out) hg (Kd.R_ne HO127.out BK124.out (by decide)))
     replace HO133 := am (Kd.R_after (ok := (fun _ => True)) (xR HO133.out) hg hat)
     replace HB := am (hb)
     have HO130 := am (ho)
     clear HO127
     clear ho hb hg hat
     refine hK.out _ _ (xC3 BK123.out) (fun hHeld => ?_)
     clear hK K
     refine xN1 (h := ?_)
     exact xN2 (hCont (v126, v129, v132) _ ⟨hHeld, (xR HO130.out), (Kd.R_mono (xR HO133.out) (fun _ hk => hk.2)), (xB BK123.out), (xB BK124.out), (xW HB.out)⟩)
   rintro ⟨v126, v129, v132⟩ w12 ⟨hS_, h0_, h1_, h2_, h3_, h4_⟩
   have n0_ : Aside0 (Kd.R k57 57 w12 w.heap.size (fun k_ => some k_ ≠ (v132 : Value).ownBlock) v129 y128) := ⟨h0_⟩
   have n1_ : Aside0 (Kd.R k57 57 w12 w.heap.size (fun k_ => some k_ ≠ (v129 : Value).ownBlock) v132 y131) := ⟨h1_⟩
   have n2_ : Aside0 (w12.heap[gb123]? = some (.cells #[.slice A0_0 l0_0.length c0_0, .slice A0_1 l0_1.length c0_1, .int .i64 a0_2] 26 (0, 0))) := ⟨h2_⟩
   have n3_ : Aside0 (w12.heap[gb124]? = some (.cells #[.slice none 0 0, .slice none 0 0, .int .i64 0] 26 (0, 0))) := ⟨h3_⟩
   have n4_ : Aside0 (Below w.heap.size w w12) := ⟨h4_⟩
   clear BK123
   clear BK124
   clear HB
   clear h0_ h1_ h2_ h3_ h4_
   have HO130 := n0_
   have HO133 := n1_
   have BK123 := n2_
   have BK124 := n3_
   have HB := n4_
   clear n0_ n1_ n2_ n3_ n4_
   have hHeld : w12.cell? ⟨gb123, 0, none⟩ = some (.slice A0_0 l0_0.length c0_0) ∧ w12.cell? ⟨gb123, 1, none⟩ = some (.slice A0_1 l0_1.length c0_1) ∧ w12.cell? ⟨gb123, 2, none⟩ = some (.int .i64 a0_2) := hS_
   refine norm_ (a' := ?_) ?_ ?_
   rotate_left
   ·simp only [putAll, Act.put, List.setIfInBounds_toArray, List.set_cons_zero, List.set_cons_succ]
    rfl
   refine one_ (i := 7) (N := some 10) #[true, true, true, true, true, true, true, true, true, true, false, false] rfl rfl (one_of HT_.out (by kernel_rfl)) (by decide) (fun K hK => ?_)
   refine Kd.R_append_rows_step k57 (w0 := w) w.heap.size (by rfl) (.tmp 7) (.tmp 9) 24 57 (.agg #[(.string ⟨#[]⟩), (.int .i64 0)]) 24 rfl Try.underlying24 info57 rfl (by decide) (by omega) v132 y131 l0_1 _ _ _ (fun k_ => some k_ ≠ (v129 : Value).ownBlock) (fun _ => False) rfl rfl ?aO ?aR (fun _ _ h => h) (fun _ h => h.elim) ?aF ?aB ?aS ?aL ?_
   (case aR => repeat (first | exact (Kd.C_below HR0_1.out HB.out) | (with_reducible refine Kd.C_alloc ?_ _) | (with_reducible refine Kd.C_drewN ?_ _) | (with_reducible refine Kd.C_drew ?_)))
   (case aB => exact (xW HB.out))
   (case aF => exact (fun k_ hk => Kd.fresh' (Kd.R_lt (xR HO130.out)) k_ hk))
   (case aO => exact (xR HO133.out))
   (case aS => exact (below_size (xW HB.out)))
   (case aL => have := LMc3.out; omega)
   intro v135 w13 ho hb hg hat
   rw [← Ny134.out] at ho
   replace BK123 := am (blk_grown (g := gb123) (o := .cells #[.slice A0_0 l0_0.length c0_0, .slice A0_1 l0_1.length c0_1, .int .i64 a0_2] 26 (0, 0)) (xB BK123.out) hg (Kd.R_ne HO133.out BK123.out (by decide)))
   replace BK124 := am (blk_grown (g := gb124) (o := .cells #[.slice none 0 0, .slice none 0 0, .int .i64 0] 26 (0, 0)) (xB BK124.out) hg (Kd.R_ne HO133.out BK124.out (by decide)))
   replace HO130 := am (Kd.R_after (ok := (fun _ => True)) (Kd.R_mono (xR HO130.out) (fun _ hk => ⟨trivial, hk⟩)) hg hat)
   replace HB := am (hb)
   have HO136 := am (ho)
   clear HO133
   clear ho hb hg hat
   obtain ⟨Ao14, co14, eo14⟩ := Kd.R_slice HO136.out
   (first | subst eo14 | (injection eo14 with f1_ f2_ f3_; have f4_ := f1_.symm; have f5_ := f3_.symm; clear f1_ f2_ f3_; subst f4_; subst f5_))
   obtain ⟨Ao15, co15, eo15⟩ := Kd.R_slice HO130.out
   (first | subst eo15 | (injection eo15 with f1_ f2_ f3_; have f4_ := f1_.symm; have f5_ := f3_.symm; clear f1_ f2_ f3_; subst f4_; subst f5_))
   refine hK.out _ _ (xC3 BK123.out) (fun hHeld => ?_)
   clear hK K
   refine xN1 (h := ?_)
   refine xP1 (i := 10) (N := some 13) #[true, true, true, true, true, true, true, true, true, true, true, false] (any_of HT_.out (by kernel_rfl)) (h := ?_)
   refine one_ (i := 11) (N := none) #[true, true, true, true, true, true, true, true, true, true, true, true] rfl rfl (one_of HT_.out (by kernel_rfl)) (by decide) (fun K hK => ?_)
   have hs16 : w13.cell? ⟨gb124, 0, none⟩ = some (.slice none 0 0) := (blk_cell BK124.out 0).trans rfl
   have hfs16 := blk_frozen BK124.out 0
   have hns16_0 := NB123_124.out
   have hms16_0 := NB124_123.out
   have hs17 : w13.cell? ⟨gb124, 1, none⟩ = some (.slice none 0 0) := (blk_cell BK124.out 1).trans rfl
   have hfs17 := blk_frozen BK124.out 1
   have hns17_0 := NB123_124.out
   have hms17_0 := NB124_123.out
   have hs18 : w13.cell? ⟨gb124, 2, none⟩ = some (.int .i64 0) := (blk_cell BK124.out 2).trans rfl
   have hfs18 := blk_frozen BK124.out 2
   have hns18_0 := NB123_124.out
   have hms18_0 := NB124_123.out
   refine skip_ (w1 := ?_) (by rfl) rfl ?_ ?_
   rotate_left
   ·go_simp
    rfl
   refine hK.out _ _ ⟨((cell_far (p := ⟨gb124, _, none⟩) NB123_124.out _).trans (((cell_far (p := ⟨gb124, _, none⟩) NB123_124.out _).trans (((cell_far (p := ⟨gb124, _, none⟩) NB123_124.out _).trans (hHeld.1)))))), ((cell_far (p := ⟨gb124, _, none⟩) NB123_124.out _).trans (((cell_far (p := ⟨gb124, _, none⟩) NB123_124.out _).trans (((cell_far (p := ⟨gb124, _, none⟩) NB123_124.out _).trans (hHeld.2.1)))))), ((cell_far (p := ⟨gb124, _, none⟩) NB123_124.out _).trans (((cell_far (p := ⟨gb124, _, none⟩) NB123_124.out _).trans (((cell_far (p := ⟨gb124, _, none⟩) NB123_124.out _).trans (hHeld.2.2))))))⟩ (fun hHeld => ?_)
   clear hK K
   refine done_ (done_of HT_.out (by kernel_rfl)) ?_
   try go_wp2
   refine bodyPost_ret (results_cell_row rfl _ _ gb124 26 #[.slice Ao15 y128.length co15, .slice Ao14 y134.length co14, .int .i64 a0_2] (0, 0) _ rfl (xP BK124.out) Try.underlying26 rfl (by kernel_rfl)) rfl ?_
   exact ⟨_, _, xV, Kd.R_mono (xR HO130.out) (fun _ hk => hk.2), xR HO136.out, xW HB.out⟩
  ·rw [if_neg c3] at H
   exact absurd H (by simp)
 ·rw [if_neg c2] at H
  exact absurd H (by simp)
def spec_TakeKey.j0 : Nat → ByteArray → Bool → List (S57) → List (S57) → Int → Option ((List (S57)) × (List (S57)) × Int × Bool)
 | 0, _, _, _, _, _ => none
 | k + 1, x1, x14, x138000, x138001, x138002 => if x14 = true then (some (([] : List (S57)), ([] : List (S57)), 0, false)) else ((spec_l04Copy.f x138000 x138001 x138002).bind fun bt140 => ((spec_l04Seek.f k x138000 x1).bind fun t148 => (if t148 ≥ 0 then (if 0 ≤ t148 then (if t148 < (bt140.1.length : Int) then (some ((bt140.1.set (t148 : Int).toNat (⟨(⟨#[]⟩ : ByteArray), (-2)⟩ : S57)), bt140.2.1, bt140.2.2, true)) else (none)) else (none)) else ((spec_l04Seek.f k x138001 x1).bind fun t150 => (if t150 < 0 then (some (([] : List (S57)), ([] : List (S57)), 0, false)) else (if 0 ≤ t150 then (if t150 < (bt140.2.1.length : Int) then (some (bt140.1, (bt140.2.1.set (t150 : Int).toNat (⟨(⟨#[]⟩ : ByteArray), (-2)⟩ : S57)), bt140.2.2, true)) else (none)) else (none)))))))
def spec_TakeKey.f (k : Nat) (l0_0 : List (S57)) (l0_1 : List (S57)) (a0_2 : Int) (a1 : ByteArray) : Option ((List (S57)) × (List (S57)) × Int × Bool) := (spec_TableOk.f k l0_0 l0_1 a0_2).bind fun t139 => (if t139 = true then (spec_TakeKey.j0 k a1 (a1.toList == ([] : List UInt8)) l0_0 l0_1 a0_2) else (spec_TakeKey.j0 k a1 true l0_0 l0_1 a0_2))
set_option maxHeartbeats 8000000 in
set_option maxRecDepth 100000 in
theorem spec_TakeKey.calls (k : Nat) (A0_0 : Option Addr) (c0_0 : Nat) (l0_0 : List (S57)) (A0_1 : Option Addr) (c0_1 : Nat) (l0_1 : List (S57)) (a0_2 : Int) (a1 : ByteArray) (r1 : List (S57)) (r2 : List (S57)) (r3 : Int) (r4 : Bool) (w : World) (hr0_0 : Kd.C k57 w A0_0 l0_0.length l0_0) (hc0_0 : l0_0.length ≤ c0_0) (hr0_1 : Kd.C k57 w A0_1 l0_1.length l0_1) (hc0_1 : l0_1.length ≤ c0_1) (h : spec_TakeKey.f k l0_0 l0_1 a0_2 a1 = some (r1, r2, r3, r4)) :
  Calls Try.prog 33 #[.agg #[.slice A0_0 l0_0.length c0_0, .slice A0_1 l0_1.length c0_1, .int .i64 a0_2], .string a1] w fun e w' => ∃ v0_ v1_ : Value, e = .returned (.tuple #[.agg #[v0_, v1_, .int .i64 r3], .bool r4]) ∧ Kd.R k57 57 w' w.heap.size (fun k_ => some k_ ≠ (v1_ : Value).ownBlock) v0_ r1 ∧ Kd.R k57 57 w' w.heap.size (fun k_ => some k_ ≠ (v0_ : Value).ownBlock) v1_ r2 ∧ Below w.heap.size w w' := by
 have hu26 := Try.underlying26
 have hu57 := Try.underlying57
 have HR0_0 := am hr0_0
 have HC0_0 := am hc0_0
 clear hr0_0 hc0_0
 have HR0_1 := am hr0_1
 have HC0_1 := am hc0_1
 clear hr0_1 hc0_1
 have HB := am (Below.refl w.heap.size w)
 have H : ((spec_TableOk.f k l0_0 l0_1 a0_2).bind fun t139 => (if t139 = true then (spec_TakeKey.j0 k a1 (a1.toList == ([] : List UInt8)) l0_0 l0_1 a0_2) else (spec_TakeKey.j0 k a1 true l0_0 l0_1 a0_2))) = some (r1, r2, r3, r4) := h
 clear h
 have HC3 := am H
 clear H
 go_enter Try.func33, Try.ntmps33
 go_upto_region 1 with (first | ((with_reducible refine gate_dst (N := 2) rfl ?_); refine xE (N := 2) (cs := #[.slice A0_0 l0_0.length c0_0, .slice A0_1 l0_1.length c0_1, .int .i64 a0_2]) (t := 26) (h := ?_); intro gb137 hg w4 hbox hb; have BK137 := am (hbox); have GW137 := am (xS hg HB.out); have GE137 := am (xS hg HB.out); replace HB := am (below_step (xW HB.out) hb); clear hb hbox hg) | ((with_reducible refine gate_dst (N := 4) rfl ?_); refine xE (N := 4) (cs := #[.slice none 0 0, .slice none 0 0, .int .i64 0]) (t := 26) (h := ?_); intro gb138 hg w5 hbox hb; have BK138 := am (hbox); have GW138 := am (xS hg HB.out); have GE138 := am (xS hg HB.out); replace HB := am (below_step (xW HB.out) hb); have NB137_138 := am (xN hg BK137.out); have NB138_137 := am (xM hg BK137.out); replace BK137 := am (blk_below (xB BK137.out) hb); clear hb hbox hg))
 (try simp only [Act.put, List.setIfInBounds_toArray, List.set_cons_zero, List.set_cons_succ])
 go_cut [14] (fun v14 wc => ∃ (kq : Nat) (x14_2 : Bool), v14 = .bool x14_2 ∧ Aside0 (spec_TakeKey.j0 kq a1 x14_2 l0_0 l0_1 a0_2 = some (r1, r2, r3, r4)) ∧ Aside0 (kq ≤ k) ∧ Aside0 (wc.heap[gb137]? = some (.cells #[(.slice A0_0 l0_0.length c0_0), (.slice A0_1 l0_1.length c0_1), .int .i64 a0_2] 26 (0, 0))) ∧ Aside0 (wc.heap[gb138]? = some (.cells #[(.slice none 0 0), (.slice none 0 0), .int .i64 0] 26 (0, 0))) ∧ Aside0 (Below w.heap.size w wc))
 case first =>
  have H := HC3.out
  clear HC3
  replace H := Option.bind_eq_some_iff.mp H
  obtain ⟨t139, A60, H⟩ := H
  try dsimp only at H
  have A6 := am A60
  clear A60
  by_cases c7 : t139 = true
  ·subst c7
   have H1 : (spec_TakeKey.j0 k a1 (a1.toList == ([] : List UInt8)) l0_0 l0_1 a0_2) = some (r1, r2, r3, r4) := by rw [if_pos rfl] at H; exact H
   clear H
   have H := H1
   clear H1
   have H' := am H
   clear H
   have hnb8 := NB137_138.out
   have hnc8 := NB138_137.out
   obtain ⟨hcz9_0, hcz9_1, hcz9_2, hfz9_0, hfz9_1, hfz9_2⟩ := xT3 (W := w5) BK137.out
   go_wp2_with (first | ((with_reducible refine gate_callee (f := 25) rfl ?_); refine xG (some 9) 25 Try.func25 #[.agg #[.slice A0_0 l0_0.length c0_0, .slice A0_1 l0_1.length c0_1, .int .i64 a0_2]] (h := ?_); (with_reducible refine (spec_TableOk.calls k _ _ l0_0 _ _ l0_1 a0_2 true _ ?side1 ?side2 ?side3 ?side4 A6.out).mono ?_); (case side1 => exact xC (Kd.C_below HR0_0.out HB.out)); (case side2 => exact HC0_0.out); (case side3 => exact xC (Kd.C_below HR0_1.out HB.out)); (case side4 => exact HC0_1.out); rintro e w10 ⟨rfl, hb⟩; refine ⟨_, rfl, ?_⟩; replace BK137 := am (blk_below (xB BK137.out) hb); replace BK138 := am (blk_below (xB BK138.out) hb); replace HB := am (below_step (xW HB.out) hb); (try clear hb); ))
   go_meet
   case rel => exact ⟨_, ((a1.toList == ([] : List UInt8))), (xQ), H', ⟨by first | omega | exact Nat.le_refl _⟩, ⟨xB BK137.out⟩, ⟨xB BK138.out⟩, ⟨xW HB.out⟩⟩
  ·replace c7 := Bool.eq_false_iff.mpr c7
   subst c7
   have H1 : (spec_TakeKey.j0 k a1 true l0_0 l0_1 a0_2) = some (r1, r2, r3, r4) := by rw [if_neg (show ¬ (false = true) by decide)] at H; exact H
   clear H
   have H := H1
   clear H1
   have H' := am H
   clear H
   have hnb11 := NB137_138.out
   have hnc11 := NB138_137.out
   obtain ⟨hcz12_0, hcz12_1, hcz12_2, hfz12_0, hfz12_1, hfz12_2⟩ := xT3 (W := w5) BK137.out
   go_wp2_with (first | ((with_reducible refine gate_callee (f := 25) rfl ?_); refine xG (some 9) 25 Try.func25 #[.agg #[.slice A0_0 l0_0.length c0_0, .slice A0_1 l0_1.length c0_1, .int .i64 a0_2]] (h := ?_); (with_reducible refine (spec_TableOk.calls k _ _ l0_0 _ _ l0_1 a0_2 false _ ?side1 ?side2 ?side3 ?side4 A6.out).mono ?_); (case side1 => exact xC (Kd.C_below HR0_0.out HB.out)); (case side2 => exact HC0_0.out); (case side3 => exact xC (Kd.C_below HR0_1.out HB.out)); (case side4 => exact HC0_1.out); rintro e w13 ⟨rfl, hb⟩; refine ⟨_, rfl, ?_⟩; replace BK137 := am (blk_below (xB BK137.out) hb); replace BK138 := am (blk_below (xB BK138.out) hb); replace HB := am (below_step (xW HB.out) hb); (try clear hb); ))
   go_meet
   case rel => exact ⟨_, (true), (xQ), H', ⟨by first | omega | exact Nat.le_refl _⟩, ⟨xB BK137.out⟩, ⟨xB BK138.out⟩, ⟨xW HB.out⟩⟩
 case rest =>
  clear HC3
  try clear c1
  try clear c2
  try clear p2
  try clear c3
  try clear c7
  try clear c8
  try clear c11
  try clear hcz12_0
  try clear hcz12_1
  try clear hcz12_2
  try clear hcz9_0
  try clear hcz9_1
  try clear hcz9_2
  try clear hfz12_0
  try clear hfz12_1
  try clear hfz12_2
  try clear hfz9_0
  try clear hfz9_1
  try clear hfz9_2
  obtain ⟨kq, x14_2, rfl, HA, HJ2, BK137, BK138, HB⟩ := hcut
  cases kq with
  | zero => exact absurd HA.out (by simp [spec_TakeKey.j0])
  | succ kj2 =>
   have H := HA.out
   clear HA
   simp only [spec_TakeKey.j0] at H
   by_cases c14 : x14_2 = true
   ·subst c14
    have H1 : (some (([] : List (S57)), ([] : List (S57)), 0, false)) = some (r1, r2, r3, r4) := by rw [if_pos rfl] at H; exact H
    clear H
    have H := H1
    clear H1
    simp only [Option.some.injEq, Prod.mk.injEq] at H
    obtain ⟨rfl, rfl, rfl, rfl⟩ := H
    have hnb15 := NB138_137.out
    have hnc15 := NB137_138.out
    obtain ⟨hcz16_0, hcz16_1, hcz16_2, hfz16_0, hfz16_1, hfz16_2⟩ := xT3 (W := wc) BK138.out
    go_wp2
    refine bodyPost_ret (results_ct rfl _ _ gb138 26 #[.slice none 0 0, .slice none 0 0, .int .i64 0] (0, 0) _ rfl (xP BK138.out) Try.underlying26 rfl (by kernel_rfl)) rfl ?_
    exact ⟨_, _, xV, by first | exact Kd.R_nil _ _ _ _ _ | exact Kd.N_nil _ _ _ _ _ | exact Kd.V_nil _ _ _ _ _ | exact Kd.Q_nil _ _ _ _ _ | exact Kd.S_nil _ _ _ _ _, by first | exact Kd.R_nil _ _ _ _ _ | exact Kd.N_nil _ _ _ _ _ | exact Kd.V_nil _ _ _ _ _ | exact Kd.Q_nil _ _ _ _ _ | exact Kd.S_nil _ _ _ _ _, xW HB.out⟩
   ·replace c14 := Bool.eq_false_iff.mpr c14
    subst c14
    have H1 : ((spec_l04Copy.f l0_0 l0_1 a0_2).bind fun bt140 => ((spec_l04Seek.f kj2 l0_0 a1).bind fun t148 => (if t148 ≥ 0 then (if 0 ≤ t148 then (if t148 < (bt140.1.length : Int) then (some ((bt140.1.set (t148 : Int).toNat (⟨(⟨#[]⟩ : ByteArray), (-2)⟩ : S57)), bt140.2.1, bt140.2.2, true)) else (none)) else (none)) else ((spec_l04Seek.f kj2 l0_1 a1).bind fun t150 => (if t150 < 0 then (some (([] : List (S57)), ([] : List (S57)), 0, false)) else (if 0 ≤ t150 then (if t150 < (bt140.2.1.length : Int) then (some (bt140.1, (bt140.2.1.set (t150 : Int).toNat (⟨(⟨#[]⟩ : ByteArray), (-2)⟩ : S57)), bt140.2.2, true)) else (none)) else (none))))))) = some (r1, r2, r3, r4) := by rw [if_neg (show ¬ (false = true) by decide)] at H; exact H
    clear H
    have H := H1
    clear H1
    replace H := Option.bind_eq_some_iff.mp H
    obtain ⟨⟨t140, t143, t146⟩, A170, H⟩ := H
    try dsimp only at H
    have A17 := am A170
    clear A170
    replace H := Option.bind_eq_some_iff.mp H
    obtain ⟨t148, A180, H⟩ := H
    try dsimp only at H
    have A18 := am A180
    clear A180
    by_cases c19 : t148 ≥ 0
    ·rw [if_pos c19] at H
     have c19b0 : decide (0 ≤ t148) = true := decide_eq_true c19
     clear c19
     by_cases c20 : 0 ≤ t148
     ·rw [if_pos c20] at H
      have c20b0 : decide (0 ≤ t148) = true := decide_eq_true c20
      clear c20
      by_cases c21 : t148 < (t140.length : Int)
      ·rw [if_pos c21] at H
       have c21b0 : decide (t148 < (t140.length : Int)) = true := decide_eq_true c21
       clear c21
       obtain ⟨y149, hy149⟩ : ∃ y_ : List (S57), y_ = (t140.set (t148 : Int).toNat (⟨(⟨#[]⟩ : ByteArray), (-2)⟩ : S57)) := ⟨_, rfl⟩
       replace H : (some (y149, t143, t146, true)) = some (r1, r2, r3, r4) := by first | (rw [hy149]; with_reducible exact H) | (have H2_ := (Option.bind_some _ _).symm.trans H; rw [hy149]; with_reducible exact H2_) | (have H2_ := (Option.bind_some _ _).symm.trans H; with_reducible exact H2_) | with_reducible exact H | (rw [hy149]; exact H) | exact H
       have Ny149 := am hy149
       clear hy149
       simp only [Option.some.injEq, Prod.mk.injEq] at H
       obtain ⟨rfl, rfl, rfl, rfl⟩ := H
       have hnb23 := NB137_138.out
       have hnc23 := NB138_137.out
       obtain ⟨hcz24_0, hcz24_1, hcz24_2, hfz24_0, hfz24_1, hfz24_2⟩ := xT3 (W := wc) BK137.out
       go_wp2_with (first | ((with_reducible refine gate_callee (f := 69) rfl ?_); refine xG (some 17) 69 Try.func69 #[.agg #[.slice A0_0 l0_0.length c0_0, .slice A0_1 l0_1.length c0_1, .int .i64 a0_2]] (h := ?_); (with_reducible refine (spec_l04Copy.calls _ _ l0_0 _ _ l0_1 a0_2 t140 t143 t146 _ ?side1 ?side2 ?side3 ?side4 A17.out).mono ?_); (case side1 => exact xC (Kd.C_below HR0_0.out HB.out)); (case side2 => exact HC0_0.out); (case side3 => exact xC (Kd.C_below HR0_1.out HB.out)); (case side4 => exact HC0_1.out); rintro e w25 ⟨v141, v144, rfl, ho0, ho1, hb⟩; refine ⟨_, rfl, ?_⟩; have HO142 := am (Kd.R_lower ho0 (below_size (xW HB.out))); have HO145 := am (Kd.R_lower ho1 (below_size (xW HB.out))); replace BK137 := am (blk_below (xB BK137.out) hb); replace BK138 := am (blk_below (xB BK138.out) hb); replace HB := am (below_step (xW HB.out) hb); (try clear hb); (try clear ho0); (try clear ho1)) | ((with_reducible refine gate_dst (N := 6) rfl ?_); refine xE (N := 6) (cs := #[.slice none 0 0, .slice none 0 0, .int .i64 0]) (t := 26) (h := ?_); intro gb147 hg w26 hbox hb; replace HO142 := am (Kd.R_below (xR HO142.out) hb); replace HO145 := am (Kd.R_below (xR HO145.out) hb); have BK147 := am (hbox); have GW147 := am (xS hg HB.out); have GE147 := am (xS hg HB.out); replace HB := am (below_step (xW HB.out) hb); have NB137_147 := am (xN hg BK137.out); have NB147_137 := am (xM hg BK137.out); replace BK137 := am (blk_below (xB BK137.out) hb); have NB138_147 := am (xN hg BK138.out); have NB147_138 := am (xM hg BK138.out); replace BK138 := am (blk_below (xB BK138.out) hb); clear hb hbox hg; obtain ⟨Ao27, co27, eo27⟩ := Kd.R_slice HO142.out; subst eo27; have hnb28 := NB147_137.out; have hnc28 := NB137_147.out; have hnb29 := NB147_138.out; have hnc29 := NB138_147.out; obtain ⟨hcz30_0, hcz30_1, hcz30_2, hfz30_0, hfz30_1, hfz30_2⟩ := xT3 (W := w26) BK147.out; obtain ⟨Ao31, co31, eo31⟩ := Kd.R_slice HO145.out; subst eo31; obtain ⟨hcz32_0, hcz32_1, hcz32_2, hfz32_0, hfz32_1, hfz32_2⟩ := xT3 (W := w26) BK137.out) | ((with_reducible refine gate_callee (f := 58) rfl ?_); refine xG (some 21) 58 Try.func58 #[.slice A0_0 l0_0.length c0_0, .string a1] (h := ?_); (with_reducible refine (spec_l04Seek.calls kj2 _ _ l0_0 a1 t148 _ ?side1 ?side2 A18.out).mono ?_); (case side1 => exact Kd.C_below HR0_0.out (xW HB.out)); (case side2 => exact HC0_0.out); rintro e w33 ⟨rfl, hb⟩; refine ⟨_, rfl, ?_⟩; replace HO142 := am (Kd.R_below (xR HO142.out) hb); replace HO145 := am (Kd.R_below (xR HO145.out) hb); replace BK137 := am (blk_below (xB BK137.out) hb); replace BK138 := am (blk_below (xB BK138.out) hb); replace BK147 := am (blk_below (xP BK147.out) hb); replace HB := am (below_step (xW HB.out) hb); (try clear hb); obtain ⟨hcz34_0, hcz34_1, hcz34_2, hfz34_0, hfz34_1, hfz34_2⟩ := xT3 (W := w33) BK147.out; have p22 : 0 ≤ (t148 : Int) := of_decide_eq_true (by assumption); have q22 : (t148 : Int) < ((t140.length : Int) : Int) := of_decide_eq_true (by assumption); obtain ⟨go22, co22, eo22, gb22, gl22, cl22, HG22⟩ := Kd.R_form HO142.out (by omega); (first | cases eo22 | (injection eo22 with ea_ en_ ec_; (first | subst ea_ | (injection ea_ with ea_; subst ea_)); subst ec_; clear en_)); have GB22 := am gb22; have GG22 := am HG22; clear gb22 gl22 HG22; obtain ⟨ce22, hcl22, hM22, hcc22, hfr22⟩ := Kd.R_elem HO142.out z57 (t148 : Int) p22 q22; obtain rfl := k57_openM hM22; have hx22_0 : w33.cell? ⟨go22, (t148 : Int).toNat * 2, none⟩ = some (.string ((rd_T57 t140 t148).f0)) := hcc22 0 _ rfl; have hx22_1 : w33.cell? ⟨go22, (t148 : Int).toNat * 2 + 1, none⟩ = some (.int .i64 ((rd_T57 t140 t148).f1)) := hcc22 1 _ rfl; have hf22_0 : w33.frozen? ⟨go22, (t148 : Int).toNat * 2, none⟩ = false := hfr22 0; have hf22_1 : w33.frozen? ⟨go22, (t148 : Int).toNat * 2 + 1, none⟩ = false := hfr22 1; clear hcl22 hcc22 hfr22 hM22; replace p22 := eq_true p22; replace q22 := eq_true q22; have HX35 := am (show Kd.R k57 57 w33 w.heap.size (fun k_ => some k_ ≠ (.slice Ao31 t143.length co31 : Value).ownBlock) (.slice (some ⟨go22, 0, none⟩) t140.length co27) t140 from (xR HO142.out)); obtain ⟨ce35, hcl35, hM35, hcc35, hfr35⟩ := Kd.R_elem HX35.out z57 (t148 : Int) (of_decide_eq_true (by assumption)) (by have h_ : (t148 : Int) < ((t140.length : Int) : Int) := of_decide_eq_true (by assumption); first | exact h_ | (have e_ := (Kd.R_reads' HO142.out).1; omega) | simpa using h_); obtain rfl := k57_openM hM35; have HP35 := Kd.R_seg HX35.out (t148 : Int) (of_decide_eq_true (by assumption)) (by have h_ : (t148 : Int) < ((t140.length : Int) : Int) := of_decide_eq_true (by assumption); first | exact h_ | (have e_ := (Kd.R_reads' HO142.out).1; omega) | simpa using h_) (seg := [.string (⟨#[]⟩ : ByteArray), .int .i64 (-2)]) (j := 0) hcl35 hcc35 (show 2 ≤ 2 from by decide) (x' := (⟨(⟨#[]⟩ : ByteArray), (-2)⟩ : S57)) (k57_mkM _ _ _ (⟨(⟨#[]⟩ : ByteArray), (-2)⟩ : S57) ) (fun _ hk => hk); have hx35_0 := hcc35 0 _ rfl; (try simp only [show (k57).sz = 2 from rfl, Nat.mul_one, Nat.add_zero] at hx35_0); have hf35_0 := hfr35 0; (try simp only [show (k57).sz = 2 from rfl, Nat.mul_one, Nat.add_zero] at hf35_0); have hx35_1 := hcc35 1 _ rfl; (try simp only [show (k57).sz = 2 from rfl, Nat.mul_one, Nat.add_zero] at hx35_1); have hf35_1 := hfr35 1; (try simp only [show (k57).sz = 2 from rfl, Nat.mul_one, Nat.add_zero] at hf35_1); clear hcl35 hcc35 hfr35 hM35) | ((with_reducible refine gate_store (t := 57) (p := 28) rfl ?_); refine store_event (t := 57) (p := 28) (v := ?vo_w36) (w1 := ((w33.setCell ⟨go22, (t148 : Int).toNat * 2, none⟩ (.string (⟨#[]⟩ : ByteArray))).setCell ⟨go22, (t148 : Int).toNat * 2 + 1, none⟩ (.int .i64 (-2)))) ?hg ?ho ?hn ?hr ?_; (case ho => rfl); (case hg => rfl); (case hn => rfl); (case hr => first | (go_simp; done) | (go_simp; rfl)); intro w36 hw; have hg : w33.grownBy w36 (some go22) := (by rw [hw]; exact HP35.2); have hp_ : Kd.R k57 57 w36 w.heap.size (fun k_ => some k_ ≠ (.slice Ao31 t143.length co31 : Value).ownBlock) (.slice (some ⟨go22, 0, none⟩) t140.length co27) y149 := (by rw [hw, Ny149.out]; exact HP35.1); clear HP35; replace BK137 := am (blk_grown (g := gb137) (o := .cells #[.slice A0_0 l0_0.length c0_0, .slice A0_1 l0_1.length c0_1, .int .i64 a0_2] 26 (0, 0)) (xB BK137.out) hg (Kd.R_ne HO142.out BK137.out (by decide))); replace BK138 := am (blk_grown (g := gb138) (o := .cells #[.slice none 0 0, .slice none 0 0, .int .i64 0] 26 (0, 0)) (xB BK138.out) hg (Kd.R_ne HO142.out BK138.out (by decide))); replace HO145 := am (Kd.R_after (v := (.slice (some ⟨go22, 0, none⟩) t140.length co27)) (v1 := (.slice (some ⟨go22, 0, none⟩) t140.length co27)) (ok := (fun _ => True)) (Kd.R_mono (xR HO145.out) (fun _ hk => ⟨trivial, hk⟩)) hg (.inl rfl)); replace BK147 := am (blk_grown (g := gb147) (o := .cells #[.slice (some ⟨go22, 0, none⟩) t140.length co27, .slice Ao31 t143.length co31, .int .i64 t146] 26 (0, 0)) (xB BK147.out) hg (Kd.R_ne HO142.out BK147.out (by decide))); replace HO142 := am (hp_); replace HB := am ((by rw [hw]; exact below_set (below_set (HB.out) GB22.out) GB22.out : Below w.heap.size w w36)); clear hg hw hp_; obtain ⟨hcz37_0, hcz37_1, hcz37_2, hfz37_0, hfz37_1, hfz37_2⟩ := xT3 (W := w36) BK147.out; obtain ⟨hcz38_0, hcz38_1, hcz38_2, hfz38_0, hfz38_1, hfz38_2⟩ := xT3 (W := w36) BK138.out))
       refine bodyPost_ret (results_ct rfl _ _ gb138 26 #[.slice (some ⟨go22, 0, none⟩) t140.length co27, .slice Ao31 t143.length co31, .int .i64 t146] (0, 0) _ rfl (xP BK138.out) Try.underlying26 rfl (by kernel_rfl)) rfl ?_
       exact ⟨_, _, xV, xR HO142.out, Kd.R_mono (xR HO145.out) (fun _ hk => hk.2), xW HB.out⟩
      ·rw [if_neg c21] at H
       exact absurd H (by simp)
     ·rw [if_neg c20] at H
      exact absurd H (by simp)
    ·rw [if_neg c19] at H
     have c19b0 : decide (0 ≤ t148) = false := decide_eq_false c19
     clear c19
     replace H := Option.bind_eq_some_iff.mp H
     obtain ⟨t150, A390, H⟩ := H
     try dsimp only at H
     have A39 := am A390
     clear A390
     by_cases c40 : t150 < 0
     ·rw [if_pos c40] at H
      have c40b0 : decide (t150 < 0) = true := decide_eq_true c40
      clear c40
      simp only [Option.some.injEq, Prod.mk.injEq] at H
      obtain ⟨rfl, rfl, rfl, rfl⟩ := H
      have hnb41 := NB137_138.out
      have hnc41 := NB138_137.out
      obtain ⟨hcz42_0, hcz42_1, hcz42_2, hfz42_0, hfz42_1, hfz42_2⟩ := xT3 (W := wc) BK137.out
      go_wp2_with (first | ((with_reducible refine gate_callee (f := 69) rfl ?_); refine xG (some 17) 69 Try.func69 #[.agg #[.slice A0_0 l0_0.length c0_0, .slice A0_1 l0_1.length c0_1, .int .i64 a0_2]] (h := ?_); (with_reducible refine (spec_l04Copy.calls _ _ l0_0 _ _ l0_1 a0_2 t140 t143 t146 _ ?side1 ?side2 ?side3 ?side4 A17.out).mono ?_); (case side1 => exact xC (Kd.C_below HR0_0.out HB.out)); (case side2 => exact HC0_0.out); (case side3 => exact xC (Kd.C_below HR0_1.out HB.out)); (case side4 => exact HC0_1.out); rintro e w43 ⟨v141, v144, rfl, ho0, ho1, hb⟩; refine ⟨_, rfl, ?_⟩; have HO142 := am (Kd.R_lower ho0 (below_size (xW HB.out))); have HO145 := am (Kd.R_lower ho1 (below_size (xW HB.out))); replace BK137 := am (blk_below (xB BK137.out) hb); replace BK138 := am (blk_below (xB BK138.out) hb); replace HB := am (below_step (xW HB.out) hb); (try clear hb); (try clear ho0); (try clear ho1)) | ((with_reducible refine gate_dst (N := 6) rfl ?_); refine xE (N := 6) (cs := #[.slice none 0 0, .slice none 0 0, .int .i64 0]) (t := 26) (h := ?_); intro gb147 hg w44 hbox hb; replace HO142 := am (Kd.R_below (xR HO142.out) hb); replace HO145 := am (Kd.R_below (xR HO145.out) hb); have BK147 := am (hbox); have GW147 := am (xS hg HB.out); have GE147 := am (xS hg HB.out); replace HB := am (below_step (xW HB.out) hb); have NB137_147 := am (xN hg BK137.out); have NB147_137 := am (xM hg BK137.out); replace BK137 := am (blk_below (xB BK137.out) hb); have NB138_147 := am (xN hg BK138.out); have NB147_138 := am (xM hg BK138.out); replace BK138 := am (blk_below (xB BK138.out) hb); clear hb hbox hg; obtain ⟨Ao45, co45, eo45⟩ := Kd.R_slice HO142.out; subst eo45; have hnb46 := NB147_137.out; have hnc46 := NB137_147.out; have hnb47 := NB147_138.out; have hnc47 := NB138_147.out; obtain ⟨hcz48_0, hcz48_1, hcz48_2, hfz48_0, hfz48_1, hfz48_2⟩ := xT3 (W := w44) BK147.out; obtain ⟨Ao49, co49, eo49⟩ := Kd.R_slice HO145.out; subst eo49; obtain ⟨hcz50_0, hcz50_1, hcz50_2, hfz50_0, hfz50_1, hfz50_2⟩ := xT3 (W := w44) BK137.out) | ((with_reducible refine gate_callee (f := 58) rfl ?_); refine xG (some 21) 58 Try.func58 #[.slice A0_0 l0_0.length c0_0, .string a1] (h := ?_); (with_reducible refine (spec_l04Seek.calls kj2 _ _ l0_0 a1 t148 _ ?side1 ?side2 A18.out).mono ?_); (case side1 => exact Kd.C_below HR0_0.out (xW HB.out)); (case side2 => exact HC0_0.out); rintro e w51 ⟨rfl, hb⟩; refine ⟨_, rfl, ?_⟩; replace HO142 := am (Kd.R_below (xR HO142.out) hb); replace HO145 := am (Kd.R_below (xR HO145.out) hb); replace BK137 := am (blk_below (xB BK137.out) hb); replace BK138 := am (blk_below (xB BK138.out) hb); replace BK147 := am (blk_below (xP BK147.out) hb); replace HB := am (below_step (xW HB.out) hb); (try clear hb); obtain ⟨hcz52_0, hcz52_1, hcz52_2, hfz52_0, hfz52_1, hfz52_2⟩ := xT3 (W := w51) BK137.out) | ((with_reducible refine gate_callee (f := 58) rfl ?_); refine xG (some 33) 58 Try.func58 #[.slice A0_1 l0_1.length c0_1, .string a1] (h := ?_); (with_reducible refine (spec_l04Seek.calls kj2 _ _ l0_1 a1 t150 _ ?side1 ?side2 A39.out).mono ?_); (case side1 => exact xC (Kd.C_below HR0_1.out HB.out)); (case side2 => exact HC0_1.out); rintro e w53 ⟨rfl, hb⟩; refine ⟨_, rfl, ?_⟩; replace HO142 := am (Kd.R_below (xR HO142.out) hb); replace HO145 := am (Kd.R_below (xR HO145.out) hb); replace BK137 := am (blk_below (xB BK137.out) hb); replace BK138 := am (blk_below (xB BK138.out) hb); replace BK147 := am (blk_below (xB BK147.out) hb); replace HB := am (below_step (xW HB.out) hb); (try clear hb); obtain ⟨hcz54_0, hcz54_1, hcz54_2, hfz54_0, hfz54_1, hfz54_2⟩ := xT3 (W := w53) BK138.out))
      refine bodyPost_ret (results_ct rfl _ _ gb138 26 #[.slice none 0 0, .slice none 0 0, .int .i64 0] (0, 0) _ rfl (xP BK138.out) Try.underlying26 rfl (by kernel_rfl)) rfl ?_
      exact ⟨_, _, xV, by first | exact Kd.R_nil _ _ _ _ _ | exact Kd.N_nil _ _ _ _ _ | exact Kd.V_nil _ _ _ _ _ | exact Kd.Q_nil _ _ _ _ _ | exact Kd.S_nil _ _ _ _ _, by first | exact Kd.R_nil _ _ _ _ _ | exact Kd.N_nil _ _ _ _ _ | exact Kd.V_nil _ _ _ _ _ | exact Kd.Q_nil _ _ _ _ _ | exact Kd.S_nil _ _ _ _ _, xW HB.out⟩
     ·rw [if_neg c40] at H
      have c40b0 : decide (t150 < 0) = false := decide_eq_false c40
      clear c40
      by_cases c55 : 0 ≤ t150
      ·rw [if_pos c55] at H
       have c55b0 : decide (0 ≤ t150) = true := decide_eq_true c55
       clear c55
       by_cases c56 : t150 < (t143.length : Int)
       ·rw [if_pos c56] at H
        have c56b0 : decide (t150 < (t143.length : Int)) = true := decide_eq_true c56
        clear c56
        obtain ⟨y151, hy151⟩ : ∃ y_ : List (S57), y_ = (t143.set (t150 : Int).toNat (⟨(⟨#[]⟩ : ByteArray), (-2)⟩ : S57)) := ⟨_, rfl⟩
        replace H : (some (t140, y151, t146, true)) = some (r1, r2, r3, r4) := by first | (rw [hy151]; with_reducible exact H) | (have H2_ := (Option.bind_some _ _).symm.trans H; rw [hy151]; with_reducible exact H2_) | (have H2_ := (Option.bind_some _ _).symm.trans H; with_reducible exact H2_) | with_reducible exact H | (rw [hy151]; exact H) | exact H
        have Ny151 := am hy151
        clear hy151
        simp only [Option.some.injEq, Prod.mk.injEq] at H
        obtain ⟨rfl, rfl, rfl, rfl⟩ := H
        have hnb58 := NB137_138.out
        have hnc58 := NB138_137.out
        obtain ⟨hcz59_0, hcz59_1, hcz59_2, hfz59_0, hfz59_1, hfz59_2⟩ := xT3 (W := wc) BK137.out
        go_wp2_with (first | ((with_reducible refine gate_callee (f := 69) rfl ?_); refine xG (some 17) 69 Try.func69 #[.agg #[.slice A0_0 l0_0.length c0_0, .slice A0_1 l0_1.length c0_1, .int .i64 a0_2]] (h := ?_); (with_reducible refine (spec_l04Copy.calls _ _ l0_0 _ _ l0_1 a0_2 t140 t143 t146 _ ?side1 ?side2 ?side3 ?side4 A17.out).mono ?_); (case side1 => exact xC (Kd.C_below HR0_0.out HB.out)); (case side2 => exact HC0_0.out); (case side3 => exact xC (Kd.C_below HR0_1.out HB.out)); (case side4 => exact HC0_1.out); rintro e w60 ⟨v141, v144, rfl, ho0, ho1, hb⟩; refine ⟨_, rfl, ?_⟩; have HO142 := am (Kd.R_lower ho0 (below_size (xW HB.out))); have HO145 := am (Kd.R_lower ho1 (below_size (xW HB.out))); replace BK137 := am (blk_below (xB BK137.out) hb); replace BK138 := am (blk_below (xB BK138.out) hb); replace HB := am (below_step (xW HB.out) hb); (try clear hb); (try clear ho0); (try clear ho1)) | ((with_reducible refine gate_dst (N := 6) rfl ?_); refine xE (N := 6) (cs := #[.slice none 0 0, .slice none 0 0, .int .i64 0]) (t := 26) (h := ?_); intro gb147 hg w61 hbox hb; replace HO142 := am (Kd.R_below (xR HO142.out) hb); replace HO145 := am (Kd.R_below (xR HO145.out) hb); have BK147 := am (hbox); have GW147 := am (xS hg HB.out); have GE147 := am (xS hg HB.out); replace HB := am (below_step (xW HB.out) hb); have NB137_147 := am (xN hg BK137.out); have NB147_137 := am (xM hg BK137.out); replace BK137 := am (blk_below (xB BK137.out) hb); have NB138_147 := am (xN hg BK138.out); have NB147_138 := am (xM hg BK138.out); replace BK138 := am (blk_below (xB BK138.out) hb); clear hb hbox hg; obtain ⟨Ao62, co62, eo62⟩ := Kd.R_slice HO142.out; subst eo62; have hnb63 := NB147_137.out; have hnc63 := NB137_147.out; have hnb64 := NB147_138.out; have hnc64 := NB138_147.out; obtain ⟨hcz65_0, hcz65_1, hcz65_2, hfz65_0, hfz65_1, hfz65_2⟩ := xT3 (W := w61) BK147.out; obtain ⟨Ao66, co66, eo66⟩ := Kd.R_slice HO145.out; subst eo66; obtain ⟨hcz67_0, hcz67_1, hcz67_2, hfz67_0, hfz67_1, hfz67_2⟩ := xT3 (W := w61) BK137.out) | ((with_reducible refine gate_callee (f := 58) rfl ?_); refine xG (some 21) 58 Try.func58 #[.slice A0_0 l0_0.length c0_0, .string a1] (h := ?_); (with_reducible refine (spec_l04Seek.calls kj2 _ _ l0_0 a1 t148 _ ?side1 ?side2 A18.out).mono ?_); (case side1 => exact Kd.C_below HR0_0.out (xW HB.out)); (case side2 => exact HC0_0.out); rintro e w68 ⟨rfl, hb⟩; refine ⟨_, rfl, ?_⟩; replace HO142 := am (Kd.R_below (xR HO142.out) hb); replace HO145 := am (Kd.R_below (xR HO145.out) hb); replace BK137 := am (blk_below (xB BK137.out) hb); replace BK138 := am (blk_below (xB BK138.out) hb); replace BK147 := am (blk_below (xP BK147.out) hb); replace HB := am (below_step (xW HB.out) hb); (try clear hb); obtain ⟨hcz69_0, hcz69_1, hcz69_2, hfz69_0, hfz69_1, hfz69_2⟩ := xT3 (W := w68) BK137.out) | ((with_reducible refine gate_callee (f := 58) rfl ?_); refine xG (some 33) 58 Try.func58 #[.slice A0_1 l0_1.length c0_1, .string a1] (h := ?_); (with_reducible refine (spec_l04Seek.calls kj2 _ _ l0_1 a1 t150 _ ?side1 ?side2 A39.out).mono ?_); (case side1 => exact xC (Kd.C_below HR0_1.out HB.out)); (case side2 => exact HC0_1.out); rintro e w70 ⟨rfl, hb⟩; refine ⟨_, rfl, ?_⟩; replace HO142 := am (Kd.R_below (xR HO142.out) hb); replace HO145 := am (Kd.R_below (xR HO145.out) hb); replace BK137 := am (blk_below (xB BK137.out) hb); replace BK138 := am (blk_below (xB BK138.out) hb); replace BK147 := am (blk_below (xB BK147.out) hb); replace HB := am (below_step (xW HB.out) hb); (try clear hb); obtain ⟨hcz71_0, hcz71_1, hcz71_2, hfz71_0, hfz71_1, hfz71_2⟩ := xT3 (W := w70) BK147.out; have p57 : 0 ≤ (t150 : Int) := of_decide_eq_true (by assumption); have q57 : (t150 : Int) < ((t143.length : Int) : Int) := of_decide_eq_true (by assumption); obtain ⟨go57, co57, eo57, gb57, gl57, cl57, HG57⟩ := Kd.R_form HO145.out (by omega); (first | cases eo57 | (injection eo57 with ea_ en_ ec_; (first | subst ea_ | (injection ea_ with ea_; subst ea_)); subst ec_; clear en_)); have GB57 := am gb57; have GG57 := am HG57; clear gb57 gl57 HG57; obtain ⟨ce57, hcl57, hM57, hcc57, hfr57⟩ := Kd.R_elem HO145.out z57 (t150 : Int) p57 q57; obtain rfl := k57_openM hM57; have hx57_0 : w70.cell? ⟨go57, (t150 : Int).toNat * 2, none⟩ = some (.string ((rd_T57 t143 t150).f0)) := hcc57 0 _ rfl; have hx57_1 : w70.cell? ⟨go57, (t150 : Int).toNat * 2 + 1, none⟩ = some (.int .i64 ((rd_T57 t143 t150).f1)) := hcc57 1 _ rfl; have hf57_0 : w70.frozen? ⟨go57, (t150 : Int).toNat * 2, none⟩ = false := hfr57 0; have hf57_1 : w70.frozen? ⟨go57, (t150 : Int).toNat * 2 + 1, none⟩ = false := hfr57 1; clear hcl57 hcc57 hfr57 hM57; replace p57 := eq_true p57; replace q57 := eq_true q57; have HX72 := am (show Kd.R k57 57 w70 w.heap.size (fun k_ => some k_ ≠ (.slice Ao62 t140.length co62 : Value).ownBlock) (.slice (some ⟨go57, 0, none⟩) t143.length co66) t143 from (xR HO145.out)); obtain ⟨ce72, hcl72, hM72, hcc72, hfr72⟩ := Kd.R_elem HX72.out z57 (t150 : Int) (of_decide_eq_true (by assumption)) (by have h_ : (t150 : Int) < ((t143.length : Int) : Int) := of_decide_eq_true (by assumption); first | exact h_ | (have e_ := (Kd.R_reads' HO145.out).1; omega) | simpa using h_); obtain rfl := k57_openM hM72; have HP72 := Kd.R_seg HX72.out (t150 : Int) (of_decide_eq_true (by assumption)) (by have h_ : (t150 : Int) < ((t143.length : Int) : Int) := of_decide_eq_true (by assumption); first | exact h_ | (have e_ := (Kd.R_reads' HO145.out).1; omega) | simpa using h_) (seg := [.string (⟨#[]⟩ : ByteArray), .int .i64 (-2)]) (j := 0) hcl72 hcc72 (show 2 ≤ 2 from by decide) (x' := (⟨(⟨#[]⟩ : ByteArray), (-2)⟩ : S57)) (k57_mkM _ _ _ (⟨(⟨#[]⟩ : ByteArray), (-2)⟩ : S57) ) (fun _ hk => hk); have hx72_0 := hcc72 0 _ rfl; (try simp only [show (k57).sz = 2 from rfl, Nat.mul_one, Nat.add_zero] at hx72_0); have hf72_0 := hfr72 0; (try simp only [show (k57).sz = 2 from rfl, Nat.mul_one, Nat.add_zero] at hf72_0); have hx72_1 := hcc72 1 _ rfl; (try simp only [show (k57).sz = 2 from rfl, Nat.mul_one, Nat.add_zero] at hx72_1); have hf72_1 := hfr72 1; (try simp only [show (k57).sz = 2 from rfl, Nat.mul_one, Nat.add_zero] at hf72_1); clear hcl72 hcc72 hfr72 hM72) | ((with_reducible refine gate_store (t := 57) (p := 41) rfl ?_); refine store_event (t := 57) (p := 41) (v := ?vo_w73) (w1 := ((w70.setCell ⟨go57, (t150 : Int).toNat * 2, none⟩ (.string (⟨#[]⟩ : ByteArray))).setCell ⟨go57, (t150 : Int).toNat * 2 + 1, none⟩ (.int .i64 (-2)))) ?hg ?ho ?hn ?hr ?_; (case ho => rfl); (case hg => rfl); (case hn => rfl); (case hr => first | (go_simp; done) | (go_simp; rfl)); intro w73 hw; have hg : w70.grownBy w73 (some go57) := (by rw [hw]; exact HP72.2); have hp_ : Kd.R k57 57 w73 w.heap.size (fun k_ => some k_ ≠ (.slice Ao62 t140.length co62 : Value).ownBlock) (.slice (some ⟨go57, 0, none⟩) t143.length co66) y151 := (by rw [hw, Ny151.out]; exact HP72.1); clear HP72; replace BK137 := am (blk_grown (g := gb137) (o := .cells #[.slice A0_0 l0_0.length c0_0, .slice A0_1 l0_1.length c0_1, .int .i64 a0_2] 26 (0, 0)) (xB BK137.out) hg (Kd.R_ne HO145.out BK137.out (by decide))); replace BK138 := am (blk_grown (g := gb138) (o := .cells #[.slice none 0 0, .slice none 0 0, .int .i64 0] 26 (0, 0)) (xB BK138.out) hg (Kd.R_ne HO145.out BK138.out (by decide))); replace HO142 := am (Kd.R_after (v := (.slice (some ⟨go57, 0, none⟩) t143.length co66)) (v1 := (.slice (some ⟨go57, 0, none⟩) t143.length co66)) (ok := (fun _ => True)) (Kd.R_mono (xR HO142.out) (fun _ hk => ⟨trivial, hk⟩)) hg (.inl rfl)); replace BK147 := am (blk_grown (g := gb147) (o := .cells #[.slice Ao62 t140.length co62, .slice (some ⟨go57, 0, none⟩) t143.length co66, .int .i64 t146] 26 (0, 0)) (xB BK147.out) hg (Kd.R_ne HO145.out BK147.out (by decide))); replace HO145 := am (hp_); replace HB := am ((by rw [hw]; exact below_set (below_set (HB.out) GB57.out) GB57.out : Below w.heap.size w w73)); clear hg hw hp_; obtain ⟨hcz74_0, hcz74_1, hcz74_2, hfz74_0, hfz74_1, hfz74_2⟩ := xT3 (W := w73) BK147.out; obtain ⟨hcz75_0, hcz75_1, hcz75_2, hfz75_0, hfz75_1, hfz75_2⟩ := xT3 (W := w73) BK138.out))
        refine bodyPost_ret (results_ct rfl _ _ gb138 26 #[.slice Ao62 t140.length co62, .slice (some ⟨go57, 0, none⟩) t143.length co66, .int .i64 t146] (0, 0) _ rfl (xP BK138.out) Try.underlying26 rfl (by kernel_rfl)) rfl ?_
        exact ⟨_, _, xV, Kd.R_mono (xR HO142.out) (fun _ hk => hk.2), xR HO145.out, xW HB.out⟩
       ·rw [if_neg c56] at H
        exact absurd H (by simp)
      ·rw [if_neg c55] at H
       exact absurd H (by simp)
def spec_l04Cells.l0 : Nat → Int → List (S57) → Int → Option ((List (S57)))
 | 0, _, _, _ => none
 | k + 1, x0, x3, x4 => if x4 < x0 then (if x3.length < 5864062014805 then (spec_l04Cells.l0 k x0 (x3 ++ [(⟨(⟨#[]⟩ : ByteArray), (-1)⟩ : S57)]) (wrap64 (x4 + 1))) else (none)) else (some x3)
def spec_l04Cells.f (k : Nat) (a0 : Int) : Option ((List (S57))) := spec_l04Cells.l0 k a0 (([] : List (S57))) 0
set_option maxHeartbeats 8000000 in
set_option maxRecDepth 100000 in
theorem spec_l04Cells.calls (k : Nat) (a0 : Int) (r : List (S57)) (w : World) (h : spec_l04Cells.f k a0 = some r) :
  Calls Try.prog 72 #[.int .i64 a0] w fun e w' => ∃ v0_ : Value, e = .returned (v0_) ∧ Kd.R k57 57 w' w.heap.size (fun _ => True) v0_ r ∧ Below w.heap.size w w' := by
 have hu57 := Try.underlying57
 have HB := am (Below.refl w.heap.size w)
 have H : (spec_l04Cells.l0 k a0 (([] : List (S57))) 0) = some r := h
 clear h
 obtain ⟨y152, hy152⟩ : ∃ y_ : List (S57), y_ = (([] : List (S57))) := ⟨_, rfl⟩
 replace H : (spec_l04Cells.l0 k a0 y152 0) = some r := by first | (rw [hy152]; with_reducible exact H) | (have H2_ := (Option.bind_some _ _).symm.trans H; rw [hy152]; with_reducible exact H2_) | (have H2_ := (Option.bind_some _ _).symm.trans H; with_reducible exact H2_) | with_reducible exact H | (rw [hy152]; exact H) | exact H
 have Ny152 := am hy152
 clear hy152
 have H' := am H
 clear H
 go_enter Try.func72, Try.ntmps72
 go_wp2_with (first | ((with_reducible refine gate_dst (N := 5) rfl ?_); refine Kd.R_lit k57 _ 57 ?hg (N := 5) ?hd (xs := ([] : List (S57))) (inner := []) (ok := fun _ => True) (okp := fun _ => True) ?hr ?hp (fun _ hk => hk) trivial (Below.refl _ _) (Nat.le_refl _) (by simp) ?_; (case hd => rfl); (case hg => rfl); (case hr => first | (go_simp; done) | (go_simp; rfl)); (case hp => exact (Reps.none _ _)); intro v153 w2 ho3 hb hg_ hnew_; clear hg_ hnew_; (first | rw [← Ny152.out] at ho3 | (simp only [Int.reduceToNat] at ho3; rw [← Ny152.out] at ho3)); have HO154 := am (Kd.R_lower ho3 (below_size (xW HB.out))); replace HB := am (below_step (xW HB.out) hb); clear hb ho3))
 go_loopg [3, 4] k (fun kq v3 v4 w' => ∃ (x3_1 : List (S57)) (x4_1 : Int), v4 = .int .i64 x4_1 ∧ Aside0 (spec_l04Cells.l0 kq a0 x3_1 x4_1 = some r) ∧ Aside0 (kq ≤ k) ∧ Aside0 (Kd.R k57 57 w' w.heap.size (fun _ => True) v3 x3_1) ∧ Aside0 (Below w.heap.size w w'))
 case atStart => exact ⟨(y152), (0), (xQ), H', ⟨Nat.le_refl _⟩, ⟨xR HO154.out⟩, ⟨xW HB.out⟩⟩
 case round =>
  clear H'
  try clear p2
  obtain ⟨x3_1, x4_1, rfl, HA, HK1, HO_3, HB⟩ := hrel
  cases gk with
  | zero => exact absurd HA.out (by simp [spec_l04Cells.l0])
  | succ k1 =>
   have H := HA.out
   clear HA
   simp only [spec_l04Cells.l0] at H
   by_cases c4 : x4_1 < a0
   ·rw [if_pos c4] at H
    have c4b0 : decide (x4_1 < a0) = true := decide_eq_true c4
    clear c4
    by_cases c5 : x3_1.length < 5864062014805
    ·rw [if_pos c5] at H
     have LMc5 := am c5
     clear c5
     obtain ⟨y155, hy155⟩ : ∃ y_ : List (S57), y_ = (x3_1 ++ [(⟨(⟨#[]⟩ : ByteArray), (-1)⟩ : S57)]) := ⟨_, rfl⟩
     replace H : (spec_l04Cells.l0 k1 a0 y155 (wrap64 (x4_1 + 1))) = some r := by first | (rw [hy155]; with_reducible exact H) | (have H2_ := (Option.bind_some _ _).symm.trans H; rw [hy155]; with_reducible exact H2_) | (have H2_ := (Option.bind_some _ _).symm.trans H; with_reducible exact H2_) | with_reducible exact H | (rw [hy155]; exact H) | exact H
     have Ny155 := am hy155
     clear hy155
     have H' := am H
     clear H
     go_wp2_with (first | ((with_reducible refine gate_builtin (b := .append) (xs := #[.tmp 11, .tmp 13]) rfl ?_); at_builtin; refine Kd.R_append k57 (w0 := w) w.heap.size rfl (.tmp 11) (.tmp 13) 24 57 (.agg #[(.string ⟨#[]⟩), (.int .i64 0)]) 24 rfl Try.underlying24 info57 rfl (by decide) (by omega) u3 x3_1 (⟨(⟨#[]⟩ : ByteArray), (-1)⟩ : S57) [.string (⟨#[]⟩ : ByteArray), .int .i64 (-1)] (fun _ => True) (fun _ => False) rfl rfl ?aP (fun _ hk => hk.elim) ?aF ?aO ?aB ?aS ?aL ?_; (case aP => exact k57_mkM _ _ _ (⟨(⟨#[]⟩ : ByteArray), (-1)⟩ : S57)); (case aB => exact (xW HB.out)); (case aF => exact (fun _ _ => trivial)); (case aO => exact (xR HO_3.out)); (case aS => exact (below_size (xW HB.out))); (case aL => have := LMc5.out; omega); intro v156 w6 ho hb hg hat; rw [← Ny155.out] at ho; replace HB := am (hb); have HO157 := am (ho); clear HO_3; clear ho hb hg hat))
     go_roundg k1
     case measure => have := HK1.out; omega
     case rel => exact ⟨(y155), (wrap64 (x4_1 + 1)), (xQ), H', ⟨by have := HK1.out; omega⟩, ⟨xR HO157.out⟩, ⟨xW HB.out⟩⟩
    ·rw [if_neg c5] at H
     exact absurd H (by simp)
   ·rw [if_neg c4] at H
    have c4b0 : decide (x4_1 < a0) = false := decide_eq_false c4
    clear c4
    obtain rfl := Option.some.inj H
    go_wp2
    go_ret
    exact ⟨_, xV, xR HO_3.out, xW HB.out⟩
end Go.Proofs.Ytmahoekbedgbcaa.HFnGrows
