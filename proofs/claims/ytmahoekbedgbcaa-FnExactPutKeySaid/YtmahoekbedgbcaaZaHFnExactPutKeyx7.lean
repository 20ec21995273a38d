/- What the row of the law needs of the printed and the plain texts. -/
import Derived.Test.YtmahoekbedgbcaaZaHX
import Derived.Test.YtmahoekbedgbcaaZaHFnExactPutKeyx0
import Derived.Test.YtmahoekbedgbcaaZaHFnExactPutKeyx4
namespace Go.Proofs.Ytmahoekbedgbcaa.HFnExactPutKey
open Go.RowKit Go.Proofs.YtmahoekbedgbcaaW.PrintWords Go.Proofs.YtmahoekbedgbcaaW.PrintLast Go.Proofs.YtmahoekbedgbcaaW.PrintMore
attribute [local go_sem] max2_int min2_int max_two min_two max_three min_three max_four min_four
set_option linter.unusedVariables false
set_option linter.unusedSimpArgs false
def spec_l04Copy.f (l0_0 : List (S57)) (l0_1 : List (S57)) (a0_2 : Int) : Option ((List (S57)) × (List (S57)) × Int) := (some (([] : List (S57)) : List (S57))).bind fun y173 => (if y173.length + l0_0.length < 5864062014805 then ((some (([] : List (S57)) : List (S57))).bind fun y179 => (if y179.length + l0_1.length < 5864062014805 then (some ((y173 ++ l0_0), (y179 ++ l0_1), a0_2)) else (none))) else (none))
def spec_l04Copy.T1 : Bool × List (List Nat × List Nat) := (true, [([], []), ([], []), ([1], [1]), ([0, 2], [0, 2]), ([], []), ([], []), ([5], [5]), ([4, 6, 3], [4, 6]), ([], []), ([8], [8]), ([3, 7, 9], [3, 7, 9]), ([10, 7, 0, 1, 2, 3, 4, 5, 6, 7, 8, 9, 10], [10])])
def spec_l04Copy.B1 : List Nat := [0, 0, 2, 7, 0, 0, 32, 127, 0, 256, 1023, 2047]
theorem spec_l04Copy.tab1 : rtab .any (opsOf Try.f69 1) = spec_l04Copy.T1 := by kernel_rfl
theorem spec_l04Copy.bits1 : waitsOk spec_l04Copy.T1.2 spec_l04Copy.B1 = true := by kernel_rfl
set_option maxHeartbeats 8000000 in
set_option maxRecDepth 100000 in
theorem spec_l04Copy.calls (A0_0 : Option Addr) (c0_0 : Nat) (l0_0 : List (S57)) (A0_1 : Option Addr) (c0_1 : Nat) (l0_1 : List (S57)) (a0_2 : Int) (r1 : List (S57)) (r2 : List (S57)) (r3 : Int) (w : World) (hr0_0 : Kd.C k57 w A0_0 l0_0.length l0_0) (hc0_0 : l0_0.length ≤ c0_0) (hr0_1 : Kd.C k57 w A0_1 l0_1.length l0_1) (hc0_1 : l0_1.length ≤ c0_1) (h : spec_l04Copy.f l0_0 l0_1 a0_2 = some (r1, r2, r3)) :
  Calls Try.prog 69 #[.agg #[.slice A0_0 l0_0.length c0_0, .slice A0_1 l0_1.length c0_1, .int .i64 a0_2]] w fun e w' => ∃ v0_ v1_ : Value, e = .returned (.agg #[v0_, v1_, .int .i64 r3]) ∧ Kd.R k57 57 w' w.heap.size (fun k_ => some k_ ≠ (v1_ : Value).ownBlock) v0_ r1 ∧ Kd.R k57 57 w' w.heap.size (fun k_ => some k_ ≠ (v0_ : Value).ownBlock) v1_ r2 ∧ Below w.heap.size w w' := by
 have hu26 := Try.underlying26
 have HR0_0 := am hr0_0
 have HC0_0 := am hc0_0
 clear hr0_0 hc0_0
 have HR0_1 := am hr0_1
 have HC0_1 := am hc0_1
 clear hr0_1 hc0_1
 have HB := am (Below.refl w.heap.size w)
 have H : ((some (([] : List (S57)) : List (S57))).bind fun y173 => (if y173.length + l0_0.length < 5864062014805 then ((some (([] : List (S57)) : List (S57))).bind fun y179 => (if y179.length + l0_1.length < 5864062014805 then (some ((y173 ++ l0_0), (y179 ++ l0_1), a0_2)) else (none))) else (none))) = some (r1, r2, r3) := h
 clear h
 obtain ⟨y173, hy173⟩ : ∃ y_ : List (S57), y_ = (([] : List (S57))) := ⟨_, rfl⟩
 replace H : (if y173.length + l0_0.length < 5864062014805 then ((some (([] : List (S57)) : List (S57))).bind fun y179 => (if y179.length + l0_1.length < 5864062014805 then (some ((y173 ++ l0_0), (y179 ++ l0_1), a0_2)) else (none))) else (none)) = some (r1, r2, r3) := by first | (rw [hy173]; with_reducible exact H) | (have H2_ := (Option.bind_some _ _).symm.trans H; rw [hy173]; with_reducible exact H2_) | (have H2_ := (Option.bind_some _ _).symm.trans H; with_reducible exact H2_) | with_reducible exact H | (rw [hy173]; exact H) | exact H
 have Ny173 := am hy173
 clear hy173
 by_cases c2 : y173.length + l0_0.length < 5864062014805
 ·rw [if_pos c2] at H
  have LMc2 := am c2
  clear c2
  obtain ⟨y176, hy176⟩ : ∃ y_ : List (S57), y_ = (y173 ++ l0_0) := ⟨_, rfl⟩
  replace H : ((some (([] : List (S57)) : List (S57))).bind fun y179 => (if y179.length + l0_1.length < 5864062014805 then (some (y176, (y179 ++ l0_1), a0_2)) else (none))) = some (r1, r2, r3) := by first | (rw [hy176]; with_reducible exact H) | (have H2_ := (Option.bind_some _ _).symm.trans H; rw [hy176]; with_reducible exact H2_) | (have H2_ := (Option.bind_some _ _).symm.trans H; with_reducible exact H2_) | with_reducible exact H | (rw [hy176]; exact H) | exact H
  have Ny176 := am hy176
  clear hy176
  obtain ⟨y179, hy179⟩ : ∃ y_ : List (S57), y_ = (([] : List (S57))) := ⟨_, rfl⟩
  replace H : (if y179.length + l0_1.length < 5864062014805 then (some (y176, (y179 ++ l0_1), a0_2)) else (none)) = some (r1, r2, r3) := by first | (rw [hy179]; with_reducible exact H) | (have H2_ := (Option.bind_some _ _).symm.trans H; rw [hy179]; with_reducible exact H2_) | (have H2_ := (Option.bind_some _ _).symm.trans H; with_reducible exact H2_) | with_reducible exact H | (rw [hy179]; exact H) | exact H
  have Ny179 := am hy179
  clear hy179
  by_cases c3 : y179.length + l0_1.length < 5864062014805
  ·rw [if_pos c3] at H
   have LMc3 := am c3
   clear c3
   obtain ⟨y182, hy182⟩ : ∃ y_ : List (S57), y_ = (y179 ++ l0_1) := ⟨_, rfl⟩
   replace H : (some (y176, y182, a0_2)) = some (r1, r2, r3) := by first | (rw [hy182]; with_reducible exact H) | (have H2_ := (Option.bind_some _ _).symm.trans H; rw [hy182]; with_reducible exact H2_) | (have H2_ := (Option.bind_some _ _).symm.trans H; with_reducible exact H2_) | with_reducible exact H | (rw [hy182]; exact H) | exact H
   have Ny182 := am hy182
   clear hy182
   simp only [Option.some.injEq, Prod.mk.injEq] at H
   obtain ⟨rfl, rfl, rfl⟩ := H
   go_enter Try.func69, Try.ntmps69
   try go_wp2_with (first | ((with_reducible refine gate_dst (N := 1) rfl ?_); refine xE (N := 1) (cs := #[.slice A0_0 l0_0.length c0_0, .slice A0_1 l0_1.length c0_1, .int .i64 a0_2]) (t := 26) (h := ?_); intro gb171 hg w4 hbox hb; have n0_ := am (below_step (xW HB.out) hb); have n1_ := am (hbox); have n2_ := am (xS hg HB.out); have n3_ := am (xS hg HB.out); clear HB; have HB := n0_; have BK171 := n1_; have GW171 := n2_; have GE171 := n3_; clear n0_ n1_ n2_ n3_; clear hb hbox hg) | ((with_reducible refine gate_dst (N := 2) rfl ?_); refine xE (N := 2) (cs := #[.slice none 0 0, .slice none 0 0, .int .i64 0]) (t := 26) (h := ?_); intro gb172 hg w5 hbox hb; have n0_ := am (blk_below (xB BK171.out) hb); have n1_ := am (below_step (xW HB.out) hb); have n2_ := am (hbox); have n3_ := am (xS hg HB.out); have n4_ := am (xS hg HB.out); have n5_ := am (xN hg BK171.out); have n6_ := am (xM hg BK171.out); clear BK171; clear HB; have BK171 := n0_; have HB := n1_; have BK172 := n2_; have GW172 := n3_; have GE172 := n4_; have NB171_172 := n5_; have NB172_171 := n6_; clear n0_ n1_ n2_ n3_ n4_ n5_ n6_; clear hb hbox hg))
   have n0_ := am (blk_drew BK171.out)
   have n1_ := am (blk_drew BK172.out)
   have n2_ := am (below_drew1 HB.out)
   clear BK171
   clear BK172
   clear HB
   have BK171 := n0_
   have BK172 := n1_
   have HB := n2_
   clear n0_ n1_ n2_
   refine start_ (n := 12) (S := fun w' => w'.cell? ⟨gb171, 0, none⟩ = some (.slice A0_0 l0_0.length c0_0) ∧ w'.cell? ⟨gb171, 1, none⟩ = some (.slice A0_1 l0_1.length c0_1) ∧ w'.cell? ⟨gb171, 2, none⟩ = some (.int .i64 a0_2)) (ds := []) #[false, false, false, false, false, false, false, false, false, false, false, false] (by kernel_rfl) rfl rfl ⟨(blk_cell BK171.out 0).trans rfl, (blk_cell BK171.out 1).trans rfl, (blk_cell BK171.out 2).trans rfl⟩ (fun hHeld => ?_); refine with_tabW spec_l04Copy.tab1 spec_l04Copy.bits1 (fun HT_ HW_ => ?_)
   generalize w5.drew = w6 at BK171 BK172 HB hHeld ⊢
   refine pure_ (i := 1) (N := some 4) (v := ?_) (a' := ?_) #[false, true, false, false, false, false, false, false, false, false, false, false] rfl rfl (any_of HT_.out (by kernel_rfl)) (fun _ _ _ h => h) (Or.inl ⟨by rfl, ?_⟩) ?_ ?_
   rotate_left
   ·intro w'
    go_simp
    with_reducible rfl
   rotate_left
   ·simp only [Act.put, List.setIfInBounds_toArray, List.set_cons_zero, List.set_cons_succ, i64_w, i32_w]
    rfl
   refine pure_ (i := 5) (N := some 8) (v := ?_) (a' := ?_) #[false, true, false, false, false, true, false, false, false, false, false, false] rfl rfl (any_of HT_.out (by kernel_rfl)) (fun _ _ _ h => h) (Or.inl ⟨by rfl, ?_⟩) ?_ ?_
   rotate_left
   ·intro w'
    go_simp
    with_reducible rfl
   rotate_left
   ·simp only [Act.put, List.setIfInBounds_toArray, List.set_cons_zero, List.set_cons_succ, i64_w, i32_w]
    rfl
   refine pure_ (i := 8) (N := some 11) (v := ?_) (a' := ?_) #[false, true, false, false, false, true, false, false, true, false, false, false] rfl rfl (any_of HT_.out (by kernel_rfl)) (fun _ _ _ h => h) (Or.inl ⟨by rfl, ?_⟩) ?_ ?_
   rotate_left
   ·intro w'
    go_simp
    with_reducible rfl
   rotate_left
   ·simp only [Act.put, List.setIfInBounds_toArray, List.set_cons_zero, List.set_cons_succ, i64_w, i32_w]
    rfl
   refine take_ (i := 2) (N := some 5) (v := ?_) (a' := ?_) #[false, true, true, false, false, true, false, false, true, false, false, false] rfl rfl (take_ofW HT_.out HW_.out (by kernel_rfl)) (fun _ _ _ h => h) (Or.inl ⟨by rfl, ?_⟩) hHeld ?_ ?_
   rotate_left
   ·rintro w' ⟨s0, s1, s2⟩
    go_simp
    with_reducible rfl
   rotate_left
   ·simp only [Act.put, List.setIfInBounds_toArray, List.set_cons_zero, List.set_cons_succ, i64_w, i32_w]
    rfl
   refine take_ (i := 6) (N := some 9) (v := ?_) (a' := ?_) #[false, true, true, false, false, true, true, false, true, false, false, false] rfl rfl (take_ofW HT_.out HW_.out (by kernel_rfl)) (fun _ _ _ h => h) (Or.inl ⟨by rfl, ?_⟩) hHeld ?_ ?_
   rotate_left
   ·rintro w' ⟨s0, s1, s2⟩
    go_simp
    with_reducible rfl
   rotate_left
   ·simp only [Act.put, List.setIfInBounds_toArray, List.set_cons_zero, List.set_cons_succ, i64_w, i32_w]
    rfl
   refine take_ (i := 9) (N := some 12) (v := ?_) (a' := ?_) #[false, true, true, false, false, true, true, false, true, true, false, false] rfl rfl (take_ofW HT_.out HW_.out (by kernel_rfl)) (fun _ _ _ h => h) (Or.inl ⟨by rfl, ?_⟩) hHeld ?_ ?_
   rotate_left
   ·rintro w' ⟨s0, s1, s2⟩
    go_simp
    with_reducible rfl
   rotate_left
   ·simp only [Act.put, List.setIfInBounds_toArray, List.set_cons_zero, List.set_cons_succ, i64_w, i32_w]
    rfl
   refine join_ (σ := Value × Value × Value) 3 #[true, true, true, true, true, true, true, false, true, true, false, false] (fun s_ => [(3, s_.1), (6, s_.2.1), (7, s_.2.2)]) (fun s_ w' => (w'.cell? ⟨gb171, 0, none⟩ = some (.slice A0_0 l0_0.length c0_0) ∧ w'.cell? ⟨gb171, 1, none⟩ = some (.slice A0_1 l0_1.length c0_1) ∧ w'.cell? ⟨gb171, 2, none⟩ = some (.int .i64 a0_2)) ∧ (Kd.R k57 57 w' w.heap.size (fun k_ => some k_ ≠ (s_.2.2 : Value).ownBlock) s_.2.1 y176) ∧ (Kd.R k57 57 w' w.heap.size (fun k_ => some k_ ≠ (s_.2.1 : Value).ownBlock) s_.2.2 y179) ∧ (w'.heap[gb171]? = some (.cells #[.slice A0_0 l0_0.length c0_0, .slice A0_1 l0_1.length c0_1, .int .i64 a0_2] 26 (0, 0))) ∧ (w'.heap[gb172]? = some (.cells #[.slice none 0 0, .slice none 0 0, .int .i64 0] 26 (0, 0))) ∧ (Below w.heap.size w w')) ?_ ?_
   rotate_left
   ·intro hCont
    refine two_ (i := 0) (j := 4) (Ni := some 3) (Nj := some 7) #[true, true, true, false, false, true, true, false, true, true, false, false] #[false, true, true, false, true, true, true, false, true, true, false, false] rfl rfl rfl rfl (two_of HT_.out (by kernel_rfl)) (by decide) (by decide) (fun K hK => ?_) (fun K hK => ?_)
    ·skip
     refine Kd.R_lit_step k57 _ 57 ?hg (N := 3) ?hd (xs := ([] : List (S57))) (inner := []) (ok := fun _ => True) (okp := fun _ => True) ?hr ?hp (fun _ hk => hk) trivial (Below.refl _ _) (Nat.le_refl _) (by simp) ?_; (case hd => rfl); (case hg => rfl); (case hr => first | (go_simp; done) | (go_simp; rfl)); (case hp => exact (Reps.none _ _))
     intro v174 w7 ho8 hb hg_ hnew_
     clear hg_ hnew_
     (first | rw [← Ny173.out] at ho8 | (simp only [Int.reduceToNat] at ho8; rw [← Ny173.out] at ho8))
     have n0_ := am (Kd.R_lower ho8 (below_size (xW HB.out)))
     have n1_ := am (blk_below (xB BK171.out) hb)
     have n2_ := am (blk_below (xB BK172.out) hb)
     have n3_ := am (below_step (xW HB.out) hb)
     clear BK171
     clear BK172
     clear HB
     have HO175 := n0_
     have BK171 := n1_
     have BK172 := n2_
     have HB := n3_
     clear n0_ n1_ n2_ n3_
     clear hb ho8
     refine hK.out _ _ ⟨(blk_cell BK171.out 0).trans rfl, (blk_cell BK171.out 1).trans rfl, (blk_cell BK171.out 2).trans rfl⟩ (fun hHeld => ?_)
     clear hK K
     refine norm_ (a' := ?_) ?_ ?_
     rotate_left
     ·show Act.put _ (some 3) _ = _
      simp only [Act.put, List.setIfInBounds_toArray, List.set_cons_zero, List.set_cons_succ, i64_w, i32_w]
      rfl
     refine two_ (i := 3) (j := 4) (Ni := some 6) (Nj := some 7) #[true, true, true, true, false, true, true, false, true, true, false, false] #[true, true, true, false, true, true, true, false, true, true, false, false] rfl rfl rfl rfl (two_of HT_.out (by kernel_rfl)) (by decide) (by decide) (fun K hK => ?_) (fun K hK => ?_)
     ·skip
      refine Kd.R_append_rows_step k57 (w0 := w) w.heap.size (by rfl) (.tmp 3) (.tmp 5) 24 57 (.agg #[(.string ⟨#[]⟩), (.int .i64 0)]) 24 rfl Try.underlying24 info57 rfl (by decide) (by omega) v174 y173 l0_0 _ _ _ (fun _ => True) (fun _ => False) rfl rfl ?aO ?aR (fun _ _ h => h) (fun _ h => h.elim) ?aF ?aB ?aS ?aL ?_
      (case aR => repeat (first | exact (Kd.C_below HR0_0.out HB.out) | (with_reducible refine Kd.C_alloc ?_ _) | (with_reducible refine Kd.C_drewN ?_ _) | (with_reducible refine Kd.C_drew ?_)))
      (case aB => exact (xW HB.out))
      (case aF => exact (fun _ _ => trivial))
      (case aO => exact (xR HO175.out))
      (case aS => exact (below_size (xW HB.out)))
      (case aL => have := LMc2.out; omega)
      intro v177 w9 ho hb hg hat
      rw [← Ny176.out] at ho
      have n0_ := am (blk_grown (g := gb171) (o := .cells #[.slice A0_0 l0_0.length c0_0, .slice A0_1 l0_1.length c0_1, .int .i64 a0_2] 26 (0, 0)) (xB BK171.out) hg (Kd.R_ne HO175.out BK171.out (by decide)))
      have n1_ := am (blk_grown (g := gb172) (o := .cells #[.slice none 0 0, .slice none 0 0, .int .i64 0] 26 (0, 0)) (xB BK172.out) hg (Kd.R_ne HO175.out BK172.out (by decide)))
      have n2_ := am (hb)
      have n3_ := am (ho)
      clear BK171
      clear BK172
      clear HB
      clear HO175
      have BK171 := n0_
      have BK172 := n1_
      have HB := n2_
      have HO178 := n3_
      clear n0_ n1_ n2_ n3_
      clear ho hb hg hat
      refine hK.out _ _ ⟨(blk_cell BK171.out 0).trans rfl, (blk_cell BK171.out 1).trans rfl, (blk_cell BK171.out 2).trans rfl⟩ (fun hHeld => ?_)
      clear hK K
      refine norm_ (a' := ?_) ?_ ?_
      rotate_left
      ·show Act.put _ (some 6) _ = _
       simp only [Act.put, List.setIfInBounds_toArray, List.set_cons_zero, List.set_cons_succ, i64_w, i32_w]
       rfl
      refine one_ (i := 4) (N := some 7) #[true, true, true, true, true, true, true, false, true, true, false, false] rfl rfl (one_of HT_.out (by kernel_rfl)) (by decide) (fun K hK => ?_)
      refine Kd.R_lit_step k57 _ 57 ?hg (N := 7) ?hd (xs := ([] : List (S57))) (inner := []) (ok := fun _ => True) (okp := fun _ => True) ?hr ?hp (fun _ hk => hk) trivial (Below.refl _ _) (Nat.le_refl _) (by simp) ?_; (case hd => rfl); (case hg => rfl); (case hr => first | (go_simp; done) | (go_simp; rfl)); (case hp => exact (Reps.none _ _))
      intro v180 w10 ho11 hb hg_ hnew_
      clear hg_ hnew_
      (first | rw [← Ny179.out] at ho11 | (simp only [Int.reduceToNat] at ho11; rw [← Ny179.out] at ho11))
      have n0_ := am (Kd.R_elder' (xR HO178.out) (Kd.R_base ho11) hb)
      have n1_ := am (Kd.R_lower (Kd.R_new' ho11 (Kd.R_lt (xR HO178.out))) (below_size (xW HB.out)))
      have n2_ := am (blk_below (xB BK171.out) hb)
      have n3_ := am (blk_below (xB BK172.out) hb)
      have n4_ := am (below_step (xW HB.out) hb)
      clear HO178
      clear BK171
      clear BK172
      clear HB
      have HO178 := n0_
      have HO181 := n1_
      have BK171 := n2_
      have BK172 := n3_
      have HB := n4_
      clear n0_ n1_ n2_ n3_ n4_
      clear hb ho11
      refine hK.out _ _ ⟨(blk_cell BK171.out 0).trans rfl, (blk_cell BK171.out 1).trans rfl, (blk_cell BK171.out 2).trans rfl⟩ (fun hHeld => ?_)
      clear hK K
      refine norm_ (a' := ?_) ?_ ?_
      rotate_left
      ·show Act.put _ (some 7) _ = _
       simp only [Act.put, List.setIfInBounds_toArray, List.set_cons_zero, List.set_cons_succ, i64_w, i32_w]
       rfl
      exact norm_ (by simp only [putAll, Act.put, List.setIfInBounds_toArray, List.set_cons_zero, List.set_cons_succ]) (hCont (v174, v177, v180) _ ⟨hHeld, (Kd.R_mono (xR HO178.out) (fun _ hk => hk.2)), (Kd.R_mono (xR HO181.out) (fun _ hk => hk.2)), (xB BK171.out), (xB BK172.out), (xW HB.out)⟩)
     ·skip
      refine Kd.R_lit_step k57 _ 57 ?hg (N := 7) ?hd (xs := ([] : List (S57))) (inner := []) (ok := fun _ => True) (okp := fun _ => True) ?hr ?hp (fun _ hk => hk) trivial (Below.refl _ _) (Nat.le_refl _) (by simp) ?_; (case hd => rfl); (case hg => rfl); (case hr => first | (go_simp; done) | (go_simp; rfl)); (case hp => exact (Reps.none _ _))
      intro v180 w9 ho10 hb hg_ hnew_
      clear hg_ hnew_
      (first | rw [← Ny179.out] at ho10 | (simp only [Int.reduceToNat] at ho10; rw [← Ny179.out] at ho10))
      have n0_ := am (Kd.R_elder' (xR HO175.out) (Kd.R_base ho10) hb)
      have n1_ := am (Kd.R_lower (Kd.R_new' ho10 (Kd.R_lt (xR HO175.out))) (below_size (xW HB.out)))
      have n2_ := am (blk_below (xB BK171.out) hb)
      have n3_ := am (blk_below (xB BK172.out) hb)
      have n4_ := am (below_step (xW HB.out) hb)
      clear HO175
      clear BK171
      clear BK172
      clear HB
      have HO175 := n0_
      have HO181 := n1_
      have BK171 := n2_
      have BK172 := n3_
      have HB := n4_
      clear n0_ n1_ n2_ n3_ n4_
      clear hb ho10
      refine hK.out _ _ ⟨(blk_cell BK171.out 0).trans rfl, (blk_cell BK171.out 1).trans rfl, (blk_cell BK171.out 2).trans rfl⟩ (fun hHeld => ?_)
      clear hK K
      refine norm_ (a' := ?_) ?_ ?_
      rotate_left
      ·show Act.put _ (some 7) _ = _
       simp only [Act.put, List.setIfInBounds_toArray, List.set_cons_zero, List.set_cons_succ, i64_w, i32_w]
       rfl
      refine one_ (i := 3) (N := some 6) #[true, true, true, true, true, true, true, false, true, true, false, false] rfl rfl (one_of HT_.out (by kernel_rfl)) (by decide) (fun K hK => ?_)
      refine Kd.R_append_rows_step k57 (w0 := w) w.heap.size (by rfl) (.tmp 3) (.tmp 5) 24 57 (.agg #[(.string ⟨#[]⟩), (.int .i64 0)]) 24 rfl Try.underlying24 info57 rfl (by decide) (by omega) v174 y173 l0_0 _ _ _ (fun k_ => some k_ ≠ (v180 : Value).ownBlock) (fun _ => False) rfl rfl ?aO ?aR (fun _ _ h => h) (fun _ h => h.elim) ?aF ?aB ?aS ?aL ?_
      (case aR => repeat (first | exact (Kd.C_below HR0_0.out HB.out) | (with_reducible refine Kd.C_alloc ?_ _) | (with_reducible refine Kd.C_drewN ?_ _) | (with_reducible refine Kd.C_drew ?_)))
      (case aB => exact (xW HB.out))
      (case aF => exact (fun k_ hk => Kd.fresh' (Kd.R_lt (xR HO181.out)) k_ hk))
      (case aO => exact (Kd.R_mono (xR HO175.out) (fun _ hk => hk.2)))
      (case aS => exact (below_size (xW HB.out)))
      (case aL => have := LMc2.out; omega)
      intro v177 w11 ho hb hg hat
      rw [← Ny176.out] at ho
      have n0_ := am (blk_grown (g := gb171) (o := .cells #[.slice A0_0 l0_0.length c0_0, .slice A0_1 l0_1.length c0_1, .int .i64 a0_2] 26 (0, 0)) (xB BK171.out) hg (Kd.R_ne HO175.out BK171.out (by decide)))
      have n1_ := am (blk_grown (g := gb172) (o := .cells #[.slice none 0 0, .slice none 0 0, .int .i64 0] 26 (0, 0)) (xB BK172.out) hg (Kd.R_ne HO175.out BK172.out (by decide)))
      have n2_ := am (Kd.R_after (ok := (fun _ => True)) (xR HO181.out) hg hat)
      have n3_ := am (hb)
      have n4_ := am (ho)
      clear BK171
      clear BK172
      clear HO181
      clear HB
      clear HO175
      have BK171 := n0_
      have BK172 := n1_
      have HO181 := n2_
      have HB := n3_
      have HO178 := n4_
      clear n0_ n1_ n2_ n3_ n4_
      clear ho hb hg hat
      refine hK.out _ _ ⟨(blk_cell BK171.out 0).trans rfl, (blk_cell BK171.out 1).trans rfl, (blk_cell BK171.out 2).trans rfl⟩ (fun hHeld => ?_)
      clear hK K
      refine norm_ (a' := ?_) ?_ ?_
      rotate_left
      ·show Act.put _ (some 6) _ = _
       simp only [Act.put, List.setIfInBounds_toArray, List.set_cons_zero, List.set_cons_succ, i64_w, i32_w]
       rfl
      exact norm_ (by simp only [putAll, Act.put, List.setIfInBounds_toArray, List.set_cons_zero, List.set_cons_succ]) (hCont (v174, v177, v180) _ ⟨hHeld, (xR HO178.out), (Kd.R_mono (xR HO181.out) (fun _ hk => hk.2)), (xB BK171.out), (xB BK172.out), (xW HB.out)⟩)
    ·skip
     refine Kd.R_lit_step k57 _ 57 ?hg (N := 7) ?hd (xs := ([] : List (S57))) (inner := []) (ok := fun _ => True) (okp := fun _ => True) ?hr ?hp (fun _ hk => hk) trivial (Below.refl _ _) (Nat.le_refl _) (by simp) ?_; (case hd => rfl); (case hg => rfl); (case hr => first | (go_simp; done) | (go_simp; rfl)); (case hp => exact (Reps.none _ _))
     intro v180 w7 ho8 hb hg_ hnew_
     clear hg_ hnew_
     (first | rw [← Ny179.out] at ho8 | (simp only [Int.reduceToNat] at ho8; rw [← Ny179.out] at ho8))
     have n0_ := am (Kd.R_lower ho8 (below_size (xW HB.out)))
     have n1_ := am (blk_below (xB BK171.out) hb)
     have n2_ := am (blk_below (xB BK172.out) hb)
     have n3_ := am (below_step (xW HB.out) hb)
     clear BK171
     clear BK172
     clear HB
     have HO181 := n0_
     have BK171 := n1_
     have BK172 := n2_
     have HB := n3_
     clear n0_ n1_ n2_ n3_
     clear hb ho8
     refine hK.out _ _ ⟨(blk_cell BK171.out 0).trans rfl, (blk_cell BK171.out 1).trans rfl, (blk_cell BK171.out 2).trans rfl⟩ (fun hHeld => ?_)
     clear hK K
     refine norm_ (a' := ?_) ?_ ?_
     rotate_left
     ·show Act.put _ (some 7) _ = _
      simp only [Act.put, List.setIfInBounds_toArray, List.set_cons_zero, List.set_cons_succ, i64_w, i32_w]
      rfl
     refine one_ (i := 0) (N := some 3) #[true, true, true, false, true, true, true, false, true, true, false, false] rfl rfl (one_of HT_.out (by kernel_rfl)) (by decide) (fun K hK => ?_)
     refine Kd.R_lit_step k57 _ 57 ?hg (N := 3) ?hd (xs := ([] : List (S57))) (inner := []) (ok := fun _ => True) (okp := fun _ => True) ?hr ?hp (fun _ hk => hk) trivial (Below.refl _ _) (Nat.le_refl _) (by simp) ?_; (case hd => rfl); (case hg => rfl); (case hr => first | (go_simp; done) | (go_simp; rfl)); (case hp => exact (Reps.none _ _))
     intro v174 w9 ho10 hb hg_ hnew_
     clear hg_ hnew_
     (first | rw [← Ny173.out] at ho10 | (simp only [Int.reduceToNat] at ho10; rw [← Ny173.out] at ho10))
     have n0_ := am (Kd.R_elder' (xR HO181.out) (Kd.R_base ho10) hb)
     have n1_ := am (Kd.R_lower (Kd.R_new' ho10 (Kd.R_lt (xR HO181.out))) (below_size (xW HB.out)))
     have n2_ := am (blk_below (xB BK171.out) hb)
     have n3_ := am (blk_below (xB BK172.out) hb)
     have n4_ := am (below_step (xW HB.out) hb)
     clear HO181
     clear BK171
     clear BK172
     clear HB
     have HO181 := n0_
     have HO175 := n1_
     have BK171 := n2_
     have BK172 := n3_
     have HB := n4_
     clear n0_ n1_ n2_ n3_ n4_
     clear hb ho10
     refine hK.out _ _ ⟨(blk_cell BK171.out 0).trans rfl, (blk_cell BK171.out 1).trans rfl, (blk_cell BK171.out 2).trans rfl⟩ (fun hHeld => ?_)
     clear hK K
     refine norm_ (a' := ?_) ?_ ?_
     rotate_left
     ·show Act.put _ (some 3) _ = _
      simp only [Act.put, List.setIfInBounds_toArray, List.set_cons_zero, List.set_cons_succ, i64_w, i32_w]
      rfl
     refine one_ (i := 3) (N := some 6) #[true, true, true, true, true, true, true, false, true, true, false, false] rfl rfl (one_of HT_.out (by kernel_rfl)) (by decide) (fun K hK => ?_)
     refine Kd.R_append_rows_step k57 (w0 := w) w.heap.size (by rfl) (.tmp 3) (.tmp 5) 24 57 (.agg #[(.string ⟨#[]⟩), (.int .i64 0)]) 24 rfl Try.underlying24 info57 rfl (by decide) (by omega) v174 y173 l0_0 _ _ _ (fun k_ => some k_ ≠ (v180 : Value).ownBlock) (fun _ => False) rfl rfl ?aO ?aR (fun _ _ h => h) (fun _ h => h.elim) ?aF ?aB ?aS ?aL ?_
     (case aR => repeat (first | exact (Kd.C_below HR0_0.out HB.out) | (with_reducible refine Kd.C_alloc ?_ _) | (with_reducible refine Kd.C_drewN ?_ _) | (with_reducible refine Kd.C_drew ?_)))
     (case aB => exact (xW HB.out))
     (case aF => exact (fun k_ hk => Kd.fresh' (Kd.R_lt (xR HO181.out)) k_ hk))
     (case aO => exact (Kd.R_mono (xR HO175.out) (fun _ hk => hk.2)))
     (case aS => exact (below_size (xW HB.out)))
     (case aL => have := LMc2.out; omega)
     intro v177 w11 ho hb hg hat
     rw [← Ny176.out] at ho
     have n0_ := am (blk_grown (g := gb171) (o := .cells #[.slice A0_0 l0_0.length c0_0, .slice A0_1 l0_1.length c0_1, .int .i64 a0_2] 26 (0, 0)) (xB BK171.out) hg (Kd.R_ne HO175.out BK171.out (by decide)))
     have n1_ := am (blk_grown (g := gb172) (o := .cells #[.slice none 0 0, .slice none 0 0, .int .i64 0] 26 (0, 0)) (xB BK172.out) hg (Kd.R_ne HO175.out BK172.out (by decide)))
     have n2_ := am (Kd.R_after (ok := (fun _ => True)) (xR HO181.out) hg hat)
     have n3_ := am (hb)
     have n4_ := am (ho)
     clear BK171
     clear BK172
     clear HO181
     clear HB
     clear HO175
     have BK171 := n0_
     have BK172 := n1_
     have HO181 := n2_
     have HB := n3_
     have HO178 := n4_
     clear n0_ n1_ n2_ n3_ n4_
     clear ho hb hg hat
     refine hK.out _ _ ⟨(blk_cell BK171.out 0).trans rfl, (blk_cell BK171.out 1).trans rfl, (blk_cell BK171.out 2).trans rfl⟩ (fun hHeld => ?_)
     clear hK K
     refine norm_ (a' := ?_) ?_ ?_
     rotate_left
     ·show Act.put _ (some 6) _ = _
      simp only [Act.put, List.setIfInBounds_toArray, List.set_cons_zero, List.set_cons_succ, i64_w, i32_w]
      rfl
     exact norm_ (by simp only [putAll, Act.put, List.setIfInBounds_toArray, List.set_cons_zero, List.set_cons_succ]) (hCont (v174, v177, v180) _ ⟨hHeld, (xR HO178.out), (Kd.R_mono (xR HO181.out) (fun _ hk => hk.2)), (xB BK171.out), (xB BK172.out), (xW HB.out)⟩)
   rintro ⟨v174, v177, v180⟩ w12 ⟨hS_, h0_, h1_, h2_, h3_, h4_⟩
   have n0_ : Aside0 (Kd.R k57 57 w12 w.heap.size (fun k_ => some k_ ≠ (v180 : Value).ownBlock) v177 y176) := ⟨h0_⟩
   have n1_ : Aside0 (Kd.R k57 57 w12 w.heap.size (fun k_ => some k_ ≠ (v177 : Value).ownBlock) v180 y179) := ⟨h1_⟩
   have n2_ : Aside0 (w12.heap[gb171]? = some (.cells #[.slice A0_0 l0_0.length c0_0, .slice A0_1 l0_1.length c0_1, .int .i64 a0_2] 26 (0, 0))) := ⟨h2_⟩
   have n3_ : Aside0 (w12.heap[gb172]? = some (.cells #[.slice none 0 0, .slice none 0 0, .int .i64 0] 26 (0, 0))) := ⟨h3_⟩
   have n4_ : Aside0 (Below w.heap.size w w12) := ⟨h4_⟩
   clear BK171
   clear BK172
   clear HB
   clear h0_ h1_ h2_ h3_ h4_
   have HO178 := n0_
   have HO181 := n1_
   have BK171 := n2_
   have BK172 := n3_
   have HB := n4_
   clear n0_ n1_ n2_ n3_ n4_
   have hHeld : w12.cell? ⟨gb171, 0, none⟩ = some (.slice A0_0 l0_0.length c0_0) ∧ w12.cell? ⟨gb171, 1, none⟩ = some (.slice A0_1 l0_1.length c0_1) ∧ w12.cell? ⟨gb171, 2, none⟩ = some (.int .i64 a0_2) := hS_
   refine norm_ (a' := ?_) ?_ ?_
   rotate_left
   ·simp only [putAll, Act.put, List.setIfInBounds_toArray, List.set_cons_zero, List.set_cons_succ]
    rfl
   refine one_ (i := 7) (N := some 10) #[true, true, true, true, true, true, true, true, true, true, false, false] rfl rfl (one_of HT_.out (by kernel_rfl)) (by decide) (fun K hK => ?_)
   refine Kd.R_append_rows_step k57 (w0 := w) w.heap.size (by rfl) (.tmp 7) (.tmp 9) 24 57 (.agg #[(.string ⟨#[]⟩), (.int .i64 0)]) 24 rfl Try.underlying24 info57 rfl (by decide) (by omega) v180 y179 l0_1 _ _ _ (fun k_ => some k_ ≠ (v177 : Value).ownBlock) (fun _ => False) rfl rfl ?aO ?aR (fun _ _ h => h) (fun _ h => h.elim) ?aF ?aB ?aS ?aL ?_
   (case aR => repeat (first | exact (Kd.C_below HR0_1.out HB.out) | (with_reducible refine Kd.C_alloc ?_ _) | (with_reducible refine Kd.C_drewN ?_ _) | (with_reducible refine Kd.C_drew ?_)))
   (case aB => exact (xW HB.out))
   (case aF => exact (fun k_ hk => Kd.fresh' (Kd.R_lt (xR HO178.out)) k_ hk))
   (case aO => exact (xR HO181.out))
   (case aS => exact (below_size (xW HB.out)))
   (case aL => have := LMc3.out; omega)
   intro v183 w13 ho hb hg hat
   rw [← Ny182.out] at ho
   have n0_ := am (blk_grown (g := gb171) (o := .cells #[.slice A0_0 l0_0.length c0_0, .slice A0_1 l0_1.length c0_1, .int .i64 a0_2] 26 (0, 0)) (xB BK171.out) hg (Kd.R_ne HO181.out BK171.out (by decide)))
   have n1_ := am (blk_grown (g := gb172) (o := .cells #[.slice none 0 0, .slice none 0 0, .int .i64 0] 26 (0, 0)) (xB BK172.out) hg (Kd.R_ne HO181.out BK172.out (by decide)))
   have n2_ := am (Kd.R_after (ok := (fun _ => True)) (Kd.R_mono (xR HO178.out) (fun _ hk => ⟨trivial, hk⟩)) hg hat)
   have n3_ := am (hb)
   have n4_ := am (ho)
   clear BK171
   clear BK172
   clear HO178
   clear HB
   clear HO181
   have BK171 := n0_
   have BK172 := n1_
   have HO178 := n2_
   have HB := n3_
   have HO184 := n4_
   clear n0_ n1_ n2_ n3_ n4_
   clear ho hb hg hat
   obtain ⟨Ao14, co14, eo14⟩ := Kd.R_slice HO184.out
   (first | subst eo14 | (injection eo14 with f1_ f2_ f3_; have f4_ := f1_.symm; have f5_ := f3_.symm; clear f1_ f2_ f3_; subst f4_; subst f5_))
   obtain ⟨Ao15, co15, eo15⟩ := Kd.R_slice HO178.out
   (first | subst eo15 | (injection eo15 with f1_ f2_ f3_; have f4_ := f1_.symm; have f5_ := f3_.symm; clear f1_ f2_ f3_; subst f4_; subst f5_))
   refine hK.out _ _ ⟨(blk_cell BK171.out 0).trans rfl, (blk_cell BK171.out 1).trans rfl, (blk_cell BK171.out 2).trans rfl⟩ (fun hHeld => ?_)
   clear hK K
   refine norm_ (a' := ?_) ?_ ?_
   rotate_left
   ·show Act.put _ (some 10) _ = _
    simp only [Act.put, List.setIfInBounds_toArray, List.set_cons_zero, List.set_cons_succ, i64_w, i32_w]
    rfl
   refine pure_ (i := 10) (N := some 13) (v := ?_) (a' := ?_) #[true, true, true, true, true, true, true, true, true, true, true, false] rfl rfl (any_of HT_.out (by kernel_rfl)) (fun _ _ _ h => h) (Or.inl ⟨by rfl, ?_⟩) ?_ ?_
   rotate_left
   ·intro w'
    go_simp
    with_reducible rfl
   rotate_left
   ·simp only [Act.put, List.setIfInBounds_toArray, List.set_cons_zero, List.set_cons_succ, i64_w, i32_w]
    rfl
   refine one_ (i := 11) (N := none) #[true, true, true, true, true, true, true, true, true, true, true, true] rfl rfl (one_of HT_.out (by kernel_rfl)) (by decide) (fun K hK => ?_)
   have hs16 : w13.cell? ⟨gb172, 0, none⟩ = some (.slice none 0 0) := (blk_cell BK172.out 0).trans rfl
   have hfs16 := blk_frozen BK172.out 0
   have hns16_0 := NB171_172.out
   have hms16_0 := NB172_171.out
   have hs17 : w13.cell? ⟨gb172, 1, none⟩ = some (.slice none 0 0) := (blk_cell BK172.out 1).trans rfl
   have hfs17 := blk_frozen BK172.out 1
   have hns17_0 := NB171_172.out
   have hms17_0 := NB172_171.out
   have hs18 : w13.cell? ⟨gb172, 2, none⟩ = some (.int .i64 0) := (blk_cell BK172.out 2).trans rfl
   have hfs18 := blk_frozen BK172.out 2
   have hns18_0 := NB171_172.out
   have hms18_0 := NB172_171.out
   refine skip_ (w1 := ?_) (by rfl) rfl ?_ ?_
   rotate_left
   ·go_simp
    rfl
   refine hK.out _ _ ⟨((cell_far (p := ⟨gb172, _, none⟩) NB171_172.out _).trans (((cell_far (p := ⟨gb172, _, none⟩) NB171_172.out _).trans (((cell_far (p := ⟨gb172, _, none⟩) NB171_172.out _).trans (hHeld.1)))))), ((cell_far (p := ⟨gb172, _, none⟩) NB171_172.out _).trans (((cell_far (p := ⟨gb172, _, none⟩) NB171_172.out _).trans (((cell_far (p := ⟨gb172, _, none⟩) NB171_172.out _).trans (hHeld.2.1)))))), ((cell_far (p := ⟨gb172, _, none⟩) NB171_172.out _).trans (((cell_far (p := ⟨gb172, _, none⟩) NB171_172.out _).trans (((cell_far (p := ⟨gb172, _, none⟩) NB171_172.out _).trans (hHeld.2.2))))))⟩ (fun hHeld => ?_)
   clear hK K
   refine done_ (done_of HT_.out (by kernel_rfl)) ?_
   try go_wp2
   refine bodyPost_ret (results_cell_row rfl _ _ gb172 26 #[.slice Ao15 y176.length co15, .slice Ao14 y182.length co14, .int .i64 a0_2] (0, 0) _ rfl (xP BK172.out) Try.underlying26 rfl (by kernel_rfl)) rfl ?_
   exact ⟨_, _, xV, by (with_reducible repeat (first | apply Kd.R_alloc | apply Kd.R_drewN | apply Kd.R_drew)); exact Kd.R_mono (Kd.R_far (p := ⟨gb172, 2, none⟩) (Kd.R_far (p := ⟨gb172, 1, none⟩) (Kd.R_far (p := ⟨gb172, 0, none⟩) (Kd.R_types HO178.out BK172.out (by decide)) (fun _ hk => hk.2) (.slice Ao15 y176.length co15)) (fun _ hk => hk.2) (.slice Ao14 y182.length co14)) (fun _ hk => hk.2) (.int .i64 a0_2)) (fun _ hk => hk.1.2), xR HO184.out, xW HB.out⟩
  ·rw [if_neg c3] at H
   exact absurd H (by simp)
 ·rw [if_neg c2] at H
  exact absurd H (by simp)
mutual
def spec_l04Free.l0 : Nat → List (S57) → ByteArray → Int → Int → Option (Int × Int)
 | 0, _, _, _, _ => none
 | k + 1, x0, x1, x6, x7 => if x7 < (x0.length : Int) then (if 0 ≤ x7 then (if ((rd_T57 x0 x7).f0).toList = ([] : List UInt8) then (if ((rd_T57 x0 x7).f1) = (-1) then (spec_l04Free.l0 k x0 x1 (wrap64 (x6 + 1)) (wrap64 (x7 + 1))) else (spec_l04Free.l0 k x0 x1 x6 (wrap64 (x7 + 1)))) else (spec_l04Free.l0 k x0 x1 x6 (wrap64 (x7 + 1)))) else (none)) else ((spec_HashOf.f k x1 0).bind fun t187 => (if (x0.length : Int) = 0 then (none) else (spec_l04Free.l1 k x0 x6 (x0.length : Int) (Int.tmod t187 (x0.length : Int)) 0)))
def spec_l04Free.l1 : Nat → List (S57) → Int → Int → Int → Int → Option (Int × Int)
 | 0, _, _, _, _, _ => none
 | k + 1, x0, x6, x8, x9, x10 => if x10 < x8 then (if x8 = 0 then (none) else (if 0 ≤ (Int.tmod (wrap64 (x9 + x10)) x8) then (if (Int.tmod (wrap64 (x9 + x10)) x8) < (x0.length : Int) then (if ((rd_T57 x0 (Int.tmod (wrap64 (x9 + x10)) x8)).f0).toList = ([] : List UInt8) then (some (Int.tmod (wrap64 (x9 + x10)) x8, x6)) else (spec_l04Free.l1 k x0 x6 x8 x9 (wrap64 (x10 + 1)))) else (none)) else (none))) else (some ((-1), x6))
end
def spec_l04Free.f (k : Nat) (l0 : List (S57)) (a1 : ByteArray) : Option (Int × Int) := spec_l04Free.l0 k l0 a1 0 0
set_option maxHeartbeats 8000000 in
set_option maxRecDepth 100000 in
theorem spec_l04Free.calls (k : Nat) (A0 : Option Addr) (c0 : Nat) (l0 : List (S57)) (a1 : ByteArray) (r1 : Int) (r2 : Int) (w : World) (hr0 : Kd.C k57 w A0 l0.length l0) (hc0 : l0.length ≤ c0) (h : spec_l04Free.f k l0 a1 = some (r1, r2)) :
  Calls Try.prog 89 #[.slice A0 l0.length c0, .string a1] w fun e w' => e = .returned (.tuple #[.int .i64 r1, .int .i64 r2]) ∧ Drawn0 w w' := by
 have HR0 := am hr0
 have HC0 := am hc0
 clear hr0 hc0
 have H : (spec_l04Free.l0 k l0 a1 0 0) = some (r1, r2) := h
 clear h
 have H' := am H
 clear H
 go_enter Try.func89, Try.ntmps89
 go_wp2
 go_loopg [6, 7] k (fun kq v6 v7 w' => ∃ (x6_1 : Int) (x7_1 : Int), v6 = .int .i64 x6_1 ∧ v7 = .int .i64 x7_1 ∧ Aside0 (spec_l04Free.l0 kq l0 a1 x6_1 x7_1 = some (r1, r2)) ∧ Aside0 (kq ≤ k) ∧ Drawn0 w w')
 case atStart => exact ⟨(0), (0), (by first | rfl | (simp; done) | (simp [*]; done)), (xQ), H', ⟨Nat.le_refl _⟩, by repeat (first | exact Drawn0.refl _ | apply Drawn0.step)⟩
 case round =>
  clear H'
  try clear p2
  obtain ⟨x6_1, x7_1, rfl, rfl, HA, HK1, ⟨m1, rfl⟩⟩ := hrel
  cases gk with
  | zero => exact absurd HA.out (by simp [spec_l04Free.l0])
  | succ k1 =>
   have H := HA.out
   clear HA
   simp only [spec_l04Free.l0] at H
   by_cases c3 : x7_1 < (l0.length : Int)
   ·rw [if_pos c3] at H
    have c3b0 : decide (x7_1 < (l0.length : Int)) = true := decide_eq_true c3
    clear c3
    by_cases c4 : 0 ≤ x7_1
    ·rw [if_pos c4] at H
     have c4b0 : decide (0 ≤ x7_1) = true := decide_eq_true c4
     clear c4
     by_cases c5 : ((rd_T57 l0 x7_1).f0).toList = ([] : List UInt8)
     ·rw [if_pos c5] at H
      have c5b0 : (((rd_T57 l0 x7_1).f0).toList == ([] : List UInt8)) = true := beq_iff_eq.mpr c5
      have c5b1 : (((rd_T57 l0 x7_1).f0).toList != ([] : List UInt8)) = false := bne_eq_false_iff_eq.mpr c5
      clear c5
      by_cases c6 : ((rd_T57 l0 x7_1).f1) = (-1)
      ·rw [if_pos c6] at H
       have c6b0 : (((rd_T57 l0 x7_1).f1) == (-1)) = true := beq_iff_eq.mpr c6
       have c6b1 : (((rd_T57 l0 x7_1).f1) != (-1)) = false := bne_eq_false_iff_eq.mpr c6
       clear c6
       have H' := am H
       clear H
       have p185 : 0 ≤ (x7_1 : Int) := of_decide_eq_true (by assumption)
       have q185 : x7_1 < (l0.length : Int) := of_decide_eq_true (by assumption)
       obtain ⟨ad185, e185, hx185_0, hx185_1⟩ := at_T57 HR0.out x7_1 p185 q185
       cases e185
       replace p185 := eq_true p185
       replace q185 := eq_true q185
       have p186 : 0 ≤ (x7_1 : Int) := of_decide_eq_true (by assumption)
       have q186 : x7_1 < (l0.length : Int) := of_decide_eq_true (by assumption)
       obtain ⟨ad186, e186, hx186_0, hx186_1⟩ := at_T57 HR0.out x7_1 p186 q186
       obtain rfl : ad185 = ad186 := (by injection e186)
       replace p186 := eq_true p186
       replace q186 := eq_true q186
       go_wp2
       go_roundg k1
       case measure => have := HK1.out; omega
       case rel => exact ⟨(wrap64 (x6_1 + 1)), (wrap64 (x7_1 + 1)), (by first | rfl | (simp; done) | (simp [*]; done)), (xQ), H', ⟨by have := HK1.out; omega⟩, by repeat (first | exact Drawn0.refl _ | apply Drawn0.step)⟩
      ·rw [if_neg c6] at H
       have c6b0 : (((rd_T57 l0 x7_1).f1) == (-1)) = false := beq_eq_false_iff_ne.mpr c6
       have c6b1 : (((rd_T57 l0 x7_1).f1) != (-1)) = true := bne_iff_ne.mpr c6
       have H' := am H
       clear H
       have p185 : 0 ≤ (x7_1 : Int) := of_decide_eq_true (by assumption)
       have q185 : x7_1 < (l0.length : Int) := of_decide_eq_true (by assumption)
       obtain ⟨ad185, e185, hx185_0, hx185_1⟩ := at_T57 HR0.out x7_1 p185 q185
       cases e185
       replace p185 := eq_true p185
       replace q185 := eq_true q185
       have p186 : 0 ≤ (x7_1 : Int) := of_decide_eq_true (by assumption)
       have q186 : x7_1 < (l0.length : Int) := of_decide_eq_true (by assumption)
       obtain ⟨ad186, e186, hx186_0, hx186_1⟩ := at_T57 HR0.out x7_1 p186 q186
       obtain rfl : ad185 = ad186 := (by injection e186)
       replace p186 := eq_true p186
       replace q186 := eq_true q186
       go_wp2
       go_roundg k1
       case measure => have := HK1.out; omega
       case rel => exact ⟨(x6_1), (wrap64 (x7_1 + 1)), (by first | rfl | (simp; done) | (simp [*]; done)), (xQ), H', ⟨by have := HK1.out; omega⟩, by repeat (first | exact Drawn0.refl _ | apply Drawn0.step)⟩
     ·rw [if_neg c5] at H
      have c5b0 : (((rd_T57 l0 x7_1).f0).toList == ([] : List UInt8)) = false := beq_eq_false_iff_ne.mpr c5
      have c5b1 : (((rd_T57 l0 x7_1).f0).toList != ([] : List UInt8)) = true := bne_iff_ne.mpr c5
      have H' := am H
      clear H
      have p185 : 0 ≤ (x7_1 : Int) := of_decide_eq_true (by assumption)
      have q185 : x7_1 < (l0.length : Int) := of_decide_eq_true (by assumption)
      obtain ⟨ad185, e185, hx185_0, hx185_1⟩ := at_T57 HR0.out x7_1 p185 q185
      cases e185
      replace p185 := eq_true p185
      replace q185 := eq_true q185
      go_wp2
      go_roundg k1
      case measure => have := HK1.out; omega
      case rel => exact ⟨(x6_1), (wrap64 (x7_1 + 1)), (by first | rfl | (simp; done) | (simp [*]; done)), (xQ), H', ⟨by have := HK1.out; omega⟩, by repeat (first | exact Drawn0.refl _ | apply Drawn0.step)⟩
    ·rw [if_neg c4] at H
     exact absurd H (by simp)
   ·rw [if_neg c3] at H
    have c3b0 : decide (x7_1 < (l0.length : Int)) = false := decide_eq_false c3
    clear c3
    replace H := Option.bind_eq_some_iff.mp H
    obtain ⟨t187, A70, H⟩ := H
    replace H : (if (l0.length : Int) = 0 then (none) else (spec_l04Free.l1 k1 l0 x6_1 (l0.length : Int) (Int.tmod t187 (l0.length : Int)) 0)) = some (r1, r2) := H
    have A7 := am A70
    clear A70
    by_cases c8 : (l0.length : Int) = 0
    ·rw [if_pos c8] at H
     exact absurd H (by simp)
    ·rw [if_neg c8] at H
     have c8b0 : ((l0.length : Int) == 0) = false := beq_eq_false_iff_ne.mpr c8
     have c8b1 : ((l0.length : Int) != 0) = true := bne_iff_ne.mpr c8
     have c8b2 : ¬ (l0 = []) := fun h_ => c8 (by rw [h_]; rfl)
     have H' := am H
     clear H
     go_wp2_with (first | ((with_reducible refine gate_callee (f := 85) rfl ?_); refine xG (some 36) 85 Try.func85 #[.string a1, .int .i64 0] (h := ?_); (with_reducible refine (spec_HashOf.calls k1 a1 0 t187 _ A7.out).mono ?_); rintro e w' ⟨rfl, ⟨nd, rfl⟩⟩; refine ⟨_, rfl, ?_⟩))
     go_loopg [10] k1 (fun kq v10 w' => ∃ (x10_2 : Int), v10 = .int .i64 x10_2 ∧ Aside0 (spec_l04Free.l1 kq l0 x6_1 (l0.length : Int) (Int.tmod t187 (l0.length : Int)) x10_2 = some (r1, r2)) ∧ Aside0 (kq ≤ k1) ∧ Drawn0 w w')
     case atStart => exact ⟨(0), (xQ), H', ⟨Nat.le_refl _⟩, by repeat (first | exact Drawn0.refl _ | apply Drawn0.step)⟩
     case round =>
      clear H'
      try clear p1
      try clear q1
      try clear hx1
      try clear p2
      try clear c3
      try clear c3b0
      try clear c4
      try clear c4b0
      try clear c5
      try clear c5b0
      try clear c5b1
      try clear c6
      try clear c6b0
      try clear c6b1
      try clear p6
      try clear c8
      try clear c8b0
      try clear c8b1
      try clear c8b2
      try clear hx185_0
      try clear hx185_1
      try clear hx186_0
      try clear hx186_1
      try clear p185
      try clear p186
      try clear p2
      try clear q185
      try clear q186
      obtain ⟨x10_2, rfl, HA, HK2, ⟨m2, rfl⟩⟩ := hrel
      cases gk with
      | zero => exact absurd HA.out (by simp [spec_l04Free.l1])
      | succ k2 =>
       have H := HA.out
       clear HA
       simp only [spec_l04Free.l1] at H
       by_cases c9 : x10_2 < (l0.length : Int)
       ·rw [if_pos c9] at H
        have c9b0 : decide (x10_2 < (l0.length : Int)) = true := decide_eq_true c9
        clear c9
        by_cases c10 : (l0.length : Int) = 0
        ·rw [if_pos c10] at H
         exact absurd H (by simp)
        ·rw [if_neg c10] at H
         have c10b0 : ((l0.length : Int) == 0) = false := beq_eq_false_iff_ne.mpr c10
         have c10b1 : ((l0.length : Int) != 0) = true := bne_iff_ne.mpr c10
         have c10b2 : ¬ (l0 = []) := fun h_ => c10 (by rw [h_]; rfl)
         obtain ⟨ji11, hji11⟩ : ∃ j_ : Int, (Int.tmod (wrap64 ((Int.tmod t187 (l0.length : Int)) + x10_2)) (l0.length : Int)) = j_ := ⟨_, rfl⟩
         replace H : (if 0 ≤ (ji11) then (if (ji11) < (l0.length : Int) then (if ((rd_T57 l0 (ji11)).f0).toList = ([] : List UInt8) then (some (ji11, x6_1)) else (spec_l04Free.l1 k2 l0 x6_1 (l0.length : Int) (Int.tmod t187 (l0.length : Int)) (wrap64 (x10_2 + 1)))) else (none)) else (none)) = some (r1, r2) := by first | (rw [hji11] at H; exact H) | (simp only [hji11] at H ⊢; exact H)
         by_cases c12 : 0 ≤ (ji11)
         ·rw [if_pos c12] at H
          have c12b0 : decide (0 ≤ (ji11)) = true := decide_eq_true c12
          clear c12
          by_cases c13 : (ji11) < (l0.length : Int)
          ·rw [if_pos c13] at H
           have c13b0 : decide ((ji11) < (l0.length : Int)) = true := decide_eq_true c13
           clear c13
           by_cases c14 : ((rd_T57 l0 (ji11)).f0).toList = ([] : List UInt8)
           ·rw [if_pos c14] at H
            have c14b0 : (((rd_T57 l0 (ji11)).f0).toList == ([] : List UInt8)) = true := beq_iff_eq.mpr c14
            have c14b1 : (((rd_T57 l0 (ji11)).f0).toList != ([] : List UInt8)) = false := bne_eq_false_iff_eq.mpr c14
            clear c14
            simp only [Option.some.injEq, Prod.mk.injEq] at H
            obtain ⟨rfl, rfl⟩ := H
            have p188 : 0 ≤ ((ji11) : Int) := of_decide_eq_true (by assumption)
            have q188 : (ji11) < (l0.length : Int) := of_decide_eq_true (by assumption)
            obtain ⟨ad188, e188, hx188_0, hx188_1⟩ := at_T57 HR0.out (ji11) p188 q188
            cases e188
            replace p188 := eq_true p188
            replace q188 := eq_true q188
            go_wp2
            go_ret2
            exact ⟨by first | rfl | (simp; done) | (simp only [← hji11] <;> (first | rfl | simp)) | (simp [*]; done), by repeat (first | exact Drawn0.refl _ | apply Drawn0.step)⟩
           ·rw [if_neg c14] at H
            have c14b0 : (((rd_T57 l0 (ji11)).f0).toList == ([] : List UInt8)) = false := beq_eq_false_iff_ne.mpr c14
            have c14b1 : (((rd_T57 l0 (ji11)).f0).toList != ([] : List UInt8)) = true := bne_iff_ne.mpr c14
            have H' := am H
            clear H
            have p188 : 0 ≤ ((ji11) : Int) := of_decide_eq_true (by assumption)
            have q188 : (ji11) < (l0.length : Int) := of_decide_eq_true (by assumption)
            obtain ⟨ad188, e188, hx188_0, hx188_1⟩ := at_T57 HR0.out (ji11) p188 q188
            cases e188
            replace p188 := eq_true p188
            replace q188 := eq_true q188
            go_wp2
            go_roundg k2
            case measure => have := HK1.out; have := HK2.out; omega
            case rel => exact ⟨(wrap64 (x10_2 + 1)), (xQ), H', ⟨by have := HK1.out; have := HK2.out; omega⟩, by repeat (first | exact Drawn0.refl _ | apply Drawn0.step)⟩
          ·rw [if_neg c13] at H
           exact absurd H (by simp)
         ·rw [if_neg c12] at H
          exact absurd H (by simp)
       ·rw [if_neg c9] at H
        have c9b0 : decide (x10_2 < (l0.length : Int)) = false := decide_eq_false c9
        clear c9
        simp only [Option.some.injEq, Prod.mk.injEq] at H
        obtain ⟨rfl, rfl⟩ := H
        go_wp2
        go_ret2
        exact ⟨by first | rfl | (simp; done) | (simp [*]; done), by repeat (first | exact Drawn0.refl _ | apply Drawn0.step)⟩
def spec_l04Put.f (k : Nat) (l0 : List (S57)) (a1 : ByteArray) (a2 : Int) : Option (Bool × (List (S57))) := (spec_l04Free.f k l0 a1).bind fun bt189 => (if bt189.1 < 0 then (some (false, l0)) else (if bt189.2 ≤ 1 then (if 0 ≤ bt189.1 then (if bt189.1 < (l0.length : Int) then (if ((rd_T57 l0 bt189.1).f1) = (-1) then (some (false, l0)) else (some (true, (l0.set (bt189.1 : Int).toNat (⟨a1, a2⟩ : S57))))) else (none)) else (none)) else (if 0 ≤ bt189.1 then (if bt189.1 < (l0.length : Int) then (some (true, (l0.set (bt189.1 : Int).toNat (⟨a1, a2⟩ : S57)))) else (none)) else (none))))
set_option maxHeartbeats 8000000 in
set_option maxRecDepth 100000 in
theorem spec_l04Put.calls (k : Nat) (P0_ : Nat → Prop) (u9000_ : Value) (l0 : List (S57)) (a1 : ByteArray) (a2 : Int) (r1 : Bool) (r2 : List (S57)) (w0 w : World) (hB : Below w0.heap.size w0 w) (ho0 : Kd.R k57 57 w w0.heap.size P0_ u9000_ l0) (h : spec_l04Put.f k l0 a1 a2 = some (r1, r2)) :
  Calls Try.prog 73 #[u9000_, .string a1, .int .i64 a2] w fun e w' => e = .returned (.bool r1) ∧ Kd.R k57 57 w' w0.heap.size (fun k_ => (P0_ k_ ∨ w.heap.size ≤ k_)) u9000_ r2 ∧ Below w0.heap.size w0 w' ∧ Kept w w' (fun k_ => P0_ k_) := by
 have hu57 := Try.underlying57
 have HO0 := am (show Kd.R k57 57 w w0.heap.size (fun k_ => (P0_ k_ ∨ w.heap.size ≤ k_)) u9000_ l0 from Kd.R_mono ho0 (fun k_ hk => (.inl hk)))
 have HK := am (Kept.refl w (fun k_ => P0_ k_))
 have HW0 := am hB.size
 have HB := am hB
 clear hB
 have H : ((spec_l04Free.f k l0 a1).bind fun bt189 => (if bt189.1 < 0 then (some (false, l0)) else (if bt189.2 ≤ 1 then (if 0 ≤ bt189.1 then (if bt189.1 < (l0.length : Int) then (if ((rd_T57 l0 bt189.1).f1) = (-1) then (some (false, l0)) else (some (true, (l0.set (bt189.1 : Int).toNat (⟨a1, a2⟩ : S57))))) else (none)) else (none)) else (if 0 ≤ bt189.1 then (if bt189.1 < (l0.length : Int) then (some (true, (l0.set (bt189.1 : Int).toNat (⟨a1, a2⟩ : S57)))) else (none)) else (none))))) = some (r1, r2) := h
 clear h
 replace H := Option.bind_eq_some_iff.mp H
 obtain ⟨⟨t189, t190⟩, A40, H⟩ := H
 replace H : (if t189 < 0 then (some (false, l0)) else (if t190 ≤ 1 then (if 0 ≤ t189 then (if t189 < (l0.length : Int) then (if ((rd_T57 l0 t189).f1) = (-1) then (some (false, l0)) else (some (true, (l0.set (t189 : Int).toNat (⟨a1, a2⟩ : S57))))) else (none)) else (none)) else (if 0 ≤ t189 then (if t189 < (l0.length : Int) then (some (true, (l0.set (t189 : Int).toNat (⟨a1, a2⟩ : S57)))) else (none)) else (none)))) = some (r1, r2) := H
 have A4 := am A40
 clear A40
 by_cases c5 : t189 < 0
 ·rw [if_pos c5] at H
  have c5b0 : decide (t189 < 0) = true := decide_eq_true c5
  clear c5
  simp only [Option.some.injEq, Prod.mk.injEq] at H
  obtain ⟨rfl, rfl⟩ := H
  obtain ⟨Ao6, co6, eo6⟩ := Kd.R_slice HO0.out
  subst eo6
  go_enter Try.func73, Try.ntmps73
  go_wp2_with (first | ((with_reducible refine gate_callee (f := 89) rfl ?_); refine xG (some 12) 89 Try.func89 #[.slice Ao6 l0.length co6, .string a1] (h := ?_); (with_reducible refine (spec_l04Free.calls k _ _ l0 a1 t189 t190 _ ?side1 ?side2 A4.out).mono ?_); (case side1 => exact xC ((Kd.R_reads' HO0.out).2.2)); (case side2 => exact (Kd.R_reads' HO0.out).2.1); rintro e w' ⟨rfl, ⟨nd, rfl⟩⟩; refine ⟨_, rfl, ?_⟩))
  go_ret
  exact ⟨xV, xR HO0.out, xW HB.out, by repeat (first | (with_reducible first | exact HK.out | apply Kept.alloc | apply Kept.drewN | apply Kept.drew) | exact HK.out)⟩
 ·rw [if_neg c5] at H
  have c5b0 : decide (t189 < 0) = false := decide_eq_false c5
  clear c5
  by_cases c7 : t190 ≤ 1
  ·rw [if_pos c7] at H
   have c7b0 : decide (t190 ≤ 1) = true := decide_eq_true c7
   clear c7
   by_cases c8 : 0 ≤ t189
   ·rw [if_pos c8] at H
    have c8b0 : decide (0 ≤ t189) = true := decide_eq_true c8
    clear c8
    by_cases c9 : t189 < (l0.length : Int)
    ·rw [if_pos c9] at H
     have c9b0 : decide (t189 < (l0.length : Int)) = true := decide_eq_true c9
     clear c9
     by_cases c10 : ((rd_T57 l0 t189).f1) = (-1)
     ·rw [if_pos c10] at H
      have c10b0 : (((rd_T57 l0 t189).f1) == (-1)) = true := beq_iff_eq.mpr c10
      have c10b1 : (((rd_T57 l0 t189).f1) != (-1)) = false := bne_eq_false_iff_eq.mpr c10
      clear c10
      simp only [Option.some.injEq, Prod.mk.injEq] at H
      obtain ⟨rfl, rfl⟩ := H
      obtain ⟨Ao11, co11, eo11⟩ := Kd.R_slice HO0.out
      subst eo11
      go_enter Try.func73, Try.ntmps73
      go_wp2_with (first | ((with_reducible refine gate_callee (f := 89) rfl ?_); refine xG (some 12) 89 Try.func89 #[.slice Ao11 l0.length co11, .string a1] (h := ?_); (with_reducible refine (spec_l04Free.calls k _ _ l0 a1 t189 t190 _ ?side1 ?side2 A4.out).mono ?_); (case side1 => exact xC ((Kd.R_reads' HO0.out).2.2)); (case side2 => exact (Kd.R_reads' HO0.out).2.1); rintro e w' ⟨rfl, ⟨nd, rfl⟩⟩; refine ⟨_, rfl, ?_⟩; have p191 : 0 ≤ (t189 : Int) := of_decide_eq_true (by assumption); have q191 : t189 < (l0.length : Int) := of_decide_eq_true (by assumption); obtain ⟨ad191, e191, hx191_0, hx191_1⟩ := at_T57 (Kd.R_reads' HO0.out).2.2 t189 p191 q191; cases e191; replace p191 := eq_true p191; replace q191 := eq_true q191))
      go_ret
      exact ⟨xV, xR HO0.out, xW HB.out, by repeat (first | (with_reducible first | exact HK.out | apply Kept.alloc | apply Kept.drewN | apply Kept.drew) | exact HK.out)⟩
     ·rw [if_neg c10] at H
      have c10b0 : (((rd_T57 l0 t189).f1) == (-1)) = false := beq_eq_false_iff_ne.mpr c10
      have c10b1 : (((rd_T57 l0 t189).f1) != (-1)) = true := bne_iff_ne.mpr c10
      obtain ⟨y192, hy192⟩ : ∃ y_ : List (S57), y_ = (l0.set (t189 : Int).toNat (⟨a1, a2⟩ : S57)) := ⟨_, rfl⟩
      replace H : (some (true, y192)) = some (r1, r2) := by first | (rw [hy192]; with_reducible exact H) | (have H2_ := (Option.bind_some _ _).symm.trans H; rw [hy192]; with_reducible exact H2_) | (have H2_ := (Option.bind_some _ _).symm.trans H; with_reducible exact H2_) | with_reducible exact H | (rw [hy192]; exact H) | exact H
      have Ny192 := am hy192
      clear hy192
      simp only [Option.some.injEq, Prod.mk.injEq] at H
      obtain ⟨rfl, rfl⟩ := H
      obtain ⟨Ao13, co13, eo13⟩ := Kd.R_slice HO0.out
      subst eo13
      go_enter Try.func73, Try.ntmps73
      go_wp2_with (first | ((with_reducible refine gate_callee (f := 89) rfl ?_); refine xG (some 12) 89 Try.func89 #[.slice Ao13 l0.length co13, .string a1] (h := ?_); (with_reducible refine (spec_l04Free.calls k _ _ l0 a1 t189 t190 _ ?side1 ?side2 A4.out).mono ?_); (case side1 => exact xC ((Kd.R_reads' HO0.out).2.2)); (case side2 => exact (Kd.R_reads' HO0.out).2.1); rintro e w' ⟨rfl, ⟨nd, rfl⟩⟩; refine ⟨_, rfl, ?_⟩; (try (rw [drewN_self w]; generalize hq_ : World.drewN w _ = wq_; have n0_ : Aside0 (Kd.R k57 57 wq_ w0.heap.size (fun k_ => (P0_ k_ ∨ w.heap.size ≤ k_)) (.slice Ao13 l0.length co13) l0) := ⟨by rw [← hq_]; exact (xR HO0.out)⟩; have n1_ : Aside0 (Kept w wq_ (fun k_ => P0_ k_)) := ⟨by rw [← hq_]; exact (by repeat (first | (with_reducible first | exact HK.out | apply Kept.alloc | apply Kept.drewN | apply Kept.drew) | exact HK.out))⟩; have n2_ : Aside0 (Below w0.heap.size w0 wq_) := ⟨by rw [← hq_]; exact (xW HB.out)⟩; clear HO0 HK HB hq_; have HO0 := n0_; have HK := n1_; have HB := n2_; clear n0_ n1_ n2_)); have p191 : 0 ≤ (t189 : Int) := of_decide_eq_true (by assumption); have q191 : t189 < (l0.length : Int) := of_decide_eq_true (by assumption); obtain ⟨ad191, e191, hx191_0, hx191_1⟩ := at_T57 (Kd.R_reads' HO0.out).2.2 t189 p191 q191; cases e191; replace p191 := eq_true p191; replace q191 := eq_true q191; have p12 : 0 ≤ (t189 : Int) := of_decide_eq_true (by assumption); have q12 : (t189 : Int) < ((l0.length : Int) : Int) := of_decide_eq_true (by assumption); obtain ⟨go12, co12, eo12, gb12, gl12, cl12, HG12⟩ := Kd.R_form HO0.out (by omega); (first | cases eo12 | (injection eo12 with ea_ en_ ec_; (first | subst ea_ | (injection ea_ with ea_; subst ea_)); subst ec_; clear en_)); have GB12 := am gb12; have GG12 := am HG12; clear gb12 gl12 HG12; have HMgo12 := am (show (P0_ go12 ∨ w.heap.size ≤ go12) from (HO0.out.1 _ rfl)); (first | simp only [add_plain] at hx191_0 | skip); (first | simp only [add_plain] at hx191_1 | skip); obtain ⟨ce12, hcl12, hM12, hcc12, hfr12⟩ := Kd.R_elem HO0.out z57 (t189 : Int) p12 q12; obtain rfl := k57_openM hM12; have hx12_0 : wq_.cell? ⟨go12, (t189 : Int).toNat * 2, none⟩ = some (.string ((rd_T57 l0 t189).f0)) := hcc12 0 _ rfl; have hx12_1 : wq_.cell? ⟨go12, (t189 : Int).toNat * 2 + 1, none⟩ = some (.int .i64 ((rd_T57 l0 t189).f1)) := hcc12 1 _ rfl; have hf12_0 : wq_.frozen? ⟨go12, (t189 : Int).toNat * 2, none⟩ = false := hfr12 0; have hf12_1 : wq_.frozen? ⟨go12, (t189 : Int).toNat * 2 + 1, none⟩ = false := hfr12 1; clear hcl12 hcc12 hfr12 hM12; replace p12 := eq_true p12; replace q12 := eq_true q12; have HX14 := am (show Kd.R k57 57 wq_ w0.heap.size (fun k_ => (P0_ k_ ∨ w.heap.size ≤ k_)) (.slice (some ⟨go12, 0, none⟩) l0.length co13) l0 from (xR HO0.out)); obtain ⟨ce14, hcl14, hM14, hcc14, hfr14⟩ := Kd.R_elem HX14.out z57 (t189 : Int) (of_decide_eq_true (by assumption)) (by have h_ : (t189 : Int) < ((l0.length : Int) : Int) := of_decide_eq_true (by assumption); first | exact h_ | (have e_ := (Kd.R_reads' HO0.out).1; omega) | simpa using h_); obtain rfl := k57_openM hM14; have HP14 := Kd.R_seg HX14.out (t189 : Int) (of_decide_eq_true (by assumption)) (by have h_ : (t189 : Int) < ((l0.length : Int) : Int) := of_decide_eq_true (by assumption); first | exact h_ | (have e_ := (Kd.R_reads' HO0.out).1; omega) | simpa using h_) (seg := [.string a1, .int .i64 a2]) (j := 0) hcl14 hcc14 (show 2 ≤ 2 from by decide) (x' := (⟨a1, a2⟩ : S57)) (k57_mkM _ _ _ (⟨a1, a2⟩ : S57) ) (fun _ hk => hk); have hx14_0 := hcc14 0 _ rfl; (try simp only [show (k57).sz = 2 from rfl, Nat.mul_one, Nat.add_zero] at hx14_0); have hf14_0 := hfr14 0; (try simp only [show (k57).sz = 2 from rfl, Nat.mul_one, Nat.add_zero] at hf14_0); have hx14_1 := hcc14 1 _ rfl; (try simp only [show (k57).sz = 2 from rfl, Nat.mul_one, Nat.add_zero] at hx14_1); have hf14_1 := hfr14 1; (try simp only [show (k57).sz = 2 from rfl, Nat.mul_one, Nat.add_zero] at hf14_1); clear hcl14 hcc14 hfr14 hM14) | ((with_reducible refine gate_store (t := 57) (p := 34) rfl ?_); refine store_event (t := 57) (p := 34) (v := ?vo_w15) (w1 := ((wq_.setCell ⟨go12, (t189 : Int).toNat * 2, none⟩ (.string a1)).setCell ⟨go12, (t189 : Int).toNat * 2 + 1, none⟩ (.int .i64 a2))) ?hg ?ho ?hn ?hr ?_; (case ho => rfl); (case hg => rfl); (case hn => rfl); (case hr => first | (go_simp; done) | (go_simp; rfl)); intro w15 hw; have hg : wq_.grownBy w15 (some go12) := (by rw [hw]; exact HP14.2); have hp_ : Kd.R k57 57 w15 w0.heap.size (fun k_ => (P0_ k_ ∨ w.heap.size ≤ k_)) (.slice (some ⟨go12, 0, none⟩) l0.length co13) y192 := (by rw [hw, Ny192.out]; exact HP14.1); clear HP14; have n0_ := am (hp_); have n1_ := am ((by rw [hw]; exact below_set (below_set (HB.out) GB12.out) GB12.out : Below w0.heap.size w0 w15)); have n2_ := am (Kept.of_grown (S := (fun k_ => P0_ k_)) hg (by repeat (first | (with_reducible first | exact HK.out | apply Kept.alloc | apply Kept.drewN | apply Kept.drew) | exact HK.out)) (fun k_ e_ => (HO0.out.1 k_ e_))); clear HO0; clear HB; clear HK; have HO0 := n0_; have HB := n1_; have HK := n2_; clear n0_ n1_ n2_; clear hg hw hp_))
      go_ret
      exact ⟨xV, xR HO0.out, xW HB.out, by repeat (first | (with_reducible first | exact HK.out | apply Kept.alloc | apply Kept.drewN | apply Kept.drew) | exact HK.out)⟩
    ·rw [if_neg c9] at H
     exact absurd H (by simp)
   ·rw [if_neg c8] at H
    exact absurd H (by simp)
  ·rw [if_neg c7] at H
   have c7b0 : decide (t190 ≤ 1) = false := decide_eq_false c7
   clear c7
   by_cases c16 : 0 ≤ t189
   ·rw [if_pos c16] at H
    have c16b0 : decide (0 ≤ t189) = true := decide_eq_true c16
    clear c16
    by_cases c17 : t189 < (l0.length : Int)
    ·rw [if_pos c17] at H
     have c17b0 : decide (t189 < (l0.length : Int)) = true := decide_eq_true c17
     clear c17
     obtain ⟨y193, hy193⟩ : ∃ y_ : List (S57), y_ = (l0.set (t189 : Int).toNat (⟨a1, a2⟩ : S57)) := ⟨_, rfl⟩
     replace H : (some (true, y193)) = some (r1, r2) := by first | (rw [hy193]; with_reducible exact H) | (have H2_ := (Option.bind_some _ _).symm.trans H; rw [hy193]; with_reducible exact H2_) | (have H2_ := (Option.bind_some _ _).symm.trans H; with_reducible exact H2_) | with_reducible exact H | (rw [hy193]; exact H) | exact H
     have Ny193 := am hy193
     clear hy193
     simp only [Option.some.injEq, Prod.mk.injEq] at H
     obtain ⟨rfl, rfl⟩ := H
     obtain ⟨Ao19, co19, eo19⟩ := Kd.R_slice HO0.out
     subst eo19
     go_enter Try.func73, Try.ntmps73
     go_wp2_with (first | ((with_reducible refine gate_callee (f := 89) rfl ?_); refine xG (some 12) 89 Try.func89 #[.slice Ao19 l0.length co19, .string a1] (h := ?_); (with_reducible refine (spec_l04Free.calls k _ _ l0 a1 t189 t190 _ ?side1 ?side2 A4.out).mono ?_); (case side1 => exact xC ((Kd.R_reads' HO0.out).2.2)); (case side2 => exact (Kd.R_reads' HO0.out).2.1); rintro e w' ⟨rfl, ⟨nd, rfl⟩⟩; refine ⟨_, rfl, ?_⟩; (try (rw [drewN_self w]; generalize hq_ : World.drewN w _ = wq_; have n0_ : Aside0 (Kd.R k57 57 wq_ w0.heap.size (fun k_ => (P0_ k_ ∨ w.heap.size ≤ k_)) (.slice Ao19 l0.length co19) l0) := ⟨by rw [← hq_]; exact (xR HO0.out)⟩; have n1_ : Aside0 (Kept w wq_ (fun k_ => P0_ k_)) := ⟨by rw [← hq_]; exact (by repeat (first | (with_reducible first | exact HK.out | apply Kept.alloc | apply Kept.drewN | apply Kept.drew) | exact HK.out))⟩; have n2_ : Aside0 (Below w0.heap.size w0 wq_) := ⟨by rw [← hq_]; exact (xW HB.out)⟩; clear HO0 HK HB hq_; have HO0 := n0_; have HK := n1_; have HB := n2_; clear n0_ n1_ n2_)); have p18 : 0 ≤ (t189 : Int) := of_decide_eq_true (by assumption); have q18 : (t189 : Int) < ((l0.length : Int) : Int) := of_decide_eq_true (by assumption); obtain ⟨go18, co18, eo18, gb18, gl18, cl18, HG18⟩ := Kd.R_form HO0.out (by omega); (first | cases eo18 | (injection eo18 with ea_ en_ ec_; (first | subst ea_ | (injection ea_ with ea_; subst ea_)); subst ec_; clear en_)); have GB18 := am gb18; have GG18 := am HG18; clear gb18 gl18 HG18; have HMgo18 := am (show (P0_ go18 ∨ w.heap.size ≤ go18) from (HO0.out.1 _ rfl)); obtain ⟨ce18, hcl18, hM18, hcc18, hfr18⟩ := Kd.R_elem HO0.out z57 (t189 : Int) p18 q18; obtain rfl := k57_openM hM18; have hx18_0 : wq_.cell? ⟨go18, (t189 : Int).toNat * 2, none⟩ = some (.string ((rd_T57 l0 t189).f0)) := hcc18 0 _ rfl; have hx18_1 : wq_.cell? ⟨go18, (t189 : Int).toNat * 2 + 1, none⟩ = some (.int .i64 ((rd_T57 l0 t189).f1)) := hcc18 1 _ rfl; have hf18_0 : wq_.frozen? ⟨go18, (t189 : Int).toNat * 2, none⟩ = false := hfr18 0; have hf18_1 : wq_.frozen? ⟨go18, (t189 : Int).toNat * 2 + 1, none⟩ = false := hfr18 1; clear hcl18 hcc18 hfr18 hM18; replace p18 := eq_true p18; replace q18 := eq_true q18; have HX20 := am (show Kd.R k57 57 wq_ w0.heap.size (fun k_ => (P0_ k_ ∨ w.heap.size ≤ k_)) (.slice (some ⟨go18, 0, none⟩) l0.length co19) l0 from (xR HO0.out)); obtain ⟨ce20, hcl20, hM20, hcc20, hfr20⟩ := Kd.R_elem HX20.out z57 (t189 : Int) (of_decide_eq_true (by assumption)) (by have h_ : (t189 : Int) < ((l0.length : Int) : Int) := of_decide_eq_true (by assumption); first | exact h_ | (have e_ := (Kd.R_reads' HO0.out).1; omega) | simpa using h_); obtain rfl := k57_openM hM20; have HP20 := Kd.R_seg HX20.out (t189 : Int) (of_decide_eq_true (by assumption)) (by have h_ : (t189 : Int) < ((l0.length : Int) : Int) := of_decide_eq_true (by assumption); first | exact h_ | (have e_ := (Kd.R_reads' HO0.out).1; omega) | simpa using h_) (seg := [.string a1, .int .i64 a2]) (j := 0) hcl20 hcc20 (show 2 ≤ 2 from by decide) (x' := (⟨a1, a2⟩ : S57)) (k57_mkM _ _ _ (⟨a1, a2⟩ : S57) ) (fun _ hk => hk); have hx20_0 := hcc20 0 _ rfl; (try simp only [show (k57).sz = 2 from rfl, Nat.mul_one, Nat.add_zero] at hx20_0); have hf20_0 := hfr20 0; (try simp only [show (k57).sz = 2 from rfl, Nat.mul_one, Nat.add_zero] at hf20_0); have hx20_1 := hcc20 1 _ rfl; (try simp only [show (k57).sz = 2 from rfl, Nat.mul_one, Nat.add_zero] at hx20_1); have hf20_1 := hfr20 1; (try simp only [show (k57).sz = 2 from rfl, Nat.mul_one, Nat.add_zero] at hf20_1); clear hcl20 hcc20 hfr20 hM20) | ((with_reducible refine gate_store (t := 57) (p := 34) rfl ?_); refine store_event (t := 57) (p := 34) (v := ?vo_w21) (w1 := ((wq_.setCell ⟨go18, (t189 : Int).toNat * 2, none⟩ (.string a1)).setCell ⟨go18, (t189 : Int).toNat * 2 + 1, none⟩ (.int .i64 a2))) ?hg ?ho ?hn ?hr ?_; (case ho => rfl); (case hg => rfl); (case hn => rfl); (case hr => first | (go_simp; done) | (go_simp; rfl)); intro w21 hw; have hg : wq_.grownBy w21 (some go18) := (by rw [hw]; exact HP20.2); have hp_ : Kd.R k57 57 w21 w0.heap.size (fun k_ => (P0_ k_ ∨ w.heap.size ≤ k_)) (.slice (some ⟨go18, 0, none⟩) l0.length co19) y193 := (by rw [hw, Ny193.out]; exact HP20.1); clear HP20; have n0_ := am (hp_); have n1_ := am ((by rw [hw]; exact below_set (below_set (HB.out) GB18.out) GB18.out : Below w0.heap.size w0 w21)); have n2_ := am (Kept.of_grown (S := (fun k_ => P0_ k_)) hg (by repeat (first | (with_reducible first | exact HK.out | apply Kept.alloc | apply Kept.drewN | apply Kept.drew) | exact HK.out)) (fun k_ e_ => (HO0.out.1 k_ e_))); clear HO0; clear HB; clear HK; have HO0 := n0_; have HB := n1_; have HK := n2_; clear n0_ n1_ n2_; clear hg hw hp_))
     go_ret
     exact ⟨xV, xR HO0.out, xW HB.out, by repeat (first | (with_reducible first | exact HK.out | apply Kept.alloc | apply Kept.drewN | apply Kept.drew) | exact HK.out)⟩
    ·rw [if_neg c17] at H
     exact absurd H (by simp)
   ·rw [if_neg c16] at H
    exact absurd H (by simp)
end Go.Proofs.Ytmahoekbedgbcaa.HFnExactPutKey
