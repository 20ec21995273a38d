/- What the row of the law needs of the printed and the plain texts. -/
import Derived.Test.YtomcapflpephmaaZgHX
import Derived.Test.YtomcapflpephmaaZgHFnExactLiftx0
import Derived.Test.YtomcapflpephmaaZgHFnExactLiftx6
namespace Go.Proofs.Ytomcapflpephmaa.HFnExactLift
open Go.RowKit Go.Proofs.YtomcapflpephmaaW.PrintWords Go.Proofs.YtomcapflpephmaaW.PrintLast Go.Proofs.YtomcapflpephmaaW.PrintMore
attribute [local go_sem] max2_int min2_int max_two min_two max_three min_three max_four min_four
set_option linter.unusedVariables false
set_option linter.unusedSimpArgs false
def laws_heldSlotS.l0 : Nat → List (S50) → Int → Int → Option (Int)
 | 0, _, _, _ => none
 | k + 1, x0, x1, x5 => if x5 < (x0.length : Int) then (if 0 ≤ x5 then (if ((rd_T50 x0 x5).f0) = x1 then (if (((rd_T50 x0 x5).f1) != ((Int.tmod (wrap64 (x1 + 1)) 3) == 0)) = true then (some (-1)) else ((laws_markText.f k (wrap64 ((wrap64 (x1 + 1)) + 1))).bind fun t235 => (if ((rd_T50 x0 x5).f2).toList = t235.toList then ((laws_markText.f k (wrap64 ((wrap64 ((wrap64 (x1 + 1)) + 1)) + 1))).bind fun t237 => (if ((rd_T50 x0 x5).f3).toList = t237.toList then (if ((rd_T50 x0 x5).f4) = (wrap64 ((wrap64 ((wrap64 ((wrap64 (x1 + 1)) + 1)) + 1)) + 1)) then (laws_heldSlotS.l0 k x0 (wrap64 ((wrap64 ((wrap64 ((wrap64 ((wrap64 (x1 + 1)) + 1)) + 1)) + 1)) + 1)) (wrap64 (x5 + 1))) else (some (-1))) else (some (-1)))) else (some (-1))))) else (some (-1))) else (none)) else (some x1)
def laws_heldSlotS.f (k : Nat) (l0 : List (S50)) (a1 : Int) : Option (Int) := laws_heldSlotS.l0 k l0 a1 0
def laws_heldSlotS.T10 : Bool × List (List Nat × List Nat) := (true, [([], []), ([], []), ([0, 1], [0, 1]), ([2], [2]), ([3], [3]), ([], []), ([5], [5]), ([4, 6], [4, 6])])
def laws_heldSlotS.B10 : List Nat := [0, 0, 3, 7, 15, 0, 32, 127]
theorem laws_heldSlotS.tab10 : rtab .any (opsOf Try.f52 10) = laws_heldSlotS.T10 := by kernel_rfl
theorem laws_heldSlotS.bits10 : waitsOk laws_heldSlotS.T10.2 laws_heldSlotS.B10 = true := by kernel_rfl
def laws_heldSlotS.T13 : Bool × List (List Nat × List Nat) := (true, [([], []), ([], []), ([0, 1], [0, 1]), ([2], [2]), ([3], [3]), ([], []), ([5], [5]), ([4, 6], [4, 6])])
def laws_heldSlotS.B13 : List Nat := [0, 0, 3, 7, 15, 0, 32, 127]
theorem laws_heldSlotS.tab13 : rtab .any (opsOf Try.f52 13) = laws_heldSlotS.T13 := by kernel_rfl
theorem laws_heldSlotS.bits13 : waitsOk laws_heldSlotS.T13.2 laws_heldSlotS.B13 = true := by kernel_rfl
set_option maxHeartbeats 8000000 in
set_option maxRecDepth 100000 in
theorem laws_heldSlotS.calls (k : Nat) (A0 : Option Addr) (c0 : Nat) (l0 : List (S50)) (a1 : Int) (r : Int) (w : World) (hr0 : Kd.C k50 w A0 l0.length l0) (hc0 : l0.length ≤ c0) (h : laws_heldSlotS.f k l0 a1 = some r) :
  Calls Try.prog 52 #[.slice A0 l0.length c0, .int .i64 a1] w fun e w' => e = .returned (.int .i64 r) ∧ Below w.heap.size w w' := by
 have HR0 := am hr0
 have HC0 := am hc0
 clear hr0 hc0
 have HB := am (Below.refl w.heap.size w)
 have H : (laws_heldSlotS.l0 k l0 a1 0) = some r := h
 clear h
 have H' := am H
 clear H
 go_enter Try.func52, Try.ntmps52
 go_wp2
 go_loopg [1, 5] k (fun kq v1 v5 w' => ∃ (x1_1 : Int) (x5_1 : Int), v1 = .int .i64 x1_1 ∧ v5 = .int .i64 x5_1 ∧ Aside0 (laws_heldSlotS.l0 kq l0 x1_1 x5_1 = some r) ∧ Aside0 (kq ≤ k) ∧ Aside0 (Below w.heap.size w w'))
 case atStart => exact ⟨(a1), (0), (by first | rfl | (simp; done) | (simp [*]; done)), (xQ), H', ⟨Nat.le_refl _⟩, ⟨xW HB.out⟩⟩
 case round =>
  clear H'
  try clear p2
  obtain ⟨x1_1, x5_1, rfl, rfl, HA, HK1, HB⟩ := hrel
  cases gk with
  | zero => exact absurd HA.out (by simp [laws_heldSlotS.l0])
  | succ k1 =>
   have H := HA.out
   clear HA
   simp only [laws_heldSlotS.l0] at H
   by_cases c3 : x5_1 < (l0.length : Int)
   ·rw [if_pos c3] at H
    have c3b0 : decide (x5_1 < (l0.length : Int)) = true := decide_eq_true c3
    clear c3
    by_cases c4 : 0 ≤ x5_1
    ·rw [if_pos c4] at H
     have c4b0 : decide (0 ≤ x5_1) = true := decide_eq_true c4
     clear c4
     by_cases c5 : ((rd_T50 l0 x5_1).f0) = x1_1
     ·rw [if_pos c5] at H
      have c5b0 : (((rd_T50 l0 x5_1).f0) == x1_1) = true := beq_iff_eq.mpr c5
      have c5b1 : (((rd_T50 l0 x5_1).f0) != x1_1) = false := bne_eq_false_iff_eq.mpr c5
      clear c5
      by_cases c6 : (((rd_T50 l0 x5_1).f1) != ((Int.tmod (wrap64 (x1_1 + 1)) 3) == 0)) = true
      ·rw [if_pos c6] at H
       have c6b0 : (((rd_T50 l0 x5_1).f1) != ((Int.tmod (wrap64 (x1_1 + 1)) 3) == 0)) = true := c6
       (try (have c6b1 : decide (((rd_T50 l0 x5_1).f1) = ((Int.tmod (wrap64 (x1_1 + 1)) 3) == 0)) = false := by simpa using c6))
       (try (have c6b2 : (((rd_T50 l0 x5_1).f1) == ((Int.tmod (wrap64 (x1_1 + 1)) 3) == 0)) = false := by simpa using c6))
       (try (have c6b3 : ¬ (((rd_T50 l0 x5_1).f1) = ((Int.tmod (wrap64 (x1_1 + 1)) 3) == 0)) := by simpa using c6))
       clear c6
       obtain rfl := Option.some.inj H
       have p232 : 0 ≤ (x5_1 : Int) := of_decide_eq_true (by assumption)
       have q232 : x5_1 < (l0.length : Int) := of_decide_eq_true (by assumption)
       obtain ⟨ad232, e232, hx232_0, hx232_1, hx232_2, hx232_3, hx232_4⟩ := at_T50 HR0.out x5_1 p232 q232
       cases e232
       replace hx232_0 := (HB.out.cell (World.block_lt_of_cell? w _ hx232_0)).trans hx232_0
       replace hx232_1 := (HB.out.cell (World.block_lt_of_cell? w _ hx232_1)).trans hx232_1
       replace hx232_2 := (HB.out.cell (World.block_lt_of_cell? w _ hx232_2)).trans hx232_2
       replace hx232_3 := (HB.out.cell (World.block_lt_of_cell? w _ hx232_3)).trans hx232_3
       replace hx232_4 := (HB.out.cell (World.block_lt_of_cell? w _ hx232_4)).trans hx232_4
       replace p232 := eq_true p232
       replace q232 := eq_true q232
       have p233 : 0 ≤ (x5_1 : Int) := of_decide_eq_true (by assumption)
       have q233 : x5_1 < (l0.length : Int) := of_decide_eq_true (by assumption)
       obtain ⟨ad233, e233, hx233_0, hx233_1, hx233_2, hx233_3, hx233_4⟩ := at_T50 HR0.out x5_1 p233 q233
       obtain rfl : ad232 = ad233 := (by injection e233)
       replace hx233_0 := (HB.out.cell (World.block_lt_of_cell? w _ hx233_0)).trans hx233_0
       replace hx233_1 := (HB.out.cell (World.block_lt_of_cell? w _ hx233_1)).trans hx233_1
       replace hx233_2 := (HB.out.cell (World.block_lt_of_cell? w _ hx233_2)).trans hx233_2
       replace hx233_3 := (HB.out.cell (World.block_lt_of_cell? w _ hx233_3)).trans hx233_3
       replace hx233_4 := (HB.out.cell (World.block_lt_of_cell? w _ hx233_4)).trans hx233_4
       replace p233 := eq_true p233
       replace q233 := eq_true q233
       go_wp2
       go_ret
       exact ⟨xV, xW HB.out⟩
      ·rw [if_neg c6] at H
       have c6b0 : (((rd_T50 l0 x5_1).f1) != ((Int.tmod (wrap64 (x1_1 + 1)) 3) == 0)) = false := by simpa using c6
       (try (have c6b1 : decide (((rd_T50 l0 x5_1).f1) = ((Int.tmod (wrap64 (x1_1 + 1)) 3) == 0)) = true := by simpa using c6))
       (try (have c6b2 : (((rd_T50 l0 x5_1).f1) == ((Int.tmod (wrap64 (x1_1 + 1)) 3) == 0)) = true := by simpa using c6))
       clear c6
       replace H := Option.bind_eq_some_iff.mp H
       obtain ⟨t235, A70, H⟩ := H
       try dsimp only at H
       have A7 := am A70
       clear A70
       by_cases c8 : ((rd_T50 l0 x5_1).f2).toList = t235.toList
       ·rw [if_pos c8] at H
        have c8b0 : (((rd_T50 l0 x5_1).f2).toList == t235.toList) = true := beq_iff_eq.mpr c8
        have c8b1 : (((rd_T50 l0 x5_1).f2).toList != t235.toList) = false := bne_eq_false_iff_eq.mpr c8
        clear c8
        replace H := Option.bind_eq_some_iff.mp H
        obtain ⟨t237, A90, H⟩ := H
        try dsimp only at H
        have A9 := am A90
        clear A90
        by_cases c10 : ((rd_T50 l0 x5_1).f3).toList = t237.toList
        ·rw [if_pos c10] at H
         have c10b0 : (((rd_T50 l0 x5_1).f3).toList == t237.toList) = true := beq_iff_eq.mpr c10
         have c10b1 : (((rd_T50 l0 x5_1).f3).toList != t237.toList) = false := bne_eq_false_iff_eq.mpr c10
         clear c10
         by_cases c11 : ((rd_T50 l0 x5_1).f4) = (wrap64 ((wrap64 ((wrap64 ((wrap64 (x1_1 + 1)) + 1)) + 1)) + 1))
         ·rw [if_pos c11] at H
          have c11b0 : (((rd_T50 l0 x5_1).f4) == (wrap64 ((wrap64 ((wrap64 ((wrap64 (x1_1 + 1)) + 1)) + 1)) + 1))) = true := beq_iff_eq.mpr c11
          have c11b1 : (((rd_T50 l0 x5_1).f4) != (wrap64 ((wrap64 ((wrap64 ((wrap64 (x1_1 + 1)) + 1)) + 1)) + 1))) = false := bne_eq_false_iff_eq.mpr c11
          clear c11
          have H' := am H
          clear H
          have p232 : 0 ≤ (x5_1 : Int) := of_decide_eq_true (by assumption)
          have q232 : x5_1 < (l0.length : Int) := of_decide_eq_true (by assumption)
          obtain ⟨ad232, e232, hx232_0, hx232_1, hx232_2, hx232_3, hx232_4⟩ := at_T50 HR0.out x5_1 p232 q232
          cases e232
          replace hx232_0 := (HB.out.cell (World.block_lt_of_cell? w _ hx232_0)).trans hx232_0
          replace hx232_1 := (HB.out.cell (World.block_lt_of_cell? w _ hx232_1)).trans hx232_1
          replace hx232_2 := (HB.out.cell (World.block_lt_of_cell? w _ hx232_2)).trans hx232_2
          replace hx232_3 := (HB.out.cell (World.block_lt_of_cell? w _ hx232_3)).trans hx232_3
          replace hx232_4 := (HB.out.cell (World.block_lt_of_cell? w _ hx232_4)).trans hx232_4
          replace p232 := eq_true p232
          replace q232 := eq_true q232
          have p233 : 0 ≤ (x5_1 : Int) := of_decide_eq_true (by assumption)
          have q233 : x5_1 < (l0.length : Int) := of_decide_eq_true (by assumption)
          obtain ⟨ad233, e233, hx233_0, hx233_1, hx233_2, hx233_3, hx233_4⟩ := at_T50 HR0.out x5_1 p233 q233
          obtain rfl : ad232 = ad233 := (by injection e233)
          replace hx233_0 := (HB.out.cell (World.block_lt_of_cell? w _ hx233_0)).trans hx233_0
          replace hx233_1 := (HB.out.cell (World.block_lt_of_cell? w _ hx233_1)).trans hx233_1
          replace hx233_2 := (HB.out.cell (World.block_lt_of_cell? w _ hx233_2)).trans hx233_2
          replace hx233_3 := (HB.out.cell (World.block_lt_of_cell? w _ hx233_3)).trans hx233_3
          replace hx233_4 := (HB.out.cell (World.block_lt_of_cell? w _ hx233_4)).trans hx233_4
          replace p233 := eq_true p233
          replace q233 := eq_true q233
          try go_wp2
          replace HB := am (below_drew1 HB.out)
          have p234 : 0 ≤ (x5_1 : Int) := of_decide_eq_true (by assumption)
          have q234 : x5_1 < (l0.length : Int) := of_decide_eq_true (by assumption)
          obtain ⟨ad234, e234, hx234_0, hx234_1, hx234_2, hx234_3, hx234_4⟩ := at_T50 HR0.out x5_1 p234 q234
          have hw234_4 := hx234_4
          have hw234_3 := hx234_3
          have hw234_2 := hx234_2
          have hw234_1 := hx234_1
          have hw234_0 := hx234_0
          obtain rfl : ad232 = ad234 := (by injection e234)
          replace hx234_0 := (HB.out.cell (World.block_lt_of_cell? w _ hx234_0)).trans hx234_0
          replace hx234_1 := (HB.out.cell (World.block_lt_of_cell? w _ hx234_1)).trans hx234_1
          replace hx234_2 := (HB.out.cell (World.block_lt_of_cell? w _ hx234_2)).trans hx234_2
          replace hx234_3 := (HB.out.cell (World.block_lt_of_cell? w _ hx234_3)).trans hx234_3
          replace hx234_4 := (HB.out.cell (World.block_lt_of_cell? w _ hx234_4)).trans hx234_4
          replace p234 := eq_true p234
          replace q234 := eq_true q234
          refine start_ (n := 8) (S := fun w' => w'.cell? (ad232.add ((x5_1).toNat * 5)) = some (.int .i64 ((rd_T50 l0 x5_1).f0)) ∧ w'.cell? ⟨(ad232.add ((x5_1).toNat * 5)).block, (ad232.add ((x5_1).toNat * 5)).off + 1, none⟩ = some (.bool ((rd_T50 l0 x5_1).f1)) ∧ w'.cell? ⟨(ad232.add ((x5_1).toNat * 5)).block, (ad232.add ((x5_1).toNat * 5)).off + 2, none⟩ = some (.string ((rd_T50 l0 x5_1).f2)) ∧ w'.cell? ⟨(ad232.add ((x5_1).toNat * 5)).block, (ad232.add ((x5_1).toNat * 5)).off + 3, none⟩ = some (.string ((rd_T50 l0 x5_1).f3)) ∧ w'.cell? ⟨(ad232.add ((x5_1).toNat * 5)).block, (ad232.add ((x5_1).toNat * 5)).off + 4, none⟩ = some (.int .i64 ((rd_T50 l0 x5_1).f4))) (ds := []) #[false, false, false, false, false, false, false, false] (by kernel_rfl) rfl rfl ⟨((HB.out.cell (World.block_lt_of_cell? w _ hw234_0)).trans hw234_0), ((HB.out.cell (World.block_lt_of_cell? w _ hw234_1)).trans hw234_1), ((HB.out.cell (World.block_lt_of_cell? w _ hw234_2)).trans hw234_2), ((HB.out.cell (World.block_lt_of_cell? w _ hw234_3)).trans hw234_3), ((HB.out.cell (World.block_lt_of_cell? w _ hw234_4)).trans hw234_4)⟩ (fun hHeld => ?_); refine with_tabW laws_heldSlotS.tab10 laws_heldSlotS.bits10 (fun HT_ HW_ => ?_)
          generalize wr.drew = w12 at HB hx234_0 hx234_1 hx234_2 hx234_3 hx234_4 hHeld ⊢
          refine xP1 (i := 0) (N := some 32) #[true, false, false, false, false, false, false, false] (any_of HT_.out (by kernel_rfl)) (h := ?_)
          refine xP1 (i := 1) (N := some 33) #[true, true, false, false, false, false, false, false] (any_of HT_.out (by kernel_rfl)) (h := ?_)
          refine xP1 (i := 2) (N := some 34) #[true, true, true, false, false, false, false, false] (any_of HT_.out (by kernel_rfl)) (h := ?_)
          refine xP1 (i := 3) (N := some 35) #[true, true, true, true, false, false, false, false] (any_of HT_.out (by kernel_rfl)) (h := ?_)
          refine xP1 (i := 5) (N := some 37) #[true, true, true, true, false, true, false, false] (any_of HT_.out (by kernel_rfl)) (h := ?_)
          refine take_ (i := 4) (N := some 36) (v := ?_) (a' := ?_) #[true, true, true, true, true, true, false, false] rfl rfl (take_ofW HT_.out HW_.out (by kernel_rfl)) (fun _ _ _ h => h) (Or.inl ⟨by rfl, ?_⟩) hHeld ?_ ?_
          rotate_left
          ·rintro w' ⟨s0, s1, s2, s3, s4⟩
           go_simp
           with_reducible rfl
          rotate_left
          ·simp only [Act.put, List.setIfInBounds_toArray, List.set_cons_zero, List.set_cons_succ, i64_w, i32_w]
           rfl
          refine one_ (i := 6) (N := some 38) #[true, true, true, true, true, true, true, false] rfl rfl (one_of HT_.out (by kernel_rfl)) (by decide) (fun K hK => ?_)
          refine xG1 72 Try.func72 #[.int .i64 (wrap64 ((wrap64 (x1_1 + 1)) + 1))] (h := ?_)
          with_reducible refine (laws_markText.calls k1 (wrap64 ((wrap64 (x1_1 + 1)) + 1)) t235 _ A7.out).mono ?_
          rintro e w13 ⟨rfl, hb⟩
          refine ⟨_, rfl, ?_⟩
          replace HB := am (below_step (xW HB.out) hb)
          (try clear hb)
          refine hK.out _ _ ⟨((HB.out.cell (World.block_lt_of_cell? w _ hw234_0)).trans hw234_0), ((HB.out.cell (World.block_lt_of_cell? w _ hw234_1)).trans hw234_1), ((HB.out.cell (World.block_lt_of_cell? w _ hw234_2)).trans hw234_2), ((HB.out.cell (World.block_lt_of_cell? w _ hw234_3)).trans hw234_3), ((HB.out.cell (World.block_lt_of_cell? w _ hw234_4)).trans hw234_4)⟩ (fun hHeld => ?_)
          clear hK K
          refine xN1 (h := ?_)
          refine xP1 (i := 7) (N := some 39) #[true, true, true, true, true, true, true, true] (any_of HT_.out (by kernel_rfl)) (h := ?_)
          refine done_ (done_of HT_.out (by kernel_rfl)) ?_
          try go_wp2
          replace HB := am (below_drew1 HB.out)
          have p236 : 0 ≤ (x5_1 : Int) := of_decide_eq_true (by assumption)
          have q236 : x5_1 < (l0.length : Int) := of_decide_eq_true (by assumption)
          obtain ⟨ad236, e236, hx236_0, hx236_1, hx236_2, hx236_3, hx236_4⟩ := at_T50 HR0.out x5_1 p236 q236
          have hw236_4 := hx236_4
          have hw236_3 := hx236_3
          have hw236_2 := hx236_2
          have hw236_1 := hx236_1
          have hw236_0 := hx236_0
          obtain rfl : ad232 = ad236 := (by injection e236)
          replace hx236_0 := (HB.out.cell (World.block_lt_of_cell? w _ hx236_0)).trans hx236_0
          replace hx236_1 := (HB.out.cell (World.block_lt_of_cell? w _ hx236_1)).trans hx236_1
          replace hx236_2 := (HB.out.cell (World.block_lt_of_cell? w _ hx236_2)).trans hx236_2
          replace hx236_3 := (HB.out.cell (World.block_lt_of_cell? w _ hx236_3)).trans hx236_3
          replace hx236_4 := (HB.out.cell (World.block_lt_of_cell? w _ hx236_4)).trans hx236_4
          replace p236 := eq_true p236
          replace q236 := eq_true q236
          refine start_ (n := 8) (S := fun w' => w'.cell? (ad232.add ((x5_1).toNat * 5)) = some (.int .i64 ((rd_T50 l0 x5_1).f0)) ∧ w'.cell? ⟨(ad232.add ((x5_1).toNat * 5)).block, (ad232.add ((x5_1).toNat * 5)).off + 1, none⟩ = some (.bool ((rd_T50 l0 x5_1).f1)) ∧ w'.cell? ⟨(ad232.add ((x5_1).toNat * 5)).block, (ad232.add ((x5_1).toNat * 5)).off + 2, none⟩ = some (.string ((rd_T50 l0 x5_1).f2)) ∧ w'.cell? ⟨(ad232.add ((x5_1).toNat * 5)).block, (ad232.add ((x5_1).toNat * 5)).off + 3, none⟩ = some (.string ((rd_T50 l0 x5_1).f3)) ∧ w'.cell? ⟨(ad232.add ((x5_1).toNat * 5)).block, (ad232.add ((x5_1).toNat * 5)).off + 4, none⟩ = some (.int .i64 ((rd_T50 l0 x5_1).f4))) (ds := []) #[false, false, false, false, false, false, false, false] (by kernel_rfl) rfl rfl ⟨((HB.out.cell (World.block_lt_of_cell? w _ hw236_0)).trans hw236_0), ((HB.out.cell (World.block_lt_of_cell? w _ hw236_1)).trans hw236_1), ((HB.out.cell (World.block_lt_of_cell? w _ hw236_2)).trans hw236_2), ((HB.out.cell (World.block_lt_of_cell? w _ hw236_3)).trans hw236_3), ((HB.out.cell (World.block_lt_of_cell? w _ hw236_4)).trans hw236_4)⟩ (fun hHeld => ?_); refine with_tabW laws_heldSlotS.tab13 laws_heldSlotS.bits13 (fun HT_ HW_ => ?_)
          generalize w13.drew = w14 at HB hx236_0 hx236_1 hx236_2 hx236_3 hx236_4 hHeld ⊢
          refine xP1 (i := 0) (N := some 42) #[true, false, false, false, false, false, false, false] (any_of HT_.out (by kernel_rfl)) (h := ?_)
          refine xP1 (i := 1) (N := some 43) #[true, true, false, false, false, false, false, false] (any_of HT_.out (by kernel_rfl)) (h := ?_)
          refine xP1 (i := 2) (N := some 44) #[true, true, true, false, false, false, false, false] (any_of HT_.out (by kernel_rfl)) (h := ?_)
          refine xP1 (i := 3) (N := some 45) #[true, true, true, true, false, false, false, false] (any_of HT_.out (by kernel_rfl)) (h := ?_)
          refine xP1 (i := 5) (N := some 47) #[true, true, true, true, false, true, false, false] (any_of HT_.out (by kernel_rfl)) (h := ?_)
          refine take_ (i := 4) (N := some 46) (v := ?_) (a' := ?_) #[true, true, true, true, true, true, false, false] rfl rfl (take_ofW HT_.out HW_.out (by kernel_rfl)) (fun _ _ _ h => h) (Or.inl ⟨by rfl, ?_⟩) hHeld ?_ ?_
          rotate_left
          ·rintro w' ⟨s0, s1, s2, s3, s4⟩
           go_simp
           with_reducible rfl
          rotate_left
          ·simp only [Act.put, List.setIfInBounds_toArray, List.set_cons_zero, List.set_cons_succ, i64_w, i32_w]
           rfl
          refine one_ (i := 6) (N := some 48) #[true, true, true, true, true, true, true, false] rfl rfl (one_of HT_.out (by kernel_rfl)) (by decide) (fun K hK => ?_)
          refine xG1 72 Try.func72 #[.int .i64 (wrap64 ((wrap64 ((wrap64 (x1_1 + 1)) + 1)) + 1))] (h := ?_)
          with_reducible refine (laws_markText.calls k1 (wrap64 ((wrap64 ((wrap64 (x1_1 + 1)) + 1)) + 1)) t237 _ A9.out).mono ?_
          rintro e w15 ⟨rfl, hb⟩
          refine ⟨_, rfl, ?_⟩
          replace HB := am (below_step (xW HB.out) hb)
          (try clear hb)
          refine hK.out _ _ ⟨((HB.out.cell (World.block_lt_of_cell? w _ hw236_0)).trans hw236_0), ((HB.out.cell (World.block_lt_of_cell? w _ hw236_1)).trans hw236_1), ((HB.out.cell (World.block_lt_of_cell? w _ hw236_2)).trans hw236_2), ((HB.out.cell (World.block_lt_of_cell? w _ hw236_3)).trans hw236_3), ((HB.out.cell (World.block_lt_of_cell? w _ hw236_4)).trans hw236_4)⟩ (fun hHeld => ?_)
          clear hK K
          refine xN1 (h := ?_)
          refine xP1 (i := 7) (N := some 49) #[true, true, true, true, true, true, true, true] (any_of HT_.out (by kernel_rfl)) (h := ?_)
          refine done_ (done_of HT_.out (by kernel_rfl)) ?_
          have p238 : 0 ≤ (x5_1 : Int) := of_decide_eq_true (by assumption)
          have q238 : x5_1 < (l0.length : Int) := of_decide_eq_true (by assumption)
          obtain ⟨ad238, e238, hx238_0, hx238_1, hx238_2, hx238_3, hx238_4⟩ := at_T50 HR0.out x5_1 p238 q238
          obtain rfl : ad232 = ad238 := (by injection e238)
          replace hx238_0 := (HB.out.cell (World.block_lt_of_cell? w _ hx238_0)).trans hx238_0
          replace hx238_1 := (HB.out.cell (World.block_lt_of_cell? w _ hx238_1)).trans hx238_1
          replace hx238_2 := (HB.out.cell (World.block_lt_of_cell? w _ hx238_2)).trans hx238_2
          replace hx238_3 := (HB.out.cell (World.block_lt_of_cell? w _ hx238_3)).trans hx238_3
          replace hx238_4 := (HB.out.cell (World.block_lt_of_cell? w _ hx238_4)).trans hx238_4
          replace p238 := eq_true p238
          replace q238 := eq_true q238
          try go_wp2
          go_roundg k1
          case measure => have := HK1.out; omega
          case rel => exact ⟨(wrap64 ((wrap64 ((wrap64 ((wrap64 ((wrap64 (x1_1 + 1)) + 1)) + 1)) + 1)) + 1)), (wrap64 (x5_1 + 1)), (by first | rfl | (simp; done) | (simp [*]; done)), (xQ), H', ⟨by have := HK1.out; omega⟩, ⟨xW HB.out⟩⟩
         ·rw [if_neg c11] at H
          have c11b0 : (((rd_T50 l0 x5_1).f4) == (wrap64 ((wrap64 ((wrap64 ((wrap64 (x1_1 + 1)) + 1)) + 1)) + 1))) = false := beq_eq_false_iff_ne.mpr c11
          have c11b1 : (((rd_T50 l0 x5_1).f4) != (wrap64 ((wrap64 ((wrap64 ((wrap64 (x1_1 + 1)) + 1)) + 1)) + 1))) = true := bne_iff_ne.mpr c11
          obtain rfl := Option.some.inj H
          have p232 : 0 ≤ (x5_1 : Int) := of_decide_eq_true (by assumption)
          have q232 : x5_1 < (l0.length : Int) := of_decide_eq_true (by assumption)
          obtain ⟨ad232, e232, hx232_0, hx232_1, hx232_2, hx232_3, hx232_4⟩ := at_T50 HR0.out x5_1 p232 q232
          cases e232
          replace hx232_0 := (HB.out.cell (World.block_lt_of_cell? w _ hx232_0)).trans hx232_0
          replace hx232_1 := (HB.out.cell (World.block_lt_of_cell? w _ hx232_1)).trans hx232_1
          replace hx232_2 := (HB.out.cell (World.block_lt_of_cell? w _ hx232_2)).trans hx232_2
          replace hx232_3 := (HB.out.cell (World.block_lt_of_cell? w _ hx232_3)).trans hx232_3
          replace hx232_4 := (HB.out.cell (World.block_lt_of_cell? w _ hx232_4)).trans hx232_4
          replace p232 := eq_true p232
          replace q232 := eq_true q232
          have p233 : 0 ≤ (x5_1 : Int) := of_decide_eq_true (by assumption)
          have q233 : x5_1 < (l0.length : Int) := of_decide_eq_true (by assumption)
          obtain ⟨ad233, e233, hx233_0, hx233_1, hx233_2, hx233_3, hx233_4⟩ := at_T50 HR0.out x5_1 p233 q233
          obtain rfl : ad232 = ad233 := (by injection e233)
          replace hx233_0 := (HB.out.cell (World.block_lt_of_cell? w _ hx233_0)).trans hx233_0
          replace hx233_1 := (HB.out.cell (World.block_lt_of_cell? w _ hx233_1)).trans hx233_1
          replace hx233_2 := (HB.out.cell (World.block_lt_of_cell? w _ hx233_2)).trans hx233_2
          replace hx233_3 := (HB.out.cell (World.block_lt_of_cell? w _ hx233_3)).trans hx233_3
          replace hx233_4 := (HB.out.cell (World.block_lt_of_cell? w _ hx233_4)).trans hx233_4
          replace p233 := eq_true p233
          replace q233 := eq_true q233
          try go_wp2
          replace HB := am (below_drew1 HB.out)
          have p234 : 0 ≤ (x5_1 : Int) := of_decide_eq_true (by assumption)
          have q234 : x5_1 < (l0.length : Int) := of_decide_eq_true (by assumption)
          obtain ⟨ad234, e234, hx234_0, hx234_1, hx234_2, hx234_3, hx234_4⟩ := at_T50 HR0.out x5_1 p234 q234
          have hw234_4 := hx234_4
          have hw234_3 := hx234_3
          have hw234_2 := hx234_2
          have hw234_1 := hx234_1
          have hw234_0 := hx234_0
          obtain rfl : ad232 = ad234 := (by injection e234)
          replace hx234_0 := (HB.out.cell (World.block_lt_of_cell? w _ hx234_0)).trans hx234_0
          replace hx234_1 := (HB.out.cell (World.block_lt_of_cell? w _ hx234_1)).trans hx234_1
          replace hx234_2 := (HB.out.cell (World.block_lt_of_cell? w _ hx234_2)).trans hx234_2
          replace hx234_3 := (HB.out.cell (World.block_lt_of_cell? w _ hx234_3)).trans hx234_3
          replace hx234_4 := (HB.out.cell (World.block_lt_of_cell? w _ hx234_4)).trans hx234_4
          replace p234 := eq_true p234
          replace q234 := eq_true q234
          refine start_ (n := 8) (S := fun w' => w'.cell? (ad232.add ((x5_1).toNat * 5)) = some (.int .i64 ((rd_T50 l0 x5_1).f0)) ∧ w'.cell? ⟨(ad232.add ((x5_1).toNat * 5)).block, (ad232.add ((x5_1).toNat * 5)).off + 1, none⟩ = some (.bool ((rd_T50 l0 x5_1).f1)) ∧ w'.cell? ⟨(ad232.add ((x5_1).toNat * 5)).block, (ad232.add ((x5_1).toNat * 5)).off + 2, none⟩ = some (.string ((rd_T50 l0 x5_1).f2)) ∧ w'.cell? ⟨(ad232.add ((x5_1).toNat * 5)).block, (ad232.add ((x5_1).toNat * 5)).off + 3, none⟩ = some (.string ((rd_T50 l0 x5_1).f3)) ∧ w'.cell? ⟨(ad232.add ((x5_1).toNat * 5)).block, (ad232.add ((x5_1).toNat * 5)).off + 4, none⟩ = some (.int .i64 ((rd_T50 l0 x5_1).f4))) (ds := []) #[false, false, false, false, false, false, false, false] (by kernel_rfl) rfl rfl ⟨((HB.out.cell (World.block_lt_of_cell? w _ hw234_0)).trans hw234_0), ((HB.out.cell (World.block_lt_of_cell? w _ hw234_1)).trans hw234_1), ((HB.out.cell (World.block_lt_of_cell? w _ hw234_2)).trans hw234_2), ((HB.out.cell (World.block_lt_of_cell? w _ hw234_3)).trans hw234_3), ((HB.out.cell (World.block_lt_of_cell? w _ hw234_4)).trans hw234_4)⟩ (fun hHeld => ?_); refine with_tabW laws_heldSlotS.tab10 laws_heldSlotS.bits10 (fun HT_ HW_ => ?_)
          generalize wr.drew = w16 at HB hx234_0 hx234_1 hx234_2 hx234_3 hx234_4 hHeld ⊢
          refine xP1 (i := 0) (N := some 32) #[true, false, false, false, false, false, false, false] (any_of HT_.out (by kernel_rfl)) (h := ?_)
          refine xP1 (i := 1) (N := some 33) #[true, true, false, false, false, false, false, false] (any_of HT_.out (by kernel_rfl)) (h := ?_)
          refine xP1 (i := 2) (N := some 34) #[true, true, true, false, false, false, false, false] (any_of HT_.out (by kernel_rfl)) (h := ?_)
          refine xP1 (i := 3) (N := some 35) #[true, true, true, true, false, false, false, false] (any_of HT_.out (by kernel_rfl)) (h := ?_)
          refine xP1 (i := 5) (N := some 37) #[true, true, true, true, false, true, false, false] (any_of HT_.out (by kernel_rfl)) (h := ?_)
          refine take_ (i := 4) (N := some 36) (v := ?_) (a' := ?_) #[true, true, true, true, true, true, false, false] rfl rfl (take_ofW HT_.out HW_.out (by kernel_rfl)) (fun _ _ _ h => h) (Or.inl ⟨by rfl, ?_⟩) hHeld ?_ ?_
          rotate_left
          ·rintro w' ⟨s0, s1, s2, s3, s4⟩
           go_simp
           with_reducible rfl
          rotate_left
          ·simp only [Act.put, List.setIfInBounds_toArray, List.set_cons_zero, List.set_cons_succ, i64_w, i32_w]
           rfl
          refine one_ (i := 6) (N := some 38) #[true, true, true, true, true, true, true, false] rfl rfl (one_of HT_.out (by kernel_rfl)) (by decide) (fun K hK => ?_)
          refine xG1 72 Try.func72 #[.int .i64 (wrap64 ((wrap64 (x1_1 + 1)) + 1))] (h := ?_)
          with_reducible refine (laws_markText.calls k1 (wrap64 ((wrap64 (x1_1 + 1)) + 1)) t235 _ A7.out).mono ?_
          rintro e w17 ⟨rfl, hb⟩
          refine ⟨_, rfl, ?_⟩
          replace HB := am (below_step (xW HB.out) hb)
          (try clear hb)
          refine hK.out _ _ ⟨((HB.out.cell (World.block_lt_of_cell? w _ hw234_0)).trans hw234_0), ((HB.out.cell (World.block_lt_of_cell? w _ hw234_1)).trans hw234_1), ((HB.out.cell (World.block_lt_of_cell? w _ hw234_2)).trans hw234_2), ((HB.out.cell (World.block_lt_of_cell? w _ hw234_3)).trans hw234_3), ((HB.out.cell (World.block_lt_of_cell? w _ hw234_4)).trans hw234_4)⟩ (fun hHeld => ?_)
          clear hK K
          refine xN1 (h := ?_)
          refine xP1 (i := 7) (N := some 39) #[true, true, true, true, true, true, true, true] (any_of HT_.out (by kernel_rfl)) (h := ?_)
          refine done_ (done_of HT_.out (by kernel_rfl)) ?_
          try go_wp2
          replace HB := am (below_drew1 HB.out)
          have p236 : 0 ≤ (x5_1 : Int) := of_decide_eq_true (by assumption)
          have q236 : x5_1 < (l0.length : Int) := of_decide_eq_true (by assumption)
          obtain ⟨ad236, e236, hx236_0, hx236_1, hx236_2, hx236_3, hx236_4⟩ := at_T50 HR0.out x5_1 p236 q236
          have hw236_4 := hx236_4
          have hw236_3 := hx236_3
          have hw236_2 := hx236_2
          have hw236_1 := hx236_1
          have hw236_0 := hx236_0
          obtain rfl : ad232 = ad236 := (by injection e236)
          replace hx236_0 := (HB.out.cell (World.block_lt_of_cell? w _ hx236_0)).trans hx236_0
          replace hx236_1 := (HB.out.cell (World.block_lt_of_cell? w _ hx236_1)).trans hx236_1
          replace hx236_2 := (HB.out.cell (World.block_lt_of_cell? w _ hx236_2)).trans hx236_2
          replace hx236_3 := (HB.out.cell (World.block_lt_of_cell? w _ hx236_3)).trans hx236_3
          replace hx236_4 := (HB.out.cell (World.block_lt_of_cell? w _ hx236_4)).trans hx236_4
          replace p236 := eq_true p236
          replace q236 := eq_true q236
          refine start_ (n := 8) (S := fun w' => w'.cell? (ad232.add ((x5_1).toNat * 5)) = some (.int .i64 ((rd_T50 l0 x5_1).f0)) ∧ w'.cell? ⟨(ad232.add ((x5_1).toNat * 5)).block, (ad232.add ((x5_1).toNat * 5)).off + 1, none⟩ = some (.bool ((rd_T50 l0 x5_1).f1)) ∧ w'.cell? ⟨(ad232.add ((x5_1).toNat * 5)).block, (ad232.add ((x5_1).toNat * 5)).off + 2, none⟩ = some (.string ((rd_T50 l0 x5_1).f2)) ∧ w'.cell? ⟨(ad232.add ((x5_1).toNat * 5)).block, (ad232.add ((x5_1).toNat * 5)).off + 3, none⟩ = some (.string ((rd_T50 l0 x5_1).f3)) ∧ w'.cell? ⟨(ad232.add ((x5_1).toNat * 5)).block, (ad232.add ((x5_1).toNat * 5)).off + 4, none⟩ = some (.int .i64 ((rd_T50 l0 x5_1).f4))) (ds := []) #[false, false, false, false, false, false, false, false] (by kernel_rfl) rfl rfl ⟨((HB.out.cell (World.block_lt_of_cell? w _ hw236_0)).trans hw236_0), ((HB.out.cell (World.block_lt_of_cell? w _ hw236_1)).trans hw236_1), ((HB.out.cell (World.block_lt_of_cell? w _ hw236_2)).trans hw236_2), ((HB.out.cell (World.block_lt_of_cell? w _ hw236_3)).trans hw236_3), ((HB.out.cell (World.block_lt_of_cell? w _ hw236_4)).trans hw236_4)⟩ (fun hHeld => ?_); refine with_tabW laws_heldSlotS.tab13 laws_heldSlotS.bits13 (fun HT_ HW_ => ?_)
          generalize w17.drew = w18 at HB hx236_0 hx236_1 hx236_2 hx236_3 hx236_4 hHeld ⊢
          refine xP1 (i := 0) (N := some 42) #[true, false, false, false, false, false, false, false] (any_of HT_.out (by kernel_rfl)) (h := ?_)
          refine xP1 (i := 1) (N := some 43) #[true, true, false, false, false, false, false, false] (any_of HT_.out (by kernel_rfl)) (h := ?_)
          refine xP1 (i := 2) (N := some 44) #[true, true, true, false, false, false, false, false] (any_of HT_.out (by kernel_rfl)) (h := ?_)
          refine xP1 (i := 3) (N := some 45) #[true, true, true, true, false, false, false, false] (any_of HT_.out (by kernel_rfl)) (h := ?_)
          refine xP1 (i := 5) (N := some 47) #[true, true, true, true, false, true, false, false] (any_of HT_.out (by kernel_rfl)) (h := ?_)
          refine take_ (i := 4) (N := some 46) (v := ?_) (a' := ?_) #[true, true, true, true, true, true, false, false] rfl rfl (take_ofW HT_.out HW_.out (by kernel_rfl)) (fun _ _ _ h => h) (Or.inl ⟨by rfl, ?_⟩) hHeld ?_ ?_
          rotate_left
          ·rintro w' ⟨s0, s1, s2, s3, s4⟩
           go_simp
           with_reducible rfl
          rotate_left
          ·simp only [Act.put, List.setIfInBounds_toArray, List.set_cons_zero, List.set_cons_succ, i64_w, i32_w]
           rfl
          refine one_ (i := 6) (N := some 48) #[true, true, true, true, true, true, true, false] rfl rfl (one_of HT_.out (by kernel_rfl)) (by decide) (fun K hK => ?_)
          refine xG1 72 Try.func72 #[.int .i64 (wrap64 ((wrap64 ((wrap64 (x1_1 + 1)) + 1)) + 1))] (h := ?_)
          with_reducible refine (laws_markText.calls k1 (wrap64 ((wrap64 ((wrap64 (x1_1 + 1)) + 1)) + 1)) t237 _ A9.out).mono ?_
          rintro e w19 ⟨rfl, hb⟩
          refine ⟨_, rfl, ?_⟩
          replace HB := am (below_step (xW HB.out) hb)
          (try clear hb)
          refine hK.out _ _ ⟨((HB.out.cell (World.block_lt_of_cell? w _ hw236_0)).trans hw236_0), ((HB.out.cell (World.block_lt_of_cell? w _ hw236_1)).trans hw236_1), ((HB.out.cell (World.block_lt_of_cell? w _ hw236_2)).trans hw236_2), ((HB.out.cell (World.block_lt_of_cell? w _ hw236_3)).trans hw236_3), ((HB.out.cell (World.block_lt_of_cell? w _ hw236_4)).trans hw236_4)⟩ (fun hHeld => ?_)
          clear hK K
          refine xN1 (h := ?_)
          refine xP1 (i := 7) (N := some 49) #[true, true, true, true, true, true, true, true] (any_of HT_.out (by kernel_rfl)) (h := ?_)
          refine done_ (done_of HT_.out (by kernel_rfl)) ?_
          have p238 : 0 ≤ (x5_1 : Int) := of_decide_eq_true (by assumption)
          have q238 : x5_1 < (l0.length : Int) := of_decide_eq_true (by assumption)
          obtain ⟨ad238, e238, hx238_0, hx238_1, hx238_2, hx238_3, hx238_4⟩ := at_T50 HR0.out x5_1 p238 q238
          obtain rfl : ad232 = ad238 := (by injection e238)
          replace hx238_0 := (HB.out.cell (World.block_lt_of_cell? w _ hx238_0)).trans hx238_0
          replace hx238_1 := (HB.out.cell (World.block_lt_of_cell? w _ hx238_1)).trans hx238_1
          replace hx238_2 := (HB.out.cell (World.block_lt_of_cell? w _ hx238_2)).trans hx238_2
          replace hx238_3 := (HB.out.cell (World.block_lt_of_cell? w _ hx238_3)).trans hx238_3
          replace hx238_4 := (HB.out.cell (World.block_lt_of_cell? w _ hx238_4)).trans hx238_4
          replace p238 := eq_true p238
          replace q238 := eq_true q238
          try go_wp2
          go_ret
          exact ⟨xV, xW HB.out⟩
        ·rw [if_neg c10] at H
         have c10b0 : (((rd_T50 l0 x5_1).f3).toList == t237.toList) = false := beq_eq_false_iff_ne.mpr c10
         have c10b1 : (((rd_T50 l0 x5_1).f3).toList != t237.toList) = true := bne_iff_ne.mpr c10
         obtain rfl := Option.some.inj H
         have p232 : 0 ≤ (x5_1 : Int) := of_decide_eq_true (by assumption)
         have q232 : x5_1 < (l0.length : Int) := of_decide_eq_true (by assumption)
         obtain ⟨ad232, e232, hx232_0, hx232_1, hx232_2, hx232_3, hx232_4⟩ := at_T50 HR0.out x5_1 p232 q232
         cases e232
         replace hx232_0 := (HB.out.cell (World.block_lt_of_cell? w _ hx232_0)).trans hx232_0
         replace hx232_1 := (HB.out.cell (World.block_lt_of_cell? w _ hx232_1)).trans hx232_1
         replace hx232_2 := (HB.out.cell (World.block_lt_of_cell? w _ hx232_2)).trans hx232_2
         replace hx232_3 := (HB.out.cell (World.block_lt_of_cell? w _ hx232_3)).trans hx232_3
         replace hx232_4 := (HB.out.cell (World.block_lt_of_cell? w _ hx232_4)).trans hx232_4
         replace p232 := eq_true p232
         replace q232 := eq_true q232
         have p233 : 0 ≤ (x5_1 : Int) := of_decide_eq_true (by assumption)
         have q233 : x5_1 < (l0.length : Int) := of_decide_eq_true (by assumption)
         obtain ⟨ad233, e233, hx233_0, hx233_1, hx233_2, hx233_3, hx233_4⟩ := at_T50 HR0.out x5_1 p233 q233
         obtain rfl : ad232 = ad233 := (by injection e233)
         replace hx233_0 := (HB.out.cell (World.block_lt_of_cell? w _ hx233_0)).trans hx233_0
         replace hx233_1 := (HB.out.cell (World.block_lt_of_cell? w _ hx233_1)).trans hx233_1
         replace hx233_2 := (HB.out.cell (World.block_lt_of_cell? w _ hx233_2)).trans hx233_2
         replace hx233_3 := (HB.out.cell (World.block_lt_of_cell? w _ hx233_3)).trans hx233_3
         replace hx233_4 := (HB.out.cell (World.block_lt_of_cell? w _ hx233_4)).trans hx233_4
         replace p233 := eq_true p233
         replace q233 := eq_true q233
         try go_wp2
         replace HB := am (below_drew1 HB.out)
         have p234 : 0 ≤ (x5_1 : Int) := of_decide_eq_true (by assumption)
         have q234 : x5_1 < (l0.length : Int) := of_decide_eq_true (by assumption)
         obtain ⟨ad234, e234, hx234_0, hx234_1, hx234_2, hx234_3, hx234_4⟩ := at_T50 HR0.out x5_1 p234 q234
         have hw234_4 := hx234_4
         have hw234_3 := hx234_3
         have hw234_2 := hx234_2
         have hw234_1 := hx234_1
         have hw234_0 := hx234_0
         obtain rfl : ad232 = ad234 := (by injection e234)
         replace hx234_0 := (HB.out.cell (World.block_lt_of_cell? w _ hx234_0)).trans hx234_0
         replace hx234_1 := (HB.out.cell (World.block_lt_of_cell? w _ hx234_1)).trans hx234_1
         replace hx234_2 := (HB.out.cell (World.block_lt_of_cell? w _ hx234_2)).trans hx234_2
         replace hx234_3 := (HB.out.cell (World.block_lt_of_cell? w _ hx234_3)).trans hx234_3
         replace hx234_4 := (HB.out.cell (World.block_lt_of_cell? w _ hx234_4)).trans hx234_4
         replace p234 := eq_true p234
         replace q234 := eq_true q234
         refine start_ (n := 8) (S := fun w' => w'.cell? (ad232.add ((x5_1).toNat * 5)) = some (.int .i64 ((rd_T50 l0 x5_1).f0)) ∧ w'.cell? ⟨(ad232.add ((x5_1).toNat * 5)).block, (ad232.add ((x5_1).toNat * 5)).off + 1, none⟩ = some (.bool ((rd_T50 l0 x5_1).f1)) ∧ w'.cell? ⟨(ad232.add ((x5_1).toNat * 5)).block, (ad232.add ((x5_1).toNat * 5)).off + 2, none⟩ = some (.string ((rd_T50 l0 x5_1).f2)) ∧ w'.cell? ⟨(ad232.add ((x5_1).toNat * 5)).block, (ad232.add ((x5_1).toNat * 5)).off + 3, none⟩ = some (.string ((rd_T50 l0 x5_1).f3)) ∧ w'.cell? ⟨(ad232.add ((x5_1).toNat * 5)).block, (ad232.add ((x5_1).toNat * 5)).off + 4, none⟩ = some (.int .i64 ((rd_T50 l0 x5_1).f4))) (ds := []) #[false, false, false, false, false, false, false, false] (by kernel_rfl) rfl rfl ⟨((HB.out.cell (World.block_lt_of_cell? w _ hw234_0)).trans hw234_0), ((HB.out.cell (World.block_lt_of_cell? w _ hw234_1)).trans hw234_1), ((HB.out.cell (World.block_lt_of_cell? w _ hw234_2)).trans hw234_2), ((HB.out.cell (World.block_lt_of_cell? w _ hw234_3)).trans hw234_3), ((HB.out.cell (World.block_lt_of_cell? w _ hw234_4)).trans hw234_4)⟩ (fun hHeld => ?_); refine with_tabW laws_heldSlotS.tab10 laws_heldSlotS.bits10 (fun HT_ HW_ => ?_)
         generalize wr.drew = w20 at HB hx234_0 hx234_1 hx234_2 hx234_3 hx234_4 hHeld ⊢
         refine xP1 (i := 0) (N := some 32) #[true, false, false, false, false, false, false, false] (any_of HT_.out (by kernel_rfl)) (h := ?_)
         refine xP1 (i := 1) (N := some 33) #[true, true, false, false, false, false, false, false] (any_of HT_.out (by kernel_rfl)) (h := ?_)
         refine xP1 (i := 2) (N := some 34) #[true, true, true, false, false, false, false, false] (any_of HT_.out (by kernel_rfl)) (h := ?_)
         refine xP1 (i := 3) (N := some 35) #[true, true, true, true, false, false, false, false] (any_of HT_.out (by kernel_rfl)) (h := ?_)
         refine xP1 (i := 5) (N := some 37) #[true, true, true, true, false, true, false, false] (any_of HT_.out (by kernel_rfl)) (h := ?_)
         refine take_ (i := 4) (N := some 36) (v := ?_) (a' := ?_) #[true, true, true, true, true, true, false, false] rfl rfl (take_ofW HT_.out HW_.out (by kernel_rfl)) (fun _ _ _ h => h) (Or.inl ⟨by rfl, ?_⟩) hHeld ?_ ?_
         rotate_left
         ·rintro w' ⟨s0, s1, s2, s3, s4⟩
          go_simp
          with_reducible rfl
         rotate_left
         ·simp only [Act.put, List.setIfInBounds_toArray, List.set_cons_zero, List.set_cons_succ, i64_w, i32_w]
          rfl
         refine one_ (i := 6) (N := some 38) #[true, true, true, true, true, true, true, false] rfl rfl (one_of HT_.out (by kernel_rfl)) (by decide) (fun K hK => ?_)
         refine xG1 72 Try.func72 #[.int .i64 (wrap64 ((wrap64 (x1_1 + 1)) + 1))] (h := ?_)
         with_reducible refine (laws_markText.calls k1 (wrap64 ((wrap64 (x1_1 + 1)) + 1)) t235 _ A7.out).mono ?_
         rintro e w21 ⟨rfl, hb⟩
         refine ⟨_, rfl, ?_⟩
         replace HB := am (below_step (xW HB.out) hb)
         (try clear hb)
         refine hK.out _ _ ⟨((HB.out.cell (World.block_lt_of_cell? w _ hw234_0)).trans hw234_0), ((HB.out.cell (World.block_lt_of_cell? w _ hw234_1)).trans hw234_1), ((HB.out.cell (World.block_lt_of_cell? w _ hw234_2)).trans hw234_2), ((HB.out.cell (World.block_lt_of_cell? w _ hw234_3)).trans hw234_3), ((HB.out.cell (World.block_lt_of_cell? w _ hw234_4)).trans hw234_4)⟩ (fun hHeld => ?_)
         clear hK K
         refine xN1 (h := ?_)
         refine xP1 (i := 7) (N := some 39) #[true, true, true, true, true, true, true, true] (any_of HT_.out (by kernel_rfl)) (h := ?_)
         refine done_ (done_of HT_.out (by kernel_rfl)) ?_
         try go_wp2
         replace HB := am (below_drew1 HB.out)
         have p236 : 0 ≤ (x5_1 : Int) := of_decide_eq_true (by assumption)
         have q236 : x5_1 < (l0.length : Int) := of_decide_eq_true (by assumption)
         obtain ⟨ad236, e236, hx236_0, hx236_1, hx236_2, hx236_3, hx236_4⟩ := at_T50 HR0.out x5_1 p236 q236
         have hw236_4 := hx236_4
         have hw236_3 := hx236_3
         have hw236_2 := hx236_2
         have hw236_1 := hx236_1
         have hw236_0 := hx236_0
         obtain rfl : ad232 = ad236 := (by injection e236)
         replace hx236_0 := (HB.out.cell (World.block_lt_of_cell? w _ hx236_0)).trans hx236_0
         replace hx236_1 := (HB.out.cell (World.block_lt_of_cell? w _ hx236_1)).trans hx236_1
         replace hx236_2 := (HB.out.cell (World.block_lt_of_cell? w _ hx236_2)).trans hx236_2
         replace hx236_3 := (HB.out.cell (World.block_lt_of_cell? w _ hx236_3)).trans hx236_3
         replace hx236_4 := (HB.out.cell (World.block_lt_of_cell? w _ hx236_4)).trans hx236_4
         replace p236 := eq_true p236
         replace q236 := eq_true q236
         refine start_ (n := 8) (S := fun w' => w'.cell? (ad232.add ((x5_1).toNat * 5)) = some (.int .i64 ((rd_T50 l0 x5_1).f0)) ∧ w'.cell? ⟨(ad232.add ((x5_1).toNat * 5)).block, (ad232.add ((x5_1).toNat * 5)).off + 1, none⟩ = some (.bool ((rd_T50 l0 x5_1).f1)) ∧ w'.cell? ⟨(ad232.add ((x5_1).toNat * 5)).block, (ad232.add ((x5_1).toNat * 5)).off + 2, none⟩ = some (.string ((rd_T50 l0 x5_1).f2)) ∧ w'.cell? ⟨(ad232.add ((x5_1).toNat * 5)).block, (ad232.add ((x5_1).toNat * 5)).off + 3, none⟩ = some (.string ((rd_T50 l0 x5_1).f3)) ∧ w'.cell? ⟨(ad232.add ((x5_1).toNat * 5)).block, (ad232.add ((x5_1).toNat * 5)).off + 4, none⟩ = some (.int .i64 ((rd_T50 l0 x5_1).f4))) (ds := []) #[false, false, false, false, false, false, false, false] (by kernel_rfl) rfl rfl ⟨((HB.out.cell (World.block_lt_of_cell? w _ hw236_0)).trans hw236_0), ((HB.out.cell (World.block_lt_of_cell? w _ hw236_1)).trans hw236_1), ((HB.out.cell (World.block_lt_of_cell? w _ hw236_2)).trans hw236_2), ((HB.out.cell (World.block_lt_of_cell? w _ hw236_3)).trans hw236_3), ((HB.out.cell (World.block_lt_of_cell? w _ hw236_4)).trans hw236_4)⟩ (fun hHeld => ?_); refine with_tabW laws_heldSlotS.tab13 laws_heldSlotS.bits13 (fun HT_ HW_ => ?_)
         generalize w21.drew = w22 at HB hx236_0 hx236_1 hx236_2 hx236_3 hx236_4 hHeld ⊢
         refine xP1 (i := 0) (N := some 42) #[true, false, false, false, false, false, false, false] (any_of HT_.out (by kernel_rfl)) (h := ?_)
         refine xP1 (i := 1) (N := some 43) #[true, true, false, false, false, false, false, false] (any_of HT_.out (by kernel_rfl)) (h := ?_)
         refine xP1 (i := 2) (N := some 44) #[true, true, true, false, false, false, false, false] (any_of HT_.out (by kernel_rfl)) (h := ?_)
         refine xP1 (i := 3) (N := some 45) #[true, true, true, true, false, false, false, false] (any_of HT_.out (by kernel_rfl)) (h := ?_)
         refine xP1 (i := 5) (N := some 47) #[true, true, true, true, false, true, false, false] (any_of HT_.out (by kernel_rfl)) (h := ?_)
         refine take_ (i := 4) (N := some 46) (v := ?_) (a' := ?_) #[true, true, true, true, true, true, false, false] rfl rfl (take_ofW HT_.out HW_.out (by kernel_rfl)) (fun _ _ _ h => h) (Or.inl ⟨by rfl, ?_⟩) hHeld ?_ ?_
         rotate_left
         ·rintro w' ⟨s0, s1, s2, s3, s4⟩
          go_simp
          with_reducible rfl
         rotate_left
         ·simp only [Act.put, List.setIfInBounds_toArray, List.set_cons_zero, List.set_cons_succ, i64_w, i32_w]
          rfl
         refine one_ (i := 6) (N := some 48) #[true, true, true, true, true, true, true, false] rfl rfl (one_of HT_.out (by kernel_rfl)) (by decide) (fun K hK => ?_)
         refine xG1 72 Try.func72 #[.int .i64 (wrap64 ((wrap64 ((wrap64 (x1_1 + 1)) + 1)) + 1))] (h := ?_)
         with_reducible refine (laws_markText.calls k1 (wrap64 ((wrap64 ((wrap64 (x1_1 + 1)) + 1)) + 1)) t237 _ A9.out).mono ?_
         rintro e w23 ⟨rfl, hb⟩
         refine ⟨_, rfl, ?_⟩
         replace HB := am (below_step (xW HB.out) hb)
         (try clear hb)
         refine hK.out _ _ ⟨((HB.out.cell (World.block_lt_of_cell? w _ hw236_0)).trans hw236_0), ((HB.out.cell (World.block_lt_of_cell? w _ hw236_1)).trans hw236_1), ((HB.out.cell (World.block_lt_of_cell? w _ hw236_2)).trans hw236_2), ((HB.out.cell (World.block_lt_of_cell? w _ hw236_3)).trans hw236_3), ((HB.out.cell (World.block_lt_of_cell? w _ hw236_4)).trans hw236_4)⟩ (fun hHeld => ?_)
         clear hK K
         refine xN1 (h := ?_)
         refine xP1 (i := 7) (N := some 49) #[true, true, true, true, true, true, true, true] (any_of HT_.out (by kernel_rfl)) (h := ?_)
         refine done_ (done_of HT_.out (by kernel_rfl)) ?_
         try go_wp2
         go_ret
         exact ⟨xV, xW HB.out⟩
       ·rw [if_neg c8] at H
        have c8b0 : (((rd_T50 l0 x5_1).f2).toList == t235.toList) = false := beq_eq_false_iff_ne.mpr c8
        have c8b1 : (((rd_T50 l0 x5_1).f2).toList != t235.toList) = true := bne_iff_ne.mpr c8
        obtain rfl := Option.some.inj H
        have p232 : 0 ≤ (x5_1 : Int) := of_decide_eq_true (by assumption)
        have q232 : x5_1 < (l0.length : Int) := of_decide_eq_true (by assumption)
        obtain ⟨ad232, e232, hx232_0, hx232_1, hx232_2, hx232_3, hx232_4⟩ := at_T50 HR0.out x5_1 p232 q232
        cases e232
        replace hx232_0 := (HB.out.cell (World.block_lt_of_cell? w _ hx232_0)).trans hx232_0
        replace hx232_1 := (HB.out.cell (World.block_lt_of_cell? w _ hx232_1)).trans hx232_1
        replace hx232_2 := (HB.out.cell (World.block_lt_of_cell? w _ hx232_2)).trans hx232_2
        replace hx232_3 := (HB.out.cell (World.block_lt_of_cell? w _ hx232_3)).trans hx232_3
        replace hx232_4 := (HB.out.cell (World.block_lt_of_cell? w _ hx232_4)).trans hx232_4
        replace p232 := eq_true p232
        replace q232 := eq_true q232
        have p233 : 0 ≤ (x5_1 : Int) := of_decide_eq_true (by assumption)
        have q233 : x5_1 < (l0.length : Int) := of_decide_eq_true (by assumption)
        obtain ⟨ad233, e233, hx233_0, hx233_1, hx233_2, hx233_3, hx233_4⟩ := at_T50 HR0.out x5_1 p233 q233
        obtain rfl : ad232 = ad233 := (by injection e233)
        replace hx233_0 := (HB.out.cell (World.block_lt_of_cell? w _ hx233_0)).trans hx233_0
        replace hx233_1 := (HB.out.cell (World.block_lt_of_cell? w _ hx233_1)).trans hx233_1
        replace hx233_2 := (HB.out.cell (World.block_lt_of_cell? w _ hx233_2)).trans hx233_2
        replace hx233_3 := (HB.out.cell (World.block_lt_of_cell? w _ hx233_3)).trans hx233_3
        replace hx233_4 := (HB.out.cell (World.block_lt_of_cell? w _ hx233_4)).trans hx233_4
        replace p233 := eq_true p233
        replace q233 := eq_true q233
        try go_wp2
        replace HB := am (below_drew1 HB.out)
        have p234 : 0 ≤ (x5_1 : Int) := of_decide_eq_true (by assumption)
        have q234 : x5_1 < (l0.length : Int) := of_decide_eq_true (by assumption)
        obtain ⟨ad234, e234, hx234_0, hx234_1, hx234_2, hx234_3, hx234_4⟩ := at_T50 HR0.out x5_1 p234 q234
        have hw234_4 := hx234_4
        have hw234_3 := hx234_3
        have hw234_2 := hx234_2
        have hw234_1 := hx234_1
        have hw234_0 := hx234_0
        obtain rfl : ad232 = ad234 := (by injection e234)
        replace hx234_0 := (HB.out.cell (World.block_lt_of_cell? w _ hx234_0)).trans hx234_0
        replace hx234_1 := (HB.out.cell (World.block_lt_of_cell? w _ hx234_1)).trans hx234_1
        replace hx234_2 := (HB.out.cell (World.block_lt_of_cell? w _ hx234_2)).trans hx234_2
        replace hx234_3 := (HB.out.cell (World.block_lt_of_cell? w _ hx234_3)).trans hx234_3
        replace hx234_4 := (HB.out.cell (World.block_lt_of_cell? w _ hx234_4)).trans hx234_4
        replace p234 := eq_true p234
        replace q234 := eq_true q234
        refine start_ (n := 8) (S := fun w' => w'.cell? (ad232.add ((x5_1).toNat * 5)) = some (.int .i64 ((rd_T50 l0 x5_1).f0)) ∧ w'.cell? ⟨(ad232.add ((x5_1).toNat * 5)).block, (ad232.add ((x5_1).toNat * 5)).off + 1, none⟩ = some (.bool ((rd_T50 l0 x5_1).f1)) ∧ w'.cell? ⟨(ad232.add ((x5_1).toNat * 5)).block, (ad232.add ((x5_1).toNat * 5)).off + 2, none⟩ = some (.string ((rd_T50 l0 x5_1).f2)) ∧ w'.cell? ⟨(ad232.add ((x5_1).toNat * 5)).block, (ad232.add ((x5_1).toNat * 5)).off + 3, none⟩ = some (.string ((rd_T50 l0 x5_1).f3)) ∧ w'.cell? ⟨(ad232.add ((x5_1).toNat * 5)).block, (ad232.add ((x5_1).toNat * 5)).off + 4, none⟩ = some (.int .i64 ((rd_T50 l0 x5_1).f4))) (ds := []) #[false, false, false, false, false, false, false, false] (by kernel_rfl) rfl rfl ⟨((HB.out.cell (World.block_lt_of_cell? w _ hw234_0)).trans hw234_0), ((HB.out.cell (World.block_lt_of_cell? w _ hw234_1)).trans hw234_1), ((HB.out.cell (World.block_lt_of_cell? w _ hw234_2)).trans hw234_2), ((HB.out.cell (World.block_lt_of_cell? w _ hw234_3)).trans hw234_3), ((HB.out.cell (World.block_lt_of_cell? w _ hw234_4)).trans hw234_4)⟩ (fun hHeld => ?_); refine with_tabW laws_heldSlotS.tab10 laws_heldSlotS.bits10 (fun HT_ HW_ => ?_)
        generalize wr.drew = w24 at HB hx234_0 hx234_1 hx234_2 hx234_3 hx234_4 hHeld ⊢
        refine xP1 (i := 0) (N := some 32) #[true, false, false, false, false, false, false, false] (any_of HT_.out (by kernel_rfl)) (h := ?_)
        refine xP1 (i := 1) (N := some 33) #[true, true, false, false, false, false, false, false] (any_of HT_.out (by kernel_rfl)) (h := ?_)
        refine xP1 (i := 2) (N := some 34) #[true, true, true, false, false, false, false, false] (any_of HT_.out (by kernel_rfl)) (h := ?_)
        refine xP1 (i := 3) (N := some 35) #[true, true, true, true, false, false, false, false] (any_of HT_.out (by kernel_rfl)) (h := ?_)
        refine xP1 (i := 5) (N := some 37) #[true, true, true, true, false, true, false, false] (any_of HT_.out (by kernel_rfl)) (h := ?_)
        refine take_ (i := 4) (N := some 36) (v := ?_) (a' := ?_) #[true, true, true, true, true, true, false, false] rfl rfl (take_ofW HT_.out HW_.out (by kernel_rfl)) (fun _ _ _ h => h) (Or.inl ⟨by rfl, ?_⟩) hHeld ?_ ?_
        rotate_left
        ·rintro w' ⟨s0, s1, s2, s3, s4⟩
         go_simp
         with_reducible rfl
        rotate_left
        ·simp only [Act.put, List.setIfInBounds_toArray, List.set_cons_zero, List.set_cons_succ, i64_w, i32_w]
         rfl
        refine one_ (i := 6) (N := some 38) #[true, true, true, true, true, true, true, false] rfl rfl (one_of HT_.out (by kernel_rfl)) (by decide) (fun K hK => ?_)
        refine xG1 72 Try.func72 #[.int .i64 (wrap64 ((wrap64 (x1_1 + 1)) + 1))] (h := ?_)
        with_reducible refine (laws_markText.calls k1 (wrap64 ((wrap64 (x1_1 + 1)) + 1)) t235 _ A7.out).mono ?_
        rintro e w25 ⟨rfl, hb⟩
        refine ⟨_, rfl, ?_⟩
        replace HB := am (below_step (xW HB.out) hb)
        (try clear hb)
        refine hK.out _ _ ⟨((HB.out.cell (World.block_lt_of_cell? w _ hw234_0)).trans hw234_0), ((HB.out.cell (World.block_lt_of_cell? w _ hw234_1)).trans hw234_1), ((HB.out.cell (World.block_lt_of_cell? w _ hw234_2)).trans hw234_2), ((HB.out.cell (World.block_lt_of_cell? w _ hw234_3)).trans hw234_3), ((HB.out.cell (World.block_lt_of_cell? w _ hw234_4)).trans hw234_4)⟩ (fun hHeld => ?_)
        clear hK K
        refine xN1 (h := ?_)
        refine xP1 (i := 7) (N := some 39) #[true, true, true, true, true, true, true, true] (any_of HT_.out (by kernel_rfl)) (h := ?_)
        refine done_ (done_of HT_.out (by kernel_rfl)) ?_
        try go_wp2
        go_ret
        exact ⟨xV, xW HB.out⟩
     ·rw [if_neg c5] at H
      have c5b0 : (((rd_T50 l0 x5_1).f0) == x1_1) = false := beq_eq_false_iff_ne.mpr c5
      have c5b1 : (((rd_T50 l0 x5_1).f0) != x1_1) = true := bne_iff_ne.mpr c5
      obtain rfl := Option.some.inj H
      have p232 : 0 ≤ (x5_1 : Int) := of_decide_eq_true (by assumption)
      have q232 : x5_1 < (l0.length : Int) := of_decide_eq_true (by assumption)
      obtain ⟨ad232, e232, hx232_0, hx232_1, hx232_2, hx232_3, hx232_4⟩ := at_T50 HR0.out x5_1 p232 q232
      cases e232
      replace hx232_0 := (HB.out.cell (World.block_lt_of_cell? w _ hx232_0)).trans hx232_0
      replace hx232_1 := (HB.out.cell (World.block_lt_of_cell? w _ hx232_1)).trans hx232_1
      replace hx232_2 := (HB.out.cell (World.block_lt_of_cell? w _ hx232_2)).trans hx232_2
      replace hx232_3 := (HB.out.cell (World.block_lt_of_cell? w _ hx232_3)).trans hx232_3
      replace hx232_4 := (HB.out.cell (World.block_lt_of_cell? w _ hx232_4)).trans hx232_4
      replace p232 := eq_true p232
      replace q232 := eq_true q232
      go_wp2
      go_ret
      exact ⟨xV, xW HB.out⟩
    ·rw [if_neg c4] at H
     exact absurd H (by simp)
   ·rw [if_neg c3] at H
    have c3b0 : decide (x5_1 < (l0.length : Int)) = false := decide_eq_false c3
    clear c3
    obtain rfl := Option.some.inj H
    go_wp2
    go_ret
    exact ⟨xV, xW HB.out⟩
end Go.Proofs.Ytomcapflpephmaa.HFnExactLift
