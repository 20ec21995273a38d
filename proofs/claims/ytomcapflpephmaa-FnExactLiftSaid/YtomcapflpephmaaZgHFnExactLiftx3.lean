/- What the row of the law needs of the printed and the plain texts. -/
import Derived.Test.YtomcapflpephmaaZgHX
import Derived.Test.YtomcapflpephmaaZgHFnExactLiftx0
import Derived.Test.YtomcapflpephmaaZgHFnExactLiftx2
namespace Go.Proofs.Ytomcapflpephmaa.HFnExactLift
open Go.RowKit Go.Proofs.YtomcapflpephmaaW.PrintWords Go.Proofs.YtomcapflpephmaaW.PrintLast Go.Proofs.YtomcapflpephmaaW.PrintMore
attribute [local go_sem] max2_int min2_int max_two min_two max_three min_three max_four min_four
set_option linter.unusedVariables false
set_option linter.unusedSimpArgs false
mutual
def spec_ArenaOk.l0 : Nat → Int → List Bool → Int → List (S50) → Int → Option (Bool)
 | 0, _, _, _, _, _ => none
 | k + 1, x3, x4, x5, x134000, x134001 => if x5 = (-1) then (spec_ArenaOk.l1 k x3 x4 0 x134000 x134001) else ((spec_l01In.f x5 0 (wrap64 (x3 - 1))).bind fun t138 => (if t138 = true then (if 0 ≤ x5 then (if x5 < (x4.length : Int) then (if rdOf false x4 x5 = true then (some false) else (if x5 < (x134000.length : Int) then (if (rd_T50 x134000 x5).f1 = true then (some false) else (spec_ArenaOk.l0 k x3 (x4.set (x5 : Int).toNat true) ((rd_T50 x134000 x5).f4) x134000 x134001)) else (none))) else (none)) else (none)) else (some false)))
def spec_ArenaOk.l1 : Nat → Int → List Bool → Int → List (S50) → Int → Option (Bool)
 | 0, _, _, _, _, _ => none
 | k + 1, x3, x4, x6, x134000, x134001 => if x6 < x3 then (if 0 ≤ x6 then (if x6 < (x134000.length : Int) then ((spec_l01In.f ((rd_T50 x134000 x6).f0) 0 41666665).bind fun t145 => (if t145 = true then (if x6 < (x4.length : Int) then (spec_ArenaOk.j2 k x3 x4 x6 (((rd_T50 x134000 x6).f1) == (rdOf false x4 x6)) x134000 x134001 ((rd_T50 x134000 x6).f0) ((rd_T50 x134000 x6).f1) ((rd_T50 x134000 x6).f2) ((rd_T50 x134000 x6).f3) ((rd_T50 x134000 x6).f4)) else (none)) else (spec_ArenaOk.j2 k x3 x4 x6 true x134000 x134001 ((rd_T50 x134000 x6).f0) ((rd_T50 x134000 x6).f1) ((rd_T50 x134000 x6).f2) ((rd_T50 x134000 x6).f3) ((rd_T50 x134000 x6).f4)))) else (none)) else (none)) else (some true)
def spec_ArenaOk.j2 : Nat → Int → List Bool → Int → Bool → List (S50) → Int → Int → Bool → ByteArray → ByteArray → Int → Option (Bool)
 | 0, _, _, _, _, _, _, _, _, _, _, _ => none
 | k + 1, x3, x4, x6, x70, x134000, x134001, x145000, x145001, x145002, x145003, x145004 => if x70 = true then (some false) else (if x145001 = true then ((spec_l01In.f (x145002.size : Int) 1 12).bind fun t147 => (if t147 = true then (if (x145003.size : Int) > 20 then (some false) else (if x145004 = 0 then (spec_ArenaOk.l1 k x3 x4 (wrap64 (x6 + 1)) x134000 x134001) else (some false))) else (some false))) else (if x145002.toList = ([] : List UInt8) then (if x145003.toList = ([] : List UInt8) then (spec_ArenaOk.l1 k x3 x4 (wrap64 (x6 + 1)) x134000 x134001) else (some false)) else (some false)))
end
def spec_ArenaOk.f (k : Nat) (l0_0 : List (S50)) (a0_1 : Int) : Option (Bool) := (spec_l01In.f (l0_0.length : Int) 1 24).bind fun t134 => (if t134 = true then (if 0 ≤ (l0_0.length : Int) then (if ((l0_0.length : Int) : Int).toNat ≤ 281474976710656 then (spec_ArenaOk.l0 k (l0_0.length : Int) (List.replicate ((l0_0.length : Int) : Int).toNat false) a0_1 l0_0 a0_1) else (none)) else (none)) else (some false))
set_option maxHeartbeats 8000000 in
set_option maxRecDepth 100000 in
theorem spec_ArenaOk.calls (k : Nat) (A0_0 : Option Addr) (c0_0 : Nat) (l0_0 : List (S50)) (a0_1 : Int) (r : Bool) (w : World) (hr0_0 : Kd.C k50 w A0_0 l0_0.length l0_0) (hc0_0 : l0_0.length ≤ c0_0) (h : spec_ArenaOk.f k l0_0 a0_1 = some r) :
  Calls Try.prog 64 #[.agg #[.slice A0_0 l0_0.length c0_0, .int .i64 a0_1]] w fun e w' => e = .returned (.bool r) ∧ Below w.heap.size w w' := by
 have hu42 := Try.underlying42
 have hu50 := Try.underlying50
 have HR0_0 := am hr0_0
 have HC0_0 := am hc0_0
 clear hr0_0 hc0_0
 have HB := am (Below.refl w.heap.size w)
 have H : ((spec_l01In.f (l0_0.length : Int) 1 24).bind fun t134 => (if t134 = true then (if 0 ≤ (l0_0.length : Int) then (if ((l0_0.length : Int) : Int).toNat ≤ 281474976710656 then (spec_ArenaOk.l0 k (l0_0.length : Int) (List.replicate ((l0_0.length : Int) : Int).toNat false) a0_1 l0_0 a0_1) else (none)) else (none)) else (some false))) = some r := h
 clear h
 replace H := Option.bind_eq_some_iff.mp H
 obtain ⟨t134, A20, H⟩ := H
 try dsimp only at H
 have A2 := am A20
 clear A20
 by_cases c3 : t134 = true
 ·subst c3
  have H1 : (if 0 ≤ (l0_0.length : Int) then (if ((l0_0.length : Int) : Int).toNat ≤ 281474976710656 then (spec_ArenaOk.l0 k (l0_0.length : Int) (List.replicate ((l0_0.length : Int) : Int).toNat false) a0_1 l0_0 a0_1) else (none)) else (none)) = some r := by rw [if_pos rfl] at H; exact H
  clear H
  have H := H1
  clear H1
  by_cases c4 : 0 ≤ (l0_0.length : Int)
  ·rw [if_pos c4] at H
   have c4b0 := eq_true c4
   have c4b1 : decide (0 ≤ (l0_0.length : Int)) = true := decide_eq_true c4
   clear c4
   by_cases c5 : ((l0_0.length : Int) : Int).toNat ≤ 281474976710656
   ·rw [if_pos c5] at H
    have c5b0 := eq_true c5
    have c5b1 : decide (((l0_0.length : Int) : Int).toNat ≤ 281474976710656) = true := decide_eq_true c5
    clear c5
    obtain ⟨y135, hy135⟩ : ∃ y_ : List Bool, y_ = (List.replicate ((l0_0.length : Int) : Int).toNat false) := ⟨_, rfl⟩
    replace H : (spec_ArenaOk.l0 k (l0_0.length : Int) y135 a0_1 l0_0 a0_1) = some r := by first | (rw [hy135]; with_reducible exact H) | (have H2_ := (Option.bind_some _ _).symm.trans H; rw [hy135]; with_reducible exact H2_) | (have H2_ := (Option.bind_some _ _).symm.trans H; with_reducible exact H2_) | with_reducible exact H | (rw [hy135]; exact H) | exact H
    have Ny135 := am hy135
    clear hy135
    have H' := am H
    clear H
    go_enter Try.func64, Try.ntmps64
    go_wp2_with (first | ((with_reducible refine gate_dst (N := 1) rfl ?_); (try (refine gate_guard (by rfl) ?_; dsimp only)); refine xE (N := 1) (cs := #[.slice A0_0 l0_0.length c0_0, .int .i64 a0_1]) (t := 42) (h := ?_); intro gb133 hg w6 hbox hb; have BK133 := am (hbox); have GW133 := am (xS hg HB.out); have GE133 := am (xS hg HB.out); replace HB := am (below_step (xW HB.out) hb); clear hb hbox hg; obtain ⟨hcz7_0, hcz7_1, hfz7_0, hfz7_1⟩ := xT2 (W := w6) BK133.out) | (go_at_call 61; (with_reducible refine (spec_l01In.calls (l0_0.length : Int) 1 24 true _ A2.out).mono ?_); rintro e w' ⟨rfl, ⟨nd, rfl⟩⟩; (try first | exact ⟨rfl, _, World.drewN_drewN _ _ _⟩ | exact ⟨rfl, _, Eq.trans (World.drewN_drewN _ _ _) (congrArg (World.drewN _) (Nat.add_assoc _ _ _))⟩)) | ((with_reducible refine gate_dst (N := 15) rfl ?_); (try (refine gate_guard (by rfl) ?_; dsimp only)); refine Kd.R_make Kd.bool _ 4 rfl (N := 15) rfl 97 _ _ rfl (l0_0.length : Int) rfl rfl Try.underlying97 (.bool false) 1 info4 rfl (by decide) (by omega) false (ok := fun _ => True) (okp := fun _ => True) rfl (fun _ hk => hk) trivial (of_decide_eq_true (by assumption)) (Nat.le_trans (Nat.mul_le_mul_right _ (of_decide_eq_true (by assumption) : (l0_0.length : Int).toNat ≤ 281474976710656)) (by omega)) (Below.refl _ _) (Nat.le_refl _) ?_; intro v136 w8 ho9 hb hg_ hnew_; clear hg_ hnew_; (first | rw [← Ny135.out] at ho9 | (simp only [Int.reduceToNat] at ho9; rw [← Ny135.out] at ho9)); have HO137 := am (Kd.R_lower ho9 (below_size (xW HB.out))); replace BK133 := am (blk_below (xB BK133.out) hb); replace HB := am (below_step (xW HB.out) hb); clear hb ho9; obtain ⟨hcz10_0, hcz10_1, hfz10_0, hfz10_1⟩ := xT2 (W := w8) BK133.out))
    repeat (go_quiet (first | ((with_reducible refine gate_dst (N := 1) rfl ?_); (try (refine gate_guard (by rfl) ?_; dsimp only)); refine xE (N := 1) (cs := #[.slice A0_0 l0_0.length c0_0, .int .i64 a0_1]) (t := 42) (h := ?_); intro gb133 hg w6 hbox hb; have BK133 := am (hbox); have GW133 := am (xS hg HB.out); have GE133 := am (xS hg HB.out); replace HB := am (below_step (xW HB.out) hb); clear hb hbox hg; obtain ⟨hcz7_0, hcz7_1, hfz7_0, hfz7_1⟩ := xT2 (W := w6) BK133.out) | (go_at_call 61; (with_reducible refine (spec_l01In.calls (l0_0.length : Int) 1 24 true _ A2.out).mono ?_); rintro e w' ⟨rfl, ⟨nd, rfl⟩⟩; (try first | exact ⟨rfl, _, World.drewN_drewN _ _ _⟩ | exact ⟨rfl, _, Eq.trans (World.drewN_drewN _ _ _) (congrArg (World.drewN _) (Nat.add_assoc _ _ _))⟩)) | ((with_reducible refine gate_dst (N := 15) rfl ?_); (try (refine gate_guard (by rfl) ?_; dsimp only)); refine Kd.R_make Kd.bool _ 4 rfl (N := 15) rfl 97 _ _ rfl (l0_0.length : Int) rfl rfl Try.underlying97 (.bool false) 1 info4 rfl (by decide) (by omega) false (ok := fun _ => True) (okp := fun _ => True) rfl (fun _ hk => hk) trivial (of_decide_eq_true (by assumption)) (Nat.le_trans (Nat.mul_le_mul_right _ (of_decide_eq_true (by assumption) : (l0_0.length : Int).toNat ≤ 281474976710656)) (by omega)) (Below.refl _ _) (Nat.le_refl _) ?_; intro v136 w8 ho9 hb hg_ hnew_; clear hg_ hnew_; (first | rw [← Ny135.out] at ho9 | (simp only [Int.reduceToNat] at ho9; rw [← Ny135.out] at ho9)); have HO137 := am (Kd.R_lower ho9 (below_size (xW HB.out))); replace BK133 := am (blk_below (xB BK133.out) hb); replace HB := am (below_step (xW HB.out) hb); clear hb ho9; obtain ⟨hcz10_0, hcz10_1, hfz10_0, hfz10_1⟩ := xT2 (W := w8) BK133.out)); try go_wp2_with (first | ((with_reducible refine gate_dst (N := 1) rfl ?_); (try (refine gate_guard (by rfl) ?_; dsimp only)); refine xE (N := 1) (cs := #[.slice A0_0 l0_0.length c0_0, .int .i64 a0_1]) (t := 42) (h := ?_); intro gb133 hg w6 hbox hb; have BK133 := am (hbox); have GW133 := am (xS hg HB.out); have GE133 := am (xS hg HB.out); replace HB := am (below_step (xW HB.out) hb); clear hb hbox hg; obtain ⟨hcz7_0, hcz7_1, hfz7_0, hfz7_1⟩ := xT2 (W := w6) BK133.out) | (go_at_call 61; (with_reducible refine (spec_l01In.calls (l0_0.length : Int) 1 24 true _ A2.out).mono ?_); rintro e w' ⟨rfl, ⟨nd, rfl⟩⟩; (try first | exact ⟨rfl, _, World.drewN_drewN _ _ _⟩ | exact ⟨rfl, _, Eq.trans (World.drewN_drewN _ _ _) (congrArg (World.drewN _) (Nat.add_assoc _ _ _))⟩)) | ((with_reducible refine gate_dst (N := 15) rfl ?_); (try (refine gate_guard (by rfl) ?_; dsimp only)); refine Kd.R_make Kd.bool _ 4 rfl (N := 15) rfl 97 _ _ rfl (l0_0.length : Int) rfl rfl Try.underlying97 (.bool false) 1 info4 rfl (by decide) (by omega) false (ok := fun _ => True) (okp := fun _ => True) rfl (fun _ hk => hk) trivial (of_decide_eq_true (by assumption)) (Nat.le_trans (Nat.mul_le_mul_right _ (of_decide_eq_true (by assumption) : (l0_0.length : Int).toNat ≤ 281474976710656)) (by omega)) (Below.refl _ _) (Nat.le_refl _) ?_; intro v136 w8 ho9 hb hg_ hnew_; clear hg_ hnew_; (first | rw [← Ny135.out] at ho9 | (simp only [Int.reduceToNat] at ho9; rw [← Ny135.out] at ho9)); have HO137 := am (Kd.R_lower ho9 (below_size (xW HB.out))); replace BK133 := am (blk_below (xB BK133.out) hb); replace HB := am (below_step (xW HB.out) hb); clear hb ho9; obtain ⟨hcz10_0, hcz10_1, hfz10_0, hfz10_1⟩ := xT2 (W := w8) BK133.out)))
    go_loopg [5] k (fun kq v5 w' => ∃ (x4_1 : List Bool) (x5_1 : Int), v5 = .int .i64 x5_1 ∧ Aside0 (spec_ArenaOk.l0 kq (l0_0.length : Int) x4_1 x5_1 l0_0 a0_1 = some r) ∧ Aside0 (kq ≤ k) ∧ Aside0 (Kd.R Kd.bool 4 w' w.heap.size (fun _ => True) v136 x4_1) ∧ Aside0 (w'.heap[gb133]? = some (.cells #[(.slice A0_0 l0_0.length c0_0), .int .i64 a0_1] 42 (0, 0))) ∧ Aside0 (Below w.heap.size w w'))
    case atStart => exact ⟨(y135), (a0_1), (xQ), H', ⟨Nat.le_refl _⟩, ⟨xR HO137.out⟩, ⟨xB BK133.out⟩, ⟨xW HB.out⟩⟩
    case round =>
     clear H'
     try clear p2
     try clear c3
     try clear c4
     try clear c4b0
     try clear c4b1
     try clear c5
     try clear c5b0
     try clear c5b1
     try clear c6
     try clear hcz10_0
     try clear hcz10_1
     try clear hcz7_0
     try clear hcz7_1
     try clear hfz10_0
     try clear hfz10_1
     try clear hfz7_0
     try clear hfz7_1
     obtain ⟨x4_1, x5_1, rfl, HA, HK1, HO_4, BK133, HB⟩ := hrel
     cases gk with
     | zero => exact absurd HA.out (by simp [spec_ArenaOk.l0])
     | succ k1 =>
      have H := HA.out
      clear HA
      simp only [spec_ArenaOk.l0] at H
      by_cases c11 : x5_1 = (-1)
      ·rw [if_pos c11] at H
       have c11b0 : (x5_1 == (-1)) = true := beq_iff_eq.mpr c11
       have c11b1 : (x5_1 != (-1)) = false := bne_eq_false_iff_eq.mpr c11
       clear c11
       have H' := am H
       clear H
       go_wp2
       repeat (go_quiet (fail); try go_wp2)
       go_loopg [6] k1 (fun kq v6 w' => ∃ (x6_2 : Int), v6 = .int .i64 x6_2 ∧ Aside0 (spec_ArenaOk.l1 kq (l0_0.length : Int) x4_1 x6_2 l0_0 a0_1 = some r) ∧ Aside0 (kq ≤ k1) ∧ Aside0 (Kd.R Kd.bool 4 w' w.heap.size (fun _ => True) v136 x4_1) ∧ Aside0 (w'.heap[gb133]? = some (.cells #[(.slice A0_0 l0_0.length c0_0), .int .i64 a0_1] 42 (0, 0))) ∧ Aside0 (Below w.heap.size w w'))
       case atStart => exact ⟨(0), (xQ), H', ⟨Nat.le_refl _⟩, ⟨xR HO_4.out⟩, ⟨xB BK133.out⟩, ⟨xW HB.out⟩⟩
       case round =>
        clear H'
        try clear c1
        try clear p2
        try clear c3
        try clear c4
        try clear c4b0
        try clear c4b1
        try clear c5
        try clear c5b0
        try clear c5b1
        try clear c6
        try clear c11
        try clear c11b0
        try clear c11b1
        try clear hcz10_0
        try clear hcz10_1
        try clear hcz7_0
        try clear hcz7_1
        try clear hfz10_0
        try clear hfz10_1
        try clear hfz7_0
        try clear hfz7_1
        try clear p2
        obtain ⟨x6_2, rfl, HA, HK2, HO_4, BK133, HB⟩ := hrel
        cases gk with
        | zero => exact absurd HA.out (by simp [spec_ArenaOk.l1])
        | succ k2 =>
         have H := HA.out
         clear HA
         simp only [spec_ArenaOk.l1] at H
         by_cases c12 : x6_2 < (l0_0.length : Int)
         ·rw [if_pos c12] at H
          have c12b0 : decide (x6_2 < (l0_0.length : Int)) = true := decide_eq_true c12
          clear c12
          by_cases c13 : 0 ≤ x6_2
          ·rw [if_pos c13] at H
           have c13b0 : decide (0 ≤ x6_2) = true := decide_eq_true c13
           clear c13
           by_cases c14 : x6_2 < (l0_0.length : Int)
           ·rw [if_pos c14] at H
            have c14b0 : decide (x6_2 < (l0_0.length : Int)) = true := decide_eq_true c14
            clear c14
            have HC15 := am H
            clear H
            obtain ⟨hcz16_0, hcz16_1, hfz16_0, hfz16_1⟩ := xT2 (W := wr) BK133.out
            have p143 : 0 ≤ (x6_2 : Int) := of_decide_eq_true (by assumption)
            have q143 : x6_2 < (l0_0.length : Int) := of_decide_eq_true (by assumption)
            obtain ⟨ad143, e143, hx143_0, hx143_1, hx143_2, hx143_3, hx143_4⟩ := at_T50 HR0_0.out x6_2 p143 q143
            cases e143
            replace hx143_0 := (HB.out.cell (World.block_lt_of_cell? w _ hx143_0)).trans hx143_0
            replace hx143_1 := (HB.out.cell (World.block_lt_of_cell? w _ hx143_1)).trans hx143_1
            replace hx143_2 := (HB.out.cell (World.block_lt_of_cell? w _ hx143_2)).trans hx143_2
            replace hx143_3 := (HB.out.cell (World.block_lt_of_cell? w _ hx143_3)).trans hx143_3
            replace hx143_4 := (HB.out.cell (World.block_lt_of_cell? w _ hx143_4)).trans hx143_4
            replace p143 := eq_true p143
            replace q143 := eq_true q143
            go_upto_region 15 with (first | ((with_reducible refine gate_dst (N := 7) rfl ?_); (try (refine gate_guard (by rfl) ?_; dsimp only)); refine xE (N := 7) (cs := #[.int .i64 0, .bool false, .string (⟨#[]⟩ : ByteArray), .string (⟨#[]⟩ : ByteArray), .int .i64 0]) (t := 50) (h := ?_); intro gb144 hg w17 hbox hb; replace HO_4 := am (Kd.R_below (xR HO_4.out) hb); have BK144 := am (hbox); have GW144 := am (xS hg HB.out); have GE144 := am (xS hg HB.out); replace HB := am (below_step (xW HB.out) hb); have NB133_144 := am (xN hg BK133.out); have NB144_133 := am (xM hg BK133.out); replace BK133 := am (blk_below (xB BK133.out) hb); clear hb hbox hg; have hnb18 := NB144_133.out; have hnc18 := NB133_144.out; have hcz19_0 : w17.cell? ⟨gb144, 0, none⟩ = some (.int .i64 0) := (blk_cell BK144.out 0).trans rfl; have hcz19_1 : w17.cell? ⟨gb144, 1, none⟩ = some (.bool false) := (blk_cell BK144.out 1).trans rfl; have hcz19_2 : w17.cell? ⟨gb144, 2, none⟩ = some (.string (⟨#[]⟩ : ByteArray)) := (blk_cell BK144.out 2).trans rfl; have hcz19_3 : w17.cell? ⟨gb144, 3, none⟩ = some (.string (⟨#[]⟩ : ByteArray)) := (blk_cell BK144.out 3).trans rfl; have hcz19_4 : w17.cell? ⟨gb144, 4, none⟩ = some (.int .i64 0) := (blk_cell BK144.out 4).trans rfl; have hfz19_0 := blk_frozen BK144.out 0; have hfz19_1 := blk_frozen BK144.out 1; have hfz19_2 := blk_frozen BK144.out 2; have hfz19_3 := blk_frozen BK144.out 3; have hfz19_4 := blk_frozen BK144.out 4))
            repeat (go_quiet (first | ((with_reducible refine gate_dst (N := 7) rfl ?_); (try (refine gate_guard (by rfl) ?_; dsimp only)); refine xE (N := 7) (cs := #[.int .i64 0, .bool false, .string (⟨#[]⟩ : ByteArray), .string (⟨#[]⟩ : ByteArray), .int .i64 0]) (t := 50) (h := ?_); intro gb144 hg w17 hbox hb; replace HO_4 := am (Kd.R_below (xR HO_4.out) hb); have BK144 := am (hbox); have GW144 := am (xS hg HB.out); have GE144 := am (xS hg HB.out); replace HB := am (below_step (xW HB.out) hb); have NB133_144 := am (xN hg BK133.out); have NB144_133 := am (xM hg BK133.out); replace BK133 := am (blk_below (xB BK133.out) hb); clear hb hbox hg; have hnb18 := NB144_133.out; have hnc18 := NB133_144.out; have hcz19_0 : w17.cell? ⟨gb144, 0, none⟩ = some (.int .i64 0) := (blk_cell BK144.out 0).trans rfl; have hcz19_1 : w17.cell? ⟨gb144, 1, none⟩ = some (.bool false) := (blk_cell BK144.out 1).trans rfl; have hcz19_2 : w17.cell? ⟨gb144, 2, none⟩ = some (.string (⟨#[]⟩ : ByteArray)) := (blk_cell BK144.out 2).trans rfl; have hcz19_3 : w17.cell? ⟨gb144, 3, none⟩ = some (.string (⟨#[]⟩ : ByteArray)) := (blk_cell BK144.out 3).trans rfl; have hcz19_4 : w17.cell? ⟨gb144, 4, none⟩ = some (.int .i64 0) := (blk_cell BK144.out 4).trans rfl; have hfz19_0 := blk_frozen BK144.out 0; have hfz19_1 := blk_frozen BK144.out 1; have hfz19_2 := blk_frozen BK144.out 2; have hfz19_3 := blk_frozen BK144.out 3; have hfz19_4 := blk_frozen BK144.out 4)); go_upto_region 15 with (first | ((with_reducible refine gate_dst (N := 7) rfl ?_); (try (refine gate_guard (by rfl) ?_; dsimp only)); refine xE (N := 7) (cs := #[.int .i64 0, .bool false, .string (⟨#[]⟩ : ByteArray), .string (⟨#[]⟩ : ByteArray), .int .i64 0]) (t := 50) (h := ?_); intro gb144 hg w17 hbox hb; replace HO_4 := am (Kd.R_below (xR HO_4.out) hb); have BK144 := am (hbox); have GW144 := am (xS hg HB.out); have GE144 := am (xS hg HB.out); replace HB := am (below_step (xW HB.out) hb); have NB133_144 := am (xN hg BK133.out); have NB144_133 := am (xM hg BK133.out); replace BK133 := am (blk_below (xB BK133.out) hb); clear hb hbox hg; have hnb18 := NB144_133.out; have hnc18 := NB133_144.out; have hcz19_0 : w17.cell? ⟨gb144, 0, none⟩ = some (.int .i64 0) := (blk_cell BK144.out 0).trans rfl; have hcz19_1 : w17.cell? ⟨gb144, 1, none⟩ = some (.bool false) := (blk_cell BK144.out 1).trans rfl; have hcz19_2 : w17.cell? ⟨gb144, 2, none⟩ = some (.string (⟨#[]⟩ : ByteArray)) := (blk_cell BK144.out 2).trans rfl; have hcz19_3 : w17.cell? ⟨gb144, 3, none⟩ = some (.string (⟨#[]⟩ : ByteArray)) := (blk_cell BK144.out 3).trans rfl; have hcz19_4 : w17.cell? ⟨gb144, 4, none⟩ = some (.int .i64 0) := (blk_cell BK144.out 4).trans rfl; have hfz19_0 := blk_frozen BK144.out 0; have hfz19_1 := blk_frozen BK144.out 1; have hfz19_2 := blk_frozen BK144.out 2; have hfz19_3 := blk_frozen BK144.out 3; have hfz19_4 := blk_frozen BK144.out 4)))
            (try simp only [Act.put, List.setIfInBounds_toArray, List.set_cons_zero, List.set_cons_succ])
            go_cut [70] (fun v70 wc => ∃ (kq : Nat) (x70_14 : Bool), v70 = .bool x70_14 ∧ Aside0 (spec_ArenaOk.j2 kq (l0_0.length : Int) x4_1 x6_2 x70_14 l0_0 a0_1 ((rd_T50 l0_0 x6_2).f0) ((rd_T50 l0_0 x6_2).f1) ((rd_T50 l0_0 x6_2).f2) ((rd_T50 l0_0 x6_2).f3) ((rd_T50 l0_0 x6_2).f4) = some r) ∧ Aside0 (kq ≤ k2) ∧ Aside0 (Kd.R Kd.bool 4 wc w.heap.size (fun _ => True) v136 x4_1) ∧ Aside0 (wc.heap[gb133]? = some (.cells #[(.slice (some ad143) l0_0.length c0_0), .int .i64 a0_1] 42 (0, 0))) ∧ Aside0 (wc.heap[gb144]? = some (.cells #[.int .i64 ((rd_T50 l0_0 x6_2).f0), .bool ((rd_T50 l0_0 x6_2).f1), .string ((rd_T50 l0_0 x6_2).f2), .string ((rd_T50 l0_0 x6_2).f3), .int .i64 ((rd_T50 l0_0 x6_2).f4)] 50 (0, 0))) ∧ Aside0 (Below w.heap.size w wc))
            case first =>
             have H := HC15.out
             clear HC15
             replace H := Option.bind_eq_some_iff.mp H
             obtain ⟨t145, A200, H⟩ := H
             try dsimp only at H
             have A20 := am A200
             clear A200
             by_cases c21 : t145 = true
             ·subst c21
              have H1 : (if x6_2 < (x4_1.length : Int) then (spec_ArenaOk.j2 k2 (l0_0.length : Int) x4_1 x6_2 (((rd_T50 l0_0 x6_2).f1) == (rdOf false x4_1 x6_2)) l0_0 a0_1 ((rd_T50 l0_0 x6_2).f0) ((rd_T50 l0_0 x6_2).f1) ((rd_T50 l0_0 x6_2).f2) ((rd_T50 l0_0 x6_2).f3) ((rd_T50 l0_0 x6_2).f4)) else (none)) = some r := by rw [if_pos rfl] at H; exact H
              clear H
              have H := H1
              clear H1
              by_cases c22 : x6_2 < (x4_1.length : Int)
              ·rw [if_pos c22] at H
               have c22b0 : decide (x6_2 < (x4_1.length : Int)) = true := decide_eq_true c22
               clear c22
               (first | rw [c22b0] | (simp only [i64_w, i32_w]; rw [c22b0]) | skip)
               have H' := am H
               clear H
               have hnb23 := NB144_133.out
               have hnc23 := NB133_144.out
               have hcz24_0 : w17.cell? ⟨gb144, 0, none⟩ = some (.int .i64 0) := (blk_cell BK144.out 0).trans rfl
               have hcz24_1 : w17.cell? ⟨gb144, 1, none⟩ = some (.bool false) := (blk_cell BK144.out 1).trans rfl
               have hcz24_2 : w17.cell? ⟨gb144, 2, none⟩ = some (.string (⟨#[]⟩ : ByteArray)) := (blk_cell BK144.out 2).trans rfl
               have hcz24_3 : w17.cell? ⟨gb144, 3, none⟩ = some (.string (⟨#[]⟩ : ByteArray)) := (blk_cell BK144.out 3).trans rfl
               have hcz24_4 : w17.cell? ⟨gb144, 4, none⟩ = some (.int .i64 0) := (blk_cell BK144.out 4).trans rfl
               have hfz24_0 := blk_frozen BK144.out 0
               have hfz24_1 := blk_frozen BK144.out 1
               have hfz24_2 := blk_frozen BK144.out 2
               have hfz24_3 := blk_frozen BK144.out 3
               have hfz24_4 := blk_frozen BK144.out 4
               go_wp2_with (first | (go_at_call 61; (with_reducible refine (spec_l01In.calls ((rd_T50 l0_0 x6_2).f0) 0 41666665 true _ A20.out).mono ?_); rintro e w' ⟨rfl, ⟨nd, rfl⟩⟩; (try first | exact ⟨rfl, _, World.drewN_drewN _ _ _⟩ | exact ⟨rfl, _, Eq.trans (World.drewN_drewN _ _ _) (congrArg (World.drewN _) (Nat.add_assoc _ _ _))⟩); obtain ⟨Ao25, co25, eo25⟩ := Kd.R_slice HO_4.out; subst eo25; have p146 : 0 ≤ (x6_2 : Int) := of_decide_eq_true (by assumption); have q146 : x6_2 < (x4_1.length : Int) := of_decide_eq_true (by assumption); obtain ⟨ad146, e146, hx146_0⟩ := Kd.at_bool (Kd.R_reads' HO_4.out).2.2 x6_2 p146 q146; cases e146; have hn146_0 : ad146.block ≠ gb144 := Kd.own_blk (Kd.R_ne HO_4.out BK144.out (by decide)); have hn146_1 : ad146.block ≠ gb144 := Kd.own_blk (Kd.R_ne HO_4.out BK144.out (by decide)); have hn146_2 : ad146.block ≠ gb144 := Kd.own_blk (Kd.R_ne HO_4.out BK144.out (by decide)); have hn146_3 : ad146.block ≠ gb144 := Kd.own_blk (Kd.R_ne HO_4.out BK144.out (by decide)); have hn146_4 : ad146.block ≠ gb144 := Kd.own_blk (Kd.R_ne HO_4.out BK144.out (by decide)); replace hx146_0 := (cell_far (p := ⟨gb144, 0, none⟩) (by first | (rw [add_block]; exact hn146_0) | (show (Addr.add _ _).block ≠ _; rw [add_block]; exact hn146_0) | exact hn146_0) (.int .i64 ((rd_T50 l0_0 x6_2).f0))).trans hx146_0; replace hx146_0 := (cell_far (p := ⟨gb144, 1, none⟩) (by first | (rw [add_block]; exact hn146_1) | (show (Addr.add _ _).block ≠ _; rw [add_block]; exact hn146_1) | exact hn146_1) (.bool ((rd_T50 l0_0 x6_2).f1))).trans hx146_0; replace hx146_0 := (cell_far (p := ⟨gb144, 2, none⟩) (by first | (rw [add_block]; exact hn146_2) | (show (Addr.add _ _).block ≠ _; rw [add_block]; exact hn146_2) | exact hn146_2) (.string ((rd_T50 l0_0 x6_2).f2))).trans hx146_0; replace hx146_0 := (cell_far (p := ⟨gb144, 3, none⟩) (by first | (rw [add_block]; exact hn146_3) | (show (Addr.add _ _).block ≠ _; rw [add_block]; exact hn146_3) | exact hn146_3) (.string ((rd_T50 l0_0 x6_2).f3))).trans hx146_0; replace hx146_0 := (cell_far (p := ⟨gb144, 4, none⟩) (by first | (rw [add_block]; exact hn146_4) | (show (Addr.add _ _).block ≠ _; rw [add_block]; exact hn146_4) | exact hn146_4) (.int .i64 ((rd_T50 l0_0 x6_2).f4))).trans hx146_0; (try have hy146_0 := fun (n_ : Nat) => (show (((((((w17.drewN n_).setCell ⟨gb144, 0, none⟩ (.int .i64 ((rd_T50 l0_0 x6_2).f0))).setCell ⟨gb144, 1, none⟩ (.bool ((rd_T50 l0_0 x6_2).f1))).setCell ⟨gb144, 2, none⟩ (.string ((rd_T50 l0_0 x6_2).f2))).setCell ⟨gb144, 3, none⟩ (.string ((rd_T50 l0_0 x6_2).f3))).setCell ⟨gb144, 4, none⟩ (.int .i64 ((rd_T50 l0_0 x6_2).f4)))).cell? _ = some _ from hx146_0)); clear hn146_0; clear hn146_1; clear hn146_2; clear hn146_3; clear hn146_4; replace p146 := eq_true p146; replace q146 := eq_true q146))
               repeat (go_quiet (first | (go_at_call 61; (with_reducible refine (spec_l01In.calls ((rd_T50 l0_0 x6_2).f0) 0 41666665 true _ A20.out).mono ?_); rintro e w' ⟨rfl, ⟨nd, rfl⟩⟩; (try first | exact ⟨rfl, _, World.drewN_drewN _ _ _⟩ | exact ⟨rfl, _, Eq.trans (World.drewN_drewN _ _ _) (congrArg (World.drewN _) (Nat.add_assoc _ _ _))⟩); obtain ⟨Ao25, co25, eo25⟩ := Kd.R_slice HO_4.out; subst eo25; have p146 : 0 ≤ (x6_2 : Int) := of_decide_eq_true (by assumption); have q146 : x6_2 < (x4_1.length : Int) := of_decide_eq_true (by assumption); obtain ⟨ad146, e146, hx146_0⟩ := Kd.at_bool (Kd.R_reads' HO_4.out).2.2 x6_2 p146 q146; cases e146; have hn146_0 : ad146.block ≠ gb144 := Kd.own_blk (Kd.R_ne HO_4.out BK144.out (by decide)); have hn146_1 : ad146.block ≠ gb144 := Kd.own_blk (Kd.R_ne HO_4.out BK144.out (by decide)); have hn146_2 : ad146.block ≠ gb144 := Kd.own_blk (Kd.R_ne HO_4.out BK144.out (by decide)); have hn146_3 : ad146.block ≠ gb144 := Kd.own_blk (Kd.R_ne HO_4.out BK144.out (by decide)); have hn146_4 : ad146.block ≠ gb144 := Kd.own_blk (Kd.R_ne HO_4.out BK144.out (by decide)); replace hx146_0 := (cell_far (p := ⟨gb144, 0, none⟩) (by first | (rw [add_block]; exact hn146_0) | (show (Addr.add _ _).block ≠ _; rw [add_block]; exact hn146_0) | exact hn146_0) (.int .i64 ((rd_T50 l0_0 x6_2).f0))).trans hx146_0; replace hx146_0 := (cell_far (p := ⟨gb144, 1, none⟩) (by first | (rw [add_block]; exact hn146_1) | (show (Addr.add _ _).block ≠ _; rw [add_block]; exact hn146_1) | exact hn146_1) (.bool ((rd_T50 l0_0 x6_2).f1))).trans hx146_0; replace hx146_0 := (cell_far (p := ⟨gb144, 2, none⟩) (by first | (rw [add_block]; exact hn146_2) | (show (Addr.add _ _).block ≠ _; rw [add_block]; exact hn146_2) | exact hn146_2) (.string ((rd_T50 l0_0 x6_2).f2))).trans hx146_0; replace hx146_0 := (cell_far (p := ⟨gb144, 3, none⟩) (by first | (rw [add_block]; exact hn146_3) | (show (Addr.add _ _).block ≠ _; rw [add_block]; exact hn146_3) | exact hn146_3) (.string ((rd_T50 l0_0 x6_2).f3))).trans hx146_0; replace hx146_0 := (cell_far (p := ⟨gb144, 4, none⟩) (by first | (rw [add_block]; exact hn146_4) | (show (Addr.add _ _).block ≠ _; rw [add_block]; exact hn146_4) | exact hn146_4) (.int .i64 ((rd_T50 l0_0 x6_2).f4))).trans hx146_0; (try have hy146_0 := fun (n_ : Nat) => (show (((((((w17.drewN n_).setCell ⟨gb144, 0, none⟩ (.int .i64 ((rd_T50 l0_0 x6_2).f0))).setCell ⟨gb144, 1, none⟩ (.bool ((rd_T50 l0_0 x6_2).f1))).setCell ⟨gb144, 2, none⟩ (.string ((rd_T50 l0_0 x6_2).f2))).setCell ⟨gb144, 3, none⟩ (.string ((rd_T50 l0_0 x6_2).f3))).setCell ⟨gb144, 4, none⟩ (.int .i64 ((rd_T50 l0_0 x6_2).f4)))).cell? _ = some _ from hx146_0)); clear hn146_0; clear hn146_1; clear hn146_2; clear hn146_3; clear hn146_4; replace p146 := eq_true p146; replace q146 := eq_true q146)); try go_wp2_with (first | (go_at_call 61; (with_reducible refine (spec_l01In.calls ((rd_T50 l0_0 x6_2).f0) 0 41666665 true _ A20.out).mono ?_); rintro e w' ⟨rfl, ⟨nd, rfl⟩⟩; (try first | exact ⟨rfl, _, World.drewN_drewN _ _ _⟩ | exact ⟨rfl, _, Eq.trans (World.drewN_drewN _ _ _) (congrArg (World.drewN _) (Nat.add_assoc _ _ _))⟩); obtain ⟨Ao25, co25, eo25⟩ := Kd.R_slice HO_4.out; subst eo25; have p146 : 0 ≤ (x6_2 : Int) := of_decide_eq_true (by assumption); have q146 : x6_2 < (x4_1.length : Int) := of_decide_eq_true (by assumption); obtain ⟨ad146, e146, hx146_0⟩ := Kd.at_bool (Kd.R_reads' HO_4.out).2.2 x6_2 p146 q146; cases e146; have hn146_0 : ad146.block ≠ gb144 := Kd.own_blk (Kd.R_ne HO_4.out BK144.out (by decide)); have hn146_1 : ad146.block ≠ gb144 := Kd.own_blk (Kd.R_ne HO_4.out BK144.out (by decide)); have hn146_2 : ad146.block ≠ gb144 := Kd.own_blk (Kd.R_ne HO_4.out BK144.out (by decide)); have hn146_3 : ad146.block ≠ gb144 := Kd.own_blk (Kd.R_ne HO_4.out BK144.out (by decide)); have hn146_4 : ad146.block ≠ gb144 := Kd.own_blk (Kd.R_ne HO_4.out BK144.out (by decide)); replace hx146_0 := (cell_far (p := ⟨gb144, 0, none⟩) (by first | (rw [add_block]; exact hn146_0) | (show (Addr.add _ _).block ≠ _; rw [add_block]; exact hn146_0) | exact hn146_0) (.int .i64 ((rd_T50 l0_0 x6_2).f0))).trans hx146_0; replace hx146_0 := (cell_far (p := ⟨gb144, 1, none⟩) (by first | (rw [add_block]; exact hn146_1) | (show (Addr.add _ _).block ≠ _; rw [add_block]; exact hn146_1) | exact hn146_1) (.bool ((rd_T50 l0_0 x6_2).f1))).trans hx146_0; replace hx146_0 := (cell_far (p := ⟨gb144, 2, none⟩) (by first | (rw [add_block]; exact hn146_2) | (show (Addr.add _ _).block ≠ _; rw [add_block]; exact hn146_2) | exact hn146_2) (.string ((rd_T50 l0_0 x6_2).f2))).trans hx146_0; replace hx146_0 := (cell_far (p := ⟨gb144, 3, none⟩) (by first | (rw [add_block]; exact hn146_3) | (show (Addr.add _ _).block ≠ _; rw [add_block]; exact hn146_3) | exact hn146_3) (.string ((rd_T50 l0_0 x6_2).f3))).trans hx146_0; replace hx146_0 := (cell_far (p := ⟨gb144, 4, none⟩) (by first | (rw [add_block]; exact hn146_4) | (show (Addr.add _ _).block ≠ _; rw [add_block]; exact hn146_4) | exact hn146_4) (.int .i64 ((rd_T50 l0_0 x6_2).f4))).trans hx146_0; (try have hy146_0 := fun (n_ : Nat) => (show (((((((w17.drewN n_).setCell ⟨gb144, 0, none⟩ (.int .i64 ((rd_T50 l0_0 x6_2).f0))).setCell ⟨gb144, 1, none⟩ (.bool ((rd_T50 l0_0 x6_2).f1))).setCell ⟨gb144, 2, none⟩ (.string ((rd_T50 l0_0 x6_2).f2))).setCell ⟨gb144, 3, none⟩ (.string ((rd_T50 l0_0 x6_2).f3))).setCell ⟨gb144, 4, none⟩ (.int .i64 ((rd_T50 l0_0 x6_2).f4)))).cell? _ = some _ from hx146_0)); clear hn146_0; clear hn146_1; clear hn146_2; clear hn146_3; clear hn146_4; replace p146 := eq_true p146; replace q146 := eq_true q146)))
               go_meet
               case rel => exact ⟨_, ((((rd_T50 l0_0 x6_2).f1) == (rdOf false x4_1 x6_2))), (xQ), H', ⟨by have := HK1.out; have := HK2.out; first | omega | exact Nat.le_refl _⟩, ⟨by (with_reducible repeat (first | apply Kd.R_alloc | apply Kd.R_drewN | apply Kd.R_drew)); exact Kd.R_mono (Kd.R_far (p := ⟨gb144, 4, none⟩) (Kd.R_far (p := ⟨gb144, 3, none⟩) (Kd.R_far (p := ⟨gb144, 2, none⟩) (Kd.R_far (p := ⟨gb144, 1, none⟩) (Kd.R_far (p := ⟨gb144, 0, none⟩) (Kd.R_types HO_4.out BK144.out (by decide)) (fun _ hk => hk.2) (.int .i64 ((rd_T50 l0_0 x6_2).f0))) (fun _ hk => hk.2) (.bool ((rd_T50 l0_0 x6_2).f1))) (fun _ hk => hk.2) (.string ((rd_T50 l0_0 x6_2).f2))) (fun _ hk => hk.2) (.string ((rd_T50 l0_0 x6_2).f3))) (fun _ hk => hk.2) (.int .i64 ((rd_T50 l0_0 x6_2).f4))) (fun _ hk => trivial)⟩, ⟨xB BK133.out⟩, ⟨xP BK144.out⟩, ⟨xW HB.out⟩⟩
              ·rw [if_neg c22] at H
               exact absurd H (by simp)
             ·replace c21 := Bool.eq_false_iff.mpr c21
              subst c21
              have H1 : (spec_ArenaOk.j2 k2 (l0_0.length : Int) x4_1 x6_2 true l0_0 a0_1 ((rd_T50 l0_0 x6_2).f0) ((rd_T50 l0_0 x6_2).f1) ((rd_T50 l0_0 x6_2).f2) ((rd_T50 l0_0 x6_2).f3) ((rd_T50 l0_0 x6_2).f4)) = some r := by rw [if_neg (show ¬ (false = true) by decide)] at H; exact H
              clear H
              have H := H1
              clear H1
              have H' := am H
              clear H
              have hnb26 := NB144_133.out
              have hnc26 := NB133_144.out
              have hcz27_0 : w17.cell? ⟨gb144, 0, none⟩ = some (.int .i64 0) := (blk_cell BK144.out 0).trans rfl
              have hcz27_1 : w17.cell? ⟨gb144, 1, none⟩ = some (.bool false) := (blk_cell BK144.out 1).trans rfl
              have hcz27_2 : w17.cell? ⟨gb144, 2, none⟩ = some (.string (⟨#[]⟩ : ByteArray)) := (blk_cell BK144.out 2).trans rfl
              have hcz27_3 : w17.cell? ⟨gb144, 3, none⟩ = some (.string (⟨#[]⟩ : ByteArray)) := (blk_cell BK144.out 3).trans rfl
              have hcz27_4 : w17.cell? ⟨gb144, 4, none⟩ = some (.int .i64 0) := (blk_cell BK144.out 4).trans rfl
              have hfz27_0 := blk_frozen BK144.out 0
              have hfz27_1 := blk_frozen BK144.out 1
              have hfz27_2 := blk_frozen BK144.out 2
              have hfz27_3 := blk_frozen BK144.out 3
              have hfz27_4 := blk_frozen BK144.out 4
              go_wp2_with (first | (go_at_call 61; (with_reducible refine (spec_l01In.calls ((rd_T50 l0_0 x6_2).f0) 0 41666665 false _ A20.out).mono ?_); rintro e w' ⟨rfl, ⟨nd, rfl⟩⟩; (try first | exact ⟨rfl, _, World.drewN_drewN _ _ _⟩ | exact ⟨rfl, _, Eq.trans (World.drewN_drewN _ _ _) (congrArg (World.drewN _) (Nat.add_assoc _ _ _))⟩)))
              repeat (go_quiet (first | (go_at_call 61; (with_reducible refine (spec_l01In.calls ((rd_T50 l0_0 x6_2).f0) 0 41666665 false _ A20.out).mono ?_); rintro e w' ⟨rfl, ⟨nd, rfl⟩⟩; (try first | exact ⟨rfl, _, World.drewN_drewN _ _ _⟩ | exact ⟨rfl, _, Eq.trans (World.drewN_drewN _ _ _) (congrArg (World.drewN _) (Nat.add_assoc _ _ _))⟩))); try go_wp2_with (first | (go_at_call 61; (with_reducible refine (spec_l01In.calls ((rd_T50 l0_0 x6_2).f0) 0 41666665 false _ A20.out).mono ?_); rintro e w' ⟨rfl, ⟨nd, rfl⟩⟩; (try first | exact ⟨rfl, _, World.drewN_drewN _ _ _⟩ | exact ⟨rfl, _, Eq.trans (World.drewN_drewN _ _ _) (congrArg (World.drewN _) (Nat.add_assoc _ _ _))⟩))))
              go_meet
              case rel => exact ⟨_, (true), (xQ), H', ⟨by have := HK1.out; have := HK2.out; first | omega | exact Nat.le_refl _⟩, ⟨by (with_reducible repeat (first | apply Kd.R_alloc | apply Kd.R_drewN | apply Kd.R_drew)); exact Kd.R_mono (Kd.R_far (p := ⟨gb144, 4, none⟩) (Kd.R_far (p := ⟨gb144, 3, none⟩) (Kd.R_far (p := ⟨gb144, 2, none⟩) (Kd.R_far (p := ⟨gb144, 1, none⟩) (Kd.R_far (p := ⟨gb144, 0, none⟩) (Kd.R_types HO_4.out BK144.out (by decide)) (fun _ hk => hk.2) (.int .i64 ((rd_T50 l0_0 x6_2).f0))) (fun _ hk => hk.2) (.bool ((rd_T50 l0_0 x6_2).f1))) (fun _ hk => hk.2) (.string ((rd_T50 l0_0 x6_2).f2))) (fun _ hk => hk.2) (.string ((rd_T50 l0_0 x6_2).f3))) (fun _ hk => hk.2) (.int .i64 ((rd_T50 l0_0 x6_2).f4))) (fun _ hk => trivial)⟩, ⟨xB BK133.out⟩, ⟨xP BK144.out⟩, ⟨xW HB.out⟩⟩
            case rest =>
             clear HC15
             try clear c1
             try clear p1
             try clear q1
             try clear hx1
             try clear c2
             try clear p2
             try clear c3
             try clear c4
             try clear c4b0
             try clear c4b1
             try clear c5
             try clear c5b0
             try clear c5b1
             try clear c6
             try clear c11
             try clear c11b0
             try clear c11b1
             try clear c12
             try clear c12b0
             try clear c13
             try clear c13b0
             try clear c14
             try clear c14b0
             try clear p14
             try clear q14
             try clear hx14
             try clear c18
             try clear c21
             try clear c22
             try clear c22b0
             try clear c23
             try clear c26
             try clear hcz10_0
             try clear hcz10_1
             try clear hcz16_0
             try clear hcz16_1
             try clear hcz19_0
             try clear hcz19_1
             try clear hcz19_2
             try clear hcz19_3
             try clear hcz19_4
             try clear hcz24_0
             try clear hcz24_1
             try clear hcz24_2
             try clear hcz24_3
             try clear hcz24_4
             try clear hcz27_0
             try clear hcz27_1
             try clear hcz27_2
             try clear hcz27_3
             try clear hcz27_4
             try clear hcz7_0
             try clear hcz7_1
             try clear hfz10_0
             try clear hfz10_1
             try clear hfz16_0
             try clear hfz16_1
             try clear hfz19_0
             try clear hfz19_1
             try clear hfz19_2
             try clear hfz19_3
             try clear hfz19_4
             try clear hfz24_0
             try clear hfz24_1
             try clear hfz24_2
             try clear hfz24_3
             try clear hfz24_4
             try clear hfz27_0
             try clear hfz27_1
             try clear hfz27_2
             try clear hfz27_3
             try clear hfz27_4
             try clear hfz7_0
             try clear hfz7_1
             try clear hx143_0
             try clear hx143_1
             try clear hx143_2
             try clear hx143_3
             try clear hx143_4
             try clear hx146_0
             try clear p143
             try clear p146
             try clear p2
             try clear q143
             try clear q146
             obtain ⟨kq, x70_14, rfl, HA, HJ14, HO_4, BK133, BK144, HB⟩ := hcut
             cases kq with
             | zero => exact absurd HA.out (by simp [spec_ArenaOk.j2])
             | succ kj14 =>
              have H := HA.out
              clear HA
              simp only [spec_ArenaOk.j2] at H
              by_cases c28 : x70_14 = true
              ·subst c28
               have H1 : (some false) = some r := by rw [if_pos rfl] at H; exact H
               clear H
               have H := H1
               clear H1
               obtain rfl := Option.some.inj H
               go_wp2
               repeat (go_quiet (fail); try go_wp2)
               go_ret
               exact ⟨xV, xW HB.out⟩
              ·replace c28 := Bool.eq_false_iff.mpr c28
               subst c28
               have H1 : (if ((rd_T50 l0_0 x6_2).f1) = true then ((spec_l01In.f (((rd_T50 l0_0 x6_2).f2).size : Int) 1 12).bind fun t147 => (if t147 = true then (if (((rd_T50 l0_0 x6_2).f3).size : Int) > 20 then (some false) else (if ((rd_T50 l0_0 x6_2).f4) = 0 then (spec_ArenaOk.l1 kj14 (l0_0.length : Int) x4_1 (wrap64 (x6_2 + 1)) l0_0 a0_1) else (some false))) else (some false))) else (if ((rd_T50 l0_0 x6_2).f2).toList = ([] : List UInt8) then (if ((rd_T50 l0_0 x6_2).f3).toList = ([] : List UInt8) then (spec_ArenaOk.l1 kj14 (l0_0.length : Int) x4_1 (wrap64 (x6_2 + 1)) l0_0 a0_1) else (some false)) else (some false))) = some r := by rw [if_neg (show ¬ (false = true) by decide)] at H; exact H
               clear H
               have H := H1
               clear H1
               by_cases c29 : ((rd_T50 l0_0 x6_2).f1) = true
               ·rw [if_pos c29] at H
                have c29b0 : ((rd_T50 l0_0 x6_2).f1) = true := c29
                clear c29
                replace H := Option.bind_eq_some_iff.mp H
                obtain ⟨t147, A300, H⟩ := H
                try dsimp only at H
                have A30 := am A300
                clear A300
                by_cases c31 : t147 = true
                ·subst c31
                 have H1 : (if (((rd_T50 l0_0 x6_2).f3).size : Int) > 20 then (some false) else (if ((rd_T50 l0_0 x6_2).f4) = 0 then (spec_ArenaOk.l1 kj14 (l0_0.length : Int) x4_1 (wrap64 (x6_2 + 1)) l0_0 a0_1) else (some false))) = some r := by rw [if_pos rfl] at H; exact H
                 clear H
                 have H := H1
                 clear H1
                 by_cases c32 : (((rd_T50 l0_0 x6_2).f3).size : Int) > 20
                 ·rw [if_pos c32] at H
                  have c32b0 : decide (20 < (((rd_T50 l0_0 x6_2).f3).size : Int)) = true := decide_eq_true c32
                  have c32b1 : decide (20 < ((rd_T50 l0_0 x6_2).f3).size) = true := decide_eq_true (by omega)
                  clear c32
                  obtain rfl := Option.some.inj H
                  have hnb33 := NB144_133.out
                  have hnc33 := NB133_144.out
                  have hcz34_0 : wc.cell? ⟨gb144, 0, none⟩ = some (.int .i64 ((rd_T50 l0_0 x6_2).f0)) := (blk_cell BK144.out 0).trans rfl
                  have hcz34_1 : wc.cell? ⟨gb144, 1, none⟩ = some (.bool ((rd_T50 l0_0 x6_2).f1)) := (blk_cell BK144.out 1).trans rfl
                  have hcz34_2 : wc.cell? ⟨gb144, 2, none⟩ = some (.string ((rd_T50 l0_0 x6_2).f2)) := (blk_cell BK144.out 2).trans rfl
                  have hcz34_3 : wc.cell? ⟨gb144, 3, none⟩ = some (.string ((rd_T50 l0_0 x6_2).f3)) := (blk_cell BK144.out 3).trans rfl
                  have hcz34_4 : wc.cell? ⟨gb144, 4, none⟩ = some (.int .i64 ((rd_T50 l0_0 x6_2).f4)) := (blk_cell BK144.out 4).trans rfl
                  have hfz34_0 := blk_frozen BK144.out 0
                  have hfz34_1 := blk_frozen BK144.out 1
                  have hfz34_2 := blk_frozen BK144.out 2
                  have hfz34_3 := blk_frozen BK144.out 3
                  have hfz34_4 := blk_frozen BK144.out 4
                  go_wp2_with (first | (go_at_call 61; (with_reducible refine (spec_l01In.calls (((rd_T50 l0_0 x6_2).f2).size : Int) 1 12 true _ A30.out).mono ?_); rintro e w' ⟨rfl, ⟨nd, rfl⟩⟩; (try first | exact ⟨rfl, _, World.drewN_drewN _ _ _⟩ | exact ⟨rfl, _, Eq.trans (World.drewN_drewN _ _ _) (congrArg (World.drewN _) (Nat.add_assoc _ _ _))⟩)))
                  repeat (go_quiet (first | (go_at_call 61; (with_reducible refine (spec_l01In.calls (((rd_T50 l0_0 x6_2).f2).size : Int) 1 12 true _ A30.out).mono ?_); rintro e w' ⟨rfl, ⟨nd, rfl⟩⟩; (try first | exact ⟨rfl, _, World.drewN_drewN _ _ _⟩ | exact ⟨rfl, _, Eq.trans (World.drewN_drewN _ _ _) (congrArg (World.drewN _) (Nat.add_assoc _ _ _))⟩))); try go_wp2_with (first | (go_at_call 61; (with_reducible refine (spec_l01In.calls (((rd_T50 l0_0 x6_2).f2).size : Int) 1 12 true _ A30.out).mono ?_); rintro e w' ⟨rfl, ⟨nd, rfl⟩⟩; (try first | exact ⟨rfl, _, World.drewN_drewN _ _ _⟩ | exact ⟨rfl, _, Eq.trans (World.drewN_drewN _ _ _) (congrArg (World.drewN _) (Nat.add_assoc _ _ _))⟩))))
                  go_ret
                  exact ⟨xV, xW HB.out⟩
                 ·rw [if_neg c32] at H
                  have c32b0 : decide (20 < (((rd_T50 l0_0 x6_2).f3).size : Int)) = false := decide_eq_false c32
                  have c32b1 : decide (20 < ((rd_T50 l0_0 x6_2).f3).size) = false := decide_eq_false (by omega)
                  clear c32
                  by_cases c35 : ((rd_T50 l0_0 x6_2).f4) = 0
                  ·rw [if_pos c35] at H
                   have c35b0 : (((rd_T50 l0_0 x6_2).f4) == 0) = true := beq_iff_eq.mpr c35
                   have c35b1 : (((rd_T50 l0_0 x6_2).f4) != 0) = false := bne_eq_false_iff_eq.mpr c35
                   clear c35
                   have H' := am H
                   clear H
                   have hnb36 := NB144_133.out
                   have hnc36 := NB133_144.out
                   have hcz37_0 : wc.cell? ⟨gb144, 0, none⟩ = some (.int .i64 ((rd_T50 l0_0 x6_2).f0)) := (blk_cell BK144.out 0).trans rfl
                   have hcz37_1 : wc.cell? ⟨gb144, 1, none⟩ = some (.bool ((rd_T50 l0_0 x6_2).f1)) := (blk_cell BK144.out 1).trans rfl
                   have hcz37_2 : wc.cell? ⟨gb144, 2, none⟩ = some (.string ((rd_T50 l0_0 x6_2).f2)) := (blk_cell BK144.out 2).trans rfl
                   have hcz37_3 : wc.cell? ⟨gb144, 3, none⟩ = some (.string ((rd_T50 l0_0 x6_2).f3)) := (blk_cell BK144.out 3).trans rfl
                   have hcz37_4 : wc.cell? ⟨gb144, 4, none⟩ = some (.int .i64 ((rd_T50 l0_0 x6_2).f4)) := (blk_cell BK144.out 4).trans rfl
                   have hfz37_0 := blk_frozen BK144.out 0
                   have hfz37_1 := blk_frozen BK144.out 1
                   have hfz37_2 := blk_frozen BK144.out 2
                   have hfz37_3 := blk_frozen BK144.out 3
                   have hfz37_4 := blk_frozen BK144.out 4
                   go_wp2_with (first | (go_at_call 61; (with_reducible refine (spec_l01In.calls (((rd_T50 l0_0 x6_2).f2).size : Int) 1 12 true _ A30.out).mono ?_); rintro e w' ⟨rfl, ⟨nd, rfl⟩⟩; (try first | exact ⟨rfl, _, World.drewN_drewN _ _ _⟩ | exact ⟨rfl, _, Eq.trans (World.drewN_drewN _ _ _) (congrArg (World.drewN _) (Nat.add_assoc _ _ _))⟩)))
                   repeat (go_quiet (first | (go_at_call 61; (with_reducible refine (spec_l01In.calls (((rd_T50 l0_0 x6_2).f2).size : Int) 1 12 true _ A30.out).mono ?_); rintro e w' ⟨rfl, ⟨nd, rfl⟩⟩; (try first | exact ⟨rfl, _, World.drewN_drewN _ _ _⟩ | exact ⟨rfl, _, Eq.trans (World.drewN_drewN _ _ _) (congrArg (World.drewN _) (Nat.add_assoc _ _ _))⟩))); try go_wp2_with (first | (go_at_call 61; (with_reducible refine (spec_l01In.calls (((rd_T50 l0_0 x6_2).f2).size : Int) 1 12 true _ A30.out).mono ?_); rintro e w' ⟨rfl, ⟨nd, rfl⟩⟩; (try first | exact ⟨rfl, _, World.drewN_drewN _ _ _⟩ | exact ⟨rfl, _, Eq.trans (World.drewN_drewN _ _ _) (congrArg (World.drewN _) (Nat.add_assoc _ _ _))⟩))))
                   go_roundg kj14
                   case measure => have := HK1.out; have := HK2.out; have := HJ14.out; omega
                   case rel => exact ⟨(wrap64 (x6_2 + 1)), (xQ), H', ⟨by have := HK1.out; have := HK2.out; have := HJ14.out; omega⟩, ⟨xR HO_4.out⟩, ⟨xB BK133.out⟩, ⟨xW HB.out⟩⟩
                  ·rw [if_neg c35] at H
                   have c35b0 : (((rd_T50 l0_0 x6_2).f4) == 0) = false := beq_eq_false_iff_ne.mpr c35
                   have c35b1 : (((rd_T50 l0_0 x6_2).f4) != 0) = true := bne_iff_ne.mpr c35
                   obtain rfl := Option.some.inj H
                   have hnb38 := NB144_133.out
                   have hnc38 := NB133_144.out
                   have hcz39_0 : wc.cell? ⟨gb144, 0, none⟩ = some (.int .i64 ((rd_T50 l0_0 x6_2).f0)) := (blk_cell BK144.out 0).trans rfl
                   have hcz39_1 : wc.cell? ⟨gb144, 1, none⟩ = some (.bool ((rd_T50 l0_0 x6_2).f1)) := (blk_cell BK144.out 1).trans rfl
                   have hcz39_2 : wc.cell? ⟨gb144, 2, none⟩ = some (.string ((rd_T50 l0_0 x6_2).f2)) := (blk_cell BK144.out 2).trans rfl
                   have hcz39_3 : wc.cell? ⟨gb144, 3, none⟩ = some (.string ((rd_T50 l0_0 x6_2).f3)) := (blk_cell BK144.out 3).trans rfl
                   have hcz39_4 : wc.cell? ⟨gb144, 4, none⟩ = some (.int .i64 ((rd_T50 l0_0 x6_2).f4)) := (blk_cell BK144.out 4).trans rfl
                   have hfz39_0 := blk_frozen BK144.out 0
                   have hfz39_1 := blk_frozen BK144.out 1
                   have hfz39_2 := blk_frozen BK144.out 2
                   have hfz39_3 := blk_frozen BK144.out 3
                   have hfz39_4 := blk_frozen BK144.out 4
                   go_wp2_with (first | (go_at_call 61; (with_reducible refine (spec_l01In.calls (((rd_T50 l0_0 x6_2).f2).size : Int) 1 12 true _ A30.out).mono ?_); rintro e w' ⟨rfl, ⟨nd, rfl⟩⟩; (try first | exact ⟨rfl, _, World.drewN_drewN _ _ _⟩ | exact ⟨rfl, _, Eq.trans (World.drewN_drewN _ _ _) (congrArg (World.drewN _) (Nat.add_assoc _ _ _))⟩)))
                   repeat (go_quiet (first | (go_at_call 61; (with_reducible refine (spec_l01In.calls (((rd_T50 l0_0 x6_2).f2).size : Int) 1 12 true _ A30.out).mono ?_); rintro e w' ⟨rfl, ⟨nd, rfl⟩⟩; (try first | exact ⟨rfl, _, World.drewN_drewN _ _ _⟩ | exact ⟨rfl, _, Eq.trans (World.drewN_drewN _ _ _) (congrArg (World.drewN _) (Nat.add_assoc _ _ _))⟩))); try go_wp2_with (first | (go_at_call 61; (with_reducible refine (spec_l01In.calls (((rd_T50 l0_0 x6_2).f2).size : Int) 1 12 true _ A30.out).mono ?_); rintro e w' ⟨rfl, ⟨nd, rfl⟩⟩; (try first | exact ⟨rfl, _, World.drewN_drewN _ _ _⟩ | exact ⟨rfl, _, Eq.trans (World.drewN_drewN _ _ _) (congrArg (World.drewN _) (Nat.add_assoc _ _ _))⟩))))
                   go_ret
                   exact ⟨xV, xW HB.out⟩
                ·replace c31 := Bool.eq_false_iff.mpr c31
                 subst c31
                 have H1 : (some false) = some r := by rw [if_neg (show ¬ (false = true) by decide)] at H; exact H
                 clear H
                 have H := H1
                 clear H1
                 obtain rfl := Option.some.inj H
                 have hnb40 := NB144_133.out
                 have hnc40 := NB133_144.out
                 have hcz41_0 : wc.cell? ⟨gb144, 0, none⟩ = some (.int .i64 ((rd_T50 l0_0 x6_2).f0)) := (blk_cell BK144.out 0).trans rfl
                 have hcz41_1 : wc.cell? ⟨gb144, 1, none⟩ = some (.bool ((rd_T50 l0_0 x6_2).f1)) := (blk_cell BK144.out 1).trans rfl
                 have hcz41_2 : wc.cell? ⟨gb144, 2, none⟩ = some (.string ((rd_T50 l0_0 x6_2).f2)) := (blk_cell BK144.out 2).trans rfl
                 have hcz41_3 : wc.cell? ⟨gb144, 3, none⟩ = some (.string ((rd_T50 l0_0 x6_2).f3)) := (blk_cell BK144.out 3).trans rfl
                 have hcz41_4 : wc.cell? ⟨gb144, 4, none⟩ = some (.int .i64 ((rd_T50 l0_0 x6_2).f4)) := (blk_cell BK144.out 4).trans rfl
                 have hfz41_0 := blk_frozen BK144.out 0
                 have hfz41_1 := blk_frozen BK144.out 1
                 have hfz41_2 := blk_frozen BK144.out 2
                 have hfz41_3 := blk_frozen BK144.out 3
                 have hfz41_4 := blk_frozen BK144.out 4
                 go_wp2_with (first | (go_at_call 61; (with_reducible refine (spec_l01In.calls (((rd_T50 l0_0 x6_2).f2).size : Int) 1 12 false _ A30.out).mono ?_); rintro e w' ⟨rfl, ⟨nd, rfl⟩⟩; (try first | exact ⟨rfl, _, World.drewN_drewN _ _ _⟩ | exact ⟨rfl, _, Eq.trans (World.drewN_drewN _ _ _) (congrArg (World.drewN _) (Nat.add_assoc _ _ _))⟩)))
                 repeat (go_quiet (first | (go_at_call 61; (with_reducible refine (spec_l01In.calls (((rd_T50 l0_0 x6_2).f2).size : Int) 1 12 false _ A30.out).mono ?_); rintro e w' ⟨rfl, ⟨nd, rfl⟩⟩; (try first | exact ⟨rfl, _, World.drewN_drewN _ _ _⟩ | exact ⟨rfl, _, Eq.trans (World.drewN_drewN _ _ _) (congrArg (World.drewN _) (Nat.add_assoc _ _ _))⟩))); try go_wp2_with (first | (go_at_call 61; (with_reducible refine (spec_l01In.calls (((rd_T50 l0_0 x6_2).f2).size : Int) 1 12 false _ A30.out).mono ?_); rintro e w' ⟨rfl, ⟨nd, rfl⟩⟩; (try first | exact ⟨rfl, _, World.drewN_drewN _ _ _⟩ | exact ⟨rfl, _, Eq.trans (World.drewN_drewN _ _ _) (congrArg (World.drewN _) (Nat.add_assoc _ _ _))⟩))))
                 go_ret
                 exact ⟨xV, xW HB.out⟩
               ·rw [if_neg c29] at H
                have c29b0 : ((rd_T50 l0_0 x6_2).f1) = false := by simpa using c29
                clear c29
                by_cases c42 : ((rd_T50 l0_0 x6_2).f2).toList = ([] : List UInt8)
                ·rw [if_pos c42] at H
                 have c42b0 : (((rd_T50 l0_0 x6_2).f2).toList == ([] : List UInt8)) = true := beq_iff_eq.mpr c42
                 have c42b1 : (((rd_T50 l0_0 x6_2).f2).toList != ([] : List UInt8)) = false := bne_eq_false_iff_eq.mpr c42
                 clear c42
                 by_cases c43 : ((rd_T50 l0_0 x6_2).f3).toList = ([] : List UInt8)
                 ·rw [if_pos c43] at H
                  have c43b0 : (((rd_T50 l0_0 x6_2).f3).toList == ([] : List UInt8)) = true := beq_iff_eq.mpr c43
                  have c43b1 : (((rd_T50 l0_0 x6_2).f3).toList != ([] : List UInt8)) = false := bne_eq_false_iff_eq.mpr c43
                  clear c43
                  have H' := am H
                  clear H
                  have hnb44 := NB144_133.out
                  have hnc44 := NB133_144.out
                  have hcz45_0 : wc.cell? ⟨gb144, 0, none⟩ = some (.int .i64 ((rd_T50 l0_0 x6_2).f0)) := (blk_cell BK144.out 0).trans rfl
                  have hcz45_1 : wc.cell? ⟨gb144, 1, none⟩ = some (.bool ((rd_T50 l0_0 x6_2).f1)) := (blk_cell BK144.out 1).trans rfl
                  have hcz45_2 : wc.cell? ⟨gb144, 2, none⟩ = some (.string ((rd_T50 l0_0 x6_2).f2)) := (blk_cell BK144.out 2).trans rfl
                  have hcz45_3 : wc.cell? ⟨gb144, 3, none⟩ = some (.string ((rd_T50 l0_0 x6_2).f3)) := (blk_cell BK144.out 3).trans rfl
                  have hcz45_4 : wc.cell? ⟨gb144, 4, none⟩ = some (.int .i64 ((rd_T50 l0_0 x6_2).f4)) := (blk_cell BK144.out 4).trans rfl
                  have hfz45_0 := blk_frozen BK144.out 0
                  have hfz45_1 := blk_frozen BK144.out 1
                  have hfz45_2 := blk_frozen BK144.out 2
                  have hfz45_3 := blk_frozen BK144.out 3
                  have hfz45_4 := blk_frozen BK144.out 4
                  go_wp2
                  repeat (go_quiet (fail); try go_wp2)
                  go_roundg kj14
                  case measure => have := HK1.out; have := HK2.out; have := HJ14.out; omega
                  case rel => exact ⟨(wrap64 (x6_2 + 1)), (xQ), H', ⟨by have := HK1.out; have := HK2.out; have := HJ14.out; omega⟩, ⟨xR HO_4.out⟩, ⟨xB BK133.out⟩, ⟨xW HB.out⟩⟩
                 ·rw [if_neg c43] at H
                  have c43b0 : (((rd_T50 l0_0 x6_2).f3).toList == ([] : List UInt8)) = false := beq_eq_false_iff_ne.mpr c43
                  have c43b1 : (((rd_T50 l0_0 x6_2).f3).toList != ([] : List UInt8)) = true := bne_iff_ne.mpr c43
                  obtain rfl := Option.some.inj H
                  have hnb46 := NB144_133.out
                  have hnc46 := NB133_144.out
                  have hcz47_0 : wc.cell? ⟨gb144, 0, none⟩ = some (.int .i64 ((rd_T50 l0_0 x6_2).f0)) := (blk_cell BK144.out 0).trans rfl
                  have hcz47_1 : wc.cell? ⟨gb144, 1, none⟩ = some (.bool ((rd_T50 l0_0 x6_2).f1)) := (blk_cell BK144.out 1).trans rfl
                  have hcz47_2 : wc.cell? ⟨gb144, 2, none⟩ = some (.string ((rd_T50 l0_0 x6_2).f2)) := (blk_cell BK144.out 2).trans rfl
                  have hcz47_3 : wc.cell? ⟨gb144, 3, none⟩ = some (.string ((rd_T50 l0_0 x6_2).f3)) := (blk_cell BK144.out 3).trans rfl
                  have hcz47_4 : wc.cell? ⟨gb144, 4, none⟩ = some (.int .i64 ((rd_T50 l0_0 x6_2).f4)) := (blk_cell BK144.out 4).trans rfl
                  have hfz47_0 := blk_frozen BK144.out 0
                  have hfz47_1 := blk_frozen BK144.out 1
                  have hfz47_2 := blk_frozen BK144.out 2
                  have hfz47_3 := blk_frozen BK144.out 3
                  have hfz47_4 := blk_frozen BK144.out 4
                  go_wp2
                  repeat (go_quiet (fail); try go_wp2)
                  go_ret
                  exact ⟨xV, xW HB.out⟩
                ·rw [if_neg c42] at H
                 have c42b0 : (((rd_T50 l0_0 x6_2).f2).toList == ([] : List UInt8)) = false := beq_eq_false_iff_ne.mpr c42
                 have c42b1 : (((rd_T50 l0_0 x6_2).f2).toList != ([] : List UInt8)) = true := bne_iff_ne.mpr c42
                 obtain rfl := Option.some.inj H
                 have hnb48 := NB144_133.out
                 have hnc48 := NB133_144.out
                 have hcz49_0 : wc.cell? ⟨gb144, 0, none⟩ = some (.int .i64 ((rd_T50 l0_0 x6_2).f0)) := (blk_cell BK144.out 0).trans rfl
                 have hcz49_1 : wc.cell? ⟨gb144, 1, none⟩ = some (.bool ((rd_T50 l0_0 x6_2).f1)) := (blk_cell BK144.out 1).trans rfl
                 have hcz49_2 : wc.cell? ⟨gb144, 2, none⟩ = some (.string ((rd_T50 l0_0 x6_2).f2)) := (blk_cell BK144.out 2).trans rfl
                 have hcz49_3 : wc.cell? ⟨gb144, 3, none⟩ = some (.string ((rd_T50 l0_0 x6_2).f3)) := (blk_cell BK144.out 3).trans rfl
                 have hcz49_4 : wc.cell? ⟨gb144, 4, none⟩ = some (.int .i64 ((rd_T50 l0_0 x6_2).f4)) := (blk_cell BK144.out 4).trans rfl
                 have hfz49_0 := blk_frozen BK144.out 0
                 have hfz49_1 := blk_frozen BK144.out 1
                 have hfz49_2 := blk_frozen BK144.out 2
                 have hfz49_3 := blk_frozen BK144.out 3
                 have hfz49_4 := blk_frozen BK144.out 4
                 go_wp2
                 repeat (go_quiet (fail); try go_wp2)
                 go_ret
                 exact ⟨xV, xW HB.out⟩
           ·rw [if_neg c14] at H
            exact absurd H (by simp)
          ·rw [if_neg c13] at H
           exact absurd H (by simp)
         ·rw [if_neg c12] at H
          have c12b0 : decide (x6_2 < (l0_0.length : Int)) = false := decide_eq_false c12
          clear c12
          obtain rfl := Option.some.inj H
          go_wp2
          repeat (go_quiet (fail); try go_wp2)
          go_ret
          exact ⟨xV, xW HB.out⟩
      ·rw [if_neg c11] at H
       have c11b0 : (x5_1 == (-1)) = false := beq_eq_false_iff_ne.mpr c11
       have c11b1 : (x5_1 != (-1)) = true := bne_iff_ne.mpr c11
       replace H := Option.bind_eq_some_iff.mp H
       obtain ⟨t138, A500, H⟩ := H
       try dsimp only at H
       have A50 := am A500
       clear A500
       by_cases c51 : t138 = true
       ·subst c51
        have H1 : (if 0 ≤ x5_1 then (if x5_1 < (x4_1.length : Int) then (if rdOf false x4_1 x5_1 = true then (some false) else (if x5_1 < (l0_0.length : Int) then (if (rd_T50 l0_0 x5_1).f1 = true then (some false) else (spec_ArenaOk.l0 k1 (l0_0.length : Int) (x4_1.set (x5_1 : Int).toNat true) ((rd_T50 l0_0 x5_1).f4) l0_0 a0_1)) else (none))) else (none)) else (none)) = some r := by rw [if_pos rfl] at H; exact H
        clear H
        have H := H1
        clear H1
        by_cases c52 : 0 ≤ x5_1
        ·rw [if_pos c52] at H
         have c52b0 : decide (0 ≤ x5_1) = true := decide_eq_true c52
         clear c52
         by_cases c53 : x5_1 < (x4_1.length : Int)
         ·rw [if_pos c53] at H
          have c53b0 : decide (x5_1 < (x4_1.length : Int)) = true := decide_eq_true c53
          clear c53
          obtain ⟨bq54, hbq54⟩ : ∃ b_ : Bool, b_ = (rdOf false x4_1 x5_1) := ⟨_, rfl⟩
          replace H : (if bq54 = true then (some false) else (if x5_1 < (l0_0.length : Int) then (if (rd_T50 l0_0 x5_1).f1 = true then (some false) else (spec_ArenaOk.l0 k1 (l0_0.length : Int) (x4_1.set (x5_1 : Int).toNat true) ((rd_T50 l0_0 x5_1).f4) l0_0 a0_1)) else (none))) = some r := by rw [← hbq54] at H; exact H
          have Nbq54 := am hbq54
          clear hbq54
          by_cases c55 : bq54 = true
          ·subst c55
           have H1 : (some false) = some r := by rw [if_pos rfl] at H; exact H
           clear H
           have H := H1
           clear H1
           obtain rfl := Option.some.inj H
           go_wp2_with (first | (go_at_call 61; (with_reducible refine (spec_l01In.calls x5_1 0 (wrap64 ((l0_0.length : Int) - 1)) true _ A50.out).mono ?_); rintro e w' ⟨rfl, ⟨nd, rfl⟩⟩; (try first | exact ⟨rfl, _, World.drewN_drewN _ _ _⟩ | exact ⟨rfl, _, Eq.trans (World.drewN_drewN _ _ _) (congrArg (World.drewN _) (Nat.add_assoc _ _ _))⟩); obtain ⟨Ao56, co56, eo56⟩ := Kd.R_slice HO_4.out; subst eo56; have p139 : 0 ≤ (x5_1 : Int) := of_decide_eq_true (by assumption); have q139 : x5_1 < (x4_1.length : Int) := of_decide_eq_true (by assumption); obtain ⟨ad139, e139, hx139_0⟩ := Kd.at_bool (Kd.R_reads' HO_4.out).2.2 x5_1 p139 q139; (try rw [← Nbq54.out] at hx139_0); cases e139; replace p139 := eq_true p139; replace q139 := eq_true q139))
           repeat (go_quiet (first | (go_at_call 61; (with_reducible refine (spec_l01In.calls x5_1 0 (wrap64 ((l0_0.length : Int) - 1)) true _ A50.out).mono ?_); rintro e w' ⟨rfl, ⟨nd, rfl⟩⟩; (try first | exact ⟨rfl, _, World.drewN_drewN _ _ _⟩ | exact ⟨rfl, _, Eq.trans (World.drewN_drewN _ _ _) (congrArg (World.drewN _) (Nat.add_assoc _ _ _))⟩); obtain ⟨Ao56, co56, eo56⟩ := Kd.R_slice HO_4.out; subst eo56; have p139 : 0 ≤ (x5_1 : Int) := of_decide_eq_true (by assumption); have q139 : x5_1 < (x4_1.length : Int) := of_decide_eq_true (by assumption); obtain ⟨ad139, e139, hx139_0⟩ := Kd.at_bool (Kd.R_reads' HO_4.out).2.2 x5_1 p139 q139; (try rw [← Nbq54.out] at hx139_0); cases e139; replace p139 := eq_true p139; replace q139 := eq_true q139)); try go_wp2_with (first | (go_at_call 61; (with_reducible refine (spec_l01In.calls x5_1 0 (wrap64 ((l0_0.length : Int) - 1)) true _ A50.out).mono ?_); rintro e w' ⟨rfl, ⟨nd, rfl⟩⟩; (try first | exact ⟨rfl, _, World.drewN_drewN _ _ _⟩ | exact ⟨rfl, _, Eq.trans (World.drewN_drewN _ _ _) (congrArg (World.drewN _) (Nat.add_assoc _ _ _))⟩); obtain ⟨Ao56, co56, eo56⟩ := Kd.R_slice HO_4.out; subst eo56; have p139 : 0 ≤ (x5_1 : Int) := of_decide_eq_true (by assumption); have q139 : x5_1 < (x4_1.length : Int) := of_decide_eq_true (by assumption); obtain ⟨ad139, e139, hx139_0⟩ := Kd.at_bool (Kd.R_reads' HO_4.out).2.2 x5_1 p139 q139; (try rw [← Nbq54.out] at hx139_0); cases e139; replace p139 := eq_true p139; replace q139 := eq_true q139)))
           go_ret
           exact ⟨xV, xW HB.out⟩
          ·replace c55 := Bool.eq_false_iff.mpr c55
           subst c55
           have H1 : (if x5_1 < (l0_0.length : Int) then (if (rd_T50 l0_0 x5_1).f1 = true then (some false) else (spec_ArenaOk.l0 k1 (l0_0.length : Int) (x4_1.set (x5_1 : Int).toNat true) ((rd_T50 l0_0 x5_1).f4) l0_0 a0_1)) else (none)) = some r := by rw [if_neg (show ¬ (false = true) by decide)] at H; exact H
           clear H
           have H := H1
           clear H1
           by_cases c57 : x5_1 < (l0_0.length : Int)
           ·rw [if_pos c57] at H
            have c57b0 : decide (x5_1 < (l0_0.length : Int)) = true := decide_eq_true c57
            clear c57
            obtain ⟨bq58, hbq58⟩ : ∃ b_ : Bool, b_ = ((rd_T50 l0_0 x5_1).f1) := ⟨_, rfl⟩
            replace H : (if bq58 = true then (some false) else (spec_ArenaOk.l0 k1 (l0_0.length : Int) (x4_1.set (x5_1 : Int).toNat true) ((rd_T50 l0_0 x5_1).f4) l0_0 a0_1)) = some r := by rw [← hbq58] at H; exact H
            have Nbq58 := am hbq58
            clear hbq58
            by_cases c59 : bq58 = true
            ·subst c59
             have H1 : (some false) = some r := by rw [if_pos rfl] at H; exact H
             clear H
             have H := H1
             clear H1
             obtain rfl := Option.some.inj H
             go_wp2_with (first | (go_at_call 61; (with_reducible refine (spec_l01In.calls x5_1 0 (wrap64 ((l0_0.length : Int) - 1)) true _ A50.out).mono ?_); rintro e w' ⟨rfl, ⟨nd, rfl⟩⟩; (try first | exact ⟨rfl, _, World.drewN_drewN _ _ _⟩ | exact ⟨rfl, _, Eq.trans (World.drewN_drewN _ _ _) (congrArg (World.drewN _) (Nat.add_assoc _ _ _))⟩); obtain ⟨Ao60, co60, eo60⟩ := Kd.R_slice HO_4.out; subst eo60; have p139 : 0 ≤ (x5_1 : Int) := of_decide_eq_true (by assumption); have q139 : x5_1 < (x4_1.length : Int) := of_decide_eq_true (by assumption); obtain ⟨ad139, e139, hx139_0⟩ := Kd.at_bool (Kd.R_reads' HO_4.out).2.2 x5_1 p139 q139; (try rw [← Nbq54.out] at hx139_0); (try rw [← Nbq58.out] at hx139_0); cases e139; replace p139 := eq_true p139; replace q139 := eq_true q139; obtain ⟨hcz61_0, hcz61_1, hfz61_0, hfz61_1⟩ := xT2 (W := wr) BK133.out; have p140 : 0 ≤ (x5_1 : Int) := of_decide_eq_true (by assumption); have q140 : x5_1 < (l0_0.length : Int) := of_decide_eq_true (by assumption); obtain ⟨ad140, e140, hx140_0, hx140_1, hx140_2, hx140_3, hx140_4⟩ := at_T50 HR0_0.out x5_1 p140 q140; (try rw [← Nbq54.out] at hx140_1); (try rw [← Nbq58.out] at hx140_1); cases e140; replace hx140_0 := (HB.out.cell (World.block_lt_of_cell? w _ hx140_0)).trans hx140_0; replace hx140_1 := (HB.out.cell (World.block_lt_of_cell? w _ hx140_1)).trans hx140_1; replace hx140_2 := (HB.out.cell (World.block_lt_of_cell? w _ hx140_2)).trans hx140_2; replace hx140_3 := (HB.out.cell (World.block_lt_of_cell? w _ hx140_3)).trans hx140_3; replace hx140_4 := (HB.out.cell (World.block_lt_of_cell? w _ hx140_4)).trans hx140_4; replace p140 := eq_true p140; replace q140 := eq_true q140))
             repeat (go_quiet (first | (go_at_call 61; (with_reducible refine (spec_l01In.calls x5_1 0 (wrap64 ((l0_0.length : Int) - 1)) true _ A50.out).mono ?_); rintro e w' ⟨rfl, ⟨nd, rfl⟩⟩; (try first | exact ⟨rfl, _, World.drewN_drewN _ _ _⟩ | exact ⟨rfl, _, Eq.trans (World.drewN_drewN _ _ _) (congrArg (World.drewN _) (Nat.add_assoc _ _ _))⟩); obtain ⟨Ao60, co60, eo60⟩ := Kd.R_slice HO_4.out; subst eo60; have p139 : 0 ≤ (x5_1 : Int) := of_decide_eq_true (by assumption); have q139 : x5_1 < (x4_1.length : Int) := of_decide_eq_true (by assumption); obtain ⟨ad139, e139, hx139_0⟩ := Kd.at_bool (Kd.R_reads' HO_4.out).2.2 x5_1 p139 q139; (try rw [← Nbq54.out] at hx139_0); (try rw [← Nbq58.out] at hx139_0); cases e139; replace p139 := eq_true p139; replace q139 := eq_true q139; obtain ⟨hcz61_0, hcz61_1, hfz61_0, hfz61_1⟩ := xT2 (W := wr) BK133.out; have p140 : 0 ≤ (x5_1 : Int) := of_decide_eq_true (by assumption); have q140 : x5_1 < (l0_0.length : Int) := of_decide_eq_true (by assumption); obtain ⟨ad140, e140, hx140_0, hx140_1, hx140_2, hx140_3, hx140_4⟩ := at_T50 HR0_0.out x5_1 p140 q140; (try rw [← Nbq54.out] at hx140_1); (try rw [← Nbq58.out] at hx140_1); cases e140; replace hx140_0 := (HB.out.cell (World.block_lt_of_cell? w _ hx140_0)).trans hx140_0; replace hx140_1 := (HB.out.cell (World.block_lt_of_cell? w _ hx140_1)).trans hx140_1; replace hx140_2 := (HB.out.cell (World.block_lt_of_cell? w _ hx140_2)).trans hx140_2; replace hx140_3 := (HB.out.cell (World.block_lt_of_cell? w _ hx140_3)).trans hx140_3; replace hx140_4 := (HB.out.cell (World.block_lt_of_cell? w _ hx140_4)).trans hx140_4; replace p140 := eq_true p140; replace q140 := eq_true q140)); try go_wp2_with (first | (go_at_call 61; (with_reducible refine (spec_l01In.calls x5_1 0 (wrap64 ((l0_0.length : Int) - 1)) true _ A50.out).mono ?_); rintro e w' ⟨rfl, ⟨nd, rfl⟩⟩; (try first | exact ⟨rfl, _, World.drewN_drewN _ _ _⟩ | exact ⟨rfl, _, Eq.trans (World.drewN_drewN _ _ _) (congrArg (World.drewN _) (Nat.add_assoc _ _ _))⟩); obtain ⟨Ao60, co60, eo60⟩ := Kd.R_slice HO_4.out; subst eo60; have p139 : 0 ≤ (x5_1 : Int) := of_decide_eq_true (by assumption); have q139 : x5_1 < (x4_1.length : Int) := of_decide_eq_true (by assumption); obtain ⟨ad139, e139, hx139_0⟩ := Kd.at_bool (Kd.R_reads' HO_4.out).2.2 x5_1 p139 q139; (try rw [← Nbq54.out] at hx139_0); (try rw [← Nbq58.out] at hx139_0); cases e139; replace p139 := eq_true p139; replace q139 := eq_true q139; obtain ⟨hcz61_0, hcz61_1, hfz61_0, hfz61_1⟩ := xT2 (W := wr) BK133.out; have p140 : 0 ≤ (x5_1 : Int) := of_decide_eq_true (by assumption); have q140 : x5_1 < (l0_0.length : Int) := of_decide_eq_true (by assumption); obtain ⟨ad140, e140, hx140_0, hx140_1, hx140_2, hx140_3, hx140_4⟩ := at_T50 HR0_0.out x5_1 p140 q140; (try rw [← Nbq54.out] at hx140_1); (try rw [← Nbq58.out] at hx140_1); cases e140; replace hx140_0 := (HB.out.cell (World.block_lt_of_cell? w _ hx140_0)).trans hx140_0; replace hx140_1 := (HB.out.cell (World.block_lt_of_cell? w _ hx140_1)).trans hx140_1; replace hx140_2 := (HB.out.cell (World.block_lt_of_cell? w _ hx140_2)).trans hx140_2; replace hx140_3 := (HB.out.cell (World.block_lt_of_cell? w _ hx140_3)).trans hx140_3; replace hx140_4 := (HB.out.cell (World.block_lt_of_cell? w _ hx140_4)).trans hx140_4; replace p140 := eq_true p140; replace q140 := eq_true q140)))
             go_ret
             exact ⟨xV, xW HB.out⟩
            ·replace c59 := Bool.eq_false_iff.mpr c59
             subst c59
             have H1 : (spec_ArenaOk.l0 k1 (l0_0.length : Int) (x4_1.set (x5_1 : Int).toNat true) ((rd_T50 l0_0 x5_1).f4) l0_0 a0_1) = some r := by rw [if_neg (show ¬ (false = true) by decide)] at H; exact H
             clear H
             have H := H1
             clear H1
             obtain ⟨y141, hy141⟩ : ∃ y_ : List Bool, y_ = (x4_1.set (x5_1 : Int).toNat true) := ⟨_, rfl⟩
             replace H : (spec_ArenaOk.l0 k1 (l0_0.length : Int) y141 ((rd_T50 l0_0 x5_1).f4) l0_0 a0_1) = some r := by first | (rw [hy141]; with_reducible exact H) | (have H2_ := (Option.bind_some _ _).symm.trans H; rw [hy141]; with_reducible exact H2_) | (have H2_ := (Option.bind_some _ _).symm.trans H; with_reducible exact H2_) | with_reducible exact H | (rw [hy141]; exact H) | exact H
             have Ny141 := am hy141
             clear hy141
             have H' := am H
             clear H
             go_wp2_with (first | (go_at_call 61; (with_reducible refine (spec_l01In.calls x5_1 0 (wrap64 ((l0_0.length : Int) - 1)) true _ A50.out).mono ?_); rintro e w' ⟨rfl, ⟨nd, rfl⟩⟩; (try first | exact ⟨rfl, _, World.drewN_drewN _ _ _⟩ | exact ⟨rfl, _, Eq.trans (World.drewN_drewN _ _ _) (congrArg (World.drewN _) (Nat.add_assoc _ _ _))⟩); obtain ⟨Ao63, co63, eo63⟩ := Kd.R_slice HO_4.out; subst eo63; have p139 : 0 ≤ (x5_1 : Int) := of_decide_eq_true (by assumption); have q139 : x5_1 < (x4_1.length : Int) := of_decide_eq_true (by assumption); obtain ⟨ad139, e139, hx139_0⟩ := Kd.at_bool (Kd.R_reads' HO_4.out).2.2 x5_1 p139 q139; (try rw [← Nbq54.out] at hx139_0); (try rw [← Nbq58.out] at hx139_0); cases e139; replace p139 := eq_true p139; replace q139 := eq_true q139; obtain ⟨hcz64_0, hcz64_1, hfz64_0, hfz64_1⟩ := xT2 (W := wr) BK133.out; have p140 : 0 ≤ (x5_1 : Int) := of_decide_eq_true (by assumption); have q140 : x5_1 < (l0_0.length : Int) := of_decide_eq_true (by assumption); obtain ⟨ad140, e140, hx140_0, hx140_1, hx140_2, hx140_3, hx140_4⟩ := at_T50 HR0_0.out x5_1 p140 q140; (try rw [← Nbq54.out] at hx140_1); (try rw [← Nbq58.out] at hx140_1); cases e140; replace hx140_0 := (HB.out.cell (World.block_lt_of_cell? w _ hx140_0)).trans hx140_0; replace hx140_1 := (HB.out.cell (World.block_lt_of_cell? w _ hx140_1)).trans hx140_1; replace hx140_2 := (HB.out.cell (World.block_lt_of_cell? w _ hx140_2)).trans hx140_2; replace hx140_3 := (HB.out.cell (World.block_lt_of_cell? w _ hx140_3)).trans hx140_3; replace hx140_4 := (HB.out.cell (World.block_lt_of_cell? w _ hx140_4)).trans hx140_4; replace p140 := eq_true p140; replace q140 := eq_true q140; have p62 : 0 ≤ (x5_1 : Int) := of_decide_eq_true (by assumption); have q62 : (x5_1 : Int) < ((x4_1.length : Int) : Int) := of_decide_eq_true (by assumption); obtain ⟨go62, co62, eo62, gb62, gl62, cl62, HG62⟩ := Kd.R_form HO_4.out (by omega); (first | cases eo62 | (injection eo62 with ea_ en_ ec_; (first | subst ea_ | (injection ea_ with ea_; subst ea_)); subst ec_; clear en_)); have GB62 := am gb62; have GG62 := am HG62; clear gb62 gl62 HG62; (first | simp only [add_plain] at hx139_0 | skip); obtain ⟨hx62_0, hf62_0⟩ := Kd.R_celln false HO_4.out (x5_1 : Int) p62 q62; replace p62 := eq_true p62; replace q62 := eq_true q62; obtain ⟨hy65_, hz65_⟩ := Kd.R_celln false HO_4.out (x5_1 : Int) (of_decide_eq_true (by assumption)) (of_decide_eq_true (by assumption)); have HP65 := Kd.R_putg HO_4.out (x5_1 : Int) true) | ((with_reducible refine gate_store (t := 4) (p := 41) rfl ?_); (try (rw [drewN_self wr]; generalize hq_ : World.drewN wr _ = wr; have n0_ := am (Kd.R_at hq_ HO_4.out); have n1_ := am (blk_at hq_ BK133.out); have n2_ := am (below_at hq_ HB.out); clear hq_ HO_4 BK133 HB; have HO_4 := n0_; have BK133 := n1_; have HB := n2_; clear n0_ n1_ n2_; (try (obtain ⟨hy65_, hz65_⟩ := Kd.R_celln false HO_4.out (x5_1 : Int) (of_decide_eq_true (by assumption)) (of_decide_eq_true (by assumption)))); (try (have HP65 := Kd.R_putg HO_4.out (x5_1 : Int) true)))); refine store_event (t := 4) (p := 41) (v := ?vo_w66) (w1 := (wr.setCell ⟨go62, (x5_1 : Int).toNat, none⟩ (.bool true))) ?hg ?ho ?hn ?hr ?_; (case ho => rfl); (case hg => rfl); (case hn => rfl); (case hr => first | (go_simp; done) | (go_simp; rfl)); intro w66 hw; have hg : wr.grownBy w66 (some go62) := (by rw [hw]; exact HP65.2); have hp_ : Kd.R Kd.bool 4 w66 w.heap.size (fun _ => True) (.slice (some ⟨go62, 0, none⟩) x4_1.length co63) y141 := (by rw [hw, Ny141.out]; exact HP65.1); clear HP65; replace BK133 := am (blk_grown (g := gb133) (o := .cells #[.slice (some ad140) l0_0.length c0_0, .int .i64 a0_1] 42 (0, 0)) (xB BK133.out) hg (Kd.R_ne HO_4.out BK133.out (by decide))); replace HO_4 := am (hp_); replace HB := am ((by rw [hw]; exact below_set (HB.out) GB62.out : Below w.heap.size w w66)); clear hg hw hp_; obtain ⟨hcz67_0, hcz67_1, hfz67_0, hfz67_1⟩ := xT2 (W := w66) BK133.out; have p142 : 0 ≤ (x5_1 : Int) := of_decide_eq_true (by assumption); have q142 : x5_1 < (l0_0.length : Int) := of_decide_eq_true (by assumption); obtain ⟨ad142, e142, hx142_0, hx142_1, hx142_2, hx142_3, hx142_4⟩ := at_T50 HR0_0.out x5_1 p142 q142; (try rw [← Nbq54.out] at hx142_1); (try rw [← Nbq58.out] at hx142_1); obtain rfl : ad140 = ad142 := (by injection e142); replace hx142_0 := (HB.out.cell (World.block_lt_of_cell? w _ hx142_0)).trans hx142_0; replace hx142_1 := (HB.out.cell (World.block_lt_of_cell? w _ hx142_1)).trans hx142_1; replace hx142_2 := (HB.out.cell (World.block_lt_of_cell? w _ hx142_2)).trans hx142_2; replace hx142_3 := (HB.out.cell (World.block_lt_of_cell? w _ hx142_3)).trans hx142_3; replace hx142_4 := (HB.out.cell (World.block_lt_of_cell? w _ hx142_4)).trans hx142_4; replace p142 := eq_true p142; replace q142 := eq_true q142))
             repeat (go_quiet (first | (go_at_call 61; (with_reducible refine (spec_l01In.calls x5_1 0 (wrap64 ((l0_0.length : Int) - 1)) true _ A50.out).mono ?_); rintro e w' ⟨rfl, ⟨nd, rfl⟩⟩; (try first | exact ⟨rfl, _, World.drewN_drewN _ _ _⟩ | exact ⟨rfl, _, Eq.trans (World.drewN_drewN _ _ _) (congrArg (World.drewN _) (Nat.add_assoc _ _ _))⟩); obtain ⟨Ao63, co63, eo63⟩ := Kd.R_slice HO_4.out; subst eo63; have p139 : 0 ≤ (x5_1 : Int) := of_decide_eq_true (by assumption); have q139 : x5_1 < (x4_1.length : Int) := of_decide_eq_true (by assumption); obtain ⟨ad139, e139, hx139_0⟩ := Kd.at_bool (Kd.R_reads' HO_4.out).2.2 x5_1 p139 q139; (try rw [← Nbq54.out] at hx139_0); (try rw [← Nbq58.out] at hx139_0); cases e139; replace p139 := eq_true p139; replace q139 := eq_true q139; obtain ⟨hcz64_0, hcz64_1, hfz64_0, hfz64_1⟩ := xT2 (W := wr) BK133.out; have p140 : 0 ≤ (x5_1 : Int) := of_decide_eq_true (by assumption); have q140 : x5_1 < (l0_0.length : Int) := of_decide_eq_true (by assumption); obtain ⟨ad140, e140, hx140_0, hx140_1, hx140_2, hx140_3, hx140_4⟩ := at_T50 HR0_0.out x5_1 p140 q140; (try rw [← Nbq54.out] at hx140_1); (try rw [← Nbq58.out] at hx140_1); cases e140; replace hx140_0 := (HB.out.cell (World.block_lt_of_cell? w _ hx140_0)).trans hx140_0; replace hx140_1 := (HB.out.cell (World.block_lt_of_cell? w _ hx140_1)).trans hx140_1; replace hx140_2 := (HB.out.cell (World.block_lt_of_cell? w _ hx140_2)).trans hx140_2; replace hx140_3 := (HB.out.cell (World.block_lt_of_cell? w _ hx140_3)).trans hx140_3; replace hx140_4 := (HB.out.cell (World.block_lt_of_cell? w _ hx140_4)).trans hx140_4; replace p140 := eq_true p140; replace q140 := eq_true q140; have p62 : 0 ≤ (x5_1 : Int) := of_decide_eq_true (by assumption); have q62 : (x5_1 : Int) < ((x4_1.length : Int) : Int) := of_decide_eq_true (by assumption); obtain ⟨go62, co62, eo62, gb62, gl62, cl62, HG62⟩ := Kd.R_form HO_4.out (by omega); (first | cases eo62 | (injection eo62 with ea_ en_ ec_; (first | subst ea_ | (injection ea_ with ea_; subst ea_)); subst ec_; clear en_)); have GB62 := am gb62; have GG62 := am HG62; clear gb62 gl62 HG62; (first | simp only [add_plain] at hx139_0 | skip); obtain ⟨hx62_0, hf62_0⟩ := Kd.R_celln false HO_4.out (x5_1 : Int) p62 q62; replace p62 := eq_true p62; replace q62 := eq_true q62; obtain ⟨hy65_, hz65_⟩ := Kd.R_celln false HO_4.out (x5_1 : Int) (of_decide_eq_true (by assumption)) (of_decide_eq_true (by assumption)); have HP65 := Kd.R_putg HO_4.out (x5_1 : Int) true) | ((with_reducible refine gate_store (t := 4) (p := 41) rfl ?_); (try (rw [drewN_self wr]; generalize hq_ : World.drewN wr _ = wr; have n0_ := am (Kd.R_at hq_ HO_4.out); have n1_ := am (blk_at hq_ BK133.out); have n2_ := am (below_at hq_ HB.out); clear hq_ HO_4 BK133 HB; have HO_4 := n0_; have BK133 := n1_; have HB := n2_; clear n0_ n1_ n2_; (try (obtain ⟨hy65_, hz65_⟩ := Kd.R_celln false HO_4.out (x5_1 : Int) (of_decide_eq_true (by assumption)) (of_decide_eq_true (by assumption)))); (try (have HP65 := Kd.R_putg HO_4.out (x5_1 : Int) true)))); refine store_event (t := 4) (p := 41) (v := ?vo_w66) (w1 := (wr.setCell ⟨go62, (x5_1 : Int).toNat, none⟩ (.bool true))) ?hg ?ho ?hn ?hr ?_; (case ho => rfl); (case hg => rfl); (case hn => rfl); (case hr => first | (go_simp; done) | (go_simp; rfl)); intro w66 hw; have hg : wr.grownBy w66 (some go62) := (by rw [hw]; exact HP65.2); have hp_ : Kd.R Kd.bool 4 w66 w.heap.size (fun _ => True) (.slice (some ⟨go62, 0, none⟩) x4_1.length co63) y141 := (by rw [hw, Ny141.out]; exact HP65.1); clear HP65; replace BK133 := am (blk_grown (g := gb133) (o := .cells #[.slice (some ad140) l0_0.length c0_0, .int .i64 a0_1] 42 (0, 0)) (xB BK133.out) hg (Kd.R_ne HO_4.out BK133.out (by decide))); replace HO_4 := am (hp_); replace HB := am ((by rw [hw]; exact below_set (HB.out) GB62.out : Below w.heap.size w w66)); clear hg hw hp_; obtain ⟨hcz67_0, hcz67_1, hfz67_0, hfz67_1⟩ := xT2 (W := w66) BK133.out; have p142 : 0 ≤ (x5_1 : Int) := of_decide_eq_true (by assumption); have q142 : x5_1 < (l0_0.length : Int) := of_decide_eq_true (by assumption); obtain ⟨ad142, e142, hx142_0, hx142_1, hx142_2, hx142_3, hx142_4⟩ := at_T50 HR0_0.out x5_1 p142 q142; (try rw [← Nbq54.out] at hx142_1); (try rw [← Nbq58.out] at hx142_1); obtain rfl : ad140 = ad142 := (by injection e142); replace hx142_0 := (HB.out.cell (World.block_lt_of_cell? w _ hx142_0)).trans hx142_0; replace hx142_1 := (HB.out.cell (World.block_lt_of_cell? w _ hx142_1)).trans hx142_1; replace hx142_2 := (HB.out.cell (World.block_lt_of_cell? w _ hx142_2)).trans hx142_2; replace hx142_3 := (HB.out.cell (World.block_lt_of_cell? w _ hx142_3)).trans hx142_3; replace hx142_4 := (HB.out.cell (World.block_lt_of_cell? w _ hx142_4)).trans hx142_4; replace p142 := eq_true p142; replace q142 := eq_true q142)); try go_wp2_with (first | (go_at_call 61; (with_reducible refine (spec_l01In.calls x5_1 0 (wrap64 ((l0_0.length : Int) - 1)) true _ A50.out).mono ?_); rintro e w' ⟨rfl, ⟨nd, rfl⟩⟩; (try first | exact ⟨rfl, _, World.drewN_drewN _ _ _⟩ | exact ⟨rfl, _, Eq.trans (World.drewN_drewN _ _ _) (congrArg (World.drewN _) (Nat.add_assoc _ _ _))⟩); obtain ⟨Ao63, co63, eo63⟩ := Kd.R_slice HO_4.out; subst eo63; have p139 : 0 ≤ (x5_1 : Int) := of_decide_eq_true (by assumption); have q139 : x5_1 < (x4_1.length : Int) := of_decide_eq_true (by assumption); obtain ⟨ad139, e139, hx139_0⟩ := Kd.at_bool (Kd.R_reads' HO_4.out).2.2 x5_1 p139 q139; (try rw [← Nbq54.out] at hx139_0); (try rw [← Nbq58.out] at hx139_0); cases e139; replace p139 := eq_true p139; replace q139 := eq_true q139; obtain ⟨hcz64_0, hcz64_1, hfz64_0, hfz64_1⟩ := xT2 (W := wr) BK133.out; have p140 : 0 ≤ (x5_1 : Int) := of_decide_eq_true (by assumption); have q140 : x5_1 < (l0_0.length : Int) := of_decide_eq_true (by assumption); obtain ⟨ad140, e140, hx140_0, hx140_1, hx140_2, hx140_3, hx140_4⟩ := at_T50 HR0_0.out x5_1 p140 q140; (try rw [← Nbq54.out] at hx140_1); (try rw [← Nbq58.out] at hx140_1); cases e140; replace hx140_0 := (HB.out.cell (World.block_lt_of_cell? w _ hx140_0)).trans hx140_0; replace hx140_1 := (HB.out.cell (World.block_lt_of_cell? w _ hx140_1)).trans hx140_1; replace hx140_2 := (HB.out.cell (World.block_lt_of_cell? w _ hx140_2)).trans hx140_2; replace hx140_3 := (HB.out.cell (World.block_lt_of_cell? w _ hx140_3)).trans hx140_3; replace hx140_4 := (HB.out.cell (World.block_lt_of_cell? w _ hx140_4)).trans hx140_4; replace p140 := eq_true p140; replace q140 := eq_true q140; have p62 : 0 ≤ (x5_1 : Int) := of_decide_eq_true (by assumption); have q62 : (x5_1 : Int) < ((x4_1.length : Int) : Int) := of_decide_eq_true (by assumption); obtain ⟨go62, co62, eo62, gb62, gl62, cl62, HG62⟩ := Kd.R_form HO_4.out (by omega); (first | cases eo62 | (injection eo62 with ea_ en_ ec_; (first | subst ea_ | (injection ea_ with ea_; subst ea_)); subst ec_; clear en_)); have GB62 := am gb62; have GG62 := am HG62; clear gb62 gl62 HG62; (first | simp only [add_plain] at hx139_0 | skip); obtain ⟨hx62_0, hf62_0⟩ := Kd.R_celln false HO_4.out (x5_1 : Int) p62 q62; replace p62 := eq_true p62; replace q62 := eq_true q62; obtain ⟨hy65_, hz65_⟩ := Kd.R_celln false HO_4.out (x5_1 : Int) (of_decide_eq_true (by assumption)) (of_decide_eq_true (by assumption)); have HP65 := Kd.R_putg HO_4.out (x5_1 : Int) true) | ((with_reducible refine gate_store (t := 4) (p := 41) rfl ?_); (try (rw [drewN_self wr]; generalize hq_ : World.drewN wr _ = wr; have n0_ := am (Kd.R_at hq_ HO_4.out); have n1_ := am (blk_at hq_ BK133.out); have n2_ := am (below_at hq_ HB.out); clear hq_ HO_4 BK133 HB; have HO_4 := n0_; have BK133 := n1_; have HB := n2_; clear n0_ n1_ n2_; (try (obtain ⟨hy65_, hz65_⟩ := Kd.R_celln false HO_4.out (x5_1 : Int) (of_decide_eq_true (by assumption)) (of_decide_eq_true (by assumption)))); (try (have HP65 := Kd.R_putg HO_4.out (x5_1 : Int) true)))); refine store_event (t := 4) (p := 41) (v := ?vo_w66) (w1 := (wr.setCell ⟨go62, (x5_1 : Int).toNat, none⟩ (.bool true))) ?hg ?ho ?hn ?hr ?_; (case ho => rfl); (case hg => rfl); (case hn => rfl); (case hr => first | (go_simp; done) | (go_simp; rfl)); intro w66 hw; have hg : wr.grownBy w66 (some go62) := (by rw [hw]; exact HP65.2); have hp_ : Kd.R Kd.bool 4 w66 w.heap.size (fun _ => True) (.slice (some ⟨go62, 0, none⟩) x4_1.length co63) y141 := (by rw [hw, Ny141.out]; exact HP65.1); clear HP65; replace BK133 := am (blk_grown (g := gb133) (o := .cells #[.slice (some ad140) l0_0.length c0_0, .int .i64 a0_1] 42 (0, 0)) (xB BK133.out) hg (Kd.R_ne HO_4.out BK133.out (by decide))); replace HO_4 := am (hp_); replace HB := am ((by rw [hw]; exact below_set (HB.out) GB62.out : Below w.heap.size w w66)); clear hg hw hp_; obtain ⟨hcz67_0, hcz67_1, hfz67_0, hfz67_1⟩ := xT2 (W := w66) BK133.out; have p142 : 0 ≤ (x5_1 : Int) := of_decide_eq_true (by assumption); have q142 : x5_1 < (l0_0.length : Int) := of_decide_eq_true (by assumption); obtain ⟨ad142, e142, hx142_0, hx142_1, hx142_2, hx142_3, hx142_4⟩ := at_T50 HR0_0.out x5_1 p142 q142; (try rw [← Nbq54.out] at hx142_1); (try rw [← Nbq58.out] at hx142_1); obtain rfl : ad140 = ad142 := (by injection e142); replace hx142_0 := (HB.out.cell (World.block_lt_of_cell? w _ hx142_0)).trans hx142_0; replace hx142_1 := (HB.out.cell (World.block_lt_of_cell? w _ hx142_1)).trans hx142_1; replace hx142_2 := (HB.out.cell (World.block_lt_of_cell? w _ hx142_2)).trans hx142_2; replace hx142_3 := (HB.out.cell (World.block_lt_of_cell? w _ hx142_3)).trans hx142_3; replace hx142_4 := (HB.out.cell (World.block_lt_of_cell? w _ hx142_4)).trans hx142_4; replace p142 := eq_true p142; replace q142 := eq_true q142)))
             go_roundg k1
             case measure => have := HK1.out; omega
             case rel => exact ⟨(y141), ((rd_T50 l0_0 x5_1).f4), (xQ), H', ⟨by have := HK1.out; omega⟩, ⟨xR HO_4.out⟩, ⟨xB BK133.out⟩, ⟨xW HB.out⟩⟩
           ·rw [if_neg c57] at H
            exact absurd H (by simp)
         ·rw [if_neg c53] at H
          exact absurd H (by simp)
        ·rw [if_neg c52] at H
         exact absurd H (by simp)
       ·replace c51 := Bool.eq_false_iff.mpr c51
        subst c51
        have H1 : (some false) = some r := by rw [if_neg (show ¬ (false = true) by decide)] at H; exact H
        clear H
        have H := H1
        clear H1
        obtain rfl := Option.some.inj H
        go_wp2_with (first | (go_at_call 61; (with_reducible refine (spec_l01In.calls x5_1 0 (wrap64 ((l0_0.length : Int) - 1)) false _ A50.out).mono ?_); rintro e w' ⟨rfl, ⟨nd, rfl⟩⟩; (try first | exact ⟨rfl, _, World.drewN_drewN _ _ _⟩ | exact ⟨rfl, _, Eq.trans (World.drewN_drewN _ _ _) (congrArg (World.drewN _) (Nat.add_assoc _ _ _))⟩)))
        repeat (go_quiet (first | (go_at_call 61; (with_reducible refine (spec_l01In.calls x5_1 0 (wrap64 ((l0_0.length : Int) - 1)) false _ A50.out).mono ?_); rintro e w' ⟨rfl, ⟨nd, rfl⟩⟩; (try first | exact ⟨rfl, _, World.drewN_drewN _ _ _⟩ | exact ⟨rfl, _, Eq.trans (World.drewN_drewN _ _ _) (congrArg (World.drewN _) (Nat.add_assoc _ _ _))⟩))); try go_wp2_with (first | (go_at_call 61; (with_reducible refine (spec_l01In.calls x5_1 0 (wrap64 ((l0_0.length : Int) - 1)) false _ A50.out).mono ?_); rintro e w' ⟨rfl, ⟨nd, rfl⟩⟩; (try first | exact ⟨rfl, _, World.drewN_drewN _ _ _⟩ | exact ⟨rfl, _, Eq.trans (World.drewN_drewN _ _ _) (congrArg (World.drewN _) (Nat.add_assoc _ _ _))⟩))))
        go_ret
        exact ⟨xV, xW HB.out⟩
   ·rw [if_neg c5] at H
    exact absurd H (by simp)
  ·rw [if_neg c4] at H
   exact absurd H (by simp)
 ·replace c3 := Bool.eq_false_iff.mpr c3
  subst c3
  have H1 : (some false) = some r := by rw [if_neg (show ¬ (false = true) by decide)] at H; exact H
  clear H
  have H := H1
  clear H1
  obtain rfl := Option.some.inj H
  go_enter Try.func64, Try.ntmps64
  go_wp2_with (first | ((with_reducible refine gate_dst (N := 1) rfl ?_); (try (refine gate_guard (by rfl) ?_; dsimp only)); refine xE (N := 1) (cs := #[.slice A0_0 l0_0.length c0_0, .int .i64 a0_1]) (t := 42) (h := ?_); intro gb133 hg w68 hbox hb; have BK133 := am (hbox); have GW133 := am (xS hg HB.out); have GE133 := am (xS hg HB.out); replace HB := am (below_step (xW HB.out) hb); clear hb hbox hg; obtain ⟨hcz69_0, hcz69_1, hfz69_0, hfz69_1⟩ := xT2 (W := w68) BK133.out) | (go_at_call 61; (with_reducible refine (spec_l01In.calls (l0_0.length : Int) 1 24 false _ A2.out).mono ?_); rintro e w' ⟨rfl, ⟨nd, rfl⟩⟩; (try first | exact ⟨rfl, _, World.drewN_drewN _ _ _⟩ | exact ⟨rfl, _, Eq.trans (World.drewN_drewN _ _ _) (congrArg (World.drewN _) (Nat.add_assoc _ _ _))⟩)))
  repeat (go_quiet (first | ((with_reducible refine gate_dst (N := 1) rfl ?_); (try (refine gate_guard (by rfl) ?_; dsimp only)); refine xE (N := 1) (cs := #[.slice A0_0 l0_0.length c0_0, .int .i64 a0_1]) (t := 42) (h := ?_); intro gb133 hg w68 hbox hb; have BK133 := am (hbox); have GW133 := am (xS hg HB.out); have GE133 := am (xS hg HB.out); replace HB := am (below_step (xW HB.out) hb); clear hb hbox hg; obtain ⟨hcz69_0, hcz69_1, hfz69_0, hfz69_1⟩ := xT2 (W := w68) BK133.out) | (go_at_call 61; (with_reducible refine (spec_l01In.calls (l0_0.length : Int) 1 24 false _ A2.out).mono ?_); rintro e w' ⟨rfl, ⟨nd, rfl⟩⟩; (try first | exact ⟨rfl, _, World.drewN_drewN _ _ _⟩ | exact ⟨rfl, _, Eq.trans (World.drewN_drewN _ _ _) (congrArg (World.drewN _) (Nat.add_assoc _ _ _))⟩))); try go_wp2_with (first | ((with_reducible refine gate_dst (N := 1) rfl ?_); (try (refine gate_guard (by rfl) ?_; dsimp only)); refine xE (N := 1) (cs := #[.slice A0_0 l0_0.length c0_0, .int .i64 a0_1]) (t := 42) (h := ?_); intro gb133 hg w68 hbox hb; have BK133 := am (hbox); have GW133 := am (xS hg HB.out); have GE133 := am (xS hg HB.out); replace HB := am (below_step (xW HB.out) hb); clear hb hbox hg; obtain ⟨hcz69_0, hcz69_1, hfz69_0, hfz69_1⟩ := xT2 (W := w68) BK133.out) | (go_at_call 61; (with_reducible refine (spec_l01In.calls (l0_0.length : Int) 1 24 false _ A2.out).mono ?_); rintro e w' ⟨rfl, ⟨nd, rfl⟩⟩; (try first | exact ⟨rfl, _, World.drewN_drewN _ _ _⟩ | exact ⟨rfl, _, Eq.trans (World.drewN_drewN _ _ _) (congrArg (World.drewN _) (Nat.add_assoc _ _ _))⟩))))
  go_ret
  exact ⟨xV, xW HB.out⟩
end Go.Proofs.Ytomcapflpephmaa.HFnExactLift
