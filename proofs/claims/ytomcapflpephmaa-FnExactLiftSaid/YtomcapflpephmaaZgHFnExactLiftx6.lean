/- What the row of the law needs of the printed and the plain texts. -/
import Derived.Test.YtomcapflpephmaaZgHX
import Derived.Test.YtomcapflpephmaaZgHFnExactLiftx0
import Derived.Test.YtomcapflpephmaaZgHFnExactLiftx5
namespace Go.Proofs.Ytomcapflpephmaa.HFnExactLift
open Go.RowKit Go.Proofs.YtomcapflpephmaaW.PrintWords Go.Proofs.YtomcapflpephmaaW.PrintLast Go.Proofs.YtomcapflpephmaaW.PrintMore
attribute [local go_sem] max2_int min2_int max_two min_two max_three min_three max_four min_four
set_option linter.unusedVariables false
set_option linter.unusedSimpArgs false
def impl_Arena_lift.f (l0_0 : List (S50)) (a0_1 : Int) (a1 : Int) : Option ((List (S50))) := if 0 ≤ a1 then (if a1 < (l0_0.length : Int) then (if (wrap64 (((rd_T50 l0_0 a1).f0) + 1)) > 41666665 then (some (l0_0.set (a1 : Int).toNat (⟨0, false, (⟨#[]⟩ : ByteArray), (⟨#[]⟩ : ByteArray), a0_1⟩ : S50))) else (some (l0_0.set (a1 : Int).toNat (⟨wrap64 (((rd_T50 l0_0 a1).f0) + 1), false, (⟨#[]⟩ : ByteArray), (⟨#[]⟩ : ByteArray), a0_1⟩ : S50)))) else (none)) else (none)
def impl_Arena_lift.T3 : Bool × List (List Nat × List Nat) := (true, [([], []), ([0], [0]), ([1], [1]), ([2], [2]), ([], []), ([], []), ([], []), ([6], [6]), ([7], [7]), ([8], [8]), ([5, 9], [5, 9]), ([3, 4, 0, 1, 2, 3, 4, 5, 6, 7, 8, 9, 10], [3, 4]), ([11, 10, 0, 1, 2, 3, 4, 5, 6, 7, 8, 9, 10], [10, 11])])
def impl_Arena_lift.B3 : List Nat := [0, 1, 3, 7, 0, 0, 0, 64, 192, 448, 992, 2047, 4095]
theorem impl_Arena_lift.tab3 : rtab .any (opsOf Try.f50 3) = impl_Arena_lift.T3 := by kernel_rfl
theorem impl_Arena_lift.bits3 : waitsOk impl_Arena_lift.T3.2 impl_Arena_lift.B3 = true := by kernel_rfl
set_option maxHeartbeats 8000000 in
set_option maxRecDepth 100000 in
theorem impl_Arena_lift.calls (P0_0_ : Nat → Prop) (u9000_ : Value) (l0_0 : List (S50)) (a0_1 : Int) (a1 : Int) (r : List (S50)) (w0 w : World) (hB : Below w0.heap.size w0 w) (ho0_0 : Kd.R k50 50 w w0.heap.size P0_0_ u9000_ l0_0) (h : impl_Arena_lift.f l0_0 a0_1 a1 = some r) (gb0_ : Nat) (hg0_ : w.heap[gb0_]? = some (.cells #[u9000_, .int .i64 a0_1] 42 (0, 0))) (hge0_ : w0.heap.size ≤ gb0_) :
  Calls Try.prog 50 #[.pointer (some ⟨gb0_, 0, none⟩), .int .i64 a1] w fun e w' => e = .returned (.tuple #[]) ∧ Kd.R k50 50 w' w0.heap.size (fun k_ => (P0_0_ k_ ∨ w.heap.size ≤ k_)) u9000_ r ∧ Below w0.heap.size w0 w' ∧ Kept w w' (fun k_ => P0_0_ k_ ∨ k_ = gb0_) ∧ w'.heap[gb0_]? = some (.cells #[u9000_, .int .i64 a1] 42 (0, 0)) := by
 have hu42 := Try.underlying42
 have hu50 := Try.underlying50
 have HO0_0 := am (show Kd.R k50 50 w w0.heap.size (fun k_ => (P0_0_ k_ ∨ w.heap.size ≤ k_)) u9000_ l0_0 from Kd.R_mono ho0_0 (fun k_ hk => (.inl hk)))
 have HK := am (Kept.refl w (fun k_ => P0_0_ k_))
 have HW0 := am hB.size
 have HB := am hB
 clear hB
 have H : (if 0 ≤ a1 then (if a1 < (l0_0.length : Int) then (if (wrap64 (((rd_T50 l0_0 a1).f0) + 1)) > 41666665 then (some (l0_0.set (a1 : Int).toNat (⟨0, false, (⟨#[]⟩ : ByteArray), (⟨#[]⟩ : ByteArray), a0_1⟩ : S50))) else (some (l0_0.set (a1 : Int).toNat (⟨wrap64 (((rd_T50 l0_0 a1).f0) + 1), false, (⟨#[]⟩ : ByteArray), (⟨#[]⟩ : ByteArray), a0_1⟩ : S50)))) else (none)) else (none)) = some r := h
 clear h
 by_cases c3 : 0 ≤ a1
 ·rw [if_pos c3] at H
  have c3b0 : decide (0 ≤ a1) = true := decide_eq_true c3
  clear c3
  by_cases c4 : a1 < (l0_0.length : Int)
  ·rw [if_pos c4] at H
   have c4b0 : decide (a1 < (l0_0.length : Int)) = true := decide_eq_true c4
   clear c4
   by_cases c5 : (wrap64 (((rd_T50 l0_0 a1).f0) + 1)) > 41666665
   ·rw [if_pos c5] at H
    have c5b0 : decide (41666665 < (wrap64 (((rd_T50 l0_0 a1).f0) + 1))) = true := decide_eq_true c5
    clear c5
    obtain ⟨y207, hy207⟩ : ∃ y_ : List (S50), y_ = (l0_0.set (a1 : Int).toNat (⟨0, false, (⟨#[]⟩ : ByteArray), (⟨#[]⟩ : ByteArray), a0_1⟩ : S50)) := ⟨_, rfl⟩
    replace H : (some y207) = some r := by first | (rw [hy207]; with_reducible exact H) | (have H2_ := (Option.bind_some _ _).symm.trans H; rw [hy207]; with_reducible exact H2_) | (have H2_ := (Option.bind_some _ _).symm.trans H; with_reducible exact H2_) | with_reducible exact H | (rw [hy207]; exact H) | exact H
    have Ny207 := am hy207
    clear hy207
    obtain rfl := Option.some.inj H
    obtain ⟨Ao7, co7, eo7⟩ := Kd.R_slice HO0_0.out
    subst eo7
    have BK205 := am hg0_
    have GE205 := am hge0_
    obtain ⟨hcz9_0, hcz9_1, hfz9_0, hfz9_1⟩ := xT2 (W := w) BK205.out
    (have p206 : 0 ≤ (a1 : Int) := of_decide_eq_true (by assumption); have q206 : a1 < (l0_0.length : Int) := of_decide_eq_true (by assumption); obtain ⟨ad206, e206, hx206_0, hx206_1, hx206_2, hx206_3, hx206_4⟩ := at_T50 (Kd.R_reads' HO0_0.out).2.2 a1 p206 q206; cases e206; replace p206 := eq_true p206; replace q206 := eq_true q206)
    go_enter Try.func50, Try.ntmps50
    try go_wp2
    replace HO0_0 := am (Kd.R_drew HO0_0.out)
    replace BK205 := am (blk_drew BK205.out)
    replace HK := am (Kept.drew HK.out)
    replace HB := am (below_drew1 HB.out)
    have p6 : 0 ≤ (a1 : Int) := of_decide_eq_true (by assumption)
    have q6 : (a1 : Int) < ((l0_0.length : Int) : Int) := of_decide_eq_true (by assumption)
    obtain ⟨go6, co6, eo6, gb6, gl6, cl6, HG6⟩ := Kd.R_form HO0_0.out (by omega)
    (first | cases eo6 | (injection eo6 with ea_ en_ ec_; (first | subst ea_ | (injection ea_ with ea_; subst ea_)); subst ec_; clear en_))
    have GB6 := am gb6
    have GG6 := am HG6
    clear gb6 gl6 HG6
    have HMgo6 := am (show (P0_0_ go6 ∨ w.heap.size ≤ go6) from (HO0_0.out.1 _ rfl))
    (first | simp only [add_plain] at hx206_0 | skip)
    (first | simp only [add_plain] at hx206_1 | skip)
    (first | simp only [add_plain] at hx206_2 | skip)
    (first | simp only [add_plain] at hx206_3 | skip)
    (first | simp only [add_plain] at hx206_4 | skip)
    obtain ⟨ce6, hcl6, hM6, hcc6, hfr6⟩ := Kd.R_elem HO0_0.out z50 (a1 : Int) p6 q6
    obtain rfl := k50_openM hM6
    have hx6_0 : World.cell? _ ⟨go6, (a1 : Int).toNat * 5, none⟩ = some (.int .i64 ((rd_T50 l0_0 a1).f0)) := hcc6 0 _ rfl
    have hx6_1 : World.cell? _ ⟨go6, (a1 : Int).toNat * 5 + 1, none⟩ = some (.bool ((rd_T50 l0_0 a1).f1)) := hcc6 1 _ rfl
    have hx6_2 : World.cell? _ ⟨go6, (a1 : Int).toNat * 5 + 2, none⟩ = some (.string ((rd_T50 l0_0 a1).f2)) := hcc6 2 _ rfl
    have hx6_3 : World.cell? _ ⟨go6, (a1 : Int).toNat * 5 + 3, none⟩ = some (.string ((rd_T50 l0_0 a1).f3)) := hcc6 3 _ rfl
    have hx6_4 : World.cell? _ ⟨go6, (a1 : Int).toNat * 5 + 4, none⟩ = some (.int .i64 ((rd_T50 l0_0 a1).f4)) := hcc6 4 _ rfl
    have hf6_0 : World.frozen? _ ⟨go6, (a1 : Int).toNat * 5, none⟩ = false := hfr6 0
    have hf6_1 : World.frozen? _ ⟨go6, (a1 : Int).toNat * 5 + 1, none⟩ = false := hfr6 1
    have hf6_2 : World.frozen? _ ⟨go6, (a1 : Int).toNat * 5 + 2, none⟩ = false := hfr6 2
    have hf6_3 : World.frozen? _ ⟨go6, (a1 : Int).toNat * 5 + 3, none⟩ = false := hfr6 3
    have hf6_4 : World.frozen? _ ⟨go6, (a1 : Int).toNat * 5 + 4, none⟩ = false := hfr6 4
    clear hcl6 hcc6 hfr6 hM6
    replace p6 := eq_true p6
    replace q6 := eq_true q6
    obtain ⟨ce11, hcl11, hM11, hcc11, hfr11⟩ := Kd.R_elem HO0_0.out z50 (a1 : Int) (of_decide_eq_true (by assumption)) (by have h_ : (a1 : Int) < ((l0_0.length : Int) : Int) := of_decide_eq_true (by assumption); first | exact h_ | (have e_ := (Kd.R_reads' HO0_0.out).1; omega) | simpa using h_)
    obtain rfl := k50_openM hM11
    have HP11 := (Kd.R_seg HO0_0.out (a1 : Int) (of_decide_eq_true (by assumption)) (by have h_ : (a1 : Int) < ((l0_0.length : Int) : Int) := of_decide_eq_true (by assumption); first | exact h_ | (have e_ := (Kd.R_reads' HO0_0.out).1; omega) | simpa using h_) (seg := [.int .i64 0, .bool false, .string (⟨#[]⟩ : ByteArray), .string (⟨#[]⟩ : ByteArray), .int .i64 a0_1]) (j := 0) hcl11 hcc11 (show 5 ≤ 5 from by decide) (x' := (⟨0, false, (⟨#[]⟩ : ByteArray), (⟨#[]⟩ : ByteArray), a0_1⟩ : S50)) (k50_mkM _ _ _ (⟨0, false, (⟨#[]⟩ : ByteArray), (⟨#[]⟩ : ByteArray), a0_1⟩ : S50) ) (fun _ hk => hk)).1
    rw [← Ny207.out] at HP11
    have HQ11 := am HP11
    clear hcl11 hcc11 hfr11 hM11 HP11
    refine start_ (n := 13) (S := fun w' => w'.cell? ⟨gb0_, 0, none⟩ = some (.slice (some ⟨go6, 0, none⟩) l0_0.length co7) ∧ w'.cell? ⟨gb0_, 1, none⟩ = some (.int .i64 a0_1)) (ds := [12]) #[false, false, false, false, false, false, false, false, false, false, false, false, false] (by kernel_rfl) rfl rfl (xC2 BK205.out) (fun hHeld => ?_); refine with_tabW impl_Arena_lift.tab3 impl_Arena_lift.bits3 (fun HT_ HW_ => ?_)
    generalize w.drew = w10 at HO0_0 BK205 HK HB GG6 HQ11 hf6_0 hf6_1 hf6_2 hf6_3 hf6_4 hx206_0 hx206_1 hx206_2 hx206_3 hx206_4 hx6_0 hx6_1 hx6_2 hx6_3 hx6_4 hHeld ⊢
    refine xP1 (i := 0) (N := some 16) #[true, false, false, false, false, false, false, false, false, false, false, false, false] (any_of HT_.out (by kernel_rfl)) (h := ?_)
    refine xP1 (i := 1) (N := some 17) #[true, true, false, false, false, false, false, false, false, false, false, false, false] (any_of HT_.out (by kernel_rfl)) (h := ?_)
    refine xP1 (i := 2) (N := some 18) #[true, true, true, false, false, false, false, false, false, false, false, false, false] (any_of HT_.out (by kernel_rfl)) (h := ?_)
    refine xP1 (i := 4) (N := some 20) #[true, true, true, false, true, false, false, false, false, false, false, false, false] (any_of HT_.out (by kernel_rfl)) (h := ?_)
    refine xP1 (i := 5) (N := some 21) #[true, true, true, false, true, true, false, false, false, false, false, false, false] (any_of HT_.out (by kernel_rfl)) (h := ?_)
    refine xP1 (i := 6) (N := some 22) #[true, true, true, false, true, true, true, false, false, false, false, false, false] (any_of HT_.out (by kernel_rfl)) (h := ?_)
    refine xP1 (i := 7) (N := some 23) #[true, true, true, false, true, true, true, true, false, false, false, false, false] (any_of HT_.out (by kernel_rfl)) (h := ?_)
    refine xP1 (i := 8) (N := some 24) #[true, true, true, false, true, true, true, true, true, false, false, false, false] (any_of HT_.out (by kernel_rfl)) (h := ?_)
    refine take_ (i := 3) (N := some 19) (v := ?_) (a' := ?_) #[true, true, true, true, true, true, true, true, true, false, false, false, false] rfl rfl (take_ofW HT_.out HW_.out (by kernel_rfl)) (fun _ _ _ h => h) (Or.inl ⟨by rfl, ?_⟩) hHeld ?_ ?_
    rotate_left
    ·rintro w' ⟨s0, s1⟩
     go_simp
     with_reducible rfl
    rotate_left
    ·simp only [Act.put, List.setIfInBounds_toArray, List.set_cons_zero, List.set_cons_succ, i64_w, i32_w]
     rfl
    refine take_ (i := 9) (N := some 25) (v := ?_) (a' := ?_) #[true, true, true, true, true, true, true, true, true, true, false, false, false] rfl rfl (take_ofW HT_.out HW_.out (by kernel_rfl)) (fun _ _ _ h => h) (Or.inl ⟨by rfl, ?_⟩) hHeld ?_ ?_
    rotate_left
    ·rintro w' ⟨s0, s1⟩
     go_simp
     with_reducible rfl
    rotate_left
    ·simp only [Act.put, List.setIfInBounds_toArray, List.set_cons_zero, List.set_cons_succ, i64_w, i32_w]
     rfl
    refine xP1 (i := 10) (N := some 26) #[true, true, true, true, true, true, true, true, true, true, true, false, false] (any_of HT_.out (by kernel_rfl)) (h := ?_)
    refine xP1 (i := 11) (N := some 27) #[true, true, true, true, true, true, true, true, true, true, true, true, false] (any_of HT_.out (by kernel_rfl)) (h := ?_)
    refine last_ (i := 12) (N := none) #[true, true, true, true, true, true, true, true, true, true, true, true, true] rfl rfl (one_of HT_.out (by kernel_rfl)) (by decide) (fun K hK => ?_)
    refine skip_ (w1 := ?_) (by rfl) rfl ?_ ?_
    rotate_left
    ·go_simp
     rfl
    refine hK.out _ _ ?_
    clear hK K
    refine done_ (done_of HT_.out (by kernel_rfl)) ?_
    have n0_ : Aside0 (Kd.R k50 50 (((((w10.setCell ⟨go6, (a1 : Int).toNat * 5, none⟩ (.int .i64 0)).setCell ⟨go6, (a1 : Int).toNat * 5 + 1, none⟩ (.bool false)).setCell ⟨go6, (a1 : Int).toNat * 5 + 2, none⟩ (.string (⟨#[]⟩ : ByteArray))).setCell ⟨go6, (a1 : Int).toNat * 5 + 3, none⟩ (.string (⟨#[]⟩ : ByteArray))).setCell ⟨go6, (a1 : Int).toNat * 5 + 4, none⟩ (.int .i64 a0_1)) w0.heap.size (fun k_ => (P0_0_ k_ ∨ w.heap.size ≤ k_)) (.slice (some ⟨go6, 0, none⟩) l0_0.length co7) y207) := ⟨HQ11.out⟩
    have n1_ : Aside0 ((((((w10.setCell ⟨go6, (a1 : Int).toNat * 5, none⟩ (.int .i64 0)).setCell ⟨go6, (a1 : Int).toNat * 5 + 1, none⟩ (.bool false)).setCell ⟨go6, (a1 : Int).toNat * 5 + 2, none⟩ (.string (⟨#[]⟩ : ByteArray))).setCell ⟨go6, (a1 : Int).toNat * 5 + 3, none⟩ (.string (⟨#[]⟩ : ByteArray))).setCell ⟨go6, (a1 : Int).toNat * 5 + 4, none⟩ (.int .i64 a0_1)).heap[gb0_]? = some (.cells #[.slice (some ⟨go6, 0, none⟩) l0_0.length co7, .int .i64 a0_1] 42 (0, 0))) := ⟨by (with_reducible repeat (first | refine blk_drewN ?_ _ | refine blk_drew ?_ | refine blk_alloc ?_ _)); refine blk_far ?_ (by have h_ := Kd.R_ne HO0_0.out BK205.out (by decide); intro e_; exact h_ (by rw [e_]; rfl)) _; (with_reducible repeat (first | refine blk_drewN ?_ _ | refine blk_drew ?_ | refine blk_alloc ?_ _)); refine blk_far ?_ (by have h_ := Kd.R_ne HO0_0.out BK205.out (by decide); intro e_; exact h_ (by rw [e_]; rfl)) _; (with_reducible repeat (first | refine blk_drewN ?_ _ | refine blk_drew ?_ | refine blk_alloc ?_ _)); refine blk_far ?_ (by have h_ := Kd.R_ne HO0_0.out BK205.out (by decide); intro e_; exact h_ (by rw [e_]; rfl)) _; (with_reducible repeat (first | refine blk_drewN ?_ _ | refine blk_drew ?_ | refine blk_alloc ?_ _)); refine blk_far ?_ (by have h_ := Kd.R_ne HO0_0.out BK205.out (by decide); intro e_; exact h_ (by rw [e_]; rfl)) _; (with_reducible repeat (first | refine blk_drewN ?_ _ | refine blk_drew ?_ | refine blk_alloc ?_ _)); refine blk_far ?_ (by have h_ := Kd.R_ne HO0_0.out BK205.out (by decide); intro e_; exact h_ (by rw [e_]; rfl)) _; (with_reducible repeat (first | refine blk_drewN ?_ _ | refine blk_drew ?_ | refine blk_alloc ?_ _)); exact BK205.out⟩
    have n2_ : Aside0 (Kept w (((((w10.setCell ⟨go6, (a1 : Int).toNat * 5, none⟩ (.int .i64 0)).setCell ⟨go6, (a1 : Int).toNat * 5 + 1, none⟩ (.bool false)).setCell ⟨go6, (a1 : Int).toNat * 5 + 2, none⟩ (.string (⟨#[]⟩ : ByteArray))).setCell ⟨go6, (a1 : Int).toNat * 5 + 3, none⟩ (.string (⟨#[]⟩ : ByteArray))).setCell ⟨go6, (a1 : Int).toNat * 5 + 4, none⟩ (.int .i64 a0_1)) (fun k_ => P0_0_ k_)) := ⟨by repeat (first | (with_reducible first | exact HK.out | apply Kept.alloc | apply Kept.drewN | apply Kept.drew | refine Kept.setCell ?_ HMgo6.out _ | refine Kept.setCell ?_ HMgo6.out _ | refine Kept.setCell ?_ HMgo6.out _ | refine Kept.setCell ?_ HMgo6.out _ | refine Kept.setCell ?_ HMgo6.out _ | refine Kept.setCell ?_ (.inr GW205.out) _) | exact HK.out)⟩
    have n3_ : Aside0 (Below w0.heap.size w0 (((((w10.setCell ⟨go6, (a1 : Int).toNat * 5, none⟩ (.int .i64 0)).setCell ⟨go6, (a1 : Int).toNat * 5 + 1, none⟩ (.bool false)).setCell ⟨go6, (a1 : Int).toNat * 5 + 2, none⟩ (.string (⟨#[]⟩ : ByteArray))).setCell ⟨go6, (a1 : Int).toNat * 5 + 3, none⟩ (.string (⟨#[]⟩ : ByteArray))).setCell ⟨go6, (a1 : Int).toNat * 5 + 4, none⟩ (.int .i64 a0_1))) := ⟨xW HB.out⟩
    (try clear HO0_0)
    (try clear BK205)
    (try clear HK)
    (try clear HB)
    generalize (((((w10.setCell ⟨go6, (a1 : Int).toNat * 5, none⟩ (.int .i64 0)).setCell ⟨go6, (a1 : Int).toNat * 5 + 1, none⟩ (.bool false)).setCell ⟨go6, (a1 : Int).toNat * 5 + 2, none⟩ (.string (⟨#[]⟩ : ByteArray))).setCell ⟨go6, (a1 : Int).toNat * 5 + 3, none⟩ (.string (⟨#[]⟩ : ByteArray))).setCell ⟨go6, (a1 : Int).toNat * 5 + 4, none⟩ (.int .i64 a0_1)) = w12 at n0_ n1_ n2_ n3_ ⊢
    have HO0_0 := n0_
    have BK205 := n1_
    have HK := n2_
    have HB := n3_
    clear n0_ n1_ n2_ n3_
    obtain ⟨hcz13_0, hcz13_1, hfz13_0, hfz13_1⟩ := xT2 (W := w12) BK205.out
    try go_wp2
    first | go_end0 | ((try simp only [Exit.inBlock, Exit.then]); refine bodyPost_ret (results_none rfl _ _ _) rfl ?_)
    exact ⟨xV, xR HO0_0.out, xW HB.out, by (with_reducible repeat (first | apply Kept.alloc | apply Kept.drewN | apply Kept.drew)); exact Kept.setCell (Kept.mono HK.out (fun _ hk_ => .inl hk_)) (.inl (.inr rfl)) _, by (with_reducible repeat (first | refine blk_drewN ?_ _ | refine blk_drew ?_ | refine blk_alloc ?_ _)); exact blk_put BK205.out 1 _ rfl⟩
   ·rw [if_neg c5] at H
    have c5b0 : decide (41666665 < (wrap64 (((rd_T50 l0_0 a1).f0) + 1))) = false := decide_eq_false c5
    clear c5
    obtain ⟨y208, hy208⟩ : ∃ y_ : List (S50), y_ = (l0_0.set (a1 : Int).toNat (⟨wrap64 (((rd_T50 l0_0 a1).f0) + 1), false, (⟨#[]⟩ : ByteArray), (⟨#[]⟩ : ByteArray), a0_1⟩ : S50)) := ⟨_, rfl⟩
    replace H : (some y208) = some r := by first | (rw [hy208]; with_reducible exact H) | (have H2_ := (Option.bind_some _ _).symm.trans H; rw [hy208]; with_reducible exact H2_) | (have H2_ := (Option.bind_some _ _).symm.trans H; with_reducible exact H2_) | with_reducible exact H | (rw [hy208]; exact H) | exact H
    have Ny208 := am hy208
    clear hy208
    obtain rfl := Option.some.inj H
    obtain ⟨Ao15, co15, eo15⟩ := Kd.R_slice HO0_0.out
    subst eo15
    have BK205 := am hg0_
    have GE205 := am hge0_
    obtain ⟨hcz17_0, hcz17_1, hfz17_0, hfz17_1⟩ := xT2 (W := w) BK205.out
    (have p206 : 0 ≤ (a1 : Int) := of_decide_eq_true (by assumption); have q206 : a1 < (l0_0.length : Int) := of_decide_eq_true (by assumption); obtain ⟨ad206, e206, hx206_0, hx206_1, hx206_2, hx206_3, hx206_4⟩ := at_T50 (Kd.R_reads' HO0_0.out).2.2 a1 p206 q206; cases e206; replace p206 := eq_true p206; replace q206 := eq_true q206)
    go_enter Try.func50, Try.ntmps50
    try go_wp2
    replace HO0_0 := am (Kd.R_drew HO0_0.out)
    replace BK205 := am (blk_drew BK205.out)
    replace HK := am (Kept.drew HK.out)
    replace HB := am (below_drew1 HB.out)
    have p14 : 0 ≤ (a1 : Int) := of_decide_eq_true (by assumption)
    have q14 : (a1 : Int) < ((l0_0.length : Int) : Int) := of_decide_eq_true (by assumption)
    obtain ⟨go14, co14, eo14, gb14, gl14, cl14, HG14⟩ := Kd.R_form HO0_0.out (by omega)
    (first | cases eo14 | (injection eo14 with ea_ en_ ec_; (first | subst ea_ | (injection ea_ with ea_; subst ea_)); subst ec_; clear en_))
    have GB14 := am gb14
    have GG14 := am HG14
    clear gb14 gl14 HG14
    have HMgo14 := am (show (P0_0_ go14 ∨ w.heap.size ≤ go14) from (HO0_0.out.1 _ rfl))
    (first | simp only [add_plain] at hx206_0 | skip)
    (first | simp only [add_plain] at hx206_1 | skip)
    (first | simp only [add_plain] at hx206_2 | skip)
    (first | simp only [add_plain] at hx206_3 | skip)
    (first | simp only [add_plain] at hx206_4 | skip)
    obtain ⟨ce14, hcl14, hM14, hcc14, hfr14⟩ := Kd.R_elem HO0_0.out z50 (a1 : Int) p14 q14
    obtain rfl := k50_openM hM14
    have hx14_0 : World.cell? _ ⟨go14, (a1 : Int).toNat * 5, none⟩ = some (.int .i64 ((rd_T50 l0_0 a1).f0)) := hcc14 0 _ rfl
    have hx14_1 : World.cell? _ ⟨go14, (a1 : Int).toNat * 5 + 1, none⟩ = some (.bool ((rd_T50 l0_0 a1).f1)) := hcc14 1 _ rfl
    have hx14_2 : World.cell? _ ⟨go14, (a1 : Int).toNat * 5 + 2, none⟩ = some (.string ((rd_T50 l0_0 a1).f2)) := hcc14 2 _ rfl
    have hx14_3 : World.cell? _ ⟨go14, (a1 : Int).toNat * 5 + 3, none⟩ = some (.string ((rd_T50 l0_0 a1).f3)) := hcc14 3 _ rfl
    have hx14_4 : World.cell? _ ⟨go14, (a1 : Int).toNat * 5 + 4, none⟩ = some (.int .i64 ((rd_T50 l0_0 a1).f4)) := hcc14 4 _ rfl
    have hf14_0 : World.frozen? _ ⟨go14, (a1 : Int).toNat * 5, none⟩ = false := hfr14 0
    have hf14_1 : World.frozen? _ ⟨go14, (a1 : Int).toNat * 5 + 1, none⟩ = false := hfr14 1
    have hf14_2 : World.frozen? _ ⟨go14, (a1 : Int).toNat * 5 + 2, none⟩ = false := hfr14 2
    have hf14_3 : World.frozen? _ ⟨go14, (a1 : Int).toNat * 5 + 3, none⟩ = false := hfr14 3
    have hf14_4 : World.frozen? _ ⟨go14, (a1 : Int).toNat * 5 + 4, none⟩ = false := hfr14 4
    clear hcl14 hcc14 hfr14 hM14
    replace p14 := eq_true p14
    replace q14 := eq_true q14
    obtain ⟨ce19, hcl19, hM19, hcc19, hfr19⟩ := Kd.R_elem HO0_0.out z50 (a1 : Int) (of_decide_eq_true (by assumption)) (by have h_ : (a1 : Int) < ((l0_0.length : Int) : Int) := of_decide_eq_true (by assumption); first | exact h_ | (have e_ := (Kd.R_reads' HO0_0.out).1; omega) | simpa using h_)
    obtain rfl := k50_openM hM19
    have HP19 := (Kd.R_seg HO0_0.out (a1 : Int) (of_decide_eq_true (by assumption)) (by have h_ : (a1 : Int) < ((l0_0.length : Int) : Int) := of_decide_eq_true (by assumption); first | exact h_ | (have e_ := (Kd.R_reads' HO0_0.out).1; omega) | simpa using h_) (seg := [.int .i64 (wrap64 (((rd_T50 l0_0 a1).f0) + 1)), .bool false, .string (⟨#[]⟩ : ByteArray), .string (⟨#[]⟩ : ByteArray), .int .i64 a0_1]) (j := 0) hcl19 hcc19 (show 5 ≤ 5 from by decide) (x' := (⟨wrap64 (((rd_T50 l0_0 a1).f0) + 1), false, (⟨#[]⟩ : ByteArray), (⟨#[]⟩ : ByteArray), a0_1⟩ : S50)) (k50_mkM _ _ _ (⟨wrap64 (((rd_T50 l0_0 a1).f0) + 1), false, (⟨#[]⟩ : ByteArray), (⟨#[]⟩ : ByteArray), a0_1⟩ : S50) ) (fun _ hk => hk)).1
    rw [← Ny208.out] at HP19
    have HQ19 := am HP19
    clear hcl19 hcc19 hfr19 hM19 HP19
    refine start_ (n := 13) (S := fun w' => w'.cell? ⟨gb0_, 0, none⟩ = some (.slice (some ⟨go14, 0, none⟩) l0_0.length co15) ∧ w'.cell? ⟨gb0_, 1, none⟩ = some (.int .i64 a0_1)) (ds := [12]) #[false, false, false, false, false, false, false, false, false, false, false, false, false] (by kernel_rfl) rfl rfl (xC2 BK205.out) (fun hHeld => ?_); refine with_tabW impl_Arena_lift.tab3 impl_Arena_lift.bits3 (fun HT_ HW_ => ?_)
    generalize w.drew = w18 at HO0_0 BK205 HK HB GG14 HQ19 hf14_0 hf14_1 hf14_2 hf14_3 hf14_4 hx14_0 hx14_1 hx14_2 hx14_3 hx14_4 hx206_0 hx206_1 hx206_2 hx206_3 hx206_4 hHeld ⊢
    refine xP1 (i := 0) (N := some 16) #[true, false, false, false, false, false, false, false, false, false, false, false, false] (any_of HT_.out (by kernel_rfl)) (h := ?_)
    refine xP1 (i := 1) (N := some 17) #[true, true, false, false, false, false, false, false, false, false, false, false, false] (any_of HT_.out (by kernel_rfl)) (h := ?_)
    refine xP1 (i := 2) (N := some 18) #[true, true, true, false, false, false, false, false, false, false, false, false, false] (any_of HT_.out (by kernel_rfl)) (h := ?_)
    refine xP1 (i := 4) (N := some 20) #[true, true, true, false, true, false, false, false, false, false, false, false, false] (any_of HT_.out (by kernel_rfl)) (h := ?_)
    refine xP1 (i := 5) (N := some 21) #[true, true, true, false, true, true, false, false, false, false, false, false, false] (any_of HT_.out (by kernel_rfl)) (h := ?_)
    refine xP1 (i := 6) (N := some 22) #[true, true, true, false, true, true, true, false, false, false, false, false, false] (any_of HT_.out (by kernel_rfl)) (h := ?_)
    refine xP1 (i := 7) (N := some 23) #[true, true, true, false, true, true, true, true, false, false, false, false, false] (any_of HT_.out (by kernel_rfl)) (h := ?_)
    refine xP1 (i := 8) (N := some 24) #[true, true, true, false, true, true, true, true, true, false, false, false, false] (any_of HT_.out (by kernel_rfl)) (h := ?_)
    refine take_ (i := 3) (N := some 19) (v := ?_) (a' := ?_) #[true, true, true, true, true, true, true, true, true, false, false, false, false] rfl rfl (take_ofW HT_.out HW_.out (by kernel_rfl)) (fun _ _ _ h => h) (Or.inl ⟨by rfl, ?_⟩) hHeld ?_ ?_
    rotate_left
    ·rintro w' ⟨s0, s1⟩
     go_simp
     with_reducible rfl
    rotate_left
    ·simp only [Act.put, List.setIfInBounds_toArray, List.set_cons_zero, List.set_cons_succ, i64_w, i32_w]
     rfl
    refine take_ (i := 9) (N := some 25) (v := ?_) (a' := ?_) #[true, true, true, true, true, true, true, true, true, true, false, false, false] rfl rfl (take_ofW HT_.out HW_.out (by kernel_rfl)) (fun _ _ _ h => h) (Or.inl ⟨by rfl, ?_⟩) hHeld ?_ ?_
    rotate_left
    ·rintro w' ⟨s0, s1⟩
     go_simp
     with_reducible rfl
    rotate_left
    ·simp only [Act.put, List.setIfInBounds_toArray, List.set_cons_zero, List.set_cons_succ, i64_w, i32_w]
     rfl
    refine xP1 (i := 10) (N := some 26) #[true, true, true, true, true, true, true, true, true, true, true, false, false] (any_of HT_.out (by kernel_rfl)) (h := ?_)
    refine xP1 (i := 11) (N := some 27) #[true, true, true, true, true, true, true, true, true, true, true, true, false] (any_of HT_.out (by kernel_rfl)) (h := ?_)
    refine last_ (i := 12) (N := none) #[true, true, true, true, true, true, true, true, true, true, true, true, true] rfl rfl (one_of HT_.out (by kernel_rfl)) (by decide) (fun K hK => ?_)
    refine skip_ (w1 := ?_) (by rfl) rfl ?_ ?_
    rotate_left
    ·go_simp
     rfl
    refine hK.out _ _ ?_
    clear hK K
    refine done_ (done_of HT_.out (by kernel_rfl)) ?_
    have n0_ : Aside0 (Kd.R k50 50 (((((w18.setCell ⟨go14, (a1 : Int).toNat * 5, none⟩ (.int .i64 (wrap64 (((rd_T50 l0_0 a1).f0) + 1)))).setCell ⟨go14, (a1 : Int).toNat * 5 + 1, none⟩ (.bool false)).setCell ⟨go14, (a1 : Int).toNat * 5 + 2, none⟩ (.string (⟨#[]⟩ : ByteArray))).setCell ⟨go14, (a1 : Int).toNat * 5 + 3, none⟩ (.string (⟨#[]⟩ : ByteArray))).setCell ⟨go14, (a1 : Int).toNat * 5 + 4, none⟩ (.int .i64 a0_1)) w0.heap.size (fun k_ => (P0_0_ k_ ∨ w.heap.size ≤ k_)) (.slice (some ⟨go14, 0, none⟩) l0_0.length co15) y208) := ⟨HQ19.out⟩
    have n1_ : Aside0 ((((((w18.setCell ⟨go14, (a1 : Int).toNat * 5, none⟩ (.int .i64 (wrap64 (((rd_T50 l0_0 a1).f0) + 1)))).setCell ⟨go14, (a1 : Int).toNat * 5 + 1, none⟩ (.bool false)).setCell ⟨go14, (a1 : Int).toNat * 5 + 2, none⟩ (.string (⟨#[]⟩ : ByteArray))).setCell ⟨go14, (a1 : Int).toNat * 5 + 3, none⟩ (.string (⟨#[]⟩ : ByteArray))).setCell ⟨go14, (a1 : Int).toNat * 5 + 4, none⟩ (.int .i64 a0_1)).heap[gb0_]? = some (.cells #[.slice (some ⟨go14, 0, none⟩) l0_0.length co15, .int .i64 a0_1] 42 (0, 0))) := ⟨by (with_reducible repeat (first | refine blk_drewN ?_ _ | refine blk_drew ?_ | refine blk_alloc ?_ _)); refine blk_far ?_ (by have h_ := Kd.R_ne HO0_0.out BK205.out (by decide); intro e_; exact h_ (by rw [e_]; rfl)) _; (with_reducible repeat (first | refine blk_drewN ?_ _ | refine blk_drew ?_ | refine blk_alloc ?_ _)); refine blk_far ?_ (by have h_ := Kd.R_ne HO0_0.out BK205.out (by decide); intro e_; exact h_ (by rw [e_]; rfl)) _; (with_reducible repeat (first | refine blk_drewN ?_ _ | refine blk_drew ?_ | refine blk_alloc ?_ _)); refine blk_far ?_ (by have h_ := Kd.R_ne HO0_0.out BK205.out (by decide); intro e_; exact h_ (by rw [e_]; rfl)) _; (with_reducible repeat (first | refine blk_drewN ?_ _ | refine blk_drew ?_ | refine blk_alloc ?_ _)); refine blk_far ?_ (by have h_ := Kd.R_ne HO0_0.out BK205.out (by decide); intro e_; exact h_ (by rw [e_]; rfl)) _; (with_reducible repeat (first | refine blk_drewN ?_ _ | refine blk_drew ?_ | refine blk_alloc ?_ _)); refine blk_far ?_ (by have h_ := Kd.R_ne HO0_0.out BK205.out (by decide); intro e_; exact h_ (by rw [e_]; rfl)) _; (with_reducible repeat (first | refine blk_drewN ?_ _ | refine blk_drew ?_ | refine blk_alloc ?_ _)); exact BK205.out⟩
    have n2_ : Aside0 (Kept w (((((w18.setCell ⟨go14, (a1 : Int).toNat * 5, none⟩ (.int .i64 (wrap64 (((rd_T50 l0_0 a1).f0) + 1)))).setCell ⟨go14, (a1 : Int).toNat * 5 + 1, none⟩ (.bool false)).setCell ⟨go14, (a1 : Int).toNat * 5 + 2, none⟩ (.string (⟨#[]⟩ : ByteArray))).setCell ⟨go14, (a1 : Int).toNat * 5 + 3, none⟩ (.string (⟨#[]⟩ : ByteArray))).setCell ⟨go14, (a1 : Int).toNat * 5 + 4, none⟩ (.int .i64 a0_1)) (fun k_ => P0_0_ k_)) := ⟨by repeat (first | (with_reducible first | exact HK.out | apply Kept.alloc | apply Kept.drewN | apply Kept.drew | refine Kept.setCell ?_ HMgo14.out _ | refine Kept.setCell ?_ HMgo14.out _ | refine Kept.setCell ?_ HMgo14.out _ | refine Kept.setCell ?_ HMgo14.out _ | refine Kept.setCell ?_ HMgo14.out _ | refine Kept.setCell ?_ (.inr GW205.out) _) | exact HK.out)⟩
    have n3_ : Aside0 (Below w0.heap.size w0 (((((w18.setCell ⟨go14, (a1 : Int).toNat * 5, none⟩ (.int .i64 (wrap64 (((rd_T50 l0_0 a1).f0) + 1)))).setCell ⟨go14, (a1 : Int).toNat * 5 + 1, none⟩ (.bool false)).setCell ⟨go14, (a1 : Int).toNat * 5 + 2, none⟩ (.string (⟨#[]⟩ : ByteArray))).setCell ⟨go14, (a1 : Int).toNat * 5 + 3, none⟩ (.string (⟨#[]⟩ : ByteArray))).setCell ⟨go14, (a1 : Int).toNat * 5 + 4, none⟩ (.int .i64 a0_1))) := ⟨xW HB.out⟩
    (try clear HO0_0)
    (try clear BK205)
    (try clear HK)
    (try clear HB)
    generalize (((((w18.setCell ⟨go14, (a1 : Int).toNat * 5, none⟩ (.int .i64 (wrap64 (((rd_T50 l0_0 a1).f0) + 1)))).setCell ⟨go14, (a1 : Int).toNat * 5 + 1, none⟩ (.bool false)).setCell ⟨go14, (a1 : Int).toNat * 5 + 2, none⟩ (.string (⟨#[]⟩ : ByteArray))).setCell ⟨go14, (a1 : Int).toNat * 5 + 3, none⟩ (.string (⟨#[]⟩ : ByteArray))).setCell ⟨go14, (a1 : Int).toNat * 5 + 4, none⟩ (.int .i64 a0_1)) = w20 at n0_ n1_ n2_ n3_ ⊢
    have HO0_0 := n0_
    have BK205 := n1_
    have HK := n2_
    have HB := n3_
    clear n0_ n1_ n2_ n3_
    obtain ⟨hcz21_0, hcz21_1, hfz21_0, hfz21_1⟩ := xT2 (W := w20) BK205.out
    try go_wp2
    first | go_end0 | ((try simp only [Exit.inBlock, Exit.then]); refine bodyPost_ret (results_none rfl _ _ _) rfl ?_)
    exact ⟨xV, xR HO0_0.out, xW HB.out, by (with_reducible repeat (first | apply Kept.alloc | apply Kept.drewN | apply Kept.drew)); exact Kept.setCell (Kept.mono HK.out (fun _ hk_ => .inl hk_)) (.inl (.inr rfl)) _, by (with_reducible repeat (first | refine blk_drewN ?_ _ | refine blk_drew ?_ | refine blk_alloc ?_ _)); exact blk_put BK205.out 1 _ rfl⟩
  ·rw [if_neg c4] at H
   exact absurd H (by simp)
 ·rw [if_neg c3] at H
  exact absurd H (by simp)
def impl_Lift.f (k : Nat) (l0_0 : List (S50)) (a0_1 : Int) (a1 : Int) : Option ((List (S50)) × Int × Bool) := (impl_ArenaOk.f k l0_0 a0_1).bind fun t211 => (if t211 = true then ((impl_Arena_place.f l0_0 a0_1 a1).bind fun t212 => (if t212 < 0 then (some (([] : List (S50)), 0, false)) else ((impl_copyArena.f l0_0 a0_1).bind fun bt213 => ((impl_Arena_lift.f bt213.1 bt213.2 t212).bind fun t218 => (some (t218, t212, true)))))) else (some (([] : List (S50)), 0, false)))
set_option maxHeartbeats 8000000 in
set_option maxRecDepth 100000 in
theorem impl_Lift.calls (k : Nat) (A0_0 : Option Addr) (c0_0 : Nat) (l0_0 : List (S50)) (a0_1 : Int) (a1 : Int) (r1 : List (S50)) (r2 : Int) (r3 : Bool) (w : World) (hr0_0 : Kd.C k50 w A0_0 l0_0.length l0_0) (hc0_0 : l0_0.length ≤ c0_0) (h : impl_Lift.f k l0_0 a0_1 a1 = some (r1, r2, r3)) :
  Calls Try.prog 25 #[.agg #[.slice A0_0 l0_0.length c0_0, .int .i64 a0_1], .int .i64 a1] w fun e w' => ∃ v0_ : Value, e = .returned (.tuple #[.agg #[v0_, .int .i64 r2], .bool r3]) ∧ Kd.R k50 50 w' w.heap.size (fun _ => True) v0_ r1 ∧ Below w.heap.size w w' := by
 have hu42 := Try.underlying42
 have HR0_0 := am hr0_0
 have HC0_0 := am hc0_0
 clear hr0_0 hc0_0
 have HB := am (Below.refl w.heap.size w)
 have H : ((impl_ArenaOk.f k l0_0 a0_1).bind fun t211 => (if t211 = true then ((impl_Arena_place.f l0_0 a0_1 a1).bind fun t212 => (if t212 < 0 then (some (([] : List (S50)), 0, false)) else ((impl_copyArena.f l0_0 a0_1).bind fun bt213 => ((impl_Arena_lift.f bt213.1 bt213.2 t212).bind fun t218 => (some (t218, t212, true)))))) else (some (([] : List (S50)), 0, false)))) = some (r1, r2, r3) := h
 clear h
 replace H := Option.bind_eq_some_iff.mp H
 obtain ⟨t211, A30, H⟩ := H
 try dsimp only at H
 have A3 := am A30
 clear A30
 by_cases c4 : t211 = true
 ·subst c4
  have H1 : ((impl_Arena_place.f l0_0 a0_1 a1).bind fun t212 => (if t212 < 0 then (some (([] : List (S50)), 0, false)) else ((impl_copyArena.f l0_0 a0_1).bind fun bt213 => ((impl_Arena_lift.f bt213.1 bt213.2 t212).bind fun t218 => (some (t218, t212, true)))))) = some (r1, r2, r3) := by rw [if_pos rfl] at H; exact H
  clear H
  have H := H1
  clear H1
  replace H := Option.bind_eq_some_iff.mp H
  obtain ⟨t212, A50, H⟩ := H
  try dsimp only at H
  have A5 := am A50
  clear A50
  by_cases c6 : t212 < 0
  ·rw [if_pos c6] at H
   have c6b0 : decide (t212 < 0) = true := decide_eq_true c6
   clear c6
   simp only [Option.some.injEq, Prod.mk.injEq] at H
   obtain ⟨rfl, rfl, rfl⟩ := H
   go_enter Try.func25, Try.ntmps25
   go_wp2_with (first | ((with_reducible refine gate_dst (N := 2) rfl ?_); refine xE (N := 2) (cs := #[.slice A0_0 l0_0.length c0_0, .int .i64 a0_1]) (t := 42) (h := ?_); intro gb209 hg w7 hbox hb; have BK209 := am (hbox); have GW209 := am (xS hg HB.out); have GE209 := am (xS hg HB.out); replace HB := am (below_step (xW HB.out) hb); clear hb hbox hg) | ((with_reducible refine gate_dst (N := 4) rfl ?_); refine xE (N := 4) (cs := #[.slice none 0 0, .int .i64 0]) (t := 42) (h := ?_); intro gb210 hg w8 hbox hb; have BK210 := am (hbox); have GW210 := am (xS hg HB.out); have GE210 := am (xS hg HB.out); replace HB := am (below_step (xW HB.out) hb); have NB209_210 := am (xN hg BK209.out); have NB210_209 := am (xM hg BK209.out); replace BK209 := am (blk_below (xB BK209.out) hb); clear hb hbox hg; have hnb9 := NB209_210.out; have hnc9 := NB210_209.out; obtain ⟨hcz10_0, hcz10_1, hfz10_0, hfz10_1⟩ := xT2 (W := w8) BK209.out) | ((with_reducible refine gate_callee (f := 23) rfl ?_); refine xG (some 9) 23 Try.func23 #[.agg #[.slice A0_0 l0_0.length c0_0, .int .i64 a0_1]] (h := ?_); (with_reducible refine (impl_ArenaOk.calls k _ _ l0_0 a0_1 true _ ?side1 ?side2 A3.out).mono ?_); (case side1 => exact xC (Kd.C_below HR0_0.out HB.out)); (case side2 => exact HC0_0.out); rintro e w11 ⟨rfl, hb⟩; refine ⟨_, rfl, ?_⟩; replace BK209 := am (blk_below (xB BK209.out) hb); replace BK210 := am (blk_below (xB BK210.out) hb); replace HB := am (below_step (xW HB.out) hb); (try clear hb); obtain ⟨hcz12_0, hcz12_1, hfz12_0, hfz12_1⟩ := xT2 (W := w11) BK209.out) | ((with_reducible refine gate_callee (f := 40) rfl ?_); refine xG (some 14) 40 Try.func40 #[.agg #[.slice A0_0 l0_0.length c0_0, .int .i64 a0_1], .int .i64 a1] (h := ?_); (with_reducible refine (impl_Arena_place.calls _ _ l0_0 a0_1 a1 t212 _ ?side1 ?side2 A5.out).mono ?_); (case side1 => exact xC (Kd.C_below HR0_0.out HB.out)); (case side2 => exact HC0_0.out); rintro e w13 ⟨rfl, hb⟩; refine ⟨_, rfl, ?_⟩; replace BK209 := am (blk_below (xB BK209.out) hb); replace BK210 := am (blk_below (xB BK210.out) hb); replace HB := am (below_step (xW HB.out) hb); (try clear hb); obtain ⟨hcz14_0, hcz14_1, hfz14_0, hfz14_1⟩ := xT2 (W := w13) BK210.out))
   refine bodyPost_ret (results_ct rfl _ _ gb210 42 #[.slice none 0 0, .int .i64 0] (0, 0) _ rfl (xP BK210.out) Try.underlying42 rfl (by kernel_rfl)) rfl ?_
   exact ⟨_, xV, by first | exact Kd.R_nil _ _ _ _ _ | exact Kd.N_nil _ _ _ _ _ | exact Kd.V_nil _ _ _ _ _ | exact Kd.Q_nil _ _ _ _ _ | exact Kd.S_nil _ _ _ _ _, xW HB.out⟩
  ·rw [if_neg c6] at H
   have c6b0 : decide (t212 < 0) = false := decide_eq_false c6
   clear c6
   replace H := Option.bind_eq_some_iff.mp H
   obtain ⟨⟨t213, t216⟩, A150, H⟩ := H
   try dsimp only at H
   have A15 := am A150
   clear A150
   replace H := Option.bind_eq_some_iff.mp H
   obtain ⟨t218, A160, H⟩ := H
   replace H : (some (t218, t212, true)) = some (r1, r2, r3) := H
   have A16 := am A160
   clear A160
   simp only [Option.some.injEq, Prod.mk.injEq] at H
   obtain ⟨rfl, rfl, rfl⟩ := H
   go_enter Try.func25, Try.ntmps25
   go_wp2_with (first | ((with_reducible refine gate_dst (N := 2) rfl ?_); refine xE (N := 2) (cs := #[.slice A0_0 l0_0.length c0_0, .int .i64 a0_1]) (t := 42) (h := ?_); intro gb209 hg w17 hbox hb; have BK209 := am (hbox); have GW209 := am (xS hg HB.out); have GE209 := am (xS hg HB.out); replace HB := am (below_step (xW HB.out) hb); clear hb hbox hg) | ((with_reducible refine gate_dst (N := 4) rfl ?_); refine xE (N := 4) (cs := #[.slice none 0 0, .int .i64 0]) (t := 42) (h := ?_); intro gb210 hg w18 hbox hb; have BK210 := am (hbox); have GW210 := am (xS hg HB.out); have GE210 := am (xS hg HB.out); replace HB := am (below_step (xW HB.out) hb); have NB209_210 := am (xN hg BK209.out); have NB210_209 := am (xM hg BK209.out); replace BK209 := am (blk_below (xB BK209.out) hb); clear hb hbox hg; have hnb19 := NB209_210.out; have hnc19 := NB210_209.out; obtain ⟨hcz20_0, hcz20_1, hfz20_0, hfz20_1⟩ := xT2 (W := w18) BK209.out) | ((with_reducible refine gate_callee (f := 23) rfl ?_); refine xG (some 9) 23 Try.func23 #[.agg #[.slice A0_0 l0_0.length c0_0, .int .i64 a0_1]] (h := ?_); (with_reducible refine (impl_ArenaOk.calls k _ _ l0_0 a0_1 true _ ?side1 ?side2 A3.out).mono ?_); (case side1 => exact xC (Kd.C_below HR0_0.out HB.out)); (case side2 => exact HC0_0.out); rintro e w21 ⟨rfl, hb⟩; refine ⟨_, rfl, ?_⟩; replace BK209 := am (blk_below (xB BK209.out) hb); replace BK210 := am (blk_below (xB BK210.out) hb); replace HB := am (below_step (xW HB.out) hb); (try clear hb); obtain ⟨hcz22_0, hcz22_1, hfz22_0, hfz22_1⟩ := xT2 (W := w21) BK209.out) | ((with_reducible refine gate_callee (f := 40) rfl ?_); refine xG (some 14) 40 Try.func40 #[.agg #[.slice A0_0 l0_0.length c0_0, .int .i64 a0_1], .int .i64 a1] (h := ?_); (with_reducible refine (impl_Arena_place.calls _ _ l0_0 a0_1 a1 t212 _ ?side1 ?side2 A5.out).mono ?_); (case side1 => exact xC (Kd.C_below HR0_0.out HB.out)); (case side2 => exact HC0_0.out); rintro e w23 ⟨rfl, hb⟩; refine ⟨_, rfl, ?_⟩; replace BK209 := am (blk_below (xB BK209.out) hb); replace BK210 := am (blk_below (xB BK210.out) hb); replace HB := am (below_step (xW HB.out) hb); (try clear hb); obtain ⟨hcz24_0, hcz24_1, hfz24_0, hfz24_1⟩ := xT2 (W := w23) BK209.out) | ((with_reducible refine gate_callee (f := 49) rfl ?_); refine xG (some 19) 49 Try.func49 #[.agg #[.slice A0_0 l0_0.length c0_0, .int .i64 a0_1]] (h := ?_); (with_reducible refine (impl_copyArena.calls _ _ l0_0 a0_1 t213 t216 _ ?side1 ?side2 A15.out).mono ?_); (case side1 => exact xC (Kd.C_below HR0_0.out HB.out)); (case side2 => exact HC0_0.out); rintro e w25 ⟨v214, rfl, ho0, hb⟩; refine ⟨_, rfl, ?_⟩; have HO215 := am (Kd.R_lower ho0 (below_size (xW HB.out))); replace BK209 := am (blk_below (xB BK209.out) hb); replace BK210 := am (blk_below (xB BK210.out) hb); replace HB := am (below_step (xW HB.out) hb); (try clear hb); (try clear ho0)) | ((with_reducible refine gate_dst (N := 7) rfl ?_); refine xE (N := 7) (cs := #[.slice none 0 0, .int .i64 0]) (t := 42) (h := ?_); intro gb217 hg w26 hbox hb; replace HO215 := am (Kd.R_below (xR HO215.out) hb); have BK217 := am (hbox); have GW217 := am (xS hg HB.out); have GE217 := am (xS hg HB.out); replace HB := am (below_step (xW HB.out) hb); have NB209_217 := am (xN hg BK209.out); have NB217_209 := am (xM hg BK209.out); replace BK209 := am (blk_below (xB BK209.out) hb); have NB210_217 := am (xN hg BK210.out); have NB217_210 := am (xM hg BK210.out); replace BK210 := am (blk_below (xB BK210.out) hb); clear hb hbox hg; obtain ⟨Ao27, co27, eo27⟩ := Kd.R_slice HO215.out; subst eo27; have hnb28 := NB217_209.out; have hnc28 := NB209_217.out; have hnb29 := NB217_210.out; have hnc29 := NB210_217.out; obtain ⟨hcz30_0, hcz30_1, hfz30_0, hfz30_1⟩ := xT2 (W := w26) BK217.out) | ((with_reducible refine gate_store (t := 42) (p := 7) rfl ?_); refine store_event (t := 42) (p := 7) (v := ?vo_w31) (w1 := ((w26.setCell ⟨gb217, 0, none⟩ (.slice Ao27 t213.length co27)).setCell ⟨gb217, 1, none⟩ (.int .i64 t216))) ?hg ?ho ?hn ?hr ?_; (case ho => rfl); (case hg => rfl); (case hn => rfl); (case hr => first | (go_simp; done) | (go_simp; rfl)); intro w31 hw; have n0_ : Aside0 (Kd.R k50 50 w31 w.heap.size (fun _ => True) (.slice Ao27 t213.length co27) t213) := ⟨(by rw [hw]; exact (by (with_reducible repeat (first | apply Kd.R_alloc | apply Kd.R_drewN | apply Kd.R_drew)); exact Kd.R_mono (Kd.R_far (p := ⟨gb217, 1, none⟩) (Kd.R_far (p := ⟨gb217, 0, none⟩) (Kd.R_types HO215.out BK217.out (by decide)) (fun _ hk => hk.2) (.slice Ao27 t213.length co27)) (fun _ hk => hk.2) (.int .i64 t216)) (fun _ hk => trivial)))⟩; have n1_ : Aside0 (w31.heap[gb209]? = some (.cells #[.slice A0_0 l0_0.length c0_0, .int .i64 a0_1] 42 (0, 0))) := ⟨(by rw [hw]; exact (xB BK209.out))⟩; have n2_ : Aside0 (w31.heap[gb210]? = some (.cells #[.slice none 0 0, .int .i64 0] 42 (0, 0))) := ⟨(by rw [hw]; exact (xB BK210.out))⟩; have n3_ : Aside0 (w31.heap[gb217]? = some (.cells #[.slice Ao27 t213.length co27, .int .i64 t216] 42 (0, 0))) := ⟨(by rw [hw]; exact (xP BK217.out))⟩; have n4_ : Aside0 (Below w.heap.size w w31) := ⟨(by rw [hw]; exact (xW HB.out))⟩; clear hw; clear HO215; clear BK209; clear BK210; clear BK217; clear HB; have HO215 := n0_; have BK209 := n1_; have BK210 := n2_; have BK217 := n3_; have HB := n4_; clear n0_ n1_ n2_ n3_ n4_; obtain ⟨hcz32_0, hcz32_1, hfz32_0, hfz32_1⟩ := xT2 (W := w31) BK217.out) | ((with_reducible refine gate_callee (f := 50) rfl ?_); refine xG (some 21) 50 Try.func50 #[.pointer (some ⟨gb217, 0, none⟩), .int .i64 t212] (h := ?_); (with_reducible refine (impl_Arena_lift.calls (fun k_ => some k_ = (.slice Ao27 t213.length co27 : Value).ownBlock) (.slice Ao27 t213.length co27) t213 t216 t212 t218 w _ ?side1 ?side2 A16.out gb217 (xB BK217.out) GE217.out).mono ?_); (case side1 => exact xW HB.out); (case side2 => exact Kd.R_tight rfl HO215.out); rintro e w33 ⟨rfl, hy0, hb, hkp, hbk_⟩; refine ⟨_, rfl, ?_⟩; replace BK209 := am (blk_kept (xB BK209.out) hkp (fun hs_ => hs_.elim (fun e_ => (Kd.R_ne HO215.out BK209.out (by decide)) e_) (fun e_ => NB209_217.out e_))); replace BK210 := am (blk_kept (xB BK210.out) hkp (fun hs_ => hs_.elim (fun e_ => (Kd.R_ne HO215.out BK210.out (by decide)) e_) (fun e_ => NB210_217.out e_))); replace HO215 := am (Kd.R_reok rfl hy0 (fun k_ e_ => HO215.out.1 k_ e_)); replace BK217 := am hbk_; replace HB := am (hb); (try clear hb); (try clear hkp); (try clear hy0); obtain ⟨hcz34_0, hcz34_1, hfz34_0, hfz34_1⟩ := xT2 (W := w33) BK217.out; obtain ⟨hcz35_0, hcz35_1, hfz35_0, hfz35_1⟩ := xT2 (W := w33) BK210.out))
   refine bodyPost_ret (results_ct rfl _ _ gb210 42 #[.slice Ao27 t213.length co27, .int .i64 t212] (0, 0) _ rfl (xP BK210.out) Try.underlying42 rfl (by kernel_rfl)) rfl ?_
   exact ⟨_, xV, by (with_reducible repeat (first | apply Kd.R_alloc | apply Kd.R_drewN | apply Kd.R_drew)); exact Kd.R_mono (Kd.R_far (p := ⟨gb210, 1, none⟩) (Kd.R_far (p := ⟨gb210, 0, none⟩) (Kd.R_types HO215.out BK210.out (by decide)) (fun _ hk => hk.2) (.slice Ao27 t213.length co27)) (fun _ hk => hk.2) (.int .i64 t212)) (fun _ hk => trivial), xW HB.out⟩
 ·replace c4 := Bool.eq_false_iff.mpr c4
  subst c4
  have H1 : (some (([] : List (S50)), 0, false)) = some (r1, r2, r3) := by rw [if_neg (show ¬ (false = true) by decide)] at H; exact H
  clear H
  have H := H1
  clear H1
  simp only [Option.some.injEq, Prod.mk.injEq] at H
  obtain ⟨rfl, rfl, rfl⟩ := H
  go_enter Try.func25, Try.ntmps25
  go_wp2_with (first | ((with_reducible refine gate_dst (N := 2) rfl ?_); refine xE (N := 2) (cs := #[.slice A0_0 l0_0.length c0_0, .int .i64 a0_1]) (t := 42) (h := ?_); intro gb209 hg w36 hbox hb; have BK209 := am (hbox); have GW209 := am (xS hg HB.out); have GE209 := am (xS hg HB.out); replace HB := am (below_step (xW HB.out) hb); clear hb hbox hg) | ((with_reducible refine gate_dst (N := 4) rfl ?_); refine xE (N := 4) (cs := #[.slice none 0 0, .int .i64 0]) (t := 42) (h := ?_); intro gb210 hg w37 hbox hb; have BK210 := am (hbox); have GW210 := am (xS hg HB.out); have GE210 := am (xS hg HB.out); replace HB := am (below_step (xW HB.out) hb); have NB209_210 := am (xN hg BK209.out); have NB210_209 := am (xM hg BK209.out); replace BK209 := am (blk_below (xB BK209.out) hb); clear hb hbox hg; have hnb38 := NB209_210.out; have hnc38 := NB210_209.out; obtain ⟨hcz39_0, hcz39_1, hfz39_0, hfz39_1⟩ := xT2 (W := w37) BK209.out) | ((with_reducible refine gate_callee (f := 23) rfl ?_); refine xG (some 9) 23 Try.func23 #[.agg #[.slice A0_0 l0_0.length c0_0, .int .i64 a0_1]] (h := ?_); (with_reducible refine (impl_ArenaOk.calls k _ _ l0_0 a0_1 false _ ?side1 ?side2 A3.out).mono ?_); (case side1 => exact xC (Kd.C_below HR0_0.out HB.out)); (case side2 => exact HC0_0.out); rintro e w40 ⟨rfl, hb⟩; refine ⟨_, rfl, ?_⟩; replace BK209 := am (blk_below (xB BK209.out) hb); replace BK210 := am (blk_below (xB BK210.out) hb); replace HB := am (below_step (xW HB.out) hb); (try clear hb); obtain ⟨hcz41_0, hcz41_1, hfz41_0, hfz41_1⟩ := xT2 (W := w40) BK210.out))
  refine bodyPost_ret (results_ct rfl _ _ gb210 42 #[.slice none 0 0, .int .i64 0] (0, 0) _ rfl (xP BK210.out) Try.underlying42 rfl (by kernel_rfl)) rfl ?_
  exact ⟨_, xV, by first | exact Kd.R_nil _ _ _ _ _ | exact Kd.N_nil _ _ _ _ _ | exact Kd.V_nil _ _ _ _ _ | exact Kd.Q_nil _ _ _ _ _ | exact Kd.S_nil _ _ _ _ _, xW HB.out⟩
def laws_markText.l0 : Nat → Int → ByteArray → Option (ByteArray)
 | 0, _, _ => none
 | k + 1, x0, x3 => if x0 > 0 then ((some (([(wrap64 (48 + (Int.tmod x0 10))) % 256] : List Int) : List Int)).bind fun y219 => (if (strOfNums y219).size + x3.size ≤ 9223372036854775807 then (laws_markText.l0 k (wrap64 (Int.tdiv x0 10)) ((strOfNums y219) ++ x3)) else (none))) else (if 1 + x3.size ≤ 9223372036854775807 then (some ((⟨#[109]⟩ : ByteArray) ++ x3)) else (none))
def laws_markText.f (k : Nat) (a0 : Int) : Option (ByteArray) := if a0 ≤ 0 then (some (⟨#[109, 48]⟩ : ByteArray)) else (laws_markText.l0 k a0 (⟨#[]⟩ : ByteArray))
set_option maxHeartbeats 8000000 in
set_option maxRecDepth 100000 in
theorem laws_markText.calls (k : Nat) (a0 : Int) (r : ByteArray) (w : World) (h : laws_markText.f k a0 = some r) :
  Calls Try.prog 72 #[.int .i64 a0] w fun e w' => e = .returned (.string r) ∧ Below w.heap.size w w' := by
 have HB := am (Below.refl w.heap.size w)
 have H : (if a0 ≤ 0 then (some (⟨#[109, 48]⟩ : ByteArray)) else (laws_markText.l0 k a0 (⟨#[]⟩ : ByteArray))) = some r := h
 clear h
 by_cases c2 : a0 ≤ 0
 ·rw [if_pos c2] at H
  have c2b0 : decide (a0 ≤ 0) = true := decide_eq_true c2
  clear c2
  obtain rfl := Option.some.inj H
  go_enter Try.func72, Try.ntmps72
  go_wp2
  go_ret
  exact ⟨xV, xW HB.out⟩
 ·rw [if_neg c2] at H
  have c2b0 : decide (a0 ≤ 0) = false := decide_eq_false c2
  clear c2
  have H' := am H
  clear H
  go_enter Try.func72, Try.ntmps72
  go_wp2
  go_loopg [0, 3] k (fun kq v0 v3 w' => ∃ (x0_1 : Int) (x3_1 : ByteArray), v0 = .int .i64 x0_1 ∧ v3 = .string x3_1 ∧ Aside0 (laws_markText.l0 kq x0_1 x3_1 = some r) ∧ Aside0 (kq ≤ k) ∧ Aside0 (Below w.heap.size w w'))
  case atStart => exact ⟨(a0), ((⟨#[]⟩ : ByteArray)), (by first | rfl | (simp; done) | (simp [*]; done)), (xQ), H', ⟨Nat.le_refl _⟩, ⟨xW HB.out⟩⟩
  case round =>
   clear H'
   try clear c2
   try clear c2b0
   try clear p2
   obtain ⟨x0_1, x3_1, rfl, rfl, HA, HK1, HB⟩ := hrel
   cases gk with
   | zero => exact absurd HA.out (by simp [laws_markText.l0])
   | succ k1 =>
    have H := HA.out
    clear HA
    simp only [laws_markText.l0] at H
    by_cases c3 : x0_1 > 0
    ·rw [if_pos c3] at H
     have c3b0 : decide (0 < x0_1) = true := decide_eq_true c3
     clear c3
     obtain ⟨y219, hy219⟩ : ∃ y_ : List Int, y_ = (([(wrap64 (48 + (Int.tmod x0_1 10))) % 256] : List Int)) := ⟨_, rfl⟩
     replace H : (if (strOfNums y219).size + x3_1.size ≤ 9223372036854775807 then (laws_markText.l0 k1 (wrap64 (Int.tdiv x0_1 10)) ((strOfNums y219) ++ x3_1)) else (none)) = some r := by first | (rw [hy219]; with_reducible exact H) | (have H2_ := (Option.bind_some _ _).symm.trans H; rw [hy219]; with_reducible exact H2_) | (have H2_ := (Option.bind_some _ _).symm.trans H; with_reducible exact H2_) | with_reducible exact H | (rw [hy219]; exact H) | exact H
     have Ny219 := am hy219
     clear hy219
     by_cases c4 : (strOfNums y219).size + x3_1.size ≤ 9223372036854775807
     ·rw [if_pos c4] at H
      have c4b0 := eq_true c4
      have c4b1 : decide ((strOfNums y219).size + x3_1.size ≤ 9223372036854775807) = true := decide_eq_true c4
      try have c4b2 : (9223372036854775807 < (strOfNums y219).size + x3_1.size) = False := eq_false (Nat.not_lt.2 c4)
      have H' := am H
      clear H
      go_wp2_with (first | ((with_reducible refine gate_dst (N := 12) rfl ?_); refine Kd.R_lit (Kd.int .u8) _ 5 ?hg (N := 12) ?hd (xs := ([(wrap64 (48 + (Int.tmod x0_1 10))) % 256] : List Int)) (inner := [.int .u8 ((wrap64 (48 + (Int.tmod x0_1 10))) % 256)]) (ok := fun _ => True) (okp := fun _ => True) ?hr ?hp (fun _ hk => hk) trivial (Below.refl _ _) (Nat.le_refl _) (by simp) ?_; (case hd => rfl); (case hg => rfl); (case hr => first | (go_simp; done) | (go_simp; rfl)); (case hp => exact (Reps.one (show Kd.M (Kd.int .u8) _ _ _ ((wrap64 (48 + (Int.tmod x0_1 10))) % 256) [.int .u8 ((wrap64 (48 + (Int.tmod x0_1 10))) % 256)] from rfl) (Reps.none _ _))); intro v220 w5 ho6 hb hg_ hnew_; clear hg_ hnew_; (first | rw [← Ny219.out] at ho6 | (simp only [Int.reduceToNat] at ho6; rw [← Ny219.out] at ho6)); have HO221 := am (Kd.R_lower ho6 (below_size (xW HB.out))); replace HB := am (below_step (xW HB.out) hb); clear hb ho6; have hcv7 := own_string (P := Try.prog) Try.underlying22 Try.underlying5 Try.underlying9 (Kd.own_of_R HO221.out)))
      go_roundg k1
      case measure => have := HK1.out; omega
      case rel => exact ⟨(wrap64 (Int.tdiv x0_1 10)), ((strOfNums y219) ++ x3_1), (by first | rfl | (simp; done) | (simp [*]; done)), (xQ), H', ⟨by have := HK1.out; omega⟩, ⟨xW HB.out⟩⟩
     ·rw [if_neg c4] at H
      exact absurd H (by simp)
    ·rw [if_neg c3] at H
     have c3b0 : decide (0 < x0_1) = false := decide_eq_false c3
     clear c3
     by_cases c8 : 1 + x3_1.size ≤ 9223372036854775807
     ·rw [if_pos c8] at H
      have c8b0 := eq_true c8
      have c8b1 : decide (1 + x3_1.size ≤ 9223372036854775807) = true := decide_eq_true c8
      try have c8b2 : (9223372036854775807 < 1 + x3_1.size) = False := eq_false (Nat.not_lt.2 c8)
      obtain rfl := Option.some.inj H
      go_wp2
      go_ret
      exact ⟨xV, xW HB.out⟩
     ·rw [if_neg c8] at H
      exact absurd H (by simp)
def laws_markSlotS.l0 : Nat → List (S50) → Int → Int → Option (Int × (List (S50)))
 | 0, _, _, _ => none
 | k + 1, x0, x1, x5 => if x5 < (x0.length : Int) then (if 0 ≤ x5 then ((some (x0.set (x5 : Int).toNat (⟨x1, (rd_T50 x0 x5).f1, (rd_T50 x0 x5).f2, (rd_T50 x0 x5).f3, (rd_T50 x0 x5).f4⟩ : S50) : List (S50))).bind fun y222 => ((some (y222.set (x5 : Int).toNat (⟨(rd_T50 y222 x5).f0, ((Int.tmod (wrap64 (x1 + 1)) 3) == 0), (rd_T50 y222 x5).f2, (rd_T50 y222 x5).f3, (rd_T50 y222 x5).f4⟩ : S50) : List (S50))).bind fun y223 => ((laws_markText.f k (wrap64 ((wrap64 (x1 + 1)) + 1))).bind fun t224 => ((some (y223.set (x5 : Int).toNat (⟨(rd_T50 y223 x5).f0, (rd_T50 y223 x5).f1, t224, (rd_T50 y223 x5).f3, (rd_T50 y223 x5).f4⟩ : S50) : List (S50))).bind fun y225 => ((laws_markText.f k (wrap64 ((wrap64 ((wrap64 (x1 + 1)) + 1)) + 1))).bind fun t226 => ((some (y225.set (x5 : Int).toNat (⟨(rd_T50 y225 x5).f0, (rd_T50 y225 x5).f1, (rd_T50 y225 x5).f2, t226, (rd_T50 y225 x5).f4⟩ : S50) : List (S50))).bind fun y227 => (laws_markSlotS.l0 k (y227.set (x5 : Int).toNat (⟨(rd_T50 y227 x5).f0, (rd_T50 y227 x5).f1, (rd_T50 y227 x5).f2, (rd_T50 y227 x5).f3, wrap64 ((wrap64 ((wrap64 ((wrap64 (x1 + 1)) + 1)) + 1)) + 1)⟩ : S50)) (wrap64 ((wrap64 ((wrap64 ((wrap64 ((wrap64 (x1 + 1)) + 1)) + 1)) + 1)) + 1)) (wrap64 (x5 + 1))))))))) else (none)) else (some (x1, x0))
def laws_markSlotS.f (k : Nat) (l0 : List (S50)) (a1 : Int) : Option (Int × (List (S50))) := laws_markSlotS.l0 k l0 a1 0
set_option maxHeartbeats 8000000 in
set_option maxRecDepth 100000 in
theorem laws_markSlotS.calls (k : Nat) (P0_ : Nat → Prop) (u9000_ : Value) (l0 : List (S50)) (a1 : Int) (r1 : Int) (r2 : List (S50)) (w0 w : World) (hB : Below w0.heap.size w0 w) (ho0 : Kd.R k50 50 w w0.heap.size P0_ u9000_ l0) (h : laws_markSlotS.f k l0 a1 = some (r1, r2)) :
  Calls Try.prog 51 #[u9000_, .int .i64 a1] w fun e w' => e = .returned (.int .i64 r1) ∧ Kd.R k50 50 w' w0.heap.size (fun k_ => (P0_ k_ ∨ w.heap.size ≤ k_)) u9000_ r2 ∧ Below w0.heap.size w0 w' ∧ Kept w w' (fun k_ => P0_ k_) := by
 have HO0 := am (show Kd.R k50 50 w w0.heap.size (fun k_ => (P0_ k_ ∨ w.heap.size ≤ k_)) u9000_ l0 from Kd.R_mono ho0 (fun k_ hk => (.inl hk)))
 have HK := am (Kept.refl w (fun k_ => P0_ k_))
 have HW0 := am hB.size
 have HB := am hB
 clear hB
 have H : (laws_markSlotS.l0 k l0 a1 0) = some (r1, r2) := h
 clear h
 have H' := am H
 clear H
 go_enter Try.func51, Try.ntmps51
 go_wp2
 go_loopg [1, 5] k (fun kq v1 v5 w' => ∃ (x0_1 : List (S50)) (x1_1 : Int) (x5_1 : Int), v1 = .int .i64 x1_1 ∧ v5 = .int .i64 x5_1 ∧ Aside0 (laws_markSlotS.l0 kq x0_1 x1_1 x5_1 = some (r1, r2)) ∧ Aside0 (kq ≤ k) ∧ Aside0 (Kd.R k50 50 w' w0.heap.size (fun k_ => (P0_ k_ ∨ w.heap.size ≤ k_)) u9000_ x0_1) ∧ Aside0 (Kept w w' (fun k_ => P0_ k_)) ∧ Aside0 (Below w0.heap.size w0 w'))
 case atStart => exact ⟨(l0), (a1), (0), (by first | rfl | (simp; done) | (simp [*]; done)), (xQ), H', ⟨Nat.le_refl _⟩, ⟨xR HO0.out⟩, ⟨xJ HK.out⟩, ⟨xW HB.out⟩⟩
 case round =>
  clear H'
  try clear p2
  obtain ⟨x0_1, x1_1, x5_1, rfl, rfl, HA, HK1, HO_0, HK, HB⟩ := hrel
  cases gk with
  | zero => exact absurd HA.out (by simp [laws_markSlotS.l0])
  | succ k1 =>
   have H := HA.out
   clear HA
   simp only [laws_markSlotS.l0] at H
   by_cases c3 : x5_1 < (x0_1.length : Int)
   ·rw [if_pos c3] at H
    have c3b0 : decide (x5_1 < (x0_1.length : Int)) = true := decide_eq_true c3
    clear c3
    by_cases c4 : 0 ≤ x5_1
    ·rw [if_pos c4] at H
     have c4b0 : decide (0 ≤ x5_1) = true := decide_eq_true c4
     clear c4
     obtain ⟨y222, hy222⟩ : ∃ y_ : List (S50), y_ = (x0_1.set (x5_1 : Int).toNat (⟨x1_1, (rd_T50 x0_1 x5_1).f1, (rd_T50 x0_1 x5_1).f2, (rd_T50 x0_1 x5_1).f3, (rd_T50 x0_1 x5_1).f4⟩ : S50)) := ⟨_, rfl⟩
     replace H : ((some (y222.set (x5_1 : Int).toNat (⟨(rd_T50 y222 x5_1).f0, ((Int.tmod (wrap64 (x1_1 + 1)) 3) == 0), (rd_T50 y222 x5_1).f2, (rd_T50 y222 x5_1).f3, (rd_T50 y222 x5_1).f4⟩ : S50) : List (S50))).bind fun y223 => ((laws_markText.f k1 (wrap64 ((wrap64 (x1_1 + 1)) + 1))).bind fun t224 => ((some (y223.set (x5_1 : Int).toNat (⟨(rd_T50 y223 x5_1).f0, (rd_T50 y223 x5_1).f1, t224, (rd_T50 y223 x5_1).f3, (rd_T50 y223 x5_1).f4⟩ : S50) : List (S50))).bind fun y225 => ((laws_markText.f k1 (wrap64 ((wrap64 ((wrap64 (x1_1 + 1)) + 1)) + 1))).bind fun t226 => ((some (y225.set (x5_1 : Int).toNat (⟨(rd_T50 y225 x5_1).f0, (rd_T50 y225 x5_1).f1, (rd_T50 y225 x5_1).f2, t226, (rd_T50 y225 x5_1).f4⟩ : S50) : List (S50))).bind fun y227 => (laws_markSlotS.l0 k1 (y227.set (x5_1 : Int).toNat (⟨(rd_T50 y227 x5_1).f0, (rd_T50 y227 x5_1).f1, (rd_T50 y227 x5_1).f2, (rd_T50 y227 x5_1).f3, wrap64 ((wrap64 ((wrap64 ((wrap64 (x1_1 + 1)) + 1)) + 1)) + 1)⟩ : S50)) (wrap64 ((wrap64 ((wrap64 ((wrap64 ((wrap64 (x1_1 + 1)) + 1)) + 1)) + 1)) + 1)) (wrap64 (x5_1 + 1)))))))) = some (r1, r2) := by first | (rw [hy222]; with_reducible exact H) | (have H2_ := (Option.bind_some _ _).symm.trans H; rw [hy222]; with_reducible exact H2_) | (have H2_ := (Option.bind_some _ _).symm.trans H; with_reducible exact H2_) | with_reducible exact H | (rw [hy222]; exact H) | exact H
     have Ny222 := am hy222
     clear hy222
     obtain ⟨y223, hy223⟩ : ∃ y_ : List (S50), y_ = (y222.set (x5_1 : Int).toNat (⟨(rd_T50 y222 x5_1).f0, ((Int.tmod (wrap64 (x1_1 + 1)) 3) == 0), (rd_T50 y222 x5_1).f2, (rd_T50 y222 x5_1).f3, (rd_T50 y222 x5_1).f4⟩ : S50)) := ⟨_, rfl⟩
     replace H : ((laws_markText.f k1 (wrap64 ((wrap64 (x1_1 + 1)) + 1))).bind fun t224 => ((some (y223.set (x5_1 : Int).toNat (⟨(rd_T50 y223 x5_1).f0, (rd_T50 y223 x5_1).f1, t224, (rd_T50 y223 x5_1).f3, (rd_T50 y223 x5_1).f4⟩ : S50) : List (S50))).bind fun y225 => ((laws_markText.f k1 (wrap64 ((wrap64 ((wrap64 (x1_1 + 1)) + 1)) + 1))).bind fun t226 => ((some (y225.set (x5_1 : Int).toNat (⟨(rd_T50 y225 x5_1).f0, (rd_T50 y225 x5_1).f1, (rd_T50 y225 x5_1).f2, t226, (rd_T50 y225 x5_1).f4⟩ : S50) : List (S50))).bind fun y227 => (laws_markSlotS.l0 k1 (y227.set (x5_1 : Int).toNat (⟨(rd_T50 y227 x5_1).f0, (rd_T50 y227 x5_1).f1, (rd_T50 y227 x5_1).f2, (rd_T50 y227 x5_1).f3, wrap64 ((wrap64 ((wrap64 ((wrap64 (x1_1 + 1)) + 1)) + 1)) + 1)⟩ : S50)) (wrap64 ((wrap64 ((wrap64 ((wrap64 ((wrap64 (x1_1 + 1)) + 1)) + 1)) + 1)) + 1)) (wrap64 (x5_1 + 1))))))) = some (r1, r2) := by first | (rw [hy223]; with_reducible exact H) | (have H2_ := (Option.bind_some _ _).symm.trans H; rw [hy223]; with_reducible exact H2_) | (have H2_ := (Option.bind_some _ _).symm.trans H; with_reducible exact H2_) | with_reducible exact H | (rw [hy223]; exact H) | exact H
     have Ny223 := am hy223
     clear hy223
     replace H := Option.bind_eq_some_iff.mp H
     obtain ⟨t224, A70, H⟩ := H
     try dsimp only at H
     have A7 := am A70
     clear A70
     obtain ⟨y225, hy225⟩ : ∃ y_ : List (S50), y_ = (y223.set (x5_1 : Int).toNat (⟨(rd_T50 y223 x5_1).f0, (rd_T50 y223 x5_1).f1, t224, (rd_T50 y223 x5_1).f3, (rd_T50 y223 x5_1).f4⟩ : S50)) := ⟨_, rfl⟩
     replace H : ((laws_markText.f k1 (wrap64 ((wrap64 ((wrap64 (x1_1 + 1)) + 1)) + 1))).bind fun t226 => ((some (y225.set (x5_1 : Int).toNat (⟨(rd_T50 y225 x5_1).f0, (rd_T50 y225 x5_1).f1, (rd_T50 y225 x5_1).f2, t226, (rd_T50 y225 x5_1).f4⟩ : S50) : List (S50))).bind fun y227 => (laws_markSlotS.l0 k1 (y227.set (x5_1 : Int).toNat (⟨(rd_T50 y227 x5_1).f0, (rd_T50 y227 x5_1).f1, (rd_T50 y227 x5_1).f2, (rd_T50 y227 x5_1).f3, wrap64 ((wrap64 ((wrap64 ((wrap64 (x1_1 + 1)) + 1)) + 1)) + 1)⟩ : S50)) (wrap64 ((wrap64 ((wrap64 ((wrap64 ((wrap64 (x1_1 + 1)) + 1)) + 1)) + 1)) + 1)) (wrap64 (x5_1 + 1))))) = some (r1, r2) := by first | (rw [hy225]; with_reducible exact H) | (have H2_ := (Option.bind_some _ _).symm.trans H; rw [hy225]; with_reducible exact H2_) | (have H2_ := (Option.bind_some _ _).symm.trans H; with_reducible exact H2_) | with_reducible exact H | (rw [hy225]; exact H) | exact H
     have Ny225 := am hy225
     clear hy225
     replace H := Option.bind_eq_some_iff.mp H
     obtain ⟨t226, A90, H⟩ := H
     try dsimp only at H
     have A9 := am A90
     clear A90
     obtain ⟨y227, hy227⟩ : ∃ y_ : List (S50), y_ = (y225.set (x5_1 : Int).toNat (⟨(rd_T50 y225 x5_1).f0, (rd_T50 y225 x5_1).f1, (rd_T50 y225 x5_1).f2, t226, (rd_T50 y225 x5_1).f4⟩ : S50)) := ⟨_, rfl⟩
     replace H : (laws_markSlotS.l0 k1 (y227.set (x5_1 : Int).toNat (⟨(rd_T50 y227 x5_1).f0, (rd_T50 y227 x5_1).f1, (rd_T50 y227 x5_1).f2, (rd_T50 y227 x5_1).f3, wrap64 ((wrap64 ((wrap64 ((wrap64 (x1_1 + 1)) + 1)) + 1)) + 1)⟩ : S50)) (wrap64 ((wrap64 ((wrap64 ((wrap64 ((wrap64 (x1_1 + 1)) + 1)) + 1)) + 1)) + 1)) (wrap64 (x5_1 + 1))) = some (r1, r2) := by first | (rw [hy227]; with_reducible exact H) | (have H2_ := (Option.bind_some _ _).symm.trans H; rw [hy227]; with_reducible exact H2_) | (have H2_ := (Option.bind_some _ _).symm.trans H; with_reducible exact H2_) | with_reducible exact H | (rw [hy227]; exact H) | exact H
     have Ny227 := am hy227
     clear hy227
     obtain ⟨y228, hy228⟩ : ∃ y_ : List (S50), y_ = (y227.set (x5_1 : Int).toNat (⟨(rd_T50 y227 x5_1).f0, (rd_T50 y227 x5_1).f1, (rd_T50 y227 x5_1).f2, (rd_T50 y227 x5_1).f3, wrap64 ((wrap64 ((wrap64 ((wrap64 (x1_1 + 1)) + 1)) + 1)) + 1)⟩ : S50)) := ⟨_, rfl⟩
     replace H : (laws_markSlotS.l0 k1 y228 (wrap64 ((wrap64 ((wrap64 ((wrap64 ((wrap64 (x1_1 + 1)) + 1)) + 1)) + 1)) + 1)) (wrap64 (x5_1 + 1))) = some (r1, r2) := by first | (rw [hy228]; with_reducible exact H) | (have H2_ := (Option.bind_some _ _).symm.trans H; rw [hy228]; with_reducible exact H2_) | (have H2_ := (Option.bind_some _ _).symm.trans H; with_reducible exact H2_) | with_reducible exact H | (rw [hy228]; exact H) | exact H
     have Ny228 := am hy228
     clear hy228
     have H' := am H
     clear H
     obtain ⟨Ao12, co12, eo12⟩ := Kd.R_slice HO_0.out
     subst eo12
     have p5 : 0 ≤ (x5_1 : Int) := of_decide_eq_true (by assumption)
     have q5 : (x5_1 : Int) < ((x0_1.length : Int) : Int) := of_decide_eq_true (by assumption)
     obtain ⟨go5, co5, eo5, gb5, gl5, cl5, HG5⟩ := Kd.R_form HO_0.out (by omega)
     (first | cases eo5 | (injection eo5 with ea_ en_ ec_; (first | subst ea_ | (injection ea_ with ea_; subst ea_)); subst ec_; clear en_))
     have GB5 := am gb5
     have GG5 := am HG5
     clear gb5 gl5 HG5
     have HMgo5 := am (show (P0_ go5 ∨ w.heap.size ≤ go5) from (HO_0.out.1 _ rfl))
     obtain ⟨ce5, hcl5, hM5, hcc5, hfr5⟩ := Kd.R_elem HO_0.out z50 (x5_1 : Int) p5 q5
     obtain rfl := k50_openM hM5
     have hx5_0 : wr.cell? ⟨go5, (x5_1 : Int).toNat * 5, none⟩ = some (.int .i64 ((rd_T50 x0_1 x5_1).f0)) := hcc5 0 _ rfl
     have hx5_1 : wr.cell? ⟨go5, (x5_1 : Int).toNat * 5 + 1, none⟩ = some (.bool ((rd_T50 x0_1 x5_1).f1)) := hcc5 1 _ rfl
     have hx5_2 : wr.cell? ⟨go5, (x5_1 : Int).toNat * 5 + 2, none⟩ = some (.string ((rd_T50 x0_1 x5_1).f2)) := hcc5 2 _ rfl
     have hx5_3 : wr.cell? ⟨go5, (x5_1 : Int).toNat * 5 + 3, none⟩ = some (.string ((rd_T50 x0_1 x5_1).f3)) := hcc5 3 _ rfl
     have hx5_4 : wr.cell? ⟨go5, (x5_1 : Int).toNat * 5 + 4, none⟩ = some (.int .i64 ((rd_T50 x0_1 x5_1).f4)) := hcc5 4 _ rfl
     have hf5_0 : wr.frozen? ⟨go5, (x5_1 : Int).toNat * 5, none⟩ = false := hfr5 0
     have hf5_1 : wr.frozen? ⟨go5, (x5_1 : Int).toNat * 5 + 1, none⟩ = false := hfr5 1
     have hf5_2 : wr.frozen? ⟨go5, (x5_1 : Int).toNat * 5 + 2, none⟩ = false := hfr5 2
     have hf5_3 : wr.frozen? ⟨go5, (x5_1 : Int).toNat * 5 + 3, none⟩ = false := hfr5 3
     have hf5_4 : wr.frozen? ⟨go5, (x5_1 : Int).toNat * 5 + 4, none⟩ = false := hfr5 4
     clear hcl5 hcc5 hfr5 hM5
     replace p5 := eq_true p5
     replace q5 := eq_true q5
     have HX13 := am (show Kd.R k50 50 wr w0.heap.size (fun k_ => (P0_ k_ ∨ w.heap.size ≤ k_)) (.slice (some ⟨go5, 0, none⟩) x0_1.length co12) x0_1 from (xR HO_0.out))
     obtain ⟨ce13, hcl13, hM13, hcc13, hfr13⟩ := Kd.R_elem HX13.out z50 (x5_1 : Int) (of_decide_eq_true (by assumption)) (by have h_ : (x5_1 : Int) < ((x0_1.length : Int) : Int) := of_decide_eq_true (by assumption); first | exact h_ | (have e_ := (Kd.R_reads' HO_0.out).1; omega) | simpa using h_)
     obtain rfl := k50_openM hM13
     have HP13 := Kd.R_seg HX13.out (x5_1 : Int) (of_decide_eq_true (by assumption)) (by have h_ : (x5_1 : Int) < ((x0_1.length : Int) : Int) := of_decide_eq_true (by assumption); first | exact h_ | (have e_ := (Kd.R_reads' HO_0.out).1; omega) | simpa using h_) (seg := [.int .i64 x1_1]) (j := 0) hcl13 hcc13 (show 1 ≤ 5 from by decide) (x' := (⟨x1_1, (rd_T50 x0_1 x5_1).f1, (rd_T50 x0_1 x5_1).f2, (rd_T50 x0_1 x5_1).f3, (rd_T50 x0_1 x5_1).f4⟩ : S50)) (k50_mkM _ _ _ (⟨x1_1, (rd_T50 x0_1 x5_1).f1, (rd_T50 x0_1 x5_1).f2, (rd_T50 x0_1 x5_1).f3, (rd_T50 x0_1 x5_1).f4⟩ : S50) ) (fun _ hk => hk)
     have hx13_0 := hcc13 0 _ rfl
     (try simp only [show (k50).sz = 5 from rfl, Nat.mul_one, Nat.add_zero] at hx13_0)
     have hf13_0 := hfr13 0
     (try simp only [show (k50).sz = 5 from rfl, Nat.mul_one, Nat.add_zero] at hf13_0)
     clear hcl13 hcc13 hfr13 hM13
     go_wp2_with (first | ((with_reducible refine gate_store (t := 3) (p := 16) rfl ?_); refine store_event (t := 3) (p := 16) (v := ?vo_w14) (w1 := (wr.setCell ⟨go5, (x5_1 : Int).toNat * 5, none⟩ (.int .i64 x1_1))) ?hg ?ho ?hn ?hr ?_; (case ho => rfl); (case hg => rfl); (case hn => rfl); (case hr => first | (go_simp; done) | (go_simp; rfl)); intro w14 hw; have hg : wr.grownBy w14 (some go5) := (by rw [hw]; exact HP13.2); have hp_ : Kd.R k50 50 w14 w0.heap.size (fun k_ => (P0_ k_ ∨ w.heap.size ≤ k_)) (.slice (some ⟨go5, 0, none⟩) x0_1.length co12) y222 := (by rw [hw, Ny222.out]; exact HP13.1); clear HP13; replace HB := am ((by rw [hw]; exact below_set (HB.out) GB5.out : Below w0.heap.size w0 w14)); replace HK := am (Kept.of_grown (S := (fun k_ => P0_ k_)) hg (xJ HK.out) (fun k_ e_ => (HO_0.out.1 k_ e_))); replace HO_0 := am (hp_); clear hg hw hp_; have p6 : 0 ≤ (x5_1 : Int) := of_decide_eq_true (by assumption); have q6 : (x5_1 : Int) < ((x0_1.length : Int) : Int) := of_decide_eq_true (by assumption); obtain ⟨ce6, hcl6, hM6, hcc6, hfr6⟩ := Kd.R_elem HO_0.out z50 (x5_1 : Int) p6 q6; obtain rfl := k50_openM hM6; have hx6_0 : w14.cell? ⟨go5, (x5_1 : Int).toNat * 5, none⟩ = some (.int .i64 ((rd_T50 y222 x5_1).f0)) := hcc6 0 _ rfl; have hx6_1 : w14.cell? ⟨go5, (x5_1 : Int).toNat * 5 + 1, none⟩ = some (.bool ((rd_T50 y222 x5_1).f1)) := hcc6 1 _ rfl; have hx6_2 : w14.cell? ⟨go5, (x5_1 : Int).toNat * 5 + 2, none⟩ = some (.string ((rd_T50 y222 x5_1).f2)) := hcc6 2 _ rfl; have hx6_3 : w14.cell? ⟨go5, (x5_1 : Int).toNat * 5 + 3, none⟩ = some (.string ((rd_T50 y222 x5_1).f3)) := hcc6 3 _ rfl; have hx6_4 : w14.cell? ⟨go5, (x5_1 : Int).toNat * 5 + 4, none⟩ = some (.int .i64 ((rd_T50 y222 x5_1).f4)) := hcc6 4 _ rfl; have hf6_0 : w14.frozen? ⟨go5, (x5_1 : Int).toNat * 5, none⟩ = false := hfr6 0; have hf6_1 : w14.frozen? ⟨go5, (x5_1 : Int).toNat * 5 + 1, none⟩ = false := hfr6 1; have hf6_2 : w14.frozen? ⟨go5, (x5_1 : Int).toNat * 5 + 2, none⟩ = false := hfr6 2; have hf6_3 : w14.frozen? ⟨go5, (x5_1 : Int).toNat * 5 + 3, none⟩ = false := hfr6 3; have hf6_4 : w14.frozen? ⟨go5, (x5_1 : Int).toNat * 5 + 4, none⟩ = false := hfr6 4; clear hcl6 hcc6 hfr6 hM6; replace p6 := eq_true p6; replace q6 := eq_true q6; have HX15 := am (show Kd.R k50 50 w14 w0.heap.size (fun k_ => (P0_ k_ ∨ w.heap.size ≤ k_)) (.slice (some ⟨go5, 0, none⟩) x0_1.length co12) y222 from (xR HO_0.out)); obtain ⟨ce15, hcl15, hM15, hcc15, hfr15⟩ := Kd.R_elem HX15.out z50 (x5_1 : Int) (of_decide_eq_true (by assumption)) (by have h_ : (x5_1 : Int) < ((x0_1.length : Int) : Int) := of_decide_eq_true (by assumption); first | exact h_ | (have e_ := (Kd.R_reads' HO_0.out).1; omega) | simpa using h_); obtain rfl := k50_openM hM15; have HP15 := Kd.R_seg HX15.out (x5_1 : Int) (of_decide_eq_true (by assumption)) (by have h_ : (x5_1 : Int) < ((x0_1.length : Int) : Int) := of_decide_eq_true (by assumption); first | exact h_ | (have e_ := (Kd.R_reads' HO_0.out).1; omega) | simpa using h_) (seg := [.bool ((Int.tmod (wrap64 (x1_1 + 1)) 3) == 0)]) (j := 1) hcl15 hcc15 (show 2 ≤ 5 from by decide) (x' := (⟨(rd_T50 y222 x5_1).f0, ((Int.tmod (wrap64 (x1_1 + 1)) 3) == 0), (rd_T50 y222 x5_1).f2, (rd_T50 y222 x5_1).f3, (rd_T50 y222 x5_1).f4⟩ : S50)) (k50_mkM _ _ _ (⟨(rd_T50 y222 x5_1).f0, ((Int.tmod (wrap64 (x1_1 + 1)) 3) == 0), (rd_T50 y222 x5_1).f2, (rd_T50 y222 x5_1).f3, (rd_T50 y222 x5_1).f4⟩ : S50) ) (fun _ hk => hk); have hx15_1 := hcc15 1 _ rfl; (try simp only [show (k50).sz = 5 from rfl, Nat.mul_one, Nat.add_zero] at hx15_1); have hf15_1 := hfr15 1; (try simp only [show (k50).sz = 5 from rfl, Nat.mul_one, Nat.add_zero] at hf15_1); clear hcl15 hcc15 hfr15 hM15) | ((with_reducible refine gate_store (t := 4) (p := 25) rfl ?_); refine store_event (t := 4) (p := 25) (v := ?vo_w16) (w1 := (w14.setCell ⟨go5, (x5_1 : Int).toNat * 5 + 1, none⟩ (.bool ((Int.tmod (wrap64 (x1_1 + 1)) 3) == 0)))) ?hg ?ho ?hn ?hr ?_; (case ho => rfl); (case hg => rfl); (case hn => rfl); (case hr => first | (go_simp; done) | (go_simp; rfl)); intro w16 hw; have hg : w14.grownBy w16 (some go5) := (by rw [hw]; exact HP15.2); have hp_ : Kd.R k50 50 w16 w0.heap.size (fun k_ => (P0_ k_ ∨ w.heap.size ≤ k_)) (.slice (some ⟨go5, 0, none⟩) x0_1.length co12) y223 := (by rw [hw, Ny223.out]; exact HP15.1); clear HP15; replace HB := am ((by rw [hw]; exact below_set (HB.out) GB5.out : Below w0.heap.size w0 w16)); replace HK := am (Kept.of_grown (S := (fun k_ => P0_ k_)) hg (xJ HK.out) (fun k_ e_ => (HO_0.out.1 k_ e_))); replace HO_0 := am (hp_); clear hg hw hp_) | ((with_reducible refine gate_callee (f := 72) rfl ?_); refine xG (some 31) 72 Try.func72 #[.int .i64 (wrap64 ((wrap64 (x1_1 + 1)) + 1))] (h := ?_); (with_reducible refine (laws_markText.calls k1 (wrap64 ((wrap64 (x1_1 + 1)) + 1)) t224 _ A7.out).mono ?_); rintro e w17 ⟨rfl, hb⟩; refine ⟨_, rfl, ?_⟩; replace HO_0 := am (Kd.R_below (xR HO_0.out) hb); replace HK := am (Kept.below (S := (fun k_ => P0_ k_)) (xJ HK.out) hb); replace HB := am (below_step (xW HB.out) hb); (try clear hb); have p8 : 0 ≤ (x5_1 : Int) := of_decide_eq_true (by assumption); have q8 : (x5_1 : Int) < ((x0_1.length : Int) : Int) := of_decide_eq_true (by assumption); obtain ⟨ce8, hcl8, hM8, hcc8, hfr8⟩ := Kd.R_elem HO_0.out z50 (x5_1 : Int) p8 q8; obtain rfl := k50_openM hM8; have hx8_0 : w17.cell? ⟨go5, (x5_1 : Int).toNat * 5, none⟩ = some (.int .i64 ((rd_T50 y223 x5_1).f0)) := hcc8 0 _ rfl; have hx8_1 : w17.cell? ⟨go5, (x5_1 : Int).toNat * 5 + 1, none⟩ = some (.bool ((rd_T50 y223 x5_1).f1)) := hcc8 1 _ rfl; have hx8_2 : w17.cell? ⟨go5, (x5_1 : Int).toNat * 5 + 2, none⟩ = some (.string ((rd_T50 y223 x5_1).f2)) := hcc8 2 _ rfl; have hx8_3 : w17.cell? ⟨go5, (x5_1 : Int).toNat * 5 + 3, none⟩ = some (.string ((rd_T50 y223 x5_1).f3)) := hcc8 3 _ rfl; have hx8_4 : w17.cell? ⟨go5, (x5_1 : Int).toNat * 5 + 4, none⟩ = some (.int .i64 ((rd_T50 y223 x5_1).f4)) := hcc8 4 _ rfl; have hf8_0 : w17.frozen? ⟨go5, (x5_1 : Int).toNat * 5, none⟩ = false := hfr8 0; have hf8_1 : w17.frozen? ⟨go5, (x5_1 : Int).toNat * 5 + 1, none⟩ = false := hfr8 1; have hf8_2 : w17.frozen? ⟨go5, (x5_1 : Int).toNat * 5 + 2, none⟩ = false := hfr8 2; have hf8_3 : w17.frozen? ⟨go5, (x5_1 : Int).toNat * 5 + 3, none⟩ = false := hfr8 3; have hf8_4 : w17.frozen? ⟨go5, (x5_1 : Int).toNat * 5 + 4, none⟩ = false := hfr8 4; clear hcl8 hcc8 hfr8 hM8; replace p8 := eq_true p8; replace q8 := eq_true q8; have HX18 := am (show Kd.R k50 50 w17 w0.heap.size (fun k_ => (P0_ k_ ∨ w.heap.size ≤ k_)) (.slice (some ⟨go5, 0, none⟩) x0_1.length co12) y223 from (xR HO_0.out)); obtain ⟨ce18, hcl18, hM18, hcc18, hfr18⟩ := Kd.R_elem HX18.out z50 (x5_1 : Int) (of_decide_eq_true (by assumption)) (by have h_ : (x5_1 : Int) < ((x0_1.length : Int) : Int) := of_decide_eq_true (by assumption); first | exact h_ | (have e_ := (Kd.R_reads' HO_0.out).1; omega) | simpa using h_); obtain rfl := k50_openM hM18; have HP18 := Kd.R_seg HX18.out (x5_1 : Int) (of_decide_eq_true (by assumption)) (by have h_ : (x5_1 : Int) < ((x0_1.length : Int) : Int) := of_decide_eq_true (by assumption); first | exact h_ | (have e_ := (Kd.R_reads' HO_0.out).1; omega) | simpa using h_) (seg := [.string t224]) (j := 2) hcl18 hcc18 (show 3 ≤ 5 from by decide) (x' := (⟨(rd_T50 y223 x5_1).f0, (rd_T50 y223 x5_1).f1, t224, (rd_T50 y223 x5_1).f3, (rd_T50 y223 x5_1).f4⟩ : S50)) (k50_mkM _ _ _ (⟨(rd_T50 y223 x5_1).f0, (rd_T50 y223 x5_1).f1, t224, (rd_T50 y223 x5_1).f3, (rd_T50 y223 x5_1).f4⟩ : S50) ) (fun _ hk => hk); have hx18_2 := hcc18 2 _ rfl; (try simp only [show (k50).sz = 5 from rfl, Nat.mul_one, Nat.add_zero] at hx18_2); have hf18_2 := hfr18 2; (try simp only [show (k50).sz = 5 from rfl, Nat.mul_one, Nat.add_zero] at hf18_2); clear hcl18 hcc18 hfr18 hM18) | ((with_reducible refine gate_store (t := 9) (p := 33) rfl ?_); refine store_event (t := 9) (p := 33) (v := ?vo_w19) (w1 := (w17.setCell ⟨go5, (x5_1 : Int).toNat * 5 + 2, none⟩ (.string t224))) ?hg ?ho ?hn ?hr ?_; (case ho => rfl); (case hg => rfl); (case hn => rfl); (case hr => first | (go_simp; done) | (go_simp; rfl)); intro w19 hw; have hg : w17.grownBy w19 (some go5) := (by rw [hw]; exact HP18.2); have hp_ : Kd.R k50 50 w19 w0.heap.size (fun k_ => (P0_ k_ ∨ w.heap.size ≤ k_)) (.slice (some ⟨go5, 0, none⟩) x0_1.length co12) y225 := (by rw [hw, Ny225.out]; exact HP18.1); clear HP18; replace HB := am ((by rw [hw]; exact below_set (HB.out) GB5.out : Below w0.heap.size w0 w19)); replace HK := am (Kept.of_grown (S := (fun k_ => P0_ k_)) hg (xJ HK.out) (fun k_ e_ => (HO_0.out.1 k_ e_))); replace HO_0 := am (hp_); clear hg hw hp_) | ((with_reducible refine gate_callee (f := 72) rfl ?_); refine xG (some 39) 72 Try.func72 #[.int .i64 (wrap64 ((wrap64 ((wrap64 (x1_1 + 1)) + 1)) + 1))] (h := ?_); (with_reducible refine (laws_markText.calls k1 (wrap64 ((wrap64 ((wrap64 (x1_1 + 1)) + 1)) + 1)) t226 _ A9.out).mono ?_); rintro e w20 ⟨rfl, hb⟩; refine ⟨_, rfl, ?_⟩; replace HO_0 := am (Kd.R_below (xR HO_0.out) hb); replace HK := am (Kept.below (S := (fun k_ => P0_ k_)) (xJ HK.out) hb); replace HB := am (below_step (xW HB.out) hb); (try clear hb); have p10 : 0 ≤ (x5_1 : Int) := of_decide_eq_true (by assumption); have q10 : (x5_1 : Int) < ((x0_1.length : Int) : Int) := of_decide_eq_true (by assumption); obtain ⟨ce10, hcl10, hM10, hcc10, hfr10⟩ := Kd.R_elem HO_0.out z50 (x5_1 : Int) p10 q10; obtain rfl := k50_openM hM10; have hx10_0 : w20.cell? ⟨go5, (x5_1 : Int).toNat * 5, none⟩ = some (.int .i64 ((rd_T50 y225 x5_1).f0)) := hcc10 0 _ rfl; have hx10_1 : w20.cell? ⟨go5, (x5_1 : Int).toNat * 5 + 1, none⟩ = some (.bool ((rd_T50 y225 x5_1).f1)) := hcc10 1 _ rfl; have hx10_2 : w20.cell? ⟨go5, (x5_1 : Int).toNat * 5 + 2, none⟩ = some (.string ((rd_T50 y225 x5_1).f2)) := hcc10 2 _ rfl; have hx10_3 : w20.cell? ⟨go5, (x5_1 : Int).toNat * 5 + 3, none⟩ = some (.string ((rd_T50 y225 x5_1).f3)) := hcc10 3 _ rfl; have hx10_4 : w20.cell? ⟨go5, (x5_1 : Int).toNat * 5 + 4, none⟩ = some (.int .i64 ((rd_T50 y225 x5_1).f4)) := hcc10 4 _ rfl; have hf10_0 : w20.frozen? ⟨go5, (x5_1 : Int).toNat * 5, none⟩ = false := hfr10 0; have hf10_1 : w20.frozen? ⟨go5, (x5_1 : Int).toNat * 5 + 1, none⟩ = false := hfr10 1; have hf10_2 : w20.frozen? ⟨go5, (x5_1 : Int).toNat * 5 + 2, none⟩ = false := hfr10 2; have hf10_3 : w20.frozen? ⟨go5, (x5_1 : Int).toNat * 5 + 3, none⟩ = false := hfr10 3; have hf10_4 : w20.frozen? ⟨go5, (x5_1 : Int).toNat * 5 + 4, none⟩ = false := hfr10 4; clear hcl10 hcc10 hfr10 hM10; replace p10 := eq_true p10; replace q10 := eq_true q10; have HX21 := am (show Kd.R k50 50 w20 w0.heap.size (fun k_ => (P0_ k_ ∨ w.heap.size ≤ k_)) (.slice (some ⟨go5, 0, none⟩) x0_1.length co12) y225 from (xR HO_0.out)); obtain ⟨ce21, hcl21, hM21, hcc21, hfr21⟩ := Kd.R_elem HX21.out z50 (x5_1 : Int) (of_decide_eq_true (by assumption)) (by have h_ : (x5_1 : Int) < ((x0_1.length : Int) : Int) := of_decide_eq_true (by assumption); first | exact h_ | (have e_ := (Kd.R_reads' HO_0.out).1; omega) | simpa using h_); obtain rfl := k50_openM hM21; have HP21 := Kd.R_seg HX21.out (x5_1 : Int) (of_decide_eq_true (by assumption)) (by have h_ : (x5_1 : Int) < ((x0_1.length : Int) : Int) := of_decide_eq_true (by assumption); first | exact h_ | (have e_ := (Kd.R_reads' HO_0.out).1; omega) | simpa using h_) (seg := [.string t226]) (j := 3) hcl21 hcc21 (show 4 ≤ 5 from by decide) (x' := (⟨(rd_T50 y225 x5_1).f0, (rd_T50 y225 x5_1).f1, (rd_T50 y225 x5_1).f2, t226, (rd_T50 y225 x5_1).f4⟩ : S50)) (k50_mkM _ _ _ (⟨(rd_T50 y225 x5_1).f0, (rd_T50 y225 x5_1).f1, (rd_T50 y225 x5_1).f2, t226, (rd_T50 y225 x5_1).f4⟩ : S50) ) (fun _ hk => hk); have hx21_3 := hcc21 3 _ rfl; (try simp only [show (k50).sz = 5 from rfl, Nat.mul_one, Nat.add_zero] at hx21_3); have hf21_3 := hfr21 3; (try simp only [show (k50).sz = 5 from rfl, Nat.mul_one, Nat.add_zero] at hf21_3); clear hcl21 hcc21 hfr21 hM21) | ((with_reducible refine gate_store (t := 9) (p := 41) rfl ?_); refine store_event (t := 9) (p := 41) (v := ?vo_w22) (w1 := (w20.setCell ⟨go5, (x5_1 : Int).toNat * 5 + 3, none⟩ (.string t226))) ?hg ?ho ?hn ?hr ?_; (case ho => rfl); (case hg => rfl); (case hn => rfl); (case hr => first | (go_simp; done) | (go_simp; rfl)); intro w22 hw; have hg : w20.grownBy w22 (some go5) := (by rw [hw]; exact HP21.2); have hp_ : Kd.R k50 50 w22 w0.heap.size (fun k_ => (P0_ k_ ∨ w.heap.size ≤ k_)) (.slice (some ⟨go5, 0, none⟩) x0_1.length co12) y227 := (by rw [hw, Ny227.out]; exact HP21.1); clear HP21; replace HB := am ((by rw [hw]; exact below_set (HB.out) GB5.out : Below w0.heap.size w0 w22)); replace HK := am (Kept.of_grown (S := (fun k_ => P0_ k_)) hg (xJ HK.out) (fun k_ e_ => (HO_0.out.1 k_ e_))); replace HO_0 := am (hp_); clear hg hw hp_; have p11 : 0 ≤ (x5_1 : Int) := of_decide_eq_true (by assumption); have q11 : (x5_1 : Int) < ((x0_1.length : Int) : Int) := of_decide_eq_true (by assumption); obtain ⟨ce11, hcl11, hM11, hcc11, hfr11⟩ := Kd.R_elem HO_0.out z50 (x5_1 : Int) p11 q11; obtain rfl := k50_openM hM11; have hx11_0 : w22.cell? ⟨go5, (x5_1 : Int).toNat * 5, none⟩ = some (.int .i64 ((rd_T50 y227 x5_1).f0)) := hcc11 0 _ rfl; have hx11_1 : w22.cell? ⟨go5, (x5_1 : Int).toNat * 5 + 1, none⟩ = some (.bool ((rd_T50 y227 x5_1).f1)) := hcc11 1 _ rfl; have hx11_2 : w22.cell? ⟨go5, (x5_1 : Int).toNat * 5 + 2, none⟩ = some (.string ((rd_T50 y227 x5_1).f2)) := hcc11 2 _ rfl; have hx11_3 : w22.cell? ⟨go5, (x5_1 : Int).toNat * 5 + 3, none⟩ = some (.string ((rd_T50 y227 x5_1).f3)) := hcc11 3 _ rfl; have hx11_4 : w22.cell? ⟨go5, (x5_1 : Int).toNat * 5 + 4, none⟩ = some (.int .i64 ((rd_T50 y227 x5_1).f4)) := hcc11 4 _ rfl; have hf11_0 : w22.frozen? ⟨go5, (x5_1 : Int).toNat * 5, none⟩ = false := hfr11 0; have hf11_1 : w22.frozen? ⟨go5, (x5_1 : Int).toNat * 5 + 1, none⟩ = false := hfr11 1; have hf11_2 : w22.frozen? ⟨go5, (x5_1 : Int).toNat * 5 + 2, none⟩ = false := hfr11 2; have hf11_3 : w22.frozen? ⟨go5, (x5_1 : Int).toNat * 5 + 3, none⟩ = false := hfr11 3; have hf11_4 : w22.frozen? ⟨go5, (x5_1 : Int).toNat * 5 + 4, none⟩ = false := hfr11 4; clear hcl11 hcc11 hfr11 hM11; replace p11 := eq_true p11; replace q11 := eq_true q11; have HX23 := am (show Kd.R k50 50 w22 w0.heap.size (fun k_ => (P0_ k_ ∨ w.heap.size ≤ k_)) (.slice (some ⟨go5, 0, none⟩) x0_1.length co12) y227 from (xR HO_0.out)); obtain ⟨ce23, hcl23, hM23, hcc23, hfr23⟩ := Kd.R_elem HX23.out z50 (x5_1 : Int) (of_decide_eq_true (by assumption)) (by have h_ : (x5_1 : Int) < ((x0_1.length : Int) : Int) := of_decide_eq_true (by assumption); first | exact h_ | (have e_ := (Kd.R_reads' HO_0.out).1; omega) | simpa using h_); obtain rfl := k50_openM hM23; have HP23 := Kd.R_seg HX23.out (x5_1 : Int) (of_decide_eq_true (by assumption)) (by have h_ : (x5_1 : Int) < ((x0_1.length : Int) : Int) := of_decide_eq_true (by assumption); first | exact h_ | (have e_ := (Kd.R_reads' HO_0.out).1; omega) | simpa using h_) (seg := [.int .i64 (wrap64 ((wrap64 ((wrap64 ((wrap64 (x1_1 + 1)) + 1)) + 1)) + 1))]) (j := 4) hcl23 hcc23 (show 5 ≤ 5 from by decide) (x' := (⟨(rd_T50 y227 x5_1).f0, (rd_T50 y227 x5_1).f1, (rd_T50 y227 x5_1).f2, (rd_T50 y227 x5_1).f3, wrap64 ((wrap64 ((wrap64 ((wrap64 (x1_1 + 1)) + 1)) + 1)) + 1)⟩ : S50)) (k50_mkM _ _ _ (⟨(rd_T50 y227 x5_1).f0, (rd_T50 y227 x5_1).f1, (rd_T50 y227 x5_1).f2, (rd_T50 y227 x5_1).f3, wrap64 ((wrap64 ((wrap64 ((wrap64 (x1_1 + 1)) + 1)) + 1)) + 1)⟩ : S50) ) (fun _ hk => hk); have hx23_4 := hcc23 4 _ rfl; (try simp only [show (k50).sz = 5 from rfl, Nat.mul_one, Nat.add_zero] at hx23_4); have hf23_4 := hfr23 4; (try simp only [show (k50).sz = 5 from rfl, Nat.mul_one, Nat.add_zero] at hf23_4); clear hcl23 hcc23 hfr23 hM23) | ((with_reducible refine gate_store (t := 3) (p := 48) rfl ?_); refine store_event (t := 3) (p := 48) (v := ?vo_w24) (w1 := (w22.setCell ⟨go5, (x5_1 : Int).toNat * 5 + 4, none⟩ (.int .i64 (wrap64 ((wrap64 ((wrap64 ((wrap64 (x1_1 + 1)) + 1)) + 1)) + 1))))) ?hg ?ho ?hn ?hr ?_; (case ho => rfl); (case hg => rfl); (case hn => rfl); (case hr => first | (go_simp; done) | (go_simp; rfl)); intro w24 hw; have hg : w22.grownBy w24 (some go5) := (by rw [hw]; exact HP23.2); have hp_ : Kd.R k50 50 w24 w0.heap.size (fun k_ => (P0_ k_ ∨ w.heap.size ≤ k_)) (.slice (some ⟨go5, 0, none⟩) x0_1.length co12) y228 := (by rw [hw, Ny228.out]; exact HP23.1); clear HP23; replace HB := am ((by rw [hw]; exact below_set (HB.out) GB5.out : Below w0.heap.size w0 w24)); replace HK := am (Kept.of_grown (S := (fun k_ => P0_ k_)) hg (xJ HK.out) (fun k_ e_ => (HO_0.out.1 k_ e_))); replace HO_0 := am (hp_); clear hg hw hp_))
     go_roundg k1
     case measure => have := HK1.out; omega
     case rel => exact ⟨(y228), (wrap64 ((wrap64 ((wrap64 ((wrap64 ((wrap64 (x1_1 + 1)) + 1)) + 1)) + 1)) + 1)), (wrap64 (x5_1 + 1)), (by first | rfl | (simp; done) | (simp [*]; done)), (xQ), H', ⟨by have := HK1.out; omega⟩, ⟨xR HO_0.out⟩, ⟨xJ HK.out⟩, ⟨xW HB.out⟩⟩
    ·rw [if_neg c4] at H
     exact absurd H (by simp)
   ·rw [if_neg c3] at H
    have c3b0 : decide (x5_1 < (x0_1.length : Int)) = false := decide_eq_false c3
    clear c3
    simp only [Option.some.injEq, Prod.mk.injEq] at H
    obtain ⟨rfl, rfl⟩ := H
    obtain ⟨Ao25, co25, eo25⟩ := Kd.R_slice HO_0.out
    subst eo25
    go_wp2
    go_ret
    exact ⟨xV, xR HO_0.out, xW HB.out, xJ HK.out⟩
def laws_markArena.f (k : Nat) (l0_0 : List (S50)) (a0_1 : Int) (a1 : Int) : Option (Int × (List (S50))) := (laws_markSlotS.f k l0_0 a1).bind fun bt230 => (some (bt230.1, bt230.2))
set_option maxHeartbeats 8000000 in
set_option maxRecDepth 100000 in
theorem laws_markArena.calls (k : Nat) (P0_0_ : Nat → Prop) (u9000_ : Value) (l0_0 : List (S50)) (a0_1 : Int) (a1 : Int) (r1 : Int) (r2 : List (S50)) (w0 w : World) (hB : Below w0.heap.size w0 w) (ho0_0 : Kd.R k50 50 w w0.heap.size P0_0_ u9000_ l0_0) (h : laws_markArena.f k l0_0 a0_1 a1 = some (r1, r2)) :
  Calls Try.prog 26 #[.agg #[u9000_, .int .i64 a0_1], .int .i64 a1] w fun e w' => e = .returned (.int .i64 r1) ∧ Kd.R k50 50 w' w0.heap.size (fun k_ => (P0_0_ k_ ∨ w.heap.size ≤ k_)) u9000_ r2 ∧ Below w0.heap.size w0 w' ∧ Kept w w' (fun k_ => P0_0_ k_) := by
 have hu42 := Try.underlying42
 have HO0_0 := am (show Kd.R k50 50 w w0.heap.size (fun k_ => (P0_0_ k_ ∨ w.heap.size ≤ k_)) u9000_ l0_0 from Kd.R_mono ho0_0 (fun k_ hk => (.inl hk)))
 have HK := am (Kept.refl w (fun k_ => P0_0_ k_))
 have HW0 := am hB.size
 have HB := am hB
 clear hB
 have H : ((laws_markSlotS.f k l0_0 a1).bind fun bt230 => (some (bt230.1, bt230.2))) = some (r1, r2) := h
 clear h
 replace H := Option.bind_eq_some_iff.mp H
 obtain ⟨⟨t230, t231⟩, A30, H⟩ := H
 replace H : (some (t230, t231)) = some (r1, r2) := H
 have A3 := am A30
 clear A30
 simp only [Option.some.injEq, Prod.mk.injEq] at H
 obtain ⟨rfl, rfl⟩ := H
 obtain ⟨Ao4, co4, eo4⟩ := Kd.R_slice HO0_0.out
 subst eo4
 go_enter Try.func26, Try.ntmps26
 go_wp2_with (first | ((with_reducible refine gate_dst (N := 2) rfl ?_); refine xE (N := 2) (cs := #[.slice Ao4 l0_0.length co4, .int .i64 a0_1]) (t := 42) (h := ?_); intro gb229 hg w5 hbox hb; replace HO0_0 := am (Kd.R_below (xR HO0_0.out) hb); have BK229 := am (hbox); have GW229 := am ((by rw [hg]; exact (by first | exact HK.out.1 | exact (show Kept w _ (fun k_ => P0_0_ k_) from xJ HK.out).1) : w.heap.size ≤ gb229)); replace HK := am (Kept.below (S := (fun k_ => P0_0_ k_)) (xJ HK.out) hb); have GE229 := am (xS hg HB.out); replace HB := am (below_step (xW HB.out) hb); clear hb hbox hg; obtain ⟨hcz6_0, hcz6_1, hfz6_0, hfz6_1⟩ := xT2 (W := w5) BK229.out) | ((with_reducible refine gate_callee (f := 51) rfl ?_); refine xG (some 8) 51 Try.func51 #[.slice Ao4 l0_0.length co4, .int .i64 a1] (h := ?_); (with_reducible refine (laws_markSlotS.calls k (fun k_ => some k_ = (.slice Ao4 l0_0.length co4 : Value).ownBlock) (.slice Ao4 l0_0.length co4) l0_0 a1 t230 t231 w0 _ ?side1 ?side2 A3.out).mono ?_); (case side1 => exact xW HB.out); (case side2 => exact Kd.R_tight rfl HO0_0.out); rintro e w7 ⟨rfl, hy0, hb, hkp⟩; refine ⟨_, rfl, ?_⟩; replace BK229 := am (blk_kept (xB BK229.out) hkp (fun hs_ => (fun e_ => (Kd.R_ne HO0_0.out BK229.out (by decide)) e_) hs_)); replace HK := am (Kept.then_ (S := (fun k_ => P0_0_ k_)) (xJ HK.out) hkp (fun k_ hs_ => (fun e_ => (HO0_0.out.1 k_ e_.symm)) hs_)); replace HO0_0 := am (Kd.R_reok rfl hy0 (fun k_ e_ => HO0_0.out.1 k_ e_)); replace HB := am (hb); (try clear hb); (try clear hkp); (try clear hy0)))
 go_ret
 exact ⟨xV, xR HO0_0.out, xW HB.out, xJ HK.out⟩
end Go.Proofs.Ytomcapflpephmaa.HFnExactLift
