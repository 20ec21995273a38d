/- What the row of the law needs of the printed and the plain texts. -/
import Derived.Test.YtmahoekbedgbcaaZbHX
import Derived.Test.YtmahoekbedgbcaaZbHFnExactCleanTablex0
import Derived.Test.YtmahoekbedgbcaaZbHFnExactCleanTablex4
namespace Go.Proofs.Ytmahoekbedgbcaa.HFnExactCleanTable
open Go.RowKit Go.Proofs.YtmahoekbedgbcaaW.PrintWords Go.Proofs.YtmahoekbedgbcaaW.PrintLast Go.Proofs.YtmahoekbedgbcaaW.PrintMore
attribute [local go_sem] max2_int min2_int max_two min_two max_three min_three max_four min_four
set_option linter.unusedVariables false
set_option linter.unusedSimpArgs false
def spec_l04Cells.l0 : Nat → Int → List (S57) → Int → Option ((List (S57)))
 | 0, _, _, _ => none
 | k + 1, x0, x3, x4 => if x4 < x0 then (if x3.length < 5864062014805 then (spec_l04Cells.l0 k x0 (x3 ++ [(⟨(⟨#[]⟩ : ByteArray), (-1)⟩ : S57)]) (wrap64 (x4 + 1))) else (none)) else (some x3)
def spec_l04Cells.f (k : Nat) (a0 : Int) : Option ((List (S57))) := spec_l04Cells.l0 k a0 (([] : List (S57))) 0
set_option maxHeartbeats 8000000 in
set_option maxRecDepth 100000 in
theorem spec_l04Cells.calls (k : Nat) (a0 : Int) (r : List (S57)) (w : World) (h : spec_l04Cells.f k a0 = some r) :
  Calls Try.prog 72 #[.int .i64 a0] w fun e w' => ∃ v0_ : Value, e = .returned (v0_) ∧ Kd.R k57 57 w' w.heap.size (fun _ => True) v0_ r ∧ Below w.heap.size w w' := by
 have hu57 := Try.underlying57
 have HB := am (Below.refl w.heap.size w)
 have H : (spec_l04Cells.l0 k a0 (([] : List (S57))) 0) = some r := h
 clear h
 obtain ⟨y208, hy208⟩ : ∃ y_ : List (S57), y_ = (([] : List (S57))) := ⟨_, rfl⟩
 replace H : (spec_l04Cells.l0 k a0 y208 0) = some r := by first | (rw [hy208]; with_reducible exact H) | (have H2_ := (Option.bind_some _ _).symm.trans H; rw [hy208]; with_reducible exact H2_) | (have H2_ := (Option.bind_some _ _).symm.trans H; with_reducible exact H2_) | with_reducible exact H | (rw [hy208]; exact H) | exact H
 have Ny208 := am hy208
 clear hy208
 have H' := am H
 clear H
 go_enter Try.func72, Try.ntmps72
 go_wp2_with (first | ((with_reducible refine gate_dst (N := 5) rfl ?_); refine Kd.R_lit k57 _ 57 ?hg (N := 5) ?hd (xs := ([] : List (S57))) (inner := []) (ok := fun _ => True) (okp := fun _ => True) ?hr ?hp (fun _ hk => hk) trivial (Below.refl _ _) (Nat.le_refl _) (by simp) ?_; (case hd => rfl); (case hg => rfl); (case hr => first | (go_simp; done) | (go_simp; rfl)); (case hp => exact (Reps.none _ _)); intro v209 w2 ho3 hb hg_ hnew_; clear hg_ hnew_; (first | rw [← Ny208.out] at ho3 | (simp only [Int.reduceToNat] at ho3; rw [← Ny208.out] at ho3)); have n0_ := am (Kd.R_lower ho3 (below_size (xW HB.out))); have n1_ := am (below_step (xW HB.out) hb); clear HB; have HO210 := n0_; have HB := n1_; clear n0_ n1_; clear hb ho3))
 go_loopg [3, 4] k (fun kq v3 v4 w' => ∃ (x3_1 : List (S57)) (x4_1 : Int), v4 = .int .i64 x4_1 ∧ Aside0 (spec_l04Cells.l0 kq a0 x3_1 x4_1 = some r) ∧ Aside0 (kq ≤ k) ∧ Aside0 (Kd.R k57 57 w' w.heap.size (fun _ => True) v3 x3_1) ∧ Aside0 (Below w.heap.size w w'))
 case atStart => exact ⟨(y208), (0), (xQ), H', ⟨Nat.le_refl _⟩, ⟨xR HO210.out⟩, ⟨xW HB.out⟩⟩
 case round =>
  clear H'
  try clear p2
  obtain ⟨x3_1, x4_1, rfl, HA, HK1, HO_3, HB⟩ := hrel
  cases gk with
  | zero => exact absurd HA.out (by simp [spec_l04Cells.l0])
  | succ k1 =>
   have H := HA.out
   clear HA
   simp only [spec_l04Cells.l0] at H
   by_cases c4 : x4_1 < a0
   ·rw [if_pos c4] at H
    have c4b0 : decide (x4_1 < a0) = true := decide_eq_true c4
    clear c4
    by_cases c5 : x3_1.length < 5864062014805
    ·rw [if_pos c5] at H
     have LMc5 := am c5
     clear c5
     obtain ⟨y211, hy211⟩ : ∃ y_ : List (S57), y_ = (x3_1 ++ [(⟨(⟨#[]⟩ : ByteArray), (-1)⟩ : S57)]) := ⟨_, rfl⟩
     replace H : (spec_l04Cells.l0 k1 a0 y211 (wrap64 (x4_1 + 1))) = some r := by first | (rw [hy211]; with_reducible exact H) | (have H2_ := (Option.bind_some _ _).symm.trans H; rw [hy211]; with_reducible exact H2_) | (have H2_ := (Option.bind_some _ _).symm.trans H; with_reducible exact H2_) | with_reducible exact H | (rw [hy211]; exact H) | exact H
     have Ny211 := am hy211
     clear hy211
     have H' := am H
     clear H
     go_wp2_with (first | ((with_reducible refine gate_builtin (b := .append) (xs := #[.tmp 11, .tmp 13]) rfl ?_); at_builtin; refine Kd.R_append k57 (w0 := w) w.heap.size rfl (.tmp 11) (.tmp 13) 24 57 (.agg #[(.string ⟨#[]⟩), (.int .i64 0)]) 24 rfl Try.underlying24 info57 rfl (by decide) (by omega) u3 x3_1 (⟨(⟨#[]⟩ : ByteArray), (-1)⟩ : S57) [.string (⟨#[]⟩ : ByteArray), .int .i64 (-1)] (fun _ => True) (fun _ => False) rfl rfl ?aP (fun _ hk => hk.elim) ?aF ?aO ?aB ?aS ?aL ?_; (case aP => exact k57_mkM _ _ _ (⟨(⟨#[]⟩ : ByteArray), (-1)⟩ : S57)); (case aB => exact (xW HB.out)); (case aF => exact (fun _ _ => trivial)); (case aO => exact (xR HO_3.out)); (case aS => exact (below_size (xW HB.out))); (case aL => have := LMc5.out; omega); intro v212 w6 ho hb hg hat; rw [← Ny211.out] at ho; have n0_ := am (hb); have n1_ := am (ho); clear HB; clear HO_3; have HB := n0_; have HO213 := n1_; clear n0_ n1_; clear ho hb hg hat))
     go_roundg k1
     case measure => have := HK1.out; omega
     case rel => exact ⟨(y211), (wrap64 (x4_1 + 1)), (xQ), H', ⟨by have := HK1.out; omega⟩, ⟨xR HO213.out⟩, ⟨xW HB.out⟩⟩
    ·rw [if_neg c5] at H
     exact absurd H (by simp)
   ·rw [if_neg c4] at H
    have c4b0 : decide (x4_1 < a0) = false := decide_eq_false c4
    clear c4
    obtain rfl := Option.some.inj H
    go_wp2
    go_ret
    exact ⟨_, xV, xR HO_3.out, xW HB.out⟩
mutual
def spec_l04Free.l0 : Nat → List (S57) → ByteArray → Int → Int → Option (Int × Int)
 | 0, _, _, _, _ => none
 | k + 1, x0, x1, x6, x7 => if x7 < (x0.length : Int) then (if 0 ≤ x7 then (if ((rd_T57 x0 x7).f0).toList = ([] : List UInt8) then (if ((rd_T57 x0 x7).f1) = (-1) then (spec_l04Free.l0 k x0 x1 (wrap64 (x6 + 1)) (wrap64 (x7 + 1))) else (spec_l04Free.l0 k x0 x1 x6 (wrap64 (x7 + 1)))) else (spec_l04Free.l0 k x0 x1 x6 (wrap64 (x7 + 1)))) else (none)) else ((spec_HashOf.f k x1 0).bind fun t216 => (if (x0.length : Int) = 0 then (none) else (spec_l04Free.l1 k x0 x6 (x0.length : Int) (Int.tmod t216 (x0.length : Int)) 0)))
def spec_l04Free.l1 : Nat → List (S57) → Int → Int → Int → Int → Option (Int × Int)
 | 0, _, _, _, _, _ => none
 | k + 1, x0, x6, x8, x9, x10 => if x10 < x8 then (if x8 = 0 then (none) else (if 0 ≤ (Int.tmod (wrap64 (x9 + x10)) x8) then (if (Int.tmod (wrap64 (x9 + x10)) x8) < (x0.length : Int) then (if ((rd_T57 x0 (Int.tmod (wrap64 (x9 + x10)) x8)).f0).toList = ([] : List UInt8) then (some (Int.tmod (wrap64 (x9 + x10)) x8, x6)) else (spec_l04Free.l1 k x0 x6 x8 x9 (wrap64 (x10 + 1)))) else (none)) else (none))) else (some ((-1), x6))
end
def spec_l04Free.f (k : Nat) (l0 : List (S57)) (a1 : ByteArray) : Option (Int × Int) := spec_l04Free.l0 k l0 a1 0 0
set_option maxHeartbeats 8000000 in
set_option maxRecDepth 100000 in
theorem spec_l04Free.calls (k : Nat) (A0 : Option Addr) (c0 : Nat) (l0 : List (S57)) (a1 : ByteArray) (r1 : Int) (r2 : Int) (w : World) (hr0 : Kd.C k57 w A0 l0.length l0) (hc0 : l0.length ≤ c0) (h : spec_l04Free.f k l0 a1 = some (r1, r2)) :
  Calls Try.prog 89 #[.slice A0 l0.length c0, .string a1] w fun e w' => e = .returned (.tuple #[.int .i64 r1, .int .i64 r2]) ∧ Drawn0 w w' := by
 have HR0 := am hr0
 have HC0 := am hc0
 clear hr0 hc0
 have H : (spec_l04Free.l0 k l0 a1 0 0) = some (r1, r2) := h
 clear h
 have H' := am H
 clear H
 go_enter Try.func89, Try.ntmps89
 go_wp2
 go_loopg [6, 7] k (fun kq v6 v7 w' => ∃ (x6_1 : Int) (x7_1 : Int), v6 = .int .i64 x6_1 ∧ v7 = .int .i64 x7_1 ∧ Aside0 (spec_l04Free.l0 kq l0 a1 x6_1 x7_1 = some (r1, r2)) ∧ Aside0 (kq ≤ k) ∧ Drawn0 w w')
 case atStart => exact ⟨(0), (0), (by first | rfl | (simp; done) | (simp [*]; done)), (xQ), H', ⟨Nat.le_refl _⟩, by repeat (first | exact Drawn0.refl _ | apply Drawn0.step)⟩
 case round =>
  clear H'
  try clear p2
  obtain ⟨x6_1, x7_1, rfl, rfl, HA, HK1, ⟨m1, rfl⟩⟩ := hrel
  cases gk with
  | zero => exact absurd HA.out (by simp [spec_l04Free.l0])
  | succ k1 =>
   have H := HA.out
   clear HA
   simp only [spec_l04Free.l0] at H
   by_cases c3 : x7_1 < (l0.length : Int)
   ·rw [if_pos c3] at H
    have c3b0 : decide (x7_1 < (l0.length : Int)) = true := decide_eq_true c3
    clear c3
    by_cases c4 : 0 ≤ x7_1
    ·rw [if_pos c4] at H
     have c4b0 : decide (0 ≤ x7_1) = true := decide_eq_true c4
     clear c4
     by_cases c5 : ((rd_T57 l0 x7_1).f0).toList = ([] : List UInt8)
     ·rw [if_pos c5] at H
      have c5b0 : (((rd_T57 l0 x7_1).f0).toList == ([] : List UInt8)) = true := beq_iff_eq.mpr c5
      have c5b1 : (((rd_T57 l0 x7_1).f0).toList != ([] : List UInt8)) = false := bne_eq_false_iff_eq.mpr c5
      clear c5
      by_cases c6 : ((rd_T57 l0 x7_1).f1) = (-1)
      ·rw [if_pos c6] at H
       have c6b0 : (((rd_T57 l0 x7_1).f1) == (-1)) = true := beq_iff_eq.mpr c6
       have c6b1 : (((rd_T57 l0 x7_1).f1) != (-1)) = false := bne_eq_false_iff_eq.mpr c6
       clear c6
       have H' := am H
       clear H
       have p214 : 0 ≤ (x7_1 : Int) := of_decide_eq_true (by assumption)
       have q214 : x7_1 < (l0.length : Int) := of_decide_eq_true (by assumption)
       obtain ⟨ad214, e214, hx214_0, hx214_1⟩ := at_T57 HR0.out x7_1 p214 q214
       cases e214
       replace p214 := eq_true p214
       replace q214 := eq_true q214
       have p215 : 0 ≤ (x7_1 : Int) := of_decide_eq_true (by assumption)
       have q215 : x7_1 < (l0.length : Int) := of_decide_eq_true (by assumption)
       obtain ⟨ad215, e215, hx215_0, hx215_1⟩ := at_T57 HR0.out x7_1 p215 q215
       obtain rfl : ad214 = ad215 := (by injection e215)
       replace p215 := eq_true p215
       replace q215 := eq_true q215
       go_wp2
       go_roundg k1
       case measure => have := HK1.out; omega
       case rel => exact ⟨(wrap64 (x6_1 + 1)), (wrap64 (x7_1 + 1)), (by first | rfl | (simp; done) | (simp [*]; done)), (xQ), H', ⟨by have := HK1.out; omega⟩, by repeat (first | exact Drawn0.refl _ | apply Drawn0.step)⟩
      ·rw [if_neg c6] at H
       have c6b0 : (((rd_T57 l0 x7_1).f1) == (-1)) = false := beq_eq_false_iff_ne.mpr c6
       have c6b1 : (((rd_T57 l0 x7_1).f1) != (-1)) = true := bne_iff_ne.mpr c6
       have H' := am H
       clear H
       have p214 : 0 ≤ (x7_1 : Int) := of_decide_eq_true (by assumption)
       have q214 : x7_1 < (l0.length : Int) := of_decide_eq_true (by assumption)
       obtain ⟨ad214, e214, hx214_0, hx214_1⟩ := at_T57 HR0.out x7_1 p214 q214
       cases e214
       replace p214 := eq_true p214
       replace q214 := eq_true q214
       have p215 : 0 ≤ (x7_1 : Int) := of_decide_eq_true (by assumption)
       have q215 : x7_1 < (l0.length : Int) := of_decide_eq_true (by assumption)
       obtain ⟨ad215, e215, hx215_0, hx215_1⟩ := at_T57 HR0.out x7_1 p215 q215
       obtain rfl : ad214 = ad215 := (by injection e215)
       replace p215 := eq_true p215
       replace q215 := eq_true q215
       go_wp2
       go_roundg k1
       case measure => have := HK1.out; omega
       case rel => exact ⟨(x6_1), (wrap64 (x7_1 + 1)), (by first | rfl | (simp; done) | (simp [*]; done)), (xQ), H', ⟨by have := HK1.out; omega⟩, by repeat (first | exact Drawn0.refl _ | apply Drawn0.step)⟩
     ·rw [if_neg c5] at H
      have c5b0 : (((rd_T57 l0 x7_1).f0).toList == ([] : List UInt8)) = false := beq_eq_false_iff_ne.mpr c5
      have c5b1 : (((rd_T57 l0 x7_1).f0).toList != ([] : List UInt8)) = true := bne_iff_ne.mpr c5
      have H' := am H
      clear H
      have p214 : 0 ≤ (x7_1 : Int) := of_decide_eq_true (by assumption)
      have q214 : x7_1 < (l0.length : Int) := of_decide_eq_true (by assumption)
      obtain ⟨ad214, e214, hx214_0, hx214_1⟩ := at_T57 HR0.out x7_1 p214 q214
      cases e214
      replace p214 := eq_true p214
      replace q214 := eq_true q214
      go_wp2
      go_roundg k1
      case measure => have := HK1.out; omega
      case rel => exact ⟨(x6_1), (wrap64 (x7_1 + 1)), (by first | rfl | (simp; done) | (simp [*]; done)), (xQ), H', ⟨by have := HK1.out; omega⟩, by repeat (first | exact Drawn0.refl _ | apply Drawn0.step)⟩
    ·rw [if_neg c4] at H
     exact absurd H (by simp)
   ·rw [if_neg c3] at H
    have c3b0 : decide (x7_1 < (l0.length : Int)) = false := decide_eq_false c3
    clear c3
    replace H := Option.bind_eq_some_iff.mp H
    obtain ⟨t216, A70, H⟩ := H
    replace H : (if (l0.length : Int) = 0 then (none) else (spec_l04Free.l1 k1 l0 x6_1 (l0.length : Int) (Int.tmod t216 (l0.length : Int)) 0)) = some (r1, r2) := H
    have A7 := am A70
    clear A70
    by_cases c8 : (l0.length : Int) = 0
    ·rw [if_pos c8] at H
     exact absurd H (by simp)
    ·rw [if_neg c8] at H
     have c8b0 : ((l0.length : Int) == 0) = false := beq_eq_false_iff_ne.mpr c8
     have c8b1 : ((l0.length : Int) != 0) = true := bne_iff_ne.mpr c8
     have c8b2 : ¬ (l0 = []) := fun h_ => c8 (by rw [h_]; rfl)
     have H' := am H
     clear H
     go_wp2_with (first | ((with_reducible refine gate_callee (f := 85) rfl ?_); refine xG (some 36) 85 Try.func85 #[.string a1, .int .i64 0] (h := ?_); (with_reducible refine (spec_HashOf.calls k1 a1 0 t216 _ A7.out).mono ?_); rintro e w' ⟨rfl, ⟨nd, rfl⟩⟩; refine ⟨_, rfl, ?_⟩))
     go_loopg [10] k1 (fun kq v10 w' => ∃ (x10_2 : Int), v10 = .int .i64 x10_2 ∧ Aside0 (spec_l04Free.l1 kq l0 x6_1 (l0.length : Int) (Int.tmod t216 (l0.length : Int)) x10_2 = some (r1, r2)) ∧ Aside0 (kq ≤ k1) ∧ Drawn0 w w')
     case atStart => exact ⟨(0), (xQ), H', ⟨Nat.le_refl _⟩, by repeat (first | exact Drawn0.refl _ | apply Drawn0.step)⟩
     case round =>
      clear H'
      try clear p2
      try clear q2
      try clear hx2
      try clear c3
      try clear c3b0
      try clear c4
      try clear c4b0
      try clear c5
      try clear c5b0
      try clear c5b1
      try clear c6
      try clear c6b0
      try clear c6b1
      try clear p6
      try clear c8
      try clear c8b0
      try clear c8b1
      try clear c8b2
      try clear hx214_0
      try clear hx214_1
      try clear hx215_0
      try clear hx215_1
      try clear p2
      try clear p214
      try clear p215
      try clear q214
      try clear q215
      obtain ⟨x10_2, rfl, HA, HK2, ⟨m2, rfl⟩⟩ := hrel
      cases gk with
      | zero => exact absurd HA.out (by simp [spec_l04Free.l1])
      | succ k2 =>
       have H := HA.out
       clear HA
       simp only [spec_l04Free.l1] at H
       by_cases c9 : x10_2 < (l0.length : Int)
       ·rw [if_pos c9] at H
        have c9b0 : decide (x10_2 < (l0.length : Int)) = true := decide_eq_true c9
        clear c9
        by_cases c10 : (l0.length : Int) = 0
        ·rw [if_pos c10] at H
         exact absurd H (by simp)
        ·rw [if_neg c10] at H
         have c10b0 : ((l0.length : Int) == 0) = false := beq_eq_false_iff_ne.mpr c10
         have c10b1 : ((l0.length : Int) != 0) = true := bne_iff_ne.mpr c10
         have c10b2 : ¬ (l0 = []) := fun h_ => c10 (by rw [h_]; rfl)
         obtain ⟨ji11, hji11⟩ : ∃ j_ : Int, (Int.tmod (wrap64 ((Int.tmod t216 (l0.length : Int)) + x10_2)) (l0.length : Int)) = j_ := ⟨_, rfl⟩
         replace H : (if 0 ≤ (ji11) then (if (ji11) < (l0.length : Int) then (if ((rd_T57 l0 (ji11)).f0).toList = ([] : List UInt8) then (some (ji11, x6_1)) else (spec_l04Free.l1 k2 l0 x6_1 (l0.length : Int) (Int.tmod t216 (l0.length : Int)) (wrap64 (x10_2 + 1)))) else (none)) else (none)) = some (r1, r2) := by first | (rw [hji11] at H; exact H) | (simp only [hji11] at H ⊢; exact H)
         by_cases c12 : 0 ≤ (ji11)
         ·rw [if_pos c12] at H
          have c12b0 : decide (0 ≤ (ji11)) = true := decide_eq_true c12
          clear c12
          by_cases c13 : (ji11) < (l0.length : Int)
          ·rw [if_pos c13] at H
           have c13b0 : decide ((ji11) < (l0.length : Int)) = true := decide_eq_true c13
           clear c13
           by_cases c14 : ((rd_T57 l0 (ji11)).f0).toList = ([] : List UInt8)
           ·rw [if_pos c14] at H
            have c14b0 : (((rd_T57 l0 (ji11)).f0).toList == ([] : List UInt8)) = true := beq_iff_eq.mpr c14
            have c14b1 : (((rd_T57 l0 (ji11)).f0).toList != ([] : List UInt8)) = false := bne_eq_false_iff_eq.mpr c14
            clear c14
            simp only [Option.some.injEq, Prod.mk.injEq] at H
            obtain ⟨rfl, rfl⟩ := H
            have p217 : 0 ≤ ((ji11) : Int) := of_decide_eq_true (by assumption)
            have q217 : (ji11) < (l0.length : Int) := of_decide_eq_true (by assumption)
            obtain ⟨ad217, e217, hx217_0, hx217_1⟩ := at_T57 HR0.out (ji11) p217 q217
            cases e217
            replace p217 := eq_true p217
            replace q217 := eq_true q217
            go_wp2
            go_ret2
            exact ⟨by first | rfl | (simp; done) | (simp only [← hji11] <;> (first | rfl | simp)) | (simp [*]; done), by repeat (first | exact Drawn0.refl _ | apply Drawn0.step)⟩
           ·rw [if_neg c14] at H
            have c14b0 : (((rd_T57 l0 (ji11)).f0).toList == ([] : List UInt8)) = false := beq_eq_false_iff_ne.mpr c14
            have c14b1 : (((rd_T57 l0 (ji11)).f0).toList != ([] : List UInt8)) = true := bne_iff_ne.mpr c14
            have H' := am H
            clear H
            have p217 : 0 ≤ ((ji11) : Int) := of_decide_eq_true (by assumption)
            have q217 : (ji11) < (l0.length : Int) := of_decide_eq_true (by assumption)
            obtain ⟨ad217, e217, hx217_0, hx217_1⟩ := at_T57 HR0.out (ji11) p217 q217
            cases e217
            replace p217 := eq_true p217
            replace q217 := eq_true q217
            go_wp2
            go_roundg k2
            case measure => have := HK1.out; have := HK2.out; omega
            case rel => exact ⟨(wrap64 (x10_2 + 1)), (xQ), H', ⟨by have := HK1.out; have := HK2.out; omega⟩, by repeat (first | exact Drawn0.refl _ | apply Drawn0.step)⟩
          ·rw [if_neg c13] at H
           exact absurd H (by simp)
         ·rw [if_neg c12] at H
          exact absurd H (by simp)
       ·rw [if_neg c9] at H
        have c9b0 : decide (x10_2 < (l0.length : Int)) = false := decide_eq_false c9
        clear c9
        simp only [Option.some.injEq, Prod.mk.injEq] at H
        obtain ⟨rfl, rfl⟩ := H
        go_wp2
        go_ret2
        exact ⟨by first | rfl | (simp; done) | (simp [*]; done), by repeat (first | exact Drawn0.refl _ | apply Drawn0.step)⟩
def spec_l04Put.f (k : Nat) (l0 : List (S57)) (a1 : ByteArray) (a2 : Int) : Option (Bool × (List (S57))) := (spec_l04Free.f k l0 a1).bind fun bt218 => (if bt218.1 < 0 then (some (false, l0)) else (if bt218.2 ≤ 1 then (if 0 ≤ bt218.1 then (if bt218.1 < (l0.length : Int) then (if ((rd_T57 l0 bt218.1).f1) = (-1) then (some (false, l0)) else (some (true, (l0.set (bt218.1 : Int).toNat (⟨a1, a2⟩ : S57))))) else (none)) else (none)) else (if 0 ≤ bt218.1 then (if bt218.1 < (l0.length : Int) then (some (true, (l0.set (bt218.1 : Int).toNat (⟨a1, a2⟩ : S57)))) else (none)) else (none))))
set_option maxHeartbeats 8000000 in
set_option maxRecDepth 100000 in
theorem spec_l04Put.calls (k : Nat) (P0_ : Nat → Prop) (u9000_ : Value) (l0 : List (S57)) (a1 : ByteArray) (a2 : Int) (r1 : Bool) (r2 : List (S57)) (w0 w : World) (hB : Below w0.heap.size w0 w) (ho0 : Kd.R k57 57 w w0.heap.size P0_ u9000_ l0) (h : spec_l04Put.f k l0 a1 a2 = some (r1, r2)) :
  Calls Try.prog 73 #[u9000_, .string a1, .int .i64 a2] w fun e w' => e = .returned (.bool r1) ∧ Kd.R k57 57 w' w0.heap.size (fun k_ => (P0_ k_ ∨ w.heap.size ≤ k_)) u9000_ r2 ∧ Below w0.heap.size w0 w' ∧ Kept w w' (fun k_ => P0_ k_) := by
 have hu57 := Try.underlying57
 have HO0 := am (show Kd.R k57 57 w w0.heap.size (fun k_ => (P0_ k_ ∨ w.heap.size ≤ k_)) u9000_ l0 from Kd.R_mono ho0 (fun k_ hk => (.inl hk)))
 have HK := am (Kept.refl w (fun k_ => P0_ k_))
 have HW0 := am hB.size
 have HB := am hB
 clear hB
 have H : ((spec_l04Free.f k l0 a1).bind fun bt218 => (if bt218.1 < 0 then (some (false, l0)) else (if bt218.2 ≤ 1 then (if 0 ≤ bt218.1 then (if bt218.1 < (l0.length : Int) then (if ((rd_T57 l0 bt218.1).f1) = (-1) then (some (false, l0)) else (some (true, (l0.set (bt218.1 : Int).toNat (⟨a1, a2⟩ : S57))))) else (none)) else (none)) else (if 0 ≤ bt218.1 then (if bt218.1 < (l0.length : Int) then (some (true, (l0.set (bt218.1 : Int).toNat (⟨a1, a2⟩ : S57)))) else (none)) else (none))))) = some (r1, r2) := h
 clear h
 replace H := Option.bind_eq_some_iff.mp H
 obtain ⟨⟨t218, t219⟩, A40, H⟩ := H
 replace H : (if t218 < 0 then (some (false, l0)) else (if t219 ≤ 1 then (if 0 ≤ t218 then (if t218 < (l0.length : Int) then (if ((rd_T57 l0 t218).f1) = (-1) then (some (false, l0)) else (some (true, (l0.set (t218 : Int).toNat (⟨a1, a2⟩ : S57))))) else (none)) else (none)) else (if 0 ≤ t218 then (if t218 < (l0.length : Int) then (some (true, (l0.set (t218 : Int).toNat (⟨a1, a2⟩ : S57)))) else (none)) else (none)))) = some (r1, r2) := H
 have A4 := am A40
 clear A40
 by_cases c5 : t218 < 0
 ·rw [if_pos c5] at H
  have c5b0 : decide (t218 < 0) = true := decide_eq_true c5
  clear c5
  simp only [Option.some.injEq, Prod.mk.injEq] at H
  obtain ⟨rfl, rfl⟩ := H
  obtain ⟨Ao6, co6, eo6⟩ := Kd.R_slice HO0.out
  subst eo6
  go_enter Try.func73, Try.ntmps73
  go_wp2_with (first | ((with_reducible refine gate_callee (f := 89) rfl ?_); refine xG (some 12) 89 Try.func89 #[.slice Ao6 l0.length co6, .string a1] (h := ?_); (with_reducible refine (spec_l04Free.calls k _ _ l0 a1 t218 t219 _ ?side1 ?side2 A4.out).mono ?_); (case side1 => exact xC ((Kd.R_reads' HO0.out).2.2)); (case side2 => exact (Kd.R_reads' HO0.out).2.1); rintro e w' ⟨rfl, ⟨nd, rfl⟩⟩; refine ⟨_, rfl, ?_⟩))
  go_ret
  exact ⟨xV, xR HO0.out, xW HB.out, by repeat (first | (with_reducible first | exact HK.out | apply Kept.alloc | apply Kept.drewN | apply Kept.drew) | exact HK.out)⟩
 ·rw [if_neg c5] at H
  have c5b0 : decide (t218 < 0) = false := decide_eq_false c5
  clear c5
  by_cases c7 : t219 ≤ 1
  ·rw [if_pos c7] at H
   have c7b0 : decide (t219 ≤ 1) = true := decide_eq_true c7
   clear c7
   by_cases c8 : 0 ≤ t218
   ·rw [if_pos c8] at H
    have c8b0 : decide (0 ≤ t218) = true := decide_eq_true c8
    clear c8
    by_cases c9 : t218 < (l0.length : Int)
    ·rw [if_pos c9] at H
     have c9b0 : decide (t218 < (l0.length : Int)) = true := decide_eq_true c9
     clear c9
     by_cases c10 : ((rd_T57 l0 t218).f1) = (-1)
     ·rw [if_pos c10] at H
      have c10b0 : (((rd_T57 l0 t218).f1) == (-1)) = true := beq_iff_eq.mpr c10
      have c10b1 : (((rd_T57 l0 t218).f1) != (-1)) = false := bne_eq_false_iff_eq.mpr c10
      clear c10
      simp only [Option.some.injEq, Prod.mk.injEq] at H
      obtain ⟨rfl, rfl⟩ := H
      obtain ⟨Ao11, co11, eo11⟩ := Kd.R_slice HO0.out
      subst eo11
      go_enter Try.func73, Try.ntmps73
      go_wp2_with (first | ((with_reducible refine gate_callee (f := 89) rfl ?_); refine xG (some 12) 89 Try.func89 #[.slice Ao11 l0.length co11, .string a1] (h := ?_); (with_reducible refine (spec_l04Free.calls k _ _ l0 a1 t218 t219 _ ?side1 ?side2 A4.out).mono ?_); (case side1 => exact xC ((Kd.R_reads' HO0.out).2.2)); (case side2 => exact (Kd.R_reads' HO0.out).2.1); rintro e w' ⟨rfl, ⟨nd, rfl⟩⟩; refine ⟨_, rfl, ?_⟩; have p220 : 0 ≤ (t218 : Int) := of_decide_eq_true (by assumption); have q220 : t218 < (l0.length : Int) := of_decide_eq_true (by assumption); obtain ⟨ad220, e220, hx220_0, hx220_1⟩ := at_T57 (Kd.R_reads' HO0.out).2.2 t218 p220 q220; cases e220; replace p220 := eq_true p220; replace q220 := eq_true q220))
      go_ret
      exact ⟨xV, xR HO0.out, xW HB.out, by repeat (first | (with_reducible first | exact HK.out | apply Kept.alloc | apply Kept.drewN | apply Kept.drew) | exact HK.out)⟩
     ·rw [if_neg c10] at H
      have c10b0 : (((rd_T57 l0 t218).f1) == (-1)) = false := beq_eq_false_iff_ne.mpr c10
      have c10b1 : (((rd_T57 l0 t218).f1) != (-1)) = true := bne_iff_ne.mpr c10
      obtain ⟨y221, hy221⟩ : ∃ y_ : List (S57), y_ = (l0.set (t218 : Int).toNat (⟨a1, a2⟩ : S57)) := ⟨_, rfl⟩
      replace H : (some (true, y221)) = some (r1, r2) := by first | (rw [hy221]; with_reducible exact H) | (have H2_ := (Option.bind_some _ _).symm.trans H; rw [hy221]; with_reducible exact H2_) | (have H2_ := (Option.bind_some _ _).symm.trans H; with_reducible exact H2_) | with_reducible exact H | (rw [hy221]; exact H) | exact H
      have Ny221 := am hy221
      clear hy221
      simp only [Option.some.injEq, Prod.mk.injEq] at H
      obtain ⟨rfl, rfl⟩ := H
      obtain ⟨Ao13, co13, eo13⟩ := Kd.R_slice HO0.out
      subst eo13
      go_enter Try.func73, Try.ntmps73
      go_wp2_with (first | ((with_reducible refine gate_callee (f := 89) rfl ?_); refine xG (some 12) 89 Try.func89 #[.slice Ao13 l0.length co13, .string a1] (h := ?_); (with_reducible refine (spec_l04Free.calls k _ _ l0 a1 t218 t219 _ ?side1 ?side2 A4.out).mono ?_); (case side1 => exact xC ((Kd.R_reads' HO0.out).2.2)); (case side2 => exact (Kd.R_reads' HO0.out).2.1); rintro e w' ⟨rfl, ⟨nd, rfl⟩⟩; refine ⟨_, rfl, ?_⟩; (try (rw [drewN_self w]; generalize hq_ : World.drewN w _ = wq_; have n0_ : Aside0 (Kd.R k57 57 wq_ w0.heap.size (fun k_ => (P0_ k_ ∨ w.heap.size ≤ k_)) (.slice Ao13 l0.length co13) l0) := ⟨by rw [← hq_]; exact (xR HO0.out)⟩; have n1_ : Aside0 (Kept w wq_ (fun k_ => P0_ k_)) := ⟨by rw [← hq_]; exact (by repeat (first | (with_reducible first | exact HK.out | apply Kept.alloc | apply Kept.drewN | apply Kept.drew) | exact HK.out))⟩; have n2_ : Aside0 (Below w0.heap.size w0 wq_) := ⟨by rw [← hq_]; exact (xW HB.out)⟩; clear HO0 HK HB hq_; have HO0 := n0_; have HK := n1_; have HB := n2_; clear n0_ n1_ n2_)); have p220 : 0 ≤ (t218 : Int) := of_decide_eq_true (by assumption); have q220 : t218 < (l0.length : Int) := of_decide_eq_true (by assumption); obtain ⟨ad220, e220, hx220_0, hx220_1⟩ := at_T57 (Kd.R_reads' HO0.out).2.2 t218 p220 q220; cases e220; replace p220 := eq_true p220; replace q220 := eq_true q220; have p12 : 0 ≤ (t218 : Int) := of_decide_eq_true (by assumption); have q12 : (t218 : Int) < ((l0.length : Int) : Int) := of_decide_eq_true (by assumption); obtain ⟨go12, co12, eo12, gb12, gl12, cl12, HG12⟩ := Kd.R_form HO0.out (by omega); (first | cases eo12 | (injection eo12 with ea_ en_ ec_; (first | subst ea_ | (injection ea_ with ea_; subst ea_)); subst ec_; clear en_)); have GB12 := am gb12; have GG12 := am HG12; clear gb12 gl12 HG12; have HMgo12 := am (show (P0_ go12 ∨ w.heap.size ≤ go12) from (HO0.out.1 _ rfl)); (first | simp only [add_plain] at hx220_0 | skip); (first | simp only [add_plain] at hx220_1 | skip); obtain ⟨ce12, hcl12, hM12, hcc12, hfr12⟩ := Kd.R_elem HO0.out z57 (t218 : Int) p12 q12; obtain rfl := k57_openM hM12; have hx12_0 : wq_.cell? ⟨go12, (t218 : Int).toNat * 2, none⟩ = some (.string ((rd_T57 l0 t218).f0)) := hcc12 0 _ rfl; have hx12_1 : wq_.cell? ⟨go12, (t218 : Int).toNat * 2 + 1, none⟩ = some (.int .i64 ((rd_T57 l0 t218).f1)) := hcc12 1 _ rfl; have hf12_0 : wq_.frozen? ⟨go12, (t218 : Int).toNat * 2, none⟩ = false := hfr12 0; have hf12_1 : wq_.frozen? ⟨go12, (t218 : Int).toNat * 2 + 1, none⟩ = false := hfr12 1; clear hcl12 hcc12 hfr12 hM12; replace p12 := eq_true p12; replace q12 := eq_true q12; have HX14 := am (show Kd.R k57 57 wq_ w0.heap.size (fun k_ => (P0_ k_ ∨ w.heap.size ≤ k_)) (.slice (some ⟨go12, 0, none⟩) l0.length co13) l0 from (xR HO0.out)); obtain ⟨ce14, hcl14, hM14, hcc14, hfr14⟩ := Kd.R_elem HX14.out z57 (t218 : Int) (of_decide_eq_true (by assumption)) (by have h_ : (t218 : Int) < ((l0.length : Int) : Int) := of_decide_eq_true (by assumption); first | exact h_ | (have e_ := (Kd.R_reads' HO0.out).1; omega) | simpa using h_); obtain rfl := k57_openM hM14; have HP14 := Kd.R_seg HX14.out (t218 : Int) (of_decide_eq_true (by assumption)) (by have h_ : (t218 : Int) < ((l0.length : Int) : Int) := of_decide_eq_true (by assumption); first | exact h_ | (have e_ := (Kd.R_reads' HO0.out).1; omega) | simpa using h_) (seg := [.string a1, .int .i64 a2]) (j := 0) hcl14 hcc14 (show 2 ≤ 2 from by decide) (x' := (⟨a1, a2⟩ : S57)) (k57_mkM _ _ _ (⟨a1, a2⟩ : S57) ) (fun _ hk => hk); have hx14_0 := hcc14 0 _ rfl; (try simp only [show (k57).sz = 2 from rfl, Nat.mul_one, Nat.add_zero] at hx14_0); have hf14_0 := hfr14 0; (try simp only [show (k57).sz = 2 from rfl, Nat.mul_one, Nat.add_zero] at hf14_0); have hx14_1 := hcc14 1 _ rfl; (try simp only [show (k57).sz = 2 from rfl, Nat.mul_one, Nat.add_zero] at hx14_1); have hf14_1 := hfr14 1; (try simp only [show (k57).sz = 2 from rfl, Nat.mul_one, Nat.add_zero] at hf14_1); clear hcl14 hcc14 hfr14 hM14) | ((with_reducible refine gate_store (t := 57) (p := 34) rfl ?_); refine store_event (t := 57) (p := 34) (v := ?vo_w15) (w1 := ((wq_.setCell ⟨go12, (t218 : Int).toNat * 2, none⟩ (.string a1)).setCell ⟨go12, (t218 : Int).toNat * 2 + 1, none⟩ (.int .i64 a2))) ?hg ?ho ?hn ?hr ?_; (case ho => rfl); (case hg => rfl); (case hn => rfl); (case hr => first | (go_simp; done) | (go_simp; rfl)); intro w15 hw; have hg : wq_.grownBy w15 (some go12) := (by rw [hw]; exact HP14.2); have hp_ : Kd.R k57 57 w15 w0.heap.size (fun k_ => (P0_ k_ ∨ w.heap.size ≤ k_)) (.slice (some ⟨go12, 0, none⟩) l0.length co13) y221 := (by rw [hw, Ny221.out]; exact HP14.1); clear HP14; have n0_ := am (hp_); have n1_ := am ((by rw [hw]; exact below_set (below_set (HB.out) GB12.out) GB12.out : Below w0.heap.size w0 w15)); have n2_ := am (Kept.of_grown (S := (fun k_ => P0_ k_)) hg (by repeat (first | (with_reducible first | exact HK.out | apply Kept.alloc | apply Kept.drewN | apply Kept.drew) | exact HK.out)) (fun k_ e_ => (HO0.out.1 k_ e_))); clear HO0; clear HB; clear HK; have HO0 := n0_; have HB := n1_; have HK := n2_; clear n0_ n1_ n2_; clear hg hw hp_))
      go_ret
      exact ⟨xV, xR HO0.out, xW HB.out, by repeat (first | (with_reducible first | exact HK.out | apply Kept.alloc | apply Kept.drewN | apply Kept.drew) | exact HK.out)⟩
    ·rw [if_neg c9] at H
     exact absurd H (by simp)
   ·rw [if_neg c8] at H
    exact absurd H (by simp)
  ·rw [if_neg c7] at H
   have c7b0 : decide (t219 ≤ 1) = false := decide_eq_false c7
   clear c7
   by_cases c16 : 0 ≤ t218
   ·rw [if_pos c16] at H
    have c16b0 : decide (0 ≤ t218) = true := decide_eq_true c16
    clear c16
    by_cases c17 : t218 < (l0.length : Int)
    ·rw [if_pos c17] at H
     have c17b0 : decide (t218 < (l0.length : Int)) = true := decide_eq_true c17
     clear c17
     obtain ⟨y222, hy222⟩ : ∃ y_ : List (S57), y_ = (l0.set (t218 : Int).toNat (⟨a1, a2⟩ : S57)) := ⟨_, rfl⟩
     replace H : (some (true, y222)) = some (r1, r2) := by first | (rw [hy222]; with_reducible exact H) | (have H2_ := (Option.bind_some _ _).symm.trans H; rw [hy222]; with_reducible exact H2_) | (have H2_ := (Option.bind_some _ _).symm.trans H; with_reducible exact H2_) | with_reducible exact H | (rw [hy222]; exact H) | exact H
     have Ny222 := am hy222
     clear hy222
     simp only [Option.some.injEq, Prod.mk.injEq] at H
     obtain ⟨rfl, rfl⟩ := H
     obtain ⟨Ao19, co19, eo19⟩ := Kd.R_slice HO0.out
     subst eo19
     go_enter Try.func73, Try.ntmps73
     go_wp2_with (first | ((with_reducible refine gate_callee (f := 89) rfl ?_); refine xG (some 12) 89 Try.func89 #[.slice Ao19 l0.length co19, .string a1] (h := ?_); (with_reducible refine (spec_l04Free.calls k _ _ l0 a1 t218 t219 _ ?side1 ?side2 A4.out).mono ?_); (case side1 => exact xC ((Kd.R_reads' HO0.out).2.2)); (case side2 => exact (Kd.R_reads' HO0.out).2.1); rintro e w' ⟨rfl, ⟨nd, rfl⟩⟩; refine ⟨_, rfl, ?_⟩; (try (rw [drewN_self w]; generalize hq_ : World.drewN w _ = wq_; have n0_ : Aside0 (Kd.R k57 57 wq_ w0.heap.size (fun k_ => (P0_ k_ ∨ w.heap.size ≤ k_)) (.slice Ao19 l0.length co19) l0) := ⟨by rw [← hq_]; exact (xR HO0.out)⟩; have n1_ : Aside0 (Kept w wq_ (fun k_ => P0_ k_)) := ⟨by rw [← hq_]; exact (by repeat (first | (with_reducible first | exact HK.out | apply Kept.alloc | apply Kept.drewN | apply Kept.drew) | exact HK.out))⟩; have n2_ : Aside0 (Below w0.heap.size w0 wq_) := ⟨by rw [← hq_]; exact (xW HB.out)⟩; clear HO0 HK HB hq_; have HO0 := n0_; have HK := n1_; have HB := n2_; clear n0_ n1_ n2_)); have p18 : 0 ≤ (t218 : Int) := of_decide_eq_true (by assumption); have q18 : (t218 : Int) < ((l0.length : Int) : Int) := of_decide_eq_true (by assumption); obtain ⟨go18, co18, eo18, gb18, gl18, cl18, HG18⟩ := Kd.R_form HO0.out (by omega); (first | cases eo18 | (injection eo18 with ea_ en_ ec_; (first | subst ea_ | (injection ea_ with ea_; subst ea_)); subst ec_; clear en_)); have GB18 := am gb18; have GG18 := am HG18; clear gb18 gl18 HG18; have HMgo18 := am (show (P0_ go18 ∨ w.heap.size ≤ go18) from (HO0.out.1 _ rfl)); obtain ⟨ce18, hcl18, hM18, hcc18, hfr18⟩ := Kd.R_elem HO0.out z57 (t218 : Int) p18 q18; obtain rfl := k57_openM hM18; have hx18_0 : wq_.cell? ⟨go18, (t218 : Int).toNat * 2, none⟩ = some (.string ((rd_T57 l0 t218).f0)) := hcc18 0 _ rfl; have hx18_1 : wq_.cell? ⟨go18, (t218 : Int).toNat * 2 + 1, none⟩ = some (.int .i64 ((rd_T57 l0 t218).f1)) := hcc18 1 _ rfl; have hf18_0 : wq_.frozen? ⟨go18, (t218 : Int).toNat * 2, none⟩ = false := hfr18 0; have hf18_1 : wq_.frozen? ⟨go18, (t218 : Int).toNat * 2 + 1, none⟩ = false := hfr18 1; clear hcl18 hcc18 hfr18 hM18; replace p18 := eq_true p18; replace q18 := eq_true q18; have HX20 := am (show Kd.R k57 57 wq_ w0.heap.size (fun k_ => (P0_ k_ ∨ w.heap.size ≤ k_)) (.slice (some ⟨go18, 0, none⟩) l0.length co19) l0 from (xR HO0.out)); obtain ⟨ce20, hcl20, hM20, hcc20, hfr20⟩ := Kd.R_elem HX20.out z57 (t218 : Int) (of_decide_eq_true (by assumption)) (by have h_ : (t218 : Int) < ((l0.length : Int) : Int) := of_decide_eq_true (by assumption); first | exact h_ | (have e_ := (Kd.R_reads' HO0.out).1; omega) | simpa using h_); obtain rfl := k57_openM hM20; have HP20 := Kd.R_seg HX20.out (t218 : Int) (of_decide_eq_true (by assumption)) (by have h_ : (t218 : Int) < ((l0.length : Int) : Int) := of_decide_eq_true (by assumption); first | exact h_ | (have e_ := (Kd.R_reads' HO0.out).1; omega) | simpa using h_) (seg := [.string a1, .int .i64 a2]) (j := 0) hcl20 hcc20 (show 2 ≤ 2 from by decide) (x' := (⟨a1, a2⟩ : S57)) (k57_mkM _ _ _ (⟨a1, a2⟩ : S57) ) (fun _ hk => hk); have hx20_0 := hcc20 0 _ rfl; (try simp only [show (k57).sz = 2 from rfl, Nat.mul_one, Nat.add_zero] at hx20_0); have hf20_0 := hfr20 0; (try simp only [show (k57).sz = 2 from rfl, Nat.mul_one, Nat.add_zero] at hf20_0); have hx20_1 := hcc20 1 _ rfl; (try simp only [show (k57).sz = 2 from rfl, Nat.mul_one, Nat.add_zero] at hx20_1); have hf20_1 := hfr20 1; (try simp only [show (k57).sz = 2 from rfl, Nat.mul_one, Nat.add_zero] at hf20_1); clear hcl20 hcc20 hfr20 hM20) | ((with_reducible refine gate_store (t := 57) (p := 34) rfl ?_); refine store_event (t := 57) (p := 34) (v := ?vo_w21) (w1 := ((wq_.setCell ⟨go18, (t218 : Int).toNat * 2, none⟩ (.string a1)).setCell ⟨go18, (t218 : Int).toNat * 2 + 1, none⟩ (.int .i64 a2))) ?hg ?ho ?hn ?hr ?_; (case ho => rfl); (case hg => rfl); (case hn => rfl); (case hr => first | (go_simp; done) | (go_simp; rfl)); intro w21 hw; have hg : wq_.grownBy w21 (some go18) := (by rw [hw]; exact HP20.2); have hp_ : Kd.R k57 57 w21 w0.heap.size (fun k_ => (P0_ k_ ∨ w.heap.size ≤ k_)) (.slice (some ⟨go18, 0, none⟩) l0.length co19) y222 := (by rw [hw, Ny222.out]; exact HP20.1); clear HP20; have n0_ := am (hp_); have n1_ := am ((by rw [hw]; exact below_set (below_set (HB.out) GB18.out) GB18.out : Below w0.heap.size w0 w21)); have n2_ := am (Kept.of_grown (S := (fun k_ => P0_ k_)) hg (by repeat (first | (with_reducible first | exact HK.out | apply Kept.alloc | apply Kept.drewN | apply Kept.drew) | exact HK.out)) (fun k_ e_ => (HO0.out.1 k_ e_))); clear HO0; clear HB; clear HK; have HO0 := n0_; have HB := n1_; have HK := n2_; clear n0_ n1_ n2_; clear hg hw hp_))
     go_ret
     exact ⟨xV, xR HO0.out, xW HB.out, by repeat (first | (with_reducible first | exact HK.out | apply Kept.alloc | apply Kept.drewN | apply Kept.drew) | exact HK.out)⟩
    ·rw [if_neg c17] at H
     exact absurd H (by simp)
   ·rw [if_neg c16] at H
    exact absurd H (by simp)
end Go.Proofs.Ytmahoekbedgbcaa.HFnExactCleanTable
