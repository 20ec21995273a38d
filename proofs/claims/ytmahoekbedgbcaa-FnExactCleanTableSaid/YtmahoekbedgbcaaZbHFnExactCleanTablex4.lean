/- What the row of the law needs of the printed and the plain texts. -/
import Derived.Test.YtmahoekbedgbcaaZbHX
import Derived.Test.YtmahoekbedgbcaaZbHFnExactCleanTablex0
namespace Go.Proofs.Ytmahoekbedgbcaa.HFnExactCleanTable
open Go.RowKit Go.Proofs.YtmahoekbedgbcaaW.PrintWords Go.Proofs.YtmahoekbedgbcaaW.PrintLast Go.Proofs.YtmahoekbedgbcaaW.PrintMore
attribute [local go_sem] max2_int min2_int max_two min_two max_three min_three max_four min_four
set_option linter.unusedVariables false
set_option linter.unusedSimpArgs false
def spec_l04Xor.l0 : Nat → Int → Int → Int → Int → Int → Option (Int)
 | 0, _, _, _, _, _ => none
 | k + 1, x0, x1, x5, x6, x7 => if x7 < 32 then (if (Int.tmod x0 2) = (Int.tmod x1 2) then (spec_l04Xor.l0 k (wrap64 (Int.tdiv x0 2)) (wrap64 (Int.tdiv x1 2)) x5 (wrap64 (2 * x6)) (wrap64 (x7 + 1))) else (spec_l04Xor.l0 k (wrap64 (Int.tdiv x0 2)) (wrap64 (Int.tdiv x1 2)) (wrap64 (x5 + x6)) (wrap64 (2 * x6)) (wrap64 (x7 + 1)))) else (some x5)
def spec_l04Xor.f (k : Nat) (a0 : Int) (a1 : Int) : Option (Int) := spec_l04Xor.l0 k a0 a1 0 1 0
set_option maxHeartbeats 8000000 in
set_option maxRecDepth 100000 in
theorem spec_l04Xor.calls (k : Nat) (a0 : Int) (a1 : Int) (r : Int) (w : World) (h : spec_l04Xor.f k a0 a1 = some r) :
  Calls Try.prog 94 #[.int .i64 a0, .int .i64 a1] w fun e w' => e = .returned (.int .i64 r) ∧ Drawn0 w w' := by
 have H : (spec_l04Xor.l0 k a0 a1 0 1 0) = some r := h
 clear h
 have H' := am H
 clear H
 go_enter Try.func94, Try.ntmps94
 go_wp2
 go_loopg [0, 1, 5, 6, 7] k (fun kq v0 v1 v5 v6 v7 w' => ∃ (x0_1 : Int) (x1_1 : Int) (x5_1 : Int) (x6_1 : Int) (x7_1 : Int), v0 = .int .i64 x0_1 ∧ v1 = .int .i64 x1_1 ∧ v5 = .int .i64 x5_1 ∧ v6 = .int .i64 x6_1 ∧ v7 = .int .i64 x7_1 ∧ Aside0 (spec_l04Xor.l0 kq x0_1 x1_1 x5_1 x6_1 x7_1 = some r) ∧ Aside0 (kq ≤ k) ∧ Drawn0 w w')
 case atStart => exact ⟨(a0), (a1), (0), (1), (0), (by first | rfl | (simp; done) | (simp [*]; done)), (by first | rfl | (simp; done) | (simp [*]; done)), (by first | rfl | (simp; done) | (simp [*]; done)), (by first | rfl | (simp; done) | (simp [*]; done)), (xQ), H', ⟨Nat.le_refl _⟩, by repeat (first | exact Drawn0.refl _ | apply Drawn0.step)⟩
 case round =>
  clear H'
  try clear p2
  obtain ⟨x0_1, x1_1, x5_1, x6_1, x7_1, rfl, rfl, rfl, rfl, rfl, HA, HK1, ⟨m1, rfl⟩⟩ := hrel
  cases gk with
  | zero => exact absurd HA.out (by simp [spec_l04Xor.l0])
  | succ k1 =>
   have H := HA.out
   clear HA
   simp only [spec_l04Xor.l0] at H
   by_cases c3 : x7_1 < 32
   ·rw [if_pos c3] at H
    have c3b0 : decide (x7_1 < 32) = true := decide_eq_true c3
    clear c3
    by_cases c4 : (Int.tmod x0_1 2) = (Int.tmod x1_1 2)
    ·rw [if_pos c4] at H
     have c4b0 : ((Int.tmod x0_1 2) == (Int.tmod x1_1 2)) = true := beq_iff_eq.mpr c4
     have c4b1 : ((Int.tmod x0_1 2) != (Int.tmod x1_1 2)) = false := bne_eq_false_iff_eq.mpr c4
     clear c4
     have H' := am H
     clear H
     go_wp2
     go_roundg k1
     case measure => have := HK1.out; omega
     case rel => exact ⟨(wrap64 (Int.tdiv x0_1 2)), (wrap64 (Int.tdiv x1_1 2)), (x5_1), (wrap64 (2 * x6_1)), (wrap64 (x7_1 + 1)), (by first | rfl | (simp; done) | (simp [*]; done)), (by first | rfl | (simp; done) | (simp [*]; done)), (by first | rfl | (simp; done) | (simp [*]; done)), (by first | rfl | (simp; done) | (simp [*]; done)), (xQ), H', ⟨by have := HK1.out; omega⟩, by repeat (first | exact Drawn0.refl _ | apply Drawn0.step)⟩
    ·rw [if_neg c4] at H
     have c4b0 : ((Int.tmod x0_1 2) == (Int.tmod x1_1 2)) = false := beq_eq_false_iff_ne.mpr c4
     have c4b1 : ((Int.tmod x0_1 2) != (Int.tmod x1_1 2)) = true := bne_iff_ne.mpr c4
     have H' := am H
     clear H
     go_wp2
     go_roundg k1
     case measure => have := HK1.out; omega
     case rel => exact ⟨(wrap64 (Int.tdiv x0_1 2)), (wrap64 (Int.tdiv x1_1 2)), (wrap64 (x5_1 + x6_1)), (wrap64 (2 * x6_1)), (wrap64 (x7_1 + 1)), (by first | rfl | (simp; done) | (simp [*]; done)), (by first | rfl | (simp; done) | (simp [*]; done)), (by first | rfl | (simp; done) | (simp [*]; done)), (by first | rfl | (simp; done) | (simp [*]; done)), (xQ), H', ⟨by have := HK1.out; omega⟩, by repeat (first | exact Drawn0.refl _ | apply Drawn0.step)⟩
   ·rw [if_neg c3] at H
    have c3b0 : decide (x7_1 < 32) = false := decide_eq_false c3
    clear c3
    obtain rfl := Option.some.inj H
    go_wp2
    go_ret
    exact ⟨by first | rfl | (simp; done) | (simp [*]; done), by repeat (first | exact Drawn0.refl _ | apply Drawn0.step)⟩
mutual
def spec_HashOf.j0 : Nat → ByteArray → Int → Option (Int)
 | 0, _, _ => none
 | k + 1, x0, x1 => if x1 > 1000000000 then (spec_HashOf.j1 k x0 1000000000) else (spec_HashOf.j1 k x0 x1)
def spec_HashOf.j1 : Nat → ByteArray → Int → Option (Int)
 | 0, _, _ => none
 | k + 1, x0, x1 => spec_HashOf.l0 k x0 (Int.tmod (wrap64 (2166136261 + x1)) 4294967296) 0
def spec_HashOf.l0 : Nat → ByteArray → Int → Int → Option (Int)
 | 0, _, _, _ => none
 | k + 1, x0, x5, x6 => if x6 < (x0.size : Int) then (if 0 ≤ x6 then ((spec_l04Xor.f k x5 (wrap64 (bt x0 x6))).bind fun t152 => (spec_HashOf.l0 k x0 (Int.tmod (wrap64 (t152 * 16777619)) 4294967296) (wrap64 (x6 + 1)))) else (none)) else ((spec_l04Xor.f k x5 (wrap64 (Int.tdiv x5 65536))).bind fun t153 => (some t153))
end
def spec_HashOf.f (k : Nat) (a0 : ByteArray) (a1 : Int) : Option (Int) := if a1 < 0 then (spec_HashOf.j0 k a0 0) else (spec_HashOf.j0 k a0 a1)
set_option maxHeartbeats 8000000 in
set_option maxRecDepth 100000 in
theorem spec_HashOf.calls (k : Nat) (a0 : ByteArray) (a1 : Int) (r : Int) (w : World) (h : spec_HashOf.f k a0 a1 = some r) :
  Calls Try.prog 85 #[.string a0, .int .i64 a1] w fun e w' => e = .returned (.int .i64 r) ∧ Drawn0 w w' := by
 have H : (if a1 < 0 then (spec_HashOf.j0 k a0 0) else (spec_HashOf.j0 k a0 a1)) = some r := h
 clear h
 have HC3 := am H
 clear H
 go_enter Try.func85, Try.ntmps85
 go_upto_if 8 with (fail)
 go_cut [1] (fun v1 wc => ∃ (kq : Nat) (x1_2 : Int), v1 = .int .i64 x1_2 ∧ Aside0 (spec_HashOf.j0 kq a0 x1_2 = some r) ∧ Aside0 (kq ≤ k) ∧ Drawn0 w wc)
 case first =>
  have H := HC3.out
  clear HC3
  by_cases c4 : a1 < 0
  ·rw [if_pos c4] at H
   have c4b0 : decide (a1 < 0) = true := decide_eq_true c4
   clear c4
   (first | rw [c4b0] | (simp only [i64_w, i32_w]; rw [c4b0]) | skip)
   have H' := am H
   clear H
   go_wp2
   go_meet
   case rel => exact ⟨_, (0), (xQ), H', ⟨by first | omega | exact Nat.le_refl _⟩, by repeat (first | exact Drawn0.refl _ | apply Drawn0.step)⟩
  ·rw [if_neg c4] at H
   have c4b0 : decide (a1 < 0) = false := decide_eq_false c4
   clear c4
   (first | rw [c4b0] | (simp only [i64_w, i32_w]; rw [c4b0]) | skip)
   have H' := am H
   clear H
   go_wp2
   go_meet
   case rel => exact ⟨_, (a1), (xQ), H', ⟨by first | omega | exact Nat.le_refl _⟩, by repeat (first | exact Drawn0.refl _ | apply Drawn0.step)⟩
 case rest =>
  clear HC3
  try clear p2
  try clear c4
  try clear c4b0
  obtain ⟨kq, x1_2, rfl, HA, HJ2, ⟨mc2, rfl⟩⟩ := hcut
  cases kq with
  | zero => exact absurd HA.out (by simp [spec_HashOf.j0])
  | succ kj2 =>
   have H := HA.out
   clear HA
   simp only [spec_HashOf.j0] at H
   have HC5 := am H
   clear H
   go_upto_if 10 with (fail)
   go_cut [1] (fun v1 wc => ∃ (kq : Nat) (x1_4 : Int), v1 = .int .i64 x1_4 ∧ Aside0 (spec_HashOf.j1 kq a0 x1_4 = some r) ∧ Aside0 (kq ≤ kj2) ∧ Drawn0 w wc)
   case first =>
    have H := HC5.out
    clear HC5
    by_cases c6 : x1_2 > 1000000000
    ·rw [if_pos c6] at H
     have c6b0 : decide (1000000000 < x1_2) = true := decide_eq_true c6
     clear c6
     (first | rw [c6b0] | (simp only [i64_w, i32_w]; rw [c6b0]) | skip)
     have H' := am H
     clear H
     go_wp2
     go_meet
     case rel => exact ⟨_, (1000000000), (xQ), H', ⟨by have := HJ2.out; first | omega | exact Nat.le_refl _⟩, by repeat (first | exact Drawn0.refl _ | apply Drawn0.step)⟩
    ·rw [if_neg c6] at H
     have c6b0 : decide (1000000000 < x1_2) = false := decide_eq_false c6
     clear c6
     (first | rw [c6b0] | (simp only [i64_w, i32_w]; rw [c6b0]) | skip)
     have H' := am H
     clear H
     go_wp2
     go_meet
     case rel => exact ⟨_, (x1_2), (xQ), H', ⟨by have := HJ2.out; first | omega | exact Nat.le_refl _⟩, by repeat (first | exact Drawn0.refl _ | apply Drawn0.step)⟩
   case rest =>
    clear HC5
    try clear c2
    try clear p2
    try clear c4
    try clear c4b0
    try clear c6
    try clear c6b0
    try clear p2
    obtain ⟨kq, x1_4, rfl, HA, HJ4, ⟨mc4, rfl⟩⟩ := hcut
    cases kq with
    | zero => exact absurd HA.out (by simp [spec_HashOf.j1])
    | succ kj4 =>
     have H := HA.out
     clear HA
     simp only [spec_HashOf.j1] at H
     have H' := am H
     clear H
     go_wp2
     go_loopg [5, 6] kj4 (fun kq v5 v6 w' => ∃ (x5_3 : Int) (x6_3 : Int), v5 = .int .i64 x5_3 ∧ v6 = .int .i64 x6_3 ∧ Aside0 (spec_HashOf.l0 kq a0 x5_3 x6_3 = some r) ∧ Aside0 (kq ≤ kj4) ∧ Drawn0 w w')
     case atStart => exact ⟨(Int.tmod (wrap64 (2166136261 + x1_4)) 4294967296), (0), (by first | rfl | (simp; done) | (simp [*]; done)), (xQ), H', ⟨Nat.le_refl _⟩, by repeat (first | exact Drawn0.refl _ | apply Drawn0.step)⟩
     case round =>
      clear H'
      try clear c2
      try clear p2
      try clear c4
      try clear c4b0
      try clear c6
      try clear c6b0
      try clear p6
      try clear p2
      obtain ⟨x5_3, x6_3, rfl, rfl, HA, HK3, ⟨m3, rfl⟩⟩ := hrel
      cases gk with
      | zero => exact absurd HA.out (by simp [spec_HashOf.l0])
      | succ k3 =>
       have H := HA.out
       clear HA
       simp only [spec_HashOf.l0] at H
       by_cases c7 : x6_3 < (a0.size : Int)
       ·rw [if_pos c7] at H
        have c7b0 : decide (x6_3 < (a0.size : Int)) = true := decide_eq_true c7
        clear c7
        by_cases c8 : 0 ≤ x6_3
        ·rw [if_pos c8] at H
         have c8b0 : decide (0 ≤ x6_3) = true := decide_eq_true c8
         clear c8
         replace H := Option.bind_eq_some_iff.mp H
         obtain ⟨t152, A100, H⟩ := H
         replace H : (spec_HashOf.l0 k3 a0 (Int.tmod (wrap64 (t152 * 16777619)) 4294967296) (wrap64 (x6_3 + 1))) = some r := H
         have A10 := am A100
         clear A100
         have H' := am H
         clear H
         have p9 : 0 ≤ (x6_3 : Int) := of_decide_eq_true (by assumption)
         have q9 : x6_3 < (a0.size : Int) := of_decide_eq_true (by assumption)
         have hx9 := bt_at a0 x6_3
         replace p9 := eq_true p9
         replace q9 := eq_true q9
         go_wp2_with (first | ((with_reducible refine gate_callee (f := 94) rfl ?_); refine xG (some 25) 94 Try.func94 #[.int .i64 x5_3, .int .i64 (wrap64 (bt a0 x6_3))] (h := ?_); (with_reducible refine (spec_l04Xor.calls k3 x5_3 (wrap64 (bt a0 x6_3)) t152 _ A10.out).mono ?_); rintro e w' ⟨rfl, ⟨nd, rfl⟩⟩; refine ⟨_, rfl, ?_⟩))
         go_roundg k3
         case measure => have := HJ2.out; have := HJ4.out; have := HK3.out; omega
         case rel => exact ⟨(Int.tmod (wrap64 (t152 * 16777619)) 4294967296), (wrap64 (x6_3 + 1)), (by first | rfl | (simp; done) | (simp [*]; done)), (xQ), H', ⟨by have := HJ2.out; have := HJ4.out; have := HK3.out; omega⟩, by repeat (first | exact Drawn0.refl _ | apply Drawn0.step)⟩
        ·rw [if_neg c8] at H
         exact absurd H (by simp)
       ·rw [if_neg c7] at H
        have c7b0 : decide (x6_3 < (a0.size : Int)) = false := decide_eq_false c7
        clear c7
        replace H := Option.bind_eq_some_iff.mp H
        obtain ⟨t153, A110, H⟩ := H
        replace H : (some t153) = some r := H
        have A11 := am A110
        clear A110
        obtain rfl := Option.some.inj H
        go_wp2_with (first | ((with_reducible refine gate_callee (f := 94) rfl ?_); refine xG (some 31) 94 Try.func94 #[.int .i64 x5_3, .int .i64 (wrap64 (Int.tdiv x5_3 65536))] (h := ?_); (with_reducible refine (spec_l04Xor.calls k3 x5_3 (wrap64 (Int.tdiv x5_3 65536)) t153 _ A11.out).mono ?_); rintro e w' ⟨rfl, ⟨nd, rfl⟩⟩; refine ⟨_, rfl, ?_⟩))
        go_ret
        exact ⟨by first | rfl | (simp; done) | (simp [*]; done), by repeat (first | exact Drawn0.refl _ | apply Drawn0.step)⟩
mutual
def spec_l04Seek.l0 : Nat → List (S57) → ByteArray → Int → Int → Int → Option (Int)
 | 0, _, _, _, _, _ => none
 | k + 1, x0, x1, x5, x6, x7 => if x7 < x5 then (if x5 = 0 then (none) else (if 0 ≤ (Int.tmod (wrap64 (x6 + x7)) x5) then (if (Int.tmod (wrap64 (x6 + x7)) x5) < (x0.length : Int) then (if ((rd_T57 x0 (Int.tmod (wrap64 (x6 + x7)) x5)).f0).toList = x1.toList then (spec_l04Seek.j1 k x0 x1 x5 x6 x7 (decide (((rd_T57 x0 (Int.tmod (wrap64 (x6 + x7)) x5)).f1) ≥ 0)) ((rd_T57 x0 (Int.tmod (wrap64 (x6 + x7)) x5)).f0) ((rd_T57 x0 (Int.tmod (wrap64 (x6 + x7)) x5)).f1)) else (spec_l04Seek.j1 k x0 x1 x5 x6 x7 false ((rd_T57 x0 (Int.tmod (wrap64 (x6 + x7)) x5)).f0) ((rd_T57 x0 (Int.tmod (wrap64 (x6 + x7)) x5)).f1))) else (none)) else (none))) else (some (-1))
def spec_l04Seek.j1 : Nat → List (S57) → ByteArray → Int → Int → Int → Bool → ByteArray → Int → Option (Int)
 | 0, _, _, _, _, _, _, _, _ => none
 | k + 1, x0, x1, x5, x6, x7, x38, x157000, x157001 => if x38 = true then (if x5 = 0 then (none) else (some (Int.tmod (wrap64 (x6 + x7)) x5))) else (if x157000.toList = ([] : List UInt8) then (if x157001 = (-1) then (some (-1)) else (spec_l04Seek.l0 k x0 x1 x5 x6 (wrap64 (x7 + 1)))) else (spec_l04Seek.l0 k x0 x1 x5 x6 (wrap64 (x7 + 1))))
end
def spec_l04Seek.f (k : Nat) (l0 : List (S57)) (a1 : ByteArray) : Option (Int) := if (l0.length : Int) = 0 then (some (-1)) else ((spec_HashOf.f k a1 0).bind fun t154 => (spec_l04Seek.l0 k l0 a1 (l0.length : Int) (Int.tmod t154 (l0.length : Int)) 0))
set_option maxHeartbeats 8000000 in
set_option maxRecDepth 100000 in
theorem spec_l04Seek.calls (k : Nat) (A0 : Option Addr) (c0 : Nat) (l0 : List (S57)) (a1 : ByteArray) (r : Int) (w : World) (hr0 : Kd.C k57 w A0 l0.length l0) (hc0 : l0.length ≤ c0) (h : spec_l04Seek.f k l0 a1 = some r) :
  Calls Try.prog 58 #[.slice A0 l0.length c0, .string a1] w fun e w' => e = .returned (.int .i64 r) ∧ Below w.heap.size w w' := by
 have hu57 := Try.underlying57
 have HR0 := am hr0
 have HC0 := am hc0
 clear hr0 hc0
 have HB := am (Below.refl w.heap.size w)
 have H : (if (l0.length : Int) = 0 then (some (-1)) else ((spec_HashOf.f k a1 0).bind fun t154 => (spec_l04Seek.l0 k l0 a1 (l0.length : Int) (Int.tmod t154 (l0.length : Int)) 0))) = some r := h
 clear h
 by_cases c3 : (l0.length : Int) = 0
 ·rw [if_pos c3] at H
  have c3b0 : ((l0.length : Int) == 0) = true := beq_iff_eq.mpr c3
  have c3b1 : ((l0.length : Int) != 0) = false := bne_eq_false_iff_eq.mpr c3
  clear c3
  obtain rfl := Option.some.inj H
  go_enter Try.func58, Try.ntmps58
  go_wp2
  go_ret
  exact ⟨xV, xW HB.out⟩
 ·rw [if_neg c3] at H
  have c3b0 : ((l0.length : Int) == 0) = false := beq_eq_false_iff_ne.mpr c3
  have c3b1 : ((l0.length : Int) != 0) = true := bne_iff_ne.mpr c3
  have c3b2 : ¬ (l0 = []) := fun h_ => c3 (by rw [h_]; rfl)
  replace H := Option.bind_eq_some_iff.mp H
  obtain ⟨t154, A40, H⟩ := H
  replace H : (spec_l04Seek.l0 k l0 a1 (l0.length : Int) (Int.tmod t154 (l0.length : Int)) 0) = some r := H
  have A4 := am A40
  clear A40
  have H' := am H
  clear H
  go_enter Try.func58, Try.ntmps58
  go_wp2_with (first | ((with_reducible refine gate_callee (f := 85) rfl ?_); refine xG (some 14) 85 Try.func85 #[.string a1, .int .i64 0] (h := ?_); (with_reducible refine (spec_HashOf.calls k a1 0 t154 _ A4.out).mono ?_); rintro e w' ⟨rfl, ⟨nd, rfl⟩⟩; refine ⟨_, rfl, ?_⟩))
  go_loopg [7] k (fun kq v7 w' => ∃ (x7_1 : Int), v7 = .int .i64 x7_1 ∧ Aside0 (spec_l04Seek.l0 kq l0 a1 (l0.length : Int) (Int.tmod t154 (l0.length : Int)) x7_1 = some r) ∧ Aside0 (kq ≤ k) ∧ Aside0 (Below w.heap.size w w'))
  case atStart => exact ⟨(0), (xQ), H', ⟨Nat.le_refl _⟩, ⟨xW HB.out⟩⟩
  case round =>
   clear H'
   try clear p2
   try clear c3
   try clear c3b0
   try clear c3b1
   try clear c3b2
   obtain ⟨x7_1, rfl, HA, HK1, HB⟩ := hrel
   cases gk with
   | zero => exact absurd HA.out (by simp [spec_l04Seek.l0])
   | succ k1 =>
    have H := HA.out
    clear HA
    simp only [spec_l04Seek.l0] at H
    by_cases c5 : x7_1 < (l0.length : Int)
    ·rw [if_pos c5] at H
     have c5b0 : decide (x7_1 < (l0.length : Int)) = true := decide_eq_true c5
     clear c5
     by_cases c6 : (l0.length : Int) = 0
     ·rw [if_pos c6] at H
      exact absurd H (by simp)
     ·rw [if_neg c6] at H
      have c6b0 : ((l0.length : Int) == 0) = false := beq_eq_false_iff_ne.mpr c6
      have c6b1 : ((l0.length : Int) != 0) = true := bne_iff_ne.mpr c6
      have c6b2 : ¬ (l0 = []) := fun h_ => c6 (by rw [h_]; rfl)
      obtain ⟨ji7, hji7⟩ : ∃ j_ : Int, (Int.tmod (wrap64 ((Int.tmod t154 (l0.length : Int)) + x7_1)) (l0.length : Int)) = j_ := ⟨_, rfl⟩
      replace H : (if 0 ≤ (ji7) then (if (ji7) < (l0.length : Int) then (if ((rd_T57 l0 (ji7)).f0).toList = a1.toList then (spec_l04Seek.j1 k1 l0 a1 (l0.length : Int) (Int.tmod t154 (l0.length : Int)) x7_1 (decide (((rd_T57 l0 (ji7)).f1) ≥ 0)) ((rd_T57 l0 (ji7)).f0) ((rd_T57 l0 (ji7)).f1)) else (spec_l04Seek.j1 k1 l0 a1 (l0.length : Int) (Int.tmod t154 (l0.length : Int)) x7_1 false ((rd_T57 l0 (ji7)).f0) ((rd_T57 l0 (ji7)).f1))) else (none)) else (none)) = some r := by first | (rw [hji7] at H; exact H) | (simp only [hji7] at H ⊢; exact H)
      by_cases c8 : 0 ≤ (ji7)
      ·rw [if_pos c8] at H
       have c8b0 : decide (0 ≤ (ji7)) = true := decide_eq_true c8
       clear c8
       by_cases c9 : (ji7) < (l0.length : Int)
       ·rw [if_pos c9] at H
        have c9b0 : decide ((ji7) < (l0.length : Int)) = true := decide_eq_true c9
        clear c9
        have HC10 := am H
        clear H
        have p155 : 0 ≤ ((ji7) : Int) := of_decide_eq_true (by assumption)
        have q155 : (ji7) < (l0.length : Int) := of_decide_eq_true (by assumption)
        obtain ⟨ad155, e155, hx155_0, hx155_1⟩ := at_T57 HR0.out (ji7) p155 q155
        cases e155
        replace hx155_0 := (HB.out.cell (World.block_lt_of_cell? w _ hx155_0)).trans hx155_0
        replace hx155_1 := (HB.out.cell (World.block_lt_of_cell? w _ hx155_1)).trans hx155_1
        replace p155 := eq_true p155
        replace q155 := eq_true q155
        go_upto_region 9 with (first | ((with_reducible refine gate_dst (N := 8) rfl ?_); refine xE (N := 8) (cs := #[.string (⟨#[]⟩ : ByteArray), .int .i64 0]) (t := 57) (h := ?_); intro gb156 hg w11 hbox hb; have n0_ := am (below_step (xW HB.out) hb); have n1_ := am (hbox); have n2_ := am (xS hg HB.out); have n3_ := am (xS hg HB.out); clear HB; have HB := n0_; have BK156 := n1_; have GW156 := n2_; have GE156 := n3_; clear n0_ n1_ n2_ n3_; clear hb hbox hg; obtain ⟨hcz12_0, hcz12_1, hfz12_0, hfz12_1⟩ := xT2 (W := w11) BK156.out))
        (try simp only [Act.put, List.setIfInBounds_toArray, List.set_cons_zero, List.set_cons_succ])
        go_cut [38] (fun v38 wc => ∃ (kq : Nat) (x38_9 : Bool), v38 = .bool x38_9 ∧ Aside0 (spec_l04Seek.j1 kq l0 a1 (l0.length : Int) (Int.tmod t154 (l0.length : Int)) x7_1 x38_9 ((rd_T57 l0 (ji7)).f0) ((rd_T57 l0 (ji7)).f1) = some r) ∧ Aside0 (kq ≤ k1) ∧ Aside0 (wc.heap[gb156]? = some (.cells #[.string ((rd_T57 l0 (ji7)).f0), .int .i64 ((rd_T57 l0 (ji7)).f1)] 57 (0, 0))) ∧ Aside0 (Below w.heap.size w wc))
        case first =>
         have H := HC10.out
         clear HC10
         by_cases c13 : ((rd_T57 l0 (ji7)).f0).toList = a1.toList
         ·rw [if_pos c13] at H
          have c13b0 : (((rd_T57 l0 (ji7)).f0).toList == a1.toList) = true := beq_iff_eq.mpr c13
          have c13b1 : (((rd_T57 l0 (ji7)).f0).toList != a1.toList) = false := bne_eq_false_iff_eq.mpr c13
          clear c13
          (first | rw [c13b0] | (simp only [i64_w, i32_w]; rw [c13b0]) | skip)
          have H' := am H
          clear H
          obtain ⟨hcz14_0, hcz14_1, hfz14_0, hfz14_1⟩ := xT2 (W := w11) BK156.out
          go_wp2
          go_meet
          case rel => exact ⟨_, (decide (((rd_T57 l0 (ji7)).f1) ≥ 0)), (by first | rfl | (simp; done) | (simp only [← hji7] <;> (first | rfl | simp)) | (simp [*]; done) | (simp; generalize ByteArray.toList _ = z; cases z <;> rfl)), H', ⟨by have := HK1.out; first | omega | exact Nat.le_refl _⟩, ⟨xP BK156.out⟩, ⟨xW HB.out⟩⟩
         ·rw [if_neg c13] at H
          have c13b0 : (((rd_T57 l0 (ji7)).f0).toList == a1.toList) = false := beq_eq_false_iff_ne.mpr c13
          have c13b1 : (((rd_T57 l0 (ji7)).f0).toList != a1.toList) = true := bne_iff_ne.mpr c13
          (first | rw [c13b0] | (simp only [i64_w, i32_w]; rw [c13b0]) | skip)
          have H' := am H
          clear H
          obtain ⟨hcz15_0, hcz15_1, hfz15_0, hfz15_1⟩ := xT2 (W := w11) BK156.out
          go_wp2
          go_meet
          case rel => exact ⟨_, (false), (xQ), H', ⟨by have := HK1.out; first | omega | exact Nat.le_refl _⟩, ⟨xP BK156.out⟩, ⟨xW HB.out⟩⟩
        case rest =>
         clear HC10
         try clear c1
         try clear p1
         try clear q1
         try clear hx1
         try clear p2
         try clear c3
         try clear c3b0
         try clear c3b1
         try clear c3b2
         try clear c5
         try clear c5b0
         try clear c6
         try clear c6b0
         try clear c6b1
         try clear c6b2
         try clear p6
         try clear c8
         try clear c8b0
         try clear c9
         try clear c9b0
         try clear c13
         try clear c13b0
         try clear c13b1
         try clear p15
         try clear q15
         try clear hx15
         try clear hcz12_0
         try clear hcz12_1
         try clear hcz14_0
         try clear hcz14_1
         try clear hcz15_0
         try clear hcz15_1
         try clear hfz12_0
         try clear hfz12_1
         try clear hfz14_0
         try clear hfz14_1
         try clear hfz15_0
         try clear hfz15_1
         try clear hx155_0
         try clear hx155_1
         try clear p155
         try clear p2
         try clear q155
         obtain ⟨kq, x38_9, rfl, HA, HJ9, BK156, HB⟩ := hcut
         cases kq with
         | zero => exact absurd HA.out (by simp [spec_l04Seek.j1])
         | succ kj9 =>
          have H := HA.out
          clear HA
          simp only [spec_l04Seek.j1] at H
          by_cases c16 : x38_9 = true
          ·subst c16
           have H1 : (if (l0.length : Int) = 0 then (none) else (some (Int.tmod (wrap64 ((Int.tmod t154 (l0.length : Int)) + x7_1)) (l0.length : Int)))) = some r := by rw [if_pos rfl] at H; exact H
           clear H
           have H := H1
           clear H1
           by_cases c17 : (l0.length : Int) = 0
           ·rw [if_pos c17] at H
            exact absurd H (by simp)
           ·rw [if_neg c17] at H
            have c17b0 : ((l0.length : Int) == 0) = false := beq_eq_false_iff_ne.mpr c17
            have c17b1 : ((l0.length : Int) != 0) = true := bne_iff_ne.mpr c17
            have c17b2 : ¬ (l0 = []) := fun h_ => c17 (by rw [h_]; rfl)
            obtain rfl := Option.some.inj H
            go_wp2
            go_ret
            exact ⟨by first | rfl | (simp [errW_none, errW_some] <;> rfl) | (simp only [← hji7]; first | rfl | (simp [errW_none, errW_some] <;> rfl)) | (simp [*, errW_none, errW_some] <;> rfl), xW HB.out⟩
          ·replace c16 := Bool.eq_false_iff.mpr c16
           subst c16
           have H1 : (if ((rd_T57 l0 (ji7)).f0).toList = ([] : List UInt8) then (if ((rd_T57 l0 (ji7)).f1) = (-1) then (some (-1)) else (spec_l04Seek.l0 kj9 l0 a1 (l0.length : Int) (Int.tmod t154 (l0.length : Int)) (wrap64 (x7_1 + 1)))) else (spec_l04Seek.l0 kj9 l0 a1 (l0.length : Int) (Int.tmod t154 (l0.length : Int)) (wrap64 (x7_1 + 1)))) = some r := by rw [if_neg (show ¬ (false = true) by decide)] at H; exact H
           clear H
           have H := H1
           clear H1
           by_cases c18 : ((rd_T57 l0 (ji7)).f0).toList = ([] : List UInt8)
           ·rw [if_pos c18] at H
            have c18b0 : (((rd_T57 l0 (ji7)).f0).toList == ([] : List UInt8)) = true := beq_iff_eq.mpr c18
            have c18b1 : (((rd_T57 l0 (ji7)).f0).toList != ([] : List UInt8)) = false := bne_eq_false_iff_eq.mpr c18
            clear c18
            by_cases c19 : ((rd_T57 l0 (ji7)).f1) = (-1)
            ·rw [if_pos c19] at H
             have c19b0 : (((rd_T57 l0 (ji7)).f1) == (-1)) = true := beq_iff_eq.mpr c19
             have c19b1 : (((rd_T57 l0 (ji7)).f1) != (-1)) = false := bne_eq_false_iff_eq.mpr c19
             clear c19
             obtain rfl := Option.some.inj H
             obtain ⟨hcz20_0, hcz20_1, hfz20_0, hfz20_1⟩ := xT2 (W := wc) BK156.out
             go_wp2
             go_ret
             exact ⟨by first | rfl | (simp [errW_none, errW_some] <;> rfl) | (simp only [← hji7]; first | rfl | (simp [errW_none, errW_some] <;> rfl)) | (simp [*, errW_none, errW_some] <;> rfl), xW HB.out⟩
            ·rw [if_neg c19] at H
             have c19b0 : (((rd_T57 l0 (ji7)).f1) == (-1)) = false := beq_eq_false_iff_ne.mpr c19
             have c19b1 : (((rd_T57 l0 (ji7)).f1) != (-1)) = true := bne_iff_ne.mpr c19
             have H' := am H
             clear H
             obtain ⟨hcz21_0, hcz21_1, hfz21_0, hfz21_1⟩ := xT2 (W := wc) BK156.out
             go_wp2
             go_roundg kj9
             case measure => have := HK1.out; have := HJ9.out; omega
             case rel => exact ⟨(wrap64 (x7_1 + 1)), (xQ), H', ⟨by have := HK1.out; have := HJ9.out; omega⟩, ⟨xW HB.out⟩⟩
           ·rw [if_neg c18] at H
            have c18b0 : (((rd_T57 l0 (ji7)).f0).toList == ([] : List UInt8)) = false := beq_eq_false_iff_ne.mpr c18
            have c18b1 : (((rd_T57 l0 (ji7)).f0).toList != ([] : List UInt8)) = true := bne_iff_ne.mpr c18
            have H' := am H
            clear H
            obtain ⟨hcz22_0, hcz22_1, hfz22_0, hfz22_1⟩ := xT2 (W := wc) BK156.out
            go_wp2
            go_roundg kj9
            case measure => have := HK1.out; have := HJ9.out; omega
            case rel => exact ⟨(wrap64 (x7_1 + 1)), (xQ), H', ⟨by have := HK1.out; have := HJ9.out; omega⟩, ⟨xW HB.out⟩⟩
       ·rw [if_neg c9] at H
        exact absurd H (by simp)
      ·rw [if_neg c8] at H
       exact absurd H (by simp)
    ·rw [if_neg c5] at H
     have c5b0 : decide (x7_1 < (l0.length : Int)) = false := decide_eq_false c5
     clear c5
     obtain rfl := Option.some.inj H
     go_wp2
     go_ret
     exact ⟨xV, xW HB.out⟩
def spec_l04Size.f (a0 : Int) : Option (Bool) := if a0 = 4 then (some true) else (if a0 = 8 then (some true) else (if a0 = 16 then (some true) else (if a0 = 32 then (some true) else (some (a0 == 64)))))
set_option maxHeartbeats 8000000 in
set_option maxRecDepth 100000 in
theorem spec_l04Size.calls (a0 : Int) (r : Bool) (w : World) (h : spec_l04Size.f a0 = some r) :
  Calls Try.prog 61 #[.int .i64 a0] w fun e w' => e = .returned (.bool r) ∧ Drawn0 w w' := by
 have H : (if a0 = 4 then (some true) else (if a0 = 8 then (some true) else (if a0 = 16 then (some true) else (if a0 = 32 then (some true) else (some (a0 == 64)))))) = some r := h
 clear h
 by_cases c2 : a0 = 4
 ·rw [if_pos c2] at H
  have c2b0 : (a0 == 4) = true := beq_iff_eq.mpr c2
  have c2b1 : (a0 != 4) = false := bne_eq_false_iff_eq.mpr c2
  clear c2
  obtain rfl := Option.some.inj H
  go_enter Try.func61, Try.ntmps61
  go_wp2
  go_ret
  exact ⟨by first | rfl | (simp; done) | (simp [*]; done), by repeat (first | exact Drawn0.refl _ | apply Drawn0.step)⟩
 ·rw [if_neg c2] at H
  have c2b0 : (a0 == 4) = false := beq_eq_false_iff_ne.mpr c2
  have c2b1 : (a0 != 4) = true := bne_iff_ne.mpr c2
  by_cases c3 : a0 = 8
  ·rw [if_pos c3] at H
   have c3b0 : (a0 == 8) = true := beq_iff_eq.mpr c3
   have c3b1 : (a0 != 8) = false := bne_eq_false_iff_eq.mpr c3
   clear c3
   obtain rfl := Option.some.inj H
   go_enter Try.func61, Try.ntmps61
   go_wp2
   go_ret
   exact ⟨by first | rfl | (simp; done) | (simp [*]; done), by repeat (first | exact Drawn0.refl _ | apply Drawn0.step)⟩
  ·rw [if_neg c3] at H
   have c3b0 : (a0 == 8) = false := beq_eq_false_iff_ne.mpr c3
   have c3b1 : (a0 != 8) = true := bne_iff_ne.mpr c3
   by_cases c4 : a0 = 16
   ·rw [if_pos c4] at H
    have c4b0 : (a0 == 16) = true := beq_iff_eq.mpr c4
    have c4b1 : (a0 != 16) = false := bne_eq_false_iff_eq.mpr c4
    clear c4
    obtain rfl := Option.some.inj H
    go_enter Try.func61, Try.ntmps61
    go_wp2
    go_ret
    exact ⟨by first | rfl | (simp; done) | (simp [*]; done), by repeat (first | exact Drawn0.refl _ | apply Drawn0.step)⟩
   ·rw [if_neg c4] at H
    have c4b0 : (a0 == 16) = false := beq_eq_false_iff_ne.mpr c4
    have c4b1 : (a0 != 16) = true := bne_iff_ne.mpr c4
    by_cases c5 : a0 = 32
    ·rw [if_pos c5] at H
     have c5b0 : (a0 == 32) = true := beq_iff_eq.mpr c5
     have c5b1 : (a0 != 32) = false := bne_eq_false_iff_eq.mpr c5
     clear c5
     obtain rfl := Option.some.inj H
     go_enter Try.func61, Try.ntmps61
     go_wp2
     go_ret
     exact ⟨by first | rfl | (simp; done) | (simp [*]; done), by repeat (first | exact Drawn0.refl _ | apply Drawn0.step)⟩
    ·rw [if_neg c5] at H
     have c5b0 : (a0 == 32) = false := beq_eq_false_iff_ne.mpr c5
     have c5b1 : (a0 != 32) = true := bne_iff_ne.mpr c5
     obtain rfl := Option.some.inj H
     go_enter Try.func61, Try.ntmps61
     go_wp2
     go_ret
     exact ⟨by first | rfl | (simp; done) | (simp [*]; done), by repeat (first | exact Drawn0.refl _ | apply Drawn0.step)⟩
def spec_l01In.f (a0 : Int) (a1 : Int) (a2 : Int) : Option (Bool) := if a0 ≥ a1 then (some (decide (a0 ≤ a2))) else (some false)
set_option maxHeartbeats 8000000 in
set_option maxRecDepth 100000 in
theorem spec_l01In.calls (a0 : Int) (a1 : Int) (a2 : Int) (r : Bool) (w : World) (h : spec_l01In.f a0 a1 a2 = some r) :
  Calls Try.prog 62 #[.int .i64 a0, .int .i64 a1, .int .i64 a2] w fun e w' => e = .returned (.bool r) ∧ Drawn0 w w' := by
 have H : (if a0 ≥ a1 then (some (decide (a0 ≤ a2))) else (some false)) = some r := h
 clear h
 by_cases c4 : a0 ≥ a1
 ·rw [if_pos c4] at H
  have c4b0 : decide (a1 ≤ a0) = true := decide_eq_true c4
  clear c4
  obtain rfl := Option.some.inj H
  go_enter Try.func62, Try.ntmps62
  go_wp2
  go_ret
  exact ⟨by first | rfl | (simp; done) | (simp [*]; done), by repeat (first | exact Drawn0.refl _ | apply Drawn0.step)⟩
 ·rw [if_neg c4] at H
  have c4b0 : decide (a1 ≤ a0) = false := decide_eq_false c4
  clear c4
  obtain rfl := Option.some.inj H
  go_enter Try.func62, Try.ntmps62
  go_wp2
  go_ret
  exact ⟨by first | rfl | (simp; done) | (simp [*]; done), by repeat (first | exact Drawn0.refl _ | apply Drawn0.step)⟩
end Go.Proofs.Ytmahoekbedgbcaa.HFnExactCleanTable
