/- What the row of the law needs of the printed and the plain texts. -/
import Derived.Test.YtmahoekbedgbcaaZcHX
import Derived.Test.YtmahoekbedgbcaaZcHFnKeyListsx0
import Derived.Test.YtmahoekbedgbcaaZcHFnKeyListsx10
import Derived.Test.YtmahoekbedgbcaaZcHFnKeyListsx12
namespace Go.Proofs.Ytmahoekbedgbcaa.HFnKeyLists
open Go.RowKit Go.Proofs.YtmahoekbedgbcaaW.PrintWords Go.Proofs.YtmahoekbedgbcaaW.PrintLast Go.Proofs.YtmahoekbedgbcaaW.PrintMore
attribute [local go_sem] max2_int min2_int max_two min_two max_three min_three max_four min_four
set_option linter.unusedVariables false
set_option linter.unusedSimpArgs false
def impl_SeekKey.f (k : Nat) (l0_0 : List (S57)) (l0_1 : List (S57)) (a0_2 : Int) (a1 : ByteArray) : Option (Int × Bool) := (impl_TableOk.f k l0_0 l0_1 a0_2).bind fun t399 => (if t399 = true then ((impl_Table_find.f k l0_0 l0_1 a0_2 a1).bind fun bt400 => (some (bt400.1, bt400.2))) else (some (0, false)))
set_option maxHeartbeats 8000000 in
set_option maxRecDepth 100000 in
theorem impl_SeekKey.calls (k : Nat) (A0_0 : Option Addr) (c0_0 : Nat) (l0_0 : List (S57)) (A0_1 : Option Addr) (c0_1 : Nat) (l0_1 : List (S57)) (a0_2 : Int) (a1 : ByteArray) (r1 : Int) (r2 : Bool) (w : World) (hr0_0 : Kd.C k57 w A0_0 l0_0.length l0_0) (hc0_0 : l0_0.length ≤ c0_0) (hr0_1 : Kd.C k57 w A0_1 l0_1.length l0_1) (hc0_1 : l0_1.length ≤ c0_1) (h : impl_SeekKey.f k l0_0 l0_1 a0_2 a1 = some (r1, r2)) :
  Calls Try.prog 23 #[.agg #[.slice A0_0 l0_0.length c0_0, .slice A0_1 l0_1.length c0_1, .int .i64 a0_2], .string a1] w fun e w' => e = .returned (.tuple #[.int .i64 r1, .bool r2]) ∧ Below w.heap.size w w' := by
 have hu26 := Try.underlying26
 have HR0_0 := am hr0_0
 have HC0_0 := am hc0_0
 clear hr0_0 hc0_0
 have HR0_1 := am hr0_1
 have HC0_1 := am hc0_1
 clear hr0_1 hc0_1
 have HB := am (Below.refl w.heap.size w)
 have H : ((impl_TableOk.f k l0_0 l0_1 a0_2).bind fun t399 => (if t399 = true then ((impl_Table_find.f k l0_0 l0_1 a0_2 a1).bind fun bt400 => (some (bt400.1, bt400.2))) else (some (0, false)))) = some (r1, r2) := h
 clear h
 replace H := Option.bind_eq_some_iff.mp H
 obtain ⟨t399, A30, H⟩ := H
 try dsimp only at H
 have A3 := am A30
 clear A30
 by_cases c4 : t399 = true
 ·subst c4
  have H1 : ((impl_Table_find.f k l0_0 l0_1 a0_2 a1).bind fun bt400 => (some (bt400.1, bt400.2))) = some (r1, r2) := by rw [if_pos rfl] at H; exact H
  clear H
  have H := H1
  clear H1
  replace H := Option.bind_eq_some_iff.mp H
  obtain ⟨⟨t400, t401⟩, A50, H⟩ := H
  replace H : (some (t400, t401)) = some (r1, r2) := H
  have A5 := am A50
  clear A50
  simp only [Option.some.injEq, Prod.mk.injEq] at H
  obtain ⟨rfl, rfl⟩ := H
  go_enter Try.func23, Try.ntmps23
  go_wp2_with (first | ((with_reducible refine gate_dst (N := 2) rfl ?_); refine xE (N := 2) (cs := #[.slice A0_0 l0_0.length c0_0, .slice A0_1 l0_1.length c0_1, .int .i64 a0_2]) (t := 26) (h := ?_); intro gb398 hg w6 hbox hb; have BK398 := am (hbox); have GW398 := am (xS hg HB.out); have GE398 := am (xS hg HB.out); replace HB := am (below_step (xW HB.out) hb); clear hb hbox hg; obtain ⟨hcz7_0, hcz7_1, hcz7_2, hfz7_0, hfz7_1, hfz7_2⟩ := xT3 (W := w6) BK398.out) | ((with_reducible refine gate_callee (f := 18) rfl ?_); refine xG (some 7) 18 Try.func18 #[.agg #[.slice A0_0 l0_0.length c0_0, .slice A0_1 l0_1.length c0_1, .int .i64 a0_2]] (h := ?_); (with_reducible refine (impl_TableOk.calls k _ _ l0_0 _ _ l0_1 a0_2 true _ ?side1 ?side2 ?side3 ?side4 A3.out).mono ?_); (case side1 => exact xC (Kd.C_below HR0_0.out HB.out)); (case side2 => exact HC0_0.out); (case side3 => exact xC (Kd.C_below HR0_1.out HB.out)); (case side4 => exact HC0_1.out); rintro e w8 ⟨rfl, hb⟩; refine ⟨_, rfl, ?_⟩; replace BK398 := am (blk_below (xB BK398.out) hb); replace HB := am (below_step (xW HB.out) hb); (try clear hb); obtain ⟨hcz9_0, hcz9_1, hcz9_2, hfz9_0, hfz9_1, hfz9_2⟩ := xT3 (W := w8) BK398.out) | ((with_reducible refine gate_callee (f := 59) rfl ?_); refine xG (some 11) 59 Try.func59 #[.agg #[.slice A0_0 l0_0.length c0_0, .slice A0_1 l0_1.length c0_1, .int .i64 a0_2], .string a1] (h := ?_); (with_reducible refine (impl_Table_find.calls k _ _ l0_0 _ _ l0_1 a0_2 a1 t400 t401 _ ?side1 ?side2 ?side3 ?side4 A5.out).mono ?_); (case side1 => exact xC (Kd.C_below HR0_0.out HB.out)); (case side2 => exact HC0_0.out); (case side3 => exact xC (Kd.C_below HR0_1.out HB.out)); (case side4 => exact HC0_1.out); rintro e w10 ⟨rfl, hb⟩; refine ⟨_, rfl, ?_⟩; replace BK398 := am (blk_below (xB BK398.out) hb); replace HB := am (below_step (xW HB.out) hb); (try clear hb); ))
  go_ret2
  exact ⟨xV, xW HB.out⟩
 ·replace c4 := Bool.eq_false_iff.mpr c4
  subst c4
  have H1 : (some (0, false)) = some (r1, r2) := by rw [if_neg (show ¬ (false = true) by decide)] at H; exact H
  clear H
  have H := H1
  clear H1
  simp only [Option.some.injEq, Prod.mk.injEq] at H
  obtain ⟨rfl, rfl⟩ := H
  go_enter Try.func23, Try.ntmps23
  go_wp2_with (first | ((with_reducible refine gate_dst (N := 2) rfl ?_); refine xE (N := 2) (cs := #[.slice A0_0 l0_0.length c0_0, .slice A0_1 l0_1.length c0_1, .int .i64 a0_2]) (t := 26) (h := ?_); intro gb398 hg w11 hbox hb; have BK398 := am (hbox); have GW398 := am (xS hg HB.out); have GE398 := am (xS hg HB.out); replace HB := am (below_step (xW HB.out) hb); clear hb hbox hg; obtain ⟨hcz12_0, hcz12_1, hcz12_2, hfz12_0, hfz12_1, hfz12_2⟩ := xT3 (W := w11) BK398.out) | ((with_reducible refine gate_callee (f := 18) rfl ?_); refine xG (some 7) 18 Try.func18 #[.agg #[.slice A0_0 l0_0.length c0_0, .slice A0_1 l0_1.length c0_1, .int .i64 a0_2]] (h := ?_); (with_reducible refine (impl_TableOk.calls k _ _ l0_0 _ _ l0_1 a0_2 false _ ?side1 ?side2 ?side3 ?side4 A3.out).mono ?_); (case side1 => exact xC (Kd.C_below HR0_0.out HB.out)); (case side2 => exact HC0_0.out); (case side3 => exact xC (Kd.C_below HR0_1.out HB.out)); (case side4 => exact HC0_1.out); rintro e w13 ⟨rfl, hb⟩; refine ⟨_, rfl, ?_⟩; replace BK398 := am (blk_below (xB BK398.out) hb); replace HB := am (below_step (xW HB.out) hb); (try clear hb); ))
  go_ret2
  exact ⟨xV, xW HB.out⟩
def laws_names.f  : Option (List ByteArray) := some (([(⟨#[97]⟩ : ByteArray), (⟨#[98]⟩ : ByteArray), (⟨#[99]⟩ : ByteArray), (⟨#[100]⟩ : ByteArray), (⟨#[101]⟩ : ByteArray), (⟨#[102]⟩ : ByteArray), (⟨#[103]⟩ : ByteArray), (⟨#[104]⟩ : ByteArray), (⟨#[107, 49]⟩ : ByteArray), (⟨#[107, 50]⟩ : ByteArray), (⟨#[107, 51]⟩ : ByteArray), (⟨#[107, 101, 121]⟩ : ByteArray)] : List ByteArray))
set_option maxHeartbeats 8000000 in
set_option maxRecDepth 100000 in
theorem laws_names.calls  (r : List ByteArray) (w : World) (h : laws_names.f  = some r) :
  Calls Try.prog 39 #[] w fun e w' => ∃ v0_ : Value, e = .returned (v0_) ∧ Kd.R Kd.string 9 w' w.heap.size (fun _ => True) v0_ r ∧ Below w.heap.size w w' := by
 have HB := am (Below.refl w.heap.size w)
 have H : (some (([(⟨#[97]⟩ : ByteArray), (⟨#[98]⟩ : ByteArray), (⟨#[99]⟩ : ByteArray), (⟨#[100]⟩ : ByteArray), (⟨#[101]⟩ : ByteArray), (⟨#[102]⟩ : ByteArray), (⟨#[103]⟩ : ByteArray), (⟨#[104]⟩ : ByteArray), (⟨#[107, 49]⟩ : ByteArray), (⟨#[107, 50]⟩ : ByteArray), (⟨#[107, 51]⟩ : ByteArray), (⟨#[107, 101, 121]⟩ : ByteArray)] : List ByteArray))) = some r := h
 clear h
 obtain ⟨y402, hy402⟩ : ∃ y_ : List ByteArray, y_ = (([(⟨#[97]⟩ : ByteArray), (⟨#[98]⟩ : ByteArray), (⟨#[99]⟩ : ByteArray), (⟨#[100]⟩ : ByteArray), (⟨#[101]⟩ : ByteArray), (⟨#[102]⟩ : ByteArray), (⟨#[103]⟩ : ByteArray), (⟨#[104]⟩ : ByteArray), (⟨#[107, 49]⟩ : ByteArray), (⟨#[107, 50]⟩ : ByteArray), (⟨#[107, 51]⟩ : ByteArray), (⟨#[107, 101, 121]⟩ : ByteArray)] : List ByteArray)) := ⟨_, rfl⟩
 replace H : (some y402) = some r := by first | (rw [hy402]; with_reducible exact H) | (have H2_ := (Option.bind_some _ _).symm.trans H; rw [hy402]; with_reducible exact H2_) | (have H2_ := (Option.bind_some _ _).symm.trans H; with_reducible exact H2_) | with_reducible exact H | (rw [hy402]; exact H) | exact H
 have Ny402 := am hy402
 clear hy402
 obtain rfl := Option.some.inj H
 go_enter Try.func39, Try.ntmps39
 go_wp2_with (first | ((with_reducible refine gate_dst (N := 1) rfl ?_); refine Kd.R_lit Kd.string _ 9 ?hg (N := 1) ?hd (xs := ([(⟨#[97]⟩ : ByteArray), (⟨#[98]⟩ : ByteArray), (⟨#[99]⟩ : ByteArray), (⟨#[100]⟩ : ByteArray), (⟨#[101]⟩ : ByteArray), (⟨#[102]⟩ : ByteArray), (⟨#[103]⟩ : ByteArray), (⟨#[104]⟩ : ByteArray), (⟨#[107, 49]⟩ : ByteArray), (⟨#[107, 50]⟩ : ByteArray), (⟨#[107, 51]⟩ : ByteArray), (⟨#[107, 101, 121]⟩ : ByteArray)] : List ByteArray)) (inner := [.string (⟨#[97]⟩ : ByteArray), .string (⟨#[98]⟩ : ByteArray), .string (⟨#[99]⟩ : ByteArray), .string (⟨#[100]⟩ : ByteArray), .string (⟨#[101]⟩ : ByteArray), .string (⟨#[102]⟩ : ByteArray), .string (⟨#[103]⟩ : ByteArray), .string (⟨#[104]⟩ : ByteArray), .string (⟨#[107, 49]⟩ : ByteArray), .string (⟨#[107, 50]⟩ : ByteArray), .string (⟨#[107, 51]⟩ : ByteArray), .string (⟨#[107, 101, 121]⟩ : ByteArray)]) (ok := fun _ => True) (okp := fun _ => True) ?hr ?hp (fun _ hk => hk) trivial (Below.refl _ _) (Nat.le_refl _) (by simp) ?_; (case hd => rfl); (case hg => rfl); (case hr => first | (go_simp; done) | (go_simp; rfl)); (case hp => exact (Reps.one (show Kd.M Kd.string _ _ _ (⟨#[97]⟩ : ByteArray) [.string (⟨#[97]⟩ : ByteArray)] from rfl) (Reps.one (show Kd.M Kd.string _ _ _ (⟨#[98]⟩ : ByteArray) [.string (⟨#[98]⟩ : ByteArray)] from rfl) (Reps.one (show Kd.M Kd.string _ _ _ (⟨#[99]⟩ : ByteArray) [.string (⟨#[99]⟩ : ByteArray)] from rfl) (Reps.one (show Kd.M Kd.string _ _ _ (⟨#[100]⟩ : ByteArray) [.string (⟨#[100]⟩ : ByteArray)] from rfl) (Reps.one (show Kd.M Kd.string _ _ _ (⟨#[101]⟩ : ByteArray) [.string (⟨#[101]⟩ : ByteArray)] from rfl) (Reps.one (show Kd.M Kd.string _ _ _ (⟨#[102]⟩ : ByteArray) [.string (⟨#[102]⟩ : ByteArray)] from rfl) (Reps.one (show Kd.M Kd.string _ _ _ (⟨#[103]⟩ : ByteArray) [.string (⟨#[103]⟩ : ByteArray)] from rfl) (Reps.one (show Kd.M Kd.string _ _ _ (⟨#[104]⟩ : ByteArray) [.string (⟨#[104]⟩ : ByteArray)] from rfl) (Reps.one (show Kd.M Kd.string _ _ _ (⟨#[107, 49]⟩ : ByteArray) [.string (⟨#[107, 49]⟩ : ByteArray)] from rfl) (Reps.one (show Kd.M Kd.string _ _ _ (⟨#[107, 50]⟩ : ByteArray) [.string (⟨#[107, 50]⟩ : ByteArray)] from rfl) (Reps.one (show Kd.M Kd.string _ _ _ (⟨#[107, 51]⟩ : ByteArray) [.string (⟨#[107, 51]⟩ : ByteArray)] from rfl) (Reps.one (show Kd.M Kd.string _ _ _ (⟨#[107, 101, 121]⟩ : ByteArray) [.string (⟨#[107, 101, 121]⟩ : ByteArray)] from rfl) (Reps.none _ _)))))))))))))); intro v403 w1 ho2 hb hg_ hnew_; clear hg_ hnew_; (first | rw [← Ny402.out] at ho2 | (simp only [Int.reduceToNat] at ho2; rw [← Ny402.out] at ho2)); have HO404 := am (Kd.R_lower ho2 (below_size (xW HB.out))); replace HB := am (below_step (xW HB.out) hb); clear hb ho2))
 go_ret
 exact ⟨_, xV, xR HO404.out, xW HB.out⟩
def laws_has.l0 : Nat → List ByteArray → ByteArray → Int → Option (Bool)
 | 0, _, _, _ => none
 | k + 1, x0, x1, x5 => if x5 < (x0.length : Int) then (if 0 ≤ x5 then (if (rdOf ByteArray.empty x0 x5).toList = x1.toList then (some true) else (laws_has.l0 k x0 x1 (wrap64 (x5 + 1)))) else (none)) else (some false)
def laws_has.f (k : Nat) (l0 : List ByteArray) (a1 : ByteArray) : Option (Bool) := laws_has.l0 k l0 a1 0
set_option maxHeartbeats 8000000 in
set_option maxRecDepth 100000 in
theorem laws_has.calls (k : Nat) (A0 : Option Addr) (c0 : Nat) (l0 : List ByteArray) (a1 : ByteArray) (r : Bool) (w : World) (hr0 : Kd.C Kd.string w A0 l0.length l0) (hc0 : l0.length ≤ c0) (h : laws_has.f k l0 a1 = some r) :
  Calls Try.prog 40 #[.slice A0 l0.length c0, .string a1] w fun e w' => e = .returned (.bool r) ∧ Drawn0 w w' := by
 have HR0 := am hr0
 have HC0 := am hc0
 clear hr0 hc0
 have H : (laws_has.l0 k l0 a1 0) = some r := h
 clear h
 have H' := am H
 clear H
 go_enter Try.func40, Try.ntmps40
 go_wp2
 go_loopg [5] k (fun kq v5 w' => ∃ (x5_1 : Int), v5 = .int .i64 x5_1 ∧ Aside0 (laws_has.l0 kq l0 a1 x5_1 = some r) ∧ Aside0 (kq ≤ k) ∧ Drawn0 w w')
 case atStart => exact ⟨(0), (xQ), H', ⟨Nat.le_refl _⟩, by repeat (first | exact Drawn0.refl _ | apply Drawn0.step)⟩
 case round =>
  clear H'
  try clear p2
  obtain ⟨x5_1, rfl, HA, HK1, ⟨m1, rfl⟩⟩ := hrel
  cases gk with
  | zero => exact absurd HA.out (by simp [laws_has.l0])
  | succ k1 =>
   have H := HA.out
   clear HA
   simp only [laws_has.l0] at H
   by_cases c3 : x5_1 < (l0.length : Int)
   ·rw [if_pos c3] at H
    have c3b0 : decide (x5_1 < (l0.length : Int)) = true := decide_eq_true c3
    clear c3
    by_cases c4 : 0 ≤ x5_1
    ·rw [if_pos c4] at H
     have c4b0 : decide (0 ≤ x5_1) = true := decide_eq_true c4
     clear c4
     by_cases c5 : (rdOf ByteArray.empty l0 x5_1).toList = a1.toList
     ·rw [if_pos c5] at H
      have c5b0 : ((rdOf ByteArray.empty l0 x5_1).toList == a1.toList) = true := beq_iff_eq.mpr c5
      have c5b1 : ((rdOf ByteArray.empty l0 x5_1).toList != a1.toList) = false := bne_eq_false_iff_eq.mpr c5
      clear c5
      obtain rfl := Option.some.inj H
      have p405 : 0 ≤ (x5_1 : Int) := of_decide_eq_true (by assumption)
      have q405 : x5_1 < (l0.length : Int) := of_decide_eq_true (by assumption)
      obtain ⟨ad405, e405, hx405_0⟩ := Kd.at_string HR0.out x5_1 p405 q405
      cases e405
      replace p405 := eq_true p405
      replace q405 := eq_true q405
      go_wp2
      go_ret
      exact ⟨by first | rfl | (simp; done) | (simp [*]; done), by repeat (first | exact Drawn0.refl _ | apply Drawn0.step)⟩
     ·rw [if_neg c5] at H
      have c5b0 : ((rdOf ByteArray.empty l0 x5_1).toList == a1.toList) = false := beq_eq_false_iff_ne.mpr c5
      have c5b1 : ((rdOf ByteArray.empty l0 x5_1).toList != a1.toList) = true := bne_iff_ne.mpr c5
      have H' := am H
      clear H
      have p405 : 0 ≤ (x5_1 : Int) := of_decide_eq_true (by assumption)
      have q405 : x5_1 < (l0.length : Int) := of_decide_eq_true (by assumption)
      obtain ⟨ad405, e405, hx405_0⟩ := Kd.at_string HR0.out x5_1 p405 q405
      cases e405
      replace p405 := eq_true p405
      replace q405 := eq_true q405
      go_wp2
      go_roundg k1
      case measure => have := HK1.out; omega
      case rel => exact ⟨(wrap64 (x5_1 + 1)), (xQ), H', ⟨by have := HK1.out; omega⟩, by repeat (first | exact Drawn0.refl _ | apply Drawn0.step)⟩
    ·rw [if_neg c4] at H
     exact absurd H (by simp)
   ·rw [if_neg c3] at H
    have c3b0 : decide (x5_1 < (l0.length : Int)) = false := decide_eq_false c3
    clear c3
    obtain rfl := Option.some.inj H
    go_wp2
    go_ret
    exact ⟨by first | rfl | (simp; done) | (simp [*]; done), by repeat (first | exact Drawn0.refl _ | apply Drawn0.step)⟩
theorem plain57 : Kd.Plain k57 (fun x : S57 => [.string x.f0, .int .i64 x.f1]) where
 len := fun _ => rfl
 one := by intro x u hu; simp at hu; rcases hu with rfl | rfl <;> rfl
 K := fun w x cs => ⟨k57_open, fun h => h ▸ k57_mk w x⟩
 M := fun w b ok x cs => ⟨k57_openM, fun h => h ▸ k57_mkM w b ok x⟩
theorem size57 : (Try.prog.info? 57).map (·.size) = some k57.sz := by
 obtain ⟨i, hi, hz⟩ := Option.map_eq_some_iff.1 info57
 simp only [Prod.mk.injEq] at hz
 rw [hi]
 exact congrArg some hz.2.1
def impl_Cell_82.f (l0 : List S57) (a1 : Int) : Option (List S57) := if l0.length = 1 then (if 1 ≤ a1 ∧ a1 ≤ 64 then some (List.replicate a1.toNat (rd_T57 l0 0)) else none) else none
theorem impl_Cell_82.step_ (c z : S57) (n m : Nat) (h : n ≤ m) (q : Nat) (hq : n + q ≤ m) (hqn : q ≤ n) : (List.replicate n c ++ List.replicate (m - n) z).take n ++ List.replicate q c ++ (List.replicate n c ++ List.replicate (m - n) z).drop (n + (List.replicate q c).length) = List.replicate (n + q) c ++ List.replicate (m - (n + q)) z := by
 rw [List.take_left' (by simp), List.length_replicate, List.replicate_append_replicate, List.drop_append, List.drop_eq_nil_of_le (by simp), List.nil_append, List.length_replicate, List.drop_replicate]
 congr 2
 omega
set_option maxHeartbeats 8000000 in
set_option maxRecDepth 100000 in
theorem impl_Cell_82.calls (A0 : Option Addr) (c0 : Nat) (l0 : List S57) (a1 : Int) (r : List S57) (w : World) (hr0 : Kd.C k57 w A0 l0.length l0) (hc0 : l0.length ≤ c0) (h : impl_Cell_82.f l0 a1 = some r) :
  Calls Try.prog 82 #[.slice A0 l0.length c0, .int .i64 a1] w fun e w' => ∃ v0_ : Value, e = .returned (v0_) ∧ Kd.R k57 57 w' w.heap.size (fun _ => True) v0_ r ∧ Below w.heap.size w w' := by
 unfold impl_Cell_82.f at h
 by_cases h1 : l0.length = 1
 ·rw [if_pos h1] at h
  by_cases h2 : 1 ≤ a1 ∧ a1 ≤ 64
  ·rw [if_pos h2] at h
   obtain rfl := Option.some.inj h
   obtain ⟨x, rfl⟩ : ∃ x, l0 = [x] := by
    match l0, h1 with
    | [x], _ => exact ⟨x, rfl⟩
   obtain ⟨m, rfl⟩ := Int.eq_ofNat_of_zero_le (show 0 ≤ a1 by omega)
   have hm1 : 1 ≤ m := by omega
   have hm2 : m ≤ 64 := by omega
   clear h h1 h2
   obtain ⟨ad, rfl, hcell⟩ := Kd.C_cells plain57 hr0 (by simp)
   have HC := am hcell
   clear hcell hr0
   have HB := am (Below.refl w.heap.size w)
   have hx0 : rd_T57 [x] 0 = x := rfl
   have hl1 : ([x] : List S57).length = 1 := rfl
   rw [hx0]
   simp only [hl1, Int.toNat_natCast] at hc0 ⊢
   have b0 : ¬ (m : Int) < 0 := by omega
   have b1 : ((m : Int) % 18446744073709551616) = (m : Int) := by omega
   have b2 : (m : Int) ≤ 9223372036854775807 := by omega
   have b3 : ¬ (9223372036854775807 : Int) < (m : Int) := by omega
   have bm : ∀ w : World, Calls Try.prog 90 #[.int .u64 1, .int .u64 (m : Int)] w fun e w' => e = .returned (.tuple #[.int .u64 0, .int .u64 (m : Int)]) ∧ w' = w := fun w => (Try.bits_Mul 1 m (by omega) (by omega) w).mono (by
    rintro e w' ⟨rfl, rfl⟩
    have e1 : 1 * m / 18446744073709551616 = 0 := by omega
    have e2 : 1 * m % 18446744073709551616 = m := by omega
    rw [e1, e2]
    exact ⟨rfl, rfl⟩)
   have BM := am bm
   clear bm
   go_enter Try.func82, Try.ntmps82
   go_wp2_with (first | ((with_reducible refine gate_callee (f := 90) rfl ?_); refine goesL_ (some 18) rfl rfl Try.func90 (by kernel_rfl) rfl #[.int .u64 1, .int .u64 (m : Int)] rfl (by (try simp only [List.map_toArray, List.map_cons, List.map_nil]); first | done | rfl | (go_simp; done) | (simp; done)) ?_; refine (BM.out _).mono ?_; rintro e w' ⟨rfl, rfl⟩; refine ⟨_, rfl, ?_⟩) | ((with_reducible refine gate_dst (N := 30) rfl ?_); refine Kd.R_make k57 _ 57 rfl (N := 30) rfl 24 _ _ rfl (m : Int) rfl rfl Try.underlying24 (.agg #[(.string ⟨#[]⟩), (.int .i64 0)]) 24 info57 rfl (by decide) (by omega) z57 (ok := fun _ => True) (okp := fun _ => True) (k57_mkM _ _ _ z57 ) (fun _ hk => hk) trivial (by omega) (by omega) (Below.refl _ _) (Nat.le_refl _) ?_; intro v30 w4 ho5 hb hg_ hnew_; clear hg_ hnew_; simp only [Int.toNat_natCast] at ho5; obtain ⟨g, cap, rfl, _, _, _⟩ := Kd.R_form ho5 (by simp; omega); simp only [List.length_replicate] at ho5; have HO := am ho5; clear HB; have HB := am hb; clear ho5 hb))
   obtain ⟨w5, hrun, ho, hb⟩ := Kd.copy_run (P := Try.prog) plain57 24 Try.underlying24 size57 g 0 m cap ad 1 c0 HO.out 0 (by simp) [x] (by show Nat.min 1 m = 1; exact Nat.min_eq_left hm1) (by simp; omega) (fun j u hu => (HB.out.cell (World.block_lt_of_cell? _ _ (HC.out j u hu))).trans (HC.out j u hu)) HB.out
   have e0 : (List.replicate m z57).take 0 ++ [x] ++ (List.replicate m z57).drop (0 + [x].length) = List.replicate 1 x ++ List.replicate (m - 1) z57 := by simp
   rw [e0] at ho
   rw [hrun]
   clear hrun HO HB e0
   have HO := am ho
   have HB := am hb
   clear ho hb
   go_wp2
   go_loopg [8] m (fun kq v8 w1 => ∃ n : Nat, v8 = .int .i64 (n : Int) ∧ Aside0 (1 ≤ n ∧ n ≤ m) ∧ Aside0 (m - n ≤ kq) ∧ Aside0 (Kd.R k57 57 w1 w'.heap.size (fun _ => True) (.slice (some ⟨g, 0, none⟩) m cap) (List.replicate n x ++ List.replicate (m - n) z57)) ∧ Aside0 (Below w'.heap.size w' w1))
   case atStart => exact ⟨1, rfl, ⟨by omega, hm1⟩, ⟨by omega⟩, ⟨HO.out⟩, ⟨HB.out⟩⟩
   case round =>
    obtain ⟨n, rfl, HN, HK, HO, HB⟩ := hrel
    by_cases hn : n < m
    ·obtain ⟨k1, rfl⟩ : ∃ k1, gk = k1 + 1 := ⟨gk - 1, by have := HK.out; omega⟩
     have c1 : (n : Int) < (m : Int) := by omega
     have c2 : (0 : Int) ≤ (n : Int) := by omega
     have c3 : (n : Int) ≤ (m : Int) := by omega
     have c4 : (n : Int) ≤ (cap : Int) := by have h1 := (Kd.R_cap HO.out).1; simp at h1; have := HN.out; omega
     have c5 : ¬ cap = n := by have h1 := (Kd.R_cap HO.out).1; simp at h1; have := HN.out; omega
     obtain ⟨q, hq⟩ : ∃ q, q = min n (m - n) := ⟨_, rfl⟩
     have HQ := am hq
     clear hq
     go_wp2
     have hE1 : (List.replicate n x ++ List.replicate (m - n) z57).take q = List.replicate q x := by
      rw [List.take_append_of_le_length (by rw [List.length_replicate, HQ.out]; omega), List.take_replicate, Nat.min_eq_left (by rw [HQ.out]; omega)]
     have E1 := am hE1
     clear hE1
     go_region_law (refine Kd.step_copy plain57 rfl (.tmp 41) (.tmp 44) 24 rfl Try.underlying24 size57 g (n * 2) (m - n) (cap - n) ⟨g, 0, none⟩ n cap (by simp [Act.eval, Act.put]) (by simp [Act.eval, Act.put]) (show Kd.R k57 57 _ w'.heap.size (fun _ => True) (.slice (some ⟨g, 0, none⟩) m cap) (List.replicate n x ++ List.replicate (m - n) z57) from (xR HO.out)) n rfl (List.replicate q x) (by rw [List.length_replicate, HQ.out]) (by simp; have := HQ.out; omega) (fun j u hu => Kd.R_src plain57 (show Kd.R k57 57 _ w'.heap.size (fun _ => True) (.slice (some ⟨g, 0, none⟩) m cap) (List.replicate n x ++ List.replicate (m - n) z57) from (xR HO.out)) q (by simp; have := HQ.out; omega) j u (by rw [E1.out]; exact hu)) (w0 := w') (xW HB.out) ?_; intro w6 ho6 hb6; have HO6 := am ho6; have HB6 := am hb6; clear ho6 hb6)
     go_wp2
     go_roundg k1
     case measure => have := HK.out; omega
     case rel =>
      have hq1 : 1 ≤ q := by have := HN.out; rw [HQ.out]; omega
      have hq2 : n + q ≤ m := by rw [HQ.out]; omega
      have hq3 : q ≤ n := by rw [HQ.out]; omega
      have hR6 := HO6.out
      rw [impl_Cell_82.step_ x z57 n m (by omega) q hq2 hq3] at hR6
      refine ⟨n + q, ?_, ⟨by have := HN.out; omega, hq2⟩, ⟨by have := HK.out; omega⟩, ⟨hR6⟩, ⟨HB6.out⟩⟩
      refine congrArg (Value.int .i64) ?_
      first | (simp only [i64_w, i32_w]; unfold wrap64; omega) | (simp; unfold wrap64; omega) | omega
    ·have c1 : ¬ (n : Int) < (m : Int) := by omega
     go_wp2
     go_ret
     have hnm : n = m := by have := HN.out; omega
     subst hnm
     refine ⟨_, rfl, ?_, HB.out⟩
     have := HO.out
     rw [Nat.sub_self, List.replicate_zero, List.append_nil] at this
     exact this
  ·rw [if_neg h2] at h
   cases h
 ·rw [if_neg h1] at h
  cases h
def impl_newCells.f (a0 : Int) : Option ((List (S57))) := (impl_Cell_82.f (([(⟨(⟨#[]⟩ : ByteArray), (-1)⟩ : S57)] : List (S57))) a0).bind fun t409 => (some t409)
set_option maxHeartbeats 8000000 in
set_option maxRecDepth 100000 in
theorem impl_newCells.calls (a0 : Int) (r : List (S57)) (w : World) (h : impl_newCells.f a0 = some r) :
  Calls Try.prog 49 #[.int .i64 a0] w fun e w' => ∃ v0_ : Value, e = .returned (v0_) ∧ Kd.R k57 57 w' w.heap.size (fun _ => True) v0_ r ∧ Below w.heap.size w w' := by
 have hu57 := Try.underlying57
 have HB := am (Below.refl w.heap.size w)
 have H : ((impl_Cell_82.f (([(⟨(⟨#[]⟩ : ByteArray), (-1)⟩ : S57)] : List (S57))) a0).bind fun t409 => (some t409)) = some r := h
 clear h
 obtain ⟨y406, hy406⟩ : ∃ y_ : List (S57), y_ = (([(⟨(⟨#[]⟩ : ByteArray), (-1)⟩ : S57)] : List (S57))) := ⟨_, rfl⟩
 replace H : ((impl_Cell_82.f y406 a0).bind fun t409 => (some t409)) = some r := by first | (rw [hy406]; with_reducible exact H) | (have H2_ := (Option.bind_some _ _).symm.trans H; rw [hy406]; with_reducible exact H2_) | (have H2_ := (Option.bind_some _ _).symm.trans H; with_reducible exact H2_) | with_reducible exact H | (rw [hy406]; exact H) | exact H
 have Ny406 := am hy406
 clear hy406
 replace H := Option.bind_eq_some_iff.mp H
 obtain ⟨t409, A20, H⟩ := H
 replace H : (some t409) = some r := H
 have A2 := am A20
 clear A20
 obtain rfl := Option.some.inj H
 go_enter Try.func49, Try.ntmps49
 go_wp2_with (first | ((with_reducible refine gate_dst (N := 4) rfl ?_); refine Kd.R_lit k57 _ 57 ?hg (N := 4) ?hd (xs := ([(⟨(⟨#[]⟩ : ByteArray), (-1)⟩ : S57)] : List (S57))) (inner := [.string (⟨#[]⟩ : ByteArray), .int .i64 (-1)]) (ok := fun _ => True) (okp := fun _ => True) ?hr ?hp (fun _ hk => hk) trivial (Below.refl _ _) (Nat.le_refl _) (by simp) ?_; (case hd => rfl); (case hg => rfl); (case hr => first | (go_simp; done) | (go_simp; rfl)); (case hp => exact (Reps.c2 (show Kd.M k57 _ _ _ (⟨(⟨#[]⟩ : ByteArray), (-1)⟩ : S57) [.string (⟨#[]⟩ : ByteArray), .int .i64 (-1)] from (k57_mkM _ _ _ (⟨(⟨#[]⟩ : ByteArray), (-1)⟩ : S57) )) (Reps.none _ _))); intro v407 w3 ho4 hb hg_ hnew_; clear hg_ hnew_; (first | rw [← Ny406.out] at ho4 | (simp only [Int.reduceToNat] at ho4; rw [← Ny406.out] at ho4)); have HO408 := am (Kd.R_lower ho4 (below_size (xW HB.out))); replace HB := am (below_step (xW HB.out) hb); clear hb ho4; obtain ⟨Ao5, co5, eo5⟩ := Kd.R_slice HO408.out; subst eo5) | ((with_reducible refine gate_callee (f := 82) rfl ?_); refine xG (some 6) 82 Try.func82 #[.slice Ao5 y406.length co5, .int .i64 a0] (h := ?_); (with_reducible refine (impl_Cell_82.calls _ _ y406 a0 t409 _ ?side1 ?side2 A2.out).mono ?_); (case side1 => exact xC ((Kd.R_reads' HO408.out).2.2)); (case side2 => exact (Kd.R_reads' HO408.out).2.1); rintro e w6 ⟨v410, rfl, ho0, hb⟩; refine ⟨_, rfl, ?_⟩; have HO411 := am (Kd.R_lower (Kd.R_new' ho0 (Kd.R_lt (xR HO408.out))) (below_size (xW HB.out))); replace HO408 := am (Kd.R_elder' (xR HO408.out) (Kd.R_base ho0) hb); replace HB := am (below_step (xW HB.out) hb); (try clear hb); (try clear ho0)))
 go_ret
 exact ⟨_, xV, Kd.R_mono (xR HO411.out) (fun _ hk => trivial), xW HB.out⟩
def impl_TableNew.f (a0 : Int) : Option ((List (S57)) × (List (S57)) × Int × Bool) := (impl_isSize.f a0).bind fun t413 => (if t413 = true then ((impl_newCells.f a0).bind fun t414 => (some (t414, ([] : List (S57)), 0, true))) else (some (([] : List (S57)), ([] : List (S57)), 0, false)))
set_option maxHeartbeats 8000000 in
set_option maxRecDepth 100000 in
theorem impl_TableNew.calls (a0 : Int) (r1 : List (S57)) (r2 : List (S57)) (r3 : Int) (r4 : Bool) (w : World) (h : impl_TableNew.f a0 = some (r1, r2, r3, r4)) :
  Calls Try.prog 41 #[.int .i64 a0] w fun e w' => ∃ v0_ v1_ : Value, e = .returned (.tuple #[.agg #[v0_, v1_, .int .i64 r3], .bool r4]) ∧ Kd.R k57 57 w' w.heap.size (fun k_ => some k_ ≠ (v1_ : Value).ownBlock) v0_ r1 ∧ Kd.R k57 57 w' w.heap.size (fun k_ => some k_ ≠ (v0_ : Value).ownBlock) v1_ r2 ∧ Below w.heap.size w w' := by
 have hu26 := Try.underlying26
 have HB := am (Below.refl w.heap.size w)
 have H : ((impl_isSize.f a0).bind fun t413 => (if t413 = true then ((impl_newCells.f a0).bind fun t414 => (some (t414, ([] : List (S57)), 0, true))) else (some (([] : List (S57)), ([] : List (S57)), 0, false)))) = some (r1, r2, r3, r4) := h
 clear h
 replace H := Option.bind_eq_some_iff.mp H
 obtain ⟨t413, A20, H⟩ := H
 try dsimp only at H
 have A2 := am A20
 clear A20
 by_cases c3 : t413 = true
 ·subst c3
  have H1 : ((impl_newCells.f a0).bind fun t414 => (some (t414, ([] : List (S57)), 0, true))) = some (r1, r2, r3, r4) := by rw [if_pos rfl] at H; exact H
  clear H
  have H := H1
  clear H1
  replace H := Option.bind_eq_some_iff.mp H
  obtain ⟨t414, A40, H⟩ := H
  try dsimp only at H
  have A4 := am A40
  clear A40
  simp only [Option.some.injEq, Prod.mk.injEq] at H
  obtain ⟨rfl, rfl, rfl, rfl⟩ := H
  go_enter Try.func41, Try.ntmps41
  go_wp2_with (first | ((with_reducible refine gate_dst (N := 2) rfl ?_); refine xE (N := 2) (cs := #[.slice none 0 0, .slice none 0 0, .int .i64 0]) (t := 26) (h := ?_); intro gb412 hg w5 hbox hb; have BK412 := am (hbox); have GW412 := am (xS hg HB.out); have GE412 := am (xS hg HB.out); replace HB := am (below_step (xW HB.out) hb); clear hb hbox hg) | ((with_reducible refine gate_callee (f := 51) rfl ?_); refine xG (some 5) 51 Try.func51 #[.int .i64 a0] (h := ?_); (with_reducible refine (impl_isSize.calls a0 true _ A2.out).mono ?_); rintro e w' ⟨rfl, ⟨nd, rfl⟩⟩; refine ⟨_, rfl, ?_⟩; (try (rw [drewN_self w5]; generalize hq_ : World.drewN w5 _ = w5; have n0_ : Aside0 (w5.heap[gb412]? = some (.cells #[.slice none 0 0, .slice none 0 0, .int .i64 0] 26 (0, 0))) := ⟨by rw [← hq_]; exact (xB BK412.out)⟩; have n1_ : Aside0 (Below w.heap.size w w5) := ⟨by rw [← hq_]; exact (xW HB.out)⟩; clear BK412 HB hq_; have BK412 := n0_; have HB := n1_; clear n0_ n1_))) | ((with_reducible refine gate_callee (f := 49) rfl ?_); refine xG (some 9) 49 Try.func49 #[.int .i64 a0] (h := ?_); (with_reducible refine (impl_newCells.calls a0 t414 _ A4.out).mono ?_); rintro e w6 ⟨v415, rfl, ho0, hb⟩; refine ⟨_, rfl, ?_⟩; have HO416 := am (Kd.R_lower ho0 (below_size (xW HB.out))); replace BK412 := am (blk_below (xB BK412.out) hb); replace HB := am (below_step (xW HB.out) hb); (try clear hb); (try clear ho0); obtain ⟨Ao7, co7, eo7⟩ := Kd.R_slice HO416.out; subst eo7; obtain ⟨hcz8_0, hcz8_1, hcz8_2, hfz8_0, hfz8_1, hfz8_2⟩ := xT3 (W := w6) BK412.out))
  refine bodyPost_ret (results_ct rfl _ _ gb412 26 #[.slice Ao7 t414.length co7, .slice none 0 0, .int .i64 0] (0, 0) _ rfl (xP BK412.out) Try.underlying26 rfl (by kernel_rfl)) rfl ?_
  exact ⟨_, _, xV, by (with_reducible repeat (first | apply Kd.R_alloc | apply Kd.R_drewN | apply Kd.R_drew)); exact Kd.R_mono (Kd.R_far (p := ⟨gb412, 2, none⟩) (Kd.R_far (p := ⟨gb412, 1, none⟩) (Kd.R_far (p := ⟨gb412, 0, none⟩) (Kd.R_types HO416.out BK412.out (by decide)) (fun _ hk => hk.2) (.slice Ao7 t414.length co7)) (fun _ hk => hk.2) (.slice none 0 0)) (fun _ hk => hk.2) (.int .i64 0)) (fun _ hk => (by simp [Value.ownBlock])), by first | exact Kd.R_nil _ _ _ _ _ | exact Kd.N_nil _ _ _ _ _ | exact Kd.V_nil _ _ _ _ _ | exact Kd.Q_nil _ _ _ _ _ | exact Kd.S_nil _ _ _ _ _, xW HB.out⟩
 ·replace c3 := Bool.eq_false_iff.mpr c3
  subst c3
  have H1 : (some (([] : List (S57)), ([] : List (S57)), 0, false)) = some (r1, r2, r3, r4) := by rw [if_neg (show ¬ (false = true) by decide)] at H; exact H
  clear H
  have H := H1
  clear H1
  simp only [Option.some.injEq, Prod.mk.injEq] at H
  obtain ⟨rfl, rfl, rfl, rfl⟩ := H
  go_enter Try.func41, Try.ntmps41
  go_wp2_with (first | ((with_reducible refine gate_dst (N := 2) rfl ?_); refine xE (N := 2) (cs := #[.slice none 0 0, .slice none 0 0, .int .i64 0]) (t := 26) (h := ?_); intro gb412 hg w9 hbox hb; have BK412 := am (hbox); have GW412 := am (xS hg HB.out); have GE412 := am (xS hg HB.out); replace HB := am (below_step (xW HB.out) hb); clear hb hbox hg) | ((with_reducible refine gate_callee (f := 51) rfl ?_); refine xG (some 5) 51 Try.func51 #[.int .i64 a0] (h := ?_); (with_reducible refine (impl_isSize.calls a0 false _ A2.out).mono ?_); rintro e w' ⟨rfl, ⟨nd, rfl⟩⟩; refine ⟨_, rfl, ?_⟩; (try (rw [drewN_self w9]; generalize hq_ : World.drewN w9 _ = w9; have n0_ : Aside0 (w9.heap[gb412]? = some (.cells #[.slice none 0 0, .slice none 0 0, .int .i64 0] 26 (0, 0))) := ⟨by rw [← hq_]; exact (xB BK412.out)⟩; have n1_ : Aside0 (Below w.heap.size w w9) := ⟨by rw [← hq_]; exact (xW HB.out)⟩; clear BK412 HB hq_; have BK412 := n0_; have HB := n1_; clear n0_ n1_)); obtain ⟨hcz10_0, hcz10_1, hcz10_2, hfz10_0, hfz10_1, hfz10_2⟩ := xT3 (W := w9) BK412.out))
  refine bodyPost_ret (results_ct rfl _ _ gb412 26 #[.slice none 0 0, .slice none 0 0, .int .i64 0] (0, 0) _ rfl (xP BK412.out) Try.underlying26 rfl (by kernel_rfl)) rfl ?_
  exact ⟨_, _, xV, by first | exact Kd.R_nil _ _ _ _ _ | exact Kd.N_nil _ _ _ _ _ | exact Kd.V_nil _ _ _ _ _ | exact Kd.Q_nil _ _ _ _ _ | exact Kd.S_nil _ _ _ _ _, by first | exact Kd.R_nil _ _ _ _ _ | exact Kd.N_nil _ _ _ _ _ | exact Kd.V_nil _ _ _ _ _ | exact Kd.Q_nil _ _ _ _ _ | exact Kd.S_nil _ _ _ _ _, xW HB.out⟩
end Go.Proofs.Ytmahoekbedgbcaa.HFnKeyLists
