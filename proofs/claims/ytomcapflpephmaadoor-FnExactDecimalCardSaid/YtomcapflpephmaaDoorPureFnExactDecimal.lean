/- The pure statement of the law FnExactDecimal: plain Lean over numbers and lists. -/
import Derived.Test.YtomcapflpephmaaDoorHFnExactDecimalx1
import Derived.Test.YtomcapflpephmaaDoorMath
set_option linter.unusedSimpArgs false
set_option linter.unusedVariables false
namespace Go.Proofs.YtomcapflpephmaaDoor.Pure
open Go.RowKit Go.Proofs.YtomcapflpephmaaDoor.HFnExactDecimal Go.Proofs.YtomcapflpephmaaDoorW.PrintWords Go.Proofs.YtomcapflpephmaaDoorW.PrintLast Go.Proofs.YtomcapflpephmaaDoor.Math

theorem bytes_eq {a b : ByteArray} (h : a.data.toList = b.data.toList) : a = b := by
  cases a; cases b; simpa using h

theorem spec_fig10 (d : Nat) (h : d < 10) : spec_l01Figure.f (d : Int) = some (48 + (d : Int)) := by
  unfold spec_l01Figure.f
  have e : Aside0 (wrap64 (48 + (d : Int)) = 48 + (d : Int)) := ⟨wrap64_id (by omega) (by omega)⟩
  rw [if_pos (by omega), e.out, Int.emod_eq_of_lt (by omega) (by omega)]
theorem one_digit (d : Nat) (h : d < 10) : (strOfNums [48 + (d : Int)]).data.toList = [UInt8.ofNat (48 + d)] := by
  rw [strOfNums_data]
  have e : (48 + (d : Int)).toNat = 48 + d := by omega
  simp [e]
/-- The decimal text of a number's magnitude, figure by figure from the last. -/
theorem spec_decimal_loop (j : Nat) : ∀ (m : Nat) (x : Int) (neg : Bool) (acc : ByteArray), x.natAbs = m → m < 10 ^ j → j ≤ 19 → acc.size + j ≤ 1000 → -9223372036854775808 ≤ x → x ≤ 9223372036854775807 →
    Ev (fun k => spec_Decimal.l0 k x neg acc) (⟨((if neg = true then [45] else []) ++ ((if m = 0 then [] else Lib.decDigits m) ++ acc.data.toList)).toArray⟩ : ByteArray) := by
  have h0 : ∀ (neg : Bool) (acc : ByteArray), acc.size ≤ 1000 → Ev (fun k => spec_Decimal.l0 k 0 neg acc) (⟨((if neg = true then [45] else []) ++ acc.data.toList).toArray⟩ : ByteArray) := by
    intro neg acc ha
    refine Ev.step (f := fun _ => some (⟨((if neg = true then [45] else []) ++ acc.data.toList).toArray⟩ : ByteArray)) (fun k => ?_) (Ev.now _)
    simp only [spec_Decimal.l0]
    rw [if_pos trivial]
    cases neg with
    | false => rw [if_neg (by simp)]; exact congrArg some (bytes_eq (by simp))
    | true => rw [if_pos rfl, if_pos (by omega)]; exact congrArg some (bytes_eq (by simp [ByteArray.data_append]))
  induction j with
  | zero =>
    intro m x neg acc hx hm hj ha h1 h2
    have e : m = 0 := by simp at hm; omega
    subst e
    have e : x = 0 := by omega
    subst e
    simpa using h0 neg acc (by omega)
  | succ j ih =>
    intro m x neg acc hx hm hj ha h1 h2
    by_cases hz : m = 0
    · subst hz
      have e : x = 0 := by omega
      subst e
      simpa using h0 neg acc (by omega)
    · have hx0 : ¬ x = 0 := by omega
      have hq : m / 10 < 10 ^ j := by rw [Nat.div_lt_iff_lt_mul (by decide), ← Nat.pow_succ]; exact hm
      have hqd : (Int.tdiv x 10).natAbs = m / 10 := by rw [Int.natAbs_tdiv]; rw [hx]; rfl
      have hqw : Aside0 (wrap64 (Int.tdiv x 10) = Int.tdiv x 10) := ⟨wrap64_id (by omega) (by omega)⟩
      have hr : m % 10 < 10 := Nat.mod_lt _ (by decide)
      have hm10 : Int.tmod x 10 < 0 ∧ wrap64 (-(Int.tmod x 10)) = ((m % 10 : Nat) : Int) ∨ ¬ Int.tmod x 10 < 0 ∧ Int.tmod x 10 = ((m % 10 : Nat) : Int) := by
        have e := Int.tmod_add_mul_tdiv x 10
        have e2 : (Int.tmod x 10).natAbs = m % 10 := by rw [Int.natAbs_tmod, hx]; rfl
        by_cases hn : Int.tmod x 10 < 0
        · refine .inl ⟨hn, ?_⟩
          rw [wrap64_id (by omega) (by omega)]
          omega
        · exact .inr ⟨hn, by omega⟩
      have hsz : (strOfNums [48 + ((m % 10 : Nat) : Int)]).size = 1 := by rw [Lib.size_eq, one_digit _ hr]; rfl
      have ihq := ih (m / 10) (Int.tdiv x 10) neg (strOfNums [48 + ((m % 10 : Nat) : Int)] ++ acc) hqd hq (by omega) (by rw [ByteArray.size_append, hsz]; omega) (by omega) (by omega)
      have eo : (⟨((if neg = true then [45] else []) ++ ((if m / 10 = 0 then [] else Lib.decDigits (m / 10)) ++ (strOfNums [48 + ((m % 10 : Nat) : Int)] ++ acc).data.toList)).toArray⟩ : ByteArray) = ⟨((if neg = true then [45] else []) ++ ((if m = 0 then [] else Lib.decDigits m) ++ acc.data.toList)).toArray⟩ := by
        apply bytes_eq
        rw [if_neg hz]
        have eA : (strOfNums [48 + ((m % 10 : Nat) : Int)] ++ acc).data.toList = UInt8.ofNat (48 + m % 10) :: acc.data.toList := by
          rw [ByteArray.data_append, Array.toList_append, one_digit _ hr]; rfl
        have eD : Lib.decDigits m = (if m / 10 = 0 then [] else Lib.decDigits (m / 10)) ++ [UInt8.ofNat (48 + m % 10)] := by
          conv => lhs; rw [Lib.decDigits]
          by_cases hs : m < 10
          · rw [dif_pos hs, if_pos (by omega), Nat.mod_eq_of_lt hs]; rfl
          · rw [dif_neg hs, if_neg (by omega)]
        simp only [eA, eD, List.append_assoc, List.singleton_append]
      rw [eo] at ihq
      refine Ev.step (fun k => ?_) ihq
      simp only [spec_Decimal.l0]
      rw [if_neg hx0]
      rcases hm10 with ⟨hn, e⟩ | ⟨hn, e⟩
      · rw [if_pos hn, e, spec_fig10 _ hr, Option.bind_some, Option.bind_some, if_pos (by rw [hsz]; omega), hqw.out]
      · rw [if_neg hn, e, spec_fig10 _ hr, Option.bind_some, Option.bind_some, if_pos (by rw [hsz]; omega), hqw.out]
theorem spec_decimal (x : Int) (h1 : -9223372036854775808 ≤ x) (h2 : x ≤ 9223372036854775807) : Ev (fun k => spec_Decimal.f k x) (⟨(Lib.itoa x).toArray⟩ : ByteArray) := by
  unfold spec_Decimal.f
  by_cases hz : x = 0
  · subst hz
    simp only [if_true]
    have e : (⟨#[48]⟩ : ByteArray) = ⟨(Lib.itoa 0).toArray⟩ := by
      apply bytes_eq
      show [48] = _
      simp only [Lib.itoa, if_neg (show ¬ (0 : Int) < 0 by omega)]
      rw [Lib.decDigits_one (by decide)]
      rfl
    rw [← e]
    exact Ev.now _
  · simp only [if_neg hz]
    have h := spec_decimal_loop 19 x.natAbs x (decide (x < 0)) ⟨#[]⟩ rfl (by simp; omega) (by omega) (by decide) h1 h2
    have e : (⟨((if decide (x < 0) = true then [45] else []) ++ ((if x.natAbs = 0 then [] else Lib.decDigits x.natAbs) ++ (⟨#[]⟩ : ByteArray).data.toList)).toArray⟩ : ByteArray) = ⟨(Lib.itoa x).toArray⟩ := by
      apply bytes_eq
      have hz' : ¬ x.natAbs = 0 := by omega
      rw [if_neg hz']
      unfold Lib.itoa
      by_cases hn : x < 0
      · simp [hn]
      · have e2 : x.toNat = x.natAbs := by omega
        simp [hn, e2]
    rw [e] at h
    exact h

theorem impl_decimal (x : Int) (h1 : -9223372036854775808 ≤ x) (h2 : x ≤ 9223372036854775807) : impl_Decimal.f x = some (⟨(Lib.itoa x).toArray⟩ : ByteArray) := by
  unfold impl_Decimal.f strconv_Itoa.f
  rw [if_pos h1, if_pos h2]
  rfl

theorem FnExactDecimal : laws_FnExactDecimal.Pure := by
  intro x hx
  obtain ⟨h1, h2⟩ := i64_range hx
  refine Ev.rounds ?_
  unfold laws_FnExactDecimal.f
  refine Ev.bind (spec_decimal x h1 h2) ?_
  simp only [impl_decimal x h1 h2, Option.bind_some, if_true]
  exact Ev.now _

end Go.Proofs.YtomcapflpephmaaDoor.Pure
