/- The pure statement of the law FnExactVarText: plain Lean over numbers and lists. -/
import Derived.Test.YtimkonhlklfocaaPFnExactVarTextx1
import Derived.Test.YtimkonhlklfocaaMath
set_option linter.unusedSimpArgs false
set_option linter.unusedVariables false
namespace Go.Proofs.Ytimkonhlklfocaa.Pure
open Go.RowKit Go.Proofs.Ytimkonhlklfocaa.PFnExactVarText Go.Proofs.YtimkonhlklfocaaW.PrintWords Go.Proofs.YtimkonhlklfocaaW.PrintLast Go.Proofs.Ytimkonhlklfocaa.Math

theorem spec_in (a b c : Int) : spec_l01In.f a b c = some (decide (b ≤ a ∧ a ≤ c)) := by
  unfold spec_l01In.f
  by_cases h : a ≥ b
  · rw [if_pos h]
    simp [h]
  · rw [if_neg h]
    have : ¬ (b ≤ a ∧ a ≤ c) := fun z => h z.1
    simp [this]

theorem spec_var_loop (d : Nat) : ∀ (n : Int) (xs : List Int), 0 ≤ n → n ≤ 9223372036854775807 → n < 128 ^ (d + 1) → xs.length + d < 140737488355328 →
    Ev (fun k => spec_l01Var.l0 k n xs) (strOfNums (xs ++ varL d n)) := by
  induction d with
  | zero =>
    intro n xs h0 h9 h1 hl
    have h1' : n < 128 := by simpa using h1
    refine Ev.step (f := fun _ => some (strOfNums (xs ++ varL 0 n))) (fun k => ?_) (Ev.now _)
    simp only [spec_l01Var.l0]
    rw [if_neg (by omega), if_pos (by omega)]
    rfl
  | succ d ih =>
    intro n xs h0 h9 h1 hl
    by_cases hn : n > 127
    · have e1 : wrap64 (Int.tdiv n 128) = n / 128 := by rw [Int.tdiv_eq_ediv_of_nonneg h0, wrap64_id (by omega) (by omega)]
      have e2 : wrap64 ((Int.tmod n 128) + 128) % 256 = n % 128 + 128 := by rw [Int.tmod_eq_emod_of_nonneg h0, wrap64_id (by omega) (by omega)]; omega
      have hp : n / 128 < 128 ^ (d + 1) := by
        rw [Int.pow_succ] at h1
        omega
      have h := ih (n / 128) (xs ++ [n % 128 + 128]) (by omega) (by omega) hp (by simp; omega)
      have e3 : varL (d + 1) n = (n % 128 + 128) :: varL d (n / 128) := by simp only [varL]; rw [if_pos hn]
      rw [e3, ← List.singleton_append, ← List.append_assoc]
      refine Ev.step (fun k => ?_) h
      simp only [spec_l01Var.l0]
      rw [if_pos hn, if_pos (by omega), e1, e2]
    · refine Ev.step (f := fun _ => some (strOfNums (xs ++ varL (d + 1) n))) (fun k => ?_) (Ev.now _)
      simp only [spec_l01Var.l0, varL]
      rw [if_neg hn, if_pos (by omega), if_neg hn]
theorem spec_var (n : Int) (h0 : 0 ≤ n) (h1 : n ≤ 9223372036854775807) : Ev (fun k => spec_l01Var.f k n) (var n) := by
  have h := spec_var_loop 9 n [] h0 h1 (by omega) (by simp)
  simpa [var, spec_l01Var.f] using h

theorem impl_var_loop (d : Nat) : ∀ (n : Int) (xs : List Int), 0 ≤ n → n ≤ 9223372036854775807 → n < 128 ^ (d + 1) → xs.length + d < 140737488355328 →
    Ev (fun k => impl_varText.l0 k n xs) (strOfNums (xs ++ varL d n)) := by
  induction d with
  | zero =>
    intro n xs h0 h9 h1 hl
    have h1' : n < 128 := by simpa using h1
    refine Ev.step (f := fun _ => some (strOfNums (xs ++ varL 0 n))) (fun k => ?_) (Ev.now _)
    simp only [impl_varText.l0]
    rw [if_neg (by omega), if_pos (by omega)]
    rfl
  | succ d ih =>
    intro n xs h0 h9 h1 hl
    by_cases hn : n > 127
    · have e1 : wrap64 (Int.tdiv n 128) = n / 128 := by rw [Int.tdiv_eq_ediv_of_nonneg h0, wrap64_id (by omega) (by omega)]
      have e2 : wrap64 (128 + (Int.tmod n 128)) % 256 = n % 128 + 128 := by rw [Int.tmod_eq_emod_of_nonneg h0, wrap64_id (by omega) (by omega)]; omega
      have hp : n / 128 < 128 ^ (d + 1) := by
        rw [Int.pow_succ] at h1
        omega
      have h := ih (n / 128) (xs ++ [n % 128 + 128]) (by omega) (by omega) hp (by simp; omega)
      have e3 : varL (d + 1) n = (n % 128 + 128) :: varL d (n / 128) := by simp only [varL]; rw [if_pos hn]
      rw [e3, ← List.singleton_append, ← List.append_assoc]
      refine Ev.step (fun k => ?_) h
      simp only [impl_varText.l0]
      rw [if_pos hn, if_pos (by omega), e1, e2]
    · refine Ev.step (f := fun _ => some (strOfNums (xs ++ varL (d + 1) n))) (fun k => ?_) (Ev.now _)
      simp only [impl_varText.l0, varL]
      rw [if_neg hn, if_pos (by omega), if_neg hn]
theorem impl_var (n : Int) (h0 : 0 ≤ n) (h1 : n ≤ 9223372036854775807) : Ev (fun k => impl_varText.f k n) (var n) := by
  have h := impl_var_loop 9 n [] h0 h1 (by omega) (by simp)
  simpa [var, impl_varText.f] using h

theorem FnExactVarText : laws_FnExactVarText.Pure := by
  intro n hn
  refine Ev.rounds ?_
  unfold laws_FnExactVarText.f spec_VarText.f impl_VarText.f
  by_cases h0 : n < 0
  · have e : decide (0 ≤ n ∧ n ≤ 1000000000) = false := decide_eq_false (by omega)
    simp only [spec_in, e, if_pos h0, Option.bind_some]
    simp
    exact Ev.now _
  · by_cases h1 : n > 1000000000
    · have e : decide (0 ≤ n ∧ n ≤ 1000000000) = false := decide_eq_false (by omega)
      simp only [spec_in, e, if_pos h1, if_neg h0, Option.bind_some]
      simp
      exact Ev.now _
    · have e : decide (0 ≤ n ∧ n ≤ 1000000000) = true := decide_eq_true (by omega)
      simp only [spec_in, e, if_neg h1, if_neg h0, Option.bind_some, if_true]
      refine Ev.bind (Ev.bind (spec_var n (by omega) (by omega)) (Ev.now _)) ?_
      refine Ev.bind (Ev.bind (impl_var n (by omega) (by omega)) (Ev.now _)) ?_
      simp
      exact Ev.now _

end Go.Proofs.Ytimkonhlklfocaa.Pure
