/- The pure statement of the law FnExactShortText: plain Lean over numbers and lists. -/
import Derived.Test.YtimkonhlklfocaaPFnExactShortTextx1
import Derived.Test.YtimkonhlklfocaaMath
set_option linter.unusedSimpArgs false
set_option linter.unusedVariables false
namespace Go.Proofs.Ytimkonhlklfocaa.Pure
open Go.RowKit Go.Proofs.Ytimkonhlklfocaa.PFnExactShortText Go.Proofs.YtimkonhlklfocaaW.PrintWords Go.Proofs.YtimkonhlklfocaaW.PrintLast Go.Proofs.Ytimkonhlklfocaa.Math

theorem spec_var_loop (d : Nat) : ∀ (n : Int) (xs : List Int), 0 ≤ n → n ≤ 9223372036854775807 → n < 128 ^ (d + 1) → xs.length + d < 140737488355328 →
    Ev (fun k => spec_l01Var.l0 k n xs) (strOfNums (xs ++ varL d n)) := by
  induction d with
  | zero =>
    intro n xs h0 h9 h1 hl
    have h1' : n < 128 := by simpa using h1
    refine Ev.step (f := fun _ => some (strOfNums (xs ++ varL 0 n))) (fun k => ?_) (Ev.now _)
    simp only [spec_l01Var.l0]
    rw [if_neg (by omega), if_pos (by omega)]
    rfl
  | succ d ih =>
    intro n xs h0 h9 h1 hl
    by_cases hn : n > 127
    · have e1 : wrap64 (Int.tdiv n 128) = n / 128 := by rw [Int.tdiv_eq_ediv_of_nonneg h0, wrap64_id (by omega) (by omega)]
      have e2 : wrap64 ((Int.tmod n 128) + 128) % 256 = n % 128 + 128 := by rw [Int.tmod_eq_emod_of_nonneg h0, wrap64_id (by omega) (by omega)]; omega
      have hp : n / 128 < 128 ^ (d + 1) := by
        rw [Int.pow_succ] at h1
        omega
      have h := ih (n / 128) (xs ++ [n % 128 + 128]) (by omega) (by omega) hp (by simp; omega)
      have e3 : varL (d + 1) n = (n % 128 + 128) :: varL d (n / 128) := by simp only [varL]; rw [if_pos hn]
      rw [e3, ← List.singleton_append, ← List.append_assoc]
      refine Ev.step (fun k => ?_) h
      simp only [spec_l01Var.l0]
      rw [if_pos hn, if_pos (by omega), e1, e2]
    · refine Ev.step (f := fun _ => some (strOfNums (xs ++ varL (d + 1) n))) (fun k => ?_) (Ev.now _)
      simp only [spec_l01Var.l0, varL]
      rw [if_neg hn, if_pos (by omega), if_neg hn]
theorem spec_var (n : Int) (h0 : 0 ≤ n) (h1 : n ≤ 9223372036854775807) : Ev (fun k => spec_l01Var.f k n) (var n) := by
  have h := spec_var_loop 9 n [] h0 h1 (by omega) (by simp)
  simpa [var, spec_l01Var.f] using h

theorem impl_var_loop (d : Nat) : ∀ (n : Int) (xs : List Int), 0 ≤ n → n ≤ 9223372036854775807 → n < 128 ^ (d + 1) → xs.length + d < 140737488355328 →
    Ev (fun k => impl_varText.l0 k n xs) (strOfNums (xs ++ varL d n)) := by
  induction d with
  | zero =>
    intro n xs h0 h9 h1 hl
    have h1' : n < 128 := by simpa using h1
    refine Ev.step (f := fun _ => some (strOfNums (xs ++ varL 0 n))) (fun k => ?_) (Ev.now _)
    simp only [impl_varText.l0]
    rw [if_neg (by omega), if_pos (by omega)]
    rfl
  | succ d ih =>
    intro n xs h0 h9 h1 hl
    by_cases hn : n > 127
    · have e1 : wrap64 (Int.tdiv n 128) = n / 128 := by rw [Int.tdiv_eq_ediv_of_nonneg h0, wrap64_id (by omega) (by omega)]
      have e2 : wrap64 (128 + (Int.tmod n 128)) % 256 = n % 128 + 128 := by rw [Int.tmod_eq_emod_of_nonneg h0, wrap64_id (by omega) (by omega)]; omega
      have hp : n / 128 < 128 ^ (d + 1) := by
        rw [Int.pow_succ] at h1
        omega
      have h := ih (n / 128) (xs ++ [n % 128 + 128]) (by omega) (by omega) hp (by simp; omega)
      have e3 : varL (d + 1) n = (n % 128 + 128) :: varL d (n / 128) := by simp only [varL]; rw [if_pos hn]
      rw [e3, ← List.singleton_append, ← List.append_assoc]
      refine Ev.step (fun k => ?_) h
      simp only [impl_varText.l0]
      rw [if_pos hn, if_pos (by omega), e1, e2]
    · refine Ev.step (f := fun _ => some (strOfNums (xs ++ varL (d + 1) n))) (fun k => ?_) (Ev.now _)
      simp only [impl_varText.l0, varL]
      rw [if_neg hn, if_pos (by omega), if_neg hn]
theorem impl_var (n : Int) (h0 : 0 ≤ n) (h1 : n ≤ 9223372036854775807) : Ev (fun k => impl_varText.f k n) (var n) := by
  have h := impl_var_loop 9 n [] h0 h1 (by omega) (by simp)
  simpa [var, impl_varText.f] using h

theorem varL_length (d : Nat) : ∀ n, (varL d n).length ≤ d + 1 := by
  induction d with
  | zero => intro n; simp [varL]
  | succ d ih =>
    intro n
    simp only [varL]
    split
    · have := ih (n / 128)
      simp
      omega
    · simp
theorem var_size (n : Int) : (var n).size ≤ 10 := by
  unfold var
  rw [strOfNums_size]
  exact varL_length 9 n

theorem spec_short (s : ByteArray) (h : ¬ (s.size : Int) > 20000) : Ev (fun k => spec_ShortText.f k s) (var s.size ++ s, true) := by
  unfold spec_ShortText.f
  simp only [if_neg h]
  refine Ev.bind (spec_var s.size (by omega) (by omega)) ?_
  have := var_size s.size
  simp only [if_pos (show (var s.size).size + s.size ≤ 9223372036854775807 by omega)]
  exact Ev.now _
theorem impl_short (s : ByteArray) (h : ¬ (s.size : Int) > 20000) : Ev (fun k => impl_ShortText.f k s) (var s.size ++ s, true) := by
  unfold impl_ShortText.f
  simp only [if_neg h]
  refine Ev.bind (impl_var s.size (by omega) (by omega)) ?_
  have := var_size s.size
  simp only [if_pos (show (var s.size).size + s.size ≤ 9223372036854775807 by omega)]
  exact Ev.now _

theorem FnExactShortText : laws_FnExactShortText.Pure := by
  intro s hs
  refine Ev.rounds ?_
  unfold laws_FnExactShortText.f
  by_cases hb : (s.size : Int) > 1048576
  · simp only [if_pos hb]
    exact Ev.now _
  · simp only [if_neg hb]
    by_cases h : (s.size : Int) > 20000
    · unfold spec_ShortText.f impl_ShortText.f
      simp [if_pos h]
      exact Ev.now _
    · refine Ev.bind (spec_short s h) ?_
      refine Ev.bind (impl_short s h) ?_
      simp
      exact Ev.now _

end Go.Proofs.Ytimkonhlklfocaa.Pure
