/- The pure statement of the law FnExactSumMore: plain Lean over numbers and lists. -/
import Derived.Test.YtimkonhlklfocaaPFnExactSumMorex1
import Derived.Test.YtimkonhlklfocaaMath
set_option linter.unusedSimpArgs false
set_option linter.unusedVariables false
namespace Go.Proofs.Ytimkonhlklfocaa.Pure
open Go.RowKit Go.Proofs.Ytimkonhlklfocaa.PFnExactSumMore Go.Proofs.YtimkonhlklfocaaW.PrintWords Go.Proofs.YtimkonhlklfocaaW.PrintLast Go.Proofs.Ytimkonhlklfocaa.Math

theorem spec_sum_in (s : ByteArray) (i : Int) (r : Int) (d : Nat) : ∀ (x j : Int), 0 ≤ x → x < 4294967296 → 0 ≤ j → 8 - j = d →
    Ev (fun k => spec_SumMore.l0 k (halves d x) s (wrap64 (i + 1))) r → Ev (fun k => spec_SumMore.l1 k x s i j) r := by
  induction d with
  | zero =>
    intro x j h0 h1 hj hd h
    exact Ev.step (fun k => by simp only [spec_SumMore.l1]; rw [if_neg (by omega)]; rfl) h
  | succ d ih =>
    intro x j h0 h1 hj hd h
    have ew : wrap64 (j + 1) = j + 1 := wrap64_id (by omega) (by omega)
    have et : Int.tdiv x 2 % 4294967296 = x / 2 := by rw [Int.tdiv_eq_ediv_of_nonneg h0]; omega
    have em : Int.tmod x 2 = x % 2 := Int.tmod_eq_emod_of_nonneg h0
    obtain ⟨a, b⟩ := half_range h0 h1
    refine Ev.step (f := fun k => spec_SumMore.l1 k (half x) s i (j + 1)) (fun k => ?_) (ih (half x) (j + 1) a b (by omega) (by omega) h)
    simp only [spec_SumMore.l1]
    rw [if_pos (by omega), ew, et, em]
    by_cases hx : x % 2 = 1
    · rw [if_pos hx, half, if_pos hx]
    · rw [if_neg hx, half, if_neg hx]
theorem spec_sum_out (s : ByteArray) (hs : s.size ≤ 140737488355328) (d : Nat) : ∀ (x : Int) (i : Nat), 0 ≤ x → x < 4294967296 → s.size - i = d → i ≤ s.size →
    Ev (fun k => spec_SumMore.l0 k x s (i : Int)) (sumL (s.data.toList.drop i) x) := by
  induction d with
  | zero =>
    intro x i h0 h1 hd hi
    have e : s.data.toList.drop i = [] := List.drop_eq_nil_of_le (by simp; omega)
    rw [e]
    exact Ev.step (f := fun _ => some x) (fun k => by simp only [spec_SumMore.l0]; rw [if_neg (by omega)]) (Ev.now x)
  | succ d ih =>
    intro x i h0 h1 hd hi
    obtain ⟨c, e, hb⟩ := drop_bt s i (by omega)
    have hc := c.toNat_lt
    obtain ⟨a, b⟩ := bits_xor_range x (c.toNat : Int)
    obtain ⟨a', b'⟩ := halves_range 8 a b
    have h := ih (sumByte x c) (i + 1) a' b' (by omega) (by omega)
    rw [e]
    have ew : wrap64 ((i : Int) + 1) = ((i + 1 : Nat) : Int) := by rw [wrap64_id (by omega) (by omega)]; omega
    refine Ev.step (f := fun k => spec_SumMore.l1 k (Go.bits .xor .u32 x (c.toNat : Int)) s i 0) (fun k => ?_) (spec_sum_in s i _ 8 _ 0 a b (by omega) (by omega) (by rw [ew]; exact h))
    simp only [spec_SumMore.l0]
    rw [if_pos (by omega), if_pos (by omega), hb, Int.emod_eq_of_lt (by omega) (by omega)]
theorem spec_sum (s : ByteArray) (hs : s.size ≤ 140737488355328) (x : Int) (h0 : 0 ≤ x) (h1 : x < 4294967296) : Ev (fun k => spec_SumMore.f k x s) (sumL s.data.toList x) := by
  simpa [spec_SumMore.f] using spec_sum_out s hs _ x 0 h0 h1 rfl (by omega)
theorem impl_sum_in (s : ByteArray) (i : Int) (r : Int) (d : Nat) : ∀ (x j : Int), 0 ≤ x → x < 4294967296 → 0 ≤ j → 8 - j = d →
    Ev (fun k => impl_SumMore.l0 k (halves d x) s (wrap64 (i + 1))) r → Ev (fun k => impl_SumMore.l1 k x s i j) r := by
  induction d with
  | zero =>
    intro x j h0 h1 hj hd h
    exact Ev.step (fun k => by simp only [impl_SumMore.l1]; rw [if_neg (by omega)]; rfl) h
  | succ d ih =>
    intro x j h0 h1 hj hd h
    have ew : wrap64 (j + 1) = j + 1 := wrap64_id (by omega) (by omega)
    have em : Go.bits .and .u32 x 1 = x % 2 := bits_and_one x h0 h1
    obtain ⟨a, b⟩ := half_range h0 h1
    refine Ev.step (f := fun k => impl_SumMore.l1 k (half x) s i (j + 1)) (fun k => ?_) (ih (half x) (j + 1) a b (by omega) (by omega) h)
    simp only [impl_SumMore.l1]
    rw [if_pos (by omega), ew, em]
    by_cases hx : x % 2 = 1
    · rw [if_pos hx, half, if_pos hx]
    · rw [if_neg hx, half, if_neg hx]
theorem impl_sum_out (s : ByteArray) (hs : s.size ≤ 140737488355328) (d : Nat) : ∀ (x : Int) (i : Nat), 0 ≤ x → x < 4294967296 → s.size - i = d → i ≤ s.size →
    Ev (fun k => impl_SumMore.l0 k x s (i : Int)) (sumL (s.data.toList.drop i) x) := by
  induction d with
  | zero =>
    intro x i h0 h1 hd hi
    have e : s.data.toList.drop i = [] := List.drop_eq_nil_of_le (by simp; omega)
    rw [e]
    exact Ev.step (f := fun _ => some x) (fun k => by simp only [impl_SumMore.l0]; rw [if_neg (by omega)]) (Ev.now x)
  | succ d ih =>
    intro x i h0 h1 hd hi
    obtain ⟨c, e, hb⟩ := drop_bt s i (by omega)
    have hc := c.toNat_lt
    obtain ⟨a, b⟩ := bits_xor_range x (c.toNat : Int)
    obtain ⟨a', b'⟩ := halves_range 8 a b
    have h := ih (sumByte x c) (i + 1) a' b' (by omega) (by omega)
    rw [e]
    have ew : wrap64 ((i : Int) + 1) = ((i + 1 : Nat) : Int) := by rw [wrap64_id (by omega) (by omega)]; omega
    refine Ev.step (f := fun k => impl_SumMore.l1 k (Go.bits .xor .u32 x (c.toNat : Int)) s i 0) (fun k => ?_) (impl_sum_in s i _ 8 _ 0 a b (by omega) (by omega) (by rw [ew]; exact h))
    simp only [impl_SumMore.l0]
    rw [if_pos (by omega), if_pos (by omega), hb, Int.emod_eq_of_lt (by omega) (by omega)]
theorem impl_sum (s : ByteArray) (hs : s.size ≤ 140737488355328) (x : Int) (h0 : 0 ≤ x) (h1 : x < 4294967296) : Ev (fun k => impl_SumMore.f k x s) (sumL s.data.toList x) := by
  simpa [impl_SumMore.f] using impl_sum_out s hs _ x 0 h0 h1 rfl (by omega)

theorem FnExactSumMore : laws_FnExactSumMore.Pure := by
  intro x s hx hs
  obtain ⟨h0, h1'⟩ := u32_range hx
  refine Ev.rounds ?_
  unfold laws_FnExactSumMore.f
  by_cases hb : (s.size : Int) > 1048576
  · simp only [if_pos hb]
    exact Ev.now _
  · simp only [if_neg hb]
    refine Ev.bind (spec_sum s (by omega) x h0 h1') ?_
    refine Ev.bind (impl_sum s (by omega) x h0 h1') ?_
    simp only [if_true]
    exact Ev.now _

end Go.Proofs.Ytimkonhlklfocaa.Pure
