/- The pure statement of the law FnExactUnsealed: plain Lean over numbers and lists. -/
import Derived.Test.YtimkonhlklfocaaPFnExactUnsealedx3
import Derived.Test.YtimkonhlklfocaaMath
set_option linter.unusedSimpArgs false
set_option linter.unusedVariables false
namespace Go.Proofs.Ytimkonhlklfocaa.Pure
open Go.RowKit Go.Proofs.Ytimkonhlklfocaa.PFnExactUnsealed Go.Proofs.YtimkonhlklfocaaW.PrintWords Go.Proofs.YtimkonhlklfocaaW.PrintLast Go.Proofs.Ytimkonhlklfocaa.Math

theorem spec_sum_in (s : ByteArray) (i : Int) (r : Int) (d : Nat) : ∀ (x j : Int), 0 ≤ x → x < 4294967296 → 0 ≤ j → 8 - j = d →
    Ev (fun k => spec_SumMore.l0 k (halves d x) s (wrap64 (i + 1))) r → Ev (fun k => spec_SumMore.l1 k x s i j) r := by
  induction d with
  | zero =>
    intro x j h0 h1 hj hd h
    exact Ev.step (fun k => by simp only [spec_SumMore.l1]; rw [if_neg (by omega)]; rfl) h
  | succ d ih =>
    intro x j h0 h1 hj hd h
    have ew : wrap64 (j + 1) = j + 1 := wrap64_id (by omega) (by omega)
    have et : Int.tdiv x 2 % 4294967296 = x / 2 := by rw [Int.tdiv_eq_ediv_of_nonneg h0]; omega
    have em : Int.tmod x 2 = x % 2 := Int.tmod_eq_emod_of_nonneg h0
    obtain ⟨a, b⟩ := half_range h0 h1
    refine Ev.step (f := fun k => spec_SumMore.l1 k (half x) s i (j + 1)) (fun k => ?_) (ih (half x) (j + 1) a b (by omega) (by omega) h)
    simp only [spec_SumMore.l1]
    rw [if_pos (by omega), ew, et, em]
    by_cases hx : x % 2 = 1
    · rw [if_pos hx, half, if_pos hx]
    · rw [if_neg hx, half, if_neg hx]
theorem spec_sum_out (s : ByteArray) (hs : s.size ≤ 140737488355328) (d : Nat) : ∀ (x : Int) (i : Nat), 0 ≤ x → x < 4294967296 → s.size - i = d → i ≤ s.size →
    Ev (fun k => spec_SumMore.l0 k x s (i : Int)) (sumL (s.data.toList.drop i) x) := by
  induction d with
  | zero =>
    intro x i h0 h1 hd hi
    have e : s.data.toList.drop i = [] := List.drop_eq_nil_of_le (by simp; omega)
    rw [e]
    exact Ev.step (f := fun _ => some x) (fun k => by simp only [spec_SumMore.l0]; rw [if_neg (by omega)]) (Ev.now x)
  | succ d ih =>
    intro x i h0 h1 hd hi
    obtain ⟨c, e, hb⟩ := drop_bt s i (by omega)
    have hc := c.toNat_lt
    obtain ⟨a, b⟩ := bits_xor_range x (c.toNat : Int)
    obtain ⟨a', b'⟩ := halves_range 8 a b
    have h := ih (sumByte x c) (i + 1) a' b' (by omega) (by omega)
    rw [e]
    have ew : wrap64 ((i : Int) + 1) = ((i + 1 : Nat) : Int) := by rw [wrap64_id (by omega) (by omega)]; omega
    refine Ev.step (f := fun k => spec_SumMore.l1 k (Go.bits .xor .u32 x (c.toNat : Int)) s i 0) (fun k => ?_) (spec_sum_in s i _ 8 _ 0 a b (by omega) (by omega) (by rw [ew]; exact h))
    simp only [spec_SumMore.l0]
    rw [if_pos (by omega), if_pos (by omega), hb, Int.emod_eq_of_lt (by omega) (by omega)]
theorem spec_sum (s : ByteArray) (hs : s.size ≤ 140737488355328) (x : Int) (h0 : 0 ≤ x) (h1 : x < 4294967296) : Ev (fun k => spec_SumMore.f k x s) (sumL s.data.toList x) := by
  simpa [spec_SumMore.f] using spec_sum_out s hs _ x 0 h0 h1 rfl (by omega)
theorem impl_sum_in (s : ByteArray) (i : Int) (r : Int) (d : Nat) : ∀ (x j : Int), 0 ≤ x → x < 4294967296 → 0 ≤ j → 8 - j = d →
    Ev (fun k => impl_SumMore.l0 k (halves d x) s (wrap64 (i + 1))) r → Ev (fun k => impl_SumMore.l1 k x s i j) r := by
  induction d with
  | zero =>
    intro x j h0 h1 hj hd h
    exact Ev.step (fun k => by simp only [impl_SumMore.l1]; rw [if_neg (by omega)]; rfl) h
  | succ d ih =>
    intro x j h0 h1 hj hd h
    have ew : wrap64 (j + 1) = j + 1 := wrap64_id (by omega) (by omega)
    have em : Go.bits .and .u32 x 1 = x % 2 := bits_and_one x h0 h1
    obtain ⟨a, b⟩ := half_range h0 h1
    refine Ev.step (f := fun k => impl_SumMore.l1 k (half x) s i (j + 1)) (fun k => ?_) (ih (half x) (j + 1) a b (by omega) (by omega) h)
    simp only [impl_SumMore.l1]
    rw [if_pos (by omega), ew, em]
    by_cases hx : x % 2 = 1
    · rw [if_pos hx, half, if_pos hx]
    · rw [if_neg hx, half, if_neg hx]
theorem impl_sum_out (s : ByteArray) (hs : s.size ≤ 140737488355328) (d : Nat) : ∀ (x : Int) (i : Nat), 0 ≤ x → x < 4294967296 → s.size - i = d → i ≤ s.size →
    Ev (fun k => impl_SumMore.l0 k x s (i : Int)) (sumL (s.data.toList.drop i) x) := by
  induction d with
  | zero =>
    intro x i h0 h1 hd hi
    have e : s.data.toList.drop i = [] := List.drop_eq_nil_of_le (by simp; omega)
    rw [e]
    exact Ev.step (f := fun _ => some x) (fun k => by simp only [impl_SumMore.l0]; rw [if_neg (by omega)]) (Ev.now x)
  | succ d ih =>
    intro x i h0 h1 hd hi
    obtain ⟨c, e, hb⟩ := drop_bt s i (by omega)
    have hc := c.toNat_lt
    obtain ⟨a, b⟩ := bits_xor_range x (c.toNat : Int)
    obtain ⟨a', b'⟩ := halves_range 8 a b
    have h := ih (sumByte x c) (i + 1) a' b' (by omega) (by omega)
    rw [e]
    have ew : wrap64 ((i : Int) + 1) = ((i + 1 : Nat) : Int) := by rw [wrap64_id (by omega) (by omega)]; omega
    refine Ev.step (f := fun k => impl_SumMore.l1 k (Go.bits .xor .u32 x (c.toNat : Int)) s i 0) (fun k => ?_) (impl_sum_in s i _ 8 _ 0 a b (by omega) (by omega) (by rw [ew]; exact h))
    simp only [impl_SumMore.l0]
    rw [if_pos (by omega), if_pos (by omega), hb, Int.emod_eq_of_lt (by omega) (by omega)]
theorem impl_sum (s : ByteArray) (hs : s.size ≤ 140737488355328) (x : Int) (h0 : 0 ≤ x) (h1 : x < 4294967296) : Ev (fun k => impl_SumMore.f k x s) (sumL s.data.toList x) := by
  simpa [impl_SumMore.f] using impl_sum_out s hs _ x 0 h0 h1 rfl (by omega)

theorem spec_sumof (s : ByteArray) (hs : s.size ≤ 140737488355328) : Ev (fun k => spec_SumOf.f k s) (sumL s.data.toList 4294967295) := by
  unfold spec_SumOf.f
  exact Ev.bind (spec_sum s hs 4294967295 (by omega) (by omega)) (Ev.now _)
theorem impl_sumof (s : ByteArray) (hs : s.size ≤ 140737488355328) : Ev (fun k => impl_SumOf.f k s) (sumL s.data.toList 4294967295) := by
  unfold impl_SumOf.f
  exact Ev.bind (impl_sum s hs 4294967295 (by omega) (by omega)) (Ev.now _)

def four (x : Int) : ByteArray := strOfNums [(x / 16777216) % 256, (x / 65536) % 256, (x / 256) % 256, x % 256]
theorem four_size (x : Int) : (four x).size = 4 := by
  unfold four
  rw [strOfNums_size]
  rfl
def tail4 (s : ByteArray) : ByteArray := four (sumL s.data.toList 4294967295)
theorem tail4_size (s : ByteArray) : (tail4 s).size = 4 := four_size _

theorem impl_sumtext (s : ByteArray) (hs : s.size ≤ 140737488355328) : Ev (fun k => impl_sumText.f k s) (tail4 s) := by
  unfold impl_sumText.f
  exact Ev.bind (impl_sumof s hs) (Ev.now _)

/-- What Unsealed tells, in plain words. -/
def bare (s : ByteArray) : ByteArray × Bool :=
  if (s.size : Int) - 4 < 0 then (⟨#[]⟩, false) else if (s.size : Int) - 4 > 20000 then (⟨#[]⟩, false)
  else if (tail4 (s.extract 0 (s.size - 4))).toList = (s.extract (s.size - 4) s.size).toList then (s.extract 0 (s.size - 4), true) else (⟨#[]⟩, false)
theorem impl_unsealed (s : ByteArray) (hs : s.size ≤ 140737488355328) : Ev (fun k => impl_Unsealed.f k s) (bare s) := by
  unfold impl_Unsealed.f bare
  have ew : wrap64 ((s.size : Int) - 4) = (s.size : Int) - 4 := wrap64_id (by omega) (by omega)
  have en : ((s.size : Int) - 4).toNat = s.size - 4 := by omega
  have hz : (s.extract 0 (s.size - 4)).size ≤ 140737488355328 := by
    rw [ByteArray.size_extract]
    omega
  simp only [ew, en]
  by_cases h0 : (s.size : Int) - 4 < 0
  · simp only [if_pos h0]
    exact Ev.now _
  · by_cases h1 : (s.size : Int) - 4 > 20000
    · simp only [if_neg h0, if_pos h1]
      exact Ev.now _
    · simp only [if_neg h0, if_neg h1, if_pos (show 0 ≤ (s.size : Int) - 4 by omega), if_pos (show (s.size : Int) - 4 ≤ (s.size : Int) by omega)]
      refine Ev.bind (impl_sumtext _ hz) ?_
      by_cases e : (tail4 (s.extract 0 (s.size - 4))).toList = (s.extract (s.size - 4) s.size).toList
      · simp only [if_pos e]
        exact Ev.now _
      · simp only [if_neg e]
        exact Ev.now _

theorem spec_unsealed (s : ByteArray) (hs : s.size ≤ 140737488355328) : Ev (fun k => spec_Unsealed.f k s) (bare s) := by
  unfold spec_Unsealed.f bare
  have ew : wrap64 ((s.size : Int) - 4) = (s.size : Int) - 4 := wrap64_id (by omega) (by omega)
  have en : ((s.size : Int) - 4).toNat = s.size - 4 := by omega
  have hz : (s.extract 0 (s.size - 4)).size ≤ 140737488355328 := by
    rw [ByteArray.size_extract]
    omega
  simp only [ew, en]
  by_cases h0 : (s.size : Int) - 4 < 0
  · simp only [if_pos h0]
    exact Ev.now _
  · by_cases h1 : (s.size : Int) - 4 > 20000
    · simp only [if_neg h0, if_pos h1]
      exact Ev.now _
    · simp only [if_neg h0, if_neg h1, if_pos (show 0 ≤ (s.size : Int) - 4 by omega), if_pos (show (s.size : Int) - 4 ≤ (s.size : Int) by omega)]
      refine Ev.bind (spec_sumof _ hz) ?_
      have ef : spec_l02Four.f (sumL (s.extract 0 (s.size - 4)).data.toList 4294967295) = some (tail4 (s.extract 0 (s.size - 4))) := rfl
      simp only [ef, Option.bind_some]
      by_cases e : (tail4 (s.extract 0 (s.size - 4))).toList = (s.extract (s.size - 4) s.size).toList
      · simp only [if_pos e, if_pos e.symm]
        exact Ev.now _
      · simp only [if_neg e, if_neg (fun z => e (Eq.symm z))]
        exact Ev.now _
theorem FnExactUnsealed : laws_FnExactUnsealed.Pure := by
  intro s hs
  refine Ev.rounds ?_
  unfold laws_FnExactUnsealed.f
  by_cases hb : (s.size : Int) > 1048576
  · simp only [if_pos hb]
    exact Ev.now _
  · simp only [if_neg hb]
    refine Ev.bind (spec_unsealed s (by omega)) ?_
    refine Ev.bind (impl_unsealed s (by omega)) ?_
    simp
    exact Ev.now _

end Go.Proofs.Ytimkonhlklfocaa.Pure
