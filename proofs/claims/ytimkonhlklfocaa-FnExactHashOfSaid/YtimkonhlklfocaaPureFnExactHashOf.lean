/- The pure statement of the law FnExactHashOf: plain Lean over numbers and lists. -/
import Derived.Test.YtimkonhlklfocaaPFnExactHashOfx1
import Derived.Test.YtimkonhlklfocaaMath
set_option linter.unusedSimpArgs false
set_option linter.unusedVariables false
namespace Go.Proofs.Ytimkonhlklfocaa.Pure
open Go.RowKit Go.Proofs.Ytimkonhlklfocaa.PFnExactHashOf Go.Proofs.YtimkonhlklfocaaW.PrintWords Go.Proofs.YtimkonhlklfocaaW.PrintLast Go.Proofs.Ytimkonhlklfocaa.Math

theorem spec_xor_step (a b out bit i k : Nat) (ha2 : a < 4294967296) (hb2 : b < 4294967296) (hbit : bit ≤ 4294967296) (ho : out < bit) (hi : i < 32) :
    spec_l04Xor.l0 (k + 1) (a : Int) (b : Int) (out : Int) (bit : Int) (i : Int) = spec_l04Xor.l0 k ((a / 2 : Nat) : Int) ((b / 2 : Nat) : Int) ((out + bit * ((a % 2 + b % 2) % 2) : Nat) : Int) ((2 * bit : Nat) : Int) ((i + 1 : Nat) : Int) := by
  have hi' : (i : Int) < 32 := by omega
  have hs : ((out : Int) = ((out + bit * ((a % 2 + b % 2) % 2) : Nat) : Int) ∧ ((a % 2 : Nat) : Int) = ((b % 2 : Nat) : Int)) ∨ (((out + bit : Nat) : Int) = ((out + bit * ((a % 2 + b % 2) % 2) : Nat) : Int) ∧ ¬ ((a % 2 : Nat) : Int) = ((b % 2 : Nat) : Int)) := by
    by_cases hab : a % 2 = b % 2
    · exact .inl ⟨by rw [show (a % 2 + b % 2) % 2 = 0 by omega, Nat.mul_zero, Nat.add_zero], by rw [hab]⟩
    · exact .inr ⟨by rw [show (a % 2 + b % 2) % 2 = 1 by omega, Nat.mul_one], fun h => hab (Int.ofNat.inj h)⟩
  have e1 : wrap64 (Int.tdiv (a : Int) 2) = ((a / 2 : Nat) : Int) := by rw [Int.tdiv_eq_ediv_of_nonneg (by omega), wrap64_id (by omega) (by omega)]; omega
  have e2 : wrap64 (Int.tdiv (b : Int) 2) = ((b / 2 : Nat) : Int) := by rw [Int.tdiv_eq_ediv_of_nonneg (by omega), wrap64_id (by omega) (by omega)]; omega
  have e3 : wrap64 (2 * (bit : Int)) = ((2 * bit : Nat) : Int) := by rw [wrap64_id (by omega) (by omega)]; omega
  have e4 : wrap64 ((i : Int) + 1) = ((i + 1 : Nat) : Int) := by rw [wrap64_id (by omega) (by omega)]; omega
  have e5 : wrap64 ((out : Int) + (bit : Int)) = ((out + bit : Nat) : Int) := by rw [wrap64_id (by omega) (by omega)]; omega
  have e6 : Int.tmod (a : Int) 2 = ((a % 2 : Nat) : Int) := by rw [Int.tmod_eq_emod_of_nonneg (by omega)]; omega
  have e7 : Int.tmod (b : Int) 2 = ((b % 2 : Nat) : Int) := by rw [Int.tmod_eq_emod_of_nonneg (by omega)]; omega
  simp only [spec_l04Xor.l0, e1, e2, e3, e4, e5, e6, e7]
  rcases hs with ⟨h1, h2⟩ | ⟨h1, h2⟩
  · rw [if_pos hi', if_pos h2, ← h1]
  · rw [if_pos hi', if_neg h2, ← h1]
theorem spec_xor_loop (d : Nat) : ∀ (i a b out bit : Nat), i + d = 32 → a < 2 ^ d → b < 2 ^ d → bit * 2 ^ d = 4294967296 → out < bit →
    Ev (fun k => spec_l04Xor.l0 k (a : Int) (b : Int) (out : Int) (bit : Int) (i : Int)) ((out + bit * (a ^^^ b) : Nat) : Int) := by
  induction d with
  | zero =>
    intro i a b out bit hi ha hb hbit ho
    have ea : a = 0 := by simpa using ha
    have eb : b = 0 := by simpa using hb
    subst ea eb
    refine Ev.step (f := fun _ => some (out : Int)) (fun k => ?_) (by simpa using Ev.now (out : Int))
    simp only [spec_l04Xor.l0]
    rw [if_neg (by omega)]
  | succ d ih =>
    intro i a b out bit hi ha hb hbit ho
    have hbit' : (2 * bit) * 2 ^ d = 4294967296 := by rw [← hbit, Nat.pow_succ]; ac_rfl
    have hb32 : 2 * bit ≤ 4294967296 := by
      rw [← hbit']
      exact Nat.le_mul_of_pos_right _ (Nat.two_pow_pos d)
    have hd : d + 1 ≤ 32 := by clear hbit hbit' ha hb; omega
    have ha2 : a < 4294967296 := Nat.lt_of_lt_of_le ha (Nat.pow_le_pow_right (by decide) hd)
    have hb2 : b < 4294967296 := Nat.lt_of_lt_of_le hb (Nat.pow_le_pow_right (by decide) hd)
    have ha' : a / 2 < 2 ^ d := by rw [Nat.pow_succ] at ha; exact Nat.div_lt_of_lt_mul (by rw [Nat.mul_comm]; exact ha)
    have hb' : b / 2 < 2 ^ d := by rw [Nat.pow_succ] at hb; exact Nat.div_lt_of_lt_mul (by rw [Nat.mul_comm]; exact hb)
    clear hbit ha hb
    have hx := xor_step a b
    have ho' : out + bit * ((a % 2 + b % 2) % 2) < 2 * bit := by
      rcases Nat.mod_two_eq_zero_or_one (a % 2 + b % 2) with h | h <;> rw [h] <;> omega
    have h := ih (i + 1) (a / 2) (b / 2) (out + bit * ((a % 2 + b % 2) % 2)) (2 * bit) (by omega) ha' hb' hbit' ho'
    have er : out + bit * (a ^^^ b) = out + bit * ((a % 2 + b % 2) % 2) + 2 * bit * ((a / 2) ^^^ (b / 2)) := by
      rw [hx, Nat.mul_add, ← Nat.mul_assoc, Nat.mul_comm bit 2, Nat.add_assoc]
    rw [er]
    exact Ev.step (fun k => spec_xor_step a b out bit i k ha2 hb2 (by omega) ho (by omega)) h
theorem spec_xor (x y : Int) (h0 : 0 ≤ x) (h1 : x < 4294967296) (h2 : 0 ≤ y) (h3 : y < 4294967296) : Ev (fun k => spec_l04Xor.f k x y) (Go.bits .xor .u32 x y) := by
  obtain ⟨a, rfl⟩ := Int.eq_ofNat_of_zero_le h0
  obtain ⟨b, rfl⟩ := Int.eq_ofNat_of_zero_le h2
  rw [bits_xor_nat a b (by omega) (by omega)]
  have h := spec_xor_loop 32 0 a b 0 1 (by decide) (by omega) (by omega) (by decide) (by decide)
  simpa [spec_l04Xor.f] using h
theorem spec_hash_loop (s : ByteArray) (hs : s.size ≤ 140737488355328) (d : Nat) : ∀ (x : Int) (i : Nat), 0 ≤ x → x < 4294967296 → s.size - i = d → i ≤ s.size →
    Ev (fun k => spec_HashOf.l0 k s x (i : Int)) (fold16 (hashL (s.data.toList.drop i) x)) := by
  induction d with
  | zero =>
    intro x i h0 h1 hd hi
    have e : s.data.toList.drop i = [] := List.drop_eq_nil_of_le (by simp; omega)
    have ew : wrap64 (Int.tdiv x 65536) = x / 65536 := by rw [Int.tdiv_eq_ediv_of_nonneg h0, wrap64_id (by omega) (by omega)]
    rw [e]
    refine Ev.step (f := fun k => (spec_l04Xor.f k x (x / 65536)).bind fun t => some t) (fun k => ?_) (Ev.bind (spec_xor x (x / 65536) h0 h1 (by omega) (by omega)) (Ev.now _))
    simp only [spec_HashOf.l0]
    rw [if_neg (by omega), ew]
  | succ d ih =>
    intro x i h0 h1 hd hi
    obtain ⟨c, e, hb⟩ := drop_bt s i (by omega)
    have hc := c.toNat_lt
    obtain ⟨a, b⟩ := bits_xor_range x (c.toNat : Int)
    obtain ⟨a', b'⟩ := hashByte_range x c
    have h := ih (hashByte x c) (i + 1) a' b' (by omega) (by omega)
    rw [e]
    have ew : wrap64 ((i : Int) + 1) = ((i + 1 : Nat) : Int) := by rw [wrap64_id (by omega) (by omega)]; omega
    have eb : wrap64 (bt s (i : Int)) = (c.toNat : Int) := by rw [hb, wrap64_id (by omega) (by omega)]
    have em : Int.tmod (wrap64 (Go.bits .xor .u32 x (c.toNat : Int) * 16777619)) 4294967296 = hashByte x c := by
      rw [wrap64_id (by omega) (by omega), Int.tmod_eq_emod_of_nonneg (by omega)]
      rfl
    refine Ev.step (f := fun k => (spec_l04Xor.f k x (c.toNat : Int)).bind fun t => spec_HashOf.l0 k s (Int.tmod (wrap64 (t * 16777619)) 4294967296) ((i + 1 : Nat) : Int)) (fun k => ?_) (Ev.bind (spec_xor x (c.toNat : Int) h0 h1 (by omega) (by omega)) (by rw [em]; exact h))
    simp only [spec_HashOf.l0]
    rw [if_pos (by omega), if_pos (by omega), eb, ew]
theorem spec_hash (s : ByteArray) (hs : s.size ≤ 140737488355328) (seed : Int) : Ev (fun k => spec_HashOf.f k s seed) (hashOf s seed) := by
  have hl := fun (x : Int) (h0 : 0 ≤ x) (h1 : x ≤ 1000000000) => spec_hash_loop s hs _ (2166136261 + x) 0 (by omega) (by omega) rfl (by omega)
  have h1 : ∀ x : Int, 0 ≤ x → x ≤ 1000000000 → Ev (fun k => spec_HashOf.j1 k s x) (fold16 (hashL s.data.toList (2166136261 + x))) := fun x h0 h1 => by
    have em : Int.tmod (wrap64 (2166136261 + x)) 4294967296 = 2166136261 + x := by rw [wrap64_id (by omega) (by omega), Int.tmod_eq_emod_of_nonneg (by omega)]; omega
    refine Ev.step (fun k => ?_) (by simpa using hl x h0 h1)
    simp only [spec_HashOf.j1]
    rw [em]
  have h2 : ∀ x : Int, 0 ≤ x → Ev (fun k => spec_HashOf.j0 k s x) (fold16 (hashL s.data.toList (2166136261 + (if x > 1000000000 then 1000000000 else x)))) := fun x h0 => by
    by_cases hx : x > 1000000000
    · refine Ev.step (fun k => ?_) (h1 1000000000 (by omega) (by omega) |> fun z => by simpa [hx] using z)
      simp only [spec_HashOf.j0]
      rw [if_pos hx]
    · refine Ev.step (fun k => ?_) (h1 x h0 (by omega) |> fun z => by simpa [hx] using z)
      simp only [spec_HashOf.j0]
      rw [if_neg hx]
  unfold spec_HashOf.f hashOf clampSeed
  by_cases hn : seed < 0
  · simp only [if_pos hn]
    simpa using h2 0 (by omega)
  · simp only [if_neg hn]
    exact h2 seed (by omega)
theorem impl_hash_loop (s : ByteArray) (hs : s.size ≤ 140737488355328) (d : Nat) : ∀ (x : Int) (i : Nat), 0 ≤ x → x < 4294967296 → s.size - i = d → i ≤ s.size →
    Ev (fun k => impl_HashOf.l0 k s x (i : Int)) (fold16 (hashL (s.data.toList.drop i) x)) := by
  induction d with
  | zero =>
    intro x i h0 h1 hd hi
    have e : s.data.toList.drop i = [] := List.drop_eq_nil_of_le (by simp; omega)
    obtain ⟨a, b⟩ := bits_xor_range x (x / 65536)
    rw [e]
    refine Ev.step (f := fun _ => some (fold16 x)) (fun k => ?_) (Ev.now _)
    simp only [impl_HashOf.l0]
    rw [if_neg (by omega), wrap64_id (by omega) (by omega)]
    rfl
  | succ d ih =>
    intro x i h0 h1 hd hi
    obtain ⟨c, e, hb⟩ := drop_bt s i (by omega)
    have hc := c.toNat_lt
    obtain ⟨a', b'⟩ := hashByte_range x c
    have h := ih (hashByte x c) (i + 1) a' b' (by omega) (by omega)
    rw [e]
    have ew : wrap64 ((i : Int) + 1) = ((i + 1 : Nat) : Int) := by rw [wrap64_id (by omega) (by omega)]; omega
    have eb : bt s (i : Int) % 4294967296 = (c.toNat : Int) := by rw [hb]; omega
    refine Ev.step (fun k => ?_) h
    simp only [impl_HashOf.l0]
    rw [if_pos (by omega), if_pos (by omega), eb, ew]
    rfl
theorem impl_hash (s : ByteArray) (hs : s.size ≤ 140737488355328) (seed : Int) : Ev (fun k => impl_HashOf.f k s seed) (hashOf s seed) := by
  obtain ⟨a, b⟩ := clampSeed_range seed
  have e : mx 0 (mn seed 1000000000) = clampSeed seed := by unfold mx mn clampSeed; omega
  have h := impl_hash_loop s hs _ (2166136261 + clampSeed seed) 0 (by omega) (by omega) rfl (by omega)
  unfold impl_HashOf.f hashOf
  rw [e]
  simpa using h

theorem FnExactHashOf : laws_FnExactHashOf.Pure := by
  intro s seed hs hseed
  refine Ev.rounds ?_
  unfold laws_FnExactHashOf.f
  by_cases hb : (s.size : Int) > 1048576
  · simp only [if_pos hb]
    exact Ev.now _
  · simp only [if_neg hb]
    refine Ev.bind (spec_hash s (by omega) seed) ?_
    refine Ev.bind (impl_hash s (by omega) seed) ?_
    simp only [if_true]
    exact Ev.now _

end Go.Proofs.Ytimkonhlklfocaa.Pure
