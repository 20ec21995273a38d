/- The pure statement of the law FnHashes: plain Lean over numbers and lists. -/
import Derived.Test.YtcoboobnpmaahaaQHashx2
import Derived.Test.YtcoboobnpmaahaaMath
set_option linter.unusedSimpArgs false
set_option linter.unusedVariables false
namespace Go.Proofs.Ytcoboobnpmaahaa.Pure
open Go.RowKit Go.Proofs.Ytcoboobnpmaahaa.PFnHashes Go.Proofs.YtcoboobnpmaahaaW.PrintWords Go.Proofs.YtcoboobnpmaahaaW.PrintLast Go.Proofs.Ytcoboobnpmaahaa.Math

theorem spec_xor_step (a b out bit i k : Nat) (ha2 : a < 4294967296) (hb2 : b < 4294967296) (hbit : bit ≤ 4294967296) (ho : out < bit) (hi : i < 32) :
    spec_l04Xor.l0 (k + 1) (a : Int) (b : Int) (out : Int) (bit : Int) (i : Int) = spec_l04Xor.l0 k ((a / 2 : Nat) : Int) ((b / 2 : Nat) : Int) ((out + bit * ((a % 2 + b % 2) % 2) : Nat) : Int) ((2 * bit : Nat) : Int) ((i + 1 : Nat) : Int) := by
  have hi' : (i : Int) < 32 := by omega
  have hs : ((out : Int) = ((out + bit * ((a % 2 + b % 2) % 2) : Nat) : Int) ∧ ((a % 2 : Nat) : Int) = ((b % 2 : Nat) : Int)) ∨ (((out + bit : Nat) : Int) = ((out + bit * ((a % 2 + b % 2) % 2) : Nat) : Int) ∧ ¬ ((a % 2 : Nat) : Int) = ((b % 2 : Nat) : Int)) := by
    by_cases hab : a % 2 = b % 2
    · exact .inl ⟨by rw [show (a % 2 + b % 2) % 2 = 0 by omega, Nat.mul_zero, Nat.add_zero], by rw [hab]⟩
    · exact .inr ⟨by rw [show (a % 2 + b % 2) % 2 = 1 by omega, Nat.mul_one], fun h => hab (Int.ofNat.inj h)⟩
  have e1 : wrap64 (Int.tdiv (a : Int) 2) = ((a / 2 : Nat) : Int) := by rw [Int.tdiv_eq_ediv_of_nonneg (by omega), wrap64_id (by omega) (by omega)]; omega
  have e2 : wrap64 (Int.tdiv (b : Int) 2) = ((b / 2 : Nat) : Int) := by rw [Int.tdiv_eq_ediv_of_nonneg (by omega), wrap64_id (by omega) (by omega)]; omega
  have e3 : wrap64 (2 * (bit : Int)) = ((2 * bit : Nat) : Int) := by rw [wrap64_id (by omega) (by omega)]; omega
  have e4 : wrap64 ((i : Int) + 1) = ((i + 1 : Nat) : Int) := by rw [wrap64_id (by omega) (by omega)]; omega
  have e5 : wrap64 ((out : Int) + (bit : Int)) = ((out + bit : Nat) : Int) := by rw [wrap64_id (by omega) (by omega)]; omega
  have e6 : Int.tmod (a : Int) 2 = ((a % 2 : Nat) : Int) := by rw [Int.tmod_eq_emod_of_nonneg (by omega)]; omega
  have e7 : Int.tmod (b : Int) 2 = ((b % 2 : Nat) : Int) := by rw [Int.tmod_eq_emod_of_nonneg (by omega)]; omega
  simp only [spec_l04Xor.l0, e1, e2, e3, e4, e5, e6, e7]
  rcases hs with ⟨h1, h2⟩ | ⟨h1, h2⟩
  · rw [if_pos hi', if_pos h2, ← h1]
  · rw [if_pos hi', if_neg h2, ← h1]
theorem spec_xor_loop (d : Nat) : ∀ (i a b out bit : Nat), i + d = 32 → a < 2 ^ d → b < 2 ^ d → bit * 2 ^ d = 4294967296 → out < bit →
    Ev (fun k => spec_l04Xor.l0 k (a : Int) (b : Int) (out : Int) (bit : Int) (i : Int)) ((out + bit * (a ^^^ b) : Nat) : Int) := by
  induction d with
  | zero =>
    intro i a b out bit hi ha hb hbit ho
    have ea : a = 0 := by simpa using ha
    have eb : b = 0 := by simpa using hb
    subst ea eb
    refine Ev.step (f := fun _ => some (out : Int)) (fun k => ?_) (by simpa using Ev.now (out : Int))
    simp only [spec_l04Xor.l0]
    rw [if_neg (by omega)]
  | succ d ih =>
    intro i a b out bit hi ha hb hbit ho
    have hbit' : (2 * bit) * 2 ^ d = 4294967296 := by rw [← hbit, Nat.pow_succ]; ac_rfl
    have hb32 : 2 * bit ≤ 4294967296 := by
      rw [← hbit']
      exact Nat.le_mul_of_pos_right _ (Nat.two_pow_pos d)
    have hd : d + 1 ≤ 32 := by clear hbit hbit' ha hb; omega
    have ha2 : a < 4294967296 := Nat.lt_of_lt_of_le ha (Nat.pow_le_pow_right (by decide) hd)
    have hb2 : b < 4294967296 := Nat.lt_of_lt_of_le hb (Nat.pow_le_pow_right (by decide) hd)
    have ha' : a / 2 < 2 ^ d := by rw [Nat.pow_succ] at ha; exact Nat.div_lt_of_lt_mul (by rw [Nat.mul_comm]; exact ha)
    have hb' : b / 2 < 2 ^ d := by rw [Nat.pow_succ] at hb; exact Nat.div_lt_of_lt_mul (by rw [Nat.mul_comm]; exact hb)
    clear hbit ha hb
    have hx := xor_step a b
    have ho' : out + bit * ((a % 2 + b % 2) % 2) < 2 * bit := by
      rcases Nat.mod_two_eq_zero_or_one (a % 2 + b % 2) with h | h <;> rw [h] <;> omega
    have h := ih (i + 1) (a / 2) (b / 2) (out + bit * ((a % 2 + b % 2) % 2)) (2 * bit) (by omega) ha' hb' hbit' ho'
    have er : out + bit * (a ^^^ b) = out + bit * ((a % 2 + b % 2) % 2) + 2 * bit * ((a / 2) ^^^ (b / 2)) := by
      rw [hx, Nat.mul_add, ← Nat.mul_assoc, Nat.mul_comm bit 2, Nat.add_assoc]
    rw [er]
    exact Ev.step (fun k => spec_xor_step a b out bit i k ha2 hb2 (by omega) ho (by omega)) h
theorem spec_xor (x y : Int) (h0 : 0 ≤ x) (h1 : x < 4294967296) (h2 : 0 ≤ y) (h3 : y < 4294967296) : Ev (fun k => spec_l04Xor.f k x y) (Go.bits .xor .u32 x y) := by
  obtain ⟨a, rfl⟩ := Int.eq_ofNat_of_zero_le h0
  obtain ⟨b, rfl⟩ := Int.eq_ofNat_of_zero_le h2
  rw [bits_xor_nat a b (by omega) (by omega)]
  have h := spec_xor_loop 32 0 a b 0 1 (by decide) (by omega) (by omega) (by decide) (by decide)
  simpa [spec_l04Xor.f] using h
theorem spec_hash_loop (s : ByteArray) (hs : s.size ≤ 140737488355328) (d : Nat) : ∀ (x : Int) (i : Nat), 0 ≤ x → x < 4294967296 → s.size - i = d → i ≤ s.size →
    Ev (fun k => spec_HashOf.l0 k s x (i : Int)) (fold16 (hashL (s.data.toList.drop i) x)) := by
  induction d with
  | zero =>
    intro x i h0 h1 hd hi
    have e : s.data.toList.drop i = [] := List.drop_eq_nil_of_le (by simp; omega)
    have ew : wrap64 (Int.tdiv x 65536) = x / 65536 := by rw [Int.tdiv_eq_ediv_of_nonneg h0, wrap64_id (by omega) (by omega)]
    rw [e]
    refine Ev.step (f := fun k => (spec_l04Xor.f k x (x / 65536)).bind fun t => some t) (fun k => ?_) (Ev.bind (spec_xor x (x / 65536) h0 h1 (by omega) (by omega)) (Ev.now _))
    simp only [spec_HashOf.l0]
    rw [if_neg (by omega), ew]
  | succ d ih =>
    intro x i h0 h1 hd hi
    obtain ⟨c, e, hb⟩ := drop_bt s i (by omega)
    have hc := c.toNat_lt
    obtain ⟨a, b⟩ := bits_xor_range x (c.toNat : Int)
    obtain ⟨a', b'⟩ := hashByte_range x c
    have h := ih (hashByte x c) (i + 1) a' b' (by omega) (by omega)
    rw [e]
    have ew : wrap64 ((i : Int) + 1) = ((i + 1 : Nat) : Int) := by rw [wrap64_id (by omega) (by omega)]; omega
    have eb : wrap64 (bt s (i : Int)) = (c.toNat : Int) := by rw [hb, wrap64_id (by omega) (by omega)]
    have em : Int.tmod (wrap64 (Go.bits .xor .u32 x (c.toNat : Int) * 16777619)) 4294967296 = hashByte x c := by
      rw [wrap64_id (by omega) (by omega), Int.tmod_eq_emod_of_nonneg (by omega)]
      rfl
    refine Ev.step (f := fun k => (spec_l04Xor.f k x (c.toNat : Int)).bind fun t => spec_HashOf.l0 k s (Int.tmod (wrap64 (t * 16777619)) 4294967296) ((i + 1 : Nat) : Int)) (fun k => ?_) (Ev.bind (spec_xor x (c.toNat : Int) h0 h1 (by omega) (by omega)) (by rw [em]; exact h))
    simp only [spec_HashOf.l0]
    rw [if_pos (by omega), if_pos (by omega), eb, ew]
theorem spec_hash (s : ByteArray) (hs : s.size ≤ 140737488355328) (seed : Int) : Ev (fun k => spec_HashOf.f k s seed) (hashOf s seed) := by
  have hl := fun (x : Int) (h0 : 0 ≤ x) (h1 : x ≤ 1000000000) => spec_hash_loop s hs _ (2166136261 + x) 0 (by omega) (by omega) rfl (by omega)
  have h1 : ∀ x : Int, 0 ≤ x → x ≤ 1000000000 → Ev (fun k => spec_HashOf.j1 k s x) (fold16 (hashL s.data.toList (2166136261 + x))) := fun x h0 h1 => by
    have em : Int.tmod (wrap64 (2166136261 + x)) 4294967296 = 2166136261 + x := by rw [wrap64_id (by omega) (by omega), Int.tmod_eq_emod_of_nonneg (by omega)]; omega
    refine Ev.step (fun k => ?_) (by simpa using hl x h0 h1)
    simp only [spec_HashOf.j1]
    rw [em]
  have h2 : ∀ x : Int, 0 ≤ x → Ev (fun k => spec_HashOf.j0 k s x) (fold16 (hashL s.data.toList (2166136261 + (if x > 1000000000 then 1000000000 else x)))) := fun x h0 => by
    by_cases hx : x > 1000000000
    · refine Ev.step (fun k => ?_) (h1 1000000000 (by omega) (by omega) |> fun z => by simpa [hx] using z)
      simp only [spec_HashOf.j0]
      rw [if_pos hx]
    · refine Ev.step (fun k => ?_) (h1 x h0 (by omega) |> fun z => by simpa [hx] using z)
      simp only [spec_HashOf.j0]
      rw [if_neg hx]
  unfold spec_HashOf.f hashOf clampSeed
  by_cases hn : seed < 0
  · simp only [if_pos hn]
    simpa using h2 0 (by omega)
  · simp only [if_neg hn]
    exact h2 seed (by omega)
theorem impl_hash_loop (s : ByteArray) (hs : s.size ≤ 140737488355328) (d : Nat) : ∀ (x : Int) (i : Nat), 0 ≤ x → x < 4294967296 → s.size - i = d → i ≤ s.size →
    Ev (fun k => impl_HashOf.l0 k s x (i : Int)) (fold16 (hashL (s.data.toList.drop i) x)) := by
  induction d with
  | zero =>
    intro x i h0 h1 hd hi
    have e : s.data.toList.drop i = [] := List.drop_eq_nil_of_le (by simp; omega)
    obtain ⟨a, b⟩ := bits_xor_range x (x / 65536)
    rw [e]
    refine Ev.step (f := fun _ => some (fold16 x)) (fun k => ?_) (Ev.now _)
    simp only [impl_HashOf.l0]
    rw [if_neg (by omega), wrap64_id (by omega) (by omega)]
    rfl
  | succ d ih =>
    intro x i h0 h1 hd hi
    obtain ⟨c, e, hb⟩ := drop_bt s i (by omega)
    have hc := c.toNat_lt
    obtain ⟨a', b'⟩ := hashByte_range x c
    have h := ih (hashByte x c) (i + 1) a' b' (by omega) (by omega)
    rw [e]
    have ew : wrap64 ((i : Int) + 1) = ((i + 1 : Nat) : Int) := by rw [wrap64_id (by omega) (by omega)]; omega
    have eb : bt s (i : Int) % 4294967296 = (c.toNat : Int) := by rw [hb]; omega
    refine Ev.step (fun k => ?_) h
    simp only [impl_HashOf.l0]
    rw [if_pos (by omega), if_pos (by omega), eb, ew]
    rfl
theorem impl_hash (s : ByteArray) (hs : s.size ≤ 140737488355328) (seed : Int) : Ev (fun k => impl_HashOf.f k s seed) (hashOf s seed) := by
  obtain ⟨a, b⟩ := clampSeed_range seed
  have e : mx 0 (mn seed 1000000000) = clampSeed seed := by unfold mx mn clampSeed; omega
  have h := impl_hash_loop s hs _ (2166136261 + clampSeed seed) 0 (by omega) (by omega) rfl (by omega)
  unfold impl_HashOf.f hashOf
  rw [e]
  simpa using h

/-! ### a reader of draws -/
def CurOk (b : List Int) (i : Int) : Prop := 0 ≤ i ∧ i ≤ b.length ∧ b.length ≤ 140737488355328
theorem cur_new (l : List Int) (hl : l.length ≤ 140737488355328) : ∃ h, Ev (fun k => spec_l01New.f k l) (l, 0, h) := by
  have key : ∀ (d : Nat) (h : Int) (i : Nat), l.length - i = d → ∃ h', Ev (fun k => spec_l01New.l0 k l h (i : Int)) (l, 0, h') := by
    intro d
    induction d with
    | zero =>
      intro h i hd
      refine ⟨h, Ev.step (f := fun _ => some (l, 0, h)) (fun k => ?_) (Ev.now _)⟩
      simp only [spec_l01New.l0]
      rw [if_neg (by omega)]
    | succ d ih =>
      intro h i hd
      by_cases h4 : (i : Int) < 4000
      · obtain ⟨h', hh⟩ := ih (Go.bits .and .i64 (wrap64 ((wrap64 ((wrap64 (h * 131)) + (wrap64 (rd l (i : Int))))) + 7)) 1073741823) (i + 1) (by omega)
        refine ⟨h', Ev.step (fun k => ?_) hh⟩
        simp only [spec_l01New.l0]
        rw [if_pos (by omega), if_pos h4, if_pos (by omega), wrap64_id (x := (i : Int) + 1) (by omega) (by omega)]
        rfl
      · refine ⟨h, Ev.step (f := fun _ => some (l, 0, h)) (fun k => ?_) (Ev.now _)⟩
        simp only [spec_l01New.l0]
        rw [if_pos (by omega), if_neg h4]
  exact key _ _ 0 rfl
theorem cur_byte (b : List Int) (i h : Int) (hc : CurOk b i) : ∃ x i' h', spec_l01Byte.f b i h = some (x, i', h') ∧ (0 ≤ x ∧ x ≤ 255) ∧ CurOk b i' := by
  obtain ⟨h0, h1, h2⟩ := hc
  unfold spec_l01Byte.f
  by_cases hlt : i < (b.length : Int)
  · rw [if_pos hlt, if_pos h0]
    exact ⟨_, _, _, rfl, bits_and_255 _, by rw [wrap64_id (by omega) (by omega)]; exact ⟨by omega, by omega, h2⟩⟩
  · rw [if_neg hlt]
    exact ⟨_, _, _, rfl, bits_and_255 _, h0, h1, h2⟩
theorem cur_below (b : List Int) (i h n : Int) (hn : n ≤ 4294967296) (hc : CurOk b i) : ∃ x i' h', spec_l01Below.f b i h n = some (x, i', h') ∧ 0 ≤ x ∧ (x = 0 ∨ x < n) ∧ CurOk b i' := by
  unfold spec_l01Below.f
  by_cases h0 : n ≤ 0
  · rw [if_pos h0]
    exact ⟨_, _, _, rfl, by omega, .inl rfl, hc⟩
  · rw [if_neg h0]
    by_cases h1 : n ≤ 256
    · rw [if_pos h1]
      obtain ⟨x, i', h', e, ⟨hx0, hx1⟩, hc'⟩ := cur_byte b i h hc
      rw [e, Option.bind_some, if_neg (by omega)]
      have em : Int.tmod x n = x % n := Int.tmod_eq_emod_of_nonneg hx0
      exact ⟨_, _, _, rfl, by simp only [em]; exact Int.emod_nonneg _ (by omega), .inr (by simp only [em]; exact Int.emod_lt_of_pos _ (by omega)), hc'⟩
    · rw [if_neg h1]
      obtain ⟨x, i1, h1, e1, ⟨x0, x1⟩, c1⟩ := cur_byte b i h hc
      obtain ⟨y, i2, h2, e2, ⟨y0, y1⟩, c2⟩ := cur_byte b i1 h1 c1
      obtain ⟨z, i3, h3, e3, ⟨z0, z1⟩, c3⟩ := cur_byte b i2 h2 c2
      obtain ⟨v, i4, h4, e4, ⟨v0, v1⟩, c4⟩ := cur_byte b i3 h3 c3
      rw [e1, Option.bind_some]
      simp only [e2, Option.bind_some, e3, e4]
      rw [if_neg (by omega)]
      have a1 : wrap64 (x * 16777216) = x * 16777216 := wrap64_id (by omega) (by omega)
      have a2 : wrap64 (y * 65536) = y * 65536 := wrap64_id (by omega) (by omega)
      have a3 : wrap64 (x * 16777216 + y * 65536) = x * 16777216 + y * 65536 := wrap64_id (by omega) (by omega)
      have a4 : wrap64 (z * 256) = z * 256 := wrap64_id (by omega) (by omega)
      have a5 : wrap64 (x * 16777216 + y * 65536 + z * 256) = x * 16777216 + y * 65536 + z * 256 := wrap64_id (by omega) (by omega)
      have a6 : wrap64 (x * 16777216 + y * 65536 + z * 256 + v) = x * 16777216 + y * 65536 + z * 256 + v := wrap64_id (by omega) (by omega)
      rw [a1, a2, a3, a4, a5, a6]
      have em : Int.tmod (x * 16777216 + y * 65536 + z * 256 + v) n = (x * 16777216 + y * 65536 + z * 256 + v) % n := Int.tmod_eq_emod_of_nonneg (by omega)
      exact ⟨_, _, _, rfl, by simp only [em]; exact Int.emod_nonneg _ (by omega), .inr (by simp only [em]; exact Int.emod_lt_of_pos _ (by omega)), c4⟩

theorem cur_once (b : List Int) (i h n : Int) (hn : n ≤ 4294967296) (hc : CurOk b i) : ∃ x i' h', spec_l01Once.f b i h n = some (x, i', h') ∧ CurOk b i' := by
  obtain ⟨x, i', h', e, _, _, hc'⟩ := cur_below b i h n hn hc
  unfold spec_l01Once.f
  rw [e, Option.bind_some]
  exact ⟨_, _, _, rfl, hc'⟩

theorem cur_pickint (b : List Int) (i h : Int) (l : List Int) (hl : 0 < l.length) (hn : (l.length : Int) ≤ 4294967296) (hc : CurOk b i) : ∃ x i' h', spec_l01PickInt.f b i h l = some (x, i', h') ∧ x ∈ l ∧ CurOk b i' := by
  obtain ⟨x, i', h', e, h0, h1, hc'⟩ := cur_below b i h (l.length : Int) hn hc
  unfold spec_l01PickInt.f
  rw [e, Option.bind_some, if_pos (by simpa using h0), if_pos (by simp only; omega)]
  refine ⟨_, _, _, rfl, ?_, hc'⟩
  exact getD_mem l 0 x.toNat (by omega)

theorem cur_text_loop (b : List Int) (n : Int) (hn : n ≤ 5000) (d : Nat) : ∀ (xs : List Int) (j : Nat) (i h : Int), (n - j).toNat = d → xs.length + d ≤ 5000 → CurOk b i →
    ∃ s i' h', Ev (fun k => spec_l01Text.l0 k n xs (j : Int) b i h) (s, i', h') ∧ s.size ≤ xs.length + d ∧ CurOk b i' := by
  induction d with
  | zero =>
    intro xs j i h hd hx hc
    refine ⟨strOfNums xs, i, h, Ev.step (f := fun _ => some (strOfNums xs, i, h)) (fun k => ?_) (Ev.now _), by rw [strOfNums_size]; omega, hc⟩
    simp only [spec_l01Text.l0]
    rw [if_neg (by omega)]
  | succ d ih =>
    intro xs j i h hd hx hc
    obtain ⟨x, i1, h1, e1, _, c1⟩ := cur_byte b i h hc
    obtain ⟨s, i', h', hs, hsz, hc'⟩ := ih (xs ++ [x % 256]) (j + 1) i1 h1 (by omega) (by simp; omega) c1
    refine ⟨s, i', h', Ev.step (fun k => ?_) hs, by simp at hsz; omega, hc'⟩
    simp only [spec_l01Text.l0]
    rw [if_pos (by omega), e1, Option.bind_some, if_pos (by omega), wrap64_id (x := (j : Int) + 1) (by omega) (by omega)]
    rfl
theorem cur_text (b : List Int) (i h n : Int) (hn : n ≤ 5000) (hc : CurOk b i) : ∃ s i' h', Ev (fun k => spec_l01Text.f k b i h n) (s, i', h') ∧ s.size ≤ n.toNat ∧ CurOk b i' := by
  obtain ⟨s, i', h', hs, hsz, hc'⟩ := cur_text_loop b n hn n.toNat [] 0 i h (by omega) (by simp; omega) hc
  refine ⟨s, i', h', ?_, by simpa using hsz, hc'⟩
  unfold spec_l01Text.f
  simp only [if_neg (show ¬ n > 5000 by omega)]
  refine Ev.step (fun k => ?_) hs
  simp only [spec_l01Text.j0]
  rfl

theorem cur_place (b : List Int) (i h n : Int) (hn : n ≤ 4294967296) (hc : CurOk b i) : ∃ x i' h', spec_l01Place.f b i h n = some (x, i', h') ∧ CurOk b i' := by
  unfold spec_l01Place.f
  obtain ⟨x, i1, h1, e1, c1⟩ := cur_once b i h 15 (by omega) hc
  rw [e1, Option.bind_some]
  cases x with
  | true =>
    obtain ⟨y, i2, h2, e2, _, c2⟩ := cur_pickint b i1 h1 [(-1), n, wrap64 (n + 1), 9223372036854775807, (-9223372036854775808)] (by simp) (by simp) c1
    simp only [if_true, e2, Option.bind_some]
    exact ⟨_, _, _, rfl, c2⟩
  | false =>
    obtain ⟨y, i2, h2, e2, _, _, c2⟩ := cur_below b i1 h1 n hn c1
    simp only [Bool.false_eq_true, if_false, e2, Option.bind_some]
    exact ⟨_, _, _, rfl, c2⟩
theorem draw_hash (l : List Int) (hl : l.length ≤ 140737488355328) : ∃ s seed, Ev (fun k => spec_DrawHashOf.f k l) (s, seed) ∧ s.size ≤ 9 := by
  unfold spec_DrawHashOf.f
  obtain ⟨h, e0⟩ := cur_new l hl
  obtain ⟨n, i1, h1, e1, n0, n1, c1⟩ := cur_below l 0 h 9 (by omega) ⟨by omega, by omega, hl⟩
  obtain ⟨s, i2, h2, e2, hs, c2⟩ := cur_text l i1 h1 n (by omega) c1
  obtain ⟨x, i3, h3, e3, _⟩ := cur_place l i2 h2 9 (by omega) c2
  refine ⟨s, x, ?_, by omega⟩
  refine Ev.bind e0 ?_
  simp only [e1, Option.bind_some]
  refine Ev.bind e2 ?_
  simp only [e3, Option.bind_some]
  exact Ev.now _
theorem FnHashes : laws_FnHashes.Pure := by
  intro l hl hl1 hw
  refine Ev.rounds ?_
  unfold laws_FnHashes.f laws_big.f
  simp only [Option.bind_some]
  by_cases hb : (l.length : Int) > 1048576
  · simp only [decide_eq_true hb, if_true]
    exact Ev.now _
  · simp only [decide_eq_false hb, Bool.false_eq_true, if_false]
    obtain ⟨s, seed, hd, hs⟩ := draw_hash l (by omega)
    obtain ⟨r0, r1⟩ := hashOf_range s seed
    refine Ev.bind hd (Ev.bind (impl_hash s (by omega) seed) ?_)
    simp only [if_pos (show hashOf s seed ≥ 0 by omega), if_pos r1]
    refine Ev.bind (spec_hash s (by omega) seed) ?_
    simp only [if_true]
    have he : (⟨#[]⟩ : ByteArray).size ≤ 140737488355328 := by decide
    refine Ev.bind (impl_hash _ he 0) (Ev.bind (spec_hash _ he 0) ?_)
    simp only [if_true, if_pos (show s.size + 1 ≤ 9223372036854775807 by omega)]
    have hx : (s ++ (⟨#[120]⟩ : ByteArray)).size ≤ 140737488355328 := by
      rw [ByteArray.size_append]
      have : (⟨#[120]⟩ : ByteArray).size = 1 := rfl
      omega
    refine Ev.bind (impl_hash _ hx 3) (Ev.bind (spec_hash _ hx 3) ?_)
    simp only [beq_self_eq_true]
    exact Ev.now _

end Go.Proofs.Ytcoboobnpmaahaa.Pure
