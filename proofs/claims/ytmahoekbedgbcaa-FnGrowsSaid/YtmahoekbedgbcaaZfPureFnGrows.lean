/- What the row of the law needs of the printed and the plain texts. -/
import Derived.Test.YtmahoekbedgbcaaZfHFnGrowsx17
import Derived.Test.YtmahoekbedgbcaaZfMath
set_option linter.unusedSimpArgs false
set_option linter.unusedVariables false
namespace Go.Proofs.Ytmahoekbedgbcaa.Pure
open Go.RowKit Go.Proofs.Ytmahoekbedgbcaa.HFnGrows Go.Proofs.YtmahoekbedgbcaaW.PrintWords Go.Proofs.YtmahoekbedgbcaaW.PrintLast Go.Proofs.Ytmahoekbedgbcaa.Math
def CurOk (b : List Int) (i : Int) : Prop := 0 ≤ i ∧ i ≤ b.length ∧ b.length ≤ 140737488355328
theorem cur_new (l : List Int) (hl : l.length ≤ 140737488355328) : ∃ h, Ev (fun k => spec_l01New.f k l) (l, 0, h) := by
  have key : ∀ (d : Nat) (h : Int) (i : Nat), l.length - i = d → ∃ h', Ev (fun k => spec_l01New.l0 k l h (i : Int)) (l, 0, h') := by
    intro d
    induction d with
    | zero =>
      intro h i hd
      refine ⟨h, Ev.step (f := fun _ => some (l, 0, h)) (fun k => ?_) (Ev.now _)⟩
      simp only [spec_l01New.l0]
      rw [if_neg (by omega)]
    | succ d ih =>
      intro h i hd
      by_cases h4 : (i : Int) < 4000
      · obtain ⟨h', hh⟩ := ih (Go.bits .and .i64 (wrap64 ((wrap64 ((wrap64 (h * 131)) + (wrap64 (rd l (i : Int))))) + 7)) 1073741823) (i + 1) (by omega)
        refine ⟨h', Ev.step (fun k => ?_) hh⟩
        simp only [spec_l01New.l0]
        rw [if_pos (by omega), if_pos h4, if_pos (by omega), wrap64_id (x := (i : Int) + 1) (by omega) (by omega)]
        rfl
      · refine ⟨h, Ev.step (f := fun _ => some (l, 0, h)) (fun k => ?_) (Ev.now _)⟩
        simp only [spec_l01New.l0]
        rw [if_pos (by omega), if_neg h4]
  exact key _ _ 0 rfl
theorem cur_byte (b : List Int) (i h : Int) (hc : CurOk b i) : ∃ x i' h', spec_l01Byte.f b i h = some (x, i', h') ∧ (0 ≤ x ∧ x ≤ 255) ∧ CurOk b i' := by
  obtain ⟨h0, h1, h2⟩ := hc
  unfold spec_l01Byte.f
  by_cases hlt : i < (b.length : Int)
  · rw [if_pos hlt, if_pos h0]
    exact ⟨_, _, _, rfl, bits_and_255 _, by rw [wrap64_id (by omega) (by omega)]; exact ⟨by omega, by omega, h2⟩⟩
  · rw [if_neg hlt]
    exact ⟨_, _, _, rfl, bits_and_255 _, h0, h1, h2⟩
theorem cur_below (b : List Int) (i h n : Int) (hn : n ≤ 4294967296) (hc : CurOk b i) : ∃ x i' h', spec_l01Below.f b i h n = some (x, i', h') ∧ 0 ≤ x ∧ (x = 0 ∨ x < n) ∧ CurOk b i' := by
  unfold spec_l01Below.f
  by_cases h0 : n ≤ 0
  · rw [if_pos h0]
    exact ⟨_, _, _, rfl, by omega, .inl rfl, hc⟩
  · rw [if_neg h0]
    by_cases h1 : n ≤ 256
    · rw [if_pos h1]
      obtain ⟨x, i', h', e, ⟨hx0, hx1⟩, hc'⟩ := cur_byte b i h hc
      rw [e, Option.bind_some, if_neg (by omega)]
      have em : Int.tmod x n = x % n := Int.tmod_eq_emod_of_nonneg hx0
      exact ⟨_, _, _, rfl, by simp only [em]; exact Int.emod_nonneg _ (by omega), .inr (by simp only [em]; exact Int.emod_lt_of_pos _ (by omega)), hc'⟩
    · rw [if_neg h1]
      obtain ⟨x, i1, h1, e1, ⟨x0, x1⟩, c1⟩ := cur_byte b i h hc
      obtain ⟨y, i2, h2, e2, ⟨y0, y1⟩, c2⟩ := cur_byte b i1 h1 c1
      obtain ⟨z, i3, h3, e3, ⟨z0, z1⟩, c3⟩ := cur_byte b i2 h2 c2
      obtain ⟨v, i4, h4, e4, ⟨v0, v1⟩, c4⟩ := cur_byte b i3 h3 c3
      rw [e1, Option.bind_some]
      simp only [e2, Option.bind_some, e3, e4]
      rw [if_neg (by omega)]
      have a1 : wrap64 (x * 16777216) = x * 16777216 := wrap64_id (by omega) (by omega)
      have a2 : wrap64 (y * 65536) = y * 65536 := wrap64_id (by omega) (by omega)
      have a3 : wrap64 (x * 16777216 + y * 65536) = x * 16777216 + y * 65536 := wrap64_id (by omega) (by omega)
      have a4 : wrap64 (z * 256) = z * 256 := wrap64_id (by omega) (by omega)
      have a5 : wrap64 (x * 16777216 + y * 65536 + z * 256) = x * 16777216 + y * 65536 + z * 256 := wrap64_id (by omega) (by omega)
      have a6 : wrap64 (x * 16777216 + y * 65536 + z * 256 + v) = x * 16777216 + y * 65536 + z * 256 + v := wrap64_id (by omega) (by omega)
      rw [a1, a2, a3, a4, a5, a6]
      have em : Int.tmod (x * 16777216 + y * 65536 + z * 256 + v) n = (x * 16777216 + y * 65536 + z * 256 + v) % n := Int.tmod_eq_emod_of_nonneg (by omega)
      exact ⟨_, _, _, rfl, by simp only [em]; exact Int.emod_nonneg _ (by omega), .inr (by simp only [em]; exact Int.emod_lt_of_pos _ (by omega)), c4⟩
theorem cur_pick (b : List Int) (i h : Int) (l : List ByteArray) (hl : 0 < l.length) (hn : (l.length : Int) ≤ 4294967296) (hc : CurOk b i) : ∃ x i' h', spec_l01Pick.f b i h l = some (x, i', h') ∧ x ∈ l ∧ CurOk b i' := by
  obtain ⟨x, i', h', e, h0, h1, hc'⟩ := cur_below b i h (l.length : Int) hn hc
  unfold spec_l01Pick.f
  rw [e, Option.bind_some, if_pos (by simpa using h0), if_pos (by simp only; omega)]
  refine ⟨_, _, _, rfl, ?_, hc'⟩
  exact getD_mem l ByteArray.empty x.toNat (by omega)
def keys12 : List ByteArray := [⟨#[97]⟩, ⟨#[98]⟩, ⟨#[99]⟩, ⟨#[100]⟩, ⟨#[101]⟩, ⟨#[102]⟩, ⟨#[103]⟩, ⟨#[104]⟩, ⟨#[107, 49]⟩, ⟨#[107, 50]⟩, ⟨#[107, 51]⟩, ⟨#[107, 101, 121]⟩]
theorem keys12_size : ∀ s ∈ keys12, 0 < s.size ∧ s.size ≤ 3 := by
  intro s hs
  simp only [keys12, List.mem_cons, List.not_mem_nil, or_false] at hs
  rcases hs with rfl | rfl | rfl | rfl | rfl | rfl | rfl | rfl | rfl | rfl | rfl | rfl <;> decide
theorem cur_key (b : List Int) (i h : Int) (hc : CurOk b i) : ∃ s i' h', spec_l03Key.f b i h = some (s, i', h') ∧ s ∈ keys12 ∧ CurOk b i' := by
  obtain ⟨x, i', h', e, hm, hc'⟩ := cur_pick b i h keys12 (by decide) (by decide) hc
  unfold spec_l03Key.f
  unfold keys12 at e
  rw [e, Option.bind_some]
  exact ⟨_, _, _, rfl, hm, hc'⟩
theorem cur_pickint (b : List Int) (i h : Int) (l : List Int) (hl : 0 < l.length) (hn : (l.length : Int) ≤ 4294967296) (hc : CurOk b i) : ∃ x i' h', spec_l01PickInt.f b i h l = some (x, i', h') ∧ x ∈ l ∧ CurOk b i' := by
  obtain ⟨x, i', h', e, h0, h1, hc'⟩ := cur_below b i h (l.length : Int) hn hc
  unfold spec_l01PickInt.f
  rw [e, Option.bind_some, if_pos (by simpa using h0), if_pos (by simp only; omega)]
  refine ⟨_, _, _, rfl, ?_, hc'⟩
  exact getD_mem l 0 x.toNat (by omega)
theorem spec_xor_step (a b out bit i k : Nat) (ha2 : a < 4294967296) (hb2 : b < 4294967296) (hbit : bit ≤ 4294967296) (ho : out < bit) (hi : i < 32) :
    spec_l04Xor.l0 (k + 1) (a : Int) (b : Int) (out : Int) (bit : Int) (i : Int) = spec_l04Xor.l0 k ((a / 2 : Nat) : Int) ((b / 2 : Nat) : Int) ((out + bit * ((a % 2 + b % 2) % 2) : Nat) : Int) ((2 * bit : Nat) : Int) ((i + 1 : Nat) : Int) := by
  have hi' : (i : Int) < 32 := by omega
  have hs : ((out : Int) = ((out + bit * ((a % 2 + b % 2) % 2) : Nat) : Int) ∧ ((a % 2 : Nat) : Int) = ((b % 2 : Nat) : Int)) ∨ (((out + bit : Nat) : Int) = ((out + bit * ((a % 2 + b % 2) % 2) : Nat) : Int) ∧ ¬ ((a % 2 : Nat) : Int) = ((b % 2 : Nat) : Int)) := by
    by_cases hab : a % 2 = b % 2
    · exact .inl ⟨by rw [show (a % 2 + b % 2) % 2 = 0 by omega, Nat.mul_zero, Nat.add_zero], by rw [hab]⟩
    · exact .inr ⟨by rw [show (a % 2 + b % 2) % 2 = 1 by omega, Nat.mul_one], fun h => hab (Int.ofNat.inj h)⟩
  have e1 : wrap64 (Int.tdiv (a : Int) 2) = ((a / 2 : Nat) : Int) := by rw [Int.tdiv_eq_ediv_of_nonneg (by omega), wrap64_id (by omega) (by omega)]; omega
  have e2 : wrap64 (Int.tdiv (b : Int) 2) = ((b / 2 : Nat) : Int) := by rw [Int.tdiv_eq_ediv_of_nonneg (by omega), wrap64_id (by omega) (by omega)]; omega
  have e3 : wrap64 (2 * (bit : Int)) = ((2 * bit : Nat) : Int) := by rw [wrap64_id (by omega) (by omega)]; omega
  have e4 : wrap64 ((i : Int) + 1) = ((i + 1 : Nat) : Int) := by rw [wrap64_id (by omega) (by omega)]; omega
  have e5 : wrap64 ((out : Int) + (bit : Int)) = ((out + bit : Nat) : Int) := by rw [wrap64_id (by omega) (by omega)]; omega
  have e6 : Int.tmod (a : Int) 2 = ((a % 2 : Nat) : Int) := by rw [Int.tmod_eq_emod_of_nonneg (by omega)]; omega
  have e7 : Int.tmod (b : Int) 2 = ((b % 2 : Nat) : Int) := by rw [Int.tmod_eq_emod_of_nonneg (by omega)]; omega
  simp only [spec_l04Xor.l0, e1, e2, e3, e4, e5, e6, e7]
  rcases hs with ⟨h1, h2⟩ | ⟨h1, h2⟩
  · rw [if_pos hi', if_pos h2, ← h1]
  · rw [if_pos hi', if_neg h2, ← h1]
theorem spec_xor_loop (d : Nat) : ∀ (i a b out bit : Nat), i + d = 32 → a < 2 ^ d → b < 2 ^ d → bit * 2 ^ d = 4294967296 → out < bit →
    Ev (fun k => spec_l04Xor.l0 k (a : Int) (b : Int) (out : Int) (bit : Int) (i : Int)) ((out + bit * (a ^^^ b) : Nat) : Int) := by
  induction d with
  | zero =>
    intro i a b out bit hi ha hb hbit ho
    have ea : a = 0 := by simpa using ha
    have eb : b = 0 := by simpa using hb
    subst ea eb
    refine Ev.step (f := fun _ => some (out : Int)) (fun k => ?_) (by simpa using Ev.now (out : Int))
    simp only [spec_l04Xor.l0]
    rw [if_neg (by omega)]
  | succ d ih =>
    intro i a b out bit hi ha hb hbit ho
    have hbit' : (2 * bit) * 2 ^ d = 4294967296 := by rw [← hbit, Nat.pow_succ]; ac_rfl
    have hb32 : 2 * bit ≤ 4294967296 := by
      rw [← hbit']
      exact Nat.le_mul_of_pos_right _ (Nat.two_pow_pos d)
    have hd : d + 1 ≤ 32 := by clear hbit hbit' ha hb; omega
    have ha2 : a < 4294967296 := Nat.lt_of_lt_of_le ha (Nat.pow_le_pow_right (by decide) hd)
    have hb2 : b < 4294967296 := Nat.lt_of_lt_of_le hb (Nat.pow_le_pow_right (by decide) hd)
    have ha' : a / 2 < 2 ^ d := by rw [Nat.pow_succ] at ha; exact Nat.div_lt_of_lt_mul (by rw [Nat.mul_comm]; exact ha)
    have hb' : b / 2 < 2 ^ d := by rw [Nat.pow_succ] at hb; exact Nat.div_lt_of_lt_mul (by rw [Nat.mul_comm]; exact hb)
    clear hbit ha hb
    have hx := xor_step a b
    have ho' : out + bit * ((a % 2 + b % 2) % 2) < 2 * bit := by
      rcases Nat.mod_two_eq_zero_or_one (a % 2 + b % 2) with h | h <;> rw [h] <;> omega
    have h := ih (i + 1) (a / 2) (b / 2) (out + bit * ((a % 2 + b % 2) % 2)) (2 * bit) (by omega) ha' hb' hbit' ho'
    have er : out + bit * (a ^^^ b) = out + bit * ((a % 2 + b % 2) % 2) + 2 * bit * ((a / 2) ^^^ (b / 2)) := by
      rw [hx, Nat.mul_add, ← Nat.mul_assoc, Nat.mul_comm bit 2, Nat.add_assoc]
    rw [er]
    exact Ev.step (fun k => spec_xor_step a b out bit i k ha2 hb2 (by omega) ho (by omega)) h
theorem spec_xor (x y : Int) (h0 : 0 ≤ x) (h1 : x < 4294967296) (h2 : 0 ≤ y) (h3 : y < 4294967296) : Ev (fun k => spec_l04Xor.f k x y) (Go.bits .xor .u32 x y) := by
  obtain ⟨a, rfl⟩ := Int.eq_ofNat_of_zero_le h0
  obtain ⟨b, rfl⟩ := Int.eq_ofNat_of_zero_le h2
  rw [bits_xor_nat a b (by omega) (by omega)]
  have h := spec_xor_loop 32 0 a b 0 1 (by decide) (by omega) (by omega) (by decide) (by decide)
  simpa [spec_l04Xor.f] using h
theorem spec_hash_loop (s : ByteArray) (hs : s.size ≤ 140737488355328) (d : Nat) : ∀ (x : Int) (i : Nat), 0 ≤ x → x < 4294967296 → s.size - i = d → i ≤ s.size →
    Ev (fun k => spec_HashOf.l0 k s x (i : Int)) (fold16 (hashL (s.data.toList.drop i) x)) := by
  induction d with
  | zero =>
    intro x i h0 h1 hd hi
    have e : s.data.toList.drop i = [] := List.drop_eq_nil_of_le (by simp; omega)
    have ew : wrap64 (Int.tdiv x 65536) = x / 65536 := by rw [Int.tdiv_eq_ediv_of_nonneg h0, wrap64_id (by omega) (by omega)]
    rw [e]
    refine Ev.step (f := fun k => (spec_l04Xor.f k x (x / 65536)).bind fun t => some t) (fun k => ?_) (Ev.bind (spec_xor x (x / 65536) h0 h1 (by omega) (by omega)) (Ev.now _))
    simp only [spec_HashOf.l0]
    rw [if_neg (by omega), ew]
  | succ d ih =>
    intro x i h0 h1 hd hi
    obtain ⟨c, e, hb⟩ := drop_bt s i (by omega)
    have hc := c.toNat_lt
    obtain ⟨a, b⟩ := bits_xor_range x (c.toNat : Int)
    obtain ⟨a', b'⟩ := hashByte_range x c
    have h := ih (hashByte x c) (i + 1) a' b' (by omega) (by omega)
    rw [e]
    have ew : wrap64 ((i : Int) + 1) = ((i + 1 : Nat) : Int) := by rw [wrap64_id (by omega) (by omega)]; omega
    have eb : wrap64 (bt s (i : Int)) = (c.toNat : Int) := by rw [hb, wrap64_id (by omega) (by omega)]
    have em : Int.tmod (wrap64 (Go.bits .xor .u32 x (c.toNat : Int) * 16777619)) 4294967296 = hashByte x c := by
      rw [wrap64_id (by omega) (by omega), Int.tmod_eq_emod_of_nonneg (by omega)]
      rfl
    refine Ev.step (f := fun k => (spec_l04Xor.f k x (c.toNat : Int)).bind fun t => spec_HashOf.l0 k s (Int.tmod (wrap64 (t * 16777619)) 4294967296) ((i + 1 : Nat) : Int)) (fun k => ?_) (Ev.bind (spec_xor x (c.toNat : Int) h0 h1 (by omega) (by omega)) (by rw [em]; exact h))
    simp only [spec_HashOf.l0]
    rw [if_pos (by omega), if_pos (by omega), eb, ew]
theorem spec_hash (s : ByteArray) (hs : s.size ≤ 140737488355328) (seed : Int) : Ev (fun k => spec_HashOf.f k s seed) (hashOf s seed) := by
  have hl := fun (x : Int) (h0 : 0 ≤ x) (h1 : x ≤ 1000000000) => spec_hash_loop s hs _ (2166136261 + x) 0 (by omega) (by omega) rfl (by omega)
  have h1 : ∀ x : Int, 0 ≤ x → x ≤ 1000000000 → Ev (fun k => spec_HashOf.j1 k s x) (fold16 (hashL s.data.toList (2166136261 + x))) := fun x h0 h1 => by
    have em : Int.tmod (wrap64 (2166136261 + x)) 4294967296 = 2166136261 + x := by rw [wrap64_id (by omega) (by omega), Int.tmod_eq_emod_of_nonneg (by omega)]; omega
    refine Ev.step (fun k => ?_) (by simpa using hl x h0 h1)
    simp only [spec_HashOf.j1]
    rw [em]
  have h2 : ∀ x : Int, 0 ≤ x → Ev (fun k => spec_HashOf.j0 k s x) (fold16 (hashL s.data.toList (2166136261 + (if x > 1000000000 then 1000000000 else x)))) := fun x h0 => by
    by_cases hx : x > 1000000000
    · refine Ev.step (fun k => ?_) (h1 1000000000 (by omega) (by omega) |> fun z => by simpa [hx] using z)
      simp only [spec_HashOf.j0]
      rw [if_pos hx]
    · refine Ev.step (fun k => ?_) (h1 x h0 (by omega) |> fun z => by simpa [hx] using z)
      simp only [spec_HashOf.j0]
      rw [if_neg hx]
  unfold spec_HashOf.f hashOf clampSeed
  by_cases hn : seed < 0
  · simp only [if_pos hn]
    simpa using h2 0 (by omega)
  · simp only [if_neg hn]
    exact h2 seed (by omega)
theorem impl_hash_loop (s : ByteArray) (hs : s.size ≤ 140737488355328) (d : Nat) : ∀ (x : Int) (i : Nat), 0 ≤ x → x < 4294967296 → s.size - i = d → i ≤ s.size →
    Ev (fun k => impl_HashOf.l0 k s x (i : Int)) (fold16 (hashL (s.data.toList.drop i) x)) := by
  induction d with
  | zero =>
    intro x i h0 h1 hd hi
    have e : s.data.toList.drop i = [] := List.drop_eq_nil_of_le (by simp; omega)
    obtain ⟨a, b⟩ := bits_xor_range x (x / 65536)
    rw [e]
    refine Ev.step (f := fun _ => some (fold16 x)) (fun k => ?_) (Ev.now _)
    simp only [impl_HashOf.l0]
    rw [if_neg (by omega), wrap64_id (by omega) (by omega)]
    rfl
  | succ d ih =>
    intro x i h0 h1 hd hi
    obtain ⟨c, e, hb⟩ := drop_bt s i (by omega)
    have hc := c.toNat_lt
    obtain ⟨a', b'⟩ := hashByte_range x c
    have h := ih (hashByte x c) (i + 1) a' b' (by omega) (by omega)
    rw [e]
    have ew : wrap64 ((i : Int) + 1) = ((i + 1 : Nat) : Int) := by rw [wrap64_id (by omega) (by omega)]; omega
    have eb : bt s (i : Int) % 4294967296 = (c.toNat : Int) := by rw [hb]; omega
    refine Ev.step (fun k => ?_) h
    simp only [impl_HashOf.l0]
    rw [if_pos (by omega), if_pos (by omega), eb, ew]
    rfl
theorem impl_hash (s : ByteArray) (hs : s.size ≤ 140737488355328) (seed : Int) : Ev (fun k => impl_HashOf.f k s seed) (hashOf s seed) := by
  obtain ⟨a, b⟩ := clampSeed_range seed
  have e : mx 0 (mn seed 1000000000) = clampSeed seed := by unfold mx mn clampSeed; omega
  have h := impl_hash_loop s hs _ (2166136261 + clampSeed seed) 0 (by omega) (by omega) rfl (by omega)
  unfold impl_HashOf.f hashOf
  rw [e]
  simpa using h
theorem impl_in (a b c : Int) : impl_inRange.f a b c = some (decide (b ≤ a ∧ a ≤ c)) := by
  unfold impl_inRange.f
  by_cases h : a ≥ b
  · rw [if_pos h]
    simp [h]
  · rw [if_neg h]
    have : ¬ (b ≤ a ∧ a ≤ c) := fun z => h z.1
    simp [this]
theorem spec_in (a b c : Int) : spec_l01In.f a b c = some (decide (b ≤ a ∧ a ≤ c)) := by
  unfold spec_l01In.f
  by_cases h : a ≥ b
  · rw [if_pos h]
    simp [h]
  · rw [if_neg h]
    have : ¬ (b ≤ a ∧ a ≤ c) := fun z => h z.1
    simp [this]
def cl (l : List S57) (j : Nat) : S57 := l.getD j z57
theorem rd_cl (l : List S57) (j : Nat) : rd_T57 l (j : Int) = cl l j := rfl
def probe (l : List S57) (m : S57 → Bool) : Nat → Nat → Int
  | 0, _ => -1
  | d + 1, p => if m (cl l p) = true then (p : Int) else if (cl l p).f0.toList = [] ∧ (cl l p).f1 = -1 then -1 else probe l m d ((p + 1) % l.length)
def mI (key : ByteArray) (x : S57) : Bool := (x.f0.toList == key.toList) && (key.toList != [])
def mS (key : ByteArray) (x : S57) : Bool := (x.f0.toList == key.toList) && decide (0 ≤ x.f1)
def home (n : Nat) (key : ByteArray) : Nat := (hashOf key 0).toNat % n
theorem home_lt (n : Nat) (key : ByteArray) (h : 0 < n) : home n key < n := Nat.mod_lt _ h
def seekI (l : List S57) (key : ByteArray) : Int := probe l (mI key) l.length (home l.length key)
def seekS (l : List S57) (key : ByteArray) : Int := probe l (mS key) l.length (home l.length key)
theorem tmod_nat (a n : Nat) (ha : a ≤ 9223372036854775807) : Int.tmod (wrap64 (a : Int)) (n : Int) = ((a % n : Nat) : Int) := by
  rw [wrap64_id (by omega) (by omega), Int.tmod_eq_emod_of_nonneg (by omega)]
  rfl
theorem probe_congr (l : List S57) (m1 m2 : S57 → Bool) (h : ∀ j, m1 (cl l j) = m2 (cl l j)) (d : Nat) : ∀ p, probe l m1 d p = probe l m2 d p := by
  induction d with
  | zero => intro p; rfl
  | succ d ih =>
    intro p
    simp only [probe, h p, ih]
theorem probe_range (l : List S57) (m : S57 → Bool) (d : Nat) : ∀ p, p < l.length → probe l m d p = -1 ∨ ∃ j : Nat, j < l.length ∧ probe l m d p = (j : Int) ∧ m (cl l j) = true := by
  induction d with
  | zero => intro p _; exact .inl rfl
  | succ d ih =>
    intro p hp
    simp only [probe]
    by_cases h : m (cl l p) = true
    · rw [if_pos h]; exact .inr ⟨p, hp, rfl, h⟩
    · rw [if_neg h]
      by_cases h2 : (cl l p).f0.toList = [] ∧ (cl l p).f1 = -1
      · rw [if_pos h2]; exact .inl rfl
      · rw [if_neg h2]; exact ih _ (Nat.mod_lt _ (by omega))
theorem seekI_range (l : List S57) (key : ByteArray) : seekI l key = -1 ∨ ∃ j : Nat, j < l.length ∧ seekI l key = (j : Int) ∧ mI key (cl l j) = true := by
  rcases Nat.eq_zero_or_pos l.length with h | h
  · exact .inl (by unfold seekI; rw [h]; rfl)
  · exact probe_range l _ _ _ (home_lt _ _ h)
theorem impl_seek_loop (l : List S57) (key : ByteArray) (h0 : 0 < l.length) (hl : l.length ≤ 1048576) (d : Nat) : ∀ i p : Nat, i + d = l.length → p < l.length →
    Ev (fun k => impl_seek.l0 k l key (p : Int) (l.length : Int) (i : Int)) (probe l (mI key) d p) := by
  induction d with
  | zero =>
    intro i p hi hp
    refine Ev.step (f := fun _ => some (-1)) (fun k => ?_) (Ev.now _)
    simp only [impl_seek.l0]
    rw [if_neg (by omega)]
  | succ d ih =>
    intro i p hi hp
    have hn := ih (i + 1) ((p + 1) % l.length) (by omega) (Nat.mod_lt _ h0)
    have e1 : Int.tmod (wrap64 ((p : Int) + 1)) (l.length : Int) = (((p + 1) % l.length : Nat) : Int) := tmod_nat (p + 1) l.length (by omega)
    have e2 : wrap64 ((i : Int) + 1) = ((i + 1 : Nat) : Int) := by rw [wrap64_id (by omega) (by omega)]; omega
    have ne : ¬ (l.length : Int) = 0 := by omega
    have hj : ∀ (b : Bool) (r : Int), (b = true → r = (p : Int)) → (b = false → (cl l p).f0.toList = [] ∧ (cl l p).f1 = -1 → r = -1) → (b = false → ¬ ((cl l p).f0.toList = [] ∧ (cl l p).f1 = -1) → r = probe l (mI key) d ((p + 1) % l.length)) →
        Ev (fun k => impl_seek.j1 k l key (p : Int) (l.length : Int) (i : Int) b (cl l p).f0 (cl l p).f1) r := by
      intro b r h1 h2 h3
      cases b with
      | true =>
        rw [h1 rfl]
        refine Ev.step (f := fun _ => some (p : Int)) (fun k => ?_) (Ev.now _)
        simp only [impl_seek.j1]
        rw [if_pos trivial]
      | false =>
        by_cases hc : (cl l p).f0.toList = []
        · by_cases hd : (cl l p).f1 = -1
          · rw [h2 rfl ⟨hc, hd⟩]
            refine Ev.step (f := fun _ => some (-1)) (fun k => ?_) (Ev.now _)
            simp only [impl_seek.j1]
            rw [if_neg (by simp), if_pos hc, if_pos hd]
          · rw [h3 rfl (fun z => hd z.2)]
            refine Ev.step (fun k => ?_) hn
            simp only [impl_seek.j1]
            rw [if_neg (by simp), if_pos hc, if_neg hd, if_neg ne, e1, e2]
        · rw [h3 rfl (fun z => hc z.1)]
          refine Ev.step (fun k => ?_) hn
          simp only [impl_seek.j1]
          rw [if_neg (by simp), if_neg hc, if_neg ne, e1, e2]
    have hp' : probe l (mI key) (d + 1) p = if mI key (cl l p) = true then (p : Int) else if (cl l p).f0.toList = [] ∧ (cl l p).f1 = -1 then -1 else probe l (mI key) d ((p + 1) % l.length) := rfl
    rw [hp']
    by_cases hk : (cl l p).f0.toList = key.toList
    · refine Ev.step (fun k => ?_) (hj (key.toList != []) _ (fun hb => ?_) (fun hb hc => ?_) (fun hb hc => ?_))
      · simp only [impl_seek.l0]
        rw [if_pos (by omega), if_pos (by omega), if_pos (by omega), rd_cl, if_pos hk]
      · rw [if_pos (by simp [mI, hk, hb])]
      · rw [if_neg (by simp [mI, hb]), if_pos hc]
      · rw [if_neg (by simp [mI, hb]), if_neg hc]
    · refine Ev.step (fun k => ?_) (hj false _ (fun hb => by cases hb) (fun hb hc => ?_) (fun hb hc => ?_))
      · simp only [impl_seek.l0]
        rw [if_pos (by omega), if_pos (by omega), if_pos (by omega), rd_cl, if_neg hk]
      · rw [if_neg (by simp [mI, hk]), if_pos hc]
      · rw [if_neg (by simp [mI, hk]), if_neg hc]
theorem home_eq (n : Nat) (key : ByteArray) : Int.tmod (hashOf key 0) (n : Int) = (home n key : Int) := by
  obtain ⟨a, b⟩ := hashOf_range key 0
  rw [Int.tmod_eq_emod_of_nonneg a]
  unfold home
  obtain ⟨h, hh⟩ := Int.eq_ofNat_of_zero_le a
  rw [hh]
  rfl
theorem impl_seek_ev (l : List S57) (key : ByteArray) (hl : l.length ≤ 1048576) (hk : key.size ≤ 140737488355328) : Ev (fun k => impl_seek.f k l key) (seekI l key) := by
  unfold impl_seek.f
  rcases Nat.eq_zero_or_pos l.length with h | h
  · have e : seekI l key = -1 := by unfold seekI; rw [h]; rfl
    rw [e]
    simp only [if_pos (show (l.length : Int) = 0 by omega)]
    exact Ev.now _
  · simp only [if_neg (show ¬ (l.length : Int) = 0 by omega)]
    refine Ev.bind (impl_hash key hk 0) ?_
    rw [home_eq]
    exact impl_seek_loop l key h hl _ 0 _ (by omega) (home_lt _ _ h)
theorem spec_seek_loop (l : List S57) (key : ByteArray) (h0 : 0 < l.length) (hl : l.length ≤ 1048576) (h : Nat) (hh : h < l.length) (d : Nat) : ∀ i : Nat, i + d = l.length →
    Ev (fun k => spec_l04Seek.l0 k l key (l.length : Int) (h : Int) (i : Int)) (probe l (mS key) d ((h + i) % l.length)) := by
  induction d with
  | zero =>
    intro i hi
    refine Ev.step (f := fun _ => some (-1)) (fun k => ?_) (Ev.now _)
    simp only [spec_l04Seek.l0]
    rw [if_neg (by omega)]
  | succ d ih =>
    intro i hi
    have hn := ih (i + 1) (by omega)
    have e0 : (h + (i + 1)) % l.length = ((h + i) % l.length + 1) % l.length := by rw [Nat.mod_add_mod]; rfl
    rw [e0] at hn
    have e1 : Int.tmod (wrap64 ((h : Int) + (i : Int))) (l.length : Int) = (((h + i) % l.length : Nat) : Int) := tmod_nat (h + i) l.length (by omega)
    have e2 : wrap64 ((i : Int) + 1) = ((i + 1 : Nat) : Int) := by rw [wrap64_id (by omega) (by omega)]; omega
    have hp : (h + i) % l.length < l.length := Nat.mod_lt _ h0
    generalize (h + i) % l.length = p at hn e1 hp ⊢
    have ne : ¬ (l.length : Int) = 0 := by omega
    have hj : ∀ (b : Bool) (r : Int), (b = true → r = (p : Int)) → (b = false → (cl l p).f0.toList = [] ∧ (cl l p).f1 = -1 → r = -1) → (b = false → ¬ ((cl l p).f0.toList = [] ∧ (cl l p).f1 = -1) → r = probe l (mS key) d ((p + 1) % l.length)) →
        Ev (fun k => spec_l04Seek.j1 k l key (l.length : Int) (h : Int) (i : Int) b (cl l p).f0 (cl l p).f1) r := by
      intro b r h1 h2 h3
      cases b with
      | true =>
        rw [h1 rfl]
        refine Ev.step (f := fun _ => some (p : Int)) (fun k => ?_) (Ev.now _)
        simp only [spec_l04Seek.j1]
        rw [if_pos trivial, if_neg ne, e1]
      | false =>
        by_cases hc : (cl l p).f0.toList = []
        · by_cases hd : (cl l p).f1 = -1
          · rw [h2 rfl ⟨hc, hd⟩]
            refine Ev.step (f := fun _ => some (-1)) (fun k => ?_) (Ev.now _)
            simp only [spec_l04Seek.j1]
            rw [if_neg (by simp), if_pos hc, if_pos hd]
          · rw [h3 rfl (fun z => hd z.2)]
            refine Ev.step (fun k => ?_) hn
            simp only [spec_l04Seek.j1]
            rw [if_neg (by simp), if_pos hc, if_neg hd, e2]
        · rw [h3 rfl (fun z => hc z.1)]
          refine Ev.step (fun k => ?_) hn
          simp only [spec_l04Seek.j1]
          rw [if_neg (by simp), if_neg hc, e2]
    have hp' : probe l (mS key) (d + 1) p = if mS key (cl l p) = true then (p : Int) else if (cl l p).f0.toList = [] ∧ (cl l p).f1 = -1 then -1 else probe l (mS key) d ((p + 1) % l.length) := rfl
    rw [hp']
    by_cases hk : (cl l p).f0.toList = key.toList
    · refine Ev.step (fun k => ?_) (hj (decide ((cl l p).f1 ≥ 0)) _ (fun hb => ?_) (fun hb hc => ?_) (fun hb hc => ?_))
      · simp only [spec_l04Seek.l0]
        rw [if_pos (by omega), if_neg ne, e1, if_pos (by omega), if_pos (by omega), rd_cl, if_pos hk]
      · rw [if_pos (by simp only [mS, hk, beq_self_eq_true, Bool.true_and]; exact hb)]
      · rw [if_neg (by have := of_decide_eq_false hb; simp [mS]; omega), if_pos hc]
      · rw [if_neg (by have := of_decide_eq_false hb; simp [mS]; omega), if_neg hc]
    · refine Ev.step (fun k => ?_) (hj false _ (fun hb => by cases hb) (fun hb hc => ?_) (fun hb hc => ?_))
      · simp only [spec_l04Seek.l0]
        rw [if_pos (by omega), if_neg ne, e1, if_pos (by omega), if_pos (by omega), rd_cl, if_neg hk]
      · rw [if_neg (by simp [mS, hk]), if_pos hc]
      · rw [if_neg (by simp [mS, hk]), if_neg hc]
theorem spec_seek_ev (l : List S57) (key : ByteArray) (hl : l.length ≤ 1048576) (hk : key.size ≤ 140737488355328) : Ev (fun k => spec_l04Seek.f k l key) (seekS l key) := by
  unfold spec_l04Seek.f
  rcases Nat.eq_zero_or_pos l.length with h | h
  · have e : seekS l key = -1 := by unfold seekS; rw [h]; rfl
    rw [e]
    simp only [if_pos (show (l.length : Int) = 0 by omega)]
    exact Ev.now _
  · simp only [if_neg (show ¬ (l.length : Int) = 0 by omega)]
    refine Ev.bind (spec_hash key hk 0) ?_
    rw [home_eq]
    have := spec_seek_loop l key h hl _ (home_lt _ key h) l.length 0 (by omega)
    rw [Nat.add_zero, Nat.mod_eq_of_lt (home_lt _ _ h)] at this
    exact this
def NE (l : List S57) : Prop := ∀ j, j < l.length → (cl l j).f0.toList ≠ [] → 0 ≤ (cl l j).f1
theorem cl_ge (l : List S57) (j : Nat) (h : l.length ≤ j) : cl l j = z57 := by
  unfold cl
  rw [List.getD_eq_getElem?_getD, List.getElem?_eq_none h]
  rfl
theorem z_nil : (z57 : S57).f0.toList = [] := by rw [Lib.toList_data]; rfl
theorem seek_same (l : List S57) (key : ByteArray) (h : NE l) (hk : key.toList ≠ []) : seekS l key = seekI l key := by
  unfold seekS seekI
  refine probe_congr l _ _ (fun j => ?_) _ _
  unfold mS mI
  by_cases e : (cl l j).f0.toList = key.toList
  · have hj : j < l.length := by
      rcases Nat.lt_or_ge j l.length with h | h
      · exact h
      · rw [cl_ge l j h, z_nil] at e
        exact absurd e.symm hk
    have := h j hj (by rw [e]; exact hk)
    rw [e]; simp [hk, this]
  · rw [beq_eq_false_iff_ne.2 e]; rfl
theorem seekI_nil (l : List S57) (key : ByteArray) (hk : key.toList = []) : seekI l key = -1 := by
  rcases seekI_range l key with h | ⟨j, _, _, h⟩
  · exact h
  · simp [mI, hk] at h
theorem sz_pos (s : ByteArray) (h : s.toList ≠ []) : 1 ≤ s.size := by
  rw [Lib.toList_data] at h
  have : s.data.toList.length = s.size := by simp
  rcases Nat.eq_zero_or_pos s.size with h0 | h0
  · exact absurd (List.eq_nil_of_length_eq_zero (by omega)) h
  · exact h0
theorem ba_ext {a b : ByteArray} (h : a.data.toList = b.data.toList) : a = b := by
  cases a; cases b
  simpa using h
theorem ba_toList_inj {a b : ByteArray} (h : a.toList = b.toList) : a = b := ba_ext (by rw [← Lib.toList_data, ← Lib.toList_data]; exact h)
theorem sorted_merge (L : List (List UInt8)) : (L.mergeSort fun x y => decide (x ≤ y)).Pairwise (fun x y => x ≤ y) := by
  have h := List.pairwise_mergeSort (le := fun (x y : List UInt8) => decide (x ≤ y)) (fun a b c h1 h2 => decide_eq_true (List.le_trans (of_decide_eq_true h1) (of_decide_eq_true h2))) (fun a b => by
    rcases List.le_total a b with h | h
    · simp [h]
    · simp [h]) L
  exact h.imp (fun h => of_decide_eq_true h)
theorem adj_nodup : ∀ M : List (List UInt8), M.Pairwise (fun x y => x ≤ y) → ((∀ j, 1 ≤ j → j < M.length → M.getD j [] ≠ M.getD (j - 1) []) ↔ M.Nodup)
  | [], _ => ⟨fun _ => List.nodup_nil, fun _ j h1 h2 => by simp at h2⟩
  | [a], _ => ⟨fun _ => by simp, fun _ j h1 h2 => by simp at h2; omega⟩
  | a :: b :: t, h => by
    have h1 := List.pairwise_cons.1 h
    have h2 := List.pairwise_cons.1 h1.2
    have ih := adj_nodup (b :: t) h1.2
    rw [List.nodup_cons, ← ih]
    constructor
    · intro g
      refine ⟨fun hm => ?_, fun j hj hl => ?_⟩
      · have hab : b ≠ a := by simpa using g 1 (by omega) (by simp)
        rcases List.mem_cons.1 hm with rfl | hm
        · exact hab rfl
        · exact hab (List.le_antisymm (h2.1 a hm) (h1.1 b (by simp)))
      · have := g (j + 1) (by omega) (by simpa using hl)
        obtain ⟨j, rfl⟩ : ∃ m, j = m + 1 := ⟨j - 1, by omega⟩
        simpa using this
    · rintro ⟨g1, g2⟩ j hj hl
      obtain ⟨j, rfl⟩ : ∃ m, j = m + 1 := ⟨j - 1, by omega⟩
      cases j with
      | zero =>
        simp only [Nat.zero_add, List.getD_cons_succ, List.getD_cons_zero, Nat.sub_self]
        intro e
        exact g1 (by rw [← e]; simp)
      | succ j => simpa using g2 (j + 1) (by omega) (by simpa using hl)
theorem bytesL_sortB (L : List ByteArray) : bytesL (sortB L) = (bytesL L).mergeSort fun x y => decide (x ≤ y) := by
  unfold sortB bytesL
  rw [List.map_map]
  conv => rhs; rw [← List.map_id ((L.map fun s => s.data.toList).mergeSort fun x y => decide (x ≤ y))]
  exact List.map_congr_left fun b _ => by simp
theorem bytesL_getD (L : List ByteArray) (j : Nat) : (bytesL L).getD j [] = (L.getD j ByteArray.empty).data.toList := by
  unfold bytesL
  rw [List.getD_eq_getElem?_getD, List.getD_eq_getElem?_getD, List.getElem?_map]
  cases L[j]? <;> rfl
theorem bytesL_inj {L M : List ByteArray} (h : bytesL L = bytesL M) : L = M := by
  have h2 := congrArg (List.map fun b : List UInt8 => (⟨b.toArray⟩ : ByteArray)) h
  have e : ∀ X : List ByteArray, (bytesL X).map (fun b : List UInt8 => (⟨b.toArray⟩ : ByteArray)) = X := fun X => by
    unfold bytesL
    rw [List.map_map]
    conv => rhs; rw [← List.map_id X]
    exact List.map_congr_left fun b _ => by simp
  rwa [e, e] at h2
theorem sort_adj (L : List ByteArray) : (∀ j, 1 ≤ j → j < (sortB L).length → ((sortB L).getD j ByteArray.empty).toList ≠ ((sortB L).getD (j - 1) ByteArray.empty).toList) ↔ (bytesL L).Nodup := by
  have h1 := adj_nodup _ (sorted_merge (bytesL L))
  rw [List.Perm.nodup_iff (List.mergeSort_perm (bytesL L) _), ← bytesL_sortB] at h1
  rw [← h1]
  have hl : (bytesL (sortB L)).length = (sortB L).length := by simp [bytesL]
  rw [hl]
  exact forall_congr' fun j => forall_congr' fun _ => forall_congr' fun _ => by rw [bytesL_getD, bytesL_getD, Lib.toList_data, Lib.toList_data]
def isN (x : S57) : Bool := (x.f0.toList == []) && (x.f1 == -1)
def gone (x : S57) : Prop := x.f0.toList = [] ∧ x.f1 = -2
def CellOk (s : List S57 → ByteArray → Int) (l : List S57) (j : Nat) : Prop :=
  ((cl l j).f0.toList = [] → (cl l j).f1 = -1 ∨ (cl l j).f1 = -2) ∧ ((cl l j).f0.toList ≠ [] → (cl l j).f0.size ≤ 12 ∧ 0 ≤ (cl l j).f1 ∧ s l (cl l j).f0 = (j : Int))
def CR (l : List S57) : Prop := ∀ j, j < l.length → CellOk seekI l j
def Small (l : List S57) : Prop := l.length ≤ 1048576 ∧ ∀ j, (cl l j).f0.size ≤ 140737488355328
theorem tr_right {p q : Prop} (h : p) : tr (p ∧ q) = tr q := tr_congr ⟨fun z => z.2, fun z => ⟨h, z⟩⟩
theorem impl_key (s : ByteArray) (h : s.toList ≠ []) : impl_isKey.f s = some (decide (s.size ≤ 12)) := by
  have := sz_pos s h
  unfold impl_isKey.f
  rw [impl_in]
  by_cases hs : s.size ≤ 12
  · rw [decide_eq_true (by omega), decide_eq_true hs]; rfl
  · rw [decide_eq_false (by omega), decide_eq_false hs]; rfl
theorem impl_cellsOk_loop (l : List S57) (hl : Small l) (d : Nat) : ∀ i : Nat, l.length - i = d → Ev (fun k => impl_cellsOk.l0 k l l (l.length : Int) (i : Int)) (tr (∀ j, i ≤ j → j < l.length → CellOk seekI l j)) := by
  obtain ⟨hl, hk⟩ := hl
  induction d with
  | zero =>
    intro i hd
    rw [tr_true (fun j h1 h2 => absurd h1 (by omega))]
    refine Ev.step (f := fun _ => some true) (fun k => ?_) (Ev.now _)
    simp only [impl_cellsOk.l0]
    rw [if_neg (by omega)]
  | succ d ih =>
    intro i hd
    have hn := ih (i + 1) (by omega)
    have e2 : Aside0 (wrap64 ((i : Int) + 1) = ((i + 1 : Nat) : Int)) := ⟨by rw [wrap64_id (by omega) (by omega)]; omega⟩
    rw [tr_congr (all_from (by omega))]
    by_cases hc : (cl l i).f0.toList = []
    · by_cases h1 : (cl l i).f1 = -1
      · rw [tr_right ⟨fun _ => .inl h1, fun h => absurd hc h⟩]
        refine Ev.step (fun k => ?_) hn
        simp only [impl_cellsOk.l0]
        rw [if_pos (by omega), if_pos (by omega), if_pos (by omega), rd_cl, if_pos hc, if_pos h1, e2.out]
      · by_cases h2 : (cl l i).f1 = -2
        · rw [tr_right ⟨fun _ => .inr h2, fun h => absurd hc h⟩]
          refine Ev.step (fun k => ?_) hn
          simp only [impl_cellsOk.l0]
          rw [if_pos (by omega), if_pos (by omega), if_pos (by omega), rd_cl, if_pos hc, if_neg h1, if_pos h2, e2.out]
        · rw [tr_false (fun z => by rcases z.1.1 hc with h | h; exact h1 h; exact h2 h)]
          refine Ev.step (f := fun _ => some false) (fun k => ?_) (Ev.now _)
          simp only [impl_cellsOk.l0]
          rw [if_pos (by omega), if_pos (by omega), if_pos (by omega), rd_cl, if_pos hc, if_neg h1, if_neg h2]
    · by_cases h1 : (cl l i).f0.size ≤ 12
      · by_cases h2 : (cl l i).f1 < 0
        · rw [tr_false (fun z => by have := (z.1.2 hc).2.1; omega)]
          refine Ev.step (f := fun _ => some false) (fun k => ?_) (Ev.now _)
          simp only [impl_cellsOk.l0]
          rw [if_pos (by omega), if_pos (by omega), if_pos (by omega), rd_cl, if_neg hc, impl_key _ hc, Option.bind_some, if_pos (decide_eq_true h1), if_pos h2]
        · refine Ev.step (f := fun k => (impl_seek.f k l (cl l i).f0).bind fun t => if t = (i : Int) then impl_cellsOk.l0 k l l (l.length : Int) ((i + 1 : Nat) : Int) else some false) (fun k => ?_) (Ev.bind (impl_seek_ev l _ hl (hk i)) ?_)
          · simp only [impl_cellsOk.l0]
            rw [if_pos (by omega), if_pos (by omega), if_pos (by omega), rd_cl, if_neg hc, impl_key _ hc, Option.bind_some, if_pos (decide_eq_true h1), if_neg h2, e2.out]
          · by_cases h3 : seekI l (cl l i).f0 = (i : Int)
            · rw [tr_right ⟨fun h => absurd h hc, fun _ => ⟨h1, by omega, h3⟩⟩]
              simp only [if_pos h3]
              exact hn
            · rw [tr_false (fun z => h3 (z.1.2 hc).2.2)]
              simp only [if_neg h3]
              exact Ev.now _
      · rw [tr_false (fun z => h1 (z.1.2 hc).1)]
        refine Ev.step (f := fun _ => some false) (fun k => ?_) (Ev.now _)
        simp only [impl_cellsOk.l0]
        rw [if_pos (by omega), if_pos (by omega), if_pos (by omega), rd_cl, if_neg hc, impl_key _ hc, Option.bind_some, if_neg (by simp [h1])]
theorem impl_cellsOk_ev (l : List S57) (hl : Small l) : Ev (fun k => impl_cellsOk.f k l) (tr (CR l)) := by
  unfold impl_cellsOk.f
  rw [show tr (CR l) = tr (∀ j, 0 ≤ j → j < l.length → CellOk seekI l j) from tr_congr ⟨fun h j _ hj => h j hj, fun h j hj => h j (Nat.zero_le _) hj⟩]
  exact impl_cellsOk_loop l hl _ 0 rfl
theorem spec_right_loop (l : List S57) (hl : Small l) (d : Nat) : ∀ (i : Nat) (b : Bool), l.length - i = d → Ev (fun k => spec_l04Right.l0 k l b (i : Int)) (tr ((∀ j, i ≤ j → j < l.length → CellOk seekS l j) ∧ (b = true ∨ ∃ j, i ≤ j ∧ j < l.length ∧ isN (cl l j) = true))) := by
  obtain ⟨hl, hk⟩ := hl
  induction d with
  | zero =>
    intro i b hd
    rw [tr_congr (q := b = true) ⟨fun h => h.2.elim id (fun ⟨j, h1, h2, _⟩ => absurd h1 (by omega)), fun h => ⟨fun j h1 h2 => absurd h1 (by omega), .inl h⟩⟩]
    have e : tr (b = true) = b := by
      cases b
      · exact tr_false (by simp)
      · exact tr_true rfl
    rw [e]
    refine Ev.step (f := fun _ => some b) (fun k => ?_) (Ev.now _)
    simp only [spec_l04Right.l0]
    rw [if_neg (by omega)]
  | succ d ih =>
    intro i b hd
    have e2 : Aside0 (wrap64 ((i : Int) + 1) = ((i + 1 : Nat) : Int)) := ⟨by rw [wrap64_id (by omega) (by omega)]; omega⟩
    have hall := all_from (P := fun j => CellOk seekS l j) (i := i) (n := l.length) (by omega)
    have hex : (∃ j, i ≤ j ∧ j < l.length ∧ isN (cl l j) = true) ↔ (isN (cl l i) = true ∨ ∃ j, i + 1 ≤ j ∧ j < l.length ∧ isN (cl l j) = true) := by
      constructor
      · rintro ⟨j, h1, h2, h3⟩
        rcases Nat.eq_or_lt_of_le h1 with rfl | h
        · exact .inl h3
        · exact .inr ⟨j, h, h2, h3⟩
      · rintro (h | ⟨j, h1, h2, h3⟩)
        · exact ⟨i, Nat.le_refl _, by omega, h⟩
        · exact ⟨j, by omega, h2, h3⟩
    rw [hall, hex]
    clear hall hex
    by_cases hc : (cl l i).f0.toList = []
    · have hj : ∀ x30 : Bool, x30 = true → Ev (fun k => spec_l04Right.j1 k l b (i : Int) x30 (cl l i).f0 (cl l i).f1) false := fun x hx => by
        refine Ev.step (f := fun _ => some false) (fun k => ?_) (Ev.now _)
        simp only [spec_l04Right.j1]
        rw [if_pos hx]
      have hj2 : ∀ r, Ev (fun k => spec_l04Right.l0 k l (b || ((cl l i).f1 == -1)) ((i + 1 : Nat) : Int)) r → Ev (fun k => spec_l04Right.j1 k l b (i : Int) false (cl l i).f0 (cl l i).f1) r := fun r hr => by
        refine Ev.step (fun k => ?_) hr
        simp only [spec_l04Right.j1]
        rw [if_neg (by simp), e2.out]
        cases b
        · rw [if_neg (by simp)]; rfl
        · rw [if_pos rfl]; rfl
      by_cases h1 : (cl l i).f1 = -1
      · have hn := ih (i + 1) true (by omega)
        have hi : isN (cl l i) = true := by simp [isN, hc, h1]
        rw [tr_congr (q := (∀ j, i + 1 ≤ j → j < l.length → CellOk seekS l j) ∧ (true = true ∨ ∃ j, i + 1 ≤ j ∧ j < l.length ∧ isN (cl l j) = true)) ⟨fun z => ⟨z.1.2, .inl rfl⟩, fun z => ⟨⟨⟨fun _ => .inl h1, fun h => absurd hc h⟩, z.1⟩, .inr (.inl hi)⟩⟩]
        refine Ev.step (fun k => ?_) (hj2 _ (by rw [h1, show ((-1 : Int) == -1) = true from rfl, Bool.or_true]; exact hn))
        simp only [spec_l04Right.l0]
        rw [if_pos (by omega), if_pos (by omega), rd_cl, if_pos hc, if_pos h1]
      · by_cases h2 : (cl l i).f1 = -2
        · have hn := ih (i + 1) b (by omega)
          have hi : isN (cl l i) = false := by simp [isN, h2]
          rw [tr_congr (q := (∀ j, i + 1 ≤ j → j < l.length → CellOk seekS l j) ∧ (b = true ∨ ∃ j, i + 1 ≤ j ∧ j < l.length ∧ isN (cl l j) = true)) ⟨fun z => ⟨z.1.2, z.2.elim .inl (fun z => z.elim (fun z => by rw [hi] at z; cases z) .inr)⟩, fun z => ⟨⟨⟨fun _ => .inr h2, fun h => absurd hc h⟩, z.1⟩, z.2.elim .inl (fun z => .inr (.inr z))⟩⟩]
          refine Ev.step (fun k => ?_) (hj2 _ (by rw [h2, show ((-2 : Int) == -1) = false from rfl, Bool.or_false]; exact hn))
          simp only [spec_l04Right.l0]
          rw [if_pos (by omega), if_pos (by omega), rd_cl, if_pos hc, if_neg h1, h2]
          rfl
        · rw [tr_false (fun z => by rcases z.1.1.1 hc with h | h; exact h1 h; exact h2 h)]
          refine Ev.step (fun k => ?_) (hj ((cl l i).f1 != -2) (by simpa using h2))
          simp only [spec_l04Right.l0]
          rw [if_pos (by omega), if_pos (by omega), rd_cl, if_pos hc, if_neg h1]
    · by_cases h1 : (cl l i).f0.size ≤ 12
      · by_cases h2 : (cl l i).f1 < 0
        · rw [tr_false (fun z => by have := (z.1.1.2 hc).2.1; omega)]
          refine Ev.step (f := fun _ => some false) (fun k => ?_) (Ev.now _)
          simp only [spec_l04Right.l0]
          rw [if_pos (by omega), if_pos (by omega), rd_cl, if_neg hc, if_neg (by omega), if_pos h2]
        · refine Ev.step (f := fun k => (spec_l04Seek.f k l (cl l i).f0).bind fun t => if t = (i : Int) then spec_l04Right.l0 k l b ((i + 1 : Nat) : Int) else some false) (fun k => ?_) (Ev.bind (spec_seek_ev l _ hl (hk i)) ?_)
          · simp only [spec_l04Right.l0]
            rw [if_pos (by omega), if_pos (by omega), rd_cl, if_neg hc, if_neg (by omega), if_neg h2, e2.out]
          · by_cases h3 : seekS l (cl l i).f0 = (i : Int)
            · have hi : isN (cl l i) = false := by simp [isN, hc]
              rw [tr_congr (q := (∀ j, i + 1 ≤ j → j < l.length → CellOk seekS l j) ∧ (b = true ∨ ∃ j, i + 1 ≤ j ∧ j < l.length ∧ isN (cl l j) = true)) ⟨fun z => ⟨z.1.2, z.2.elim .inl (fun z => z.elim (fun z => by rw [hi] at z; cases z) .inr)⟩, fun z => ⟨⟨⟨fun h => absurd h hc, fun _ => ⟨h1, by omega, h3⟩⟩, z.1⟩, z.2.elim .inl (fun z => .inr (.inr z))⟩⟩]
              simp only [if_pos h3]
              exact ih (i + 1) b (by omega)
            · rw [tr_false (fun z => h3 (z.1.1.2 hc).2.2)]
              simp only [if_neg h3]
              exact Ev.now _
      · rw [tr_false (fun z => h1 (z.1.1.2 hc).1)]
        refine Ev.step (f := fun _ => some false) (fun k => ?_) (Ev.now _)
        simp only [spec_l04Right.l0]
        rw [if_pos (by omega), if_pos (by omega), rd_cl, if_neg hc, if_pos (by omega)]
theorem CR_same (l : List S57) : (∀ j, j < l.length → CellOk seekS l j) ↔ CR l := by
  have ne : ∀ s, (∀ j, j < l.length → CellOk s l j) → NE l := fun s h j hj hc => ((h j hj).2 hc).2.1
  constructor
  · intro h j hj
    refine ⟨(h j hj).1, fun hc => ?_⟩
    have := (h j hj).2 hc
    rw [seek_same l _ (ne _ h) hc] at this
    exact this
  · intro h j hj
    refine ⟨(h j hj).1, fun hc => ?_⟩
    have := (h j hj).2 hc
    rw [← seek_same l _ (ne _ h) hc] at this
    exact this
theorem CR_NE {l : List S57} (h : CR l) : NE l := fun j hj hc => ((h j hj).2 hc).2.1
def HasN (l : List S57) : Prop := ∃ j, j < l.length ∧ isN (cl l j) = true
theorem spec_right_ev (l : List S57) (hl : Small l) (a : Bool) : Ev (fun k => spec_l04Right.f k l a) (tr (CR l ∧ (a = true → HasN l))) := by
  unfold spec_l04Right.f
  have h := spec_right_loop l hl _ 0 (!a) rfl
  have e : tr (CR l ∧ (a = true → HasN l)) = tr ((∀ j, 0 ≤ j → j < l.length → CellOk seekS l j) ∧ ((!a) = true ∨ ∃ j, 0 ≤ j ∧ j < l.length ∧ isN (cl l j) = true)) := by
    refine tr_congr ?_
    rw [← CR_same]
    refine and_congr ⟨fun h j _ hj => h j hj, fun h j hj => h j (Nat.zero_le _) hj⟩ ?_
    cases a
    · simp
    · simp only [Bool.not_true, Bool.false_eq_true, false_or, forall_const]
      exact ⟨fun ⟨j, h1, h2⟩ => ⟨j, Nat.zero_le _, h1, h2⟩, fun ⟨j, _, h1, h2⟩ => ⟨j, h1, h2⟩⟩
  rw [e]
  exact h
theorem drop_cl (l : List S57) (i : Nat) (h : i < l.length) : l.drop i = cl l i :: l.drop (i + 1) := by
  have e : cl l i = l[i] := by unfold cl; rw [List.getD_eq_getElem?_getD, List.getElem?_eq_getElem h]; rfl
  rw [e]
  exact List.drop_eq_getElem_cons h
theorem impl_nones_loop (l : List S57) (hl : l.length ≤ 1048576) (d : Nat) : ∀ i a : Nat, l.length - i = d → a ≤ i → Ev (fun k => impl_nones.l0 k (a : Int) l (l.length : Int) (i : Int)) ((a + (l.drop i).countP isN : Nat) : Int) := by
  induction d with
  | zero =>
    intro i a hd ha
    rw [List.drop_eq_nil_of_le (by omega)]
    refine Ev.step (f := fun _ => some (a : Int)) (fun k => ?_) (Ev.now _)
    simp only [impl_nones.l0]
    rw [if_neg (by omega)]
  | succ d ih =>
    intro i a hd ha
    have e2 : Aside0 (wrap64 ((i : Int) + 1) = ((i + 1 : Nat) : Int)) := ⟨by rw [wrap64_id (by omega) (by omega)]; omega⟩
    have e3 : Aside0 (wrap64 ((a : Int) + 1) = ((a + 1 : Nat) : Int)) := ⟨by rw [wrap64_id (by omega) (by omega)]; omega⟩
    rw [drop_cl l i (by omega), List.countP_cons]
    have hy := ih (i + 1) (a + 1) (by omega) (by omega)
    have hn := ih (i + 1) a (by omega) (by omega)
    by_cases hc : (cl l i).f0.toList = []
    · by_cases h1 : (cl l i).f1 = -1
      · rw [if_pos (show isN (cl l i) = true by simp [isN, hc, h1]), show a + (List.countP isN (List.drop (i + 1) l) + 1) = a + 1 + List.countP isN (List.drop (i + 1) l) by omega]
        refine Ev.step (fun k => ?_) hy
        simp only [impl_nones.l0]
        rw [if_pos (by omega), if_pos (by omega), if_pos (by omega), rd_cl, if_pos hc, if_pos h1, e2.out, e3.out]
      · rw [if_neg (show ¬ isN (cl l i) = true by simp [isN, h1])]
        refine Ev.step (fun k => ?_) hn
        simp only [impl_nones.l0]
        rw [if_pos (by omega), if_pos (by omega), if_pos (by omega), rd_cl, if_pos hc, if_neg h1, e2.out]
    · rw [if_neg (show ¬ isN (cl l i) = true by simp [isN, hc])]
      refine Ev.step (fun k => ?_) hn
      simp only [impl_nones.l0]
      rw [if_pos (by omega), if_pos (by omega), if_pos (by omega), rd_cl, if_neg hc, e2.out]
theorem impl_nones_ev (l : List S57) (hl : l.length ≤ 1048576) : Ev (fun k => impl_nones.f k l) ((l.countP isN : Nat) : Int) := by
  unfold impl_nones.f
  simpa using impl_nones_loop l hl _ 0 0 rfl (Nat.le_refl _)
theorem HasN_count (l : List S57) : HasN l ↔ 0 < l.countP isN := by
  rw [List.countP_pos_iff]
  constructor
  · rintro ⟨j, h1, h2⟩
    exact ⟨_, getD_mem l z57 j h1, h2⟩
  · rintro ⟨x, hx, h⟩
    obtain ⟨j, hj, e⟩ := List.getElem_of_mem hx
    refine ⟨j, hj, ?_⟩
    have e2 : cl l j = l[j] := by unfold cl; rw [List.getD_eq_getElem?_getD, List.getElem?_eq_getElem hj]; rfl
    rw [e2, e]
    exact h
def keysL (l : List S57) : List ByteArray := (l.filter fun x => x.f0.toList != []).map (·.f0)
theorem keysL_cons (x : S57) (l : List S57) : keysL (x :: l) = if x.f0.toList = [] then keysL l else x.f0 :: keysL l := by
  unfold keysL
  by_cases h : x.f0.toList = []
  · rw [if_pos h, List.filter_cons_of_neg (by simp [h])]
  · rw [if_neg h, List.filter_cons_of_pos (by simpa using h)]
    rfl
theorem keysL_append (a b : List S57) : keysL (a ++ b) = keysL a ++ keysL b := by simp [keysL]
theorem keysL_length (l : List S57) : (keysL l).length ≤ l.length := by
  unfold keysL
  rw [List.length_map]
  exact List.length_filter_le _ _
theorem impl_keys_loop (l : List S57) (hl : l.length ≤ 2097152) (d : Nat) : ∀ (i : Nat) (acc : List ByteArray), l.length - i = d → acc.length ≤ i → i ≤ l.length → Ev (fun k => impl_Table_keys.l0 k acc l (l.length : Int) (i : Int)) (sortB (acc ++ keysL (l.drop i))) := by
  induction d with
  | zero =>
    intro i acc hd ha hi
    rw [List.drop_eq_nil_of_le (by omega), show keysL ([] : List S57) = [] from rfl, List.append_nil]
    refine Ev.step (f := fun _ => some (sortB acc)) (fun k => ?_) (Ev.now _)
    simp only [impl_Table_keys.l0]
    rw [if_neg (by omega)]
    unfold slices_Sort_string_string.f
    rw [if_pos (by omega)]
    rfl
  | succ d ih =>
    intro i acc hd ha hi
    have e2 : Aside0 (wrap64 ((i : Int) + 1) = ((i + 1 : Nat) : Int)) := ⟨by rw [wrap64_id (by omega) (by omega)]; omega⟩
    rw [drop_cl l i (by omega), keysL_cons]
    by_cases hc : (cl l i).f0.toList = []
    · rw [if_pos hc]
      refine Ev.step (fun k => ?_) (ih (i + 1) acc (by omega) (by omega) (by omega))
      simp only [impl_Table_keys.l0]
      rw [if_pos (by omega), if_pos (by omega), if_pos (by omega), rd_cl, if_pos hc, e2.out]
    · rw [if_neg hc]
      have h := ih (i + 1) (acc ++ [(cl l i).f0]) (by omega) (by simp; omega) (by omega)
      rw [List.append_assoc, List.singleton_append] at h
      refine Ev.step (fun k => ?_) h
      simp only [impl_Table_keys.l0]
      rw [if_pos (by omega), if_pos (by omega), if_pos (by omega), rd_cl, if_neg hc, if_pos (by omega), e2.out]
def SizeP (n : Nat) : Prop := n = 4 ∨ n = 8 ∨ n = 16 ∨ n = 32 ∨ n = 64
theorem impl_size (n : Nat) : impl_isSize.f (n : Int) = some (tr (SizeP n)) := by
  unfold impl_isSize.f
  by_cases h : SizeP n
  · rw [tr_true h]
    unfold SizeP at h
    rcases h with rfl | rfl | rfl | rfl | rfl <;> rfl
  · rw [tr_false h]
    unfold SizeP at h
    rw [if_neg (by omega), if_neg (by omega), if_neg (by omega), if_neg (by omega), if_neg (by omega)]
theorem spec_size (n : Nat) : spec_l04Size.f (n : Int) = some (tr (SizeP n)) := by
  unfold spec_l04Size.f
  by_cases h : SizeP n
  · rw [tr_true h]
    unfold SizeP at h
    rcases h with rfl | rfl | rfl | rfl | rfl <;> rfl
  · rw [tr_false h]
    unfold SizeP at h
    rw [if_neg (by omega), if_neg (by omega), if_neg (by omega), if_neg (by omega)]
    have : ¬ (n : Int) = 64 := by omega
    simp [this]
theorem impl_concat (c o : List S57) (hc : c.length ≤ 1048576) (ho : o.length ≤ 1048576) : Ev (fun k => impl_Cell_83.f k [c, o]) (c ++ o) := by
  have e1 : wrap64 (0 + (c.length : Int)) = (c.length : Int) := by rw [wrap64_id (by omega) (by omega)]; omega
  have e2 : wrap64 ((c.length : Int) + (o.length : Int)) = ((c.length + o.length : Nat) : Int) := by rw [wrap64_id (by omega) (by omega)]; omega
  have w1 : wrap64 (0 + 1) = 1 := wrap64_id (by omega) (by omega)
  have w2 : wrap64 (1 + 1) = 2 := wrap64_id (by omega) (by omega)
  have r0 : rd_L4 [c, o] 0 = c := rfl
  have r1 : rd_L4 [c, o] 1 = o := rfl
  have n2 : (([c, o] : List (List S57)).length : Int) = 2 := rfl
  have a : Ev (fun k => impl_Cell_83.l1 k ([] : List S57) [c, o] 2 0) (c ++ o) := by
    refine Ev.step (f := fun k => impl_Cell_83.l1 k c [c, o] 2 1) (fun k => ?_) (Ev.step (f := fun k => impl_Cell_83.l1 k (c ++ o) [c, o] 2 2) (fun k => ?_) (Ev.step (f := fun _ => some (c ++ o)) (fun k => ?_) (Ev.now _)))
    · simp only [impl_Cell_83.l1, n2, r0, w1]
      rw [if_pos (by omega), if_pos (by omega), if_pos (by omega), if_pos (by simp; omega)]
      rfl
    · simp only [impl_Cell_83.l1, n2, r1, w2]
      rw [if_pos (by omega), if_pos (by omega), if_pos (by omega), if_pos (by omega)]
    · simp only [impl_Cell_83.l1]
      rw [if_neg (by omega)]
  unfold impl_Cell_83.f
  refine Ev.step (f := fun k => impl_Cell_83.l0 k [c, o] (c.length : Int) [c, o] 2 1) (fun k => ?_) (Ev.step (f := fun k => impl_Cell_83.l0 k [c, o] ((c.length + o.length : Nat) : Int) [c, o] 2 2) (fun k => ?_) (Ev.step (fun k => ?_) a))
  · simp only [impl_Cell_83.l0, n2, r0, w1, e1]
    rw [if_pos (by omega), if_pos (by omega), if_pos (by omega), if_neg (by omega)]
  · simp only [impl_Cell_83.l0, n2, r1, w2, e2]
    rw [if_pos (by omega), if_pos (by omega), if_pos (by omega), if_neg (by omega)]
  · simp only [impl_Cell_83.l0, n2]
    rw [if_neg (by omega)]
    unfold impl_Cell_91.f
    rw [if_pos (show ([] : List S57).length = 0 from rfl), if_pos (by omega), if_pos (by omega)]
    rfl
theorem impl_keys_ev (c o : List S57) (mv : Int) (hc : c.length ≤ 1048576) (ho : o.length ≤ 1048576) : Ev (fun k => impl_Table_keys.f k c o mv) (sortB (keysL (c ++ o))) := by
  unfold impl_Table_keys.f
  refine Ev.bind (impl_concat c o hc ho) ?_
  simpa using impl_keys_loop (c ++ o) (by simp; omega) _ 0 [] rfl (Nat.le_refl _) (Nat.zero_le _)
def Keyless (c o : List S57) : Prop := (bytesL (keysL (c ++ o))).Nodup
def TR (c o : List S57) (mv : Int) : Prop :=
  SizeP c.length ∧ (o.length = 0 ∨ 2 * o.length = c.length) ∧ (0 ≤ mv ∧ mv ≤ (o.length : Int)) ∧ (∀ j, j < mv.toNat → gone (cl o j)) ∧ Keyless c o ∧ CR c ∧ CR o ∧ HasN c
theorem impl_ok_last (c o : List S57) (mv : Int) (hc : Small c) (ho : Small o) (ks : List ByteArray) (hk : ks.length ≤ 2097152) (d : Nat) : ∀ i : Nat, ks.length - i = d → 1 ≤ i → Ev (fun k => impl_TableOk.l1 k ks (i : Int) c o mv) (tr ((∀ j, i ≤ j → j < ks.length → (ks.getD j ByteArray.empty).toList ≠ (ks.getD (j - 1) ByteArray.empty).toList) ∧ CR c ∧ CR o ∧ HasN c)) := by
  induction d with
  | zero =>
    intro i hd hi
    rw [tr_right (fun j h1 h2 => absurd h1 (by omega))]
    refine Ev.step (f := fun k => (impl_cellsOk.f k c).bind fun t147 => (if t147 = true then ((impl_cellsOk.f k o).bind fun t148 => (if t148 = true then ((impl_nones.f k c).bind fun t149 => (some (decide (t149 > 0)))) else (some false))) else (some false))) (fun k => ?_) (Ev.bind (impl_cellsOk_ev c hc) ?_)
    · simp only [impl_TableOk.l1]
      rw [if_neg (by omega)]
    · by_cases h1 : CR c
      · rw [tr_right h1]
        simp only [tr_true h1, if_true]
        refine Ev.bind (impl_cellsOk_ev o ho) ?_
        by_cases h2 : CR o
        · rw [tr_right h2]
          simp only [tr_true h2, if_true]
          refine Ev.bind (impl_nones_ev c hc.1) ?_
          rw [tr_congr (HasN_count c), ← tr_dec (p := 0 < c.countP isN)]
          rw [show decide (((c.countP isN : Nat) : Int) > 0) = decide (0 < c.countP isN) from decide_eq_decide.2 (by omega)]
          exact Ev.now _
        · rw [tr_false (p := CR o ∧ HasN c) (fun z => h2 z.1)]
          simp only [tr_false h2]
          exact Ev.now _
      · rw [tr_false (p := CR c ∧ CR o ∧ HasN c) (fun z => h1 z.1)]
        simp only [tr_false h1]
        exact Ev.now _
  | succ d ih =>
    intro i hd hi
    have hn := ih (i + 1) (by omega) (by omega)
    have e2 : Aside0 (wrap64 ((i : Int) + 1) = ((i + 1 : Nat) : Int)) := ⟨by rw [wrap64_id (by omega) (by omega)]; omega⟩
    have e3 : Aside0 (wrap64 ((i : Int) - 1) = ((i - 1 : Nat) : Int)) := ⟨by rw [wrap64_id (by omega) (by omega)]; omega⟩
    have r0 : ∀ j : Nat, rdOf ByteArray.empty ks (j : Int) = ks.getD j ByteArray.empty := fun j => rfl
    rw [all_from (P := fun j => (ks.getD j ByteArray.empty).toList ≠ (ks.getD (j - 1) ByteArray.empty).toList) (by omega), and_assoc]
    by_cases he : (ks.getD i ByteArray.empty).toList = (ks.getD (i - 1) ByteArray.empty).toList
    · rw [tr_false (fun z => z.1 he)]
      refine Ev.step (f := fun _ => some false) (fun k => ?_) (Ev.now _)
      simp only [impl_TableOk.l1]
      rw [if_pos (by omega), if_pos (by omega), e3.out, if_pos (by omega), if_pos (by omega), r0, r0, if_pos he]
    · rw [tr_right he]
      refine Ev.step (fun k => ?_) hn
      simp only [impl_TableOk.l1]
      rw [if_pos (by omega), if_pos (by omega), e3.out, if_pos (by omega), if_pos (by omega), r0, r0, if_neg he, e2.out]
theorem sortB_len (L : List ByteArray) : (sortB L).length = L.length := sortB_length L
theorem impl_ok_gone (c o : List S57) (mv : Int) (hc : Small c) (ho : Small o) (y : List S57) (hy : y.length ≤ 1048576) (d : Nat) : ∀ i : Nat, y.length - i = d → Ev (fun k => impl_TableOk.l0 k y (y.length : Int) (i : Int) c o mv) (tr ((∀ j, i ≤ j → j < y.length → gone (cl y j)) ∧ Keyless c o ∧ CR c ∧ CR o ∧ HasN c)) := by
  induction d with
  | zero =>
    intro i hd
    rw [tr_right (fun j h1 h2 => absurd h1 (by omega))]
    refine Ev.step (f := fun k => (impl_Table_keys.f k c o mv).bind fun t142 => (impl_TableOk.l1 k t142 1 c o mv)) (fun k => ?_) (Ev.bind (impl_keys_ev c o mv hc.1 ho.1) ?_)
    · simp only [impl_TableOk.l0]
      rw [if_neg (by omega)]
    · have h := impl_ok_last c o mv hc ho (sortB (keysL (c ++ o))) (by rw [sortB_len]; have := keysL_length (c ++ o); have h1 := hc.1; have h2 := ho.1; simp at this; omega) _ 1 rfl (Nat.le_refl _)
      rw [sort_adj] at h
      exact h
  | succ d ih =>
    intro i hd
    have hn := ih (i + 1) (by omega)
    have e2 : Aside0 (wrap64 ((i : Int) + 1) = ((i + 1 : Nat) : Int)) := ⟨by rw [wrap64_id (by omega) (by omega)]; omega⟩
    rw [all_from (P := fun j => gone (cl y j)) (by omega), and_assoc]
    by_cases he : gone (cl y i)
    · rw [tr_right he]
      refine Ev.step (fun k => ?_) hn
      simp only [impl_TableOk.l0]
      rw [if_pos (by omega), if_pos (by omega), if_pos (by omega), rd_cl, if_neg (by simp [he.1, he.2]), e2.out]
    · rw [tr_false (fun z => he z.1)]
      refine Ev.step (f := fun _ => some false) (fun k => ?_) (Ev.now _)
      have hb : (!((cl y i).f0.toList == ([] : List UInt8)) || !((cl y i).f1 == -2)) = true := by
        by_cases h1 : (cl y i).f0.toList = []
        · have h2 : ¬ (cl y i).f1 = -2 := fun z => he ⟨h1, z⟩
          rw [beq_eq_false_iff_ne.2 h2, Bool.not_false, Bool.or_true]
        · rw [beq_eq_false_iff_ne.2 h1]; rfl
      simp only [impl_TableOk.l0]
      rw [if_pos (by omega), if_pos (by omega), if_pos (by omega), rd_cl, if_pos hb]
theorem impl_ok_j0 (c o : List S57) (mv : Int) (hc : Small c) (ho : Small o) (hs : SizeP c.length) (hl : o.length = 0 ∨ 2 * o.length = c.length) : Ev (fun k => impl_TableOk.j0 k (!(decide (0 ≤ mv ∧ mv ≤ (o.length : Int)))) c o mv) (tr (TR c o mv)) := by
  by_cases hm : 0 ≤ mv ∧ mv ≤ (o.length : Int)
  · obtain ⟨m, rfl⟩ := Int.eq_ofNat_of_zero_le hm.1
    have h := impl_ok_gone c o (m : Int) hc ho (o.take m) (by simp; have := ho.1; omega) _ 0 rfl
    have e : tr (TR c o (m : Int)) = tr ((∀ j, 0 ≤ j → j < (o.take m).length → gone (cl (o.take m) j)) ∧ Keyless c o ∧ CR c ∧ CR o ∧ HasN c) := by
      refine tr_congr ⟨fun z => ⟨fun j _ hj => ?_, z.2.2.2.2⟩, fun z => ⟨hs, hl, hm, fun j hj => ?_, z.2⟩⟩
      · have hj' : j < m := by simp at hj; omega
        have := z.2.2.2.1 j (by simpa using hj')
        unfold cl at *
        rwa [List.getD_eq_getElem?_getD, List.getElem?_take_of_lt hj', ← List.getD_eq_getElem?_getD]
      · have hj' : j < m := by simpa using hj
        have := z.1 j (Nat.zero_le _) (by simp; omega)
        unfold cl at *
        rwa [List.getD_eq_getElem?_getD, List.getElem?_take_of_lt hj', ← List.getD_eq_getElem?_getD] at this
    rw [e, decide_eq_true hm]
    refine Ev.step (fun k => ?_) h
    simp only [impl_TableOk.j0]
    rw [if_neg (by simp), if_pos hm.1, if_pos hm.2]
    rfl
  · rw [tr_false (fun z => hm z.2.2.1), decide_eq_false hm]
    refine Ev.step (f := fun _ => some false) (fun k => ?_) (Ev.now _)
    simp only [impl_TableOk.j0]
    rw [if_pos (by simp)]
theorem impl_TableOk_ev (c o : List S57) (mv : Int) (hc : Small c) (ho : Small o) : Ev (fun k => impl_TableOk.f k c o mv) (tr (TR c o mv)) := by
  have hj : ¬ (TR c o mv) → Ev (fun k => impl_TableOk.j0 k true c o mv) (tr (TR c o mv)) := fun h => by
    rw [tr_false h]
    refine Ev.step (f := fun _ => some false) (fun k => ?_) (Ev.now _)
    simp only [impl_TableOk.j0]
    rw [if_pos trivial]
  have h1 := hc.1
  have h2 := ho.1
  have e2 : Aside0 (wrap64 (2 * (o.length : Int)) = 2 * (o.length : Int)) := ⟨wrap64_id (by omega) (by omega)⟩
  unfold impl_TableOk.f
  simp only [impl_size, impl_in, Option.bind_some, e2.out]
  by_cases hs : SizeP c.length
  · simp only [tr_true hs, if_true]
    by_cases h0 : (o.length : Int) = 0
    · simp only [if_pos h0]
      exact impl_ok_j0 c o mv hc ho hs (.inl (by omega))
    · simp only [if_neg h0]
      by_cases h3 : 2 * (o.length : Int) = (c.length : Int)
      · simp only [if_pos h3]
        exact impl_ok_j0 c o mv hc ho hs (.inr (by omega))
      · simp only [if_neg h3]
        exact hj (fun z => by have := z.2.1; omega)
  · simp only [tr_false hs]
    exact hj (fun z => hs z.1)
def OldOk (c o : List S57) (mv : Int) (j : Nat) : Prop := ((j : Int) < mv → gone (cl o j)) ∧ ((cl o j).f0.toList ≠ [] → seekS c (cl o j).f0 < 0)
theorem spec_ok_loop (c o : List S57) (mv : Int) (hc : Small c) (ho : Small o) (d : Nat) : ∀ i : Nat, o.length - i = d → Ev (fun k => spec_TableOk.l0 k (i : Int) c o mv) (tr (∀ j, i ≤ j → j < o.length → OldOk c o mv j)) := by
  have h1 := ho.1
  induction d with
  | zero =>
    intro i hd
    rw [tr_true (fun j h1 h2 => absurd h1 (by omega))]
    refine Ev.step (f := fun _ => some true) (fun k => ?_) (Ev.now _)
    simp only [spec_TableOk.l0]
    rw [if_neg (by omega)]
  | succ d ih =>
    intro i hd
    have hn := ih (i + 1) (by omega)
    have e2 : Aside0 (wrap64 ((i : Int) + 1) = ((i + 1 : Nat) : Int)) := ⟨by rw [wrap64_id (by omega) (by omega)]; omega⟩
    rw [tr_congr (all_from (by omega))]
    by_cases hm : (i : Int) < mv
    · by_cases hk : (cl o i).f0.toList = []
      · by_cases hh : (cl o i).f1 = -2
        · rw [tr_right ⟨fun _ => ⟨hk, hh⟩, fun z => absurd hk z⟩]
          refine Ev.step (fun k => ?_) hn
          simp only [spec_TableOk.l0]
          rw [if_pos (by omega), if_pos (by omega), if_pos hm, rd_cl, if_pos hk, if_pos hh, e2.out]
        · rw [tr_false (fun z => hh (z.1.1 hm).2)]
          refine Ev.step (f := fun _ => some false) (fun k => ?_) (Ev.now _)
          simp only [spec_TableOk.l0]
          rw [if_pos (by omega), if_pos (by omega), if_pos hm, rd_cl, if_pos hk, if_neg hh]
      · rw [tr_false (fun z => hk (z.1.1 hm).1)]
        refine Ev.step (f := fun _ => some false) (fun k => ?_) (Ev.now _)
        simp only [spec_TableOk.l0]
        rw [if_pos (by omega), if_pos (by omega), if_pos hm, rd_cl, if_neg hk]
    · by_cases hk : (cl o i).f0.toList = []
      · rw [tr_right ⟨fun z => absurd z hm, fun z => absurd hk z⟩]
        refine Ev.step (fun k => ?_) hn
        simp only [spec_TableOk.l0]
        rw [if_pos (by omega), if_pos (by omega), if_neg hm, rd_cl, if_pos hk, e2.out]
      · refine Ev.step (f := fun k => (spec_l04Seek.f k c (cl o i).f0).bind fun t => if t ≥ 0 then some false else spec_TableOk.l0 k ((i + 1 : Nat) : Int) c o mv) (fun k => ?_) (Ev.bind (spec_seek_ev c _ hc.1 (ho.2 i)) ?_)
        · simp only [spec_TableOk.l0]
          rw [if_pos (by omega), if_pos (by omega), if_neg hm, rd_cl, if_neg hk, e2.out]
        · by_cases hs : seekS c (cl o i).f0 ≥ 0
          · rw [tr_false (fun z => by have := z.1.2 hk; omega)]
            simp only [if_pos hs]
            exact Ev.now _
          · rw [tr_right ⟨fun z => absurd z hm, fun _ => by omega⟩]
            simp only [if_neg hs]
            exact hn
def TRs (c o : List S57) (mv : Int) : Prop :=
  SizeP c.length ∧ (o.length = 0 ∨ 2 * o.length = c.length) ∧ (0 ≤ mv ∧ mv ≤ (o.length : Int)) ∧ (CR c ∧ HasN c) ∧ CR o ∧ ∀ j, j < o.length → OldOk c o mv j
theorem spec_TableOk_evs (c o : List S57) (mv : Int) (hc : Small c) (ho : Small o) : Ev (fun k => spec_TableOk.f k c o mv) (tr (TRs c o mv)) := by
  have hj : ¬ (TRs c o mv) → Ev (fun k => spec_TableOk.j0 k true c o mv) (tr (TRs c o mv)) := fun h => by
    rw [tr_false h]
    refine Ev.step (f := fun _ => some false) (fun k => ?_) (Ev.now _)
    simp only [spec_TableOk.j0]
    rw [if_pos trivial]
  have h1 := hc.1
  have h2 := ho.1
  have e2 : Aside0 (wrap64 (2 * (o.length : Int)) = 2 * (o.length : Int)) := ⟨wrap64_id (by omega) (by omega)⟩
  have body : SizeP c.length → (o.length = 0 ∨ 2 * o.length = c.length) → Ev (fun k => if decide (0 ≤ mv ∧ mv ≤ (o.length : Int)) = true then ((spec_l04Right.f k c true).bind fun t200 => (if t200 = true then ((spec_l04Right.f k o false).bind fun t201 => (spec_TableOk.j0 k (!t201) c o mv)) else (spec_TableOk.j0 k true c o mv))) else (spec_TableOk.j0 k true c o mv)) (tr (TRs c o mv)) := fun hs hl => by
    by_cases hm : 0 ≤ mv ∧ mv ≤ (o.length : Int)
    · simp only [decide_eq_true hm, if_true]
      have hr1 : Ev (fun k => spec_l04Right.f k c true) (tr (CR c ∧ HasN c)) := by simpa using spec_right_ev c hc true
      have hr2 : Ev (fun k => spec_l04Right.f k o false) (tr (CR o)) := by simpa using spec_right_ev o ho false
      refine Ev.bind hr1 ?_
      by_cases g1 : CR c ∧ HasN c
      · simp only [tr_true g1, if_true]
        refine Ev.bind hr2 ?_
        by_cases g2 : CR o
        · rw [tr_true g2]
          have e : tr (TRs c o mv) = tr (∀ j, 0 ≤ j → j < o.length → OldOk c o mv j) := tr_congr ⟨fun z j _ hj => z.2.2.2.2.2 j hj, fun z => ⟨hs, hl, hm, g1, g2, fun j hj => z j (Nat.zero_le _) hj⟩⟩
          rw [e]
          refine Ev.step (fun k => ?_) (spec_ok_loop c o mv hc ho _ 0 rfl)
          simp only [spec_TableOk.j0]
          rw [if_neg (by simp)]
          rfl
        · rw [tr_false g2]
          exact hj (fun z => g2 z.2.2.2.2.1)
      · simp only [tr_false g1]
        exact hj (fun z => g1 z.2.2.2.1)
    · simp only [decide_eq_false hm]
      exact hj (fun z => hm z.2.2.1)
  unfold spec_TableOk.f
  simp only [spec_size, spec_in, Option.bind_some, e2.out]
  by_cases hs : SizeP c.length
  · simp only [tr_true hs, if_true]
    by_cases h0 : (o.length : Int) = 0
    · simp only [if_pos h0]
      exact body hs (.inl (by omega))
    · simp only [if_neg h0]
      by_cases h3 : 2 * (o.length : Int) = (c.length : Int)
      · simp only [if_pos h3]
        exact body hs (.inr (by omega))
      · simp only [if_neg h3]
        exact hj (fun z => by have := z.2.1; omega)
  · simp only [tr_false hs]
    exact hj (fun z => hs z.1)
theorem bytes_keys (l : List S57) : bytesL (keysL l) = (l.filter fun x => x.f0.toList != []).map fun x => x.f0.data.toList := by
  unfold bytesL keysL
  rw [List.map_map]
  rfl
theorem cl_get (l : List S57) (j : Nat) (h : j < l.length) : cl l j = l[j] := by unfold cl; rw [List.getD_eq_getElem?_getD, List.getElem?_eq_getElem h]; rfl
theorem mem_keys (l : List S57) (b : List UInt8) : b ∈ bytesL (keysL l) ↔ ∃ j, j < l.length ∧ (cl l j).f0.toList ≠ [] ∧ (cl l j).f0.toList = b := by
  rw [bytes_keys, List.mem_map]
  constructor
  · rintro ⟨x, hx, e⟩
    rw [List.mem_filter] at hx
    obtain ⟨j, hj, e2⟩ := List.getElem_of_mem hx.1
    refine ⟨j, hj, ?_, ?_⟩
    · rw [cl_get l j hj, e2]; simpa using hx.2
    · rw [cl_get l j hj, e2, Lib.toList_data]; exact e
  · rintro ⟨j, hj, h1, h2⟩
    refine ⟨cl l j, ?_, by rw [← Lib.toList_data]; exact h2⟩
    rw [List.mem_filter]
    exact ⟨by rw [cl_get l j hj]; exact List.getElem_mem _, by simpa using h1⟩
theorem CR_nodup (l : List S57) (h : CR l) : (bytesL (keysL l)).Nodup := by
  rw [bytes_keys]
  unfold List.Nodup
  rw [List.pairwise_map, List.pairwise_filter, List.pairwise_iff_getElem]
  intro i j hi hj hij h1 h2 e
  have hi1 := ((h i hi).2 (by rw [cl_get l i hi]; simpa using h1)).2.2
  have hj1 := ((h j hj).2 (by rw [cl_get l j hj]; simpa using h2)).2.2
  rw [cl_get l i hi] at hi1
  rw [cl_get l j hj] at hj1
  rw [ba_ext e, hj1] at hi1
  omega
theorem Keyless_iff (c o : List S57) (hc : CR c) (ho : CR o) : Keyless c o ↔ ∀ j, j < o.length → (cl o j).f0.toList ≠ [] → seekI c (cl o j).f0 < 0 := by
  unfold Keyless
  rw [keysL_append, show bytesL (keysL c ++ keysL o) = bytesL (keysL c) ++ bytesL (keysL o) by simp [bytesL], List.nodup_append]
  constructor
  · rintro ⟨_, _, h⟩ j hj hk
    rcases seekI_range c (cl o j).f0 with e | ⟨p, hp, e, hm⟩
    · omega
    · exfalso
      have hm' : (cl c p).f0.toList = (cl o j).f0.toList := by
        unfold mI at hm
        rw [Bool.and_eq_true] at hm
        simpa using hm.1
      exact h _ ((mem_keys c _).2 ⟨p, hp, by rw [hm']; exact hk, hm'⟩) _ ((mem_keys o _).2 ⟨j, hj, hk, rfl⟩) rfl
  · intro h
    refine ⟨CR_nodup c hc, CR_nodup o ho, fun a ha b hb e => ?_⟩
    subst e
    obtain ⟨p, hp, h1, h2⟩ := (mem_keys c a).1 ha
    obtain ⟨j, hj, h3, h4⟩ := (mem_keys o a).1 hb
    have := h j hj h3
    rw [ba_toList_inj (h4.trans h2.symm), ((hc p hp).2 h1).2.2] at this
    omega
theorem TR_same (c o : List S57) (mv : Int) : TRs c o mv ↔ TR c o mv := by
  constructor
  · rintro ⟨h1, h2, h3, h4, h5, h6⟩
    refine ⟨h1, h2, h3, fun j hj => (h6 j (by omega)).1 (by omega), (Keyless_iff c o h4.1 h5).2 (fun j hj hk => ?_), h4.1, h5, h4.2⟩
    rw [← seek_same c _ (CR_NE h4.1) hk]
    exact (h6 j hj).2 hk
  · rintro ⟨h1, h2, h3, h4, h5, h6, h7, h8⟩
    refine ⟨h1, h2, h3, ⟨h6, h8⟩, h7, fun j hj => ⟨fun hm => h4 j (by omega), fun hk => ?_⟩⟩
    rw [seek_same c _ (CR_NE h6) hk]
    exact (Keyless_iff c o h6 h7).1 h5 j hj hk
theorem spec_TableOk_ev (c o : List S57) (mv : Int) (hc : Small c) (ho : Small o) : Ev (fun k => spec_TableOk.f k c o mv) (tr (TR c o mv)) := by
  rw [← tr_congr (TR_same c o mv)]
  exact spec_TableOk_evs c o mv hc ho
abbrev TV := List S57 × List S57 × Int × Bool
def badV : TV := ([], [], 0, false)
theorem size_le {n : Nat} (h : SizeP n) : 4 ≤ n ∧ n ≤ 64 := by unfold SizeP at h; omega
def goneC : S57 := ⟨(⟨#[]⟩ : ByteArray), (-2)⟩
def freeP (l : List S57) : Nat → Nat → Int
  | 0, _ => -1
  | d + 1, p => if (cl l p).f0.toList = [] then (p : Int) else freeP l d ((p + 1) % l.length)
theorem freeP_range (l : List S57) (d : Nat) : ∀ p, p < l.length → freeP l d p = -1 ∨ ∃ q : Nat, q < l.length ∧ freeP l d p = (q : Int) ∧ (cl l q).f0.toList = [] := by
  induction d with
  | zero => intro p _; exact .inl rfl
  | succ d ih =>
    intro p hp
    simp only [freeP]
    by_cases h : (cl l p).f0.toList = []
    · rw [if_pos h]; exact .inr ⟨p, hp, rfl, h⟩
    · rw [if_neg h]; exact ih _ (Nat.mod_lt _ (by omega))
theorem freeP_none (l : List S57) (d : Nat) : ∀ p, p < l.length → freeP l d p = -1 → ∀ i, i < d → (cl l ((p + i) % l.length)).f0.toList ≠ [] := by
  induction d with
  | zero => intro p _ _ i hi; omega
  | succ d ih =>
    intro p hp h i hi
    simp only [freeP] at h
    by_cases hc : (cl l p).f0.toList = []
    · rw [if_pos hc] at h; omega
    · rw [if_neg hc] at h
      cases i with
      | zero => rw [Nat.add_zero, Nat.mod_eq_of_lt hp]; exact hc
      | succ i =>
        have := ih _ (Nat.mod_lt _ (by omega)) h i (by omega)
        rw [Nat.mod_add_mod] at this
        rwa [show p + (i + 1) = p + 1 + i by omega]
theorem freeP_some (l : List S57) (h : HasN l) (p : Nat) (hp : p < l.length) : ∃ q : Nat, q < l.length ∧ freeP l l.length p = (q : Int) ∧ (cl l q).f0.toList = [] := by
  rcases freeP_range l l.length p hp with h1 | h1
  · exfalso
    obtain ⟨j, hj, hn⟩ := h
    have he : (cl l j).f0.toList = [] := by
      unfold isN at hn
      rw [Bool.and_eq_true] at hn
      simpa using hn.1
    rcases Nat.lt_or_ge j p with hjp | hjp
    · have := freeP_none l _ p hp h1 (j + l.length - p) (by omega)
      rw [show p + (j + l.length - p) = j + l.length by omega, Nat.add_mod_right, Nat.mod_eq_of_lt hj] at this
      exact this he
    · have := freeP_none l _ p hp h1 (j - p) (by omega)
      rw [show p + (j - p) = j by omega, Nat.mod_eq_of_lt hj] at this
      exact this he
  · exact h1
def clearO (o : List S57) (key : ByteArray) : List S57 := if 0 ≤ seekI o key then o.set (seekI o key).toNat goneC else o
def freeAt (c : List S57) (key : ByteArray) : Nat := (freeP c c.length (home c.length key)).toNat
def noRoom (c : List S57) (key : ByteArray) : Prop := (cl c (freeAt c key)).f1 = -1 ∧ c.countP isN = 1
noncomputable def putC (c o : List S57) (key : ByteArray) (h : Int) : Bool × List S57 × List S57 :=
  if 0 ≤ seekI c key then (true, c.set (seekI c key).toNat ⟨key, h⟩, clearO o key)
  else if tr (noRoom c key) = true then (false, c, o) else (true, c.set (freeAt c key) ⟨key, h⟩, clearO o key)
theorem seek_lt' (l : List S57) (key : ByteArray) : seekI l key < (l.length : Int) := by
  rcases seekI_range l key with h | ⟨j, hj, h, _⟩ <;> omega
theorem cl_set (l : List S57) (q : Nat) (v : S57) (j : Nat) (hj : j < l.length) : cl (l.set q v) j = if j = q then v else cl l j := by
  unfold cl
  rw [List.getD_eq_getElem?_getD, List.getD_eq_getElem?_getD]
  by_cases h : j = q
  · subst h
    rw [List.getElem?_set_self hj, if_pos rfl]
    rfl
  · rw [List.getElem?_set_ne (by omega), if_neg h]
theorem isN_iff (x : S57) : isN x = true ↔ x.f0.toList = [] ∧ x.f1 = -1 := by
  unfold isN
  rw [Bool.and_eq_true, beq_iff_eq, beq_iff_eq]
def NoKey (l : List S57) (key : ByteArray) : Prop := ∀ j, j < l.length → (cl l j).f0.toList ≠ key.toList
theorem NoKey.set {l : List S57} {key : ByteArray} (h : NoKey l key) (q : Nat) (v : S57) (hv : v.f0.toList ≠ key.toList) : NoKey (l.set q v) key := by
  intro j hj
  have hj' : j < l.length := by simpa using hj
  rw [cl_set l q v j hj']
  split
  · exact hv
  · exact h j hj'
theorem count_set (l : List S57) (q : Nat) (v : S57) (hq : q < l.length) : (l.set q v).countP isN + (if isN (cl l q) = true then 1 else 0) = l.countP isN + (if isN v = true then 1 else 0) := by
  have e : l = l.take q ++ cl l q :: l.drop (q + 1) := by rw [← drop_cl l q hq, List.take_append_drop]
  have e2 : l.set q v = l.take q ++ v :: l.drop (q + 1) := by
    conv => lhs; rw [e]
    rw [List.set_append_right _ _ (by simp; omega)]
    have : q - (l.take q).length = 0 := by simp; omega
    rw [this]
    rfl
  rw [e2]
  conv => rhs; rw [e]
  rw [List.countP_append, List.countP_append, List.countP_cons, List.countP_cons]
  omega
theorem sput_has {c : List S57} {key : ByteArray} {h : Int} (hn : HasN c) (hk : key.toList ≠ []) (hr : ¬ noRoom c key) : HasN (c.set (freeAt c key) ⟨key, h⟩) := by
  have hpos : 0 < c.length := by obtain ⟨j, hj, _⟩ := hn; omega
  obtain ⟨q, hq, hf, he⟩ := freeP_some c hn (home c.length key) (home_lt _ _ hpos)
  have e : freeAt c key = q := by unfold freeAt; rw [hf]; omega
  unfold noRoom at hr
  rw [e] at hr ⊢
  have h0 := (HasN_count c).1 hn
  rw [HasN_count]
  have hs := count_set c q ⟨key, h⟩ hq
  rw [if_neg (show ¬ isN (⟨key, h⟩ : S57) = true from fun z => hk ((isN_iff _).1 z).1)] at hs
  by_cases h1 : isN (cl c q) = true
  · rw [if_pos h1] at hs
    have h2 : ¬ c.countP isN = 1 := fun z => hr ⟨((isN_iff _).1 h1).2, z⟩
    omega
  · rw [if_neg h1] at hs
    omega
def findV (c o : List S57) (key : ByteArray) : Int × Bool :=
  if 0 ≤ seekI c key then ((cl c (seekI c key).toNat).f1, true) else if 0 ≤ seekI o key then ((cl o (seekI o key).toNat).f1, true) else (0, false)
theorem seekI_lt (l : List S57) (key : ByteArray) : seekI l key < (l.length : Int) := by
  rcases seekI_range l key with h | ⟨j, hj, h, _⟩ <;> omega
def look (l : List S57) (k : ByteArray) : Option Int := if 0 ≤ seekI l k then some (cl l (seekI l k).toNat).f1 else none
theorem findV_look (c o : List S57) (k : ByteArray) : findV c o k = match look c k with
    | some h => (h, true)
    | none => match look o k with
      | some h => (h, true)
      | none => (0, false) := by
  unfold findV look
  by_cases h1 : 0 ≤ seekI c k
  · rw [if_pos h1, if_pos h1]
  · rw [if_neg h1, if_neg h1]
    by_cases h2 : 0 ≤ seekI o k
    · rw [if_pos h2, if_pos h2]
    · rw [if_neg h2, if_neg h2]
theorem mI_iff {k : ByteArray} {x : S57} : mI k x = true ↔ x.f0 = k ∧ k.toList ≠ [] := by
  unfold mI
  rw [Bool.and_eq_true, beq_iff_eq]
  constructor
  · rintro ⟨h1, h2⟩
    exact ⟨ba_toList_inj h1, by simpa using h2⟩
  · rintro ⟨rfl, h2⟩
    exact ⟨rfl, by simpa using h2⟩
theorem seek_at {l : List S57} (hc : CR l) {j : Nat} (hj : j < l.length) (hk : (cl l j).f0.toList ≠ []) : seekI l (cl l j).f0 = (j : Int) := ((hc j hj).2 hk).2.2
theorem seek_stands {l : List S57} {k : ByteArray} (h : 0 ≤ seekI l k) : ∃ j : Nat, j < l.length ∧ seekI l k = (j : Int) ∧ (cl l j).f0 = k ∧ k.toList ≠ [] := by
  rcases seekI_range l k with e | ⟨j, hj, e, hm⟩
  · omega
  · exact ⟨j, hj, e, (mI_iff.1 hm).1, (mI_iff.1 hm).2⟩
theorem seek_neg {l : List S57} {k : ByteArray} (h : ¬ 0 ≤ seekI l k) : seekI l k = -1 := by
  rcases seekI_range l k with e | ⟨j, hj, e, hm⟩ <;> omega
theorem seek_absent {l : List S57} (hc : CR l) {k : ByteArray} (hk : k.toList ≠ []) (h : ¬ 0 ≤ seekI l k) : ∀ j, j < l.length → (cl l j).f0 ≠ k := by
  intro j hj e
  have := seek_at hc hj (by rw [e]; exact hk)
  rw [e] at this
  omega
theorem absent_seek {l : List S57} {k : ByteArray} (h : ∀ j, j < l.length → (cl l j).f0 ≠ k) : seekI l k = -1 := by
  rcases seekI_range l k with e | ⟨j, hj, _, hm⟩
  · exact e
  · exact absurd (mI_iff.1 hm).1 (h j hj)
theorem probe_set (l : List S57) (m : S57 → Bool) (q : Nat) (v : S57) (hq : m (cl l q) = false) (hv : m v = false) (hn : ¬ (v.f0.toList = [] ∧ v.f1 = -1)) (d : Nat) : ∀ p, p < l.length → 0 ≤ probe l m d p → probe (l.set q v) m d p = probe l m d p := by
  induction d with
  | zero => intro p _ _; rfl
  | succ d ih =>
    intro p hp h
    simp only [probe] at h ⊢
    rw [cl_set l q v p hp, List.length_set]
    by_cases e : p = q
    · subst e
      rw [if_pos rfl, hv, if_neg (by simp), if_neg hn]
      rw [hq, if_neg (by simp)] at h ⊢
      by_cases h2 : (cl l p).f0.toList = [] ∧ (cl l p).f1 = -1
      · rw [if_pos h2] at h; omega
      · rw [if_neg h2] at h ⊢
        exact ih _ (Nat.mod_lt _ (by omega)) h
    · rw [if_neg e]
      by_cases h1 : m (cl l p) = true
      · rw [if_pos h1, if_pos h1]
      · rw [if_neg h1] at h ⊢
        rw [if_neg h1]
        by_cases h2 : (cl l p).f0.toList = [] ∧ (cl l p).f1 = -1
        · rw [if_pos h2, if_pos h2]
        · rw [if_neg h2] at h ⊢
          rw [if_neg h2]
          exact ih _ (Nat.mod_lt _ (by omega)) h
theorem probe_over (l : List S57) (m : S57 → Bool) (q : Nat) (v : S57) (hm : m v = m (cl l q)) (h1 : (cl l q).f0.toList ≠ []) (h2 : v.f0.toList ≠ []) (d : Nat) : ∀ p, p < l.length → probe (l.set q v) m d p = probe l m d p := by
  induction d with
  | zero => intro p _; rfl
  | succ d ih =>
    intro p hp
    simp only [probe]
    rw [cl_set l q v p hp, List.length_set, ih _ (Nat.mod_lt _ (by omega))]
    by_cases e : p = q
    · subst e
      rw [if_pos rfl, hm, if_neg (show ¬ (v.f0.toList = [] ∧ v.f1 = -1) from fun z => h2 z.1), if_neg (show ¬ ((cl l p).f0.toList = [] ∧ (cl l p).f1 = -1) from fun z => h1 z.1)]
    · rw [if_neg e]
theorem probe_free (l : List S57) (key : ByteArray) (h : Int) (hk : key.toList ≠ []) (q : Nat) (ha : ∀ j, j < l.length → (cl l j).f0 ≠ key) (d : Nat) : ∀ p, p < l.length → freeP l d p = (q : Int) → probe (l.set q ⟨key, h⟩) (mI key) d p = (q : Int) := by
  induction d with
  | zero => intro p _ hf; simp only [freeP] at hf; omega
  | succ d ih =>
    intro p hp hf
    simp only [freeP] at hf
    simp only [probe]
    rw [cl_set l q _ p hp, List.length_set]
    by_cases he : (cl l p).f0.toList = []
    · rw [if_pos he] at hf
      obtain rfl : p = q := by omega
      have hm : mI key (⟨key, h⟩ : S57) = true := mI_iff.2 ⟨rfl, hk⟩
      rw [if_pos rfl, if_pos hm]
    · rw [if_neg he] at hf
      have hpq : p ≠ q := fun e => by
        rcases freeP_range l d ((p + 1) % l.length) (Nat.mod_lt _ (by omega)) with e2 | ⟨j, _, e2, e3⟩
        · omega
        · have : j = p := by omega
          rw [this] at e3
          exact he e3
      rw [if_neg hpq, if_neg (fun z => ha p hp (mI_iff.1 z).1), if_neg (fun z => he z.1)]
      exact ih _ (Nat.mod_lt _ (by omega)) hf
theorem seek_set {l : List S57} (hc : CR l) {q : Nat} (hql : q < l.length) {v : S57} {k : ByteArray} (hk : k.toList ≠ []) (hq : (cl l q).f0 ≠ k) (hv : v.f0 ≠ k) (hn : ¬ (v.f0.toList = [] ∧ v.f1 = -1)) : seekI (l.set q v) k = seekI l k := by
  have m0 : mI k (cl l q) = false := by
    cases e : mI k (cl l q)
    · rfl
    · exact absurd (mI_iff.1 e).1 hq
  have m1 : mI k v = false := by
    cases e : mI k v
    · rfl
    · exact absurd (mI_iff.1 e).1 hv
  by_cases h : 0 ≤ seekI l k
  · unfold seekI at h ⊢
    rw [List.length_set]
    exact probe_set l (mI k) q v m0 m1 hn _ _ (home_lt _ _ (by omega)) h
  · rw [seek_neg h]
    refine absent_seek (fun j hj => ?_)
    have hj' : j < l.length := by simpa using hj
    rw [cl_set l q v j hj']
    split
    · exact hv
    · exact seek_absent hc hk h j hj'
theorem look_set {l : List S57} (hc : CR l) {q : Nat} (hql : q < l.length) {v : S57} {k : ByteArray} (hk : k.toList ≠ []) (hq : (cl l q).f0 ≠ k) (hv : v.f0 ≠ k) (hn : ¬ (v.f0.toList = [] ∧ v.f1 = -1)) : look (l.set q v) k = look l k := by
  unfold look
  rw [seek_set hc hql hk hq hv hn]
  by_cases h : 0 ≤ seekI l k
  · obtain ⟨j, hj, e, hf, _⟩ := seek_stands h
    rw [if_pos h, if_pos h, e]
    simp only [Int.toNat_natCast]
    rw [cl_set l q v j hj, if_neg (fun z => hq (by rw [← z]; exact hf))]
  · rw [if_neg h, if_neg h]
theorem look_none {l : List S57} {k : ByteArray} (h : ¬ 0 ≤ seekI l k) : look l k = none := by unfold look; rw [if_neg h]
theorem look_some {l : List S57} {k : ByteArray} {j : Nat} (h : seekI l k = (j : Int)) : look l k = some (cl l j).f1 := by unfold look; rw [if_pos (by omega), h]; rfl
theorem nil_ne {k : ByteArray} {x : S57} (hk : k.toList ≠ []) (h : x.f0.toList = []) : x.f0 ≠ k := fun e => hk (by rw [← e]; exact h)
structure PutIn (l l' : List S57) (key : ByteArray) (h : Int) : Prop where
  cr : CR l'
  len : l'.length = l.length
  at_ : look l' key = some h
  other : ∀ k : ByteArray, k.toList ≠ [] → k ≠ key → look l' k = look l k
  has : HasN l'
structure TakenFrom (l l' : List S57) (key : ByteArray) : Prop where
  cr : CR l'
  len : l'.length = l.length
  at_ : look l' key = none
  other : ∀ k : ByteArray, k.toList ≠ [] → k ≠ key → look l' k = look l k
  has : HasN l → HasN l'
theorem put_free {l : List S57} {key : ByteArray} {h : Int} (hc : CR l) (hn : HasN l) (hk : key.toList ≠ []) (hs : key.size ≤ 12) (hh : 0 ≤ h) (ha : ¬ 0 ≤ seekI l key) (hr : ¬ noRoom l key) : PutIn l (l.set (freeAt l key) ⟨key, h⟩) key h := by
  have hpos : 0 < l.length := by obtain ⟨j, hj, _⟩ := hn; omega
  have hHas := sput_has (h := h) hn hk hr
  obtain ⟨q, hq, hf, he⟩ := freeP_some l hn (home l.length key) (home_lt _ _ hpos)
  have e : freeAt l key = q := by unfold freeAt; rw [hf]; omega
  rw [e] at hHas ⊢
  have hab := seek_absent hc hk ha
  have hsk : seekI (l.set q ⟨key, h⟩) key = (q : Int) := by
    unfold seekI
    rw [List.length_set]
    exact probe_free l key h hk q hab _ _ (home_lt _ _ hpos) hf
  have hv : ¬ ((⟨key, h⟩ : S57).f0.toList = [] ∧ (⟨key, h⟩ : S57).f1 = -1) := fun z => hk z.1
  refine ⟨fun j hj => ?_, by simp, ?_, fun k hk2 hne => look_set hc hq hk2 (nil_ne hk2 he) (fun z => hne z.symm) hv, hHas⟩
  · have hj' : j < l.length := by simpa using hj
    unfold CellOk
    rw [cl_set l q _ j hj']
    by_cases ej : j = q
    · subst ej
      rw [if_pos rfl]
      exact ⟨fun z => absurd z hk, fun _ => ⟨hs, hh, hsk⟩⟩
    · rw [if_neg ej]
      refine ⟨(hc j hj').1, fun z => ⟨((hc j hj').2 z).1, ((hc j hj').2 z).2.1, ?_⟩⟩
      rw [seek_set hc hq z (nil_ne z he) (fun y => hab j hj' y.symm) hv]
      exact seek_at hc hj' z
  · rw [look_some hsk, cl_set l q _ q hq, if_pos rfl]
theorem hasN_set {l : List S57} {q : Nat} {v : S57} (hq : q < l.length) (h0 : isN (cl l q) = false) (hn : HasN l) : HasN (l.set q v) := by
  obtain ⟨j, hj, hj2⟩ := hn
  refine ⟨j, by simpa using hj, ?_⟩
  rw [cl_set l q v j hj, if_neg (fun e => by rw [e, h0] at hj2; cases hj2)]
  exact hj2
theorem isN_key {x : S57} (h : x.f0.toList ≠ []) : isN x = false := by
  cases e : isN x
  · rfl
  · exact absurd ((isN_iff x).1 e).1 h
theorem put_over {l : List S57} {key : ByteArray} {h : Int} (hc : CR l) (hn : HasN l) (hh : 0 ≤ h) (ha : 0 ≤ seekI l key) : PutIn l (l.set (seekI l key).toNat ⟨key, h⟩) key h := by
  obtain ⟨q, hq, e, hf, hk⟩ := seek_stands ha
  have hs : key.size ≤ 12 := by
    have := ((hc q hq).2 (by rw [hf]; exact hk)).1
    rw [hf] at this
    exact this
  rw [e]
  simp only [Int.toNat_natCast]
  have hcl : (cl l q).f0.toList ≠ [] := by rw [hf]; exact hk
  have hpo : ∀ k, seekI (l.set q ⟨key, h⟩) k = seekI l k := fun k => by
    unfold seekI
    rw [List.length_set]
    refine probe_over l (mI k) q ⟨key, h⟩ ?_ hcl hk _ _ (home_lt _ _ (by omega))
    unfold mI
    rw [hf]
  refine ⟨fun j hj => ?_, by simp, ?_, fun k hk2 hne => ?_, hasN_set hq (isN_key hcl) hn⟩
  · have hj' : j < l.length := by simpa using hj
    unfold CellOk
    rw [cl_set l q _ j hj']
    by_cases ej : j = q
    · subst ej
      rw [if_pos rfl]
      exact ⟨fun z => absurd z hk, fun _ => ⟨hs, hh, by rw [hpo]; exact e⟩⟩
    · rw [if_neg ej]
      exact ⟨(hc j hj').1, fun z => ⟨((hc j hj').2 z).1, ((hc j hj').2 z).2.1, by rw [hpo]; exact seek_at hc hj' z⟩⟩
  · rw [look_some ((hpo key).trans e), cl_set l q _ q hq, if_pos rfl]
  · unfold look
    rw [hpo]
    by_cases h2 : 0 ≤ seekI l k
    · obtain ⟨j, hj, e2, hf2, _⟩ := seek_stands h2
      rw [if_pos h2, if_pos h2, e2]
      simp only [Int.toNat_natCast]
      rw [cl_set l q _ j hj, if_neg (fun z => hne (by rw [← hf2, z, hf]))]
    · rw [if_neg h2, if_neg h2]
theorem goneC_nil : (goneC : S57).f0.toList = [] := by rw [Lib.toList_data]; rfl
theorem take_at {l : List S57} {key : ByteArray} (hc : CR l) (ha : 0 ≤ seekI l key) : TakenFrom l (l.set (seekI l key).toNat goneC) key := by
  obtain ⟨q, hq, e, hf, hk⟩ := seek_stands ha
  rw [e]
  simp only [Int.toNat_natCast]
  have hcl : (cl l q).f0.toList ≠ [] := by rw [hf]; exact hk
  have hv : ¬ ((goneC : S57).f0.toList = [] ∧ (goneC : S57).f1 = -1) := fun z => by have := z.2; simp [goneC] at this
  have huniq : ∀ j, j < l.length → j ≠ q → (cl l j).f0 ≠ key := fun j hj hne z => by
    have := seek_at hc hj (by rw [z]; exact hk)
    rw [z, e] at this
    omega
  refine ⟨fun j hj => ?_, by simp, ?_, fun k hk2 hne => look_set hc hq hk2 (by rw [hf]; exact fun z => hne z.symm) (nil_ne hk2 goneC_nil) hv, hasN_set hq (isN_key hcl)⟩
  · have hj' : j < l.length := by simpa using hj
    unfold CellOk
    rw [cl_set l q _ j hj']
    by_cases ej : j = q
    · rw [if_pos ej]
      exact ⟨fun _ => .inr rfl, fun z => absurd goneC_nil z⟩
    · rw [if_neg ej]
      refine ⟨(hc j hj').1, fun z => ⟨((hc j hj').2 z).1, ((hc j hj').2 z).2.1, ?_⟩⟩
      rw [seek_set hc hq z (by rw [hf]; exact fun y => huniq j hj' ej y.symm) (nil_ne z goneC_nil) hv]
      exact seek_at hc hj' z
  · refine look_none ?_
    rw [absent_seek (fun j hj => ?_)]
    · omega
    · have hj' : j < l.length := by simpa using hj
      rw [cl_set l q _ j hj']
      split
      · exact nil_ne hk goneC_nil
      · rename_i hne; exact huniq j hj' hne
theorem look_iff {l : List S57} {k : ByteArray} : (look l k).isSome = true ↔ 0 ≤ seekI l k := by
  unfold look
  split <;> simp [*]
theorem clear_old {o : List S57} {key : ByteArray} (ho : CR o) (hk : key.toList ≠ []) : TakenFrom o (clearO o key) key := by
  unfold clearO
  by_cases h : 0 ≤ seekI o key
  · rw [if_pos h]
    exact take_at ho h
  · rw [if_neg h]
    exact ⟨ho, rfl, look_none h, fun _ _ _ => rfl, fun z => z⟩
theorem keyless_look {c o : List S57} (hc : CR c) (ho : CR o) : Keyless c o ↔ ∀ k : ByteArray, k.toList ≠ [] → look o k ≠ none → look c k = none := by
  rw [Keyless_iff c o hc ho]
  constructor
  · intro h k hk hl
    have h2 : 0 ≤ seekI o k := by
      rcases Classical.em (0 ≤ seekI o k) with z | z
      · exact z
      · exact absurd (look_none z) hl
    obtain ⟨j, hj, e, hf, _⟩ := seek_stands h2
    have := h j hj (by rw [hf]; exact hk)
    rw [hf] at this
    exact look_none (by omega)
  · intro h j hj hk
    have e := seek_at ho hj hk
    have := h _ hk (by rw [look_some e]; simp)
    have h3 : ¬ 0 ≤ seekI c (cl o j).f0 := fun z => by
      have := look_iff.2 z
      simp_all
    omega
theorem put_TR {c o : List S57} {mv : Int} {key : ByteArray} {h : Int} (ht : TR c o mv) (hk : key.toList ≠ []) (hs : key.size ≤ 12) (hh : 0 ≤ h) (hp : (putC c o key h).1 = true) :
    TR (putC c o key h).2.1 (putC c o key h).2.2 mv ∧ findV (putC c o key h).2.1 (putC c o key h).2.2 key = (h, true) ∧ ∀ k : ByteArray, k ≠ key → findV (putC c o key h).2.1 (putC c o key h).2.2 k = findV c o k := by
  obtain ⟨t1, t2, t3, t4, t5, t6, t7, t8⟩ := ht
  have hX : ∃ c', PutIn c c' key h ∧ (putC c o key h).2.1 = c' ∧ (putC c o key h).2.2 = clearO o key := by
    unfold putC at hp ⊢
    by_cases g : 0 ≤ seekI c key
    · rw [if_pos g]
      exact ⟨_, put_over t6 t8 hh g, rfl, rfl⟩
    · rw [if_neg g] at hp ⊢
      by_cases r : noRoom c key
      · rw [tr_true r, if_pos rfl] at hp; cases hp
      · rw [tr_false r, if_neg (by simp)]
        exact ⟨_, put_free t6 t8 hk hs hh g r, rfl, rfl⟩
  obtain ⟨c', hP, e1, e2⟩ := hX
  rw [e1, e2]
  have hT := clear_old (o := o) t7 hk
  have hother : ∀ k : ByteArray, k ≠ key → findV c' (clearO o key) k = findV c o k := fun k hne => by
    by_cases hk0 : k.toList = []
    · rw [findV_look, findV_look, look_none (by rw [seekI_nil _ k hk0]; omega), look_none (by rw [seekI_nil _ k hk0]; omega), look_none (by rw [seekI_nil _ k hk0]; omega), look_none (by rw [seekI_nil _ k hk0]; omega)]
    · rw [findV_look, findV_look, hP.other k hk0 hne, hT.other k hk0 hne]
  refine ⟨⟨by rw [hP.len]; exact t1, by rw [hP.len, hT.len]; exact t2, by rw [hT.len]; exact t3, fun j hj => ?_, (keyless_look hP.cr hT.cr).2 (fun k hk0 hl => ?_), hP.cr, hT.cr, hP.has⟩, ?_, hother⟩
  · have hj' : j < o.length := by omega
    unfold clearO
    split
    · rw [cl_set o _ _ j hj']
      split
      · exact ⟨goneC_nil, rfl⟩
      · exact t4 j hj
    · exact t4 j hj
  · by_cases hne : k = key
    · rw [hne] at hl
      exact absurd hT.at_ hl
    · rw [hT.other k hk0 hne] at hl
      rw [hP.other k hk0 hne]
      exact (keyless_look t6 t7).1 t5 k hk0 hl
  · rw [findV_look, hP.at_]
def noneC : S57 := ⟨(⟨#[]⟩ : ByteArray), (-1)⟩
theorem cl_replicate (n j : Nat) (h : j < n) : cl (List.replicate n noneC) j = noneC := by
  unfold cl
  rw [List.getD_eq_getElem?_getD, List.getElem?_replicate, if_pos h]
  rfl
theorem noneC_nil : noneC.f0.toList = [] := by rw [Lib.toList_data]; rfl
theorem look_rep (n : Nat) (k : ByteArray) : look (List.replicate n noneC) k = none := by
  by_cases hk : k.toList = []
  · refine look_none ?_
    rw [seekI_nil _ k hk]
    omega
  · refine look_none ?_
    rw [absent_seek (fun j hj => ?_)]
    · omega
    · rw [cl_replicate _ _ (by simpa using hj)]
      exact nil_ne hk noneC_nil
theorem rep_CR (n : Nat) : CR (List.replicate n noneC) := by
  intro j hj
  have hj' : j < n := by simpa using hj
  unfold CellOk
  rw [cl_replicate _ _ hj']
  exact ⟨fun _ => .inl rfl, fun z => absurd noneC_nil z⟩
theorem rep_HasN (n : Nat) (h : 0 < n) : HasN (List.replicate n noneC) := by
  refine ⟨0, by simpa using h, ?_⟩
  rw [cl_replicate _ _ h]
  exact (isN_iff _).2 ⟨noneC_nil, rfl⟩
theorem look_empty (k : ByteArray) : look [] k = none := by
  refine look_none ?_
  rw [absent_seek (fun j hj => absurd hj (by simp))]
  omega
theorem empty_CR : CR ([] : List S57) := fun j hj => absurd hj (by simp)
theorem new_TR {n : Nat} (h : SizeP n) : TR (List.replicate n noneC) [] 0 ∧ ∀ k, findV (List.replicate n noneC) [] k = (0, false) := by
  have hs := size_le h
  refine ⟨⟨by rw [List.length_replicate]; exact h, .inl rfl, ⟨by omega, by simp⟩, fun j hj => absurd hj (by simp), (keyless_look (rep_CR n) empty_CR).2 (fun k _ _ => look_rep n k), rep_CR n, empty_CR, rep_HasN n (by omega)⟩, fun k => ?_⟩
  rw [findV_look, look_rep, look_empty]
theorem grow_TR {c o : List S57} {mv : Int} (h : TR c o mv) (ho : o.length = 0) (hc : c.length ≤ 32) : TR (List.replicate (2 * c.length) noneC) c 0 ∧ ∀ k, findV (List.replicate (2 * c.length) noneC) c k = findV c o k := by
  have hs := size_le h.1
  have ho' : o = [] := List.eq_nil_of_length_eq_zero ho
  have hs2 : SizeP (2 * c.length) := by have := h.1; unfold SizeP at *; omega
  refine ⟨⟨by rw [List.length_replicate]; exact hs2, .inr (by simp), ⟨by omega, by simp⟩, fun j hj => absurd hj (by simp), (keyless_look (rep_CR _) h.2.2.2.2.2.1).2 (fun k _ _ => look_rep _ k), rep_CR _, h.2.2.2.2.2.1, rep_HasN _ (by omega)⟩, fun k => ?_⟩
  rw [findV_look, findV_look, look_rep, ho', look_empty]
theorem TR.small {c o : List S57} {mv : Int} (h : TR c o mv) : Small c ∧ Small o := by
  have hs := size_le h.1
  have hsz : ∀ l : List S57, CR l → ∀ j, (cl l j).f0.size ≤ 140737488355328 := fun l hl j => by
    rcases Nat.lt_or_ge j l.length with hj | hj
    · by_cases hk : (cl l j).f0.toList = []
      · rw [Lib.toList_data] at hk
        have : (cl l j).f0.data.toList.length = (cl l j).f0.size := by simp
        rw [hk] at this
        simp at this
        omega
      · have := ((hl j hj).2 hk).1
        omega
    · rw [cl_ge l j hj]
      decide
  refine ⟨⟨by omega, hsz c h.2.2.2.2.2.1⟩, ⟨?_, hsz o h.2.2.2.2.2.2.1⟩⟩
  have := h.2.1
  omega
def moveEnd (c o : List S57) (m : Nat) : List S57 × List S57 × Int := if m = o.length then (c, [], 0) else (c, o, (m : Int))
noncomputable def moveRun : Nat → List S57 → List S57 → Nat → List S57 × List S57 × Int
  | 0, c, o, m => moveEnd c o m
  | s + 1, c, o, m =>
    if m < o.length then
      if (cl o m).f0.toList = [] then moveRun s c (o.set m goneC) (m + 1)
      else if tr (noRoom c (cl o m).f0) = true then (c, o, (m : Int))
      else moveRun s (c.set (freeAt c (cl o m).f0) ⟨(cl o m).f0, (cl o m).f1⟩) (o.set m goneC) (m + 1)
    else moveEnd c o m
theorem gone_set {o : List S57} {m : Nat} (hm : m < o.length) (hg : ∀ j, j < m → gone (cl o j)) : ∀ j, j < m + 1 → gone (cl (o.set m goneC) j) := by
  intro j hj
  rw [cl_set o m _ j (by omega)]
  split
  · exact ⟨goneC_nil, rfl⟩
  · exact hg j (by omega)
theorem gone_not_none : ¬ ((goneC : S57).f0.toList = [] ∧ (goneC : S57).f1 = -1) := fun z => by have := z.2; simp [goneC] at this
theorem move_nil {c o : List S57} {m : Nat} (h : TR c o (m : Int)) (hm : m < o.length) (he : (cl o m).f0.toList = []) : TR c (o.set m goneC) ((m + 1 : Nat) : Int) ∧ ∀ k, findV c (o.set m goneC) k = findV c o k := by
  obtain ⟨t1, t2, t3, t4, t5, t6, t7, t8⟩ := h
  have hl : ∀ k : ByteArray, k.toList ≠ [] → look (o.set m goneC) k = look o k := fun k hk => look_set t7 hm hk (nil_ne hk he) (nil_ne hk goneC_nil) gone_not_none
  have hcr : CR (o.set m goneC) := by
    intro j hj
    have hj' : j < o.length := by simpa using hj
    unfold CellOk
    rw [cl_set o m _ j hj']
    by_cases ej : j = m
    · rw [if_pos ej]
      exact ⟨fun _ => .inr rfl, fun z => absurd goneC_nil z⟩
    · rw [if_neg ej]
      refine ⟨(t7 j hj').1, fun z => ⟨((t7 j hj').2 z).1, ((t7 j hj').2 z).2.1, ?_⟩⟩
      rw [seek_set t7 hm z (nil_ne z he) (nil_ne z goneC_nil) gone_not_none]
      exact seek_at t7 hj' z
  refine ⟨⟨t1, by rw [List.length_set]; exact t2, by rw [List.length_set]; omega, fun j hj => gone_set hm (fun j hj => t4 j (by omega)) j (by omega), (keyless_look t6 hcr).2 (fun k hk hlk => ?_), t6, hcr, t8⟩, fun k => ?_⟩
  · rw [hl k hk] at hlk
    exact (keyless_look t6 t7).1 t5 k hk hlk
  · by_cases hk : k.toList = []
    · unfold findV
      simp only [seekI_nil _ k hk]
      rfl
    · rw [findV_look, findV_look, hl k hk]
theorem move_key {c o : List S57} {m : Nat} (h : TR c o (m : Int)) (hm : m < o.length) (he : (cl o m).f0.toList ≠ []) (hr : ¬ noRoom c (cl o m).f0) :
    TR (c.set (freeAt c (cl o m).f0) ⟨(cl o m).f0, (cl o m).f1⟩) (o.set m goneC) ((m + 1 : Nat) : Int) ∧ (∀ k, findV (c.set (freeAt c (cl o m).f0) ⟨(cl o m).f0, (cl o m).f1⟩) (o.set m goneC) k = findV c o k) ∧ ¬ 0 ≤ seekI c (cl o m).f0 ∧ seekI o (cl o m).f0 = (m : Int) := by
  obtain ⟨t1, t2, t3, t4, t5, t6, t7, t8⟩ := h
  have hsk := seek_at t7 hm he
  obtain ⟨k1, k2, _⟩ := (t7 m hm).2 he
  have hlo : look o (cl o m).f0 = some (cl o m).f1 := look_some hsk
  have hlc : look c (cl o m).f0 = none := (keyless_look t6 t7).1 t5 _ he (by rw [hlo]; simp)
  have hnc : ¬ 0 ≤ seekI c (cl o m).f0 := fun z => by
    have := look_iff.2 z
    rw [hlc] at this
    cases this
  have hP := put_free (h := (cl o m).f1) t6 t8 he k1 k2 hnc hr
  have hT := take_at t7 (key := (cl o m).f0) (by omega)
  rw [hsk] at hT
  simp only [Int.toNat_natCast] at hT
  generalize (cl o m).f0 = key at he hsk k1 hlo hlc hnc hr hP hT ⊢
  generalize (cl o m).f1 = hv at k2 hlo hP ⊢
  generalize c.set (freeAt c key) ⟨key, hv⟩ = c' at hP ⊢
  refine ⟨⟨by rw [hP.len]; exact t1, by rw [hP.len, hT.len]; exact t2, by rw [hT.len]; omega, fun j hj => gone_set hm (fun j hj => t4 j (by omega)) j (by omega), (keyless_look hP.cr hT.cr).2 (fun k hk hlk => ?_), hP.cr, hT.cr, hP.has⟩, fun k => ?_, hnc, hsk⟩
  · by_cases hne : k = key
    · rw [hne] at hlk; exact absurd hT.at_ hlk
    · rw [hT.other k hk hne] at hlk
      rw [hP.other k hk hne]
      exact (keyless_look t6 t7).1 t5 k hk hlk
  · by_cases hk : k.toList = []
    · unfold findV
      simp only [seekI_nil _ k hk]
      rfl
    · by_cases hne : k = key
      · rw [hne, findV_look, findV_look, hP.at_, hlc, hlo]
      · rw [findV_look, findV_look, hP.other k hk hne, hT.other k hk hne]
theorem move_end {c o : List S57} {m : Nat} (h : TR c o (m : Int)) : TR (moveEnd c o m).1 (moveEnd c o m).2.1 (moveEnd c o m).2.2 ∧ (∀ k, findV (moveEnd c o m).1 (moveEnd c o m).2.1 k = findV c o k) ∧ (moveEnd c o m).1.length = c.length := by
  unfold moveEnd
  by_cases e : m = o.length
  · rw [if_pos e]
    obtain ⟨t1, t2, t3, t4, t5, t6, t7, t8⟩ := h
    have hall : ∀ k : ByteArray, k.toList ≠ [] → look o k = none := fun k hk => by
      refine look_none ?_
      rw [absent_seek (fun j hj => nil_ne hk (t4 j (by omega)).1)]
      omega
    refine ⟨⟨t1, .inl rfl, ⟨by simp, by simp⟩, fun j hj => absurd hj (by simp), (keyless_look t6 empty_CR).2 (fun k _ hl => absurd (look_empty k) hl), t6, empty_CR, t8⟩, fun k => ?_, rfl⟩
    by_cases hk : k.toList = []
    · unfold findV
      simp only [seekI_nil _ k hk]
      rfl
    · rw [findV_look, findV_look, look_empty, hall k hk]
  · rw [if_neg e]
    exact ⟨h, fun _ => rfl, rfl⟩
theorem move_TR (s : Nat) : ∀ {c o : List S57} {m : Nat}, TR c o (m : Int) → TR (moveRun s c o m).1 (moveRun s c o m).2.1 (moveRun s c o m).2.2 ∧ (∀ k, findV (moveRun s c o m).1 (moveRun s c o m).2.1 k = findV c o k) ∧ (moveRun s c o m).1.length = c.length := by
  induction s with
  | zero => intro c o m h; exact move_end h
  | succ s ih =>
    intro c o m h
    simp only [moveRun]
    by_cases hm : m < o.length
    · rw [if_pos hm]
      by_cases he : (cl o m).f0.toList = []
      · rw [if_pos he]
        obtain ⟨a, b⟩ := move_nil h hm he
        obtain ⟨x, y, z⟩ := ih a
        exact ⟨x, fun k => (y k).trans (b k), z⟩
      · rw [if_neg he]
        by_cases hr : noRoom c (cl o m).f0
        · rw [tr_true hr, if_pos rfl]
          exact ⟨h, fun _ => rfl, rfl⟩
        · rw [tr_false hr, if_neg (by simp)]
          obtain ⟨a, b, _, _⟩ := move_key h hm he hr
          obtain ⟨x, y, z⟩ := ih a
          exact ⟨x, fun k => (y k).trans (b k), by rw [z]; simp⟩
    · rw [if_neg hm]
      exact move_end h
theorem spec_free_last (c : List S57) (none_ : Int) (hc : c.length ≤ 1048576) (h : Nat) (hh : h < c.length) (d : Nat) : ∀ i : Nat, i + d = c.length → Ev (fun k => spec_l04Free.l1 k c none_ (c.length : Int) (h : Int) (i : Int)) (freeP c d ((h + i) % c.length), none_) := by
  induction d with
  | zero =>
    intro i hi
    refine Ev.step (f := fun _ => some (-1, none_)) (fun k => ?_) (Ev.now _)
    simp only [spec_l04Free.l1]
    rw [if_neg (by omega)]
  | succ d ih =>
    intro i hi
    have hn := ih (i + 1) (by omega)
    have e0 : (h + (i + 1)) % c.length = ((h + i) % c.length + 1) % c.length := by rw [Nat.mod_add_mod]; rfl
    rw [e0] at hn
    have e1 : Int.tmod (wrap64 ((h : Int) + (i : Int))) (c.length : Int) = (((h + i) % c.length : Nat) : Int) := tmod_nat (h + i) c.length (by omega)
    have e2 : wrap64 ((i : Int) + 1) = ((i + 1 : Nat) : Int) := by rw [wrap64_id (by omega) (by omega)]; omega
    have hp : (h + i) % c.length < c.length := Nat.mod_lt _ (by omega)
    generalize (h + i) % c.length = p at hn e1 hp ⊢
    have hp' : freeP c (d + 1) p = if (cl c p).f0.toList = [] then (p : Int) else freeP c d ((p + 1) % c.length) := rfl
    rw [hp']
    by_cases he : (cl c p).f0.toList = []
    · rw [if_pos he]
      refine Ev.step (f := fun _ => some ((p : Int), none_)) (fun k => ?_) (Ev.now _)
      simp only [spec_l04Free.l1]
      rw [if_pos (by omega), if_neg (by omega), e1, if_pos (by omega), if_pos (by omega), rd_cl, if_pos he]
    · rw [if_neg he]
      refine Ev.step (fun k => ?_) hn
      simp only [spec_l04Free.l1]
      rw [if_pos (by omega), if_neg (by omega), e1, if_pos (by omega), if_pos (by omega), rd_cl, if_neg he, e2]
theorem spec_free_loop (c : List S57) (key : ByteArray) (hc : c.length ≤ 1048576) (hpos : 0 < c.length) (hk : key.size ≤ 140737488355328) (d : Nat) : ∀ i a : Nat, c.length - i = d → a ≤ i → Ev (fun k => spec_l04Free.l0 k c key (a : Int) (i : Int)) (freeP c c.length (home c.length key), ((a + (c.drop i).countP isN : Nat) : Int)) := by
  induction d with
  | zero =>
    intro i a hd ha
    rw [List.drop_eq_nil_of_le (by omega)]
    refine Ev.step (f := fun k => (spec_HashOf.f k key 0).bind fun t187 => (if (c.length : Int) = 0 then (none) else (spec_l04Free.l1 k c (a : Int) (c.length : Int) (Int.tmod t187 (c.length : Int)) 0))) (fun k => ?_) (Ev.bind (spec_hash key hk 0) ?_)
    · simp only [spec_l04Free.l0]
      rw [if_neg (by omega)]
    · simp only [if_neg (show ¬ (c.length : Int) = 0 by omega), home_eq]
      have hh := spec_free_last c (a : Int) hc _ (home_lt _ key hpos) c.length 0 (by omega)
      rw [Nat.add_zero, Nat.mod_eq_of_lt (home_lt _ _ hpos)] at hh
      exact hh
  | succ d ih =>
    intro i a hd ha
    have e2 : Aside0 (wrap64 ((i : Int) + 1) = ((i + 1 : Nat) : Int)) := ⟨by rw [wrap64_id (by omega) (by omega)]; omega⟩
    have e3 : Aside0 (wrap64 ((a : Int) + 1) = ((a + 1 : Nat) : Int)) := ⟨by rw [wrap64_id (by omega) (by omega)]; omega⟩
    rw [drop_cl c i (by omega), List.countP_cons]
    have hy := ih (i + 1) (a + 1) (by omega) (by omega)
    have hn := ih (i + 1) a (by omega) (by omega)
    by_cases hc0 : (cl c i).f0.toList = []
    · by_cases h1 : (cl c i).f1 = -1
      · rw [if_pos (show isN (cl c i) = true by simp [isN, hc0, h1]), show a + (List.countP isN (List.drop (i + 1) c) + 1) = a + 1 + List.countP isN (List.drop (i + 1) c) by omega]
        refine Ev.step (fun k => ?_) hy
        simp only [spec_l04Free.l0]
        rw [if_pos (by omega), if_pos (by omega), rd_cl, if_pos hc0, if_pos h1, e2.out, e3.out]
      · rw [if_neg (show ¬ isN (cl c i) = true by simp [isN, h1])]
        refine Ev.step (fun k => ?_) hn
        simp only [spec_l04Free.l0]
        rw [if_pos (by omega), if_pos (by omega), rd_cl, if_pos hc0, if_neg h1, e2.out]
    · rw [if_neg (show ¬ isN (cl c i) = true by simp [isN, hc0])]
      refine Ev.step (fun k => ?_) hn
      simp only [spec_l04Free.l0]
      rw [if_pos (by omega), if_pos (by omega), rd_cl, if_neg hc0, e2.out]
noncomputable def sput (c : List S57) (key : ByteArray) (h : Int) : Bool × List S57 := if tr (noRoom c key) = true then (false, c) else (true, c.set (freeAt c key) ⟨key, h⟩)
theorem spec_put_ev (c : List S57) (key : ByteArray) (h : Int) (hc : c.length ≤ 1048576) (hk : key.size ≤ 140737488355328) (hn : HasN c) : Ev (fun k => spec_l04Put.f k c key h) (sput c key h) := by
  have hpos : 0 < c.length := by obtain ⟨j, hj, _⟩ := hn; omega
  obtain ⟨q, hq, hf, _⟩ := freeP_some c hn (home c.length key) (home_lt _ _ hpos)
  have e : freeAt c key = q := by unfold freeAt; rw [hf]; omega
  have hcount : 0 < c.countP isN := (HasN_count c).1 hn
  have hfree := spec_free_loop c key hc hpos hk _ 0 0 rfl (Nat.le_refl _)
  rw [List.drop_zero, Nat.zero_add, hf] at hfree
  unfold spec_l04Put.f sput noRoom
  refine Ev.bind (by unfold spec_l04Free.f; exact hfree) ?_
  rw [e]
  have rq : rd_T57 c ((q : Int), ((c.countP isN : Nat) : Int)).1 = cl c q := rfl
  have q1 : ¬ ((q : Int), ((c.countP isN : Nat) : Int)).1 < 0 := by show ¬ (q : Int) < 0; omega
  have q2 : 0 ≤ ((q : Int), ((c.countP isN : Nat) : Int)).1 := by show 0 ≤ (q : Int); omega
  have q3 : ((q : Int), ((c.countP isN : Nat) : Int)).1 < (c.length : Int) := by show (q : Int) < _; omega
  by_cases h1 : ((c.countP isN : Nat) : Int) ≤ 1
  · have h1' : ((q : Int), ((c.countP isN : Nat) : Int)).2 ≤ 1 := h1
    by_cases h2 : (cl c q).f1 = -1
    · rw [tr_true ⟨h2, by omega⟩, if_neg q1, if_pos h1', if_pos q2, if_pos q3, rq, if_pos h2, if_pos rfl]
      exact Ev.now _
    · rw [tr_false (fun z => h2 z.1), if_neg q1, if_pos h1', if_pos q2, if_pos q3, rq, if_neg h2, if_neg (by simp)]
      exact Ev.now _
  · have h1' : ¬ ((q : Int), ((c.countP isN : Nat) : Int)).2 ≤ 1 := h1
    rw [tr_false (fun z => by have := z.2; omega), if_neg q1, if_neg h1', if_pos q2, if_pos q3, if_neg (by simp)]
    exact Ev.now _
theorem spec_copyT (c o : List S57) (mv : Int) (hc : c.length ≤ 1048576) (ho : o.length ≤ 1048576) : spec_l04Copy.f c o mv = some (c, o, mv) := by
  unfold spec_l04Copy.f
  rw [Option.bind_some, if_pos (by simp; omega), Option.bind_some, if_pos (by simp; omega)]
  rfl
theorem spec_move_last (st i : Int) (c o : List S57) (m : Nat) : Ev (fun k => spec_MoveSome.j2 k st i false c o (m : Int)) (moveEnd c o m) := by
  unfold moveEnd
  by_cases e : m = o.length
  · rw [if_pos e]
    refine Ev.step (f := fun _ => some (c, [], 0)) (fun k => ?_) (Ev.now _)
    simp only [spec_MoveSome.j2]
    rw [if_neg (by simp), if_pos (by omega)]
  · rw [if_neg e]
    refine Ev.step (f := fun _ => some (c, o, (m : Int))) (fun k => ?_) (Ev.now _)
    simp only [spec_MoveSome.j2]
    rw [if_neg (by simp), if_neg (by omega)]
theorem spec_move_loop (s : Nat) (hs : s ≤ 1000000) (d : Nat) : ∀ (i : Nat) (c o : List S57) (m : Nat), i + d = s → TR c o (m : Int) → Ev (fun k => spec_MoveSome.l0 k (s : Int) (i : Int) c o (m : Int)) (moveRun d c o m) := by
  induction d with
  | zero =>
    intro i c o m hi h
    refine Ev.step (fun k => ?_) (spec_move_last (s : Int) (i : Int) c o m)
    simp only [spec_MoveSome.l0]
    rw [if_neg (by omega)]
  | succ d ih =>
    intro i c o m hi h
    obtain ⟨sc, so⟩ := h.small
    have e2 : Aside0 (wrap64 ((i : Int) + 1) = ((i + 1 : Nat) : Int)) := ⟨by rw [wrap64_id (by omega) (by omega)]; omega⟩
    have hso := so.1
    simp only [moveRun]
    by_cases hm : m < o.length
    · have e3 : Aside0 (wrap64 ((m : Int) + 1) = ((m + 1 : Nat) : Int)) := ⟨by rw [wrap64_id (by omega) (by omega)]; omega⟩
      rw [if_pos hm]
      have hj : ∀ r, Ev (fun k => spec_MoveSome.j2 k (s : Int) (i : Int) true c o (m : Int)) r → Ev (fun k => spec_MoveSome.l0 k (s : Int) (i : Int) c o (m : Int)) r := fun r hr => by
        refine Ev.step (fun k => ?_) hr
        simp only [spec_MoveSome.l0]
        rw [if_pos (by omega), decide_eq_true (show (m : Int) < (o.length : Int) by omega)]
      by_cases he : (cl o m).f0.toList = []
      · rw [if_pos he]
        refine hj _ (Ev.step (fun k => ?_) (ih (i + 1) c (o.set m goneC) (m + 1) (by omega) (move_nil h hm he).1))
        simp only [spec_MoveSome.j2]
        rw [if_pos trivial, if_pos (by omega), if_pos (by omega), rd_cl, if_pos he, e2.out, e3.out]
        rfl
      · rw [if_neg he]
        have hput := spec_put_ev c (cl o m).f0 (cl o m).f1 sc.1 (so.2 m) h.2.2.2.2.2.2.2
        unfold sput at hput
        refine hj _ (Ev.step (f := fun k => (spec_l04Put.f k c (cl o m).f0 (cl o m).f1).bind fun bt => if bt.1 = true then spec_MoveSome.l0 k (s : Int) ((i + 1 : Nat) : Int) bt.2 (o.set m goneC) ((m + 1 : Nat) : Int) else some (bt.2, o, (m : Int))) (fun k => ?_) (Ev.bind hput ?_))
        · simp only [spec_MoveSome.j2]
          rw [if_pos trivial, if_pos (by omega), if_pos (by omega), rd_cl, if_neg he, e2.out, e3.out]
          rfl
        · by_cases hr : noRoom c (cl o m).f0
          · simp only [tr_true hr, if_true, Bool.false_eq_true, if_false]
            exact Ev.now _
          · simp only [tr_false hr, Bool.false_eq_true, if_false, if_true]
            exact ih (i + 1) _ (o.set m goneC) (m + 1) (by omega) (move_key h hm he hr).1
    · rw [if_neg hm]
      refine Ev.step (fun k => ?_) (spec_move_last (s : Int) (i : Int) c o m)
      simp only [spec_MoveSome.l0]
      rw [if_pos (by omega), decide_eq_false (show ¬ (m : Int) < (o.length : Int) by omega)]
theorem spec_move_ev {c o : List S57} {m : Nat} (s : Nat) (hs : s ≤ 1000000) (h : TR c o (m : Int)) : ∃ c' o' mv', Ev (fun k => spec_MoveSome.f k c o (m : Int) (s : Int)) (c', o', mv') ∧ TR c' o' mv' ∧ ∀ k, findV c' o' k = findV c o k := by
  obtain ⟨sc, so⟩ := h.small
  have hcopy := spec_copyT c o (m : Int) sc.1 so.1
  have hok := spec_TableOk_ev c o (m : Int) sc so
  rw [tr_true h] at hok
  by_cases h0 : o.length = 0
  · refine ⟨c, o, (m : Int), ?_, h, fun _ => rfl⟩
    unfold spec_MoveSome.f
    simp only [hcopy, Option.bind_some]
    refine Ev.bind hok ?_
    simp only [if_true]
    refine Ev.step (f := fun _ => some (c, o, (m : Int))) (fun k => ?_) (Ev.now _)
    simp only [spec_MoveSome.j0]
    rw [if_pos (beq_iff_eq.2 (by omega))]
  · obtain ⟨a, b, _⟩ := move_TR s h
    have hl := spec_move_loop s hs s 0 c o m (by omega) h
    generalize moveRun s c o m = V at a b hl
    obtain ⟨c', o', mv'⟩ := V
    refine ⟨c', o', mv', ?_, a, b⟩
    unfold spec_MoveSome.f
    simp only [hcopy, Option.bind_some]
    refine Ev.bind hok ?_
    simp only [if_true]
    refine Ev.step (fun k => ?_) hl
    simp only [spec_MoveSome.j0]
    rw [if_neg (by rw [beq_iff_eq]; omega)]
    rfl
def takeC (c o : List S57) (key : ByteArray) : Bool × List S57 × List S57 :=
  if 0 ≤ seekI c key then (true, c.set (seekI c key).toNat goneC, o) else if 0 ≤ seekI o key then (true, c, o.set (seekI o key).toNat goneC) else (false, c, o)
noncomputable def takeV (c o : List S57) (mv : Int) (key : ByteArray) : TV :=
  if tr (TR c o mv) = true then (if (takeC c o key).1 = true then ((takeC c o key).2.1, (takeC c o key).2.2, mv, true) else badV) else badV
theorem seek_lt (l : List S57) (key : ByteArray) : seekI l key < (l.length : Int) := by
  rcases seekI_range l key with h | ⟨j, hj, h, _⟩ <;> omega
theorem takeC_nil (c o : List S57) (key : ByteArray) (hk : key.toList = []) : takeC c o key = (false, c, o) := by
  unfold takeC
  rw [seekI_nil c key hk, seekI_nil o key hk]
  rfl
theorem take_TR {c o : List S57} {mv : Int} {key : ByteArray} (ht : TR c o mv) (hk : key.toList ≠ []) (hp : (takeC c o key).1 = true) :
    TR (takeC c o key).2.1 (takeC c o key).2.2 mv ∧ findV (takeC c o key).2.1 (takeC c o key).2.2 key = (0, false) ∧ ∀ k : ByteArray, k ≠ key → findV (takeC c o key).2.1 (takeC c o key).2.2 k = findV c o k := by
  obtain ⟨t1, t2, t3, t4, t5, t6, t7, t8⟩ := ht
  have hnil : ∀ (a b c d : List S57) (k : ByteArray), k.toList = [] → findV a b k = findV c d k := fun a b c d k hk0 => by
    rw [findV_look, findV_look, look_none (by rw [seekI_nil _ k hk0]; omega), look_none (by rw [seekI_nil _ k hk0]; omega), look_none (by rw [seekI_nil _ k hk0]; omega), look_none (by rw [seekI_nil _ k hk0]; omega)]
  have hkl := (keyless_look t6 t7).1 t5
  unfold takeC at hp ⊢
  by_cases g : 0 ≤ seekI c key
  · simp only [if_pos g]
    have hT := take_at t6 g
    generalize c.set (seekI c key).toNat goneC = c' at hT
    have hol : look o key = none := by
      rcases Classical.em (look o key = none) with z | z
      · exact z
      · have := hkl key hk z
        have h2 := look_iff.2 g
        rw [this] at h2
        cases h2
    refine ⟨⟨by rw [hT.len]; exact t1, by rw [hT.len]; exact t2, t3, t4, (keyless_look hT.cr t7).2 (fun k hk0 hl => ?_), hT.cr, t7, hT.has t8⟩, ?_, fun k hne => ?_⟩
    · by_cases hne : k = key
      · rw [hne]; exact hT.at_
      · rw [hT.other k hk0 hne]; exact hkl k hk0 hl
    · rw [findV_look, hT.at_, hol]
    · by_cases hk0 : k.toList = []
      · exact hnil _ _ _ _ k hk0
      · rw [findV_look, findV_look, hT.other k hk0 hne]
  · simp only [if_neg g] at hp ⊢
    by_cases g2 : 0 ≤ seekI o key
    · simp only [if_pos g2]
      have hT := take_at t7 g2
      have hg : ∀ j, j < mv.toNat → gone (cl (o.set (seekI o key).toNat goneC) j) := fun j hj => by
        have hj' : j < o.length := by omega
        rw [cl_set o _ _ j hj']
        split
        · exact ⟨goneC_nil, rfl⟩
        · exact t4 j hj
      generalize o.set (seekI o key).toNat goneC = o' at hT hg
      refine ⟨⟨t1, by rw [hT.len]; exact t2, by rw [hT.len]; exact t3, hg, (keyless_look t6 hT.cr).2 (fun k hk0 hl => ?_), t6, hT.cr, t8⟩, ?_, fun k hne => ?_⟩
      · by_cases hne : k = key
        · rw [hne]; exact look_none g
        · rw [hT.other k hk0 hne] at hl; exact hkl k hk0 hl
      · rw [findV_look, look_none g, hT.at_]
      · by_cases hk0 : k.toList = []
        · exact hnil _ _ _ _ k hk0
        · rw [findV_look, findV_look, hT.other k hk0 hne]
    · simp only [if_neg g2] at hp
      cases hp
theorem spec_TakeKey_ev (c o : List S57) (mv : Int) (key : ByteArray) (hc : Small c) (ho : Small o) (hk : key.size ≤ 140737488355328) : Ev (fun k => spec_TakeKey.f k c o mv key) (takeV c o mv key) := by
  have hn : takeV c o mv key = badV → Ev (fun k => spec_TakeKey.j0 k key true c o mv) (takeV c o mv key) := fun h => by
    rw [h]
    refine Ev.step (f := fun _ => some badV) (fun k => ?_) (Ev.now _)
    simp only [spec_TakeKey.j0]
    rw [if_pos trivial]
    rfl
  unfold spec_TakeKey.f
  refine Ev.bind (spec_TableOk_ev c o mv hc ho) ?_
  by_cases h : TR c o mv
  · simp only [tr_true h, if_true]
    by_cases hk0 : key.toList = []
    · rw [hk0]
      exact hn (by unfold takeV; rw [takeC_nil c o key hk0, tr_true h]; rfl)
    · have e : (key.toList == ([] : List UInt8)) = false := beq_eq_false_iff_ne.2 hk0
      rw [e]
      have h1 := seek_lt c key
      have h2 := seek_lt o key
      have s1 := spec_seek_ev c key hc.1 hk
      have s2 := spec_seek_ev o key ho.1 hk
      rw [seek_same c key (CR_NE h.2.2.2.2.2.1) hk0] at s1
      rw [seek_same o key (CR_NE h.2.2.2.2.2.2.1) hk0] at s2
      have st : ∀ r, Ev (fun k => (spec_l04Seek.f k c key).bind fun t190 => (if t190 ≥ 0 then (if 0 ≤ t190 then (if t190 < (c.length : Int) then (some (c.set (t190 : Int).toNat goneC, o, mv, true)) else (none)) else (none)) else ((spec_l04Seek.f k o key).bind fun t192 => (if t192 < 0 then (some badV) else (if 0 ≤ t192 then (if t192 < (o.length : Int) then (some (c, o.set (t192 : Int).toNat goneC, mv, true)) else (none)) else (none)))))) r → Ev (fun k => spec_TakeKey.j0 k key false c o mv) r := fun r hr => by
        refine Ev.step (fun k => ?_) hr
        simp only [spec_TakeKey.j0]
        rw [if_neg (by simp), spec_copyT c o mv hc.1 ho.1, Option.bind_some]
        rfl
      refine st _ ?_
      unfold takeV takeC
      rw [tr_true h]
      by_cases g : 0 ≤ seekI c key
      · simp only [if_pos g, if_true]
        refine Ev.bind s1 ?_
        simp only [ge_iff_le, if_pos g, if_pos h1]
        exact Ev.now _
      · simp only [if_neg g, if_true]
        refine Ev.bind s1 ?_
        simp only [ge_iff_le, if_neg g]
        refine Ev.bind s2 ?_
        by_cases g' : 0 ≤ seekI o key
        · simp only [if_neg (show ¬ seekI o key < 0 by omega), if_pos g', if_pos h2, if_true]
          exact Ev.now _
        · simp only [if_pos (show seekI o key < 0 by omega), if_neg g']
          exact Ev.now _
  · have hv : takeV c o mv key = badV := by unfold takeV; rw [tr_false h]; rfl
    simp only [tr_false h]
    exact hn hv
noncomputable def putV (c o : List S57) (mv : Int) (key : ByteArray) (h : Int) : TV :=
  if tr (TR c o mv ∧ (1 ≤ key.size ∧ key.size ≤ 12) ∧ 0 ≤ h) = true then (if (putC c o key h).1 = true then ((putC c o key h).2.1, (putC c o key h).2.2, mv, true) else badV) else badV
theorem key_ne (key : ByteArray) (h : 1 ≤ key.size) : key.toList ≠ [] := fun e => by
  rw [Lib.toList_data] at e
  have : key.data.toList.length = key.size := by simp
  rw [e] at this
  simp at this
  omega
theorem spec_PutKey_ev (c o : List S57) (mv : Int) (key : ByteArray) (h : Int) (hc : Small c) (ho : Small o) (hk : key.size ≤ 140737488355328) : Ev (fun k => spec_PutKey.f k c o mv key h) (putV c o mv key h) := by
  have hj : putV c o mv key h = badV → Ev (fun k => spec_PutKey.j0 k key h true c o mv) (putV c o mv key h) := fun e => by
    rw [e]
    refine Ev.step (f := fun _ => some badV) (fun k => ?_) (Ev.now _)
    simp only [spec_PutKey.j0]
    rw [if_pos trivial]
    rfl
  have hb : ¬ (TR c o mv ∧ (1 ≤ key.size ∧ key.size ≤ 12) ∧ 0 ≤ h) → putV c o mv key h = badV := fun n => by unfold putV; rw [tr_false n]; rfl
  unfold spec_PutKey.f
  refine Ev.bind (spec_TableOk_ev c o mv hc ho) ?_
  by_cases h3 : TR c o mv
  · simp only [tr_true h3, if_true, spec_in, Option.bind_some]
    by_cases h1 : 1 ≤ key.size ∧ key.size ≤ 12
    · have h1' : (1 : Int) ≤ (key.size : Int) ∧ (key.size : Int) ≤ 12 := by omega
      simp only [decide_eq_true h1', if_true]
      by_cases h2 : h < 0
      · rw [decide_eq_true h2]
        exact hj (hb (fun z => by have := z.2.2; omega))
      · rw [decide_eq_false h2]
        have hv : putV c o mv key h = if (putC c o key h).1 = true then ((putC c o key h).2.1, (putC c o key h).2.2, mv, true) else badV := by unfold putV; rw [tr_true ⟨h3, h1, by omega⟩]; rfl
        have hk0 := key_ne key h1.1
        have l1 := seek_lt' c key
        have l2 := seek_lt' o key
        have cr := h3.2.2.2.2.2.1
        have cro := h3.2.2.2.2.2.2.1
        have hn := h3.2.2.2.2.2.2.2
        have s1 := spec_seek_ev c key hc.1 hk
        have s2 := spec_seek_ev o key ho.1 hk
        rw [seek_same c key (CR_NE cr) hk0] at s1
        rw [seek_same o key (CR_NE cro) hk0] at s2
        have hput := spec_put_ev c key h hc.1 hk hn
        rw [hv]
        refine Ev.step (f := fun k => (spec_l04Seek.f k c key).bind fun t206 => (if t206 ≥ 0 then (if 0 ≤ t206 then (if t206 < (c.length : Int) then (some (c.set (t206 : Int).toNat (⟨(rd_T57 c t206).f0, h⟩ : S57), o, mv, true)) else (none)) else (none)) else ((spec_l04Seek.f k o key).bind fun t208 => (if t208 ≥ 0 then (if 0 ≤ t208 then (if t208 < (o.length : Int) then ((spec_l04Put.f k c key h).bind fun bt210 => (if bt210.1 = true then (some (bt210.2, o.set (t208 : Int).toNat goneC, mv, true)) else (some badV))) else (none)) else (none)) else ((spec_l04Put.f k c key h).bind fun bt212 => (if bt212.1 = true then (some (bt212.2, o, mv, true)) else (some badV))))))) (fun k => ?_) (Ev.bind s1 ?_)
        · simp only [spec_PutKey.j0]
          rw [if_neg (by simp), spec_copyT c o mv hc.1 ho.1, Option.bind_some]
          rfl
        · by_cases g : 0 ≤ seekI c key
          · obtain ⟨p, hp, e, hm⟩ : ∃ j : Nat, j < c.length ∧ seekI c key = (j : Int) ∧ mI key (cl c j) = true := by
              rcases seekI_range c key with e | e
              · omega
              · exact e
            have hf : (cl c p).f0 = key := by
              unfold mI at hm
              rw [Bool.and_eq_true] at hm
              exact ba_toList_inj (by simpa using hm.1)
            have hold : ¬ 0 ≤ seekI o key := fun go => by
              rcases seekI_range o key with e2 | ⟨j, hj2, e2, hm2⟩
              · omega
              · unfold mI at hm2
                rw [Bool.and_eq_true] at hm2
                have ek : (cl o j).f0 = key := ba_toList_inj (by simpa using hm2.1)
                have := (Keyless_iff c o cr cro).1 h3.2.2.2.2.1 j hj2 (by rw [ek]; exact hk0)
                rw [ek] at this
                omega
            have hr : (rd_T57 c (seekI c key)).f0 = key := by rw [e]; exact hf
            have hco : clearO o key = o := by unfold clearO; rw [if_neg hold]
            unfold putC
            simp only [ge_iff_le, if_pos g, if_pos l1, if_true, hr, hco]
            exact Ev.now _
          · simp only [ge_iff_le, if_neg g]
            have hpc : putC c o key h = ((sput c key h).1, (sput c key h).2, if (sput c key h).1 = true then clearO o key else o) := by
              unfold putC sput
              rw [if_neg g]
              by_cases hr : noRoom c key
              · rw [tr_true hr]; rfl
              · rw [tr_false hr]; rfl
            rw [hpc]
            refine Ev.bind s2 ?_
            by_cases g' : 0 ≤ seekI o key
            · simp only [if_pos g', if_pos l2]
              refine Ev.bind hput ?_
              by_cases hs : (sput c key h).1 = true
              · simp only [if_pos hs, clearO, if_pos g']
                exact Ev.now _
              · simp only [if_neg hs]
                exact Ev.now _
            · simp only [if_neg g']
              refine Ev.bind hput ?_
              by_cases hs : (sput c key h).1 = true
              · simp only [if_pos hs, clearO, if_neg g']
                exact Ev.now _
              · simp only [if_neg hs]
                exact Ev.now _
    · have h1' : ¬ ((1 : Int) ≤ (key.size : Int) ∧ (key.size : Int) ≤ 12) := by omega
      simp only [decide_eq_false h1']
      exact hj (hb (fun z => h1 z.2.1))
  · simp only [tr_false h3]
    exact hj (hb (fun z => h3 z.1))
noncomputable def growV (c o : List S57) (mv : Int) : TV := if tr (TR c o mv ∧ o.length = 0 ∧ c.length ≤ 32) = true then (List.replicate (2 * c.length) noneC, c, 0, true) else badV
theorem spec_cells_loop (n : Nat) (hn : n ≤ 1048576) (d : Nat) : ∀ i : Nat, i + d = n → Ev (fun k => spec_l04Cells.l0 k (n : Int) (List.replicate i noneC) (i : Int)) (List.replicate n noneC) := by
  induction d with
  | zero =>
    intro i hi
    have e : i = n := by omega
    subst e
    refine Ev.step (f := fun _ => some (List.replicate i noneC)) (fun k => ?_) (Ev.now _)
    simp only [spec_l04Cells.l0]
    rw [if_neg (by omega)]
  | succ d ih =>
    intro i hi
    have e2 : Aside0 (wrap64 ((i : Int) + 1) = ((i + 1 : Nat) : Int)) := ⟨by rw [wrap64_id (by omega) (by omega)]; omega⟩
    have h := ih (i + 1) (by omega)
    rw [List.replicate_succ'] at h
    refine Ev.step (fun k => ?_) h
    simp only [spec_l04Cells.l0]
    rw [if_pos (by omega), if_pos (by simp; omega), e2.out]
    rfl
theorem spec_cells_ev (n : Nat) (hn : n ≤ 1048576) : Ev (fun k => spec_l04Cells.f k (n : Int)) (List.replicate n noneC) := by
  unfold spec_l04Cells.f
  exact spec_cells_loop n hn n 0 (by omega)
theorem spec_Grow_ev (c o : List S57) (mv : Int) (hc : Small c) (ho : Small o) : Ev (fun k => spec_GrowTable.f k c o mv) (growV c o mv) := by
  have h1 := hc.1
  have e2 : Aside0 (wrap64 (2 * (c.length : Int)) = ((2 * c.length : Nat) : Int)) := ⟨by rw [wrap64_id (by omega) (by omega)]; omega⟩
  unfold spec_GrowTable.f
  refine Ev.bind (spec_TableOk_ev c o mv hc ho) ?_
  by_cases h : TR c o mv
  · have hs := size_le h.1
    simp only [tr_true h, if_true, e2.out]
    by_cases g1 : (o.length : Int) > 0
    · simp only [if_pos g1]
      have hv : growV c o mv = badV := by unfold growV; rw [tr_false (fun z => by have := z.2.1; omega)]; rfl
      rw [hv]
      exact Ev.now _
    · simp only [if_neg g1]
      by_cases g2 : ((2 * c.length : Nat) : Int) > 64
      · simp only [if_pos g2]
        have hv : growV c o mv = badV := by unfold growV; rw [tr_false (fun z => by have := z.2.2; omega)]; rfl
        rw [hv]
        exact Ev.now _
      · simp only [if_neg g2]
        have hv : growV c o mv = (List.replicate (2 * c.length) noneC, c, 0, true) := by unfold growV; rw [tr_true ⟨h, by omega, by omega⟩]; rfl
        rw [hv]
        refine Ev.bind (spec_cells_ev _ (by omega)) ?_
        simp only [Option.bind_some, List.nil_append, if_pos (show ([] : List S57).length + c.length < 5864062014805 by simp; omega)]
        exact Ev.now _
  · have hv : growV c o mv = badV := by unfold growV; rw [tr_false (fun z => h z.1)]; rfl
    rw [hv]
    simp only [tr_false h]
    exact Ev.now _
def DT (c o : List S57) (mv : Int) : Prop := TR c o mv ∧ ∀ k, (findV c o k).2 = true → k ∈ keys12
theorem keys12_ok {k : ByteArray} (h : k ∈ keys12) : k.toList ≠ [] ∧ 1 ≤ k.size ∧ k.size ≤ 12 := by
  obtain ⟨a, b⟩ := keys12_size k h
  exact ⟨key_ne k (by omega), by omega, by omega⟩
theorem DT.put {c o : List S57} {mv : Int} {key : ByteArray} {h : Int} (hd : DT c o mv) (hk : key ∈ keys12) (hh : 0 ≤ h) (hp : (putC c o key h).1 = true) : DT (putC c o key h).2.1 (putC c o key h).2.2 mv := by
  obtain ⟨k0, k1, k2⟩ := keys12_ok hk
  obtain ⟨a, b, d⟩ := put_TR hd.1 k0 k2 hh hp
  refine ⟨a, fun k hf => ?_⟩
  by_cases e : k = key
  · rw [e]; exact hk
  · rw [d k e] at hf; exact hd.2 k hf
theorem DT.take {c o : List S57} {mv : Int} {key : ByteArray} (hd : DT c o mv) (hk : key.toList ≠ []) (hp : (takeC c o key).1 = true) : DT (takeC c o key).2.1 (takeC c o key).2.2 mv := by
  obtain ⟨a, b, d⟩ := take_TR hd.1 hk hp
  refine ⟨a, fun k hf => ?_⟩
  by_cases e : k = key
  · rw [e, b] at hf; cases hf
  · rw [d k e] at hf; exact hd.2 k hf
theorem draw_put {c o : List S57} {mv : Int} {key : ByteArray} {h : Int} (hd : DT c o mv) (hk : key ∈ keys12) (hh : 0 ≤ h) : ∃ c' o' mv' b, Ev (fun k => spec_PutKey.f k c o mv key h) (c', o', mv', b) ∧ (b = true → DT c' o' mv') := by
  obtain ⟨k0, k1, k2⟩ := keys12_ok hk
  obtain ⟨sc, so⟩ := hd.1.small
  have hE := spec_PutKey_ev c o mv key h sc so (by omega)
  have hv : putV c o mv key h = if (putC c o key h).1 = true then ((putC c o key h).2.1, (putC c o key h).2.2, mv, true) else badV := by unfold putV; rw [tr_true ⟨hd.1, ⟨k1, k2⟩, hh⟩]; rfl
  rw [hv] at hE
  by_cases hp : (putC c o key h).1 = true
  · rw [if_pos hp] at hE
    exact ⟨_, _, _, _, hE, fun _ => hd.put hk hh hp⟩
  · rw [if_neg hp] at hE
    exact ⟨_, _, _, _, hE, fun z => by cases z⟩
theorem draw_take {c o : List S57} {mv : Int} {key : ByteArray} (hd : DT c o mv) (hk : key ∈ keys12) : ∃ c' o' mv' b, Ev (fun k => spec_TakeKey.f k c o mv key) (c', o', mv', b) ∧ (b = true → DT c' o' mv') := by
  obtain ⟨k0, k1, k2⟩ := keys12_ok hk
  obtain ⟨sc, so⟩ := hd.1.small
  have hE := spec_TakeKey_ev c o mv key sc so (by omega)
  have hv : takeV c o mv key = if (takeC c o key).1 = true then ((takeC c o key).2.1, (takeC c o key).2.2, mv, true) else badV := by
    unfold takeV
    by_cases hp : (takeC c o key).1 = true
    · rw [tr_true hd.1, if_pos rfl]
    · rw [tr_true hd.1, if_pos rfl]
  rw [hv] at hE
  by_cases hp : (takeC c o key).1 = true
  · rw [if_pos hp] at hE
    exact ⟨_, _, _, _, hE, fun _ => hd.take k0 hp⟩
  · rw [if_neg hp] at hE
    exact ⟨_, _, _, _, hE, fun z => by cases z⟩
theorem draw_grow {c o : List S57} {mv : Int} (hd : DT c o mv) : ∃ c' o' mv' b, Ev (fun k => spec_GrowTable.f k c o mv) (c', o', mv', b) ∧ (b = true → DT c' o' mv') := by
  obtain ⟨sc, so⟩ := hd.1.small
  have hE := spec_Grow_ev c o mv sc so
  unfold growV at hE
  by_cases hp : TR c o mv ∧ o.length = 0 ∧ c.length ≤ 32
  · rw [tr_true hp, if_pos rfl] at hE
    obtain ⟨a, b⟩ := grow_TR hd.1 hp.2.1 hp.2.2
    exact ⟨_, _, _, _, hE, fun _ => ⟨a, fun k hf => by rw [b k] at hf; exact hd.2 k hf⟩⟩
  · rw [tr_false hp, if_neg (by simp)] at hE
    exact ⟨_, _, _, _, hE, fun z => by cases z⟩
theorem draw_move {c o : List S57} {mv s : Int} (hd : DT c o mv) (h0 : 0 ≤ s) (h1 : s ≤ 1000) : ∃ c' o' mv', Ev (fun k => spec_MoveSome.f k c o mv s) (c', o', mv') ∧ DT c' o' mv' := by
  obtain ⟨m, rfl⟩ := Int.eq_ofNat_of_zero_le hd.1.2.2.1.1
  obtain ⟨n, rfl⟩ := Int.eq_ofNat_of_zero_le h0
  obtain ⟨c', o', mv', hE, a, b⟩ := spec_move_ev n (by omega) hd.1
  exact ⟨c', o', mv', hE, a, fun k hf => by rw [b k] at hf; exact hd.2 k hf⟩
theorem draw_table_loop (b : List Int) (d : Nat) : ∀ (c o : List S57) (mv : Int) (i : Nat) (ci h : Int), 24 - i = d → i ≤ 24 → DT c o mv → CurOk b ci → ∃ c' o' mv' ci' h', DT c' o' mv' ∧ CurOk b ci' ∧ Ev (fun k => spec_l04Table.l0 k (i : Int) b ci h c o mv) (c', o', mv', ci', h') := by
  induction d with
  | zero =>
    intro c o mv i ci h hd hi hok hc
    obtain ⟨n, ci1, h1, e, n0, n1, hc1⟩ := cur_below b ci h 24 (by omega) hc
    refine ⟨c, o, mv, ci1, h1, hok, hc1, Ev.step (f := fun _ => some (c, o, mv, ci1, h1)) (fun k => ?_) (Ev.now _)⟩
    simp only [spec_l04Table.l0, e, Option.bind_some]
    rw [if_neg (by omega)]
  | succ d ih =>
    intro c o mv i ci h hd hi hok hc
    obtain ⟨n, ci1, h1, e, n0, n1, hc1⟩ := cur_below b ci h 24 (by omega) hc
    by_cases hn : (i : Int) < n
    · have e9 : Aside0 (wrap64 ((i : Int) + 1) = ((i + 1 : Nat) : Int)) := ⟨by rw [wrap64_id (by omega) (by omega)]; omega⟩
      obtain ⟨y, ci2, h2, e2, y0, y1, hc2⟩ := cur_below b ci1 h1 8 (by omega) hc1
      have go : ∀ (c1 o1 : List S57) (mv1 : Int) (bb : Bool) (ci3 h3 : Int), CurOk b ci3 → (bb = true → DT c1 o1 mv1) → ∃ c' o' mv' ci' h', DT c' o' mv' ∧ CurOk b ci' ∧ Ev (fun k => if bb = true then spec_l04Table.l0 k ((i + 1 : Nat) : Int) b ci3 h3 c1 o1 mv1 else spec_l04Table.l0 k ((i + 1 : Nat) : Int) b ci3 h3 c o mv) (c', o', mv', ci', h') := by
        intro c1 o1 mv1 bb ci3 h3 hc3 hA
        cases bb with
        | true =>
          obtain ⟨c', o', mv', ci', h', r⟩ := ih c1 o1 mv1 (i + 1) ci3 h3 (by omega) (by omega) (hA rfl) hc3
          exact ⟨c', o', mv', ci', h', by simpa only [if_true] using r⟩
        | false =>
          obtain ⟨c', o', mv', ci', h', r⟩ := ih c o mv (i + 1) ci3 h3 (by omega) (by omega) hok hc3
          exact ⟨c', o', mv', ci', h', by simpa only [Bool.false_eq_true, if_false] using r⟩
      by_cases hy0 : y = 0
      · obtain ⟨c1, o1, mv1, bb, hE, hA⟩ := draw_grow hok
        obtain ⟨c', o', mv', ci', h', r1, r2, r3⟩ := go c1 o1 mv1 bb ci2 h2 hc2 hA
        refine ⟨c', o', mv', ci', h', r1, r2, Ev.step (f := fun k => (spec_GrowTable.f k c o mv).bind fun bt => if bt.2.2.2 = true then spec_l04Table.l0 k ((i + 1 : Nat) : Int) b ci2 h2 bt.1 bt.2.1 bt.2.2.1 else spec_l04Table.l0 k ((i + 1 : Nat) : Int) b ci2 h2 c o mv) (fun k => ?_) (Ev.bind hE r3)⟩
        simp only [spec_l04Table.l0, e, Option.bind_some, if_pos hn, e2, if_pos hy0, e9.out]
      ·
        have hj1 : ∀ x, ∃ c' o' mv' ci' h', DT c' o' mv' ∧ CurOk b ci' ∧ Ev (fun k => spec_l04Table.j1 k (i : Int) y x b ci2 h2 c o mv) (c', o', mv', ci', h') := by
          intro x
          cases x with
          | true =>
            obtain ⟨s, ci3, h3, e3, hm, hc3⟩ := cur_key b ci2 h2 hc2
            obtain ⟨c1, o1, mv1, bb, hE, hA⟩ := draw_take hok hm
            obtain ⟨c', o', mv', ci', h', r1, r2, r3⟩ := go c1 o1 mv1 bb ci3 h3 hc3 hA
            refine ⟨c', o', mv', ci', h', r1, r2, Ev.step (f := fun k => (spec_TakeKey.f k c o mv s).bind fun bt => if bt.2.2.2 = true then spec_l04Table.l0 k ((i + 1 : Nat) : Int) b ci3 h3 bt.1 bt.2.1 bt.2.2.1 else spec_l04Table.l0 k ((i + 1 : Nat) : Int) b ci3 h3 c o mv) (fun k => ?_) (Ev.bind hE r3)⟩
            simp only [spec_l04Table.j1]
            rw [if_pos trivial, e3, Option.bind_some, e9.out]
          | false =>
            by_cases hy3 : y = 3
            · obtain ⟨s, ci3, h3, e3, s0, s1, hc3⟩ := cur_below b ci2 h2 4 (by omega) hc2
              obtain ⟨c1, o1, mv1, hE, hA⟩ := draw_move (s := s) hok s0 (by omega)
              obtain ⟨c', o', mv', ci', h', r1, r2, r3⟩ := ih c1 o1 mv1 (i + 1) ci3 h3 (by omega) (by omega) hA hc3
              refine ⟨c', o', mv', ci', h', r1, r2, Ev.step (f := fun k => (spec_MoveSome.f k c o mv s).bind fun bt => spec_l04Table.l0 k ((i + 1 : Nat) : Int) b ci3 h3 bt.1 bt.2.1 bt.2.2) (fun k => ?_) (Ev.bind hE r3)⟩
              simp only [spec_l04Table.j1]
              rw [if_neg (by simp), if_pos hy3, e3, Option.bind_some, e9.out]
            · obtain ⟨s, ci3, h3, e3, hm, hc3⟩ := cur_key b ci2 h2 hc2
              obtain ⟨v, ci4, h4, e4, v0, v1, hc4⟩ := cur_below b ci3 h3 50 (by omega) hc3
              obtain ⟨c1, o1, mv1, bb, hE, hA⟩ := draw_put hok hm v0
              obtain ⟨c', o', mv', ci', h', r1, r2, r3⟩ := go c1 o1 mv1 bb ci4 h4 hc4 hA
              refine ⟨c', o', mv', ci', h', r1, r2, Ev.step (f := fun k => (spec_PutKey.f k c o mv s v).bind fun bt => if bt.2.2.2 = true then spec_l04Table.l0 k ((i + 1 : Nat) : Int) b ci4 h4 bt.1 bt.2.1 bt.2.2.1 else spec_l04Table.l0 k ((i + 1 : Nat) : Int) b ci4 h4 c o mv) (fun k => ?_) (Ev.bind hE r3)⟩
              simp only [spec_l04Table.j1]
              rw [if_neg (by simp), if_neg hy3, e3, Option.bind_some, e4, Option.bind_some, e9.out]
        by_cases hy1 : y = 1
        · obtain ⟨c', o', mv', ci', h', r1, r2, r3⟩ := hj1 (y == 1)
          refine ⟨c', o', mv', ci', h', r1, r2, Ev.step (fun k => ?_) r3⟩
          simp only [spec_l04Table.l0, e, Option.bind_some, if_pos hn, e2, if_neg hy0, if_pos hy1]
        · obtain ⟨c', o', mv', ci', h', r1, r2, r3⟩ := hj1 (y == 2)
          refine ⟨c', o', mv', ci', h', r1, r2, Ev.step (fun k => ?_) r3⟩
          simp only [spec_l04Table.l0, e, Option.bind_some, if_pos hn, e2, if_neg hy0, if_neg hy1]
    · refine ⟨c, o, mv, ci1, h1, hok, hc1, Ev.step (f := fun _ => some (c, o, mv, ci1, h1)) (fun k => ?_) (Ev.now _)⟩
      simp only [spec_l04Table.l0, e, Option.bind_some, if_neg hn]
theorem spec_new_ev {n : Nat} (h : SizeP n) : Ev (fun k => spec_TableNew.f k (n : Int)) (List.replicate n noneC, [], 0, true) := by
  unfold spec_TableNew.f
  have hs := size_le h
  simp only [spec_size, tr_true h, Option.bind_some, if_true]
  exact Ev.bind (spec_cells_ev n (by omega)) (Ev.now _)
theorem draw_table (b : List Int) (hl : b.length ≤ 140737488355328) : ∃ c o mv s, DT c o mv ∧ s ∈ keys12 ∧ Ev (fun k => spec_DrawRightTable.f k b) (c, o, mv, s) := by
  obtain ⟨h, e0⟩ := cur_new b hl
  obtain ⟨x, ci, h1, e1, hm, hc⟩ := cur_pickint b 0 h [4, 8, 16] (by decide) (by decide) ⟨by omega, by omega, hl⟩
  obtain ⟨n, hn, hx⟩ : ∃ n : Nat, SizeP n ∧ x = (n : Int) := by
    simp only [List.mem_cons, List.not_mem_nil, or_false] at hm
    rcases hm with rfl | rfl | rfl
    · exact ⟨4, .inl rfl, rfl⟩
    · exact ⟨8, .inr (.inl rfl), rfl⟩
    · exact ⟨16, .inr (.inr (.inl rfl)), rfl⟩
  subst hx
  obtain ⟨a, f⟩ := new_TR hn
  obtain ⟨c, o, mv, ci2, h2, hA, hc2, hE⟩ := draw_table_loop b 24 (List.replicate n noneC) [] 0 0 ci h1 rfl (by omega) ⟨a, fun k hk => by rw [f k] at hk; cases hk⟩ hc
  obtain ⟨s, ci3, h3, e3, hm3, _⟩ := cur_key b ci2 h2 hc2
  have hT : Ev (fun k => spec_l04Table.f k b 0 h) (c, o, mv, ci2, h2) := by
    refine Ev.congr (f := fun k => (spec_TableNew.f k (n : Int)).bind fun bt => spec_l04Table.l0 k 0 b ci h1 bt.1 bt.2.1 bt.2.2.1) (fun k => ?_) (Ev.bind (spec_new_ev hn) hE)
    unfold spec_l04Table.f
    rw [e1, Option.bind_some]
  refine ⟨c, o, mv, s, hA, hm3, ?_⟩
  unfold spec_DrawRightTable.f
  refine Ev.bind e0 (Ev.bind hT ?_)
  simp only [e3, Option.bind_some]
  exact Ev.now _
theorem draw_places_loop (b : List Int) (d : Nat) : ∀ (xs : List Int) (ci h : Int), xs.length + d = 12 → CurOk b ci → (∀ x ∈ xs, 0 ≤ x ∧ x < 10000) → ∃ p : List Int, p.length = 12 ∧ (∀ x ∈ p, 0 ≤ x ∧ x < 10000) ∧ Ev (fun k => spec_DrawPlaces.l0 k xs (xs.length : Int) b ci h) p := by
  induction d with
  | zero =>
    intro xs ci h hd hc hx
    refine ⟨xs, by omega, hx, Ev.step (f := fun _ => some xs) (fun k => ?_) (Ev.now _)⟩
    simp only [spec_DrawPlaces.l0]
    rw [if_neg (by omega)]
  | succ d ih =>
    intro xs ci h hd hc hx
    obtain ⟨y, ci1, h1, e, y0, y1, hc1⟩ := cur_below b ci h 10000 (by omega) hc
    have ew : Aside0 (wrap64 ((xs.length : Int) + 1) = ((xs ++ [y]).length : Int)) := ⟨by rw [wrap64_id (by omega) (by omega)]; simp⟩
    obtain ⟨p, p1, p2, p3⟩ := ih (xs ++ [y]) ci1 h1 (by simp; omega) hc1 (fun x hm => by
      rcases List.mem_append.1 hm with hm | hm
      · exact hx x hm
      · rw [List.mem_singleton] at hm; omega)
    refine ⟨p, p1, p2, Ev.step (fun k => ?_) p3⟩
    simp only [spec_DrawPlaces.l0]
    rw [if_pos (by omega), e, Option.bind_some, if_pos (by omega), ew.out]
theorem draw_places (b : List Int) (hl : b.length ≤ 140737488355328) : ∃ p : List Int, p.length = 12 ∧ (∀ x ∈ p, 0 ≤ x ∧ x < 10000) ∧ Ev (fun k => spec_DrawPlaces.f k b) p := by
  obtain ⟨h, e0⟩ := cur_new b hl
  obtain ⟨x, ci, h1, e1, _, hc⟩ := cur_byte b 0 h ⟨by omega, by omega, hl⟩
  obtain ⟨p, p1, p2, p3⟩ := draw_places_loop b 12 [] ci h1 rfl hc (fun x hm => absurd hm (by simp))
  refine ⟨p, p1, p2, ?_⟩
  unfold spec_DrawPlaces.f
  refine Ev.bind e0 ?_
  simp only [e1, Option.bind_some]
  exact p3
theorem impl_put_tail (c2 o : List S57) (key : ByteArray) (ho : o.length ≤ 1048576) (hk : key.size ≤ 140737488355328) : Ev (fun k => (impl_seek.f k o key).bind fun t284 => (if t284 ≥ 0 then (if 0 ≤ t284 then (if t284 < (o.length : Int) then (some (true, c2, (o.set (t284 : Int).toNat (⟨(⟨#[]⟩ : ByteArray), (-2)⟩ : S57)))) else (none)) else (none)) else (some (true, c2, o)))) (true, c2, clearO o key) := by
  have h2 := seek_lt' o key
  refine Ev.bind (impl_seek_ev o key ho hk) ?_
  unfold clearO
  by_cases h : 0 ≤ seekI o key
  · simp only [ge_iff_le, if_pos h, if_pos h2]
    exact Ev.now _
  · simp only [ge_iff_le, if_neg h]
    exact Ev.now _
theorem impl_put_loop (c o : List S57) (mv h : Int) (key : ByteArray) (hc : c.length ≤ 1048576) (ho : o.length ≤ 1048576) (hk : key.size ≤ 140737488355328) (d : Nat) : ∀ (p q : Nat), p < c.length → freeP c d p = (q : Int) → Ev (fun k => impl_Table_put.l0 k key h (p : Int) c o mv) (if tr ((cl c q).f1 = -1 ∧ c.countP isN = 1) = true then (false, c, o) else (true, c.set q ⟨key, h⟩, clearO o key)) := by
  induction d with
  | zero => intro p q _ h; simp only [freeP] at h; omega
  | succ d ih =>
    intro p q hp hf
    simp only [freeP] at hf
    by_cases he : (cl c p).f0.toList = []
    · rw [if_pos he] at hf
      obtain rfl : p = q := by omega
      have hj : ∀ b : Bool, Ev (fun k => impl_Table_put.j1 k key h (p : Int) b c o mv) (if b = true then (false, c, o) else (true, c.set p ⟨key, h⟩, clearO o key)) := fun b => by
        cases b with
        | true =>
          refine Ev.step (f := fun _ => some (false, c, o)) (fun k => ?_) (Ev.now _)
          simp only [impl_Table_put.j1]
          rw [if_pos trivial]
        | false =>
          refine Ev.step (fun k => ?_) (impl_put_tail (c.set p ⟨key, h⟩) o key ho hk)
          simp only [impl_Table_put.j1]
          rw [if_neg (by simp), if_pos (by omega), if_pos (by omega)]
          rfl
      by_cases h1 : (cl c p).f1 = -1
      · refine Ev.step (f := fun k => (impl_nones.f k c).bind fun t282 => impl_Table_put.j1 k key h (p : Int) (t282 == 1) c o mv) (fun k => ?_) (Ev.bind (impl_nones_ev c hc) ?_)
        · simp only [impl_Table_put.l0]
          rw [if_pos (by omega), if_pos (by omega), rd_cl, if_pos he, if_pos h1]
        · have e : tr ((cl c p).f1 = -1 ∧ c.countP isN = 1) = (((c.countP isN : Nat) : Int) == 1) := by
            by_cases h2 : c.countP isN = 1
            · rw [tr_true ⟨h1, h2⟩, h2]; rfl
            · rw [tr_false (fun z => h2 z.2)]
              exact (beq_eq_false_iff_ne.2 (by omega)).symm
          rw [e]
          exact hj _
      · rw [tr_false (fun z => h1 z.1)]
        refine Ev.step (fun k => ?_) (hj false)
        simp only [impl_Table_put.l0]
        rw [if_pos (by omega), if_pos (by omega), rd_cl, if_pos he, if_neg h1]
    · rw [if_neg he] at hf
      have e1 : Aside0 (Int.tmod (wrap64 ((p : Int) + 1)) (c.length : Int) = (((p + 1) % c.length : Nat) : Int)) := ⟨tmod_nat (p + 1) c.length (by omega)⟩
      refine Ev.step (fun k => ?_) (ih ((p + 1) % c.length) q (Nat.mod_lt _ (by omega)) hf)
      simp only [impl_Table_put.l0]
      rw [if_pos (by omega), if_pos (by omega), rd_cl, if_neg he, if_neg (by omega), e1.out]
theorem impl_put_ev (c o : List S57) (mv h : Int) (key : ByteArray) (hc : c.length ≤ 1048576) (ho : o.length ≤ 1048576) (hk : key.size ≤ 140737488355328) (hn : HasN c) : Ev (fun k => impl_Table_put.f k c o mv key h) (putC c o key h) := by
  have h1 := seek_lt' c key
  have hpos : 0 < c.length := by obtain ⟨j, hj, _⟩ := hn; omega
  unfold impl_Table_put.f putC
  refine Ev.bind (impl_seek_ev c key hc hk) ?_
  by_cases g : 0 ≤ seekI c key
  · simp only [if_neg (show ¬ seekI c key < 0 by omega), if_pos g, if_pos h1, Option.bind_some]
    exact impl_put_tail _ o key ho hk
  · simp only [if_pos (show seekI c key < 0 by omega), if_neg g]
    refine Ev.bind (impl_hash key hk 0) ?_
    simp only [if_neg (show ¬ (c.length : Int) = 0 by omega), home_eq]
    obtain ⟨q, hq, hf, _⟩ := freeP_some c hn (home c.length key) (home_lt _ _ hpos)
    have hh := impl_put_loop c o mv h key hc ho hk c.length _ q (home_lt _ _ hpos) hf
    have e : freeAt c key = q := by unfold freeAt; rw [hf]; omega
    unfold noRoom
    rw [e]
    exact hh
theorem impl_clone (l : List S57) (h : l.length ≤ 1048576) : impl_Cell_50.f l = some l := by
  unfold impl_Cell_50.f
  rw [Option.bind_some, if_pos (by simp; omega), List.nil_append]
theorem impl_copyT (c o : List S57) (mv : Int) (hc : c.length ≤ 1048576) (ho : o.length ≤ 1048576) : impl_copyTable.f c o mv = some (c, o, mv) := by
  unfold impl_copyTable.f
  rw [impl_clone c hc, Option.bind_some, impl_clone o ho, Option.bind_some]
theorem impl_move_last (st : Int) (c o : List S57) (m : Nat) : Ev (fun k => impl_MoveSome.j2 k st false c o (m : Int)) (moveEnd c o m) := by
  unfold moveEnd
  by_cases e : m = o.length
  · rw [if_pos e]
    refine Ev.step (f := fun _ => some (c, [], 0)) (fun k => ?_) (Ev.now _)
    simp only [impl_MoveSome.j2]
    rw [if_neg (by simp), if_pos (by omega)]
  · rw [if_neg e]
    refine Ev.step (f := fun _ => some (c, o, (m : Int))) (fun k => ?_) (Ev.now _)
    simp only [impl_MoveSome.j2]
    rw [if_neg (by simp), if_neg (by omega)]
theorem set_set_gone (o : List S57) (m : Nat) : (o.set m goneC).set m goneC = o.set m goneC := by rw [List.set_set]
theorem impl_move_loop (d : Nat) (hd : d ≤ 1000000) : ∀ (s : Nat) (c o : List S57) (m : Nat), s = d → TR c o (m : Int) → Ev (fun k => impl_MoveSome.l0 k (s : Int) c o (m : Int)) (moveRun d c o m) := by
  induction d with
  | zero =>
    intro s c o m hs h
    refine Ev.step (fun k => ?_) (impl_move_last (s : Int) c o m)
    simp only [impl_MoveSome.l0]
    rw [if_neg (by omega)]
  | succ d ih =>
    intro s c o m hs h
    obtain ⟨sc, so⟩ := h.small
    have hso := so.1
    have e2 : Aside0 (wrap64 ((s : Int) - 1) = (d : Int)) := ⟨by rw [wrap64_id (by omega) (by omega)]; omega⟩
    simp only [moveRun]
    by_cases hm : m < o.length
    · have e3 : Aside0 (wrap64 ((m : Int) + 1) = ((m + 1 : Nat) : Int)) := ⟨by rw [wrap64_id (by omega) (by omega)]; omega⟩
      rw [if_pos hm]
      have hj : ∀ r, Ev (fun k => impl_MoveSome.j2 k (s : Int) true c o (m : Int)) r → Ev (fun k => impl_MoveSome.l0 k (s : Int) c o (m : Int)) r := fun r hr => by
        refine Ev.step (fun k => ?_) hr
        simp only [impl_MoveSome.l0]
        rw [if_pos (by omega), decide_eq_true (show (m : Int) < (o.length : Int) by omega)]
      by_cases he : (cl o m).f0.toList = []
      · rw [if_pos he]
        refine hj _ (Ev.step (fun k => ?_) (ih (by omega) d c (o.set m goneC) (m + 1) rfl (move_nil h hm he).1))
        simp only [impl_MoveSome.j2]
        rw [if_pos trivial, if_pos (by omega), if_pos (by omega), rd_cl, if_pos he, e2.out, e3.out]
        rfl
      · rw [if_neg he]
        have hput := impl_put_ev c o (m : Int) (cl o m).f1 (cl o m).f0 sc.1 so.1 (so.2 m) h.2.2.2.2.2.2.2
        have hsk := seek_at h.2.2.2.2.2.2.1 hm he
        have hlc : ¬ 0 ≤ seekI c (cl o m).f0 := by
          have hlo : look o (cl o m).f0 = some (cl o m).f1 := look_some hsk
          have hlc : look c (cl o m).f0 = none := (keyless_look h.2.2.2.2.2.1 h.2.2.2.2.2.2.1).1 h.2.2.2.2.1 _ he (by rw [hlo]; simp)
          intro z
          have := look_iff.2 z
          rw [hlc] at this
          cases this
        have hco : clearO o (cl o m).f0 = o.set m goneC := by
          unfold clearO
          rw [if_pos (by omega), hsk]
          rfl
        have hpc : putC c o (cl o m).f0 (cl o m).f1 = if tr (noRoom c (cl o m).f0) = true then (false, c, o) else (true, c.set (freeAt c (cl o m).f0) ⟨(cl o m).f0, (cl o m).f1⟩, o.set m goneC) := by
          unfold putC
          rw [if_neg hlc, hco]
        rw [hpc] at hput
        refine hj _ (Ev.step (f := fun k => (impl_Table_put.f k c o (m : Int) (cl o m).f0 (cl o m).f1).bind fun bt => if bt.1 = true then impl_MoveSome.l0 k (d : Int) bt.2.1 (bt.2.2.set m goneC) ((m + 1 : Nat) : Int) else some (bt.2.1, bt.2.2, (m : Int))) (fun k => ?_) (Ev.bind hput ?_))
        · simp only [impl_MoveSome.j2]
          rw [if_pos trivial, if_pos (by omega), if_pos (by omega), rd_cl, if_neg he, e2.out, e3.out]
          rfl
        · by_cases hr : noRoom c (cl o m).f0
          · simp only [tr_true hr, if_true, Bool.false_eq_true, if_false]
            exact Ev.now _
          · simp only [tr_false hr, Bool.false_eq_true, if_false, if_true, set_set_gone]
            exact ih (by omega) d _ (o.set m goneC) (m + 1) rfl (move_key h hm he hr).1
    · rw [if_neg hm]
      refine Ev.step (fun k => ?_) (impl_move_last (s : Int) c o m)
      simp only [impl_MoveSome.l0]
      rw [if_pos (by omega), decide_eq_false (show ¬ (m : Int) < (o.length : Int) by omega)]
theorem impl_move_ev {c o : List S57} {m : Nat} (s : Nat) (h1 : 1 ≤ s) (hs : s ≤ 1000000) (h : TR c o (m : Int)) : Ev (fun k => impl_MoveSome.f k c o (m : Int) (s : Int)) (moveRun s c o m) := by
  obtain ⟨sc, so⟩ := h.small
  have hok := impl_TableOk_ev c o (m : Int) sc so
  rw [tr_true h] at hok
  unfold impl_MoveSome.f
  simp only [impl_copyT c o (m : Int) sc.1 so.1, Option.bind_some, if_neg (show ¬ (s : Int) < 1 by omega)]
  refine Ev.bind hok ?_
  refine Ev.step (fun k => ?_) (impl_move_loop s hs s c o m rfl h)
  simp only [impl_MoveSome.j0]
  rw [if_neg (by simp)]
theorem impl_newCells_ev (n : Nat) (h1 : 1 ≤ n) (h2 : n ≤ 64) : impl_newCells.f (n : Int) = some (List.replicate n noneC) := by
  unfold impl_newCells.f impl_Cell_82.f
  have e : ([(⟨(⟨#[]⟩ : ByteArray), (-1)⟩ : S57)] : List S57).length = 1 := rfl
  rw [if_pos e, if_pos (by omega)]
  rfl
theorem impl_Grow_ev (c o : List S57) (mv : Int) (hc : Small c) (ho : Small o) : Ev (fun k => impl_GrowTable.f k c o mv) (growV c o mv) := by
  have h1 := hc.1
  have e2 : Aside0 (wrap64 (2 * (c.length : Int)) = ((2 * c.length : Nat) : Int)) := ⟨by rw [wrap64_id (by omega) (by omega)]; omega⟩
  have hj : growV c o mv = badV → Ev (fun k => impl_GrowTable.j0 k true c o mv) (growV c o mv) := fun h => by
    rw [h]
    refine Ev.step (f := fun _ => some badV) (fun k => ?_) (Ev.now _)
    simp only [impl_GrowTable.j0]
    rw [if_pos trivial]
    rfl
  unfold impl_GrowTable.f
  by_cases g1 : (o.length : Int) > 0
  · simp only [if_pos g1]
    exact hj (by unfold growV; rw [tr_false (fun z => by have := z.2.1; omega)]; rfl)
  · simp only [if_neg g1, e2.out]
    by_cases g2 : ((2 * c.length : Nat) : Int) > 64
    · simp only [if_pos g2]
      exact hj (by unfold growV; rw [tr_false (fun z => by have := z.2.2; omega)]; rfl)
    · simp only [if_neg g2]
      refine Ev.bind (impl_TableOk_ev c o mv hc ho) ?_
      by_cases h : TR c o mv
      · have hs := size_le h.1
        have hv : growV c o mv = (List.replicate (2 * c.length) noneC, c, 0, true) := by unfold growV; rw [tr_true ⟨h, by omega, by omega⟩]; rfl
        rw [hv, tr_true h]
        refine Ev.step (f := fun _ => some (List.replicate (2 * c.length) noneC, c, 0, true)) (fun k => ?_) (Ev.now _)
        simp only [impl_GrowTable.j0, e2.out]
        rw [if_neg (by simp), impl_newCells_ev _ (by omega) (by omega), Option.bind_some, impl_clone c h1, Option.bind_some]
      · rw [tr_false h]
        exact hj (by unfold growV; rw [tr_false (fun z => h z.1)]; rfl)
theorem impl_find_ev (c o : List S57) (mv : Int) (key : ByteArray) (hc : c.length ≤ 1048576) (ho : o.length ≤ 1048576) (hk : key.size ≤ 140737488355328) : Ev (fun k => impl_Table_find.f k c o mv key) (findV c o key) := by
  have h1 := seekI_lt c key
  have h2 := seekI_lt o key
  unfold impl_Table_find.f findV
  refine Ev.bind (impl_seek_ev c key hc hk) ?_
  by_cases h : 0 ≤ seekI c key
  · simp only [ge_iff_le, if_pos h, if_pos h1]
    exact Ev.now _
  · simp only [ge_iff_le, if_neg h]
    refine Ev.bind (impl_seek_ev o key ho hk) ?_
    by_cases h' : 0 ≤ seekI o key
    · simp only [if_pos h', if_pos h2]
      exact Ev.now _
    · simp only [if_neg h']
      exact Ev.now _
noncomputable def seekV (c o : List S57) (mv : Int) (key : ByteArray) : Int × Bool := if tr (TR c o mv) = true then findV c o key else (0, false)
theorem findV_nil (c o : List S57) (key : ByteArray) (hk : key.toList = []) : findV c o key = (0, false) := by
  unfold findV
  rw [seekI_nil c key hk, seekI_nil o key hk]
  rfl
theorem impl_SeekKey_ev (c o : List S57) (mv : Int) (key : ByteArray) (hc : Small c) (ho : Small o) (hk : key.size ≤ 140737488355328) : Ev (fun k => impl_SeekKey.f k c o mv key) (seekV c o mv key) := by
  unfold impl_SeekKey.f seekV
  refine Ev.bind (impl_TableOk_ev c o mv hc ho) ?_
  by_cases h : TR c o mv
  · simp only [tr_true h, if_true]
    exact Ev.bind (impl_find_ev c o mv key hc.1 ho.1 hk) (Ev.now _)
  · simp only [tr_false h]
    exact Ev.now _
theorem iseek {c o : List S57} {mv : Int} (h : TR c o mv) (k : ByteArray) (hk : k.size ≤ 140737488355328) : Ev (fun n => impl_SeekKey.f n c o mv k) (findV c o k) := by
  have hs := impl_SeekKey_ev c o mv k h.small.1 h.small.2 hk
  have hv : seekV c o mv k = findV c o k := by unfold seekV; rw [tr_true h]; rfl
  rwa [hv] at hs
theorem iok {c o : List S57} {mv : Int} (h : TR c o mv) : Ev (fun n => impl_TableOk.f n c o mv) true := by
  have hs := impl_TableOk_ev c o mv h.small.1 h.small.2
  rwa [tr_true h] at hs
theorem spec_SeekKey_ev (c o : List S57) (mv : Int) (key : ByteArray) (hc : Small c) (ho : Small o) (hk : key.size ≤ 140737488355328) : Ev (fun k => spec_SeekKey.f k c o mv key) (seekV c o mv key) := by
  have hn : seekV c o mv key = (0, false) → Ev (fun k => spec_SeekKey.j0 k key true c o mv) (seekV c o mv key) := fun h => by
    rw [h]
    refine Ev.step (f := fun _ => some (0, false)) (fun k => ?_) (Ev.now _)
    simp only [spec_SeekKey.j0]
    rw [if_pos trivial]
  unfold spec_SeekKey.f
  refine Ev.bind (spec_TableOk_ev c o mv hc ho) ?_
  by_cases h : TR c o mv
  · simp only [tr_true h, if_true]
    by_cases hk0 : key.toList = []
    · rw [hk0]
      exact hn (by unfold seekV; rw [findV_nil c o key hk0]; simp)
    · have e : (key.toList == ([] : List UInt8)) = false := beq_eq_false_iff_ne.2 hk0
      rw [e]
      have hv : seekV c o mv key = findV c o key := by unfold seekV; rw [tr_true h]; rfl
      rw [hv]
      have h1 := seekI_lt c key
      have h2 := seekI_lt o key
      have s1 := spec_seek_ev c key hc.1 hk
      have s2 := spec_seek_ev o key ho.1 hk
      rw [seek_same c key (CR_NE h.2.2.2.2.2.1) hk0] at s1
      rw [seek_same o key (CR_NE h.2.2.2.2.2.2.1) hk0] at s2
      unfold findV
      by_cases g : 0 ≤ seekI c key
      · simp only [if_pos g]
        refine Ev.step (f := fun k => (spec_l04Seek.f k c key).bind fun t122 => (if t122 ≥ 0 then (if 0 ≤ t122 then (if t122 < (c.length : Int) then (some ((rd_T57 c t122).f1, true)) else (none)) else (none)) else ((spec_l04Seek.f k o key).bind fun t124 => (if t124 ≥ 0 then (if 0 ≤ t124 then (if t124 < (o.length : Int) then (some ((rd_T57 o t124).f1, true)) else (none)) else (none)) else (some (0, false)))))) (fun k => ?_) (Ev.bind s1 ?_)
        · simp only [spec_SeekKey.j0]
          rw [if_neg (by simp)]
        · simp only [ge_iff_le, if_pos g, if_pos h1]
          exact Ev.now _
      · simp only [if_neg g]
        refine Ev.step (f := fun k => (spec_l04Seek.f k c key).bind fun t122 => (if t122 ≥ 0 then (if 0 ≤ t122 then (if t122 < (c.length : Int) then (some ((rd_T57 c t122).f1, true)) else (none)) else (none)) else ((spec_l04Seek.f k o key).bind fun t124 => (if t124 ≥ 0 then (if 0 ≤ t124 then (if t124 < (o.length : Int) then (some ((rd_T57 o t124).f1, true)) else (none)) else (none)) else (some (0, false)))))) (fun k => ?_) (Ev.bind s1 ?_)
        · simp only [spec_SeekKey.j0]
          rw [if_neg (by simp)]
        · simp only [ge_iff_le, if_neg g]
          refine Ev.bind s2 ?_
          by_cases g' : 0 ≤ seekI o key
          · simp only [if_pos g', if_pos h2]
            exact Ev.now _
          · simp only [if_neg g']
            exact Ev.now _
  · have hv : seekV c o mv key = (0, false) := by unfold seekV; rw [tr_false h]; rfl
    simp only [tr_false h]
    exact hn hv
theorem sseek {c o : List S57} {mv : Int} (h : TR c o mv) (k : ByteArray) (hk : k.size ≤ 140737488355328) : Ev (fun n => spec_SeekKey.f n c o mv k) (findV c o k) := by
  have hs := spec_SeekKey_ev c o mv k h.small.1 h.small.2 hk
  have hv : seekV c o mv k = findV c o k := by unfold seekV; rw [tr_true h]; rfl
  rwa [hv] at hs
theorem sortB_perm (L : List ByteArray) : (bytesL (sortB L)).Perm (bytesL L) := by
  rw [bytesL_sortB]
  exact List.mergeSort_perm _ _
theorem mem_sortB {L : List ByteArray} {key : ByteArray} (h : key ∈ sortB L) : key ∈ L := by
  have h1 : key.data.toList ∈ bytesL (sortB L) := by unfold bytesL; exact List.mem_map_of_mem h
  have h2 := (sortB_perm L).mem_iff.1 h1
  unfold bytesL at h2
  obtain ⟨y, hy, e⟩ := List.mem_map.1 h2
  rw [← ba_ext e]
  exact hy
theorem mem_keysL {l : List S57} {key : ByteArray} (h : key ∈ keysL l) : key.toList ≠ [] ∧ ∃ j, j < l.length ∧ (cl l j).f0 = key := by
  unfold keysL at h
  obtain ⟨y, hy, e⟩ := List.mem_map.1 h
  rw [List.mem_filter] at hy
  obtain ⟨j, hj, e2⟩ := List.getElem_of_mem hy.1
  refine ⟨by rw [← e]; simpa using hy.2, j, hj, ?_⟩
  rw [cl_get l j hj, e2]
  exact e
theorem key_size {c o : List S57} {mv : Int} (ht : TR c o mv) {key : ByteArray} (h : key ∈ keysL (c ++ o)) : key.toList ≠ [] ∧ key.size ≤ 12 := by
  rw [keysL_append, List.mem_append] at h
  rcases h with h | h
  · obtain ⟨h1, j, hj, e⟩ := mem_keysL h
    refine ⟨h1, ?_⟩
    have := ((ht.2.2.2.2.2.1 j hj).2 (by rw [e]; exact h1)).1
    rw [e] at this
    exact this
  · obtain ⟨h1, j, hj, e⟩ := mem_keysL h
    refine ⟨h1, ?_⟩
    have := ((ht.2.2.2.2.2.2.1 j hj).2 (by rw [e]; exact h1)).1
    rw [e] at this
    exact this
noncomputable def keysV (c o : List S57) (mv : Int) : List ByteArray := if tr (TR c o mv) = true then sortB (keysL (c ++ o)) else []
theorem keysV_length (c o : List S57) (mv : Int) (hc : Small c) (ho : Small o) : (keysV c o mv).length ≤ 2097152 := by
  have h1 := hc.1
  have h2 := ho.1
  unfold keysV
  split
  · rw [sortB_len]
    have := keysL_length (c ++ o)
    rw [List.length_append] at this
    omega
  · simp
theorem mem_keysL' {l : List S57} {key : ByteArray} {j : Nat} (hj : j < l.length) (e : (cl l j).f0 = key) (hk : key.toList ≠ []) : key ∈ keysL l := by
  unfold keysL
  refine List.mem_map.2 ⟨cl l j, List.mem_filter.2 ⟨by rw [cl_get l j hj]; exact List.getElem_mem _, by rw [e]; simpa using hk⟩, e⟩
theorem mem_sortB' {L : List ByteArray} {key : ByteArray} (h : key ∈ L) : key ∈ sortB L := by
  have h1 : key.data.toList ∈ bytesL L := by unfold bytesL; exact List.mem_map_of_mem h
  have h2 := (sortB_perm L).mem_iff.2 h1
  unfold bytesL at h2
  obtain ⟨y, hy, e⟩ := List.mem_map.1 h2
  rw [← ba_ext e]
  exact hy
theorem find_true {c o : List S57} {k : ByteArray} : (findV c o k).2 = true ↔ 0 ≤ seekI c k ∨ 0 ≤ seekI o k := by
  unfold findV
  by_cases h1 : 0 ≤ seekI c k
  · rw [if_pos h1]; exact ⟨fun _ => .inl h1, fun _ => rfl⟩
  · rw [if_neg h1]
    by_cases h2 : 0 ≤ seekI o k
    · rw [if_pos h2]; exact ⟨fun _ => .inr h2, fun _ => rfl⟩
    · rw [if_neg h2]
      exact ⟨(fun z => by cases z), fun z => z.elim (fun y => absurd y h1) (fun y => absurd y h2)⟩
theorem keys_find {c o : List S57} {mv : Int} (h : TR c o mv) (k : ByteArray) : k ∈ sortB (keysL (c ++ o)) ↔ (findV c o k).2 = true := by
  rw [find_true]
  constructor
  · intro hm
    have hm2 := mem_sortB hm
    rw [keysL_append, List.mem_append] at hm2
    rcases hm2 with hm2 | hm2
    · obtain ⟨h1, j, hj, e⟩ := mem_keysL hm2
      have := seek_at h.2.2.2.2.2.1 hj (by rw [e]; exact h1)
      rw [e] at this
      exact .inl (by omega)
    · obtain ⟨h1, j, hj, e⟩ := mem_keysL hm2
      have := seek_at h.2.2.2.2.2.2.1 hj (by rw [e]; exact h1)
      rw [e] at this
      exact .inr (by omega)
  · intro hs
    refine mem_sortB' ?_
    rw [keysL_append, List.mem_append]
    rcases hs with hs | hs
    · obtain ⟨j, hj, _, e, hk⟩ := seek_stands hs
      exact .inl (mem_keysL' hj e hk)
    · obtain ⟨j, hj, _, e, hk⟩ := seek_stands hs
      exact .inr (mem_keysL' hj e hk)
theorem keysV_TR {c o : List S57} {mv : Int} (h : TR c o mv) : keysV c o mv = sortB (keysL (c ++ o)) := by unfold keysV; rw [tr_true h]; rfl
theorem keys_nodup {c o : List S57} {mv : Int} (h : TR c o mv) : (bytesL (keysV c o mv)).Nodup := by
  rw [keysV_TR h]
  exact (sortB_perm _).nodup_iff.2 h.2.2.2.2.1
theorem nodup_of_bytes {L : List ByteArray} (h : (bytesL L).Nodup) : L.Nodup := by
  unfold bytesL List.Nodup at h
  rw [List.pairwise_map] at h
  exact h.imp (fun hne e => hne (by rw [e]))
theorem keys_same {c o c' o' : List S57} {mv mv' : Int} (h : TR c o mv) (h' : TR c' o' mv') (hf : ∀ k, (findV c' o' k).2 = (findV c o k).2) : keysV c' o' mv' = keysV c o mv := by
  have n1 := keys_nodup h
  have n2 := keys_nodup h'
  rw [keysV_TR h] at n1 ⊢
  rw [keysV_TR h'] at n2 ⊢
  have hp : (sortB (keysL (c' ++ o'))).Perm (sortB (keysL (c ++ o))) := by
    refine (List.perm_ext_iff_of_nodup (nodup_of_bytes n2) (nodup_of_bytes n1)).2 (fun k => ?_)
    rw [keys_find h', keys_find h, hf k]
  refine bytesL_inj ?_
  rw [bytesL_sortB, bytesL_sortB] at *
  refine List.Perm.eq_of_pairwise (le := fun x y => x ≤ y) (fun a b _ _ => List.le_antisymm) (sorted_merge _) (sorted_merge _) ?_
  have := hp.map (fun s => s.data.toList)
  rw [← bytesL_sortB, ← bytesL_sortB]
  exact this
theorem impl_KeysOf_ev (c o : List S57) (mv : Int) (hc : Small c) (ho : Small o) : Ev (fun k => impl_KeysOf.f k c o mv) (keysV c o mv) := by
  unfold impl_KeysOf.f keysV
  refine Ev.bind (impl_TableOk_ev c o mv hc ho) ?_
  by_cases h : TR c o mv
  · simp only [tr_true h, if_true]
    exact Ev.bind (impl_keys_ev c o mv hc.1 ho.1) (Ev.now _)
  · simp only [tr_false h]
    exact Ev.now _
theorem same_texts_loop (l : List ByteArray) (hl : l.length ≤ 2097152) (d : Nat) : ∀ (i : Nat), l.length - i = d → Ev (fun k => laws_sameTexts.l0 k l l (i : Int)) true := by
  induction d with
  | zero =>
    intro i hd
    refine Ev.step (f := fun _ => some true) (fun k => ?_) (Ev.now _)
    simp only [laws_sameTexts.l0]
    rw [if_neg (by omega)]
  | succ d ih =>
    intro i hd
    refine Ev.step (fun k => ?_) (ih (i + 1) (by omega))
    simp only [laws_sameTexts.l0]
    rw [if_pos (by omega), if_pos (by omega), if_pos (by omega), if_pos trivial, wrap64_id (by omega) (by omega)]
    rfl
theorem same_texts (l : List ByteArray) (hl : l.length ≤ 2097152) : Ev (fun k => laws_sameTexts.f k l l) true := by
  unfold laws_sameTexts.f
  simp only [if_true]
  exact same_texts_loop l hl _ 0 rfl
def Roomy (c o : List S57) (m : Nat) : Prop := o.length + (o.length - m) ≤ c.countP isN
theorem roomy_put {c : List S57} {key : ByteArray} {h : Int} (hn : HasN c) (hk : key.toList ≠ []) : c.countP isN ≤ (c.set (freeAt c key) ⟨key, h⟩).countP isN + 1 := by
  have hpos : 0 < c.length := by obtain ⟨j, hj, _⟩ := hn; omega
  obtain ⟨q, hq, hf, he⟩ := freeP_some c hn (home c.length key) (home_lt _ _ hpos)
  have e : freeAt c key = q := by unfold freeAt; rw [hf]; omega
  rw [e]
  have hs := count_set c q ⟨key, h⟩ hq
  rw [if_neg (show ¬ isN (⟨key, h⟩ : S57) = true from fun z => hk ((isN_iff _).1 z).1)] at hs
  split at hs <;> omega
theorem move_roomy (s : Nat) : ∀ {c o : List S57} {m : Nat}, TR c o (m : Int) → 2 ≤ o.length → Roomy c o m → m ≤ o.length →
    ((moveRun s c o m).2.1 = [] ∧ (moveRun s c o m).2.2 = 0) ∨ (∃ m' : Nat, (moveRun s c o m).2.2 = (m' : Int) ∧ m' = m + s ∧ m' < o.length ∧ (moveRun s c o m).2.1.length = o.length ∧ Roomy (moveRun s c o m).1 (moveRun s c o m).2.1 m') := by
  induction s with
  | zero =>
    intro c o m h h2 hr hm
    simp only [moveRun]
    unfold moveEnd
    by_cases e : m = o.length
    · rw [if_pos e]; exact .inl ⟨rfl, rfl⟩
    · rw [if_neg e]; exact .inr ⟨m, rfl, rfl, by omega, rfl, hr⟩
  | succ s ih =>
    intro c o m h h2 hr hm
    simp only [moveRun]
    by_cases hlt : m < o.length
    · rw [if_pos hlt]
      by_cases he : (cl o m).f0.toList = []
      · rw [if_pos he]
        have hR : Roomy c (o.set m goneC) (m + 1) := by unfold Roomy at *; rw [List.length_set]; omega
        rcases ih (move_nil h hlt he).1 (by rw [List.length_set]; exact h2) hR (by rw [List.length_set]; omega) with z | ⟨m', a, b, c', d, e⟩
        · exact .inl z
        · rw [List.length_set] at c' d
          exact .inr ⟨m', a, by omega, c', d, e⟩
      · rw [if_neg he]
        have hnr : ¬ noRoom c (cl o m).f0 := fun z => by
          have := z.2
          unfold Roomy at hr
          omega
        rw [tr_false hnr, if_neg (by simp)]
        have hR : Roomy (c.set (freeAt c (cl o m).f0) ⟨(cl o m).f0, (cl o m).f1⟩) (o.set m goneC) (m + 1) := by
          have := roomy_put (h := (cl o m).f1) h.2.2.2.2.2.2.2 he
          unfold Roomy at *
          rw [List.length_set]
          omega
        rcases ih (move_key h hlt he hnr).1 (by rw [List.length_set]; exact h2) hR (by rw [List.length_set]; omega) with z | ⟨m', a, b, c', d, e⟩
        · exact .inl z
        · rw [List.length_set] at c' d
          exact .inr ⟨m', a, by omega, c', d, e⟩
    · rw [if_neg hlt]
      unfold moveEnd
      rw [if_pos (by omega)]
      exact .inl ⟨rfl, rfl⟩
theorem rep_count (n : Nat) : (List.replicate n noneC).countP isN = n := by
  rw [List.countP_replicate, if_pos ((isN_iff _).2 ⟨noneC_nil, rfl⟩)]
theorem grows_last {c o c1 : List S57} {mv : Int} (ps : List Int) (i : Int) (h : TR c o mv) (h1 : TR c1 [] 0) (hf : ∀ k, findV c1 [] k = findV c o k) (hl : c1.length = 2 * c.length) : Ev (fun k => laws_FnGrows.j1 k ps (keysV c o mv) i false c o mv c1 [] 0) true := by
  have hsz := size_le h1.1
  have hs : keysV c1 [] 0 = keysV c o mv := keys_same h h1 (fun k => by rw [hf k])
  have hlen := keysV_length c o mv h.small.1 h.small.2
  have hk := impl_KeysOf_ev c1 [] 0 h1.small.1 h1.small.2
  rw [hs] at hk
  have ew : Aside0 (wrap64 (2 * (c.length : Int)) = (c1.length : Int)) := ⟨by rw [wrap64_id (by omega) (by omega)]; omega⟩
  refine Ev.step (f := fun k => (impl_TableOk.f k c1 [] 0).bind fun t527 => (if t527 = true then ((impl_KeysOf.f k c1 [] 0).bind fun t528 => ((laws_sameTexts.f k t528 (keysV c o mv)).bind fun t531 => (some t531))) else (some false))) (fun k => ?_) (Ev.bind (iok h1) ?_)
  · simp only [laws_FnGrows.j1]
    rw [if_neg (by simp), if_pos (by simp), ew.out, if_pos rfl]
  · simp only [if_true]
    exact Ev.bind hk (Ev.bind (same_texts _ hlen) (Ev.now _))
theorem grows_loop (ps : List Int) (hp : ps.length = 12) (hp2 : ∀ x ∈ ps, 0 ≤ x ∧ x < 10000) {c o : List S57} {mv : Int} (h : TR c o mv) (d : Nat) : ∀ (i : Nat) (c1 o1 : List S57) (m : Nat), i + d = 70 → TR c1 o1 (m : Int) → (∀ k, findV c1 o1 k = findV c o k) → c1.length = 2 * c.length → (o1 = [] ∧ m = 0) ∨ (2 ≤ o1.length ∧ Roomy c1 o1 m ∧ m < o1.length ∧ i ≤ m) → Ev (fun k => laws_FnGrows.l0 k ps (keysV c o mv) (i : Int) c o mv c1 o1 (m : Int)) true := by
  have hlen := keysV_length c o mv h.small.1 h.small.2
  induction d with
  | zero =>
    intro i c1 o1 m hi h1 hf hl hx
    have hsz := size_le h1.1
    rcases hx with ⟨rfl, rfl⟩ | ⟨x1, x2, x3, x4⟩
    · refine Ev.step (fun k => ?_) (grows_last ps (i : Int) h h1 hf hl)
      simp only [laws_FnGrows.l0]
      rw [if_neg (by omega)]
      rfl
    · have := h1.2.1
      omega
  | succ d ih =>
    intro i c1 o1 m hi h1 hf hl hx
    have hsz := size_le h1.1
    rcases hx with ⟨rfl, rfl⟩ | ⟨x1, x2, x3, x4⟩
    · refine Ev.step (fun k => ?_) (grows_last ps (i : Int) h h1 hf hl)
      simp only [laws_FnGrows.l0]
      rw [if_pos (by omega)]
      rfl
    · have hs : keysV c1 o1 (m : Int) = keysV c o mv := keys_same h h1 (fun k => by rw [hf k])
      have hk := impl_KeysOf_ev c1 o1 (m : Int) h1.small.1 h1.small.2
      rw [hs] at hk
      have ei : Aside0 (wrap64 ((i : Int) + 1) = ((i + 1 : Nat) : Int)) := ⟨by rw [wrap64_id (by omega) (by omega)]; omega⟩
      have eq12 : Int.tmod (i : Int) 12 = ((i % 12 : Nat) : Int) := by rw [Int.tmod_eq_emod_of_nonneg (by omega)]; rfl
      have hlt12 : i % 12 < 12 := Nat.mod_lt _ (by omega)
      have hrd : 0 ≤ ps.getD (i % 12) 0 ∧ ps.getD (i % 12) 0 < 10000 := hp2 _ (getD_mem ps 0 _ (by omega))
      have er : rd ps ((i % 12 : Nat) : Int) = ps.getD (i % 12) 0 := rfl
      have hst : ∃ st : Nat, 1 ≤ st ∧ st ≤ 3 ∧ wrap64 (1 + Int.tmod (ps.getD (i % 12) 0) 3) = (st : Int) := by
        refine ⟨(1 + (ps.getD (i % 12) 0) % 3).toNat, by omega, by omega, ?_⟩
        rw [Int.tmod_eq_emod_of_nonneg hrd.1, wrap64_id (by omega) (by omega)]
        omega
      obtain ⟨st, st1, st2, hst⟩ := hst
      have EST := Aside0.mk hst
      clear hst
      have hmv := impl_move_ev st st1 (by omega) h1
      obtain ⟨tm, fm, lm⟩ := move_TR st h1
      have hroom := move_roomy st h1 x1 x2 (by omega)
      have hnext : Ev (fun k => laws_FnGrows.l0 k ps (keysV c o mv) ((i + 1 : Nat) : Int) c o mv (moveRun st c1 o1 m).1 (moveRun st c1 o1 m).2.1 (moveRun st c1 o1 m).2.2) true := by
        have hfm : ∀ k, findV (moveRun st c1 o1 m).1 (moveRun st c1 o1 m).2.1 k = findV c o k := fun k => (fm k).trans (hf k)
        rcases hroom with ⟨a, b⟩ | ⟨m', a, b, c', e, f⟩
        · rw [a] at hfm
          rw [a, b] at tm ⊢
          exact ih (i + 1) _ [] 0 (by omega) tm hfm (by rw [lm]; exact hl) (.inl ⟨rfl, rfl⟩)
        · rw [a] at tm ⊢
          exact ih (i + 1) _ _ m' (by omega) tm hfm (by rw [lm]; exact hl) (.inr ⟨by omega, f, by omega, by omega⟩)
      have hl1 : ∀ (e : Nat) (j : Nat), (keysV c o mv).length - j = e → Ev (fun k => laws_FnGrows.l1 k ps (keysV c o mv) (i : Int) (j : Int) c o mv c1 o1 (m : Int)) true := by
        intro e
        induction e with
        | zero =>
          intro j hj
          refine Ev.step (f := fun k => (impl_MoveSome.f k c1 o1 (m : Int) (st : Int)).bind fun bt538 => (laws_FnGrows.l0 k ps (keysV c o mv) ((i + 1 : Nat) : Int) c o mv bt538.1 bt538.2.1 bt538.2.2)) (fun k => ?_) (Ev.bind hmv hnext)
          simp only [laws_FnGrows.l1]
          rw [if_neg (by omega), eq12, if_pos (by omega), if_pos (by omega), er, EST.out, ei.out]
        | succ e ih2 =>
          intro j hj
          have hm : (keysV c o mv).getD j ByteArray.empty ∈ keysV c o mv := getD_mem _ _ j (by omega)
          rw [keysV_TR h] at hm
          have hfd := (keys_find h _).1 hm
          have hkz := (key_size h (mem_sortB hm)).2
          rw [← keysV_TR h] at hfd hkz
          have er2 : rdOf ByteArray.empty (keysV c o mv) (j : Int) = (keysV c o mv).getD j ByteArray.empty := rfl
          have e2 : Aside0 (wrap64 ((j : Int) + 1) = ((j + 1 : Nat) : Int)) := ⟨by rw [wrap64_id (by omega) (by omega)]; omega⟩
          generalize (keysV c o mv).getD j ByteArray.empty = s at hfd hkz er2
          have g0 := sseek h s (by omega)
          have g1 := iseek h1 s (by omega)
          rw [hf s] at g1
          refine Ev.step (f := fun k => (spec_SeekKey.f k c o mv s).bind fun bt546 => ((impl_SeekKey.f k c1 o1 (m : Int) s).bind fun bt549 => (if bt549.2 = true then (if bt546.1 = bt549.1 then (laws_FnGrows.l1 k ps (keysV c o mv) (i : Int) ((j + 1 : Nat) : Int) c o mv c1 o1 (m : Int)) else (some false)) else (some false)))) (fun k => ?_) (Ev.bind g0 (Ev.bind g1 ?_))
          · simp only [laws_FnGrows.l1]
            rw [if_pos (by omega), if_pos (by omega), er2, e2.out]
          · simp only [hfd, if_true]
            exact ih2 (j + 1) (by omega)
      have hj2 : Ev (fun k => laws_FnGrows.j2 k ps (keysV c o mv) (i : Int) false c o mv c1 o1 (m : Int)) true := by
        refine Ev.step (fun k => ?_) (hl1 _ 0 rfl)
        simp only [laws_FnGrows.j2]
        rw [if_neg (by simp)]
        rfl
      have hj1 : Ev (fun k => laws_FnGrows.j1 k ps (keysV c o mv) (i : Int) true c o mv c1 o1 (m : Int)) true := by
        refine Ev.step (f := fun k => (impl_TableOk.f k c1 o1 (m : Int)).bind fun t532 => (if t532 = true then ((impl_KeysOf.f k c1 o1 (m : Int)).bind fun t533 => ((laws_sameTexts.f k t533 (keysV c o mv)).bind fun t536 => (laws_FnGrows.j2 k ps (keysV c o mv) (i : Int) (!t536) c o mv c1 o1 (m : Int)))) else (laws_FnGrows.j2 k ps (keysV c o mv) (i : Int) true c o mv c1 o1 (m : Int)))) (fun k => ?_) (Ev.bind (iok h1) ?_)
        · simp only [laws_FnGrows.j1]
          rw [if_pos trivial]
        · simp only [if_true]
          refine Ev.bind hk (Ev.bind (same_texts _ hlen) ?_)
          simp only [Bool.not_true]
          exact hj2
      refine Ev.step (fun k => ?_) hj1
      simp only [laws_FnGrows.l0]
      rw [if_pos (by omega), decide_eq_true (show (o1.length : Int) > 0 by omega)]
theorem FnGrows : laws_FnGrows.Pure := by
  intro l hl hl1 hw
  refine Ev.rounds ?_
  unfold laws_FnGrows.f laws_big.f
  simp only [Option.bind_some]
  by_cases hb : (l.length : Int) > 1048576
  · simp only [decide_eq_true hb, if_true]
    exact Ev.now _
  · simp only [decide_eq_false hb, Bool.false_eq_true, if_false]
    obtain ⟨c0, o0, mv0, s, hD, hs, hE⟩ := draw_table l (by omega)
    obtain ⟨m0, rfl⟩ := Int.eq_ofNat_of_zero_le hD.1.2.2.1.1
    have hM := impl_move_ev 64 (by omega) (by omega) hD.1
    obtain ⟨h, _, _⟩ := move_TR 64 hD.1
    generalize moveRun 64 c0 o0 m0 = V at hM h
    obtain ⟨c, o, mv⟩ := V
    simp only at h
    have hG := impl_Grow_ev c o mv h.small.1 h.small.2
    have hsz := size_le h.1
    have ew : Aside0 (wrap64 (2 * (c.length : Int)) = 2 * (c.length : Int)) := ⟨wrap64_id (by omega) (by omega)⟩
    refine Ev.bind hE (Ev.bind hM ?_)
    by_cases ho : (o.length : Int) > 0
    · simp only [if_pos ho]
      have hv : growV c o mv = badV := by unfold growV; rw [tr_false (fun z => by have := z.2.1; omega)]; rfl
      rw [hv] at hG
      refine Ev.bind hG ?_
      simp only [badV, Bool.false_eq_true, if_false]
      exact Ev.bind (iok h) (Ev.now _)
    · simp only [if_neg ho]
      refine Ev.bind hG ?_
      by_cases hc : c.length ≤ 32
      · have hv : growV c o mv = (List.replicate (2 * c.length) noneC, c, 0, true) := by unfold growV; rw [tr_true ⟨h, by omega, hc⟩]; rfl
        obtain ⟨tg, fg⟩ := grow_TR h (by omega) hc
        obtain ⟨ps, p1, p2, p3⟩ := draw_places l (by omega)
        rw [hv]
        simp only [ew.out, decide_eq_true (show 2 * (c.length : Int) ≤ 64 by omega), bne_self_eq_false, Bool.false_eq_true, if_false, if_true]
        refine Ev.bind p3 (Ev.bind (impl_KeysOf_ev c o mv h.small.1 h.small.2) ?_)
        exact grows_loop ps p1 p2 h 70 0 (List.replicate (2 * c.length) noneC) c 0 (by omega) tg fg (by simp) (.inr ⟨by omega, by unfold Roomy; rw [rep_count]; omega, by omega, by omega⟩)
      · have hv : growV c o mv = badV := by unfold growV; rw [tr_false (fun z => hc z.2.2)]; rfl
        rw [hv]
        simp only [badV, ew.out, decide_eq_false (show ¬ 2 * (c.length : Int) ≤ 64 by omega), bne_self_eq_false, Bool.false_eq_true, if_false, List.length_nil]
        exact Ev.now _
end Go.Proofs.Ytmahoekbedgbcaa.Pure
