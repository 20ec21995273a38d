/- The pure statement of the law FnHalves: plain Lean over numbers and lists. -/
import Derived.Test.YtomcapflpephmaaHFnHalvesx6
import Derived.Test.YtomcapflpephmaaMath
set_option linter.unusedSimpArgs false
set_option linter.unusedVariables false
namespace Go.Proofs.Ytomcapflpephmaa.Pure
open Go.RowKit Go.Proofs.Ytomcapflpephmaa.HFnHalves Go.Proofs.YtomcapflpephmaaW.PrintWords Go.Proofs.YtomcapflpephmaaW.PrintLast Go.Proofs.Ytomcapflpephmaa.Math

/-! ### a reader of draws -/
def CurOk (b : List Int) (i : Int) : Prop := 0 ≤ i ∧ i ≤ b.length ∧ b.length ≤ 140737488355328
theorem cur_new (l : List Int) (hl : l.length ≤ 140737488355328) : ∃ h, Ev (fun k => spec_l01New.f k l) (l, 0, h) := by
  have key : ∀ (d : Nat) (h : Int) (i : Nat), l.length - i = d → ∃ h', Ev (fun k => spec_l01New.l0 k l h (i : Int)) (l, 0, h') := by
    intro d
    induction d with
    | zero =>
      intro h i hd
      refine ⟨h, Ev.step (f := fun _ => some (l, 0, h)) (fun k => ?_) (Ev.now _)⟩
      simp only [spec_l01New.l0]
      rw [if_neg (by omega)]
    | succ d ih =>
      intro h i hd
      by_cases h4 : (i : Int) < 4000
      · obtain ⟨h', hh⟩ := ih (Go.bits .and .i64 (wrap64 ((wrap64 ((wrap64 (h * 131)) + (wrap64 (rd l (i : Int))))) + 7)) 1073741823) (i + 1) (by omega)
        refine ⟨h', Ev.step (fun k => ?_) hh⟩
        simp only [spec_l01New.l0]
        rw [if_pos (by omega), if_pos h4, if_pos (by omega), wrap64_id (x := (i : Int) + 1) (by omega) (by omega)]
        rfl
      · refine ⟨h, Ev.step (f := fun _ => some (l, 0, h)) (fun k => ?_) (Ev.now _)⟩
        simp only [spec_l01New.l0]
        rw [if_pos (by omega), if_neg h4]
  exact key _ _ 0 rfl
theorem cur_byte (b : List Int) (i h : Int) (hc : CurOk b i) : ∃ x i' h', spec_l01Byte.f b i h = some (x, i', h') ∧ (0 ≤ x ∧ x ≤ 255) ∧ CurOk b i' := by
  obtain ⟨h0, h1, h2⟩ := hc
  unfold spec_l01Byte.f
  by_cases hlt : i < (b.length : Int)
  · rw [if_pos hlt, if_pos h0]
    exact ⟨_, _, _, rfl, bits_and_255 _, by rw [wrap64_id (by omega) (by omega)]; exact ⟨by omega, by omega, h2⟩⟩
  · rw [if_neg hlt]
    exact ⟨_, _, _, rfl, bits_and_255 _, h0, h1, h2⟩
theorem cur_below (b : List Int) (i h n : Int) (hn : n ≤ 4294967296) (hc : CurOk b i) : ∃ x i' h', spec_l01Below.f b i h n = some (x, i', h') ∧ 0 ≤ x ∧ (x = 0 ∨ x < n) ∧ CurOk b i' := by
  unfold spec_l01Below.f
  by_cases h0 : n ≤ 0
  · rw [if_pos h0]
    exact ⟨_, _, _, rfl, by omega, .inl rfl, hc⟩
  · rw [if_neg h0]
    by_cases h1 : n ≤ 256
    · rw [if_pos h1]
      obtain ⟨x, i', h', e, ⟨hx0, hx1⟩, hc'⟩ := cur_byte b i h hc
      rw [e, Option.bind_some, if_neg (by omega)]
      have em : Int.tmod x n = x % n := Int.tmod_eq_emod_of_nonneg hx0
      exact ⟨_, _, _, rfl, by simp only [em]; exact Int.emod_nonneg _ (by omega), .inr (by simp only [em]; exact Int.emod_lt_of_pos _ (by omega)), hc'⟩
    · rw [if_neg h1]
      obtain ⟨x, i1, h1, e1, ⟨x0, x1⟩, c1⟩ := cur_byte b i h hc
      obtain ⟨y, i2, h2, e2, ⟨y0, y1⟩, c2⟩ := cur_byte b i1 h1 c1
      obtain ⟨z, i3, h3, e3, ⟨z0, z1⟩, c3⟩ := cur_byte b i2 h2 c2
      obtain ⟨v, i4, h4, e4, ⟨v0, v1⟩, c4⟩ := cur_byte b i3 h3 c3
      rw [e1, Option.bind_some]
      simp only [e2, Option.bind_some, e3, e4]
      rw [if_neg (by omega)]
      have a1 : wrap64 (x * 16777216) = x * 16777216 := wrap64_id (by omega) (by omega)
      have a2 : wrap64 (y * 65536) = y * 65536 := wrap64_id (by omega) (by omega)
      have a3 : wrap64 (x * 16777216 + y * 65536) = x * 16777216 + y * 65536 := wrap64_id (by omega) (by omega)
      have a4 : wrap64 (z * 256) = z * 256 := wrap64_id (by omega) (by omega)
      have a5 : wrap64 (x * 16777216 + y * 65536 + z * 256) = x * 16777216 + y * 65536 + z * 256 := wrap64_id (by omega) (by omega)
      have a6 : wrap64 (x * 16777216 + y * 65536 + z * 256 + v) = x * 16777216 + y * 65536 + z * 256 + v := wrap64_id (by omega) (by omega)
      rw [a1, a2, a3, a4, a5, a6]
      have em : Int.tmod (x * 16777216 + y * 65536 + z * 256 + v) n = (x * 16777216 + y * 65536 + z * 256 + v) % n := Int.tmod_eq_emod_of_nonneg (by omega)
      exact ⟨_, _, _, rfl, by simp only [em]; exact Int.emod_nonneg _ (by omega), .inr (by simp only [em]; exact Int.emod_lt_of_pos _ (by omega)), c4⟩

theorem cur_pick (b : List Int) (i h : Int) (l : List ByteArray) (hl : 0 < l.length) (hn : (l.length : Int) ≤ 4294967296) (hc : CurOk b i) : ∃ x i' h', spec_l01Pick.f b i h l = some (x, i', h') ∧ x ∈ l ∧ CurOk b i' := by
  obtain ⟨x, i', h', e, h0, h1, hc'⟩ := cur_below b i h (l.length : Int) hn hc
  unfold spec_l01Pick.f
  rw [e, Option.bind_some, if_pos (by simpa using h0), if_pos (by simp only; omega)]
  refine ⟨_, _, _, rfl, ?_, hc'⟩
  exact getD_mem l ByteArray.empty x.toNat (by omega)
def keys12 : List ByteArray := [⟨#[97]⟩, ⟨#[98]⟩, ⟨#[99]⟩, ⟨#[100]⟩, ⟨#[101]⟩, ⟨#[102]⟩, ⟨#[103]⟩, ⟨#[104]⟩, ⟨#[107, 49]⟩, ⟨#[107, 50]⟩, ⟨#[107, 51]⟩, ⟨#[107, 101, 121]⟩]
theorem keys12_size : ∀ s ∈ keys12, 0 < s.size ∧ s.size ≤ 3 := by
  intro s hs
  simp only [keys12, List.mem_cons, List.not_mem_nil, or_false] at hs
  rcases hs with rfl | rfl | rfl | rfl | rfl | rfl | rfl | rfl | rfl | rfl | rfl | rfl <;> decide
theorem cur_key (b : List Int) (i h : Int) (hc : CurOk b i) : ∃ s i' h', spec_l03Key.f b i h = some (s, i', h') ∧ s ∈ keys12 ∧ CurOk b i' := by
  obtain ⟨x, i', h', e, hm, hc'⟩ := cur_pick b i h keys12 (by decide) (by decide) hc
  unfold spec_l03Key.f
  unfold keys12 at e
  rw [e, Option.bind_some]
  exact ⟨_, _, _, rfl, hm, hc'⟩

theorem cur_once (b : List Int) (i h n : Int) (hn : n ≤ 4294967296) (hc : CurOk b i) : ∃ x i' h', spec_l01Once.f b i h n = some (x, i', h') ∧ CurOk b i' := by
  obtain ⟨x, i', h', e, _, _, hc'⟩ := cur_below b i h n hn hc
  unfold spec_l01Once.f
  rw [e, Option.bind_some]
  exact ⟨_, _, _, rfl, hc'⟩

theorem cur_pickint (b : List Int) (i h : Int) (l : List Int) (hl : 0 < l.length) (hn : (l.length : Int) ≤ 4294967296) (hc : CurOk b i) : ∃ x i' h', spec_l01PickInt.f b i h l = some (x, i', h') ∧ x ∈ l ∧ CurOk b i' := by
  obtain ⟨x, i', h', e, h0, h1, hc'⟩ := cur_below b i h (l.length : Int) hn hc
  unfold spec_l01PickInt.f
  rw [e, Option.bind_some, if_pos (by simpa using h0), if_pos (by simp only; omega)]
  refine ⟨_, _, _, rfl, ?_, hc'⟩
  exact getD_mem l 0 x.toNat (by omega)

theorem spec_xor_step (a b out bit i k : Nat) (ha2 : a < 4294967296) (hb2 : b < 4294967296) (hbit : bit ≤ 4294967296) (ho : out < bit) (hi : i < 32) :
    spec_l04Xor.l0 (k + 1) (a : Int) (b : Int) (out : Int) (bit : Int) (i : Int) = spec_l04Xor.l0 k ((a / 2 : Nat) : Int) ((b / 2 : Nat) : Int) ((out + bit * ((a % 2 + b % 2) % 2) : Nat) : Int) ((2 * bit : Nat) : Int) ((i + 1 : Nat) : Int) := by
  have hi' : (i : Int) < 32 := by omega
  have hs : ((out : Int) = ((out + bit * ((a % 2 + b % 2) % 2) : Nat) : Int) ∧ ((a % 2 : Nat) : Int) = ((b % 2 : Nat) : Int)) ∨ (((out + bit : Nat) : Int) = ((out + bit * ((a % 2 + b % 2) % 2) : Nat) : Int) ∧ ¬ ((a % 2 : Nat) : Int) = ((b % 2 : Nat) : Int)) := by
    by_cases hab : a % 2 = b % 2
    · exact .inl ⟨by rw [show (a % 2 + b % 2) % 2 = 0 by omega, Nat.mul_zero, Nat.add_zero], by rw [hab]⟩
    · exact .inr ⟨by rw [show (a % 2 + b % 2) % 2 = 1 by omega, Nat.mul_one], fun h => hab (Int.ofNat.inj h)⟩
  have e1 : wrap64 (Int.tdiv (a : Int) 2) = ((a / 2 : Nat) : Int) := by rw [Int.tdiv_eq_ediv_of_nonneg (by omega), wrap64_id (by omega) (by omega)]; omega
  have e2 : wrap64 (Int.tdiv (b : Int) 2) = ((b / 2 : Nat) : Int) := by rw [Int.tdiv_eq_ediv_of_nonneg (by omega), wrap64_id (by omega) (by omega)]; omega
  have e3 : wrap64 (2 * (bit : Int)) = ((2 * bit : Nat) : Int) := by rw [wrap64_id (by omega) (by omega)]; omega
  have e4 : wrap64 ((i : Int) + 1) = ((i + 1 : Nat) : Int) := by rw [wrap64_id (by omega) (by omega)]; omega
  have e5 : wrap64 ((out : Int) + (bit : Int)) = ((out + bit : Nat) : Int) := by rw [wrap64_id (by omega) (by omega)]; omega
  have e6 : Int.tmod (a : Int) 2 = ((a % 2 : Nat) : Int) := by rw [Int.tmod_eq_emod_of_nonneg (by omega)]; omega
  have e7 : Int.tmod (b : Int) 2 = ((b % 2 : Nat) : Int) := by rw [Int.tmod_eq_emod_of_nonneg (by omega)]; omega
  simp only [spec_l04Xor.l0, e1, e2, e3, e4, e5, e6, e7]
  rcases hs with ⟨h1, h2⟩ | ⟨h1, h2⟩
  · rw [if_pos hi', if_pos h2, ← h1]
  · rw [if_pos hi', if_neg h2, ← h1]
theorem spec_xor_loop (d : Nat) : ∀ (i a b out bit : Nat), i + d = 32 → a < 2 ^ d → b < 2 ^ d → bit * 2 ^ d = 4294967296 → out < bit →
    Ev (fun k => spec_l04Xor.l0 k (a : Int) (b : Int) (out : Int) (bit : Int) (i : Int)) ((out + bit * (a ^^^ b) : Nat) : Int) := by
  induction d with
  | zero =>
    intro i a b out bit hi ha hb hbit ho
    have ea : a = 0 := by simpa using ha
    have eb : b = 0 := by simpa using hb
    subst ea eb
    refine Ev.step (f := fun _ => some (out : Int)) (fun k => ?_) (by simpa using Ev.now (out : Int))
    simp only [spec_l04Xor.l0]
    rw [if_neg (by omega)]
  | succ d ih =>
    intro i a b out bit hi ha hb hbit ho
    have hbit' : (2 * bit) * 2 ^ d = 4294967296 := by rw [← hbit, Nat.pow_succ]; ac_rfl
    have hb32 : 2 * bit ≤ 4294967296 := by
      rw [← hbit']
      exact Nat.le_mul_of_pos_right _ (Nat.two_pow_pos d)
    have hd : d + 1 ≤ 32 := by clear hbit hbit' ha hb; omega
    have ha2 : a < 4294967296 := Nat.lt_of_lt_of_le ha (Nat.pow_le_pow_right (by decide) hd)
    have hb2 : b < 4294967296 := Nat.lt_of_lt_of_le hb (Nat.pow_le_pow_right (by decide) hd)
    have ha' : a / 2 < 2 ^ d := by rw [Nat.pow_succ] at ha; exact Nat.div_lt_of_lt_mul (by rw [Nat.mul_comm]; exact ha)
    have hb' : b / 2 < 2 ^ d := by rw [Nat.pow_succ] at hb; exact Nat.div_lt_of_lt_mul (by rw [Nat.mul_comm]; exact hb)
    clear hbit ha hb
    have hx := xor_step a b
    have ho' : out + bit * ((a % 2 + b % 2) % 2) < 2 * bit := by
      rcases Nat.mod_two_eq_zero_or_one (a % 2 + b % 2) with h | h <;> rw [h] <;> omega
    have h := ih (i + 1) (a / 2) (b / 2) (out + bit * ((a % 2 + b % 2) % 2)) (2 * bit) (by omega) ha' hb' hbit' ho'
    have er : out + bit * (a ^^^ b) = out + bit * ((a % 2 + b % 2) % 2) + 2 * bit * ((a / 2) ^^^ (b / 2)) := by
      rw [hx, Nat.mul_add, ← Nat.mul_assoc, Nat.mul_comm bit 2, Nat.add_assoc]
    rw [er]
    exact Ev.step (fun k => spec_xor_step a b out bit i k ha2 hb2 (by omega) ho (by omega)) h
theorem spec_xor (x y : Int) (h0 : 0 ≤ x) (h1 : x < 4294967296) (h2 : 0 ≤ y) (h3 : y < 4294967296) : Ev (fun k => spec_l04Xor.f k x y) (Go.bits .xor .u32 x y) := by
  obtain ⟨a, rfl⟩ := Int.eq_ofNat_of_zero_le h0
  obtain ⟨b, rfl⟩ := Int.eq_ofNat_of_zero_le h2
  rw [bits_xor_nat a b (by omega) (by omega)]
  have h := spec_xor_loop 32 0 a b 0 1 (by decide) (by omega) (by omega) (by decide) (by decide)
  simpa [spec_l04Xor.f] using h
theorem spec_hash_loop (s : ByteArray) (hs : s.size ≤ 140737488355328) (d : Nat) : ∀ (x : Int) (i : Nat), 0 ≤ x → x < 4294967296 → s.size - i = d → i ≤ s.size →
    Ev (fun k => spec_HashOf.l0 k s x (i : Int)) (fold16 (hashL (s.data.toList.drop i) x)) := by
  induction d with
  | zero =>
    intro x i h0 h1 hd hi
    have e : s.data.toList.drop i = [] := List.drop_eq_nil_of_le (by simp; omega)
    have ew : wrap64 (Int.tdiv x 65536) = x / 65536 := by rw [Int.tdiv_eq_ediv_of_nonneg h0, wrap64_id (by omega) (by omega)]
    rw [e]
    refine Ev.step (f := fun k => (spec_l04Xor.f k x (x / 65536)).bind fun t => some t) (fun k => ?_) (Ev.bind (spec_xor x (x / 65536) h0 h1 (by omega) (by omega)) (Ev.now _))
    simp only [spec_HashOf.l0]
    rw [if_neg (by omega), ew]
  | succ d ih =>
    intro x i h0 h1 hd hi
    obtain ⟨c, e, hb⟩ := drop_bt s i (by omega)
    have hc := c.toNat_lt
    obtain ⟨a, b⟩ := bits_xor_range x (c.toNat : Int)
    obtain ⟨a', b'⟩ := hashByte_range x c
    have h := ih (hashByte x c) (i + 1) a' b' (by omega) (by omega)
    rw [e]
    have ew : wrap64 ((i : Int) + 1) = ((i + 1 : Nat) : Int) := by rw [wrap64_id (by omega) (by omega)]; omega
    have eb : wrap64 (bt s (i : Int)) = (c.toNat : Int) := by rw [hb, wrap64_id (by omega) (by omega)]
    have em : Int.tmod (wrap64 (Go.bits .xor .u32 x (c.toNat : Int) * 16777619)) 4294967296 = hashByte x c := by
      rw [wrap64_id (by omega) (by omega), Int.tmod_eq_emod_of_nonneg (by omega)]
      rfl
    refine Ev.step (f := fun k => (spec_l04Xor.f k x (c.toNat : Int)).bind fun t => spec_HashOf.l0 k s (Int.tmod (wrap64 (t * 16777619)) 4294967296) ((i + 1 : Nat) : Int)) (fun k => ?_) (Ev.bind (spec_xor x (c.toNat : Int) h0 h1 (by omega) (by omega)) (by rw [em]; exact h))
    simp only [spec_HashOf.l0]
    rw [if_pos (by omega), if_pos (by omega), eb, ew]
theorem spec_hash (s : ByteArray) (hs : s.size ≤ 140737488355328) (seed : Int) : Ev (fun k => spec_HashOf.f k s seed) (hashOf s seed) := by
  have hl := fun (x : Int) (h0 : 0 ≤ x) (h1 : x ≤ 1000000000) => spec_hash_loop s hs _ (2166136261 + x) 0 (by omega) (by omega) rfl (by omega)
  have h1 : ∀ x : Int, 0 ≤ x → x ≤ 1000000000 → Ev (fun k => spec_HashOf.j1 k s x) (fold16 (hashL s.data.toList (2166136261 + x))) := fun x h0 h1 => by
    have em : Int.tmod (wrap64 (2166136261 + x)) 4294967296 = 2166136261 + x := by rw [wrap64_id (by omega) (by omega), Int.tmod_eq_emod_of_nonneg (by omega)]; omega
    refine Ev.step (fun k => ?_) (by simpa using hl x h0 h1)
    simp only [spec_HashOf.j1]
    rw [em]
  have h2 : ∀ x : Int, 0 ≤ x → Ev (fun k => spec_HashOf.j0 k s x) (fold16 (hashL s.data.toList (2166136261 + (if x > 1000000000 then 1000000000 else x)))) := fun x h0 => by
    by_cases hx : x > 1000000000
    · refine Ev.step (fun k => ?_) (h1 1000000000 (by omega) (by omega) |> fun z => by simpa [hx] using z)
      simp only [spec_HashOf.j0]
      rw [if_pos hx]
    · refine Ev.step (fun k => ?_) (h1 x h0 (by omega) |> fun z => by simpa [hx] using z)
      simp only [spec_HashOf.j0]
      rw [if_neg hx]
  unfold spec_HashOf.f hashOf clampSeed
  by_cases hn : seed < 0
  · simp only [if_pos hn]
    simpa using h2 0 (by omega)
  · simp only [if_neg hn]
    exact h2 seed (by omega)
theorem impl_hash_loop (s : ByteArray) (hs : s.size ≤ 140737488355328) (d : Nat) : ∀ (x : Int) (i : Nat), 0 ≤ x → x < 4294967296 → s.size - i = d → i ≤ s.size →
    Ev (fun k => impl_HashOf.l0 k s x (i : Int)) (fold16 (hashL (s.data.toList.drop i) x)) := by
  induction d with
  | zero =>
    intro x i h0 h1 hd hi
    have e : s.data.toList.drop i = [] := List.drop_eq_nil_of_le (by simp; omega)
    obtain ⟨a, b⟩ := bits_xor_range x (x / 65536)
    rw [e]
    refine Ev.step (f := fun _ => some (fold16 x)) (fun k => ?_) (Ev.now _)
    simp only [impl_HashOf.l0]
    rw [if_neg (by omega), wrap64_id (by omega) (by omega)]
    rfl
  | succ d ih =>
    intro x i h0 h1 hd hi
    obtain ⟨c, e, hb⟩ := drop_bt s i (by omega)
    have hc := c.toNat_lt
    obtain ⟨a', b'⟩ := hashByte_range x c
    have h := ih (hashByte x c) (i + 1) a' b' (by omega) (by omega)
    rw [e]
    have ew : wrap64 ((i : Int) + 1) = ((i + 1 : Nat) : Int) := by rw [wrap64_id (by omega) (by omega)]; omega
    have eb : bt s (i : Int) % 4294967296 = (c.toNat : Int) := by rw [hb]; omega
    refine Ev.step (fun k => ?_) h
    simp only [impl_HashOf.l0]
    rw [if_pos (by omega), if_pos (by omega), eb, ew]
    rfl
theorem impl_hash (s : ByteArray) (hs : s.size ≤ 140737488355328) (seed : Int) : Ev (fun k => impl_HashOf.f k s seed) (hashOf s seed) := by
  obtain ⟨a, b⟩ := clampSeed_range seed
  have e : mx 0 (mn seed 1000000000) = clampSeed seed := by unfold mx mn clampSeed; omega
  have h := impl_hash_loop s hs _ (2166136261 + clampSeed seed) 0 (by omega) (by omega) rfl (by omega)
  unfold impl_HashOf.f hashOf
  rw [e]
  simpa using h

theorem hash_mod (s : ByteArray) (seed : Int) : 0 ≤ hashOf s seed % 16 ∧ hashOf s seed % 16 < 16 := by omega
def atOf (s : ByteArray) (row : Int) : Int := row * 16 + hashOf s row % 16
theorem spec_at (s : ByteArray) (hs : s.size ≤ 140737488355328) (row : Int) (h0 : 0 ≤ row) (h1 : row ≤ 2) : Ev (fun k => spec_l05At.f k s row) (atOf s row) := by
  obtain ⟨a, b⟩ := hashOf_range s row
  unfold spec_l05At.f atOf
  refine Ev.bind (spec_hash s hs row) ?_
  simp only [Int.tmod_eq_emod_of_nonneg a]
  have e1 : wrap64 (row * 16) = row * 16 := wrap64_id (by omega) (by omega)
  have e2 : wrap64 (row * 16 + hashOf s row % 16) = row * 16 + hashOf s row % 16 := wrap64_id (by omega) (by omega)
  simp only [e1, e2]
  exact Ev.now _
theorem impl_at (s : ByteArray) (hs : s.size ≤ 140737488355328) (row : Int) (h0 : 0 ≤ row) (h1 : row ≤ 2) : Ev (fun k => impl_countAt.f k s row) (atOf s row) := by
  obtain ⟨a, b⟩ := hashOf_range s row
  unfold impl_countAt.f atOf
  refine Ev.bind (impl_hash s hs row) ?_
  simp only [Int.tmod_eq_emod_of_nonneg a]
  have e1 : wrap64 (row * 16) = row * 16 := wrap64_id (by omega) (by omega)
  have e2 : wrap64 (row * 16 + hashOf s row % 16) = row * 16 + hashOf s row % 16 := wrap64_id (by omega) (by omega)
  simp only [e1, e2]
  exact Ev.now _

theorem spec_in (a b c : Int) : spec_l01In.f a b c = some (decide (b ≤ a ∧ a ≤ c)) := by
  unfold spec_l01In.f
  by_cases h : a ≥ b
  · rw [if_pos h]
    simp [h]
  · rw [if_neg h]
    have : ¬ (b ≤ a ∧ a ≤ c) := fun z => h z.1
    simp [this]

noncomputable def skOk (l : List Int) (a : Int) : Bool := tr (l.length = 48 ∧ (0 ≤ a ∧ a ≤ 99) ∧ ∀ j, 0 ≤ j → j < l.length → 0 ≤ l.getD j 0 ∧ l.getD j 0 ≤ 15)

theorem spec_skok_loop (l : List Int) (a : Int) (hl : l.length ≤ 1048576) (d : Nat) : ∀ (i : Nat), l.length - i = d →
    Ev (fun k => spec_SketchOk.l0 k (i : Int) l a) (tr (∀ j, i ≤ j → j < l.length → 0 ≤ l.getD j 0 ∧ l.getD j 0 ≤ 15)) := by
  induction d with
  | zero =>
    intro i hd
    rw [tr_true (fun j h1 h2 => by omega)]
    refine Ev.step (f := fun _ => some true) (fun k => ?_) (Ev.now _)
    simp only [spec_SketchOk.l0]
    rw [if_neg (by omega)]
  | succ d ih =>
    intro i hd
    have hlt : i < l.length := by omega
    have hall := all_from (P := fun j => 0 ≤ l.getD j 0 ∧ l.getD j 0 ≤ 15) hlt
    have er : rd l (i : Int) = l.getD i 0 := rfl
    by_cases h : 0 ≤ l.getD i 0 ∧ l.getD i 0 ≤ 15
    · have e : tr (∀ j, i ≤ j → j < l.length → 0 ≤ l.getD j 0 ∧ l.getD j 0 ≤ 15) = tr (∀ j, i + 1 ≤ j → j < l.length → 0 ≤ l.getD j 0 ∧ l.getD j 0 ≤ 15)   := tr_congr (hall.trans ⟨fun z => z.2, fun z => ⟨h, z⟩⟩)
      rw [e]
      refine Ev.step (fun k => ?_) (ih (i + 1) (by omega))
      simp only [spec_SketchOk.l0]
      rw [if_pos (by omega), if_pos (by omega), spec_in, er, decide_eq_true h, Option.bind_some, if_pos rfl, wrap64_id (by omega) (by omega)]
      rfl
    · rw [tr_false (fun z => h (hall.1 z).1)]
      refine Ev.step (f := fun _ => some false) (fun k => ?_) (Ev.now _)
      simp only [spec_SketchOk.l0]
      rw [if_pos (by omega), if_pos (by omega), spec_in, er, decide_eq_false h, Option.bind_some, if_neg (by simp)]
theorem spec_skok (l : List Int) (a : Int) (hl : l.length ≤ 1048576) : Ev (fun k => spec_SketchOk.f k l a) (skOk l a) := by
  have hj : ∀ b, Ev (fun k => spec_SketchOk.j0 k b l a) (!b && tr (∀ j, 0 ≤ j → j < l.length → 0 ≤ l.getD j 0 ∧ l.getD j 0 ≤ 15)) := fun b => by
    cases b with
    | true =>
      refine Ev.step (f := fun _ => some false) (fun k => ?_) (Ev.now _)
      simp only [spec_SketchOk.j0]
      rw [if_pos trivial]
    | false =>
      refine Ev.step (fun k => ?_) (by simpa using spec_skok_loop l a hl _ 0 rfl)
      simp only [spec_SketchOk.j0]
      rw [if_neg (by simp)]
  unfold spec_SketchOk.f skOk
  by_cases h : (l.length : Int) = 48
  · have h' : l.length = 48 := by omega
    simp only [if_pos h, spec_in, Option.bind_some]
    have e : tr (l.length = 48 ∧ (0 ≤ a ∧ a ≤ 99) ∧ ∀ j, 0 ≤ j → j < l.length → 0 ≤ l.getD j 0 ∧ l.getD j 0 ≤ 15) = (!!decide (0 ≤ a ∧ a ≤ 99) && tr (∀ j, 0 ≤ j → j < l.length → 0 ≤ l.getD j 0 ∧ l.getD j 0 ≤ 15)) := by
      rw [Bool.not_not, tr_dec, tr_and, tr_and, tr_true h', Bool.true_and]
    rw [e]
    exact hj _
  · have h' : ¬ l.length = 48 := by omega
    simp only [if_neg h]
    rw [tr_false (fun z => h' z.1)]
    simpa using hj true

/-! ### a drawn sketch is right -/
def SkIn (l : List Int) : Prop := l.length = 48 ∧ ∀ j, j < l.length → 0 ≤ l.getD j 0 ∧ l.getD j 0 ≤ 15
theorem sk_iff {l : List Int} {a : Int} : skOk l a = true ↔ SkIn l ∧ 0 ≤ a ∧ a ≤ 99 :=
  ⟨fun h => ⟨⟨(tr_iff.1 h).1, fun j hj => (tr_iff.1 h).2.2 j (Nat.zero_le _) hj⟩, (tr_iff.1 h).2.1⟩, fun h => tr_iff.2 ⟨h.1.1, h.2, fun j _ hj => h.1.2 j hj⟩⟩
theorem SkIn.set {l : List Int} (h : SkIn l) (i : Nat) (v : Int) (h0 : 0 ≤ v) (h1 : v ≤ 15) : SkIn (l.set i v) := by
  refine ⟨by simpa using h.1, fun j hj => ?_⟩
  have hj' : j < l.length := by simpa using hj
  rw [List.getD_eq_getElem?_getD]
  by_cases e : j = i
  · subst e
    rw [List.getElem?_set_self hj']
    exact ⟨h0, h1⟩
  · rw [List.getElem?_set_ne (by omega), ← List.getD_eq_getElem?_getD]
    exact h.2 j hj'
theorem half_small {x : Int} (h0 : 0 ≤ x) (h1 : x ≤ 15) : wrap64 (Int.tdiv x 2) = x / 2 := by
  rw [Int.tdiv_eq_ediv_of_nonneg h0, wrap64_id (by omega) (by omega)]
theorem count_halve (a : Int) (d : Nat) : ∀ (l : List Int) (i : Nat), SkIn l → 48 - i = d → i ≤ 48 → ∃ l', SkIn l' ∧ Ev (fun k => spec_CountKey.l1 k (i : Int) l a) (l', a) := by
  induction d with
  | zero =>
    intro l i hl hd hi
    refine ⟨l, hl, Ev.step (f := fun _ => some (l, a)) (fun k => ?_) (Ev.now _)⟩
    have := hl.1
    simp only [spec_CountKey.l1]
    rw [if_neg (by omega)]
  | succ d ih =>
    intro l i hl hd hi
    have hlen := hl.1
    obtain ⟨r0, r1⟩ := hl.2 i (by omega)
    have er : rd l (i : Int) = l.getD i 0 := rfl
    obtain ⟨l', h1, h2⟩ := ih (l.set i (wrap64 (Int.tdiv (rd l (i : Int)) 2))) (i + 1) (hl.set i _ (by rw [er, half_small r0 r1]; omega) (by rw [er, half_small r0 r1]; omega)) (by omega) (by omega)
    refine ⟨l', h1, Ev.step (fun k => ?_) h2⟩
    simp only [spec_CountKey.l1]
    rw [if_pos (by omega), if_pos (by omega), wrap64_id (x := (i : Int) + 1) (by omega) (by omega)]
    rfl
theorem count_rows (s : ByteArray) (hs : s.size ≤ 140737488355328) (a : Int) (ha : 0 ≤ a ∧ a ≤ 99) (d : Nat) : ∀ (l : List Int) (row : Int), SkIn l → 0 ≤ row → row ≤ 3 → (3 - row).toNat = d → ∃ l' a', skOk l' a' = true ∧ Ev (fun k => spec_CountKey.l0 k s row l a) (l', a') := by
  induction d with
  | zero =>
    intro l row hl h0 h1 hd
    have e1 : Aside0 (wrap64 (a + 1) = a + 1) := ⟨wrap64_id (by omega) (by omega)⟩
    by_cases h : a + 1 = 100
    · obtain ⟨l', h2, h3⟩ := count_halve 0 48 l 0 hl rfl (by omega)
      refine ⟨l', 0, sk_iff.2 ⟨h2, by omega, by omega⟩, Ev.step (fun k => ?_) h3⟩
      simp only [spec_CountKey.l0]
      rw [if_neg (by omega), e1.out, if_pos h]
      rfl
    · refine ⟨l, a + 1, sk_iff.2 ⟨hl, by omega, by omega⟩, Ev.step (f := fun _ => some (l, a + 1)) (fun k => ?_) (Ev.now _)⟩
      simp only [spec_CountKey.l0]
      rw [if_neg (by omega), e1.out, if_neg h]
  | succ d ih =>
    intro l row hl h0 h1 hd
    obtain ⟨a0, a1⟩ := hash_mod s row
    have hat : 0 ≤ atOf s row ∧ atOf s row < 48 := by unfold atOf; omega
    have hlen := hl.1
    have er : rd l (atOf s row) = l.getD (atOf s row).toNat 0 := rfl
    obtain ⟨r0, r1⟩ := hl.2 (atOf s row).toNat (by omega)
    have ew : Aside0 (wrap64 (row + 1) = row + 1) := ⟨wrap64_id (by omega) (by omega)⟩
    by_cases h : rd l (atOf s row) < 15
    · have e1 : wrap64 (rd l (atOf s row) + 1) = rd l (atOf s row) + 1 := wrap64_id (by omega) (by omega)
      obtain ⟨l', a', h2, h3⟩ := ih (l.set (atOf s row).toNat (rd l (atOf s row) + 1)) (row + 1) (hl.set _ _ (by omega) (by omega)) (by omega) (by omega) (by omega)
      refine ⟨l', a', h2, Ev.step (f := fun k => (spec_l05At.f k s row).bind fun t => if 0 ≤ t then if t < (l.length : Int) then if rd l t < 15 then spec_CountKey.l0 k s (row + 1) (l.set t.toNat (wrap64 (rd l t + 1))) a else spec_CountKey.l0 k s (row + 1) l a else none else none) (fun k => ?_) (Ev.bind (spec_at s hs row h0 (by omega)) ?_)⟩
      · simp only [spec_CountKey.l0]
        rw [if_pos (by omega), ew.out]
      · simp only [if_pos hat.1, if_pos (show atOf s row < (l.length : Int) by omega), if_pos h, e1]
        exact h3
    · obtain ⟨l', a', h2, h3⟩ := ih l (row + 1) hl (by omega) (by omega) (by omega)
      refine ⟨l', a', h2, Ev.step (f := fun k => (spec_l05At.f k s row).bind fun t => if 0 ≤ t then if t < (l.length : Int) then if rd l t < 15 then spec_CountKey.l0 k s (row + 1) (l.set t.toNat (wrap64 (rd l t + 1))) a else spec_CountKey.l0 k s (row + 1) l a else none else none) (fun k => ?_) (Ev.bind (spec_at s hs row h0 (by omega)) ?_)⟩
      · simp only [spec_CountKey.l0]
        rw [if_pos (by omega), ew.out]
      · simp only [if_pos hat.1, if_pos (show atOf s row < (l.length : Int) by omega), if_neg h]
        exact h3
theorem count_key (s : ByteArray) (hs : s.size ≤ 140737488355328) (l : List Int) (a : Int) (h : skOk l a = true) : ∃ l' a', skOk l' a' = true ∧ Ev (fun k => spec_CountKey.f k l a s) (l', a') := by
  obtain ⟨hl, ha⟩ := sk_iff.1 h
  have hlen := hl.1
  obtain ⟨l', a', h1, h2⟩ := count_rows s hs a ha 3 l 0 hl (by omega) (by omega) rfl
  have hs := spec_skok l a (by omega)
  rw [h] at hs
  refine ⟨l', a', h1, ?_⟩
  unfold spec_CountKey.f spec_l05Copy.f
  simp only [Option.bind_some, List.nil_append, if_pos (show ([] : List Int).length + l.length < 17592186044416 by simp; omega)]
  refine Ev.bind hs ?_
  simp only [if_true]
  exact h2
theorem draw_sketch_loop (b : List Int) (d : Nat) : ∀ (l : List Int) (a : Int) (i : Nat) (ci h : Int), 60 - i = d → i ≤ 60 → skOk l a = true → CurOk b ci → ∃ l' a' ci' h', skOk l' a' = true ∧ CurOk b ci' ∧ Ev (fun k => spec_l05Sketch.l0 k (i : Int) b ci h l a) (l', a', ci', h') := by
  have last : ∀ (l : List Int) (a : Int) (i : Nat) (ci h n : Int) (ci1 h1 : Int), skOk l a = true → CurOk b ci1 → spec_l01Below.f b ci h 60 = some (n, ci1, h1) → ¬ (i : Int) < n → ∃ l' a' ci' h', skOk l' a' = true ∧ CurOk b ci' ∧ Ev (fun k => spec_l05Sketch.l0 k (i : Int) b ci h l a) (l', a', ci', h') := by
    intro l a i ci h n ci1 h1 hok hc1 e hn
    obtain ⟨x, ci2, h2, e2, hc2⟩ := cur_once b ci1 h1 4 (by omega) hc1
    cases x with
    | true =>
      obtain ⟨y, ci3, h3, e3, hm, hc3⟩ := cur_pickint b ci2 h2 [0, 98, 99] (by decide) (by decide) hc2
      refine ⟨l, y, ci3, h3, ?_, hc3, Ev.step (f := fun _ => some (l, y, ci3, h3)) (fun k => ?_) (Ev.now _)⟩
      · refine sk_iff.2 ⟨(sk_iff.1 hok).1, ?_⟩
        simp only [List.mem_cons, List.not_mem_nil, or_false] at hm
        omega
      · simp only [spec_l05Sketch.l0, e, Option.bind_some, if_neg hn, e2, if_true, e3]
    | false =>
      refine ⟨l, a, ci2, h2, hok, hc2, Ev.step (f := fun _ => some (l, a, ci2, h2)) (fun k => ?_) (Ev.now _)⟩
      simp only [spec_l05Sketch.l0, e, Option.bind_some, if_neg hn, e2, Bool.false_eq_true, if_false]
  induction d with
  | zero =>
    intro l a i ci h hd hi hok hc
    obtain ⟨n, ci1, h1, e, n0, n1, hc1⟩ := cur_below b ci h 60 (by omega) hc
    exact last l a i ci h n ci1 h1 hok hc1 e (by omega)
  | succ d ih =>
    intro l a i ci h hd hi hok hc
    obtain ⟨n, ci1, h1, e, n0, n1, hc1⟩ := cur_below b ci h 60 (by omega) hc
    by_cases hn : (i : Int) < n
    · obtain ⟨s, ci2, h2, e2, hm, hc2⟩ := cur_key b ci1 h1 hc1
      obtain ⟨l1, a1, hok1, hE⟩ := count_key s (by have := (keys12_size s hm).2; omega) l a hok
      obtain ⟨l', a', ci', h', hok', hc', hE'⟩ := ih l1 a1 (i + 1) ci2 h2 (by omega) (by omega) hok1 hc2
      have e3 : wrap64 ((i : Int) + 1) = ((i + 1 : Nat) : Int) := by rw [wrap64_id (by omega) (by omega)]; omega
      refine ⟨l', a', ci', h', hok', hc', Ev.step (f := fun k => (spec_CountKey.f k l a s).bind fun bt => spec_l05Sketch.l0 k ((i + 1 : Nat) : Int) b ci2 h2 bt.1 bt.2) (fun k => ?_) (Ev.bind hE hE')⟩
      simp only [spec_l05Sketch.l0, e, Option.bind_some, if_pos hn, e2, e3]
    · exact last l a i ci h n ci1 h1 hok hc1 e hn
theorem draw_sketch (l : List Int) (hl : l.length ≤ 140737488355328) : ∃ x a s, skOk x a = true ∧ s ∈ keys12 ∧ Ev (fun k => spec_DrawRightSketch.f k l) (x, a, s) := by
  obtain ⟨h, e0⟩ := cur_new l hl
  have h0 : skOk (List.replicate 48 0) 0 = true := by
    refine sk_iff.2 ⟨⟨by simp, fun j hj => ?_⟩, by omega, by omega⟩
    have hj' : j < 48 := by simpa using hj
    rw [List.getD_eq_getElem?_getD, List.getElem?_replicate, if_pos hj']
    decide
  obtain ⟨x, a, ci, h1, hok, hc, hE⟩ := draw_sketch_loop l 60 (List.replicate 48 0) 0 0 0 h rfl (by omega) h0 ⟨by omega, by omega, hl⟩
  obtain ⟨s, ci2, h2, e2, hm, _⟩ := cur_key l ci h1 hc
  refine ⟨x, a, s, hok, hm, ?_⟩
  unfold spec_DrawRightSketch.f spec_l05Sketch.f spec_SketchNew.f
  simp only [Option.bind_some, if_pos (show 48 ≤ 35184372088832 by decide)]
  refine Ev.bind e0 (Ev.bind hE ?_)
  simp only [e2, Option.bind_some]
  exact Ev.now _

theorem impl_in (a b c : Int) : impl_inRange.f a b c = some (decide (b ≤ a ∧ a ≤ c)) := by
  unfold impl_inRange.f
  by_cases h : a ≥ b
  · rw [if_pos h]
    simp [h]
  · rw [if_neg h]
    have : ¬ (b ≤ a ∧ a ≤ c) := fun z => h z.1
    simp [this]

theorem impl_skok_loop (l : List Int) (a : Int) (hl : l.length ≤ 1048576) (d : Nat) : ∀ (i : Nat), l.length - i = d →
    Ev (fun k => impl_SketchOk.l0 k l (l.length : Int) (i : Int) l a) (tr (l.length = 48 ∧ (0 ≤ a ∧ a ≤ 99) ∧ ∀ j, i ≤ j → j < l.length → 0 ≤ l.getD j 0 ∧ l.getD j 0 ≤ 15)) := by
  induction d with
  | zero =>
    intro i hd
    by_cases h : (l.length : Int) = 48
    · have e : tr (l.length = 48 ∧ (0 ≤ a ∧ a ≤ 99) ∧ ∀ j, i ≤ j → j < l.length → 0 ≤ l.getD j 0 ∧ l.getD j 0 ≤ 15) = decide (0 ≤ a ∧ a ≤ 99) := by
        rw [tr_dec]; exact tr_congr ⟨fun z => z.2.1, fun z => ⟨by omega, z, fun j h1 h2 => by omega⟩⟩
      rw [e]
      refine Ev.step (f := fun _ => some (decide (0 ≤ a ∧ a ≤ 99))) (fun k => ?_) (Ev.now _)
      simp only [impl_SketchOk.l0]
      rw [if_neg (by omega), if_pos h, impl_in, Option.bind_some]
    · rw [tr_false (fun z => h (by have := z.1; omega))]
      refine Ev.step (f := fun _ => some false) (fun k => ?_) (Ev.now _)
      simp only [impl_SketchOk.l0]
      rw [if_neg (by omega), if_neg h]
  | succ d ih =>
    intro i hd
    have hlt : i < l.length := by omega
    have hall := all_from (P := fun j => 0 ≤ l.getD j 0 ∧ l.getD j 0 ≤ 15) hlt
    have er : rd l (i : Int) = l.getD i 0 := rfl
    by_cases h : 0 ≤ l.getD i 0 ∧ l.getD i 0 ≤ 15
    · have e : tr (l.length = 48 ∧ (0 ≤ a ∧ a ≤ 99) ∧ ∀ j, i ≤ j → j < l.length → 0 ≤ l.getD j 0 ∧ l.getD j 0 ≤ 15) = tr (l.length = 48 ∧ (0 ≤ a ∧ a ≤ 99) ∧ ∀ j, i + 1 ≤ j → j < l.length → 0 ≤ l.getD j 0 ∧ l.getD j 0 ≤ 15) :=
        tr_congr ⟨fun z => ⟨z.1, z.2.1, (hall.1 z.2.2).2⟩, fun z => ⟨z.1, z.2.1, hall.2 ⟨h, z.2.2⟩⟩⟩
      rw [e]
      refine Ev.step (fun k => ?_) (ih (i + 1) (by omega))
      simp only [impl_SketchOk.l0]
      rw [if_pos (by omega), if_pos (by omega), if_pos (by omega), impl_in, er, decide_eq_true h, Option.bind_some, if_pos rfl, wrap64_id (by omega) (by omega)]
      rfl
    · rw [tr_false (fun z => h (hall.1 z.2.2).1)]
      refine Ev.step (f := fun _ => some false) (fun k => ?_) (Ev.now _)
      simp only [impl_SketchOk.l0]
      rw [if_pos (by omega), if_pos (by omega), if_pos (by omega), impl_in, er, decide_eq_false h, Option.bind_some, if_neg (by simp)]
theorem impl_skok (l : List Int) (a : Int) (hl : l.length ≤ 1048576) : Ev (fun k => impl_SketchOk.f k l a) (skOk l a) := impl_skok_loop l a hl _ 0 rfl

theorem at_range (s : ByteArray) (row : Int) (h0 : 0 ≤ row) (h1 : row ≤ 2) : 0 ≤ atOf s row ∧ atOf s row < 48 := by
  unfold atOf
  omega
def guess (l : List Int) (s : ByteArray) : Int := min (min (min 15 (rd l (atOf s 0))) (rd l (atOf s 1))) (rd l (atOf s 2))
theorem impl_guess_loop (l : List Int) (a : Int) (s : ByteArray) (hs : s.size ≤ 140737488355328) (hl : l.length = 48) : Ev (fun k => impl_GuessKey.l0 k s 15 0 l a) (guess l s) := by
  have step : ∀ (least row r : Int), 0 ≤ row → row ≤ 2 → Ev (fun k => impl_GuessKey.l0 k s (min least (rd l (atOf s row))) (row + 1) l a) r → Ev (fun k => impl_GuessKey.l0 k s least row l a) r := by
    intro least row r h0 h1 h
    obtain ⟨a0, a1⟩ := at_range s row h0 h1
    have em : mn least (rd l (atOf s row)) = min least (rd l (atOf s row)) := by unfold mn; omega
    refine Ev.step (f := fun k => (impl_countAt.f k s row).bind fun t139 => (if 0 ≤ t139 then (if t139 < (l.length : Int) then (impl_GuessKey.l0 k s (mn least (rd l t139)) (row + 1) l a) else (none)) else (none))) (fun k => ?_) (Ev.bind (impl_at s hs row h0 h1) ?_)
    · simp only [impl_GuessKey.l0]
      rw [if_pos (by omega), wrap64_id (x := row + 1) (by omega) (by omega)]
    · simp only [if_pos a0, if_pos (show atOf s row < (l.length : Int) by omega), em]
      exact h
  refine step 15 0 _ (by omega) (by omega) (step _ 1 _ (by omega) (by omega) (step _ 2 _ (by omega) (by omega) ?_))
  refine Ev.step (f := fun _ => some (guess l s)) (fun k => ?_) (Ev.now _)
  simp only [impl_GuessKey.l0]
  rw [if_neg (by omega)]
  rfl
theorem spec_guess_loop (l : List Int) (a : Int) (s : ByteArray) (hs : s.size ≤ 140737488355328) (hl : l.length = 48) : Ev (fun k => spec_GuessKey.l0 k s 15 0 l a) (guess l s) := by
  have step : ∀ (least row r : Int), 0 ≤ row → row ≤ 2 → Ev (fun k => spec_GuessKey.l0 k s (min least (rd l (atOf s row))) (row + 1) l a) r → Ev (fun k => spec_GuessKey.l0 k s least row l a) r := by
    intro least row r h0 h1 h
    obtain ⟨a0, a1⟩ := at_range s row h0 h1
    refine Ev.step (f := fun k => (spec_l05At.f k s row).bind fun t128 => (if 0 ≤ t128 then (if t128 < (l.length : Int) then (if (rd l t128) < least then ((spec_l05At.f k s row).bind fun t130 => (if 0 ≤ t130 then (if t130 < (l.length : Int) then (spec_GuessKey.l0 k s (rd l t130) (row + 1) l a) else (none)) else (none))) else (spec_GuessKey.l0 k s least (row + 1) l a)) else (none)) else (none))) (fun k => ?_) (Ev.bind (spec_at s hs row h0 h1) ?_)
    · simp only [spec_GuessKey.l0]
      rw [if_pos (by omega), wrap64_id (x := row + 1) (by omega) (by omega)]
    · simp only [if_pos a0, if_pos (show atOf s row < (l.length : Int) by omega)]
      by_cases hlt : rd l (atOf s row) < least
      · simp only [if_pos hlt]
        refine Ev.bind (spec_at s hs row h0 h1) ?_
        simp only [if_pos a0, if_pos (show atOf s row < (l.length : Int) by omega)]
        rw [show min least (rd l (atOf s row)) = rd l (atOf s row) by omega] at h
        exact h
      · simp only [if_neg hlt]
        rw [show min least (rd l (atOf s row)) = least by omega] at h
        exact h
  refine step 15 0 _ (by omega) (by omega) (step _ 1 _ (by omega) (by omega) (step _ 2 _ (by omega) (by omega) ?_))
  refine Ev.step (f := fun _ => some (guess l s)) (fun k => ?_) (Ev.now _)
  simp only [spec_GuessKey.l0]
  rw [if_neg (by omega)]
  rfl

noncomputable def guessKey (l : List Int) (a : Int) (s : ByteArray) : Int := if skOk l a = true then guess l s else 0
theorem skOk_length {l : List Int} {a : Int} (h : skOk l a = true) : l.length = 48 := (tr_iff.1 h).1
theorem impl_guesskey (l : List Int) (a : Int) (s : ByteArray) (hl : l.length ≤ 1048576) (hs : s.size ≤ 140737488355328) : Ev (fun k => impl_GuessKey.f k l a s) (guessKey l a s) := by
  unfold impl_GuessKey.f guessKey
  refine Ev.bind (impl_skok l a hl) ?_
  by_cases h : skOk l a = true
  · simp only [if_pos h]
    exact impl_guess_loop l a s hs (skOk_length h)
  · simp only [if_neg h]
    exact Ev.now _
theorem spec_guesskey (l : List Int) (a : Int) (s : ByteArray) (hl : l.length ≤ 1048576) (hs : s.size ≤ 140737488355328) : Ev (fun k => spec_GuessKey.f k l a s) (guessKey l a s) := by
  unfold spec_GuessKey.f guessKey
  refine Ev.bind (spec_skok l a hl) ?_
  by_cases h : skOk l a = true
  · simp only [if_pos h]
    exact spec_guess_loop l a s hs (skOk_length h)
  · simp only [if_neg h]
    exact Ev.now _

/-! ### all halved -/
def half2 (x : Int) : Int := wrap64 (Int.tdiv x 2)
theorem drop_getD_eq {x l : List Int} {i : Nat} (h : x.drop i = l.drop i) : x.getD i 0 = l.getD i 0 := by
  have e : ∀ y : List Int, y[i]? = (y.drop i)[0]? := fun y => by rw [List.getElem?_drop, Nat.add_zero]
  rw [List.getD_eq_getElem?_getD, List.getD_eq_getElem?_getD, e x, e l, h]
theorem half_getD (l : List Int) (i : Nat) (h : i < l.length) : (l.map half2).getD i 0 = half2 (l.getD i 0) := by
  simp [List.getD_eq_getElem?_getD, List.getElem?_eq_getElem h]
theorem half_set {x l : List Int} {i : Nat} (hi : i < l.length) (hx : x.length = l.length) (ht : x.take i = (l.map half2).take i) (hd : x.drop i = l.drop i) :
    (x.set i (half2 (x.getD i 0))).length = l.length ∧ (x.set i (half2 (x.getD i 0))).take (i + 1) = (l.map half2).take (i + 1) ∧ (x.set i (half2 (x.getD i 0))).drop (i + 1) = l.drop (i + 1) := by
  have hg := drop_getD_eq hd
  refine ⟨by simpa using hx, ?_, ?_⟩
  · rw [hg, ← half_getD l i hi]
    exact set_take (l.map half2) x 0 i (by simpa using hi) (by simpa using hx) ht
  · rw [List.drop_set_of_lt (by omega), ← List.drop_drop, ← List.drop_drop, hd]
theorem impl_halve_loop (l : List Int) (a : Int) (hl : l.length ≤ 1048576) (d : Nat) : ∀ (x : List Int) (i : Nat), l.length - i = d → i ≤ l.length → x.length = l.length → x.take i = (l.map half2).take i → x.drop i = l.drop i → Ev (fun k => impl_Sketch_halve.l0 k (l.length : Int) (i : Int) x a) (l.map half2) := by
  induction d with
  | zero =>
    intro x i hd hi hx ht hdr
    have e : x = l.map half2 := take_all (by simpa using hx) (by rw [List.length_map, show l.length = i by omega]; exact ht)
    refine Ev.step (f := fun _ => some x) (fun k => ?_) (by rw [e]; exact Ev.now _)
    simp only [impl_Sketch_halve.l0]
    rw [if_neg (by omega)]
  | succ d ih =>
    intro x i hd hi hx ht hdr
    have e3 : Aside0 (wrap64 ((i : Int) + 1) = ((i + 1 : Nat) : Int)) := ⟨by rw [wrap64_id (by omega) (by omega)]; omega⟩
    obtain ⟨h1, h2, h3⟩ := half_set (i := i) (by omega) hx ht hdr
    refine Ev.step (fun k => ?_) (ih _ (i + 1) (by omega) (by omega) h1 h2 h3)
    simp only [impl_Sketch_halve.l0]
    rw [if_pos (by omega), if_pos (by omega), if_pos (by omega), e3.out]
    rfl
theorem impl_halve (l : List Int) (a : Int) (hl : l.length ≤ 1048576) : Ev (fun k => impl_Sketch_halve.f k l a) (l.map half2) := by
  unfold impl_Sketch_halve.f
  exact impl_halve_loop l a hl _ l 0 rfl (Nat.zero_le _) rfl (by simp) rfl
noncomputable def halvesV (l : List Int) (a : Int) : List Int × Int := if skOk l a = true then (l.map half2, a) else (l, a)
theorem impl_clone_ints (l : List Int) (h : l.length ≤ 1048576) : slices_Clone_int_int.f l = some l := by
  unfold slices_Clone_int_int.f
  rw [Option.bind_some, if_pos (by simp; omega), List.nil_append]
theorem impl_HalveAll_ev (l : List Int) (a : Int) (hl : l.length ≤ 1048576) : Ev (fun k => impl_HalveAll.f k l a) (halvesV l a) := by
  unfold impl_HalveAll.f impl_copySketch.f halvesV
  simp only [impl_clone_ints l hl, Option.bind_some]
  refine Ev.bind (impl_skok l a hl) ?_
  cases skOk l a
  · exact Ev.now _
  · simp only [if_true]
    exact Ev.bind (impl_halve l a hl) (Ev.now _)

theorem half_guess (l : List Int) (s : ByteArray) (h : SkIn l) : guess (l.map half2) s = wrap64 (Int.tdiv (guess l s) 2) := by
  have hr : ∀ row, 0 ≤ row → row ≤ 2 → rd (l.map half2) (atOf s row) = rd l (atOf s row) / 2 ∧ 0 ≤ rd l (atOf s row) ∧ rd l (atOf s row) ≤ 15 := by
    intro row h0 h1
    obtain ⟨a0, a1⟩ := at_range s row h0 h1
    have hlen := h.1
    obtain ⟨r0, r1⟩ := h.2 (atOf s row).toNat (by omega)
    refine ⟨?_, r0, r1⟩
    show (l.map half2).getD _ 0 = l.getD _ 0 / 2
    rw [half_getD l _ (by omega)]
    exact half_small r0 r1
  obtain ⟨e0, p0, q0⟩ := hr 0 (by omega) (by omega)
  obtain ⟨e1, p1, q1⟩ := hr 1 (by omega) (by omega)
  obtain ⟨e2, p2, q2⟩ := hr 2 (by omega) (by omega)
  unfold guess
  rw [e0, e1, e2]
  generalize rd l (atOf s 0) = x at *
  generalize rd l (atOf s 1) = y at *
  generalize rd l (atOf s 2) = z at *
  rw [half_small (by omega) (by omega)]
  omega
theorem half_ok (l : List Int) (a : Int) (h : skOk l a = true) : skOk (l.map half2) a = true := by
  obtain ⟨hl, ha⟩ := sk_iff.1 h
  refine sk_iff.2 ⟨⟨by simpa using hl.1, fun j hj => ?_⟩, ha⟩
  have hj' : j < l.length := by simpa using hj
  obtain ⟨r0, r1⟩ := hl.2 j hj'
  rw [half_getD l j hj', half2, half_small r0 r1]
  omega
theorem halves_loop (ns : List ByteArray) (hn : ns.length ≤ 1000) (hs : ∀ s ∈ ns, s.size ≤ 3) (l : List Int) (a : Int) (h : skOk l a = true) (d : Nat) : ∀ i : Nat, ns.length - i = d → Ev (fun k => laws_FnHalves.l0 k ns (i : Int) l a (l.map half2) a) true := by
  have hl := (sk_iff.1 h).1
  have hlen := hl.1
  have ho := half_ok l a h
  induction d with
  | zero =>
    intro i hd
    have hI := impl_skok (l.map half2) a (by simp; omega)
    rw [ho] at hI
    refine Ev.step (f := fun k => (impl_SketchOk.f k (l.map half2) a).bind fun t => if t = true then (some (((l.map half2).length : Int) == (l.length : Int))) else some false) (fun k => ?_) (Ev.bind hI ?_)
    · simp only [laws_FnHalves.l0]
      rw [if_neg (by omega)]
      simp only [if_true]
    · simp only [if_true, List.length_map, beq_self_eq_true]
      exact Ev.now _
  | succ d ih =>
    intro i hd
    have hm : ns.getD i ByteArray.empty ∈ ns := getD_mem ns _ i (by omega)
    have h3 := hs _ hm
    have er : rdOf ByteArray.empty ns (i : Int) = ns.getD i ByteArray.empty := rfl
    have ew : Aside0 (wrap64 ((i : Int) + 1) = ((i + 1 : Nat) : Int)) := ⟨by rw [wrap64_id (by omega) (by omega)]; omega⟩
    have hI := impl_guesskey (l.map half2) a (ns.getD i ByteArray.empty) (by simp; omega) (by omega)
    have hS := spec_guesskey l a (ns.getD i ByteArray.empty) (by omega) (by omega)
    unfold guessKey at hI hS
    rw [if_pos ho] at hI
    rw [if_pos h] at hS
    rw [half_guess l _ hl] at hI
    refine Ev.step (f := fun k => (impl_GuessKey.f k (l.map half2) a (ns.getD i ByteArray.empty)).bind fun t => (spec_GuessKey.f k l a (ns.getD i ByteArray.empty)).bind fun u => if t = wrap64 (Int.tdiv u 2) then laws_FnHalves.l0 k ns ((i + 1 : Nat) : Int) l a (l.map half2) a else some false) (fun k => ?_) (Ev.bind hI (Ev.bind hS ?_))
    · simp only [laws_FnHalves.l0]
      rw [if_pos (by omega), if_pos (by omega), er, ew.out]
    · simp only [if_true]
      exact ih (i + 1) (by omega)
theorem FnHalves : laws_FnHalves.Pure := by
  intro l hl hl1 hw
  refine Ev.rounds ?_
  unfold laws_FnHalves.f laws_big.f
  simp only [Option.bind_some]
  by_cases hb : (l.length : Int) > 1048576
  · simp only [decide_eq_true hb, if_true]
    exact Ev.now _
  · simp only [decide_eq_false hb, Bool.false_eq_true, if_false]
    obtain ⟨x, a, s, hok, _, hE⟩ := draw_sketch l (by omega)
    have hI := impl_HalveAll_ev x a (by have := (sk_iff.1 hok).1.1; omega)
    unfold halvesV at hI
    rw [if_pos hok] at hI
    refine Ev.bind hE (Ev.bind hI ?_)
    unfold laws_names.f
    simp only [Option.bind_some]
    exact halves_loop keys12 (by decide) (fun s hs => (keys12_size s hs).2) x a hok _ 0 rfl

end Go.Proofs.Ytomcapflpephmaa.Pure
