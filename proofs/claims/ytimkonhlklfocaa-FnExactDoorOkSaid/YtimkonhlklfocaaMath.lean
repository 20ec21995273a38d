/- Plain arithmetic for the words and sums: bytes of a text one by one, exclusive or, the check sum's and the hash's steps. No program in sight. -/
import Derived.Test.YtimkonhlklfocaaWWords
import Derived.Laws.BitsLemmas
import Derived.Laws.BytesArg
set_option linter.unusedSimpArgs false
set_option linter.unusedVariables false
namespace Go.Proofs.Ytimkonhlklfocaa.Math
open Go.RowKit Go.Proofs.YtimkonhlklfocaaW.PrintWords

theorem wrap64_id {x : Int} (h0 : -9223372036854775808 ≤ x) (h1 : x ≤ 9223372036854775807) : wrap64 x = x := by
  unfold wrap64
  omega

theorem u32_range {n : Int} (h : (Lit.int .u32 n).wf = true) : 0 ≤ n ∧ n < 4294967296 := by
  simp [Lit.wf, IntKind.min, IntKind.max, IntKind.signed, IntKind.bits] at h
  omega
theorem i64_range {n : Int} (h : (Lit.int .i64 n).wf = true) : -9223372036854775808 ≤ n ∧ n ≤ 9223372036854775807 := by
  simp [Lit.wf, IntKind.min, IntKind.max, IntKind.signed, IntKind.bits] at h
  omega

theorem drop_bt (s : ByteArray) (i : Nat) (h : i < s.size) : ∃ c : UInt8, s.data.toList.drop i = c :: s.data.toList.drop (i + 1) ∧ bt s (i : Int) = (c.toNat : Int) := by
  have hl : i < s.data.toList.length := by simpa using h
  refine ⟨s.data.toList[i], List.drop_eq_getElem_cons hl, ?_⟩
  unfold bt
  rw [dif_pos (by simpa using h)]
  rfl

theorem bits_xor_nat (a b : Nat) (ha : a < 4294967296) (hb : b < 4294967296) : Go.bits .xor .u32 (a : Int) (b : Int) = ((a ^^^ b : Nat) : Int) := by
  have ha' : a % 2 ^ IntKind.u32.bits = a := Nat.mod_eq_of_lt ha
  have hb' : b % 2 ^ IntKind.u32.bits = b := Nat.mod_eq_of_lt hb
  have hx : a ^^^ b < 2 ^ 32 := Nat.xor_lt_two_pow (by simpa using ha) (by simpa using hb)
  simp only [Go.bits, BitVec.ofInt_natCast, BitVec.toNat_xor, BitVec.toNat_ofNat, ha', hb']
  rw [IntKind.wrap_u32]
  have hx' : a ^^^ b < 4294967296 := by simpa using hx
  omega

theorem bits_xor_range (a b : Int) : 0 ≤ Go.bits .xor .u32 a b ∧ Go.bits .xor .u32 a b < 4294967296 := by
  simp only [Go.bits]
  rw [IntKind.wrap_u32]
  omega

theorem bits_and_one (x : Int) (h0 : 0 ≤ x) (h1 : x < 4294967296) : Go.bits .and .u32 x 1 = x % 2 := by
  have := bits_mask .u32 32 (by decide) (fun n h0 h1 => by rw [IntKind.wrap_u32]; omega) 1 (by decide) x h0 (by simpa using h1)
  simpa using this

/-! ### the check sum -/
def half (x : Int) : Int := if x % 2 = 1 then Go.bits .xor .u32 (x / 2) 3558460437 else x / 2
theorem half_range {x : Int} (h0 : 0 ≤ x) (h1 : x < 4294967296) : 0 ≤ half x ∧ half x < 4294967296 := by
  unfold half
  split
  · exact bits_xor_range _ _
  · omega
def halves : Nat → Int → Int
  | 0, x => x
  | n + 1, x => halves n (half x)
theorem halves_range (n : Nat) : ∀ {x : Int}, 0 ≤ x → x < 4294967296 → 0 ≤ halves n x ∧ halves n x < 4294967296 := by
  induction n with
  | zero => intro x h0 h1; exact ⟨h0, h1⟩
  | succ n ih => intro x h0 h1; obtain ⟨a, b⟩ := half_range h0 h1; exact ih a b
def sumByte (x : Int) (c : UInt8) : Int := halves 8 (Go.bits .xor .u32 x (c.toNat : Int))
theorem sumByte_range (x : Int) (c : UInt8) : 0 ≤ sumByte x c ∧ sumByte x c < 4294967296 := by
  obtain ⟨a, b⟩ := bits_xor_range x (c.toNat : Int)
  exact halves_range 8 a b
def sumL (l : List UInt8) (x : Int) : Int := l.foldl sumByte x
theorem sumL_range (l : List UInt8) : ∀ {x : Int}, 0 ≤ x → x < 4294967296 → 0 ≤ sumL l x ∧ sumL l x < 4294967296 := by
  induction l with
  | nil => intro x h0 h1; exact ⟨h0, h1⟩
  | cons c l ih => intro x h0 h1; obtain ⟨a, b⟩ := sumByte_range x c; exact ih a b

/-! ### the hash -/
def hashByte (h : Int) (c : UInt8) : Int := (Go.bits .xor .u32 h (c.toNat : Int)) * 16777619 % 4294967296
theorem hashByte_range (h : Int) (c : UInt8) : 0 ≤ hashByte h c ∧ hashByte h c < 4294967296 := by
  unfold hashByte
  omega
def hashL (l : List UInt8) (h : Int) : Int := l.foldl hashByte h
theorem hashL_range (l : List UInt8) : ∀ {x : Int}, 0 ≤ x → x < 4294967296 → 0 ≤ hashL l x ∧ hashL l x < 4294967296 := by
  induction l with
  | nil => intro x h0 h1; exact ⟨h0, h1⟩
  | cons c l ih => intro x h0 h1; obtain ⟨a, b⟩ := hashByte_range x c; exact ih a b
def clampSeed (seed : Int) : Int := if seed < 0 then 0 else if seed > 1000000000 then 1000000000 else seed
theorem clampSeed_range (seed : Int) : 0 ≤ clampSeed seed ∧ clampSeed seed ≤ 1000000000 := by
  unfold clampSeed
  split
  · omega
  · split <;> omega
def fold16 (h : Int) : Int := Go.bits .xor .u32 h (h / 65536)
def hashOf (s : ByteArray) (seed : Int) : Int := fold16 (hashL s.data.toList (2166136261 + clampSeed seed))
theorem hashOf_range (s : ByteArray) (seed : Int) : 0 ≤ hashOf s seed ∧ hashOf s seed < 4294967296 := bits_xor_range _ _

/-- Exclusive or, bit by bit from the lowest on. -/
theorem xor_step (a b : Nat) : a ^^^ b = (a % 2 + b % 2) % 2 + 2 * ((a / 2) ^^^ (b / 2)) := by
  have h1 : (a ^^^ b) / 2 = (a / 2) ^^^ (b / 2) := by simpa using Nat.xor_div_two_pow (a := a) (b := b) (n := 1)
  have h2 : (a ^^^ b) % 2 = (a % 2 + b % 2) % 2 := by
    have h3 := Nat.xor_mod_two_pow (a := a) (b := b) (n := 1)
    simp only [Nat.pow_one] at h3
    rw [h3]
    rcases Nat.mod_two_eq_zero_or_one a with ha | ha <;> rcases Nat.mod_two_eq_zero_or_one b with hb | hb <;> rw [ha, hb] <;> rfl
  omega

/-! ### a number in bytes -/
def varL : Nat → Int → List Int
  | 0, n => [n % 256]
  | d + 1, n => if n > 127 then (n % 128 + 128) :: varL d (n / 128) else [n % 256]
def var (n : Int) : ByteArray := strOfNums (varL 9 n)

end Go.Proofs.Ytimkonhlklfocaa.Math
