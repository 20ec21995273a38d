/- Plain arithmetic for the words and sums: bytes of a text one by one, exclusive or, the check sum's and the hash's steps. No program in sight. -/
import Derived.Test.YtcoboobnpmaahaaWWords
import Derived.Laws.BitsLemmas
import Derived.Laws.BytesArg
import Derived.Lib.Strings
set_option linter.unusedSimpArgs false
set_option linter.unusedVariables false
namespace Go.Proofs.Ytcoboobnpmaahaa.Math
open Go Go.RowKit Go.Proofs.YtcoboobnpmaahaaW.PrintWords

theorem wrap64_id {x : Int} (h0 : -9223372036854775808 ≤ x) (h1 : x ≤ 9223372036854775807) : wrap64 x = x := by
  unfold wrap64
  omega

theorem u32_range {n : Int} (h : (Lit.int .u32 n).wf = true) : 0 ≤ n ∧ n < 4294967296 := by
  simp [Lit.wf, IntKind.min, IntKind.max, IntKind.signed, IntKind.bits] at h
  omega
theorem i64_range {n : Int} (h : (Lit.int .i64 n).wf = true) : -9223372036854775808 ≤ n ∧ n ≤ 9223372036854775807 := by
  simp [Lit.wf, IntKind.min, IntKind.max, IntKind.signed, IntKind.bits] at h
  omega

theorem drop_bt (s : ByteArray) (i : Nat) (h : i < s.size) : ∃ c : UInt8, s.data.toList.drop i = c :: s.data.toList.drop (i + 1) ∧ bt s (i : Int) = (c.toNat : Int) := by
  have hl : i < s.data.toList.length := by simpa using h
  refine ⟨s.data.toList[i], List.drop_eq_getElem_cons hl, ?_⟩
  unfold bt
  rw [dif_pos (by simpa using h)]
  rfl

theorem bits_xor_nat (a b : Nat) (ha : a < 4294967296) (hb : b < 4294967296) : Go.bits .xor .u32 (a : Int) (b : Int) = ((a ^^^ b : Nat) : Int) := by
  have ha' : a % 2 ^ IntKind.u32.bits = a := Nat.mod_eq_of_lt ha
  have hb' : b % 2 ^ IntKind.u32.bits = b := Nat.mod_eq_of_lt hb
  have hx : a ^^^ b < 2 ^ 32 := Nat.xor_lt_two_pow (by simpa using ha) (by simpa using hb)
  simp only [Go.bits, BitVec.ofInt_natCast, BitVec.toNat_xor, BitVec.toNat_ofNat, ha', hb']
  rw [IntKind.wrap_u32]
  have hx' : a ^^^ b < 4294967296 := by simpa using hx
  omega

theorem bits_xor_range (a b : Int) : 0 ≤ Go.bits .xor .u32 a b ∧ Go.bits .xor .u32 a b < 4294967296 := by
  simp only [Go.bits]
  rw [IntKind.wrap_u32]
  omega

theorem bits_and_one (x : Int) (h0 : 0 ≤ x) (h1 : x < 4294967296) : Go.bits .and .u32 x 1 = x % 2 := by
  have := bits_mask .u32 32 (by decide) (fun n h0 h1 => by rw [IntKind.wrap_u32]; omega) 1 (by decide) x h0 (by simpa using h1)
  simpa using this

theorem bits_and_255 (y : Int) : 0 ≤ Go.bits .and .i64 y 255 ∧ Go.bits .and .i64 y 255 ≤ 255 := by
  have h : (BitVec.ofInt IntKind.i64.bits y &&& BitVec.ofInt IntKind.i64.bits 255).toNat ≤ 255 := by
    rw [BitVec.toNat_and]
    exact Nat.and_le_right
  simp only [Go.bits]
  generalize (BitVec.ofInt IntKind.i64.bits y &&& BitVec.ofInt IntKind.i64.bits 255).toNat = n at h
  rw [IntKind.wrap_i64]
  omega

/-! ### the check sum -/
def half (x : Int) : Int := if x % 2 = 1 then Go.bits .xor .u32 (x / 2) 3558460437 else x / 2
theorem half_range {x : Int} (h0 : 0 ≤ x) (h1 : x < 4294967296) : 0 ≤ half x ∧ half x < 4294967296 := by
  unfold half
  split
  · exact bits_xor_range _ _
  · omega
def halves : Nat → Int → Int
  | 0, x => x
  | n + 1, x => halves n (half x)
theorem halves_range (n : Nat) : ∀ {x : Int}, 0 ≤ x → x < 4294967296 → 0 ≤ halves n x ∧ halves n x < 4294967296 := by
  induction n with
  | zero => intro x h0 h1; exact ⟨h0, h1⟩
  | succ n ih => intro x h0 h1; obtain ⟨a, b⟩ := half_range h0 h1; exact ih a b
def sumByte (x : Int) (c : UInt8) : Int := halves 8 (Go.bits .xor .u32 x (c.toNat : Int))
theorem sumByte_range (x : Int) (c : UInt8) : 0 ≤ sumByte x c ∧ sumByte x c < 4294967296 := by
  obtain ⟨a, b⟩ := bits_xor_range x (c.toNat : Int)
  exact halves_range 8 a b
def sumL (l : List UInt8) (x : Int) : Int := l.foldl sumByte x
theorem sumL_range (l : List UInt8) : ∀ {x : Int}, 0 ≤ x → x < 4294967296 → 0 ≤ sumL l x ∧ sumL l x < 4294967296 := by
  induction l with
  | nil => intro x h0 h1; exact ⟨h0, h1⟩
  | cons c l ih => intro x h0 h1; obtain ⟨a, b⟩ := sumByte_range x c; exact ih a b

/-! ### the hash -/
def hashByte (h : Int) (c : UInt8) : Int := (Go.bits .xor .u32 h (c.toNat : Int)) * 16777619 % 4294967296
theorem hashByte_range (h : Int) (c : UInt8) : 0 ≤ hashByte h c ∧ hashByte h c < 4294967296 := by
  unfold hashByte
  omega
def hashL (l : List UInt8) (h : Int) : Int := l.foldl hashByte h
theorem hashL_range (l : List UInt8) : ∀ {x : Int}, 0 ≤ x → x < 4294967296 → 0 ≤ hashL l x ∧ hashL l x < 4294967296 := by
  induction l with
  | nil => intro x h0 h1; exact ⟨h0, h1⟩
  | cons c l ih => intro x h0 h1; obtain ⟨a, b⟩ := hashByte_range x c; exact ih a b
def clampSeed (seed : Int) : Int := if seed < 0 then 0 else if seed > 1000000000 then 1000000000 else seed
theorem clampSeed_range (seed : Int) : 0 ≤ clampSeed seed ∧ clampSeed seed ≤ 1000000000 := by
  unfold clampSeed
  split
  · omega
  · split <;> omega
def fold16 (h : Int) : Int := Go.bits .xor .u32 h (h / 65536)
def hashOf (s : ByteArray) (seed : Int) : Int := fold16 (hashL s.data.toList (2166136261 + clampSeed seed))
theorem hashOf_range (s : ByteArray) (seed : Int) : 0 ≤ hashOf s seed ∧ hashOf s seed < 4294967296 := bits_xor_range _ _

/-- Exclusive or, bit by bit from the lowest on. -/
theorem xor_step (a b : Nat) : a ^^^ b = (a % 2 + b % 2) % 2 + 2 * ((a / 2) ^^^ (b / 2)) := by
  have h1 : (a ^^^ b) / 2 = (a / 2) ^^^ (b / 2) := by simpa using Nat.xor_div_two_pow (a := a) (b := b) (n := 1)
  have h2 : (a ^^^ b) % 2 = (a % 2 + b % 2) % 2 := by
    have h3 := Nat.xor_mod_two_pow (a := a) (b := b) (n := 1)
    simp only [Nat.pow_one] at h3
    rw [h3]
    rcases Nat.mod_two_eq_zero_or_one a with ha | ha <;> rcases Nat.mod_two_eq_zero_or_one b with hb | hb <;> rw [ha, hb] <;> rfl
  omega

/-! ### a number in bytes -/
def varL : Nat → Int → List Int
  | 0, n => [n % 256]
  | d + 1, n => if n > 127 then (n % 128 + 128) :: varL d (n / 128) else [n % 256]
def var (n : Int) : ByteArray := strOfNums (varL 9 n)

/-- The number that some bytes bear, seven bits each, the lowest first. -/
def vl : List UInt8 → Int
  | [] => 0
  | b :: l => (b.toNat : Int) % 128 + 128 * vl l
theorem vl_range (l : List UInt8) : 0 ≤ vl l ∧ vl l < ((128 ^ l.length : Nat) : Int) := by
  induction l with
  | nil => simp [vl]
  | cons b l ih =>
    obtain ⟨h0, h1⟩ := ih
    have hp : ((128 ^ (l.length + 1) : Nat) : Int) = 128 * ((128 ^ l.length : Nat) : Int) := by rw [Nat.pow_succ]; omega
    simp only [vl, List.length_cons]
    rw [hp]
    omega
theorem vl_snoc (l : List UInt8) (c : UInt8) : vl (l ++ [c]) = vl l + ((128 ^ l.length : Nat) : Int) * ((c.toNat : Int) % 128) := by
  induction l with
  | nil => simp [vl]
  | cons b l ih =>
    have hp : ((128 ^ (l.length + 1) : Nat) : Int) = 128 * ((128 ^ l.length : Nat) : Int) := by rw [Nat.pow_succ]; omega
    simp only [List.cons_append, vl, ih, List.length_cons]
    rw [hp, Int.mul_add, Int.mul_assoc]
    omega
/-- The shortest form: all bytes but the last are above 127, the last is not, and is not 0 behind others. -/
theorem varL_of (l : List UInt8) (c : UInt8) (hc : c.toNat < 128) (h0 : l = [] ∨ 0 < c.toNat) (hl : ∀ b ∈ l, 128 ≤ b.toNat) : ∀ d, l.length ≤ d → varL d (vl (l ++ [c])) = (l ++ [c]).map fun b => (b.toNat : Int) := by
  induction l with
  | nil =>
    intro d _
    have e : vl ([] ++ [c]) = (c.toNat : Int) := by simp [vl]; omega
    rw [e]
    cases d with
    | zero => simp [varL]; omega
    | succ d => simp only [varL]; rw [if_neg (by omega)]; simp; omega
  | cons b l ih =>
    intro d hd
    have hb := hl b (by simp)
    have hb' := b.toNat_lt
    have hc0 : 0 < c.toNat := by
      rcases h0 with h0 | h0
      · exact absurd h0 (by simp)
      · exact h0
    have ih' := ih (.inr hc0) (fun x hx => hl x (by simp [hx]))
    simp only [List.length_cons] at hd
    obtain ⟨d, rfl⟩ : ∃ m, d = m + 1 := ⟨d - 1, by omega⟩
    have hv : 0 < vl (l ++ [c]) := by
      rw [vl_snoc]
      have h1 := (vl_range l).1
      have hp : 0 < ((128 ^ l.length : Nat) : Int) := by exact_mod_cast Nat.pow_pos (by decide)
      have hm : 0 < ((128 ^ l.length : Nat) : Int) * ((c.toNat : Int) % 128) := Int.mul_pos hp (by omega)
      omega
    simp only [List.cons_append, vl, varL, List.map_cons]
    rw [if_pos (by omega)]
    have e1 : ((b.toNat : Int) % 128 + 128 * vl (l ++ [c])) % 128 + 128 = (b.toNat : Int) := by omega
    have e2 : ((b.toNat : Int) % 128 + 128 * vl (l ++ [c])) / 128 = vl (l ++ [c]) := by omega
    rw [e1, e2, ih' d (by omega)]
theorem varL_short (j : Nat) : ∀ (d : Nat) (n : Int), 0 ≤ n → n < ((128 ^ (j + 1) : Nat) : Int) → (varL d n).length ≤ j + 1 := by
  induction j with
  | zero =>
    intro d n h0 h1
    have h1' : n < 128 := by simpa using h1
    cases d with
    | zero => simp [varL]
    | succ d => simp only [varL]; rw [if_neg (by omega)]; simp
  | succ j ih =>
    intro d n h0 h1
    cases d with
    | zero => simp [varL]
    | succ d =>
      simp only [varL]
      split
      · have hp : ((128 ^ (j + 1 + 1) : Nat) : Int) = 128 * ((128 ^ (j + 1) : Nat) : Int) := by rw [Nat.pow_succ 128 (j + 1)]; omega
        rw [hp] at h1
        have := ih d (n / 128) (by omega) (by omega)
        simp
        omega
      · simp
theorem strOfNums_bytes (l : List UInt8) : (strOfNums (l.map fun b => (b.toNat : Int))).data.toList = l := by
  rw [strOfNums_data, List.map_map]
  conv => rhs; rw [← List.map_id l]
  refine List.map_congr_left fun b _ => ?_
  simp

/-! ### whether something holds, as a Bool -/
noncomputable def tr (p : Prop) : Bool := @decide p (Classical.propDecidable p)
theorem tr_true {p : Prop} (h : p) : tr p = true := @decide_eq_true p (Classical.propDecidable p) h
theorem tr_false {p : Prop} (h : ¬ p) : tr p = false := @decide_eq_false p (Classical.propDecidable p) h
theorem tr_iff {p : Prop} : tr p = true ↔ p := @decide_eq_true_iff p (Classical.propDecidable p)
theorem tr_congr {p q : Prop} (h : p ↔ q) : tr p = tr q := by rw [propext h]
theorem tr_dec {p : Prop} [d : Decidable p] : decide p = tr p := by
  unfold tr
  congr
theorem tr_and {p q : Prop} : tr (p ∧ q) = (tr p && tr q) := by
  by_cases hp : p
  · by_cases hq : q
    · rw [tr_true hp, tr_true hq, tr_true ⟨hp, hq⟩]; rfl
    · rw [tr_false hq, tr_false (fun h => hq h.2), Bool.and_false]
  · rw [tr_false hp, tr_false (fun h => hp h.1), Bool.false_and]

/-! ### a copy, element by element -/
theorem set_take {α : Type} (l x : List α) (z : α) (i : Nat) (h : i < l.length) (hx : x.length = l.length) (ht : x.take i = l.take i) : (x.set i (l.getD i z)).take (i + 1) = l.take (i + 1) := by
  rw [List.take_add_one, List.take_add_one, List.take_set_of_le (Nat.le_refl i), ht]
  congr 1
  rw [List.getElem?_set_self (by omega), List.getD_eq_getElem?_getD, List.getElem?_eq_getElem h]
  rfl
theorem take_all {α : Type} {l x : List α} (hx : x.length = l.length) (ht : x.take l.length = l.take l.length) : x = l := by
  rw [List.take_length, ← hx, List.take_length] at ht
  exact ht
theorem getD_mem {α : Type} (l : List α) (z : α) (i : Nat) (h : i < l.length) : l.getD i z ∈ l := by
  rw [List.getD_eq_getElem?_getD, List.getElem?_eq_getElem h]
  exact List.getElem_mem h
theorem all_from {P : Nat → Prop} {i n : Nat} (hi : i < n) : (∀ j, i ≤ j → j < n → P j) ↔ P i ∧ ∀ j, i + 1 ≤ j → j < n → P j :=
  ⟨fun h => ⟨h i (Nat.le_refl _) hi, fun j hj => h j (by omega)⟩, fun h j hj hn => by
    rcases Nat.eq_or_lt_of_le hj with rfl | hlt
    · exact h.1
    · exact h.2 j hlt hn⟩

/-! ### what is marked, and what is used -/
theorem marks_used : ∀ (m u : List Bool), m.length = u.length → (∀ j, m.getD j false = true → u.getD j false = false) →
    m.count true + u.count true ≤ m.length ∧ (m.count true + u.count true = m.length ↔ ∀ j, j < m.length → u.getD j false = !(m.getD j false)) := by
  intro m
  induction m with
  | nil =>
    intro u hl h
    have hu : u = [] := by
      cases u with
      | nil => rfl
      | cons _ _ => simp at hl
    subst hu
    exact ⟨by simp, by simp⟩
  | cons b m ih =>
    intro u hl h
    cases u with
    | nil => simp at hl
    | cons c u =>
      obtain ⟨h1, h2⟩ := ih u (by simpa using hl) (fun j hj => by simpa using h (j + 1) (by simpa using hj))
      have h0 := h 0
      have h2' : (∀ j, j < (b :: m).length → (c :: u).getD j false = !((b :: m).getD j false)) ↔ (c = !b ∧ ∀ j, j < m.length → u.getD j false = !(m.getD j false)) := by
        constructor
        · intro hh
          exact ⟨by simpa using hh 0 (by simp), fun j hj => by simpa using hh (j + 1) (by simpa using hj)⟩
        · rintro ⟨ha, hb⟩ j hj
          cases j with
          | zero => simpa using ha
          | succ j => simpa using hb j (by simpa using hj)
      rw [h2', ← h2]
      cases b <;> cases c <;> simp [List.count_cons] at h0 ⊢ <;> omega
theorem count_set (m : List Bool) : ∀ (j : Nat), j < m.length → m.getD j false = false → (m.set j true).count true = m.count true + 1 := by
  induction m with
  | nil => intro j hj; simp at hj
  | cons b m ih =>
    intro j hj h
    cases j with
    | zero =>
      have : b = false := by simpa using h
      subst this
      simp [List.count_cons]
    | succ j =>
      have := ih j (by simpa using hj) (by simpa using h)
      cases b <;> simp [List.count_cons, this]

end Go.Proofs.Ytcoboobnpmaahaa.Math
