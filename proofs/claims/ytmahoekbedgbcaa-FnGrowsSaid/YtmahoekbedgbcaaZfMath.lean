/- What the row of the law needs of the printed and the plain texts. -/
import Derived.Test.YtmahoekbedgbcaaZfWWords
import Derived.Laws.BitsLemmas
import Derived.Laws.BytesArg
import Derived.Lib.Strings
set_option linter.unusedSimpArgs false
set_option linter.unusedVariables false
namespace Go.Proofs.Ytmahoekbedgbcaa.Math
open Go Go.RowKit Go.Proofs.YtmahoekbedgbcaaW.PrintWords
theorem wrap64_id {x : Int} (h0 : -9223372036854775808 ≤ x) (h1 : x ≤ 9223372036854775807) : wrap64 x = x := by
  unfold wrap64
  omega
theorem drop_bt (s : ByteArray) (i : Nat) (h : i < s.size) : ∃ c : UInt8, s.data.toList.drop i = c :: s.data.toList.drop (i + 1) ∧ bt s (i : Int) = (c.toNat : Int) := by
  have hl : i < s.data.toList.length := by simpa using h
  refine ⟨s.data.toList[i], List.drop_eq_getElem_cons hl, ?_⟩
  unfold bt
  rw [dif_pos (by simpa using h)]
  rfl
theorem bits_xor_nat (a b : Nat) (ha : a < 4294967296) (hb : b < 4294967296) : Go.bits .xor .u32 (a : Int) (b : Int) = ((a ^^^ b : Nat) : Int) := by
  have ha' : a % 2 ^ IntKind.u32.bits = a := Nat.mod_eq_of_lt ha
  have hb' : b % 2 ^ IntKind.u32.bits = b := Nat.mod_eq_of_lt hb
  have hx : a ^^^ b < 2 ^ 32 := Nat.xor_lt_two_pow (by simpa using ha) (by simpa using hb)
  simp only [Go.bits, BitVec.ofInt_natCast, BitVec.toNat_xor, BitVec.toNat_ofNat, ha', hb']
  rw [IntKind.wrap_u32]
  have hx' : a ^^^ b < 4294967296 := by simpa using hx
  omega
theorem bits_xor_range (a b : Int) : 0 ≤ Go.bits .xor .u32 a b ∧ Go.bits .xor .u32 a b < 4294967296 := by
  simp only [Go.bits]
  rw [IntKind.wrap_u32]
  omega
theorem bits_and_255 (y : Int) : 0 ≤ Go.bits .and .i64 y 255 ∧ Go.bits .and .i64 y 255 ≤ 255 := by
  have h : (BitVec.ofInt IntKind.i64.bits y &&& BitVec.ofInt IntKind.i64.bits 255).toNat ≤ 255 := by
    rw [BitVec.toNat_and]
    exact Nat.and_le_right
  simp only [Go.bits]
  generalize (BitVec.ofInt IntKind.i64.bits y &&& BitVec.ofInt IntKind.i64.bits 255).toNat = n at h
  rw [IntKind.wrap_i64]
  omega
def hashByte (h : Int) (c : UInt8) : Int := (Go.bits .xor .u32 h (c.toNat : Int)) * 16777619 % 4294967296
theorem hashByte_range (h : Int) (c : UInt8) : 0 ≤ hashByte h c ∧ hashByte h c < 4294967296 := by
  unfold hashByte
  omega
def hashL (l : List UInt8) (h : Int) : Int := l.foldl hashByte h
def clampSeed (seed : Int) : Int := if seed < 0 then 0 else if seed > 1000000000 then 1000000000 else seed
theorem clampSeed_range (seed : Int) : 0 ≤ clampSeed seed ∧ clampSeed seed ≤ 1000000000 := by
  unfold clampSeed
  split
  · omega
  · split <;> omega
def fold16 (h : Int) : Int := Go.bits .xor .u32 h (h / 65536)
def hashOf (s : ByteArray) (seed : Int) : Int := fold16 (hashL s.data.toList (2166136261 + clampSeed seed))
theorem hashOf_range (s : ByteArray) (seed : Int) : 0 ≤ hashOf s seed ∧ hashOf s seed < 4294967296 := bits_xor_range _ _
theorem xor_step (a b : Nat) : a ^^^ b = (a % 2 + b % 2) % 2 + 2 * ((a / 2) ^^^ (b / 2)) := by
  have h1 : (a ^^^ b) / 2 = (a / 2) ^^^ (b / 2) := by simpa using Nat.xor_div_two_pow (a := a) (b := b) (n := 1)
  have h2 : (a ^^^ b) % 2 = (a % 2 + b % 2) % 2 := by
    have h3 := Nat.xor_mod_two_pow (a := a) (b := b) (n := 1)
    simp only [Nat.pow_one] at h3
    rw [h3]
    rcases Nat.mod_two_eq_zero_or_one a with ha | ha <;> rcases Nat.mod_two_eq_zero_or_one b with hb | hb <;> rw [ha, hb] <;> rfl
  omega
noncomputable def tr (p : Prop) : Bool := @decide p (Classical.propDecidable p)
theorem tr_true {p : Prop} (h : p) : tr p = true := @decide_eq_true p (Classical.propDecidable p) h
theorem tr_false {p : Prop} (h : ¬ p) : tr p = false := @decide_eq_false p (Classical.propDecidable p) h
theorem tr_congr {p q : Prop} (h : p ↔ q) : tr p = tr q := by rw [propext h]
theorem tr_dec {p : Prop} [d : Decidable p] : decide p = tr p := by
  unfold tr
  congr
theorem getD_mem {α : Type} (l : List α) (z : α) (i : Nat) (h : i < l.length) : l.getD i z ∈ l := by
  rw [List.getD_eq_getElem?_getD, List.getElem?_eq_getElem h]
  exact List.getElem_mem h
theorem all_from {P : Nat → Prop} {i n : Nat} (hi : i < n) : (∀ j, i ≤ j → j < n → P j) ↔ P i ∧ ∀ j, i + 1 ≤ j → j < n → P j :=
  ⟨fun h => ⟨h i (Nat.le_refl _) hi, fun j hj => h j (by omega)⟩, fun h j hj hn => by
    rcases Nat.eq_or_lt_of_le hj with rfl | hlt
    · exact h.1
    · exact h.2 j hlt hn⟩
theorem count_set (m : List Bool) : ∀ (j : Nat), j < m.length → m.getD j false = false → (m.set j true).count true = m.count true + 1 := by
  induction m with
  | nil => intro j hj; simp at hj
  | cons b m ih =>
    intro j hj h
    cases j with
    | zero =>
      have : b = false := by simpa using h
      subst this
      simp [List.count_cons]
    | succ j =>
      have := ih j (by simpa using hj) (by simpa using h)
      cases b <;> simp [List.count_cons, this]
end Go.Proofs.Ytmahoekbedgbcaa.Math
