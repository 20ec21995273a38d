/- What the row of the law needs of the printed and the plain texts. -/
import Derived.Test.YtmahoekbedgbcaaZbHFnExactCleanTablex15
import Derived.Test.YtmahoekbedgbcaaZbMath
set_option linter.unusedSimpArgs false
set_option linter.unusedVariables false
namespace Go.Proofs.Ytmahoekbedgbcaa.Pure
open Go.RowKit Go.Proofs.Ytmahoekbedgbcaa.HFnExactCleanTable Go.Proofs.YtmahoekbedgbcaaW.PrintWords Go.Proofs.YtmahoekbedgbcaaW.PrintLast Go.Proofs.Ytmahoekbedgbcaa.Math
theorem spec_xor_step (a b out bit i k : Nat) (ha2 : a < 4294967296) (hb2 : b < 4294967296) (hbit : bit ≤ 4294967296) (ho : out < bit) (hi : i < 32) :
    spec_l04Xor.l0 (k + 1) (a : Int) (b : Int) (out : Int) (bit : Int) (i : Int) = spec_l04Xor.l0 k ((a / 2 : Nat) : Int) ((b / 2 : Nat) : Int) ((out + bit * ((a % 2 + b % 2) % 2) : Nat) : Int) ((2 * bit : Nat) : Int) ((i + 1 : Nat) : Int) := by
  have hi' : (i : Int) < 32 := by omega
  have hs : ((out : Int) = ((out + bit * ((a % 2 + b % 2) % 2) : Nat) : Int) ∧ ((a % 2 : Nat) : Int) = ((b % 2 : Nat) : Int)) ∨ (((out + bit : Nat) : Int) = ((out + bit * ((a % 2 + b % 2) % 2) : Nat) : Int) ∧ ¬ ((a % 2 : Nat) : Int) = ((b % 2 : Nat) : Int)) := by
    by_cases hab : a % 2 = b % 2
    · exact .inl ⟨by rw [show (a % 2 + b % 2) % 2 = 0 by omega, Nat.mul_zero, Nat.add_zero], by rw [hab]⟩
    · exact .inr ⟨by rw [show (a % 2 + b % 2) % 2 = 1 by omega, Nat.mul_one], fun h => hab (Int.ofNat.inj h)⟩
  have e1 : wrap64 (Int.tdiv (a : Int) 2) = ((a / 2 : Nat) : Int) := by rw [Int.tdiv_eq_ediv_of_nonneg (by omega), wrap64_id (by omega) (by omega)]; omega
  have e2 : wrap64 (Int.tdiv (b : Int) 2) = ((b / 2 : Nat) : Int) := by rw [Int.tdiv_eq_ediv_of_nonneg (by omega), wrap64_id (by omega) (by omega)]; omega
  have e3 : wrap64 (2 * (bit : Int)) = ((2 * bit : Nat) : Int) := by rw [wrap64_id (by omega) (by omega)]; omega
  have e4 : wrap64 ((i : Int) + 1) = ((i + 1 : Nat) : Int) := by rw [wrap64_id (by omega) (by omega)]; omega
  have e5 : wrap64 ((out : Int) + (bit : Int)) = ((out + bit : Nat) : Int) := by rw [wrap64_id (by omega) (by omega)]; omega
  have e6 : Int.tmod (a : Int) 2 = ((a % 2 : Nat) : Int) := by rw [Int.tmod_eq_emod_of_nonneg (by omega)]; omega
  have e7 : Int.tmod (b : Int) 2 = ((b % 2 : Nat) : Int) := by rw [Int.tmod_eq_emod_of_nonneg (by omega)]; omega
  simp only [spec_l04Xor.l0, e1, e2, e3, e4, e5, e6, e7]
  rcases hs with ⟨h1, h2⟩ | ⟨h1, h2⟩
  · rw [if_pos hi', if_pos h2, ← h1]
  · rw [if_pos hi', if_neg h2, ← h1]
theorem spec_xor_loop (d : Nat) : ∀ (i a b out bit : Nat), i + d = 32 → a < 2 ^ d → b < 2 ^ d → bit * 2 ^ d = 4294967296 → out < bit →
    Ev (fun k => spec_l04Xor.l0 k (a : Int) (b : Int) (out : Int) (bit : Int) (i : Int)) ((out + bit * (a ^^^ b) : Nat) : Int) := by
  induction d with
  | zero =>
    intro i a b out bit hi ha hb hbit ho
    have ea : a = 0 := by simpa using ha
    have eb : b = 0 := by simpa using hb
    subst ea eb
    refine Ev.step (f := fun _ => some (out : Int)) (fun k => ?_) (by simpa using Ev.now (out : Int))
    simp only [spec_l04Xor.l0]
    rw [if_neg (by omega)]
  | succ d ih =>
    intro i a b out bit hi ha hb hbit ho
    have hbit' : (2 * bit) * 2 ^ d = 4294967296 := by rw [← hbit, Nat.pow_succ]; ac_rfl
    have hb32 : 2 * bit ≤ 4294967296 := by
      rw [← hbit']
      exact Nat.le_mul_of_pos_right _ (Nat.two_pow_pos d)
    have hd : d + 1 ≤ 32 := by clear hbit hbit' ha hb; omega
    have ha2 : a < 4294967296 := Nat.lt_of_lt_of_le ha (Nat.pow_le_pow_right (by decide) hd)
    have hb2 : b < 4294967296 := Nat.lt_of_lt_of_le hb (Nat.pow_le_pow_right (by decide) hd)
    have ha' : a / 2 < 2 ^ d := by rw [Nat.pow_succ] at ha; exact Nat.div_lt_of_lt_mul (by rw [Nat.mul_comm]; exact ha)
    have hb' : b / 2 < 2 ^ d := by rw [Nat.pow_succ] at hb; exact Nat.div_lt_of_lt_mul (by rw [Nat.mul_comm]; exact hb)
    clear hbit ha hb
    have hx := xor_step a b
    have ho' : out + bit * ((a % 2 + b % 2) % 2) < 2 * bit := by
      rcases Nat.mod_two_eq_zero_or_one (a % 2 + b % 2) with h | h <;> rw [h] <;> omega
    have h := ih (i + 1) (a / 2) (b / 2) (out + bit * ((a % 2 + b % 2) % 2)) (2 * bit) (by omega) ha' hb' hbit' ho'
    have er : out + bit * (a ^^^ b) = out + bit * ((a % 2 + b % 2) % 2) + 2 * bit * ((a / 2) ^^^ (b / 2)) := by
      rw [hx, Nat.mul_add, ← Nat.mul_assoc, Nat.mul_comm bit 2, Nat.add_assoc]
    rw [er]
    exact Ev.step (fun k => spec_xor_step a b out bit i k ha2 hb2 (by omega) ho (by omega)) h
theorem spec_xor (x y : Int) (h0 : 0 ≤ x) (h1 : x < 4294967296) (h2 : 0 ≤ y) (h3 : y < 4294967296) : Ev (fun k => spec_l04Xor.f k x y) (Go.bits .xor .u32 x y) := by
  obtain ⟨a, rfl⟩ := Int.eq_ofNat_of_zero_le h0
  obtain ⟨b, rfl⟩ := Int.eq_ofNat_of_zero_le h2
  rw [bits_xor_nat a b (by omega) (by omega)]
  have h := spec_xor_loop 32 0 a b 0 1 (by decide) (by omega) (by omega) (by decide) (by decide)
  simpa [spec_l04Xor.f] using h
theorem spec_hash_loop (s : ByteArray) (hs : s.size ≤ 140737488355328) (d : Nat) : ∀ (x : Int) (i : Nat), 0 ≤ x → x < 4294967296 → s.size - i = d → i ≤ s.size →
    Ev (fun k => spec_HashOf.l0 k s x (i : Int)) (fold16 (hashL (s.data.toList.drop i) x)) := by
  induction d with
  | zero =>
    intro x i h0 h1 hd hi
    have e : s.data.toList.drop i = [] := List.drop_eq_nil_of_le (by simp; omega)
    have ew : wrap64 (Int.tdiv x 65536) = x / 65536 := by rw [Int.tdiv_eq_ediv_of_nonneg h0, wrap64_id (by omega) (by omega)]
    rw [e]
    refine Ev.step (f := fun k => (spec_l04Xor.f k x (x / 65536)).bind fun t => some t) (fun k => ?_) (Ev.bind (spec_xor x (x / 65536) h0 h1 (by omega) (by omega)) (Ev.now _))
    simp only [spec_HashOf.l0]
    rw [if_neg (by omega), ew]
  | succ d ih =>
    intro x i h0 h1 hd hi
    obtain ⟨c, e, hb⟩ := drop_bt s i (by omega)
    have hc := c.toNat_lt
    obtain ⟨a, b⟩ := bits_xor_range x (c.toNat : Int)
    obtain ⟨a', b'⟩ := hashByte_range x c
    have h := ih (hashByte x c) (i + 1) a' b' (by omega) (by omega)
    rw [e]
    have ew : wrap64 ((i : Int) + 1) = ((i + 1 : Nat) : Int) := by rw [wrap64_id (by omega) (by omega)]; omega
    have eb : wrap64 (bt s (i : Int)) = (c.toNat : Int) := by rw [hb, wrap64_id (by omega) (by omega)]
    have em : Int.tmod (wrap64 (Go.bits .xor .u32 x (c.toNat : Int) * 16777619)) 4294967296 = hashByte x c := by
      rw [wrap64_id (by omega) (by omega), Int.tmod_eq_emod_of_nonneg (by omega)]
      rfl
    refine Ev.step (f := fun k => (spec_l04Xor.f k x (c.toNat : Int)).bind fun t => spec_HashOf.l0 k s (Int.tmod (wrap64 (t * 16777619)) 4294967296) ((i + 1 : Nat) : Int)) (fun k => ?_) (Ev.bind (spec_xor x (c.toNat : Int) h0 h1 (by omega) (by omega)) (by rw [em]; exact h))
    simp only [spec_HashOf.l0]
    rw [if_pos (by omega), if_pos (by omega), eb, ew]
theorem spec_hash (s : ByteArray) (hs : s.size ≤ 140737488355328) (seed : Int) : Ev (fun k => spec_HashOf.f k s seed) (hashOf s seed) := by
  have hl := fun (x : Int) (h0 : 0 ≤ x) (h1 : x ≤ 1000000000) => spec_hash_loop s hs _ (2166136261 + x) 0 (by omega) (by omega) rfl (by omega)
  have h1 : ∀ x : Int, 0 ≤ x → x ≤ 1000000000 → Ev (fun k => spec_HashOf.j1 k s x) (fold16 (hashL s.data.toList (2166136261 + x))) := fun x h0 h1 => by
    have em : Int.tmod (wrap64 (2166136261 + x)) 4294967296 = 2166136261 + x := by rw [wrap64_id (by omega) (by omega), Int.tmod_eq_emod_of_nonneg (by omega)]; omega
    refine Ev.step (fun k => ?_) (by simpa using hl x h0 h1)
    simp only [spec_HashOf.j1]
    rw [em]
  have h2 : ∀ x : Int, 0 ≤ x → Ev (fun k => spec_HashOf.j0 k s x) (fold16 (hashL s.data.toList (2166136261 + (if x > 1000000000 then 1000000000 else x)))) := fun x h0 => by
    by_cases hx : x > 1000000000
    · refine Ev.step (fun k => ?_) (h1 1000000000 (by omega) (by omega) |> fun z => by simpa [hx] using z)
      simp only [spec_HashOf.j0]
      rw [if_pos hx]
    · refine Ev.step (fun k => ?_) (h1 x h0 (by omega) |> fun z => by simpa [hx] using z)
      simp only [spec_HashOf.j0]
      rw [if_neg hx]
  unfold spec_HashOf.f hashOf clampSeed
  by_cases hn : seed < 0
  · simp only [if_pos hn]
    simpa using h2 0 (by omega)
  · simp only [if_neg hn]
    exact h2 seed (by omega)
theorem impl_hash_loop (s : ByteArray) (hs : s.size ≤ 140737488355328) (d : Nat) : ∀ (x : Int) (i : Nat), 0 ≤ x → x < 4294967296 → s.size - i = d → i ≤ s.size →
    Ev (fun k => impl_HashOf.l0 k s x (i : Int)) (fold16 (hashL (s.data.toList.drop i) x)) := by
  induction d with
  | zero =>
    intro x i h0 h1 hd hi
    have e : s.data.toList.drop i = [] := List.drop_eq_nil_of_le (by simp; omega)
    obtain ⟨a, b⟩ := bits_xor_range x (x / 65536)
    rw [e]
    refine Ev.step (f := fun _ => some (fold16 x)) (fun k => ?_) (Ev.now _)
    simp only [impl_HashOf.l0]
    rw [if_neg (by omega), wrap64_id (by omega) (by omega)]
    rfl
  | succ d ih =>
    intro x i h0 h1 hd hi
    obtain ⟨c, e, hb⟩ := drop_bt s i (by omega)
    have hc := c.toNat_lt
    obtain ⟨a', b'⟩ := hashByte_range x c
    have h := ih (hashByte x c) (i + 1) a' b' (by omega) (by omega)
    rw [e]
    have ew : wrap64 ((i : Int) + 1) = ((i + 1 : Nat) : Int) := by rw [wrap64_id (by omega) (by omega)]; omega
    have eb : bt s (i : Int) % 4294967296 = (c.toNat : Int) := by rw [hb]; omega
    refine Ev.step (fun k => ?_) h
    simp only [impl_HashOf.l0]
    rw [if_pos (by omega), if_pos (by omega), eb, ew]
    rfl
theorem impl_hash (s : ByteArray) (hs : s.size ≤ 140737488355328) (seed : Int) : Ev (fun k => impl_HashOf.f k s seed) (hashOf s seed) := by
  obtain ⟨a, b⟩ := clampSeed_range seed
  have e : mx 0 (mn seed 1000000000) = clampSeed seed := by unfold mx mn clampSeed; omega
  have h := impl_hash_loop s hs _ (2166136261 + clampSeed seed) 0 (by omega) (by omega) rfl (by omega)
  unfold impl_HashOf.f hashOf
  rw [e]
  simpa using h
theorem impl_in (a b c : Int) : impl_inRange.f a b c = some (decide (b ≤ a ∧ a ≤ c)) := by
  unfold impl_inRange.f
  by_cases h : a ≥ b
  · rw [if_pos h]
    simp [h]
  · rw [if_neg h]
    have : ¬ (b ≤ a ∧ a ≤ c) := fun z => h z.1
    simp [this]
theorem spec_in (a b c : Int) : spec_l01In.f a b c = some (decide (b ≤ a ∧ a ≤ c)) := by
  unfold spec_l01In.f
  by_cases h : a ≥ b
  · rw [if_pos h]
    simp [h]
  · rw [if_neg h]
    have : ¬ (b ≤ a ∧ a ≤ c) := fun z => h z.1
    simp [this]
def cl (l : List S57) (j : Nat) : S57 := l.getD j z57
theorem rd_cl (l : List S57) (j : Nat) : rd_T57 l (j : Int) = cl l j := rfl
def probe (l : List S57) (m : S57 → Bool) : Nat → Nat → Int
  | 0, _ => -1
  | d + 1, p => if m (cl l p) = true then (p : Int) else if (cl l p).f0.toList = [] ∧ (cl l p).f1 = -1 then -1 else probe l m d ((p + 1) % l.length)
def mI (key : ByteArray) (x : S57) : Bool := (x.f0.toList == key.toList) && (key.toList != [])
def mS (key : ByteArray) (x : S57) : Bool := (x.f0.toList == key.toList) && decide (0 ≤ x.f1)
def home (n : Nat) (key : ByteArray) : Nat := (hashOf key 0).toNat % n
theorem home_lt (n : Nat) (key : ByteArray) (h : 0 < n) : home n key < n := Nat.mod_lt _ h
def seekI (l : List S57) (key : ByteArray) : Int := probe l (mI key) l.length (home l.length key)
def seekS (l : List S57) (key : ByteArray) : Int := probe l (mS key) l.length (home l.length key)
theorem tmod_nat (a n : Nat) (ha : a ≤ 9223372036854775807) : Int.tmod (wrap64 (a : Int)) (n : Int) = ((a % n : Nat) : Int) := by
  rw [wrap64_id (by omega) (by omega), Int.tmod_eq_emod_of_nonneg (by omega)]
  rfl
theorem probe_congr (l : List S57) (m1 m2 : S57 → Bool) (h : ∀ j, m1 (cl l j) = m2 (cl l j)) (d : Nat) : ∀ p, probe l m1 d p = probe l m2 d p := by
  induction d with
  | zero => intro p; rfl
  | succ d ih =>
    intro p
    simp only [probe, h p, ih]
theorem probe_range (l : List S57) (m : S57 → Bool) (d : Nat) : ∀ p, p < l.length → probe l m d p = -1 ∨ ∃ j : Nat, j < l.length ∧ probe l m d p = (j : Int) ∧ m (cl l j) = true := by
  induction d with
  | zero => intro p _; exact .inl rfl
  | succ d ih =>
    intro p hp
    simp only [probe]
    by_cases h : m (cl l p) = true
    · rw [if_pos h]; exact .inr ⟨p, hp, rfl, h⟩
    · rw [if_neg h]
      by_cases h2 : (cl l p).f0.toList = [] ∧ (cl l p).f1 = -1
      · rw [if_pos h2]; exact .inl rfl
      · rw [if_neg h2]; exact ih _ (Nat.mod_lt _ (by omega))
theorem seekI_range (l : List S57) (key : ByteArray) : seekI l key = -1 ∨ ∃ j : Nat, j < l.length ∧ seekI l key = (j : Int) ∧ mI key (cl l j) = true := by
  rcases Nat.eq_zero_or_pos l.length with h | h
  · exact .inl (by unfold seekI; rw [h]; rfl)
  · exact probe_range l _ _ _ (home_lt _ _ h)
theorem impl_seek_loop (l : List S57) (key : ByteArray) (h0 : 0 < l.length) (hl : l.length ≤ 1048576) (d : Nat) : ∀ i p : Nat, i + d = l.length → p < l.length →
    Ev (fun k => impl_seek.l0 k l key (p : Int) (l.length : Int) (i : Int)) (probe l (mI key) d p) := by
  induction d with
  | zero =>
    intro i p hi hp
    refine Ev.step (f := fun _ => some (-1)) (fun k => ?_) (Ev.now _)
    simp only [impl_seek.l0]
    rw [if_neg (by omega)]
  | succ d ih =>
    intro i p hi hp
    have hn := ih (i + 1) ((p + 1) % l.length) (by omega) (Nat.mod_lt _ h0)
    have e1 : Int.tmod (wrap64 ((p : Int) + 1)) (l.length : Int) = (((p + 1) % l.length : Nat) : Int) := tmod_nat (p + 1) l.length (by omega)
    have e2 : wrap64 ((i : Int) + 1) = ((i + 1 : Nat) : Int) := by rw [wrap64_id (by omega) (by omega)]; omega
    have ne : ¬ (l.length : Int) = 0 := by omega
    have hj : ∀ (b : Bool) (r : Int), (b = true → r = (p : Int)) → (b = false → (cl l p).f0.toList = [] ∧ (cl l p).f1 = -1 → r = -1) → (b = false → ¬ ((cl l p).f0.toList = [] ∧ (cl l p).f1 = -1) → r = probe l (mI key) d ((p + 1) % l.length)) →
        Ev (fun k => impl_seek.j1 k l key (p : Int) (l.length : Int) (i : Int) b (cl l p).f0 (cl l p).f1) r := by
      intro b r h1 h2 h3
      cases b with
      | true =>
        rw [h1 rfl]
        refine Ev.step (f := fun _ => some (p : Int)) (fun k => ?_) (Ev.now _)
        simp only [impl_seek.j1]
        rw [if_pos trivial]
      | false =>
        by_cases hc : (cl l p).f0.toList = []
        · by_cases hd : (cl l p).f1 = -1
          · rw [h2 rfl ⟨hc, hd⟩]
            refine Ev.step (f := fun _ => some (-1)) (fun k => ?_) (Ev.now _)
            simp only [impl_seek.j1]
            rw [if_neg (by simp), if_pos hc, if_pos hd]
          · rw [h3 rfl (fun z => hd z.2)]
            refine Ev.step (fun k => ?_) hn
            simp only [impl_seek.j1]
            rw [if_neg (by simp), if_pos hc, if_neg hd, if_neg ne, e1, e2]
        · rw [h3 rfl (fun z => hc z.1)]
          refine Ev.step (fun k => ?_) hn
          simp only [impl_seek.j1]
          rw [if_neg (by simp), if_neg hc, if_neg ne, e1, e2]
    have hp' : probe l (mI key) (d + 1) p = if mI key (cl l p) = true then (p : Int) else if (cl l p).f0.toList = [] ∧ (cl l p).f1 = -1 then -1 else probe l (mI key) d ((p + 1) % l.length) := rfl
    rw [hp']
    by_cases hk : (cl l p).f0.toList = key.toList
    · refine Ev.step (fun k => ?_) (hj (key.toList != []) _ (fun hb => ?_) (fun hb hc => ?_) (fun hb hc => ?_))
      · simp only [impl_seek.l0]
        rw [if_pos (by omega), if_pos (by omega), if_pos (by omega), rd_cl, if_pos hk]
      · rw [if_pos (by simp [mI, hk, hb])]
      · rw [if_neg (by simp [mI, hb]), if_pos hc]
      · rw [if_neg (by simp [mI, hb]), if_neg hc]
    · refine Ev.step (fun k => ?_) (hj false _ (fun hb => by cases hb) (fun hb hc => ?_) (fun hb hc => ?_))
      · simp only [impl_seek.l0]
        rw [if_pos (by omega), if_pos (by omega), if_pos (by omega), rd_cl, if_neg hk]
      · rw [if_neg (by simp [mI, hk]), if_pos hc]
      · rw [if_neg (by simp [mI, hk]), if_neg hc]
theorem home_eq (n : Nat) (key : ByteArray) : Int.tmod (hashOf key 0) (n : Int) = (home n key : Int) := by
  obtain ⟨a, b⟩ := hashOf_range key 0
  rw [Int.tmod_eq_emod_of_nonneg a]
  unfold home
  obtain ⟨h, hh⟩ := Int.eq_ofNat_of_zero_le a
  rw [hh]
  rfl
theorem impl_seek_ev (l : List S57) (key : ByteArray) (hl : l.length ≤ 1048576) (hk : key.size ≤ 140737488355328) : Ev (fun k => impl_seek.f k l key) (seekI l key) := by
  unfold impl_seek.f
  rcases Nat.eq_zero_or_pos l.length with h | h
  · have e : seekI l key = -1 := by unfold seekI; rw [h]; rfl
    rw [e]
    simp only [if_pos (show (l.length : Int) = 0 by omega)]
    exact Ev.now _
  · simp only [if_neg (show ¬ (l.length : Int) = 0 by omega)]
    refine Ev.bind (impl_hash key hk 0) ?_
    rw [home_eq]
    exact impl_seek_loop l key h hl _ 0 _ (by omega) (home_lt _ _ h)
theorem spec_seek_loop (l : List S57) (key : ByteArray) (h0 : 0 < l.length) (hl : l.length ≤ 1048576) (h : Nat) (hh : h < l.length) (d : Nat) : ∀ i : Nat, i + d = l.length →
    Ev (fun k => spec_l04Seek.l0 k l key (l.length : Int) (h : Int) (i : Int)) (probe l (mS key) d ((h + i) % l.length)) := by
  induction d with
  | zero =>
    intro i hi
    refine Ev.step (f := fun _ => some (-1)) (fun k => ?_) (Ev.now _)
    simp only [spec_l04Seek.l0]
    rw [if_neg (by omega)]
  | succ d ih =>
    intro i hi
    have hn := ih (i + 1) (by omega)
    have e0 : (h + (i + 1)) % l.length = ((h + i) % l.length + 1) % l.length := by rw [Nat.mod_add_mod]; rfl
    rw [e0] at hn
    have e1 : Int.tmod (wrap64 ((h : Int) + (i : Int))) (l.length : Int) = (((h + i) % l.length : Nat) : Int) := tmod_nat (h + i) l.length (by omega)
    have e2 : wrap64 ((i : Int) + 1) = ((i + 1 : Nat) : Int) := by rw [wrap64_id (by omega) (by omega)]; omega
    have hp : (h + i) % l.length < l.length := Nat.mod_lt _ h0
    generalize (h + i) % l.length = p at hn e1 hp ⊢
    have ne : ¬ (l.length : Int) = 0 := by omega
    have hj : ∀ (b : Bool) (r : Int), (b = true → r = (p : Int)) → (b = false → (cl l p).f0.toList = [] ∧ (cl l p).f1 = -1 → r = -1) → (b = false → ¬ ((cl l p).f0.toList = [] ∧ (cl l p).f1 = -1) → r = probe l (mS key) d ((p + 1) % l.length)) →
        Ev (fun k => spec_l04Seek.j1 k l key (l.length : Int) (h : Int) (i : Int) b (cl l p).f0 (cl l p).f1) r := by
      intro b r h1 h2 h3
      cases b with
      | true =>
        rw [h1 rfl]
        refine Ev.step (f := fun _ => some (p : Int)) (fun k => ?_) (Ev.now _)
        simp only [spec_l04Seek.j1]
        rw [if_pos trivial, if_neg ne, e1]
      | false =>
        by_cases hc : (cl l p).f0.toList = []
        · by_cases hd : (cl l p).f1 = -1
          · rw [h2 rfl ⟨hc, hd⟩]
            refine Ev.step (f := fun _ => some (-1)) (fun k => ?_) (Ev.now _)
            simp only [spec_l04Seek.j1]
            rw [if_neg (by simp), if_pos hc, if_pos hd]
          · rw [h3 rfl (fun z => hd z.2)]
            refine Ev.step (fun k => ?_) hn
            simp only [spec_l04Seek.j1]
            rw [if_neg (by simp), if_pos hc, if_neg hd, e2]
        · rw [h3 rfl (fun z => hc z.1)]
          refine Ev.step (fun k => ?_) hn
          simp only [spec_l04Seek.j1]
          rw [if_neg (by simp), if_neg hc, e2]
    have hp' : probe l (mS key) (d + 1) p = if mS key (cl l p) = true then (p : Int) else if (cl l p).f0.toList = [] ∧ (cl l p).f1 = -1 then -1 else probe l (mS key) d ((p + 1) % l.length) := rfl
    rw [hp']
    by_cases hk : (cl l p).f0.toList = key.toList
    · refine Ev.step (fun k => ?_) (hj (decide ((cl l p).f1 ≥ 0)) _ (fun hb => ?_) (fun hb hc => ?_) (fun hb hc => ?_))
      · simp only [spec_l04Seek.l0]
        rw [if_pos (by omega), if_neg ne, e1, if_pos (by omega), if_pos (by omega), rd_cl, if_pos hk]
      · rw [if_pos (by simp only [mS, hk, beq_self_eq_true, Bool.true_and]; exact hb)]
      · rw [if_neg (by have := of_decide_eq_false hb; simp [mS]; omega), if_pos hc]
      · rw [if_neg (by have := of_decide_eq_false hb; simp [mS]; omega), if_neg hc]
    · refine Ev.step (fun k => ?_) (hj false _ (fun hb => by cases hb) (fun hb hc => ?_) (fun hb hc => ?_))
      · simp only [spec_l04Seek.l0]
        rw [if_pos (by omega), if_neg ne, e1, if_pos (by omega), if_pos (by omega), rd_cl, if_neg hk]
      · rw [if_neg (by simp [mS, hk]), if_pos hc]
      · rw [if_neg (by simp [mS, hk]), if_neg hc]
theorem spec_seek_ev (l : List S57) (key : ByteArray) (hl : l.length ≤ 1048576) (hk : key.size ≤ 140737488355328) : Ev (fun k => spec_l04Seek.f k l key) (seekS l key) := by
  unfold spec_l04Seek.f
  rcases Nat.eq_zero_or_pos l.length with h | h
  · have e : seekS l key = -1 := by unfold seekS; rw [h]; rfl
    rw [e]
    simp only [if_pos (show (l.length : Int) = 0 by omega)]
    exact Ev.now _
  · simp only [if_neg (show ¬ (l.length : Int) = 0 by omega)]
    refine Ev.bind (spec_hash key hk 0) ?_
    rw [home_eq]
    have := spec_seek_loop l key h hl _ (home_lt _ key h) l.length 0 (by omega)
    rw [Nat.add_zero, Nat.mod_eq_of_lt (home_lt _ _ h)] at this
    exact this
def NE (l : List S57) : Prop := ∀ j, j < l.length → (cl l j).f0.toList ≠ [] → 0 ≤ (cl l j).f1
theorem cl_ge (l : List S57) (j : Nat) (h : l.length ≤ j) : cl l j = z57 := by
  unfold cl
  rw [List.getD_eq_getElem?_getD, List.getElem?_eq_none h]
  rfl
theorem z_nil : (z57 : S57).f0.toList = [] := by rw [Lib.toList_data]; rfl
theorem seek_same (l : List S57) (key : ByteArray) (h : NE l) (hk : key.toList ≠ []) : seekS l key = seekI l key := by
  unfold seekS seekI
  refine probe_congr l _ _ (fun j => ?_) _ _
  unfold mS mI
  by_cases e : (cl l j).f0.toList = key.toList
  · have hj : j < l.length := by
      rcases Nat.lt_or_ge j l.length with h | h
      · exact h
      · rw [cl_ge l j h, z_nil] at e
        exact absurd e.symm hk
    have := h j hj (by rw [e]; exact hk)
    rw [e]; simp [hk, this]
  · rw [beq_eq_false_iff_ne.2 e]; rfl
theorem seekI_nil (l : List S57) (key : ByteArray) (hk : key.toList = []) : seekI l key = -1 := by
  rcases seekI_range l key with h | ⟨j, _, _, h⟩
  · exact h
  · simp [mI, hk] at h
theorem sz_pos (s : ByteArray) (h : s.toList ≠ []) : 1 ≤ s.size := by
  rw [Lib.toList_data] at h
  have : s.data.toList.length = s.size := by simp
  rcases Nat.eq_zero_or_pos s.size with h0 | h0
  · exact absurd (List.eq_nil_of_length_eq_zero (by omega)) h
  · exact h0
theorem ba_ext {a b : ByteArray} (h : a.data.toList = b.data.toList) : a = b := by
  cases a; cases b
  simpa using h
theorem ba_toList_inj {a b : ByteArray} (h : a.toList = b.toList) : a = b := ba_ext (by rw [← Lib.toList_data, ← Lib.toList_data]; exact h)
theorem sorted_merge (L : List (List UInt8)) : (L.mergeSort fun x y => decide (x ≤ y)).Pairwise (fun x y => x ≤ y) := by
  have h := List.pairwise_mergeSort (le := fun (x y : List UInt8) => decide (x ≤ y)) (fun a b c h1 h2 => decide_eq_true (List.le_trans (of_decide_eq_true h1) (of_decide_eq_true h2))) (fun a b => by
    rcases List.le_total a b with h | h
    · simp [h]
    · simp [h]) L
  exact h.imp (fun h => of_decide_eq_true h)
theorem adj_nodup : ∀ M : List (List UInt8), M.Pairwise (fun x y => x ≤ y) → ((∀ j, 1 ≤ j → j < M.length → M.getD j [] ≠ M.getD (j - 1) []) ↔ M.Nodup)
  | [], _ => ⟨fun _ => List.nodup_nil, fun _ j h1 h2 => by simp at h2⟩
  | [a], _ => ⟨fun _ => by simp, fun _ j h1 h2 => by simp at h2; omega⟩
  | a :: b :: t, h => by
    have h1 := List.pairwise_cons.1 h
    have h2 := List.pairwise_cons.1 h1.2
    have ih := adj_nodup (b :: t) h1.2
    rw [List.nodup_cons, ← ih]
    constructor
    · intro g
      refine ⟨fun hm => ?_, fun j hj hl => ?_⟩
      · have hab : b ≠ a := by simpa using g 1 (by omega) (by simp)
        rcases List.mem_cons.1 hm with rfl | hm
        · exact hab rfl
        · exact hab (List.le_antisymm (h2.1 a hm) (h1.1 b (by simp)))
      · have := g (j + 1) (by omega) (by simpa using hl)
        obtain ⟨j, rfl⟩ : ∃ m, j = m + 1 := ⟨j - 1, by omega⟩
        simpa using this
    · rintro ⟨g1, g2⟩ j hj hl
      obtain ⟨j, rfl⟩ : ∃ m, j = m + 1 := ⟨j - 1, by omega⟩
      cases j with
      | zero =>
        simp only [Nat.zero_add, List.getD_cons_succ, List.getD_cons_zero, Nat.sub_self]
        intro e
        exact g1 (by rw [← e]; simp)
      | succ j => simpa using g2 (j + 1) (by omega) (by simpa using hl)
theorem bytesL_sortB (L : List ByteArray) : bytesL (sortB L) = (bytesL L).mergeSort fun x y => decide (x ≤ y) := by
  unfold sortB bytesL
  rw [List.map_map]
  conv => rhs; rw [← List.map_id ((L.map fun s => s.data.toList).mergeSort fun x y => decide (x ≤ y))]
  exact List.map_congr_left fun b _ => by simp
theorem bytesL_getD (L : List ByteArray) (j : Nat) : (bytesL L).getD j [] = (L.getD j ByteArray.empty).data.toList := by
  unfold bytesL
  rw [List.getD_eq_getElem?_getD, List.getD_eq_getElem?_getD, List.getElem?_map]
  cases L[j]? <;> rfl
theorem bytesL_inj {L M : List ByteArray} (h : bytesL L = bytesL M) : L = M := by
  have h2 := congrArg (List.map fun b : List UInt8 => (⟨b.toArray⟩ : ByteArray)) h
  have e : ∀ X : List ByteArray, (bytesL X).map (fun b : List UInt8 => (⟨b.toArray⟩ : ByteArray)) = X := fun X => by
    unfold bytesL
    rw [List.map_map]
    conv => rhs; rw [← List.map_id X]
    exact List.map_congr_left fun b _ => by simp
  rwa [e, e] at h2
theorem sort_adj (L : List ByteArray) : (∀ j, 1 ≤ j → j < (sortB L).length → ((sortB L).getD j ByteArray.empty).toList ≠ ((sortB L).getD (j - 1) ByteArray.empty).toList) ↔ (bytesL L).Nodup := by
  have h1 := adj_nodup _ (sorted_merge (bytesL L))
  rw [List.Perm.nodup_iff (List.mergeSort_perm (bytesL L) _), ← bytesL_sortB] at h1
  rw [← h1]
  have hl : (bytesL (sortB L)).length = (sortB L).length := by simp [bytesL]
  rw [hl]
  exact forall_congr' fun j => forall_congr' fun _ => forall_congr' fun _ => by rw [bytesL_getD, bytesL_getD, Lib.toList_data, Lib.toList_data]
def insL (L : List ByteArray) (x : ByteArray) : List ByteArray := L.filter (fun y => Op.bytesLess y.toList x.toList) ++ [x] ++ L.filter (fun y => !(Op.bytesLess y.toList x.toList))
def SortedB (L : List ByteArray) : Prop := (bytesL L).Pairwise (fun x y => x ≤ y)
theorem less_iff (a b : ByteArray) : Op.bytesLess a.toList b.toList = true ↔ a.data.toList < b.data.toList := by
  rw [Go.Proofs.bytesLess_eq, Lib.toList_data, Lib.toList_data, decide_eq_true_iff]
theorem insL_perm (L : List ByteArray) (x : ByteArray) : (insL L x).Perm (x :: L) := by
  unfold insL
  rw [List.append_assoc, List.singleton_append]
  refine List.perm_middle.trans (List.Perm.cons _ ?_)
  exact List.filter_append_perm _ _
theorem insL_sorted (L : List ByteArray) (x : ByteArray) (h : SortedB L) : SortedB (insL L x) := by
  unfold SortedB bytesL insL at *
  rw [List.pairwise_map] at h ⊢
  rw [List.pairwise_append, List.pairwise_append]
  have lt_le : ∀ a b : List UInt8, a < b → a ≤ b := fun a b => List.le_of_lt
  refine ⟨⟨h.filter _, by simp, fun a ha b hb => ?_⟩, h.filter _, fun a ha b hb => ?_⟩
  · rw [List.mem_filter] at ha
    rw [List.mem_singleton] at hb
    subst hb
    exact lt_le _ _ ((less_iff _ _).1 ha.2)
  · rw [List.mem_filter] at hb
    have hb2 : ¬ b.data.toList < x.data.toList := fun z => by
      have := (less_iff _ _).2 z
      rw [this] at hb
      exact absurd hb.2 (by simp)
    have hxb : x.data.toList ≤ b.data.toList := List.not_lt.1 hb2
    rcases List.mem_append.1 ha with ha | ha
    · rw [List.mem_filter] at ha
      exact List.le_trans (lt_le _ _ ((less_iff _ _).1 ha.2)) hxb
    · rw [List.mem_singleton] at ha
      subst ha
      exact hxb
theorem foldl_insL (K : List ByteArray) : ∀ L, SortedB L → SortedB (K.foldl insL L) ∧ (K.foldl insL L).Perm (L ++ K) := by
  induction K with
  | nil => intro L h; exact ⟨h, by simp⟩
  | cons x K ih =>
    intro L h
    obtain ⟨a, b⟩ := ih (insL L x) (insL_sorted L x h)
    refine ⟨a, b.trans ?_⟩
    exact ((insL_perm L x).append_right K).trans (List.perm_middle.symm)
theorem foldl_insL_sort (K : List ByteArray) : K.foldl insL [] = sortB K := by
  obtain ⟨h1, h2⟩ := foldl_insL K [] (by simp [SortedB, bytesL])
  refine bytesL_inj ?_
  rw [bytesL_sortB]
  refine List.Perm.eq_of_pairwise (le := fun x y => x ≤ y) (fun a b _ _ => List.le_antisymm) h1 (sorted_merge _) ?_
  refine (h2.map _).trans ?_
  rw [List.nil_append]
  exact (List.mergeSort_perm _ _).symm
def isN (x : S57) : Bool := (x.f0.toList == []) && (x.f1 == -1)
def gone (x : S57) : Prop := x.f0.toList = [] ∧ x.f1 = -2
def CellOk (s : List S57 → ByteArray → Int) (l : List S57) (j : Nat) : Prop :=
  ((cl l j).f0.toList = [] → (cl l j).f1 = -1 ∨ (cl l j).f1 = -2) ∧ ((cl l j).f0.toList ≠ [] → (cl l j).f0.size ≤ 12 ∧ 0 ≤ (cl l j).f1 ∧ s l (cl l j).f0 = (j : Int))
def CR (l : List S57) : Prop := ∀ j, j < l.length → CellOk seekI l j
def Small (l : List S57) : Prop := l.length ≤ 1048576 ∧ ∀ j, (cl l j).f0.size ≤ 140737488355328
theorem tr_right {p q : Prop} (h : p) : tr (p ∧ q) = tr q := tr_congr ⟨fun z => z.2, fun z => ⟨h, z⟩⟩
theorem impl_key (s : ByteArray) (h : s.toList ≠ []) : impl_isKey.f s = some (decide (s.size ≤ 12)) := by
  have := sz_pos s h
  unfold impl_isKey.f
  rw [impl_in]
  by_cases hs : s.size ≤ 12
  · rw [decide_eq_true (by omega), decide_eq_true hs]; rfl
  · rw [decide_eq_false (by omega), decide_eq_false hs]; rfl
theorem impl_cellsOk_loop (l : List S57) (hl : Small l) (d : Nat) : ∀ i : Nat, l.length - i = d → Ev (fun k => impl_cellsOk.l0 k l l (l.length : Int) (i : Int)) (tr (∀ j, i ≤ j → j < l.length → CellOk seekI l j)) := by
  obtain ⟨hl, hk⟩ := hl
  induction d with
  | zero =>
    intro i hd
    rw [tr_true (fun j h1 h2 => absurd h1 (by omega))]
    refine Ev.step (f := fun _ => some true) (fun k => ?_) (Ev.now _)
    simp only [impl_cellsOk.l0]
    rw [if_neg (by omega)]
  | succ d ih =>
    intro i hd
    have hn := ih (i + 1) (by omega)
    have e2 : Aside0 (wrap64 ((i : Int) + 1) = ((i + 1 : Nat) : Int)) := ⟨by rw [wrap64_id (by omega) (by omega)]; omega⟩
    rw [tr_congr (all_from (by omega))]
    by_cases hc : (cl l i).f0.toList = []
    · by_cases h1 : (cl l i).f1 = -1
      · rw [tr_right ⟨fun _ => .inl h1, fun h => absurd hc h⟩]
        refine Ev.step (fun k => ?_) hn
        simp only [impl_cellsOk.l0]
        rw [if_pos (by omega), if_pos (by omega), if_pos (by omega), rd_cl, if_pos hc, if_pos h1, e2.out]
      · by_cases h2 : (cl l i).f1 = -2
        · rw [tr_right ⟨fun _ => .inr h2, fun h => absurd hc h⟩]
          refine Ev.step (fun k => ?_) hn
          simp only [impl_cellsOk.l0]
          rw [if_pos (by omega), if_pos (by omega), if_pos (by omega), rd_cl, if_pos hc, if_neg h1, if_pos h2, e2.out]
        · rw [tr_false (fun z => by rcases z.1.1 hc with h | h; exact h1 h; exact h2 h)]
          refine Ev.step (f := fun _ => some false) (fun k => ?_) (Ev.now _)
          simp only [impl_cellsOk.l0]
          rw [if_pos (by omega), if_pos (by omega), if_pos (by omega), rd_cl, if_pos hc, if_neg h1, if_neg h2]
    · by_cases h1 : (cl l i).f0.size ≤ 12
      · by_cases h2 : (cl l i).f1 < 0
        · rw [tr_false (fun z => by have := (z.1.2 hc).2.1; omega)]
          refine Ev.step (f := fun _ => some false) (fun k => ?_) (Ev.now _)
          simp only [impl_cellsOk.l0]
          rw [if_pos (by omega), if_pos (by omega), if_pos (by omega), rd_cl, if_neg hc, impl_key _ hc, Option.bind_some, if_pos (decide_eq_true h1), if_pos h2]
        · refine Ev.step (f := fun k => (impl_seek.f k l (cl l i).f0).bind fun t => if t = (i : Int) then impl_cellsOk.l0 k l l (l.length : Int) ((i + 1 : Nat) : Int) else some false) (fun k => ?_) (Ev.bind (impl_seek_ev l _ hl (hk i)) ?_)
          · simp only [impl_cellsOk.l0]
            rw [if_pos (by omega), if_pos (by omega), if_pos (by omega), rd_cl, if_neg hc, impl_key _ hc, Option.bind_some, if_pos (decide_eq_true h1), if_neg h2, e2.out]
          · by_cases h3 : seekI l (cl l i).f0 = (i : Int)
            · rw [tr_right ⟨fun h => absurd h hc, fun _ => ⟨h1, by omega, h3⟩⟩]
              simp only [if_pos h3]
              exact hn
            · rw [tr_false (fun z => h3 (z.1.2 hc).2.2)]
              simp only [if_neg h3]
              exact Ev.now _
      · rw [tr_false (fun z => h1 (z.1.2 hc).1)]
        refine Ev.step (f := fun _ => some false) (fun k => ?_) (Ev.now _)
        simp only [impl_cellsOk.l0]
        rw [if_pos (by omega), if_pos (by omega), if_pos (by omega), rd_cl, if_neg hc, impl_key _ hc, Option.bind_some, if_neg (by simp [h1])]
theorem impl_cellsOk_ev (l : List S57) (hl : Small l) : Ev (fun k => impl_cellsOk.f k l) (tr (CR l)) := by
  unfold impl_cellsOk.f
  rw [show tr (CR l) = tr (∀ j, 0 ≤ j → j < l.length → CellOk seekI l j) from tr_congr ⟨fun h j _ hj => h j hj, fun h j hj => h j (Nat.zero_le _) hj⟩]
  exact impl_cellsOk_loop l hl _ 0 rfl
theorem spec_right_loop (l : List S57) (hl : Small l) (d : Nat) : ∀ (i : Nat) (b : Bool), l.length - i = d → Ev (fun k => spec_l04Right.l0 k l b (i : Int)) (tr ((∀ j, i ≤ j → j < l.length → CellOk seekS l j) ∧ (b = true ∨ ∃ j, i ≤ j ∧ j < l.length ∧ isN (cl l j) = true))) := by
  obtain ⟨hl, hk⟩ := hl
  induction d with
  | zero =>
    intro i b hd
    rw [tr_congr (q := b = true) ⟨fun h => h.2.elim id (fun ⟨j, h1, h2, _⟩ => absurd h1 (by omega)), fun h => ⟨fun j h1 h2 => absurd h1 (by omega), .inl h⟩⟩]
    have e : tr (b = true) = b := by
      cases b
      · exact tr_false (by simp)
      · exact tr_true rfl
    rw [e]
    refine Ev.step (f := fun _ => some b) (fun k => ?_) (Ev.now _)
    simp only [spec_l04Right.l0]
    rw [if_neg (by omega)]
  | succ d ih =>
    intro i b hd
    have e2 : Aside0 (wrap64 ((i : Int) + 1) = ((i + 1 : Nat) : Int)) := ⟨by rw [wrap64_id (by omega) (by omega)]; omega⟩
    have hall := all_from (P := fun j => CellOk seekS l j) (i := i) (n := l.length) (by omega)
    have hex : (∃ j, i ≤ j ∧ j < l.length ∧ isN (cl l j) = true) ↔ (isN (cl l i) = true ∨ ∃ j, i + 1 ≤ j ∧ j < l.length ∧ isN (cl l j) = true) := by
      constructor
      · rintro ⟨j, h1, h2, h3⟩
        rcases Nat.eq_or_lt_of_le h1 with rfl | h
        · exact .inl h3
        · exact .inr ⟨j, h, h2, h3⟩
      · rintro (h | ⟨j, h1, h2, h3⟩)
        · exact ⟨i, Nat.le_refl _, by omega, h⟩
        · exact ⟨j, by omega, h2, h3⟩
    rw [hall, hex]
    clear hall hex
    by_cases hc : (cl l i).f0.toList = []
    · have hj : ∀ x30 : Bool, x30 = true → Ev (fun k => spec_l04Right.j1 k l b (i : Int) x30 (cl l i).f0 (cl l i).f1) false := fun x hx => by
        refine Ev.step (f := fun _ => some false) (fun k => ?_) (Ev.now _)
        simp only [spec_l04Right.j1]
        rw [if_pos hx]
      have hj2 : ∀ r, Ev (fun k => spec_l04Right.l0 k l (b || ((cl l i).f1 == -1)) ((i + 1 : Nat) : Int)) r → Ev (fun k => spec_l04Right.j1 k l b (i : Int) false (cl l i).f0 (cl l i).f1) r := fun r hr => by
        refine Ev.step (fun k => ?_) hr
        simp only [spec_l04Right.j1]
        rw [if_neg (by simp), e2.out]
        cases b
        · rw [if_neg (by simp)]; rfl
        · rw [if_pos rfl]; rfl
      by_cases h1 : (cl l i).f1 = -1
      · have hn := ih (i + 1) true (by omega)
        have hi : isN (cl l i) = true := by simp [isN, hc, h1]
        rw [tr_congr (q := (∀ j, i + 1 ≤ j → j < l.length → CellOk seekS l j) ∧ (true = true ∨ ∃ j, i + 1 ≤ j ∧ j < l.length ∧ isN (cl l j) = true)) ⟨fun z => ⟨z.1.2, .inl rfl⟩, fun z => ⟨⟨⟨fun _ => .inl h1, fun h => absurd hc h⟩, z.1⟩, .inr (.inl hi)⟩⟩]
        refine Ev.step (fun k => ?_) (hj2 _ (by rw [h1, show ((-1 : Int) == -1) = true from rfl, Bool.or_true]; exact hn))
        simp only [spec_l04Right.l0]
        rw [if_pos (by omega), if_pos (by omega), rd_cl, if_pos hc, if_pos h1]
      · by_cases h2 : (cl l i).f1 = -2
        · have hn := ih (i + 1) b (by omega)
          have hi : isN (cl l i) = false := by simp [isN, h2]
          rw [tr_congr (q := (∀ j, i + 1 ≤ j → j < l.length → CellOk seekS l j) ∧ (b = true ∨ ∃ j, i + 1 ≤ j ∧ j < l.length ∧ isN (cl l j) = true)) ⟨fun z => ⟨z.1.2, z.2.elim .inl (fun z => z.elim (fun z => by rw [hi] at z; cases z) .inr)⟩, fun z => ⟨⟨⟨fun _ => .inr h2, fun h => absurd hc h⟩, z.1⟩, z.2.elim .inl (fun z => .inr (.inr z))⟩⟩]
          refine Ev.step (fun k => ?_) (hj2 _ (by rw [h2, show ((-2 : Int) == -1) = false from rfl, Bool.or_false]; exact hn))
          simp only [spec_l04Right.l0]
          rw [if_pos (by omega), if_pos (by omega), rd_cl, if_pos hc, if_neg h1, h2]
          rfl
        · rw [tr_false (fun z => by rcases z.1.1.1 hc with h | h; exact h1 h; exact h2 h)]
          refine Ev.step (fun k => ?_) (hj ((cl l i).f1 != -2) (by simpa using h2))
          simp only [spec_l04Right.l0]
          rw [if_pos (by omega), if_pos (by omega), rd_cl, if_pos hc, if_neg h1]
    · by_cases h1 : (cl l i).f0.size ≤ 12
      · by_cases h2 : (cl l i).f1 < 0
        · rw [tr_false (fun z => by have := (z.1.1.2 hc).2.1; omega)]
          refine Ev.step (f := fun _ => some false) (fun k => ?_) (Ev.now _)
          simp only [spec_l04Right.l0]
          rw [if_pos (by omega), if_pos (by omega), rd_cl, if_neg hc, if_neg (by omega), if_pos h2]
        · refine Ev.step (f := fun k => (spec_l04Seek.f k l (cl l i).f0).bind fun t => if t = (i : Int) then spec_l04Right.l0 k l b ((i + 1 : Nat) : Int) else some false) (fun k => ?_) (Ev.bind (spec_seek_ev l _ hl (hk i)) ?_)
          · simp only [spec_l04Right.l0]
            rw [if_pos (by omega), if_pos (by omega), rd_cl, if_neg hc, if_neg (by omega), if_neg h2, e2.out]
          · by_cases h3 : seekS l (cl l i).f0 = (i : Int)
            · have hi : isN (cl l i) = false := by simp [isN, hc]
              rw [tr_congr (q := (∀ j, i + 1 ≤ j → j < l.length → CellOk seekS l j) ∧ (b = true ∨ ∃ j, i + 1 ≤ j ∧ j < l.length ∧ isN (cl l j) = true)) ⟨fun z => ⟨z.1.2, z.2.elim .inl (fun z => z.elim (fun z => by rw [hi] at z; cases z) .inr)⟩, fun z => ⟨⟨⟨fun h => absurd h hc, fun _ => ⟨h1, by omega, h3⟩⟩, z.1⟩, z.2.elim .inl (fun z => .inr (.inr z))⟩⟩]
              simp only [if_pos h3]
              exact ih (i + 1) b (by omega)
            · rw [tr_false (fun z => h3 (z.1.1.2 hc).2.2)]
              simp only [if_neg h3]
              exact Ev.now _
      · rw [tr_false (fun z => h1 (z.1.1.2 hc).1)]
        refine Ev.step (f := fun _ => some false) (fun k => ?_) (Ev.now _)
        simp only [spec_l04Right.l0]
        rw [if_pos (by omega), if_pos (by omega), rd_cl, if_neg hc, if_pos (by omega)]
theorem CR_same (l : List S57) : (∀ j, j < l.length → CellOk seekS l j) ↔ CR l := by
  have ne : ∀ s, (∀ j, j < l.length → CellOk s l j) → NE l := fun s h j hj hc => ((h j hj).2 hc).2.1
  constructor
  · intro h j hj
    refine ⟨(h j hj).1, fun hc => ?_⟩
    have := (h j hj).2 hc
    rw [seek_same l _ (ne _ h) hc] at this
    exact this
  · intro h j hj
    refine ⟨(h j hj).1, fun hc => ?_⟩
    have := (h j hj).2 hc
    rw [← seek_same l _ (ne _ h) hc] at this
    exact this
theorem CR_NE {l : List S57} (h : CR l) : NE l := fun j hj hc => ((h j hj).2 hc).2.1
def HasN (l : List S57) : Prop := ∃ j, j < l.length ∧ isN (cl l j) = true
theorem spec_right_ev (l : List S57) (hl : Small l) (a : Bool) : Ev (fun k => spec_l04Right.f k l a) (tr (CR l ∧ (a = true → HasN l))) := by
  unfold spec_l04Right.f
  have h := spec_right_loop l hl _ 0 (!a) rfl
  have e : tr (CR l ∧ (a = true → HasN l)) = tr ((∀ j, 0 ≤ j → j < l.length → CellOk seekS l j) ∧ ((!a) = true ∨ ∃ j, 0 ≤ j ∧ j < l.length ∧ isN (cl l j) = true)) := by
    refine tr_congr ?_
    rw [← CR_same]
    refine and_congr ⟨fun h j _ hj => h j hj, fun h j hj => h j (Nat.zero_le _) hj⟩ ?_
    cases a
    · simp
    · simp only [Bool.not_true, Bool.false_eq_true, false_or, forall_const]
      exact ⟨fun ⟨j, h1, h2⟩ => ⟨j, Nat.zero_le _, h1, h2⟩, fun ⟨j, _, h1, h2⟩ => ⟨j, h1, h2⟩⟩
  rw [e]
  exact h
theorem drop_cl (l : List S57) (i : Nat) (h : i < l.length) : l.drop i = cl l i :: l.drop (i + 1) := by
  have e : cl l i = l[i] := by unfold cl; rw [List.getD_eq_getElem?_getD, List.getElem?_eq_getElem h]; rfl
  rw [e]
  exact List.drop_eq_getElem_cons h
theorem impl_nones_loop (l : List S57) (hl : l.length ≤ 1048576) (d : Nat) : ∀ i a : Nat, l.length - i = d → a ≤ i → Ev (fun k => impl_nones.l0 k (a : Int) l (l.length : Int) (i : Int)) ((a + (l.drop i).countP isN : Nat) : Int) := by
  induction d with
  | zero =>
    intro i a hd ha
    rw [List.drop_eq_nil_of_le (by omega)]
    refine Ev.step (f := fun _ => some (a : Int)) (fun k => ?_) (Ev.now _)
    simp only [impl_nones.l0]
    rw [if_neg (by omega)]
  | succ d ih =>
    intro i a hd ha
    have e2 : Aside0 (wrap64 ((i : Int) + 1) = ((i + 1 : Nat) : Int)) := ⟨by rw [wrap64_id (by omega) (by omega)]; omega⟩
    have e3 : Aside0 (wrap64 ((a : Int) + 1) = ((a + 1 : Nat) : Int)) := ⟨by rw [wrap64_id (by omega) (by omega)]; omega⟩
    rw [drop_cl l i (by omega), List.countP_cons]
    have hy := ih (i + 1) (a + 1) (by omega) (by omega)
    have hn := ih (i + 1) a (by omega) (by omega)
    by_cases hc : (cl l i).f0.toList = []
    · by_cases h1 : (cl l i).f1 = -1
      · rw [if_pos (show isN (cl l i) = true by simp [isN, hc, h1]), show a + (List.countP isN (List.drop (i + 1) l) + 1) = a + 1 + List.countP isN (List.drop (i + 1) l) by omega]
        refine Ev.step (fun k => ?_) hy
        simp only [impl_nones.l0]
        rw [if_pos (by omega), if_pos (by omega), if_pos (by omega), rd_cl, if_pos hc, if_pos h1, e2.out, e3.out]
      · rw [if_neg (show ¬ isN (cl l i) = true by simp [isN, h1])]
        refine Ev.step (fun k => ?_) hn
        simp only [impl_nones.l0]
        rw [if_pos (by omega), if_pos (by omega), if_pos (by omega), rd_cl, if_pos hc, if_neg h1, e2.out]
    · rw [if_neg (show ¬ isN (cl l i) = true by simp [isN, hc])]
      refine Ev.step (fun k => ?_) hn
      simp only [impl_nones.l0]
      rw [if_pos (by omega), if_pos (by omega), if_pos (by omega), rd_cl, if_neg hc, e2.out]
theorem impl_nones_ev (l : List S57) (hl : l.length ≤ 1048576) : Ev (fun k => impl_nones.f k l) ((l.countP isN : Nat) : Int) := by
  unfold impl_nones.f
  simpa using impl_nones_loop l hl _ 0 0 rfl (Nat.le_refl _)
theorem HasN_count (l : List S57) : HasN l ↔ 0 < l.countP isN := by
  rw [List.countP_pos_iff]
  constructor
  · rintro ⟨j, h1, h2⟩
    exact ⟨_, getD_mem l z57 j h1, h2⟩
  · rintro ⟨x, hx, h⟩
    obtain ⟨j, hj, e⟩ := List.getElem_of_mem hx
    refine ⟨j, hj, ?_⟩
    have e2 : cl l j = l[j] := by unfold cl; rw [List.getD_eq_getElem?_getD, List.getElem?_eq_getElem hj]; rfl
    rw [e2, e]
    exact h
def keysL (l : List S57) : List ByteArray := (l.filter fun x => x.f0.toList != []).map (·.f0)
theorem keysL_cons (x : S57) (l : List S57) : keysL (x :: l) = if x.f0.toList = [] then keysL l else x.f0 :: keysL l := by
  unfold keysL
  by_cases h : x.f0.toList = []
  · rw [if_pos h, List.filter_cons_of_neg (by simp [h])]
  · rw [if_neg h, List.filter_cons_of_pos (by simpa using h)]
    rfl
theorem keysL_append (a b : List S57) : keysL (a ++ b) = keysL a ++ keysL b := by simp [keysL]
theorem keysL_length (l : List S57) : (keysL l).length ≤ l.length := by
  unfold keysL
  rw [List.length_map]
  exact List.length_filter_le _ _
theorem impl_keys_loop (l : List S57) (hl : l.length ≤ 2097152) (d : Nat) : ∀ (i : Nat) (acc : List ByteArray), l.length - i = d → acc.length ≤ i → i ≤ l.length → Ev (fun k => impl_Table_keys.l0 k acc l (l.length : Int) (i : Int)) (sortB (acc ++ keysL (l.drop i))) := by
  induction d with
  | zero =>
    intro i acc hd ha hi
    rw [List.drop_eq_nil_of_le (by omega), show keysL ([] : List S57) = [] from rfl, List.append_nil]
    refine Ev.step (f := fun _ => some (sortB acc)) (fun k => ?_) (Ev.now _)
    simp only [impl_Table_keys.l0]
    rw [if_neg (by omega)]
    unfold slices_Sort_string_string.f
    rw [if_pos (by omega)]
    rfl
  | succ d ih =>
    intro i acc hd ha hi
    have e2 : Aside0 (wrap64 ((i : Int) + 1) = ((i + 1 : Nat) : Int)) := ⟨by rw [wrap64_id (by omega) (by omega)]; omega⟩
    rw [drop_cl l i (by omega), keysL_cons]
    by_cases hc : (cl l i).f0.toList = []
    · rw [if_pos hc]
      refine Ev.step (fun k => ?_) (ih (i + 1) acc (by omega) (by omega) (by omega))
      simp only [impl_Table_keys.l0]
      rw [if_pos (by omega), if_pos (by omega), if_pos (by omega), rd_cl, if_pos hc, e2.out]
    · rw [if_neg hc]
      have h := ih (i + 1) (acc ++ [(cl l i).f0]) (by omega) (by simp; omega) (by omega)
      rw [List.append_assoc, List.singleton_append] at h
      refine Ev.step (fun k => ?_) h
      simp only [impl_Table_keys.l0]
      rw [if_pos (by omega), if_pos (by omega), if_pos (by omega), rd_cl, if_neg hc, if_pos (by omega), e2.out]
def SizeP (n : Nat) : Prop := n = 4 ∨ n = 8 ∨ n = 16 ∨ n = 32 ∨ n = 64
theorem impl_size (n : Nat) : impl_isSize.f (n : Int) = some (tr (SizeP n)) := by
  unfold impl_isSize.f
  by_cases h : SizeP n
  · rw [tr_true h]
    unfold SizeP at h
    rcases h with rfl | rfl | rfl | rfl | rfl <;> rfl
  · rw [tr_false h]
    unfold SizeP at h
    rw [if_neg (by omega), if_neg (by omega), if_neg (by omega), if_neg (by omega), if_neg (by omega)]
theorem spec_size (n : Nat) : spec_l04Size.f (n : Int) = some (tr (SizeP n)) := by
  unfold spec_l04Size.f
  by_cases h : SizeP n
  · rw [tr_true h]
    unfold SizeP at h
    rcases h with rfl | rfl | rfl | rfl | rfl <;> rfl
  · rw [tr_false h]
    unfold SizeP at h
    rw [if_neg (by omega), if_neg (by omega), if_neg (by omega), if_neg (by omega)]
    have : ¬ (n : Int) = 64 := by omega
    simp [this]
theorem impl_concat (c o : List S57) (hc : c.length ≤ 1048576) (ho : o.length ≤ 1048576) : Ev (fun k => impl_Cell_83.f k [c, o]) (c ++ o) := by
  have e1 : wrap64 (0 + (c.length : Int)) = (c.length : Int) := by rw [wrap64_id (by omega) (by omega)]; omega
  have e2 : wrap64 ((c.length : Int) + (o.length : Int)) = ((c.length + o.length : Nat) : Int) := by rw [wrap64_id (by omega) (by omega)]; omega
  have w1 : wrap64 (0 + 1) = 1 := wrap64_id (by omega) (by omega)
  have w2 : wrap64 (1 + 1) = 2 := wrap64_id (by omega) (by omega)
  have r0 : rd_L5 [c, o] 0 = c := rfl
  have r1 : rd_L5 [c, o] 1 = o := rfl
  have n2 : (([c, o] : List (List S57)).length : Int) = 2 := rfl
  have a : Ev (fun k => impl_Cell_83.l1 k ([] : List S57) [c, o] 2 0) (c ++ o) := by
    refine Ev.step (f := fun k => impl_Cell_83.l1 k c [c, o] 2 1) (fun k => ?_) (Ev.step (f := fun k => impl_Cell_83.l1 k (c ++ o) [c, o] 2 2) (fun k => ?_) (Ev.step (f := fun _ => some (c ++ o)) (fun k => ?_) (Ev.now _)))
    · simp only [impl_Cell_83.l1, n2, r0, w1]
      rw [if_pos (by omega), if_pos (by omega), if_pos (by omega), if_pos (by simp; omega)]
      rfl
    · simp only [impl_Cell_83.l1, n2, r1, w2]
      rw [if_pos (by omega), if_pos (by omega), if_pos (by omega), if_pos (by omega)]
    · simp only [impl_Cell_83.l1]
      rw [if_neg (by omega)]
  unfold impl_Cell_83.f
  refine Ev.step (f := fun k => impl_Cell_83.l0 k [c, o] (c.length : Int) [c, o] 2 1) (fun k => ?_) (Ev.step (f := fun k => impl_Cell_83.l0 k [c, o] ((c.length + o.length : Nat) : Int) [c, o] 2 2) (fun k => ?_) (Ev.step (fun k => ?_) a))
  · simp only [impl_Cell_83.l0, n2, r0, w1, e1]
    rw [if_pos (by omega), if_pos (by omega), if_pos (by omega), if_neg (by omega)]
  · simp only [impl_Cell_83.l0, n2, r1, w2, e2]
    rw [if_pos (by omega), if_pos (by omega), if_pos (by omega), if_neg (by omega)]
  · simp only [impl_Cell_83.l0, n2]
    rw [if_neg (by omega)]
    unfold impl_Cell_91.f
    rw [if_pos (show ([] : List S57).length = 0 from rfl), if_pos (by omega), if_pos (by omega)]
    rfl
theorem impl_keys_ev (c o : List S57) (mv : Int) (hc : c.length ≤ 1048576) (ho : o.length ≤ 1048576) : Ev (fun k => impl_Table_keys.f k c o mv) (sortB (keysL (c ++ o))) := by
  unfold impl_Table_keys.f
  refine Ev.bind (impl_concat c o hc ho) ?_
  simpa using impl_keys_loop (c ++ o) (by simp; omega) _ 0 [] rfl (Nat.le_refl _) (Nat.zero_le _)
def Keyless (c o : List S57) : Prop := (bytesL (keysL (c ++ o))).Nodup
def TR (c o : List S57) (mv : Int) : Prop :=
  SizeP c.length ∧ (o.length = 0 ∨ 2 * o.length = c.length) ∧ (0 ≤ mv ∧ mv ≤ (o.length : Int)) ∧ (∀ j, j < mv.toNat → gone (cl o j)) ∧ Keyless c o ∧ CR c ∧ CR o ∧ HasN c
theorem impl_ok_last (c o : List S57) (mv : Int) (hc : Small c) (ho : Small o) (ks : List ByteArray) (hk : ks.length ≤ 2097152) (d : Nat) : ∀ i : Nat, ks.length - i = d → 1 ≤ i → Ev (fun k => impl_TableOk.l1 k ks (i : Int) c o mv) (tr ((∀ j, i ≤ j → j < ks.length → (ks.getD j ByteArray.empty).toList ≠ (ks.getD (j - 1) ByteArray.empty).toList) ∧ CR c ∧ CR o ∧ HasN c)) := by
  induction d with
  | zero =>
    intro i hd hi
    rw [tr_right (fun j h1 h2 => absurd h1 (by omega))]
    refine Ev.step (f := fun k => (impl_cellsOk.f k c).bind fun t147 => (if t147 = true then ((impl_cellsOk.f k o).bind fun t148 => (if t148 = true then ((impl_nones.f k c).bind fun t149 => (some (decide (t149 > 0)))) else (some false))) else (some false))) (fun k => ?_) (Ev.bind (impl_cellsOk_ev c hc) ?_)
    · simp only [impl_TableOk.l1]
      rw [if_neg (by omega)]
    · by_cases h1 : CR c
      · rw [tr_right h1]
        simp only [tr_true h1, if_true]
        refine Ev.bind (impl_cellsOk_ev o ho) ?_
        by_cases h2 : CR o
        · rw [tr_right h2]
          simp only [tr_true h2, if_true]
          refine Ev.bind (impl_nones_ev c hc.1) ?_
          rw [tr_congr (HasN_count c), ← tr_dec (p := 0 < c.countP isN)]
          rw [show decide (((c.countP isN : Nat) : Int) > 0) = decide (0 < c.countP isN) from decide_eq_decide.2 (by omega)]
          exact Ev.now _
        · rw [tr_false (p := CR o ∧ HasN c) (fun z => h2 z.1)]
          simp only [tr_false h2]
          exact Ev.now _
      · rw [tr_false (p := CR c ∧ CR o ∧ HasN c) (fun z => h1 z.1)]
        simp only [tr_false h1]
        exact Ev.now _
  | succ d ih =>
    intro i hd hi
    have hn := ih (i + 1) (by omega) (by omega)
    have e2 : Aside0 (wrap64 ((i : Int) + 1) = ((i + 1 : Nat) : Int)) := ⟨by rw [wrap64_id (by omega) (by omega)]; omega⟩
    have e3 : Aside0 (wrap64 ((i : Int) - 1) = ((i - 1 : Nat) : Int)) := ⟨by rw [wrap64_id (by omega) (by omega)]; omega⟩
    have r0 : ∀ j : Nat, rdOf ByteArray.empty ks (j : Int) = ks.getD j ByteArray.empty := fun j => rfl
    rw [all_from (P := fun j => (ks.getD j ByteArray.empty).toList ≠ (ks.getD (j - 1) ByteArray.empty).toList) (by omega), and_assoc]
    by_cases he : (ks.getD i ByteArray.empty).toList = (ks.getD (i - 1) ByteArray.empty).toList
    · rw [tr_false (fun z => z.1 he)]
      refine Ev.step (f := fun _ => some false) (fun k => ?_) (Ev.now _)
      simp only [impl_TableOk.l1]
      rw [if_pos (by omega), if_pos (by omega), e3.out, if_pos (by omega), if_pos (by omega), r0, r0, if_pos he]
    · rw [tr_right he]
      refine Ev.step (fun k => ?_) hn
      simp only [impl_TableOk.l1]
      rw [if_pos (by omega), if_pos (by omega), e3.out, if_pos (by omega), if_pos (by omega), r0, r0, if_neg he, e2.out]
theorem sortB_len (L : List ByteArray) : (sortB L).length = L.length := sortB_length L
theorem impl_ok_gone (c o : List S57) (mv : Int) (hc : Small c) (ho : Small o) (y : List S57) (hy : y.length ≤ 1048576) (d : Nat) : ∀ i : Nat, y.length - i = d → Ev (fun k => impl_TableOk.l0 k y (y.length : Int) (i : Int) c o mv) (tr ((∀ j, i ≤ j → j < y.length → gone (cl y j)) ∧ Keyless c o ∧ CR c ∧ CR o ∧ HasN c)) := by
  induction d with
  | zero =>
    intro i hd
    rw [tr_right (fun j h1 h2 => absurd h1 (by omega))]
    refine Ev.step (f := fun k => (impl_Table_keys.f k c o mv).bind fun t142 => (impl_TableOk.l1 k t142 1 c o mv)) (fun k => ?_) (Ev.bind (impl_keys_ev c o mv hc.1 ho.1) ?_)
    · simp only [impl_TableOk.l0]
      rw [if_neg (by omega)]
    · have h := impl_ok_last c o mv hc ho (sortB (keysL (c ++ o))) (by rw [sortB_len]; have := keysL_length (c ++ o); have h1 := hc.1; have h2 := ho.1; simp at this; omega) _ 1 rfl (Nat.le_refl _)
      rw [sort_adj] at h
      exact h
  | succ d ih =>
    intro i hd
    have hn := ih (i + 1) (by omega)
    have e2 : Aside0 (wrap64 ((i : Int) + 1) = ((i + 1 : Nat) : Int)) := ⟨by rw [wrap64_id (by omega) (by omega)]; omega⟩
    rw [all_from (P := fun j => gone (cl y j)) (by omega), and_assoc]
    by_cases he : gone (cl y i)
    · rw [tr_right he]
      refine Ev.step (fun k => ?_) hn
      simp only [impl_TableOk.l0]
      rw [if_pos (by omega), if_pos (by omega), if_pos (by omega), rd_cl, if_neg (by simp [he.1, he.2]), e2.out]
    · rw [tr_false (fun z => he z.1)]
      refine Ev.step (f := fun _ => some false) (fun k => ?_) (Ev.now _)
      have hb : (!((cl y i).f0.toList == ([] : List UInt8)) || !((cl y i).f1 == -2)) = true := by
        by_cases h1 : (cl y i).f0.toList = []
        · have h2 : ¬ (cl y i).f1 = -2 := fun z => he ⟨h1, z⟩
          rw [beq_eq_false_iff_ne.2 h2, Bool.not_false, Bool.or_true]
        · rw [beq_eq_false_iff_ne.2 h1]; rfl
      simp only [impl_TableOk.l0]
      rw [if_pos (by omega), if_pos (by omega), if_pos (by omega), rd_cl, if_pos hb]
theorem impl_ok_j0 (c o : List S57) (mv : Int) (hc : Small c) (ho : Small o) (hs : SizeP c.length) (hl : o.length = 0 ∨ 2 * o.length = c.length) : Ev (fun k => impl_TableOk.j0 k (!(decide (0 ≤ mv ∧ mv ≤ (o.length : Int)))) c o mv) (tr (TR c o mv)) := by
  by_cases hm : 0 ≤ mv ∧ mv ≤ (o.length : Int)
  · obtain ⟨m, rfl⟩ := Int.eq_ofNat_of_zero_le hm.1
    have h := impl_ok_gone c o (m : Int) hc ho (o.take m) (by simp; have := ho.1; omega) _ 0 rfl
    have e : tr (TR c o (m : Int)) = tr ((∀ j, 0 ≤ j → j < (o.take m).length → gone (cl (o.take m) j)) ∧ Keyless c o ∧ CR c ∧ CR o ∧ HasN c) := by
      refine tr_congr ⟨fun z => ⟨fun j _ hj => ?_, z.2.2.2.2⟩, fun z => ⟨hs, hl, hm, fun j hj => ?_, z.2⟩⟩
      · have hj' : j < m := by simp at hj; omega
        have := z.2.2.2.1 j (by simpa using hj')
        unfold cl at *
        rwa [List.getD_eq_getElem?_getD, List.getElem?_take_of_lt hj', ← List.getD_eq_getElem?_getD]
      · have hj' : j < m := by simpa using hj
        have := z.1 j (Nat.zero_le _) (by simp; omega)
        unfold cl at *
        rwa [List.getD_eq_getElem?_getD, List.getElem?_take_of_lt hj', ← List.getD_eq_getElem?_getD] at this
    rw [e, decide_eq_true hm]
    refine Ev.step (fun k => ?_) h
    simp only [impl_TableOk.j0]
    rw [if_neg (by simp), if_pos hm.1, if_pos hm.2]
    rfl
  · rw [tr_false (fun z => hm z.2.2.1), decide_eq_false hm]
    refine Ev.step (f := fun _ => some false) (fun k => ?_) (Ev.now _)
    simp only [impl_TableOk.j0]
    rw [if_pos (by simp)]
theorem impl_TableOk_ev (c o : List S57) (mv : Int) (hc : Small c) (ho : Small o) : Ev (fun k => impl_TableOk.f k c o mv) (tr (TR c o mv)) := by
  have hj : ¬ (TR c o mv) → Ev (fun k => impl_TableOk.j0 k true c o mv) (tr (TR c o mv)) := fun h => by
    rw [tr_false h]
    refine Ev.step (f := fun _ => some false) (fun k => ?_) (Ev.now _)
    simp only [impl_TableOk.j0]
    rw [if_pos trivial]
  have h1 := hc.1
  have h2 := ho.1
  have e2 : Aside0 (wrap64 (2 * (o.length : Int)) = 2 * (o.length : Int)) := ⟨wrap64_id (by omega) (by omega)⟩
  unfold impl_TableOk.f
  simp only [impl_size, impl_in, Option.bind_some, e2.out]
  by_cases hs : SizeP c.length
  · simp only [tr_true hs, if_true]
    by_cases h0 : (o.length : Int) = 0
    · simp only [if_pos h0]
      exact impl_ok_j0 c o mv hc ho hs (.inl (by omega))
    · simp only [if_neg h0]
      by_cases h3 : 2 * (o.length : Int) = (c.length : Int)
      · simp only [if_pos h3]
        exact impl_ok_j0 c o mv hc ho hs (.inr (by omega))
      · simp only [if_neg h3]
        exact hj (fun z => by have := z.2.1; omega)
  · simp only [tr_false hs]
    exact hj (fun z => hs z.1)
def OldOk (c o : List S57) (mv : Int) (j : Nat) : Prop := ((j : Int) < mv → gone (cl o j)) ∧ ((cl o j).f0.toList ≠ [] → seekS c (cl o j).f0 < 0)
theorem spec_ok_loop (c o : List S57) (mv : Int) (hc : Small c) (ho : Small o) (d : Nat) : ∀ i : Nat, o.length - i = d → Ev (fun k => spec_TableOk.l0 k (i : Int) c o mv) (tr (∀ j, i ≤ j → j < o.length → OldOk c o mv j)) := by
  have h1 := ho.1
  induction d with
  | zero =>
    intro i hd
    rw [tr_true (fun j h1 h2 => absurd h1 (by omega))]
    refine Ev.step (f := fun _ => some true) (fun k => ?_) (Ev.now _)
    simp only [spec_TableOk.l0]
    rw [if_neg (by omega)]
  | succ d ih =>
    intro i hd
    have hn := ih (i + 1) (by omega)
    have e2 : Aside0 (wrap64 ((i : Int) + 1) = ((i + 1 : Nat) : Int)) := ⟨by rw [wrap64_id (by omega) (by omega)]; omega⟩
    rw [tr_congr (all_from (by omega))]
    by_cases hm : (i : Int) < mv
    · by_cases hk : (cl o i).f0.toList = []
      · by_cases hh : (cl o i).f1 = -2
        · rw [tr_right ⟨fun _ => ⟨hk, hh⟩, fun z => absurd hk z⟩]
          refine Ev.step (fun k => ?_) hn
          simp only [spec_TableOk.l0]
          rw [if_pos (by omega), if_pos (by omega), if_pos hm, rd_cl, if_pos hk, if_pos hh, e2.out]
        · rw [tr_false (fun z => hh (z.1.1 hm).2)]
          refine Ev.step (f := fun _ => some false) (fun k => ?_) (Ev.now _)
          simp only [spec_TableOk.l0]
          rw [if_pos (by omega), if_pos (by omega), if_pos hm, rd_cl, if_pos hk, if_neg hh]
      · rw [tr_false (fun z => hk (z.1.1 hm).1)]
        refine Ev.step (f := fun _ => some false) (fun k => ?_) (Ev.now _)
        simp only [spec_TableOk.l0]
        rw [if_pos (by omega), if_pos (by omega), if_pos hm, rd_cl, if_neg hk]
    · by_cases hk : (cl o i).f0.toList = []
      · rw [tr_right ⟨fun z => absurd z hm, fun z => absurd hk z⟩]
        refine Ev.step (fun k => ?_) hn
        simp only [spec_TableOk.l0]
        rw [if_pos (by omega), if_pos (by omega), if_neg hm, rd_cl, if_pos hk, e2.out]
      · refine Ev.step (f := fun k => (spec_l04Seek.f k c (cl o i).f0).bind fun t => if t ≥ 0 then some false else spec_TableOk.l0 k ((i + 1 : Nat) : Int) c o mv) (fun k => ?_) (Ev.bind (spec_seek_ev c _ hc.1 (ho.2 i)) ?_)
        · simp only [spec_TableOk.l0]
          rw [if_pos (by omega), if_pos (by omega), if_neg hm, rd_cl, if_neg hk, e2.out]
        · by_cases hs : seekS c (cl o i).f0 ≥ 0
          · rw [tr_false (fun z => by have := z.1.2 hk; omega)]
            simp only [if_pos hs]
            exact Ev.now _
          · rw [tr_right ⟨fun z => absurd z hm, fun _ => by omega⟩]
            simp only [if_neg hs]
            exact hn
def TRs (c o : List S57) (mv : Int) : Prop :=
  SizeP c.length ∧ (o.length = 0 ∨ 2 * o.length = c.length) ∧ (0 ≤ mv ∧ mv ≤ (o.length : Int)) ∧ (CR c ∧ HasN c) ∧ CR o ∧ ∀ j, j < o.length → OldOk c o mv j
theorem spec_TableOk_evs (c o : List S57) (mv : Int) (hc : Small c) (ho : Small o) : Ev (fun k => spec_TableOk.f k c o mv) (tr (TRs c o mv)) := by
  have hj : ¬ (TRs c o mv) → Ev (fun k => spec_TableOk.j0 k true c o mv) (tr (TRs c o mv)) := fun h => by
    rw [tr_false h]
    refine Ev.step (f := fun _ => some false) (fun k => ?_) (Ev.now _)
    simp only [spec_TableOk.j0]
    rw [if_pos trivial]
  have h1 := hc.1
  have h2 := ho.1
  have e2 : Aside0 (wrap64 (2 * (o.length : Int)) = 2 * (o.length : Int)) := ⟨wrap64_id (by omega) (by omega)⟩
  have body : SizeP c.length → (o.length = 0 ∨ 2 * o.length = c.length) → Ev (fun k => if decide (0 ≤ mv ∧ mv ≤ (o.length : Int)) = true then ((spec_l04Right.f k c true).bind fun t200 => (if t200 = true then ((spec_l04Right.f k o false).bind fun t201 => (spec_TableOk.j0 k (!t201) c o mv)) else (spec_TableOk.j0 k true c o mv))) else (spec_TableOk.j0 k true c o mv)) (tr (TRs c o mv)) := fun hs hl => by
    by_cases hm : 0 ≤ mv ∧ mv ≤ (o.length : Int)
    · simp only [decide_eq_true hm, if_true]
      have hr1 : Ev (fun k => spec_l04Right.f k c true) (tr (CR c ∧ HasN c)) := by simpa using spec_right_ev c hc true
      have hr2 : Ev (fun k => spec_l04Right.f k o false) (tr (CR o)) := by simpa using spec_right_ev o ho false
      refine Ev.bind hr1 ?_
      by_cases g1 : CR c ∧ HasN c
      · simp only [tr_true g1, if_true]
        refine Ev.bind hr2 ?_
        by_cases g2 : CR o
        · rw [tr_true g2]
          have e : tr (TRs c o mv) = tr (∀ j, 0 ≤ j → j < o.length → OldOk c o mv j) := tr_congr ⟨fun z j _ hj => z.2.2.2.2.2 j hj, fun z => ⟨hs, hl, hm, g1, g2, fun j hj => z j (Nat.zero_le _) hj⟩⟩
          rw [e]
          refine Ev.step (fun k => ?_) (spec_ok_loop c o mv hc ho _ 0 rfl)
          simp only [spec_TableOk.j0]
          rw [if_neg (by simp)]
          rfl
        · rw [tr_false g2]
          exact hj (fun z => g2 z.2.2.2.2.1)
      · simp only [tr_false g1]
        exact hj (fun z => g1 z.2.2.2.1)
    · simp only [decide_eq_false hm]
      exact hj (fun z => hm z.2.2.1)
  unfold spec_TableOk.f
  simp only [spec_size, spec_in, Option.bind_some, e2.out]
  by_cases hs : SizeP c.length
  · simp only [tr_true hs, if_true]
    by_cases h0 : (o.length : Int) = 0
    · simp only [if_pos h0]
      exact body hs (.inl (by omega))
    · simp only [if_neg h0]
      by_cases h3 : 2 * (o.length : Int) = (c.length : Int)
      · simp only [if_pos h3]
        exact body hs (.inr (by omega))
      · simp only [if_neg h3]
        exact hj (fun z => by have := z.2.1; omega)
  · simp only [tr_false hs]
    exact hj (fun z => hs z.1)
theorem bytes_keys (l : List S57) : bytesL (keysL l) = (l.filter fun x => x.f0.toList != []).map fun x => x.f0.data.toList := by
  unfold bytesL keysL
  rw [List.map_map]
  rfl
theorem cl_get (l : List S57) (j : Nat) (h : j < l.length) : cl l j = l[j] := by unfold cl; rw [List.getD_eq_getElem?_getD, List.getElem?_eq_getElem h]; rfl
theorem mem_keys (l : List S57) (b : List UInt8) : b ∈ bytesL (keysL l) ↔ ∃ j, j < l.length ∧ (cl l j).f0.toList ≠ [] ∧ (cl l j).f0.toList = b := by
  rw [bytes_keys, List.mem_map]
  constructor
  · rintro ⟨x, hx, e⟩
    rw [List.mem_filter] at hx
    obtain ⟨j, hj, e2⟩ := List.getElem_of_mem hx.1
    refine ⟨j, hj, ?_, ?_⟩
    · rw [cl_get l j hj, e2]; simpa using hx.2
    · rw [cl_get l j hj, e2, Lib.toList_data]; exact e
  · rintro ⟨j, hj, h1, h2⟩
    refine ⟨cl l j, ?_, by rw [← Lib.toList_data]; exact h2⟩
    rw [List.mem_filter]
    exact ⟨by rw [cl_get l j hj]; exact List.getElem_mem _, by simpa using h1⟩
theorem CR_nodup (l : List S57) (h : CR l) : (bytesL (keysL l)).Nodup := by
  rw [bytes_keys]
  unfold List.Nodup
  rw [List.pairwise_map, List.pairwise_filter, List.pairwise_iff_getElem]
  intro i j hi hj hij h1 h2 e
  have hi1 := ((h i hi).2 (by rw [cl_get l i hi]; simpa using h1)).2.2
  have hj1 := ((h j hj).2 (by rw [cl_get l j hj]; simpa using h2)).2.2
  rw [cl_get l i hi] at hi1
  rw [cl_get l j hj] at hj1
  rw [ba_ext e, hj1] at hi1
  omega
theorem Keyless_iff (c o : List S57) (hc : CR c) (ho : CR o) : Keyless c o ↔ ∀ j, j < o.length → (cl o j).f0.toList ≠ [] → seekI c (cl o j).f0 < 0 := by
  unfold Keyless
  rw [keysL_append, show bytesL (keysL c ++ keysL o) = bytesL (keysL c) ++ bytesL (keysL o) by simp [bytesL], List.nodup_append]
  constructor
  · rintro ⟨_, _, h⟩ j hj hk
    rcases seekI_range c (cl o j).f0 with e | ⟨p, hp, e, hm⟩
    · omega
    · exfalso
      have hm' : (cl c p).f0.toList = (cl o j).f0.toList := by
        unfold mI at hm
        rw [Bool.and_eq_true] at hm
        simpa using hm.1
      exact h _ ((mem_keys c _).2 ⟨p, hp, by rw [hm']; exact hk, hm'⟩) _ ((mem_keys o _).2 ⟨j, hj, hk, rfl⟩) rfl
  · intro h
    refine ⟨CR_nodup c hc, CR_nodup o ho, fun a ha b hb e => ?_⟩
    subst e
    obtain ⟨p, hp, h1, h2⟩ := (mem_keys c a).1 ha
    obtain ⟨j, hj, h3, h4⟩ := (mem_keys o a).1 hb
    have := h j hj h3
    rw [ba_toList_inj (h4.trans h2.symm), ((hc p hp).2 h1).2.2] at this
    omega
theorem TR_same (c o : List S57) (mv : Int) : TRs c o mv ↔ TR c o mv := by
  constructor
  · rintro ⟨h1, h2, h3, h4, h5, h6⟩
    refine ⟨h1, h2, h3, fun j hj => (h6 j (by omega)).1 (by omega), (Keyless_iff c o h4.1 h5).2 (fun j hj hk => ?_), h4.1, h5, h4.2⟩
    rw [← seek_same c _ (CR_NE h4.1) hk]
    exact (h6 j hj).2 hk
  · rintro ⟨h1, h2, h3, h4, h5, h6, h7, h8⟩
    refine ⟨h1, h2, h3, ⟨h6, h8⟩, h7, fun j hj => ⟨fun hm => h4 j (by omega), fun hk => ?_⟩⟩
    rw [seek_same c _ (CR_NE h6) hk]
    exact (Keyless_iff c o h6 h7).1 h5 j hj hk
theorem spec_TableOk_ev (c o : List S57) (mv : Int) (hc : Small c) (ho : Small o) : Ev (fun k => spec_TableOk.f k c o mv) (tr (TR c o mv)) := by
  rw [← tr_congr (TR_same c o mv)]
  exact spec_TableOk_evs c o mv hc ho
theorem eq_cells_loop (l : List S57) (hl : l.length ≤ 1048576) (d : Nat) : ∀ (i : Nat), l.length - i = d → Ev (fun k => laws_eqCellS.l0 k l l (i : Int)) true := by
  induction d with
  | zero =>
    intro i hd
    refine Ev.step (f := fun _ => some true) (fun k => ?_) (Ev.now _)
    simp only [laws_eqCellS.l0]
    rw [if_neg (by omega)]
  | succ d ih =>
    intro i hd
    have e : ∀ x : S57, laws_eqCell.f x.f0 x.f1 x.f0 x.f1 = some true := fun x => by simp [laws_eqCell.f]
    refine Ev.step (fun k => ?_) (ih (i + 1) (by omega))
    simp only [laws_eqCellS.l0]
    rw [if_pos (by omega), if_pos (by omega), if_pos (by omega), e, Option.bind_some, if_pos rfl, wrap64_id (by omega) (by omega)]
    rfl
theorem eq_cells (l : List S57) (hl : l.length ≤ 1048576) : Ev (fun k => laws_eqCellS.f k l l) true := by
  unfold laws_eqCellS.f
  simp only [if_true]
  exact eq_cells_loop l hl _ 0 rfl
theorem eq_table (c o : List S57) (mv : Int) (hc : c.length ≤ 1048576) (ho : o.length ≤ 1048576) : Ev (fun k => laws_eqTable.f k c o mv c o mv) true := by
  unfold laws_eqTable.f
  refine Ev.bind (eq_cells c hc) ?_
  simp only [if_true]
  refine Ev.bind (eq_cells o ho) ?_
  simp only [if_true]
  exact Ev.now _
def toC (x : S95) : S57 := ⟨x.f0, x.f1⟩
theorem map_getD (l : List S95) (i : Nat) (h : i < l.length) : (l.map toC).getD i z57 = toC (l.getD i z95) := by
  simp [List.getD_eq_getElem?_getD, List.getElem?_eq_getElem h]
theorem to_cells_loop (l : List S95) (hl : l.length ≤ 1048576) (d : Nat) : ∀ (x : List S57) (i : Nat), l.length - i = d → i ≤ l.length → x.length = l.length → x.take i = (l.map toC).take i → Ev (fun k => laws_toCellS.l0 k l x (i : Int)) (l.map toC) := by
  induction d with
  | zero =>
    intro x i hd hi hx ht
    have e : x = l.map toC := take_all (by simpa using hx) (by rw [List.length_map, show l.length = i by omega]; exact ht)
    refine Ev.step (f := fun _ => some x) (fun k => ?_) (by rw [e]; exact Ev.now _)
    simp only [laws_toCellS.l0]
    rw [if_neg (by omega)]
  | succ d ih =>
    intro x i hd hi hx ht
    have h := ih (x.set i ((l.map toC).getD i z57)) (i + 1) (by omega) (by omega) (by simp [hx]) (set_take (l.map toC) x z57 i (by simp; omega) (by simpa using hx) ht)
    rw [map_getD l i (by omega)] at h
    refine Ev.step (fun k => ?_) h
    simp only [laws_toCellS.l0, laws_toCell.f, Option.bind_some]
    rw [if_pos (by omega), if_pos (by omega), if_pos (by omega), wrap64_id (by omega) (by omega)]
    rfl
theorem to_cells (l : List S95) (hl : l.length ≤ 1048576) : Ev (fun k => laws_toCellS.f k l) (l.map toC) := by
  unfold laws_toCellS.f
  have e : ((l.length : Int)).toNat = l.length := by omega
  simp only [e, if_pos (show 0 ≤ (l.length : Int) by omega), if_pos (show l.length ≤ 11728124029610 by omega)]
  exact to_cells_loop l hl _ _ 0 rfl (by omega) (by simp) (by simp)
theorem to_table (c o : List S95) (mv : Int) (hc : c.length ≤ 1048576) (ho : o.length ≤ 1048576) : Ev (fun k => laws_toTable.f k c o mv) (c.map toC, o.map toC, mv) := by
  unfold laws_toTable.f
  exact Ev.bind (to_cells c hc) (Ev.bind (to_cells o ho) (Ev.now _))
def CellWf (x : S95) : Prop := x.f0.size ≤ maxLen ∧ (Lit.int .i64 x.f1).wf = true
theorem sz_cells_loop (l : List S95) (hw : ∀ y ∈ l, CellWf y) (hl : l.length ≤ 1048576) (d : Nat) : ∀ (left : Int) (i : Nat), l.length - i = d → 0 ≤ left → left ≤ 1048576 → ∃ r, Ev (fun k => laws_szCellS.l0 k l left (i : Int)) r ∧ r ≤ 1048576 ∧ (0 ≤ r → ∀ j, i ≤ j → j < l.length → (l.getD j z95).f0.size ≤ 1048576) := by
  induction d with
  | zero =>
    intro left i hd h0 h1
    refine ⟨left, Ev.step (f := fun _ => some left) (fun k => ?_) (Ev.now _), h1, fun _ j h2 h3 => absurd h2 (by omega)⟩
    simp only [laws_szCellS.l0]
    rw [if_neg (by omega)]
  | succ d ih =>
    intro left i hd h0 h1
    obtain ⟨hk, _⟩ := hw _ (getD_mem l z95 i (by omega))
    unfold maxLen at hk
    have er : rd_T95 l (i : Int) = l.getD i z95 := rfl
    have e1 : Aside0 (wrap64 (left - ((l.getD i z95).f0.size : Int)) = left - ((l.getD i z95).f0.size : Int)) := ⟨wrap64_id (by omega) (by omega)⟩
    have ei : Aside0 (wrap64 ((i : Int) + 1) = ((i + 1 : Nat) : Int)) := ⟨by rw [wrap64_id (by omega) (by omega)]; omega⟩
    by_cases ha : left - ((l.getD i z95).f0.size : Int) < 0
    · refine ⟨-1, Ev.step (f := fun _ => some (-1)) (fun k => ?_) (Ev.now _), by omega, by omega⟩
      simp only [laws_szCellS.l0, laws_szCell.f]
      rw [if_pos (by omega), if_pos (by omega), er, e1.out, if_pos ha]
      rfl
    · obtain ⟨r, hr, hr1, hr2⟩ := ih (left - ((l.getD i z95).f0.size : Int)) (i + 1) (by omega) (by omega) (by omega)
      refine ⟨r, Ev.step (fun k => ?_) hr, hr1, fun h => ?_⟩
      · simp only [laws_szCellS.l0, laws_szCell.f]
        rw [if_pos (by omega), if_pos (by omega), er, e1.out, if_neg ha, Option.bind_some, if_neg ha, ei.out]
      · have hs : (l.getD i z95).f0.size ≤ 1048576 := by omega
        exact (all_from (P := fun j => (l.getD j z95).f0.size ≤ 1048576) (by omega)).2 ⟨hs, hr2 h⟩
def SmallL (l : List S95) : Prop := l.length ≤ 1048576 ∧ ∀ j, j < l.length → (l.getD j z95).f0.size ≤ 1048576
theorem sz_cells (l : List S95) (left : Int) (hl : l.length ≤ maxLen ∧ ∀ y ∈ l, CellWf y) (h0 : 0 ≤ left) (h1 : left ≤ 1048576) : ∃ r, Ev (fun k => laws_szCellS.f k l left) r ∧ r ≤ 1048576 ∧ (0 ≤ r → SmallL l) := by
  obtain ⟨hl, hw⟩ := hl
  unfold maxLen at hl
  unfold laws_szCellS.f
  have e1 : Aside0 (wrap64 (left - (l.length : Int)) = left - (l.length : Int)) := ⟨wrap64_id (by omega) (by omega)⟩
  simp only [e1.out]
  by_cases h : left - (l.length : Int) < 0
  · simp only [if_pos h]
    exact ⟨-1, Ev.now _, by omega, by omega⟩
  · simp only [if_neg h]
    obtain ⟨r, hr, hr1, hr2⟩ := sz_cells_loop l hw (by omega) _ (left - (l.length : Int)) 0 rfl (by omega) (by omega)
    exact ⟨r, hr, hr1, fun h => ⟨by omega, fun j hj => hr2 h j (Nat.zero_le _) hj⟩⟩
theorem sz_table (c o : List S95) (mv : Int) (hc : c.length ≤ maxLen ∧ ∀ y ∈ c, CellWf y) (ho : o.length ≤ maxLen ∧ ∀ y ∈ o, CellWf y) : ∃ r, Ev (fun k => laws_szTable.f k c o mv 1048576) r ∧ (0 ≤ r → SmallL c ∧ SmallL o) := by
  unfold laws_szTable.f
  obtain ⟨r, hr, hr1, hr2⟩ := sz_cells c 1048576 hc (by omega) (by omega)
  by_cases h : r < 0
  · refine ⟨-1, Ev.bind hr ?_, by omega⟩
    simp only [if_pos h]
    exact Ev.now _
  · obtain ⟨q, hq, hq1, hq2⟩ := sz_cells o r ho (by omega) hr1
    by_cases h2 : q < 0
    · refine ⟨-1, Ev.bind hr ?_, by omega⟩
      simp only [if_neg h]
      refine Ev.bind hq ?_
      simp only [if_pos h2]
      exact Ev.now _
    · refine ⟨q, Ev.bind hr ?_, fun _ => ⟨hr2 (by omega), hq2 (by omega)⟩⟩
      simp only [if_neg h]
      refine Ev.bind hq ?_
      simp only [if_neg h2]
      exact Ev.now _
theorem small_map (l : List S95) (h : SmallL l) : Small (l.map toC) := by
  refine ⟨by simpa using h.1, fun j => ?_⟩
  rcases Nat.lt_or_ge j l.length with hj | hj
  · have := h.2 j hj
    unfold cl
    rw [map_getD l j hj]
    show (l.getD j z95).f0.size ≤ _
    omega
  · rw [cl_ge _ j (by simpa using hj)]
    exact Nat.zero_le _
abbrev TV := List S57 × List S57 × Int × Bool
def badV : TV := ([], [], 0, false)
theorem size_le {n : Nat} (h : SizeP n) : 4 ≤ n ∧ n ≤ 64 := by unfold SizeP at h; omega
def goneC : S57 := ⟨(⟨#[]⟩ : ByteArray), (-2)⟩
def freeP (l : List S57) : Nat → Nat → Int
  | 0, _ => -1
  | d + 1, p => if (cl l p).f0.toList = [] then (p : Int) else freeP l d ((p + 1) % l.length)
theorem freeP_range (l : List S57) (d : Nat) : ∀ p, p < l.length → freeP l d p = -1 ∨ ∃ q : Nat, q < l.length ∧ freeP l d p = (q : Int) ∧ (cl l q).f0.toList = [] := by
  induction d with
  | zero => intro p _; exact .inl rfl
  | succ d ih =>
    intro p hp
    simp only [freeP]
    by_cases h : (cl l p).f0.toList = []
    · rw [if_pos h]; exact .inr ⟨p, hp, rfl, h⟩
    · rw [if_neg h]; exact ih _ (Nat.mod_lt _ (by omega))
theorem freeP_none (l : List S57) (d : Nat) : ∀ p, p < l.length → freeP l d p = -1 → ∀ i, i < d → (cl l ((p + i) % l.length)).f0.toList ≠ [] := by
  induction d with
  | zero => intro p _ _ i hi; omega
  | succ d ih =>
    intro p hp h i hi
    simp only [freeP] at h
    by_cases hc : (cl l p).f0.toList = []
    · rw [if_pos hc] at h; omega
    · rw [if_neg hc] at h
      cases i with
      | zero => rw [Nat.add_zero, Nat.mod_eq_of_lt hp]; exact hc
      | succ i =>
        have := ih _ (Nat.mod_lt _ (by omega)) h i (by omega)
        rw [Nat.mod_add_mod] at this
        rwa [show p + (i + 1) = p + 1 + i by omega]
theorem freeP_some (l : List S57) (h : HasN l) (p : Nat) (hp : p < l.length) : ∃ q : Nat, q < l.length ∧ freeP l l.length p = (q : Int) ∧ (cl l q).f0.toList = [] := by
  rcases freeP_range l l.length p hp with h1 | h1
  · exfalso
    obtain ⟨j, hj, hn⟩ := h
    have he : (cl l j).f0.toList = [] := by
      unfold isN at hn
      rw [Bool.and_eq_true] at hn
      simpa using hn.1
    rcases Nat.lt_or_ge j p with hjp | hjp
    · have := freeP_none l _ p hp h1 (j + l.length - p) (by omega)
      rw [show p + (j + l.length - p) = j + l.length by omega, Nat.add_mod_right, Nat.mod_eq_of_lt hj] at this
      exact this he
    · have := freeP_none l _ p hp h1 (j - p) (by omega)
      rw [show p + (j - p) = j by omega, Nat.mod_eq_of_lt hj] at this
      exact this he
  · exact h1
def clearO (o : List S57) (key : ByteArray) : List S57 := if 0 ≤ seekI o key then o.set (seekI o key).toNat goneC else o
def freeAt (c : List S57) (key : ByteArray) : Nat := (freeP c c.length (home c.length key)).toNat
def noRoom (c : List S57) (key : ByteArray) : Prop := (cl c (freeAt c key)).f1 = -1 ∧ c.countP isN = 1
noncomputable def putC (c o : List S57) (key : ByteArray) (h : Int) : Bool × List S57 × List S57 :=
  if 0 ≤ seekI c key then (true, c.set (seekI c key).toNat ⟨key, h⟩, clearO o key)
  else if tr (noRoom c key) = true then (false, c, o) else (true, c.set (freeAt c key) ⟨key, h⟩, clearO o key)
theorem seek_lt' (l : List S57) (key : ByteArray) : seekI l key < (l.length : Int) := by
  rcases seekI_range l key with h | ⟨j, hj, h, _⟩ <;> omega
theorem impl_put_tail (c2 o : List S57) (key : ByteArray) (ho : o.length ≤ 1048576) (hk : key.size ≤ 140737488355328) : Ev (fun k => (impl_seek.f k o key).bind fun t284 => (if t284 ≥ 0 then (if 0 ≤ t284 then (if t284 < (o.length : Int) then (some (true, c2, (o.set (t284 : Int).toNat (⟨(⟨#[]⟩ : ByteArray), (-2)⟩ : S57)))) else (none)) else (none)) else (some (true, c2, o)))) (true, c2, clearO o key) := by
  have h2 := seek_lt' o key
  refine Ev.bind (impl_seek_ev o key ho hk) ?_
  unfold clearO
  by_cases h : 0 ≤ seekI o key
  · simp only [ge_iff_le, if_pos h, if_pos h2]
    exact Ev.now _
  · simp only [ge_iff_le, if_neg h]
    exact Ev.now _
theorem impl_put_loop (c o : List S57) (mv h : Int) (key : ByteArray) (hc : c.length ≤ 1048576) (ho : o.length ≤ 1048576) (hk : key.size ≤ 140737488355328) (d : Nat) : ∀ (p q : Nat), p < c.length → freeP c d p = (q : Int) → Ev (fun k => impl_Table_put.l0 k key h (p : Int) c o mv) (if tr ((cl c q).f1 = -1 ∧ c.countP isN = 1) = true then (false, c, o) else (true, c.set q ⟨key, h⟩, clearO o key)) := by
  induction d with
  | zero => intro p q _ h; simp only [freeP] at h; omega
  | succ d ih =>
    intro p q hp hf
    simp only [freeP] at hf
    by_cases he : (cl c p).f0.toList = []
    · rw [if_pos he] at hf
      obtain rfl : p = q := by omega
      have hj : ∀ b : Bool, Ev (fun k => impl_Table_put.j1 k key h (p : Int) b c o mv) (if b = true then (false, c, o) else (true, c.set p ⟨key, h⟩, clearO o key)) := fun b => by
        cases b with
        | true =>
          refine Ev.step (f := fun _ => some (false, c, o)) (fun k => ?_) (Ev.now _)
          simp only [impl_Table_put.j1]
          rw [if_pos trivial]
        | false =>
          refine Ev.step (fun k => ?_) (impl_put_tail (c.set p ⟨key, h⟩) o key ho hk)
          simp only [impl_Table_put.j1]
          rw [if_neg (by simp), if_pos (by omega), if_pos (by omega)]
          rfl
      by_cases h1 : (cl c p).f1 = -1
      · refine Ev.step (f := fun k => (impl_nones.f k c).bind fun t282 => impl_Table_put.j1 k key h (p : Int) (t282 == 1) c o mv) (fun k => ?_) (Ev.bind (impl_nones_ev c hc) ?_)
        · simp only [impl_Table_put.l0]
          rw [if_pos (by omega), if_pos (by omega), rd_cl, if_pos he, if_pos h1]
        · have e : tr ((cl c p).f1 = -1 ∧ c.countP isN = 1) = (((c.countP isN : Nat) : Int) == 1) := by
            by_cases h2 : c.countP isN = 1
            · rw [tr_true ⟨h1, h2⟩, h2]; rfl
            · rw [tr_false (fun z => h2 z.2)]
              exact (beq_eq_false_iff_ne.2 (by omega)).symm
          rw [e]
          exact hj _
      · rw [tr_false (fun z => h1 z.1)]
        refine Ev.step (fun k => ?_) (hj false)
        simp only [impl_Table_put.l0]
        rw [if_pos (by omega), if_pos (by omega), rd_cl, if_pos he, if_neg h1]
    · rw [if_neg he] at hf
      have e1 : Aside0 (Int.tmod (wrap64 ((p : Int) + 1)) (c.length : Int) = (((p + 1) % c.length : Nat) : Int)) := ⟨tmod_nat (p + 1) c.length (by omega)⟩
      refine Ev.step (fun k => ?_) (ih ((p + 1) % c.length) q (Nat.mod_lt _ (by omega)) hf)
      simp only [impl_Table_put.l0]
      rw [if_pos (by omega), if_pos (by omega), rd_cl, if_neg he, if_neg (by omega), e1.out]
theorem impl_put_ev (c o : List S57) (mv h : Int) (key : ByteArray) (hc : c.length ≤ 1048576) (ho : o.length ≤ 1048576) (hk : key.size ≤ 140737488355328) (hn : HasN c) : Ev (fun k => impl_Table_put.f k c o mv key h) (putC c o key h) := by
  have h1 := seek_lt' c key
  have hpos : 0 < c.length := by obtain ⟨j, hj, _⟩ := hn; omega
  unfold impl_Table_put.f putC
  refine Ev.bind (impl_seek_ev c key hc hk) ?_
  by_cases g : 0 ≤ seekI c key
  · simp only [if_neg (show ¬ seekI c key < 0 by omega), if_pos g, if_pos h1, Option.bind_some]
    exact impl_put_tail _ o key ho hk
  · simp only [if_pos (show seekI c key < 0 by omega), if_neg g]
    refine Ev.bind (impl_hash key hk 0) ?_
    simp only [if_neg (show ¬ (c.length : Int) = 0 by omega), home_eq]
    obtain ⟨q, hq, hf, _⟩ := freeP_some c hn (home c.length key) (home_lt _ _ hpos)
    have hh := impl_put_loop c o mv h key hc ho hk c.length _ q (home_lt _ _ hpos) hf
    have e : freeAt c key = q := by unfold freeAt; rw [hf]; omega
    unfold noRoom
    rw [e]
    exact hh
theorem spec_free_last (c : List S57) (none_ : Int) (hc : c.length ≤ 1048576) (h : Nat) (hh : h < c.length) (d : Nat) : ∀ i : Nat, i + d = c.length → Ev (fun k => spec_l04Free.l1 k c none_ (c.length : Int) (h : Int) (i : Int)) (freeP c d ((h + i) % c.length), none_) := by
  induction d with
  | zero =>
    intro i hi
    refine Ev.step (f := fun _ => some (-1, none_)) (fun k => ?_) (Ev.now _)
    simp only [spec_l04Free.l1]
    rw [if_neg (by omega)]
  | succ d ih =>
    intro i hi
    have hn := ih (i + 1) (by omega)
    have e0 : (h + (i + 1)) % c.length = ((h + i) % c.length + 1) % c.length := by rw [Nat.mod_add_mod]; rfl
    rw [e0] at hn
    have e1 : Int.tmod (wrap64 ((h : Int) + (i : Int))) (c.length : Int) = (((h + i) % c.length : Nat) : Int) := tmod_nat (h + i) c.length (by omega)
    have e2 : wrap64 ((i : Int) + 1) = ((i + 1 : Nat) : Int) := by rw [wrap64_id (by omega) (by omega)]; omega
    have hp : (h + i) % c.length < c.length := Nat.mod_lt _ (by omega)
    generalize (h + i) % c.length = p at hn e1 hp ⊢
    have hp' : freeP c (d + 1) p = if (cl c p).f0.toList = [] then (p : Int) else freeP c d ((p + 1) % c.length) := rfl
    rw [hp']
    by_cases he : (cl c p).f0.toList = []
    · rw [if_pos he]
      refine Ev.step (f := fun _ => some ((p : Int), none_)) (fun k => ?_) (Ev.now _)
      simp only [spec_l04Free.l1]
      rw [if_pos (by omega), if_neg (by omega), e1, if_pos (by omega), if_pos (by omega), rd_cl, if_pos he]
    · rw [if_neg he]
      refine Ev.step (fun k => ?_) hn
      simp only [spec_l04Free.l1]
      rw [if_pos (by omega), if_neg (by omega), e1, if_pos (by omega), if_pos (by omega), rd_cl, if_neg he, e2]
theorem spec_free_loop (c : List S57) (key : ByteArray) (hc : c.length ≤ 1048576) (hpos : 0 < c.length) (hk : key.size ≤ 140737488355328) (d : Nat) : ∀ i a : Nat, c.length - i = d → a ≤ i → Ev (fun k => spec_l04Free.l0 k c key (a : Int) (i : Int)) (freeP c c.length (home c.length key), ((a + (c.drop i).countP isN : Nat) : Int)) := by
  induction d with
  | zero =>
    intro i a hd ha
    rw [List.drop_eq_nil_of_le (by omega)]
    refine Ev.step (f := fun k => (spec_HashOf.f k key 0).bind fun t187 => (if (c.length : Int) = 0 then (none) else (spec_l04Free.l1 k c (a : Int) (c.length : Int) (Int.tmod t187 (c.length : Int)) 0))) (fun k => ?_) (Ev.bind (spec_hash key hk 0) ?_)
    · simp only [spec_l04Free.l0]
      rw [if_neg (by omega)]
    · simp only [if_neg (show ¬ (c.length : Int) = 0 by omega), home_eq]
      have hh := spec_free_last c (a : Int) hc _ (home_lt _ key hpos) c.length 0 (by omega)
      rw [Nat.add_zero, Nat.mod_eq_of_lt (home_lt _ _ hpos)] at hh
      exact hh
  | succ d ih =>
    intro i a hd ha
    have e2 : Aside0 (wrap64 ((i : Int) + 1) = ((i + 1 : Nat) : Int)) := ⟨by rw [wrap64_id (by omega) (by omega)]; omega⟩
    have e3 : Aside0 (wrap64 ((a : Int) + 1) = ((a + 1 : Nat) : Int)) := ⟨by rw [wrap64_id (by omega) (by omega)]; omega⟩
    rw [drop_cl c i (by omega), List.countP_cons]
    have hy := ih (i + 1) (a + 1) (by omega) (by omega)
    have hn := ih (i + 1) a (by omega) (by omega)
    by_cases hc0 : (cl c i).f0.toList = []
    · by_cases h1 : (cl c i).f1 = -1
      · rw [if_pos (show isN (cl c i) = true by simp [isN, hc0, h1]), show a + (List.countP isN (List.drop (i + 1) c) + 1) = a + 1 + List.countP isN (List.drop (i + 1) c) by omega]
        refine Ev.step (fun k => ?_) hy
        simp only [spec_l04Free.l0]
        rw [if_pos (by omega), if_pos (by omega), rd_cl, if_pos hc0, if_pos h1, e2.out, e3.out]
      · rw [if_neg (show ¬ isN (cl c i) = true by simp [isN, h1])]
        refine Ev.step (fun k => ?_) hn
        simp only [spec_l04Free.l0]
        rw [if_pos (by omega), if_pos (by omega), rd_cl, if_pos hc0, if_neg h1, e2.out]
    · rw [if_neg (show ¬ isN (cl c i) = true by simp [isN, hc0])]
      refine Ev.step (fun k => ?_) hn
      simp only [spec_l04Free.l0]
      rw [if_pos (by omega), if_pos (by omega), rd_cl, if_neg hc0, e2.out]
noncomputable def sput (c : List S57) (key : ByteArray) (h : Int) : Bool × List S57 := if tr (noRoom c key) = true then (false, c) else (true, c.set (freeAt c key) ⟨key, h⟩)
theorem spec_put_ev (c : List S57) (key : ByteArray) (h : Int) (hc : c.length ≤ 1048576) (hk : key.size ≤ 140737488355328) (hn : HasN c) : Ev (fun k => spec_l04Put.f k c key h) (sput c key h) := by
  have hpos : 0 < c.length := by obtain ⟨j, hj, _⟩ := hn; omega
  obtain ⟨q, hq, hf, _⟩ := freeP_some c hn (home c.length key) (home_lt _ _ hpos)
  have e : freeAt c key = q := by unfold freeAt; rw [hf]; omega
  have hcount : 0 < c.countP isN := (HasN_count c).1 hn
  have hfree := spec_free_loop c key hc hpos hk _ 0 0 rfl (Nat.le_refl _)
  rw [List.drop_zero, Nat.zero_add, hf] at hfree
  unfold spec_l04Put.f sput noRoom
  refine Ev.bind (by unfold spec_l04Free.f; exact hfree) ?_
  rw [e]
  have rq : rd_T57 c ((q : Int), ((c.countP isN : Nat) : Int)).1 = cl c q := rfl
  have q1 : ¬ ((q : Int), ((c.countP isN : Nat) : Int)).1 < 0 := by show ¬ (q : Int) < 0; omega
  have q2 : 0 ≤ ((q : Int), ((c.countP isN : Nat) : Int)).1 := by show 0 ≤ (q : Int); omega
  have q3 : ((q : Int), ((c.countP isN : Nat) : Int)).1 < (c.length : Int) := by show (q : Int) < _; omega
  by_cases h1 : ((c.countP isN : Nat) : Int) ≤ 1
  · have h1' : ((q : Int), ((c.countP isN : Nat) : Int)).2 ≤ 1 := h1
    by_cases h2 : (cl c q).f1 = -1
    · rw [tr_true ⟨h2, by omega⟩, if_neg q1, if_pos h1', if_pos q2, if_pos q3, rq, if_pos h2, if_pos rfl]
      exact Ev.now _
    · rw [tr_false (fun z => h2 z.1), if_neg q1, if_pos h1', if_pos q2, if_pos q3, rq, if_neg h2, if_neg (by simp)]
      exact Ev.now _
  · have h1' : ¬ ((q : Int), ((c.countP isN : Nat) : Int)).2 ≤ 1 := h1
    rw [tr_false (fun z => by have := z.2; omega), if_neg q1, if_neg h1', if_pos q2, if_pos q3, if_neg (by simp)]
    exact Ev.now _
theorem cl_set (l : List S57) (q : Nat) (v : S57) (j : Nat) (hj : j < l.length) : cl (l.set q v) j = if j = q then v else cl l j := by
  unfold cl
  rw [List.getD_eq_getElem?_getD, List.getD_eq_getElem?_getD]
  by_cases h : j = q
  · subst h
    rw [List.getElem?_set_self hj, if_pos rfl]
    rfl
  · rw [List.getElem?_set_ne (by omega), if_neg h]
theorem isN_iff (x : S57) : isN x = true ↔ x.f0.toList = [] ∧ x.f1 = -1 := by
  unfold isN
  rw [Bool.and_eq_true, beq_iff_eq, beq_iff_eq]
def NoKey (l : List S57) (key : ByteArray) : Prop := ∀ j, j < l.length → (cl l j).f0.toList ≠ key.toList
theorem NoKey.seek {l : List S57} {key : ByteArray} (h : NoKey l key) : seekI l key = -1 := by
  rcases seekI_range l key with e | ⟨j, hj, _, hm⟩
  · exact e
  · unfold mI at hm
    rw [Bool.and_eq_true, beq_iff_eq] at hm
    exact absurd hm.1 (h j hj)
theorem NoKey.set {l : List S57} {key : ByteArray} (h : NoKey l key) (q : Nat) (v : S57) (hv : v.f0.toList ≠ key.toList) : NoKey (l.set q v) key := by
  intro j hj
  have hj' : j < l.length := by simpa using hj
  rw [cl_set l q v j hj']
  split
  · exact hv
  · exact h j hj'
theorem count_set (l : List S57) (q : Nat) (v : S57) (hq : q < l.length) : (l.set q v).countP isN + (if isN (cl l q) = true then 1 else 0) = l.countP isN + (if isN v = true then 1 else 0) := by
  have e : l = l.take q ++ cl l q :: l.drop (q + 1) := by rw [← drop_cl l q hq, List.take_append_drop]
  have e2 : l.set q v = l.take q ++ v :: l.drop (q + 1) := by
    conv => lhs; rw [e]
    rw [List.set_append_right _ _ (by simp; omega)]
    have : q - (l.take q).length = 0 := by simp; omega
    rw [this]
    rfl
  rw [e2]
  conv => rhs; rw [e]
  rw [List.countP_append, List.countP_append, List.countP_cons, List.countP_cons]
  omega
theorem sput_has {c : List S57} {key : ByteArray} {h : Int} (hn : HasN c) (hk : key.toList ≠ []) (hr : ¬ noRoom c key) : HasN (c.set (freeAt c key) ⟨key, h⟩) := by
  have hpos : 0 < c.length := by obtain ⟨j, hj, _⟩ := hn; omega
  obtain ⟨q, hq, hf, he⟩ := freeP_some c hn (home c.length key) (home_lt _ _ hpos)
  have e : freeAt c key = q := by unfold freeAt; rw [hf]; omega
  unfold noRoom at hr
  rw [e] at hr ⊢
  have h0 := (HasN_count c).1 hn
  rw [HasN_count]
  have hs := count_set c q ⟨key, h⟩ hq
  rw [if_neg (show ¬ isN (⟨key, h⟩ : S57) = true from fun z => hk ((isN_iff _).1 z).1)] at hs
  by_cases h1 : isN (cl c q) = true
  · rw [if_pos h1] at hs
    have h2 : ¬ c.countP isN = 1 := fun z => hr ⟨((isN_iff _).1 h1).2, z⟩
    omega
  · rw [if_neg h1] at hs
    omega
def findV (c o : List S57) (key : ByteArray) : Int × Bool :=
  if 0 ≤ seekI c key then ((cl c (seekI c key).toNat).f1, true) else if 0 ≤ seekI o key then ((cl o (seekI o key).toNat).f1, true) else (0, false)
theorem seekI_lt (l : List S57) (key : ByteArray) : seekI l key < (l.length : Int) := by
  rcases seekI_range l key with h | ⟨j, hj, h, _⟩ <;> omega
theorem impl_find_ev (c o : List S57) (mv : Int) (key : ByteArray) (hc : c.length ≤ 1048576) (ho : o.length ≤ 1048576) (hk : key.size ≤ 140737488355328) : Ev (fun k => impl_Table_find.f k c o mv key) (findV c o key) := by
  have h1 := seekI_lt c key
  have h2 := seekI_lt o key
  unfold impl_Table_find.f findV
  refine Ev.bind (impl_seek_ev c key hc hk) ?_
  by_cases h : 0 ≤ seekI c key
  · simp only [ge_iff_le, if_pos h, if_pos h1]
    exact Ev.now _
  · simp only [ge_iff_le, if_neg h]
    refine Ev.bind (impl_seek_ev o key ho hk) ?_
    by_cases h' : 0 ≤ seekI o key
    · simp only [if_pos h', if_pos h2]
      exact Ev.now _
    · simp only [if_neg h']
      exact Ev.now _
noncomputable def seekV (c o : List S57) (mv : Int) (key : ByteArray) : Int × Bool := if tr (TR c o mv) = true then findV c o key else (0, false)
theorem findV_nil (c o : List S57) (key : ByteArray) (hk : key.toList = []) : findV c o key = (0, false) := by
  unfold findV
  rw [seekI_nil c key hk, seekI_nil o key hk]
  rfl
theorem spec_SeekKey_ev (c o : List S57) (mv : Int) (key : ByteArray) (hc : Small c) (ho : Small o) (hk : key.size ≤ 140737488355328) : Ev (fun k => spec_SeekKey.f k c o mv key) (seekV c o mv key) := by
  have hn : seekV c o mv key = (0, false) → Ev (fun k => spec_SeekKey.j0 k key true c o mv) (seekV c o mv key) := fun h => by
    rw [h]
    refine Ev.step (f := fun _ => some (0, false)) (fun k => ?_) (Ev.now _)
    simp only [spec_SeekKey.j0]
    rw [if_pos trivial]
  unfold spec_SeekKey.f
  refine Ev.bind (spec_TableOk_ev c o mv hc ho) ?_
  by_cases h : TR c o mv
  · simp only [tr_true h, if_true]
    by_cases hk0 : key.toList = []
    · rw [hk0]
      exact hn (by unfold seekV; rw [findV_nil c o key hk0]; simp)
    · have e : (key.toList == ([] : List UInt8)) = false := beq_eq_false_iff_ne.2 hk0
      rw [e]
      have hv : seekV c o mv key = findV c o key := by unfold seekV; rw [tr_true h]; rfl
      rw [hv]
      have h1 := seekI_lt c key
      have h2 := seekI_lt o key
      have s1 := spec_seek_ev c key hc.1 hk
      have s2 := spec_seek_ev o key ho.1 hk
      rw [seek_same c key (CR_NE h.2.2.2.2.2.1) hk0] at s1
      rw [seek_same o key (CR_NE h.2.2.2.2.2.2.1) hk0] at s2
      unfold findV
      by_cases g : 0 ≤ seekI c key
      · simp only [if_pos g]
        refine Ev.step (f := fun k => (spec_l04Seek.f k c key).bind fun t122 => (if t122 ≥ 0 then (if 0 ≤ t122 then (if t122 < (c.length : Int) then (some ((rd_T57 c t122).f1, true)) else (none)) else (none)) else ((spec_l04Seek.f k o key).bind fun t124 => (if t124 ≥ 0 then (if 0 ≤ t124 then (if t124 < (o.length : Int) then (some ((rd_T57 o t124).f1, true)) else (none)) else (none)) else (some (0, false)))))) (fun k => ?_) (Ev.bind s1 ?_)
        · simp only [spec_SeekKey.j0]
          rw [if_neg (by simp)]
        · simp only [ge_iff_le, if_pos g, if_pos h1]
          exact Ev.now _
      · simp only [if_neg g]
        refine Ev.step (f := fun k => (spec_l04Seek.f k c key).bind fun t122 => (if t122 ≥ 0 then (if 0 ≤ t122 then (if t122 < (c.length : Int) then (some ((rd_T57 c t122).f1, true)) else (none)) else (none)) else ((spec_l04Seek.f k o key).bind fun t124 => (if t124 ≥ 0 then (if 0 ≤ t124 then (if t124 < (o.length : Int) then (some ((rd_T57 o t124).f1, true)) else (none)) else (none)) else (some (0, false)))))) (fun k => ?_) (Ev.bind s1 ?_)
        · simp only [spec_SeekKey.j0]
          rw [if_neg (by simp)]
        · simp only [ge_iff_le, if_neg g]
          refine Ev.bind s2 ?_
          by_cases g' : 0 ≤ seekI o key
          · simp only [if_pos g', if_pos h2]
            exact Ev.now _
          · simp only [if_neg g']
            exact Ev.now _
  · have hv : seekV c o mv key = (0, false) := by unfold seekV; rw [tr_false h]; rfl
    simp only [tr_false h]
    exact hn hv
theorem drop_getD {α : Type} (l : List α) (z : α) (i : Nat) (h : i < l.length) : l.drop i = l.getD i z :: l.drop (i + 1) := by
  rw [List.getD_eq_getElem?_getD, List.getElem?_eq_getElem h]
  exact List.drop_eq_getElem_cons h
theorem insL_length (L : List ByteArray) (x : ByteArray) : (insL L x).length = L.length + 1 := by
  have := (insL_perm L x).length_eq
  simpa using this
theorem spec_insert_last (L : List ByteArray) (x : ByteArray) (hL : L.length ≤ 2097152) (d : Nat) : ∀ (i : Nat) (acc : List ByteArray), L.length - i = d → acc.length ≤ 2097153 + i → Ev (fun k => spec_l04Insert.l1 k L x acc (i : Int)) (acc ++ (L.drop i).filter fun y => !(Op.bytesLess y.toList x.toList)) := by
  induction d with
  | zero =>
    intro i acc hd ha
    rw [List.drop_eq_nil_of_le (by omega), List.filter_nil, List.append_nil]
    refine Ev.step (f := fun _ => some acc) (fun k => ?_) (Ev.now _)
    simp only [spec_l04Insert.l1]
    rw [if_neg (by omega)]
  | succ d ih =>
    intro i acc hd ha
    have e2 : Aside0 (wrap64 ((i : Int) + 1) = ((i + 1 : Nat) : Int)) := ⟨by rw [wrap64_id (by omega) (by omega)]; omega⟩
    have r0 : rdOf ByteArray.empty L (i : Int) = L.getD i ByteArray.empty := rfl
    rw [drop_getD L ByteArray.empty i (by omega)]
    by_cases h : Op.bytesLess (L.getD i ByteArray.empty).toList x.toList = true
    · rw [List.filter_cons_of_neg (p := fun y : ByteArray => !(Op.bytesLess y.toList x.toList)) (by show ¬ (!(Op.bytesLess (L.getD i ByteArray.empty).toList x.toList)) = true; rw [h]; simp)]
      refine Ev.step (fun k => ?_) (ih (i + 1) acc (by omega) (by omega))
      simp only [spec_l04Insert.l1]
      rw [if_pos (by omega), if_pos (by omega), r0, if_pos h, e2.out]
    · rw [List.filter_cons_of_pos (p := fun y : ByteArray => !(Op.bytesLess y.toList x.toList)) (by show (!(Op.bytesLess (L.getD i ByteArray.empty).toList x.toList)) = true; rw [Bool.not_eq_true] at h; rw [h]; rfl)]
      have hh := ih (i + 1) (acc ++ [L.getD i ByteArray.empty]) (by omega) (by simp; omega)
      rw [List.append_assoc, List.singleton_append] at hh
      refine Ev.step (fun k => ?_) hh
      simp only [spec_l04Insert.l1]
      rw [if_pos (by omega), if_pos (by omega), r0, if_neg h, if_pos (by omega), e2.out]
theorem spec_insert_first (L : List ByteArray) (x : ByteArray) (hL : L.length ≤ 2097152) (d : Nat) : ∀ (i : Nat) (acc : List ByteArray), L.length - i = d → acc.length ≤ i → i ≤ L.length → Ev (fun k => spec_l04Insert.l0 k L x acc (i : Int)) ((acc ++ (L.drop i).filter fun y => Op.bytesLess y.toList x.toList) ++ [x] ++ L.filter fun y => !(Op.bytesLess y.toList x.toList)) := by
  induction d with
  | zero =>
    intro i acc hd ha hi
    rw [List.drop_eq_nil_of_le (by omega), List.filter_nil, List.append_nil]
    have h := spec_insert_last L x hL _ 0 (acc ++ [x]) rfl (by simp; omega)
    rw [List.drop_zero] at h
    refine Ev.step (fun k => ?_) h
    simp only [spec_l04Insert.l0]
    rw [if_neg (by omega), if_pos (by omega)]
    rfl
  | succ d ih =>
    intro i acc hd ha hi
    have e2 : Aside0 (wrap64 ((i : Int) + 1) = ((i + 1 : Nat) : Int)) := ⟨by rw [wrap64_id (by omega) (by omega)]; omega⟩
    have r0 : rdOf ByteArray.empty L (i : Int) = L.getD i ByteArray.empty := rfl
    rw [drop_getD L ByteArray.empty i (by omega)]
    by_cases h : Op.bytesLess (L.getD i ByteArray.empty).toList x.toList = true
    · rw [List.filter_cons_of_pos (p := fun y : ByteArray => Op.bytesLess y.toList x.toList) h]
      have hh := ih (i + 1) (acc ++ [L.getD i ByteArray.empty]) (by omega) (by simp; omega) (by omega)
      rw [List.append_assoc acc, List.singleton_append] at hh
      refine Ev.step (fun k => ?_) hh
      simp only [spec_l04Insert.l0]
      rw [if_pos (by omega), if_pos (by omega), r0, if_pos h, if_pos (by omega), e2.out]
    · rw [List.filter_cons_of_neg (p := fun y : ByteArray => Op.bytesLess y.toList x.toList) h]
      refine Ev.step (fun k => ?_) (ih (i + 1) acc (by omega) (by omega) (by omega))
      simp only [spec_l04Insert.l0]
      rw [if_pos (by omega), if_pos (by omega), r0, if_neg h, e2.out]
theorem spec_insert_ev (L : List ByteArray) (x : ByteArray) (hL : L.length ≤ 2097152) : Ev (fun k => spec_l04Insert.f k L x) (insL L x) := by
  have h := spec_insert_first L x hL _ 0 [] rfl (Nat.le_refl _) (Nat.zero_le _)
  rw [List.drop_zero, List.nil_append] at h
  exact h
theorem spec_keys_last (c o : List S57) (mv : Int) (ho : o.length ≤ 1048576) (d : Nat) : ∀ (i : Nat) (acc : List ByteArray), o.length - i = d → acc.length ≤ 1048576 + i → i ≤ o.length → Ev (fun k => spec_KeysOf.l1 k acc (i : Int) c o mv) ((keysL (o.drop i)).foldl insL acc) := by
  induction d with
  | zero =>
    intro i acc hd ha hi
    rw [List.drop_eq_nil_of_le (by omega)]
    refine Ev.step (f := fun _ => some acc) (fun k => ?_) (Ev.now _)
    simp only [spec_KeysOf.l1]
    rw [if_neg (by omega)]
  | succ d ih =>
    intro i acc hd ha hi
    have e2 : Aside0 (wrap64 ((i : Int) + 1) = ((i + 1 : Nat) : Int)) := ⟨by rw [wrap64_id (by omega) (by omega)]; omega⟩
    rw [drop_cl o i (by omega), keysL_cons]
    by_cases hc : (cl o i).f0.toList = []
    · rw [if_pos hc]
      refine Ev.step (fun k => ?_) (ih (i + 1) acc (by omega) (by omega) (by omega))
      simp only [spec_KeysOf.l1]
      rw [if_pos (by omega), if_pos (by omega), rd_cl, if_pos hc, e2.out]
    · rw [if_neg hc, List.foldl_cons]
      refine Ev.step (f := fun k => (spec_l04Insert.f k acc (cl o i).f0).bind fun t => spec_KeysOf.l1 k t ((i + 1 : Nat) : Int) c o mv) (fun k => ?_) (Ev.bind (spec_insert_ev acc _ (by omega)) (ih (i + 1) _ (by omega) (by rw [insL_length]; omega) (by omega)))
      simp only [spec_KeysOf.l1]
      rw [if_pos (by omega), if_pos (by omega), rd_cl, if_neg hc, e2.out]
theorem spec_keys_first (c o : List S57) (mv : Int) (hc : c.length ≤ 1048576) (ho : o.length ≤ 1048576) (d : Nat) : ∀ (i : Nat) (acc : List ByteArray), c.length - i = d → acc.length ≤ i → i ≤ c.length → Ev (fun k => spec_KeysOf.l0 k acc (i : Int) c o mv) ((keysL o).foldl insL ((keysL (c.drop i)).foldl insL acc)) := by
  induction d with
  | zero =>
    intro i acc hd ha hi
    rw [List.drop_eq_nil_of_le (by omega)]
    have h := spec_keys_last c o mv ho _ 0 acc rfl (by omega) (Nat.zero_le _)
    rw [List.drop_zero] at h
    refine Ev.step (fun k => ?_) h
    simp only [spec_KeysOf.l0]
    rw [if_neg (by omega)]
    rfl
  | succ d ih =>
    intro i acc hd ha hi
    have e2 : Aside0 (wrap64 ((i : Int) + 1) = ((i + 1 : Nat) : Int)) := ⟨by rw [wrap64_id (by omega) (by omega)]; omega⟩
    rw [drop_cl c i (by omega), keysL_cons]
    by_cases hk : (cl c i).f0.toList = []
    · rw [if_pos hk]
      refine Ev.step (fun k => ?_) (ih (i + 1) acc (by omega) (by omega) (by omega))
      simp only [spec_KeysOf.l0]
      rw [if_pos (by omega), if_pos (by omega), rd_cl, if_pos hk, e2.out]
    · rw [if_neg hk, List.foldl_cons]
      refine Ev.step (f := fun k => (spec_l04Insert.f k acc (cl c i).f0).bind fun t => spec_KeysOf.l0 k t ((i + 1 : Nat) : Int) c o mv) (fun k => ?_) (Ev.bind (spec_insert_ev acc _ (by omega)) (ih (i + 1) _ (by omega) (by rw [insL_length]; omega) (by omega)))
      simp only [spec_KeysOf.l0]
      rw [if_pos (by omega), if_pos (by omega), rd_cl, if_neg hk, e2.out]
noncomputable def keysV (c o : List S57) (mv : Int) : List ByteArray := if tr (TR c o mv) = true then sortB (keysL (c ++ o)) else []
theorem spec_KeysOf_ev (c o : List S57) (mv : Int) (hc : Small c) (ho : Small o) : Ev (fun k => spec_KeysOf.f k c o mv) (keysV c o mv) := by
  unfold spec_KeysOf.f keysV
  simp only [Option.bind_some]
  refine Ev.bind (spec_TableOk_ev c o mv hc ho) ?_
  by_cases h : TR c o mv
  · simp only [tr_true h, if_true]
    have hh := spec_keys_first c o mv hc.1 ho.1 _ 0 [] rfl (Nat.le_refl _) (Nat.zero_le _)
    rw [List.drop_zero, ← List.foldl_append, ← keysL_append, foldl_insL_sort] at hh
    exact hh
  · simp only [tr_false h]
    exact Ev.now _
def noneC : S57 := ⟨(⟨#[]⟩ : ByteArray), (-1)⟩
theorem impl_newCells_ev (n : Nat) (h1 : 1 ≤ n) (h2 : n ≤ 64) : impl_newCells.f (n : Int) = some (List.replicate n noneC) := by
  unfold impl_newCells.f impl_Cell_82.f
  have e : ([(⟨(⟨#[]⟩ : ByteArray), (-1)⟩ : S57)] : List S57).length = 1 := rfl
  rw [if_pos e, if_pos (by omega)]
  rfl
theorem spec_cells_loop (n : Nat) (hn : n ≤ 1048576) (d : Nat) : ∀ i : Nat, i + d = n → Ev (fun k => spec_l04Cells.l0 k (n : Int) (List.replicate i noneC) (i : Int)) (List.replicate n noneC) := by
  induction d with
  | zero =>
    intro i hi
    have e : i = n := by omega
    subst e
    refine Ev.step (f := fun _ => some (List.replicate i noneC)) (fun k => ?_) (Ev.now _)
    simp only [spec_l04Cells.l0]
    rw [if_neg (by omega)]
  | succ d ih =>
    intro i hi
    have e2 : Aside0 (wrap64 ((i : Int) + 1) = ((i + 1 : Nat) : Int)) := ⟨by rw [wrap64_id (by omega) (by omega)]; omega⟩
    have h := ih (i + 1) (by omega)
    rw [List.replicate_succ'] at h
    refine Ev.step (fun k => ?_) h
    simp only [spec_l04Cells.l0]
    rw [if_pos (by omega), if_pos (by simp; omega), e2.out]
    rfl
theorem spec_cells_ev (n : Nat) (hn : n ≤ 1048576) : Ev (fun k => spec_l04Cells.f k (n : Int)) (List.replicate n noneC) := by
  unfold spec_l04Cells.f
  exact spec_cells_loop n hn n 0 (by omega)
noncomputable def cleanRun (c o : List S57) : List ByteArray → List S57 → Bool × List S57
  | [], x => (true, x)
  | key :: r, x => if tr (noRoom x key) = true then (false, x) else cleanRun c o r (x.set (freeAt x key) ⟨key, (findV c o key).1⟩)
def cleanEnd (v : Bool × List S57) : TV := if v.1 = true then (v.2, [], 0, true) else badV
def CleanInv (r : List ByteArray) (x : List S57) : Prop := HasN x ∧ x.length ≤ 1048576 ∧ (bytesL r).Nodup ∧ ∀ key ∈ r, NoKey x key ∧ key.toList ≠ [] ∧ key.size ≤ 140737488355328
theorem CleanInv.step {key : ByteArray} {r : List ByteArray} {x : List S57} {h : Int} (hi : CleanInv (key :: r) x) (hr : ¬ noRoom x key) : CleanInv r (x.set (freeAt x key) ⟨key, h⟩) := by
  obtain ⟨h1, h2, h3, h4⟩ := hi
  have hk := h4 key (List.mem_cons_self ..)
  have h3' : (bytesL [key] ++ bytesL r).Nodup := h3
  rw [List.nodup_append] at h3'
  refine ⟨sput_has h1 hk.2.1 hr, by simpa using h2, h3'.2.1, fun k' hk' => ?_⟩
  have hk2 := h4 k' (List.mem_cons_of_mem _ hk')
  refine ⟨hk2.1.set _ _ (fun e => ?_), hk2.2⟩
  refine h3'.2.2 key.data.toList (by simp [bytesL]) k'.data.toList ?_ ?_
  · unfold bytesL
    exact List.mem_map_of_mem hk'
  · have e' : key.toList = k'.toList := e
    rw [Lib.toList_data, Lib.toList_data] at e'
    exact e'
theorem putC_sput {x : List S57} {key : ByteArray} {h : Int} (hk : seekI x key = -1) : putC x [] key h = if tr (noRoom x key) = true then (false, x, []) else (true, x.set (freeAt x key) ⟨key, h⟩, []) := by
  unfold putC
  rw [if_neg (by omega)]
  have e : clearO ([] : List S57) key = [] := by unfold clearO; split <;> simp
  rw [e]
theorem impl_clean_loop (c o : List S57) (mv : Int) (hc : c.length ≤ 1048576) (ho : o.length ≤ 1048576) (ks : List ByteArray) (hks : ks.length ≤ 2097152) (d : Nat) : ∀ (i : Nat) (x : List S57), ks.length - i = d → CleanInv (ks.drop i) x → Ev (fun k => impl_Table_cleaned.l0 k ks (ks.length : Int) (i : Int) c o mv x 0) (cleanEnd (cleanRun c o (ks.drop i) x)) := by
  induction d with
  | zero =>
    intro i x hd hi
    rw [List.drop_eq_nil_of_le (by omega)]
    refine Ev.step (f := fun _ => some (x, [], 0, true)) (fun k => ?_) (Ev.now _)
    simp only [impl_Table_cleaned.l0]
    rw [if_neg (by omega)]
  | succ d ih =>
    intro i x hd hi
    have e2 : Aside0 (wrap64 ((i : Int) + 1) = ((i + 1 : Nat) : Int)) := ⟨by rw [wrap64_id (by omega) (by omega)]; omega⟩
    have er : rdOf ByteArray.empty ks (i : Int) = ks.getD i ByteArray.empty := rfl
    rw [drop_getD ks ByteArray.empty i (by omega)] at hi ⊢
    generalize ks.getD i ByteArray.empty = key at hi er ⊢
    have hk := hi.2.2.2 key (List.mem_cons_self ..)
    have hf := impl_find_ev c o mv key hc ho hk.2.2
    have hp := impl_put_ev x [] 0 (findV c o key).1 key hi.2.1 (by simp) hk.2.2 hi.1
    rw [putC_sput hk.1.seek] at hp
    simp only [cleanRun]
    refine Ev.step (f := fun k => (impl_Table_find.f k c o mv key).bind fun bt => (impl_Table_put.f k x [] 0 key bt.1).bind fun bt2 => if bt2.1 = true then impl_Table_cleaned.l0 k ks (ks.length : Int) ((i + 1 : Nat) : Int) c o mv bt2.2.1 0 else some badV) (fun k => ?_) (Ev.bind hf (Ev.bind hp ?_))
    · simp only [impl_Table_cleaned.l0]
      rw [if_pos (by omega), if_pos (by omega), if_pos (by omega), er, e2.out]
      rfl
    · by_cases hr : noRoom x key
      · simp only [tr_true hr, if_true, Bool.false_eq_true, if_false]
        exact Ev.now _
      · simp only [tr_false hr, Bool.false_eq_true, if_false, if_true]
        exact ih (i + 1) _ (by omega) (hi.step hr)
theorem spec_clean_loop (c o : List S57) (mv : Int) (hc : Small c) (ho : Small o) (ht : TR c o mv) (ks : List ByteArray) (hks : ks.length ≤ 2097152) (d : Nat) : ∀ (i : Nat) (x : List S57), ks.length - i = d → CleanInv (ks.drop i) x → Ev (fun k => spec_CleanTable.l0 k ks (i : Int) c o mv x 0) (cleanEnd (cleanRun c o (ks.drop i) x)) := by
  induction d with
  | zero =>
    intro i x hd hi
    rw [List.drop_eq_nil_of_le (by omega)]
    refine Ev.step (f := fun _ => some (x, [], 0, true)) (fun k => ?_) (Ev.now _)
    simp only [spec_CleanTable.l0]
    rw [if_neg (by omega)]
  | succ d ih =>
    intro i x hd hi
    have e2 : Aside0 (wrap64 ((i : Int) + 1) = ((i + 1 : Nat) : Int)) := ⟨by rw [wrap64_id (by omega) (by omega)]; omega⟩
    have er : rdOf ByteArray.empty ks (i : Int) = ks.getD i ByteArray.empty := rfl
    rw [drop_getD ks ByteArray.empty i (by omega)] at hi ⊢
    generalize ks.getD i ByteArray.empty = key at hi er ⊢
    have hk := hi.2.2.2 key (List.mem_cons_self ..)
    have hf := spec_SeekKey_ev c o mv key hc ho hk.2.2
    have hv : seekV c o mv key = findV c o key := by unfold seekV; rw [tr_true ht]; rfl
    rw [hv] at hf
    have hp := spec_put_ev x key (findV c o key).1 hi.2.1 hk.2.2 hi.1
    unfold sput at hp
    simp only [cleanRun]
    refine Ev.step (f := fun k => (spec_SeekKey.f k c o mv key).bind fun bt => (spec_l04Put.f k x key bt.1).bind fun bt2 => if bt2.1 = true then spec_CleanTable.l0 k ks ((i + 1 : Nat) : Int) c o mv bt2.2 0 else some badV) (fun k => ?_) (Ev.bind hf (Ev.bind hp ?_))
    · simp only [spec_CleanTable.l0]
      rw [if_pos (by omega), if_pos (by omega), er, e2.out]
      rfl
    · by_cases hr : noRoom x key
      · simp only [tr_true hr, if_true, Bool.false_eq_true, if_false]
        exact Ev.now _
      · simp only [tr_false hr, Bool.false_eq_true, if_false, if_true]
        exact ih (i + 1) _ (by omega) (hi.step hr)
theorem cl_replicate (n j : Nat) (h : j < n) : cl (List.replicate n noneC) j = noneC := by
  unfold cl
  rw [List.getD_eq_getElem?_getD, List.getElem?_replicate, if_pos h]
  rfl
theorem noneC_nil : noneC.f0.toList = [] := by rw [Lib.toList_data]; rfl
theorem sortB_perm (L : List ByteArray) : (bytesL (sortB L)).Perm (bytesL L) := by
  rw [bytesL_sortB]
  exact List.mergeSort_perm _ _
theorem mem_sortB {L : List ByteArray} {key : ByteArray} (h : key ∈ sortB L) : key ∈ L := by
  have h1 : key.data.toList ∈ bytesL (sortB L) := by unfold bytesL; exact List.mem_map_of_mem h
  have h2 := (sortB_perm L).mem_iff.1 h1
  unfold bytesL at h2
  obtain ⟨y, hy, e⟩ := List.mem_map.1 h2
  rw [← ba_ext e]
  exact hy
theorem mem_keysL {l : List S57} {key : ByteArray} (h : key ∈ keysL l) : key.toList ≠ [] ∧ ∃ j, j < l.length ∧ (cl l j).f0 = key := by
  unfold keysL at h
  obtain ⟨y, hy, e⟩ := List.mem_map.1 h
  rw [List.mem_filter] at hy
  obtain ⟨j, hj, e2⟩ := List.getElem_of_mem hy.1
  refine ⟨by rw [← e]; simpa using hy.2, j, hj, ?_⟩
  rw [cl_get l j hj, e2]
  exact e
theorem key_size {c o : List S57} {mv : Int} (ht : TR c o mv) {key : ByteArray} (h : key ∈ keysL (c ++ o)) : key.toList ≠ [] ∧ key.size ≤ 12 := by
  rw [keysL_append, List.mem_append] at h
  rcases h with h | h
  · obtain ⟨h1, j, hj, e⟩ := mem_keysL h
    refine ⟨h1, ?_⟩
    have := ((ht.2.2.2.2.2.1 j hj).2 (by rw [e]; exact h1)).1
    rw [e] at this
    exact this
  · obtain ⟨h1, j, hj, e⟩ := mem_keysL h
    refine ⟨h1, ?_⟩
    have := ((ht.2.2.2.2.2.2.1 j hj).2 (by rw [e]; exact h1)).1
    rw [e] at this
    exact this
theorem clean_start {c o : List S57} {mv : Int} (ht : TR c o mv) : CleanInv (sortB (keysL (c ++ o))) (List.replicate c.length noneC) := by
  obtain ⟨s1, s2⟩ := size_le ht.1
  refine ⟨⟨0, by simp; omega, ?_⟩, by simp; omega, ?_, fun key hk => ?_⟩
  · rw [cl_replicate _ _ (by omega)]
    exact (isN_iff _).2 ⟨noneC_nil, rfl⟩
  · exact (sortB_perm _).nodup_iff.2 ht.2.2.2.2.1
  · obtain ⟨k1, k2⟩ := key_size ht (mem_sortB hk)
    refine ⟨fun j hj => ?_, k1, by omega⟩
    rw [cl_replicate _ _ (by simpa using hj), noneC_nil]
    exact fun e => k1 e.symm
noncomputable def cleanV (c o : List S57) (mv : Int) : TV := if tr (TR c o mv) = true then cleanEnd (cleanRun c o (sortB (keysL (c ++ o))) (List.replicate c.length noneC)) else badV
theorem keys_len (c o : List S57) (hc : Small c) (ho : Small o) : (sortB (keysL (c ++ o))).length ≤ 2097152 := by
  rw [sortB_len]
  have h1 := keysL_length (c ++ o)
  have h2 := hc.1
  have h3 := ho.1
  simp at h1
  omega
theorem impl_Clean_ev (c o : List S57) (mv : Int) (hc : Small c) (ho : Small o) : Ev (fun k => impl_CleanTable.f k c o mv) (cleanV c o mv) := by
  unfold impl_CleanTable.f cleanV
  refine Ev.bind (impl_TableOk_ev c o mv hc ho) ?_
  by_cases h : TR c o mv
  · obtain ⟨s1, s2⟩ := size_le h.1
    simp only [tr_true h, if_true]
    have hl := impl_clean_loop c o mv hc.1 ho.1 _ (keys_len c o hc ho) _ 0 _ rfl (by rw [List.drop_zero]; exact clean_start h)
    rw [List.drop_zero] at hl
    refine Ev.bind ?_ (Ev.now _)
    unfold impl_Table_cleaned.f
    rw [impl_newCells_ev c.length (by omega) s2]
    simp only [Option.bind_some]
    exact Ev.bind (impl_keys_ev c o mv hc.1 ho.1) hl
  · simp only [tr_false h, Bool.false_eq_true, if_false]
    exact Ev.now _
theorem spec_Clean_ev (c o : List S57) (mv : Int) (hc : Small c) (ho : Small o) : Ev (fun k => spec_CleanTable.f k c o mv) (cleanV c o mv) := by
  unfold spec_CleanTable.f cleanV
  refine Ev.bind (spec_TableOk_ev c o mv hc ho) ?_
  by_cases h : TR c o mv
  · obtain ⟨s1, s2⟩ := size_le h.1
    simp only [tr_true h, if_true]
    have hl := spec_clean_loop c o mv hc ho h _ (keys_len c o hc ho) _ 0 _ rfl (by rw [List.drop_zero]; exact clean_start h)
    rw [List.drop_zero] at hl
    have hk := spec_KeysOf_ev c o mv hc ho
    have hv : keysV c o mv = sortB (keysL (c ++ o)) := by unfold keysV; rw [tr_true h]; rfl
    rw [hv] at hk
    exact Ev.bind (spec_cells_ev c.length hc.1) (Ev.bind hk hl)
  · simp only [tr_false h, Bool.false_eq_true, if_false]
    exact Ev.now _
theorem cleanRun_len (c o : List S57) (r : List ByteArray) : ∀ x, (cleanRun c o r x).2.length = x.length := by
  induction r with
  | nil => intro x; rfl
  | cons key r ih =>
    intro x
    simp only [cleanRun]
    split
    · rfl
    · rw [ih]; simp
theorem cleanV_len (c o : List S57) (mv : Int) (hc : Small c) : (cleanV c o mv).1.length ≤ 1048576 ∧ (cleanV c o mv).2.1.length ≤ 1048576 := by
  have h1 := hc.1
  have hb : (badV.1.length ≤ 1048576 ∧ badV.2.1.length ≤ 1048576) := ⟨Nat.zero_le _, Nat.zero_le _⟩
  unfold cleanV cleanEnd
  split
  · split
    · refine ⟨?_, Nat.zero_le _⟩
      simp only [cleanRun_len, List.length_replicate]
      omega
    · exact hb
  · exact hb
theorem mark_loop (d : Nat) : ∀ (x : Int) (acc : ByteArray), 0 ≤ x → x < ((10 ^ d : Nat) : Int) → x ≤ 1000000000000000000 → acc.size + d ≤ 1000 → ∃ b, Ev (fun k => laws_markText.l0 k x acc) b := by
  induction d with
  | zero =>
    intro x acc h0 h1 _ ha
    have hx : ¬ x > 0 := by simp at h1; omega
    refine ⟨_, Ev.step (f := fun _ => some ((⟨#[109]⟩ : ByteArray) ++ acc)) (fun k => ?_) (Ev.now _)⟩
    simp only [laws_markText.l0]
    rw [if_neg hx, if_pos (by omega)]
  | succ d ih =>
    intro x acc h0 h1 h2 ha
    by_cases hx : x > 0
    · have e1 : Aside0 (wrap64 (Int.tdiv x 10) = x / 10) := ⟨by rw [Int.tdiv_eq_ediv_of_nonneg h0, wrap64_id (by omega) (by omega)]⟩
      have hp : ((10 ^ (d + 1) : Nat) : Int) = 10 * ((10 ^ d : Nat) : Int) := by rw [Nat.pow_succ]; omega
      rw [hp] at h1
      have hs : ∀ c : Int, (strOfNums [c]).size = 1 := fun c => by simp [strOfNums, ByteArray.size]
      generalize hst : strOfNums ([(wrap64 (48 + (Int.tmod x 10))) % 256] : List Int) = st
      have hst1 : st.size = 1 := by rw [← hst]; exact hs _
      obtain ⟨b, hb⟩ := ih (x / 10) (st ++ acc) (by omega) (by omega) (by omega) (by rw [ByteArray.size_append]; omega)
      refine ⟨b, Ev.step (fun k => ?_) hb⟩
      simp only [laws_markText.l0]
      rw [if_pos hx, Option.bind_some, hst, if_pos (by omega), e1.out]
    · refine ⟨_, Ev.step (f := fun _ => some ((⟨#[109]⟩ : ByteArray) ++ acc)) (fun k => ?_) (Ev.now _)⟩
      simp only [laws_markText.l0]
      rw [if_neg hx, if_pos (by omega)]
theorem mark_ex (x : Int) (h : x < 1000000000000000000) : ∃ b, Ev (fun k => laws_markText.f k x) b := by
  unfold laws_markText.f
  by_cases hx : x ≤ 0
  · simp only [if_pos hx]
    exact ⟨_, Ev.now _⟩
  · simp only [if_neg hx]
    exact mark_loop 18 x _ (by omega) (by simpa using h) (by omega) (by decide)
noncomputable def mkT (x : Int) : ByteArray := Classical.epsilon fun b => Ev (fun k => laws_markText.f k x) b
theorem mark_text (x : Int) (h : x < 1000000000000000000) : Ev (fun k => laws_markText.f k x) (mkT x) := Classical.epsilon_spec (mark_ex x h)
theorem mark_cells_loop (d : Nat) : ∀ (l : List S57) (x : Int) (i : Nat), l.length ≤ 1048576 → l.length - i = d → i ≤ l.length → 0 ≤ x → x + 2 * (l.length - i : Nat) ≤ 1000000000 → ∃ l' : List S57, l'.length = l.length ∧ (∀ j, j < i → l'.getD j z57 = l.getD j z57) ∧ (∀ j, i ≤ j → j < l.length → l'.getD j z57 = ⟨mkT (x + 2 * ((j - i : Nat) : Int)), x + 2 * ((j - i : Nat) : Int) + 1⟩) ∧ Ev (fun k => laws_markCellS.l0 k l x (i : Int)) (x + 2 * ((l.length - i : Nat) : Int), l') := by
  induction d with
  | zero =>
    intro l x i hl hd hi h0 h1
    refine ⟨l, rfl, fun j _ => rfl, fun j h2 h3 => absurd h2 (by omega), ?_⟩
    have e : x + 2 * ((l.length - i : Nat) : Int) = x := by omega
    rw [e]
    refine Ev.step (f := fun _ => some (x, l)) (fun k => ?_) (Ev.now _)
    simp only [laws_markCellS.l0]
    rw [if_neg (by omega)]
  | succ d ih =>
    intro l x i hl hd hi h0 h1
    have e1 : Aside0 (wrap64 (x + 1) = x + 1) := ⟨wrap64_id (by omega) (by omega)⟩
    have e2 : Aside0 (wrap64 (x + 1 + 1) = x + 2) := ⟨by rw [wrap64_id (by omega) (by omega)]; omega⟩
    have e3 : Aside0 (wrap64 ((i : Int) + 1) = ((i + 1 : Nat) : Int)) := ⟨by rw [wrap64_id (by omega) (by omega)]; omega⟩
    obtain ⟨l', hl', ha, hb, hev⟩ := ih ((l.set i ⟨mkT x, (l.getD i z57).f1⟩).set i ⟨mkT x, x + 1⟩) (x + 2) (i + 1) (by simpa using hl) (by simp; omega) (by simp; omega) (by omega) (by simp; omega)
    simp only [List.length_set] at hl' hb hev
    refine ⟨l', hl', fun j hj => ?_, fun j h2 h3 => ?_, ?_⟩
    · rw [ha j (by omega)]
      simp only [List.getD_eq_getElem?_getD]
      rw [List.getElem?_set_ne (by omega), List.getElem?_set_ne (by omega)]
    · rcases Nat.eq_or_lt_of_le h2 with rfl | h
      · rw [ha _ (by omega), List.getD_eq_getElem?_getD, List.getElem?_set_self (by simpa using h3)]
        have : x + 2 * ((i - i : Nat) : Int) = x := by omega
        rw [this]
        rfl
      · have h4 := hb j (by omega) h3
        have : x + 2 + 2 * ((j - (i + 1) : Nat) : Int) = x + 2 * ((j - i : Nat) : Int) := by omega
        rw [this] at h4
        exact h4
    · have e : x + 2 + 2 * ((l.length - (i + 1) : Nat) : Int) = x + 2 * ((l.length - i : Nat) : Int) := by omega
      rw [e] at hev
      refine Ev.step (f := fun k => (laws_markText.f k x).bind fun t => laws_markCellS.l0 k ((l.set i ⟨t, (l.getD i z57).f1⟩).set i ⟨t, x + 1⟩) (x + 2) ((i + 1 : Nat) : Int)) (fun k => ?_) (Ev.bind (mark_text x (by omega)) hev)
      simp only [laws_markCellS.l0]
      rw [if_pos (by omega)]
      refine congrArg _ (funext fun t => ?_)
      have er : (rd_T57 (l.set i ⟨t, (l.getD i z57).f1⟩) (i : Int)).f0 = t := by
        show ((l.set i (⟨t, (l.getD i z57).f1⟩ : S57)).getD i z57).f0 = t
        rw [List.getD_eq_getElem?_getD, List.getElem?_set_self (by omega)]
        rfl
      rw [if_pos (by omega), Option.bind_some, e1.out, e2.out, e3.out]
      show laws_markCellS.l0 k ((l.set i ⟨t, (l.getD i z57).f1⟩).set i ⟨(rd_T57 (l.set i ⟨t, (l.getD i z57).f1⟩) (i : Int)).f0, x + 1⟩) (x + 2) ((i + 1 : Nat) : Int) = _
      rw [er]
def MarkedC (l' : List S57) (n : Nat) (x : Int) : Prop := l'.length = n ∧ ∀ j, j < n → l'.getD j z57 = ⟨mkT (x + 2 * (j : Int)), x + 2 * (j : Int) + 1⟩
theorem mark_cells (l : List S57) (x : Int) (hl : l.length ≤ 1048576) (h0 : 0 ≤ x) (h1 : x ≤ 100000000) : ∃ l', MarkedC l' l.length x ∧ Ev (fun k => laws_markCellS.f k l x) (x + 2 * (l.length : Int), l') := by
  unfold laws_markCellS.f
  obtain ⟨l', h2, _, h3, h4⟩ := mark_cells_loop _ l x 0 hl rfl (Nat.zero_le _) h0 (by omega)
  exact ⟨l', ⟨h2, fun j hj => by simpa using h3 j (Nat.zero_le _) hj⟩, by simpa using h4⟩
theorem mark_table (c o : List S57) (mv x : Int) (hc : c.length ≤ 1048576) (ho : o.length ≤ 1048576) (h0 : 0 ≤ x) (h1 : x ≤ 10000000) : ∃ c' o', MarkedC c' c.length x ∧ MarkedC o' o.length (x + 2 * (c.length : Int)) ∧ Ev (fun k => laws_markTable.f k c o mv x) (x + 2 * (c.length : Int) + 2 * (o.length : Int), c', o') := by
  obtain ⟨c', m1, e1⟩ := mark_cells c x hc h0 (by omega)
  obtain ⟨o', m2, e2⟩ := mark_cells o (x + 2 * (c.length : Int)) ho (by omega) (by omega)
  refine ⟨c', o', m1, m2, ?_⟩
  unfold laws_markTable.f
  exact Ev.bind e1 (Ev.bind e2 (Ev.now _))
theorem held_cells_loop (l : List S57) (x : Int) (n : Nat) (hn : n ≤ 1048576) (h0 : 0 ≤ x) (h1 : x ≤ 100000000) (hm : MarkedC l n x) (d : Nat) : ∀ (i : Nat), n - i = d → i ≤ n → Ev (fun k => laws_heldCellS.l0 k l (x + 2 * (i : Int)) (i : Int)) (x + 2 * (n : Int)) := by
  have hl := hm.1
  induction d with
  | zero =>
    intro i hd hi
    have e : i = n := by omega
    subst e
    refine Ev.step (f := fun _ => some (x + 2 * (i : Int))) (fun k => ?_) (Ev.now _)
    simp only [laws_heldCellS.l0]
    rw [if_neg (by omega)]
  | succ d ih =>
    intro i hd hi
    have e1 : Aside0 (wrap64 (x + 2 * (i : Int) + 1) = x + 2 * (i : Int) + 1) := ⟨wrap64_id (by omega) (by omega)⟩
    have e2 : Aside0 (wrap64 (x + 2 * (i : Int) + 1 + 1) = x + 2 * ((i + 1 : Nat) : Int)) := ⟨by rw [wrap64_id (by omega) (by omega)]; omega⟩
    have e3 : Aside0 (wrap64 ((i : Int) + 1) = ((i + 1 : Nat) : Int)) := ⟨by rw [wrap64_id (by omega) (by omega)]; omega⟩
    have r0 : rd_T57 l (i : Int) = ⟨mkT (x + 2 * (i : Int)), x + 2 * (i : Int) + 1⟩ := hm.2 i (by omega)
    refine Ev.step (f := fun k => (laws_markText.f k (x + 2 * (i : Int))).bind fun t => if (mkT (x + 2 * (i : Int))).toList = t.toList then laws_heldCellS.l0 k l (x + 2 * ((i + 1 : Nat) : Int)) ((i + 1 : Nat) : Int) else some (-1)) (fun k => ?_) (Ev.bind (mark_text _ (by omega)) ?_)
    · simp only [laws_heldCellS.l0]
      rw [if_pos (by omega), if_pos (by omega), r0, e1.out, e2.out, e3.out]
      simp only [if_true]
    · simp only [if_true]
      exact ih (i + 1) (by omega) (by omega)
theorem held_cells (l : List S57) (n : Nat) (x : Int) (hn : n ≤ 1048576) (h0 : 0 ≤ x) (h1 : x ≤ 100000000) (hm : MarkedC l n x) : Ev (fun k => laws_heldCellS.f k l x) (x + 2 * (n : Int)) := by
  unfold laws_heldCellS.f
  simpa using held_cells_loop l x n hn h0 h1 hm _ 0 rfl (Nat.zero_le _)
theorem held_table (c o : List S57) (n m : Nat) (mv x : Int) (hn : n ≤ 1048576) (hm : m ≤ 1048576) (h0 : 0 ≤ x) (h1 : x ≤ 10000000) (h2 : MarkedC c n x) (h3 : MarkedC o m (x + 2 * (n : Int))) : Ev (fun k => laws_heldTable.f k c o mv x) (x + 2 * (n : Int) + 2 * (m : Int)) := by
  unfold laws_heldTable.f
  refine Ev.bind (held_cells c n x hn h0 (by omega) h2) ?_
  simp only [if_neg (show ¬ (x + 2 * (n : Int)) < 0 by omega)]
  refine Ev.bind (held_cells o m _ hm (by omega) (by omega) h3) ?_
  simp only [if_neg (show ¬ (x + 2 * (n : Int) + 2 * (m : Int)) < 0 by omega)]
  exact Ev.now _
theorem FnExactCleanTable (c o : List S95) (mv : Int) (hc : c.length ≤ maxLen ∧ ∀ y ∈ c, CellWf y) (ho : o.length ≤ maxLen ∧ ∀ y ∈ o, CellWf y) (hm : (Lit.int .i64 mv).wf = true) : ∃ k, laws_FnExactCleanTable.f k c o mv = some true := by
  refine Ev.rounds ?_
  unfold laws_FnExactCleanTable.f
  obtain ⟨r, hr, hlen⟩ := sz_table c o mv hc ho
  refine Ev.bind hr ?_
  by_cases h0 : r < 0
  · simp only [if_pos h0]
    exact Ev.now _
  · simp only [if_neg h0]
    obtain ⟨sc, so⟩ := hlen (by omega)
    have sc' := small_map c sc
    have so' := small_map o so
    have tt := to_table c o mv sc.1 so.1
    have hS := spec_Clean_ev _ _ mv sc' so'
    have hI := impl_Clean_ev _ _ mv sc' so'
    obtain ⟨l1, l2⟩ := cleanV_len (c.map toC) (o.map toC) mv sc'
    generalize cleanV (c.map toC) (o.map toC) mv = V at hS hI l1 l2 ⊢
    obtain ⟨c', o', mv', b⟩ := V
    simp only at l1 l2
    have hE := eq_table c' o' mv' l1 l2
    have hE0 := eq_table (c.map toC) (o.map toC) mv sc'.1 so'.1
    obtain ⟨mc, mo, _, _, hM0⟩ := mark_table (c.map toC) (o.map toC) mv 1 sc'.1 so'.1 (by omega) (by omega)
    obtain ⟨nc, no, m1, m2, hM⟩ := mark_table c' o' mv' 1 l1 l2 (by omega) (by omega)
    have hH := held_table nc no c'.length o'.length mv' 1 l1 l2 (by omega) (by omega) m1 m2
    refine Ev.bind tt (Ev.bind hS (Ev.bind tt (Ev.bind hI (Ev.bind hE ?_))))
    simp only [if_true, bne_self_eq_false]
    have n0 : ¬ (1 + 2 * (c'.length : Int) + 2 * (o'.length : Int)) < 0 := by omega
    have n1 : ¬ (1 + 2 * ((c.map toC).length : Int) + 2 * ((o.map toC).length : Int)) < 0 := by omega
    refine Ev.step (f := fun k => (laws_toTable.f k c o mv).bind fun bt295 => ((laws_eqTable.f k (c.map toC) (o.map toC) mv bt295.1 bt295.2.1 bt295.2.2).bind fun t302 => (if t302 = true then ((laws_markTable.f k (c.map toC) (o.map toC) mv 1).bind fun bt303 => (if bt303.1 < 0 then (laws_FnExactCleanTable.j1 k b true c o mv c' o' mv' c' o' mv') else ((laws_eqTable.f k c' o' mv' c' o' mv').bind fun t306 => (if t306 = true then (laws_FnExactCleanTable.j1 k b (b != b) c o mv c' o' mv' c' o' mv') else (laws_FnExactCleanTable.j1 k b true c o mv c' o' mv' c' o' mv'))))) else (some false)))) (fun k => ?_) (Ev.bind tt (Ev.bind hE0 ?_))
    · simp only [laws_FnExactCleanTable.j0]
      rw [if_neg (by simp)]
    · simp only [if_true]
      refine Ev.bind hM0 ?_
      simp only [if_neg n1]
      refine Ev.bind hE ?_
      simp only [if_true, bne_self_eq_false]
      refine Ev.step (f := fun k => (laws_markTable.f k c' o' mv' 1).bind fun bt307 => ((laws_heldTable.f k bt307.2.1 bt307.2.2 mv' 1).bind fun t310 => (if t310 < 0 then (some false) else (if t310 = bt307.1 then ((laws_toTable.f k c o mv).bind fun bt311 => ((impl_CleanTable.f k bt311.1 bt311.2.1 bt311.2.2).bind fun bt318 => ((laws_eqTable.f k bt318.1 bt318.2.1 bt318.2.2.1 c' o' mv').bind fun t327 => (if t327 = true then (laws_FnExactCleanTable.j2 k bt307.1 (bt318.2.2.2 != b) bt307.2.1 bt307.2.2 mv') else (laws_FnExactCleanTable.j2 k bt307.1 true bt307.2.1 bt307.2.2 mv'))))) else (some false))))) (fun k => ?_) (Ev.bind hM (Ev.bind hH ?_))
      · simp only [laws_FnExactCleanTable.j1]
        rw [if_neg (by simp)]
      · simp only [if_neg n0, if_true]
        refine Ev.bind tt (Ev.bind hI (Ev.bind hE ?_))
        simp only [if_true, bne_self_eq_false]
        refine Ev.step (f := fun k => (laws_heldTable.f k nc no mv' 1).bind fun t328 => (if t328 < 0 then (some false) else (if t328 = 1 + 2 * (c'.length : Int) + 2 * (o'.length : Int) then (some true) else (some false)))) (fun k => ?_) (Ev.bind hH ?_)
        · simp only [laws_FnExactCleanTable.j2]
          rw [if_neg (by simp)]
        · simp only [if_neg n0, if_true]
          exact Ev.now _
end Go.Proofs.Ytmahoekbedgbcaa.Pure
