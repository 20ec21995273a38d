/- The pure statement of the law FnExactGuessKey: plain Lean over numbers and lists. -/
import Derived.Test.YtcoboobnpmaahaaQGuessx3
import Derived.Test.YtcoboobnpmaahaaMath
set_option linter.unusedSimpArgs false
set_option linter.unusedVariables false
namespace Go.Proofs.Ytcoboobnpmaahaa.Pure
open Go.RowKit Go.Proofs.Ytcoboobnpmaahaa.PFnExactGuessKey Go.Proofs.YtcoboobnpmaahaaW.PrintWords Go.Proofs.YtcoboobnpmaahaaW.PrintLast Go.Proofs.Ytcoboobnpmaahaa.Math

theorem to_ints_loop (l : List Int) (hl : l.length ≤ 1048576) (d : Nat) : ∀ (x : List Int) (i : Nat), l.length - i = d → i ≤ l.length → x.length = l.length → x.take i = l.take i → Ev (fun k => laws_toIntS.l0 k l x (i : Int)) l := by
  induction d with
  | zero =>
    intro x i hd hi hx ht
    have e : x = l := take_all hx (by rw [show l.length = i by omega]; exact ht)
    refine Ev.step (f := fun _ => some x) (fun k => ?_) (by rw [e]; exact Ev.now _)
    simp only [laws_toIntS.l0]
    rw [if_neg (by omega)]
  | succ d ih =>
    intro x i hd hi hx ht
    have h := ih (x.set i (rd l (i : Int))) (i + 1) (by omega) (by omega) (by simp [hx]) (set_take l x 0 i (by omega) hx ht)
    refine Ev.step (fun k => ?_) h
    simp only [laws_toIntS.l0]
    rw [if_pos (by omega), if_pos (by omega), if_pos (by omega), wrap64_id (by omega) (by omega)]
    rfl
theorem to_ints (l : List Int) (hl : l.length ≤ 1048576) : Ev (fun k => laws_toIntS.f k l) l := by
  unfold laws_toIntS.f
  have e : ((l.length : Int)).toNat = l.length := by omega
  simp only [e, if_pos (show 0 ≤ (l.length : Int) by omega), if_pos (show l.length ≤ 35184372088832 by omega)]
  exact to_ints_loop l hl _ _ 0 rfl (by omega) (by simp) (by simp)
theorem eq_ints_loop (l : List Int) (hl : l.length ≤ 1048576) (d : Nat) : ∀ (i : Nat), l.length - i = d → Ev (fun k => laws_eqIntS.l0 k l l (i : Int)) true := by
  induction d with
  | zero =>
    intro i hd
    refine Ev.step (f := fun _ => some true) (fun k => ?_) (Ev.now _)
    simp only [laws_eqIntS.l0]
    rw [if_neg (by omega)]
  | succ d ih =>
    intro i hd
    refine Ev.step (fun k => ?_) (ih (i + 1) (by omega))
    simp only [laws_eqIntS.l0]
    rw [if_pos (by omega), if_pos (by omega), if_pos (by omega), if_pos trivial, wrap64_id (by omega) (by omega)]
    rfl
theorem eq_ints (l : List Int) (hl : l.length ≤ 1048576) : Ev (fun k => laws_eqIntS.f k l l) true := by
  unfold laws_eqIntS.f
  simp only [if_true]
  exact eq_ints_loop l hl _ 0 rfl
theorem eq_sketch (l : List Int) (a : Int) (hl : l.length ≤ 1048576) : Ev (fun k => laws_eqSketch.f k l a l a) true := by
  unfold laws_eqSketch.f
  refine Ev.bind (eq_ints l hl) ?_
  simp only [if_true]
  exact Ev.now _

theorem sz_sketch (l : List Int) (a : Int) (hl : l.length ≤ maxLen) : ∃ r, laws_szSketch.f l a 1048576 = some r ∧ (0 ≤ r → l.length ≤ 1048576) := by
  unfold maxLen at hl
  unfold laws_szSketch.f laws_szIntS.f
  rw [wrap64_id (by omega) (by omega)]
  by_cases h : (1048576 : Int) - (l.length : Int) < 0
  · refine ⟨-1, ?_, by omega⟩
    rw [if_pos h]
    simp
  · refine ⟨1048576 - (l.length : Int), ?_, by omega⟩
    rw [if_neg h]
    simp only [Option.bind_some]
    rw [if_neg h]
theorem to_sketch (l : List Int) (a : Int) (hl : l.length ≤ 1048576) : Ev (fun k => laws_toSketch.f k l a) (l, a) := by
  unfold laws_toSketch.f
  exact Ev.bind (to_ints l hl) (Ev.now _)

theorem spec_in (a b c : Int) : spec_l01In.f a b c = some (decide (b ≤ a ∧ a ≤ c)) := by
  unfold spec_l01In.f
  by_cases h : a ≥ b
  · rw [if_pos h]
    simp [h]
  · rw [if_neg h]
    have : ¬ (b ≤ a ∧ a ≤ c) := fun z => h z.1
    simp [this]

noncomputable def skOk (l : List Int) (a : Int) : Bool := tr (l.length = 48 ∧ (0 ≤ a ∧ a ≤ 99) ∧ ∀ j, 0 ≤ j → j < l.length → 0 ≤ l.getD j 0 ∧ l.getD j 0 ≤ 15)

theorem spec_skok_loop (l : List Int) (a : Int) (hl : l.length ≤ 1048576) (d : Nat) : ∀ (i : Nat), l.length - i = d →
    Ev (fun k => spec_SketchOk.l0 k (i : Int) l a) (tr (∀ j, i ≤ j → j < l.length → 0 ≤ l.getD j 0 ∧ l.getD j 0 ≤ 15)) := by
  induction d with
  | zero =>
    intro i hd
    rw [tr_true (fun j h1 h2 => by omega)]
    refine Ev.step (f := fun _ => some true) (fun k => ?_) (Ev.now _)
    simp only [spec_SketchOk.l0]
    rw [if_neg (by omega)]
  | succ d ih =>
    intro i hd
    have hlt : i < l.length := by omega
    have hall := all_from (P := fun j => 0 ≤ l.getD j 0 ∧ l.getD j 0 ≤ 15) hlt
    have er : rd l (i : Int) = l.getD i 0 := rfl
    by_cases h : 0 ≤ l.getD i 0 ∧ l.getD i 0 ≤ 15
    · have e : tr (∀ j, i ≤ j → j < l.length → 0 ≤ l.getD j 0 ∧ l.getD j 0 ≤ 15) = tr (∀ j, i + 1 ≤ j → j < l.length → 0 ≤ l.getD j 0 ∧ l.getD j 0 ≤ 15)   := tr_congr (hall.trans ⟨fun z => z.2, fun z => ⟨h, z⟩⟩)
      rw [e]
      refine Ev.step (fun k => ?_) (ih (i + 1) (by omega))
      simp only [spec_SketchOk.l0]
      rw [if_pos (by omega), if_pos (by omega), spec_in, er, decide_eq_true h, Option.bind_some, if_pos rfl, wrap64_id (by omega) (by omega)]
      rfl
    · rw [tr_false (fun z => h (hall.1 z).1)]
      refine Ev.step (f := fun _ => some false) (fun k => ?_) (Ev.now _)
      simp only [spec_SketchOk.l0]
      rw [if_pos (by omega), if_pos (by omega), spec_in, er, decide_eq_false h, Option.bind_some, if_neg (by simp)]
theorem spec_skok (l : List Int) (a : Int) (hl : l.length ≤ 1048576) : Ev (fun k => spec_SketchOk.f k l a) (skOk l a) := by
  have hj : ∀ b, Ev (fun k => spec_SketchOk.j0 k b l a) (!b && tr (∀ j, 0 ≤ j → j < l.length → 0 ≤ l.getD j 0 ∧ l.getD j 0 ≤ 15)) := fun b => by
    cases b with
    | true =>
      refine Ev.step (f := fun _ => some false) (fun k => ?_) (Ev.now _)
      simp only [spec_SketchOk.j0]
      rw [if_pos trivial]
    | false =>
      refine Ev.step (fun k => ?_) (by simpa using spec_skok_loop l a hl _ 0 rfl)
      simp only [spec_SketchOk.j0]
      rw [if_neg (by simp)]
  unfold spec_SketchOk.f skOk
  by_cases h : (l.length : Int) = 48
  · have h' : l.length = 48 := by omega
    simp only [if_pos h, spec_in, Option.bind_some]
    have e : tr (l.length = 48 ∧ (0 ≤ a ∧ a ≤ 99) ∧ ∀ j, 0 ≤ j → j < l.length → 0 ≤ l.getD j 0 ∧ l.getD j 0 ≤ 15) = (!!decide (0 ≤ a ∧ a ≤ 99) && tr (∀ j, 0 ≤ j → j < l.length → 0 ≤ l.getD j 0 ∧ l.getD j 0 ≤ 15)) := by
      rw [Bool.not_not, tr_dec, tr_and, tr_and, tr_true h', Bool.true_and]
    rw [e]
    exact hj _
  · have h' : ¬ l.length = 48 := by omega
    simp only [if_neg h]
    rw [tr_false (fun z => h' z.1)]
    simpa using hj true

theorem impl_in (a b c : Int) : impl_inRange.f a b c = some (decide (b ≤ a ∧ a ≤ c)) := by
  unfold impl_inRange.f
  by_cases h : a ≥ b
  · rw [if_pos h]
    simp [h]
  · rw [if_neg h]
    have : ¬ (b ≤ a ∧ a ≤ c) := fun z => h z.1
    simp [this]

theorem impl_skok_loop (l : List Int) (a : Int) (hl : l.length ≤ 1048576) (d : Nat) : ∀ (i : Nat), l.length - i = d →
    Ev (fun k => impl_SketchOk.l0 k l (l.length : Int) (i : Int) l a) (tr (l.length = 48 ∧ (0 ≤ a ∧ a ≤ 99) ∧ ∀ j, i ≤ j → j < l.length → 0 ≤ l.getD j 0 ∧ l.getD j 0 ≤ 15)) := by
  induction d with
  | zero =>
    intro i hd
    by_cases h : (l.length : Int) = 48
    · have e : tr (l.length = 48 ∧ (0 ≤ a ∧ a ≤ 99) ∧ ∀ j, i ≤ j → j < l.length → 0 ≤ l.getD j 0 ∧ l.getD j 0 ≤ 15) = decide (0 ≤ a ∧ a ≤ 99) := by
        rw [tr_dec]; exact tr_congr ⟨fun z => z.2.1, fun z => ⟨by omega, z, fun j h1 h2 => by omega⟩⟩
      rw [e]
      refine Ev.step (f := fun _ => some (decide (0 ≤ a ∧ a ≤ 99))) (fun k => ?_) (Ev.now _)
      simp only [impl_SketchOk.l0]
      rw [if_neg (by omega), if_pos h, impl_in, Option.bind_some]
    · rw [tr_false (fun z => h (by have := z.1; omega))]
      refine Ev.step (f := fun _ => some false) (fun k => ?_) (Ev.now _)
      simp only [impl_SketchOk.l0]
      rw [if_neg (by omega), if_neg h]
  | succ d ih =>
    intro i hd
    have hlt : i < l.length := by omega
    have hall := all_from (P := fun j => 0 ≤ l.getD j 0 ∧ l.getD j 0 ≤ 15) hlt
    have er : rd l (i : Int) = l.getD i 0 := rfl
    by_cases h : 0 ≤ l.getD i 0 ∧ l.getD i 0 ≤ 15
    · have e : tr (l.length = 48 ∧ (0 ≤ a ∧ a ≤ 99) ∧ ∀ j, i ≤ j → j < l.length → 0 ≤ l.getD j 0 ∧ l.getD j 0 ≤ 15) = tr (l.length = 48 ∧ (0 ≤ a ∧ a ≤ 99) ∧ ∀ j, i + 1 ≤ j → j < l.length → 0 ≤ l.getD j 0 ∧ l.getD j 0 ≤ 15) :=
        tr_congr ⟨fun z => ⟨z.1, z.2.1, (hall.1 z.2.2).2⟩, fun z => ⟨z.1, z.2.1, hall.2 ⟨h, z.2.2⟩⟩⟩
      rw [e]
      refine Ev.step (fun k => ?_) (ih (i + 1) (by omega))
      simp only [impl_SketchOk.l0]
      rw [if_pos (by omega), if_pos (by omega), if_pos (by omega), impl_in, er, decide_eq_true h, Option.bind_some, if_pos rfl, wrap64_id (by omega) (by omega)]
      rfl
    · rw [tr_false (fun z => h (hall.1 z.2.2).1)]
      refine Ev.step (f := fun _ => some false) (fun k => ?_) (Ev.now _)
      simp only [impl_SketchOk.l0]
      rw [if_pos (by omega), if_pos (by omega), if_pos (by omega), impl_in, er, decide_eq_false h, Option.bind_some, if_neg (by simp)]
theorem impl_skok (l : List Int) (a : Int) (hl : l.length ≤ 1048576) : Ev (fun k => impl_SketchOk.f k l a) (skOk l a) := impl_skok_loop l a hl _ 0 rfl

theorem spec_xor_step (a b out bit i k : Nat) (ha2 : a < 4294967296) (hb2 : b < 4294967296) (hbit : bit ≤ 4294967296) (ho : out < bit) (hi : i < 32) :
    spec_l04Xor.l0 (k + 1) (a : Int) (b : Int) (out : Int) (bit : Int) (i : Int) = spec_l04Xor.l0 k ((a / 2 : Nat) : Int) ((b / 2 : Nat) : Int) ((out + bit * ((a % 2 + b % 2) % 2) : Nat) : Int) ((2 * bit : Nat) : Int) ((i + 1 : Nat) : Int) := by
  have hi' : (i : Int) < 32 := by omega
  have hs : ((out : Int) = ((out + bit * ((a % 2 + b % 2) % 2) : Nat) : Int) ∧ ((a % 2 : Nat) : Int) = ((b % 2 : Nat) : Int)) ∨ (((out + bit : Nat) : Int) = ((out + bit * ((a % 2 + b % 2) % 2) : Nat) : Int) ∧ ¬ ((a % 2 : Nat) : Int) = ((b % 2 : Nat) : Int)) := by
    by_cases hab : a % 2 = b % 2
    · exact .inl ⟨by rw [show (a % 2 + b % 2) % 2 = 0 by omega, Nat.mul_zero, Nat.add_zero], by rw [hab]⟩
    · exact .inr ⟨by rw [show (a % 2 + b % 2) % 2 = 1 by omega, Nat.mul_one], fun h => hab (Int.ofNat.inj h)⟩
  have e1 : wrap64 (Int.tdiv (a : Int) 2) = ((a / 2 : Nat) : Int) := by rw [Int.tdiv_eq_ediv_of_nonneg (by omega), wrap64_id (by omega) (by omega)]; omega
  have e2 : wrap64 (Int.tdiv (b : Int) 2) = ((b / 2 : Nat) : Int) := by rw [Int.tdiv_eq_ediv_of_nonneg (by omega), wrap64_id (by omega) (by omega)]; omega
  have e3 : wrap64 (2 * (bit : Int)) = ((2 * bit : Nat) : Int) := by rw [wrap64_id (by omega) (by omega)]; omega
  have e4 : wrap64 ((i : Int) + 1) = ((i + 1 : Nat) : Int) := by rw [wrap64_id (by omega) (by omega)]; omega
  have e5 : wrap64 ((out : Int) + (bit : Int)) = ((out + bit : Nat) : Int) := by rw [wrap64_id (by omega) (by omega)]; omega
  have e6 : Int.tmod (a : Int) 2 = ((a % 2 : Nat) : Int) := by rw [Int.tmod_eq_emod_of_nonneg (by omega)]; omega
  have e7 : Int.tmod (b : Int) 2 = ((b % 2 : Nat) : Int) := by rw [Int.tmod_eq_emod_of_nonneg (by omega)]; omega
  simp only [spec_l04Xor.l0, e1, e2, e3, e4, e5, e6, e7]
  rcases hs with ⟨h1, h2⟩ | ⟨h1, h2⟩
  · rw [if_pos hi', if_pos h2, ← h1]
  · rw [if_pos hi', if_neg h2, ← h1]
theorem spec_xor_loop (d : Nat) : ∀ (i a b out bit : Nat), i + d = 32 → a < 2 ^ d → b < 2 ^ d → bit * 2 ^ d = 4294967296 → out < bit →
    Ev (fun k => spec_l04Xor.l0 k (a : Int) (b : Int) (out : Int) (bit : Int) (i : Int)) ((out + bit * (a ^^^ b) : Nat) : Int) := by
  induction d with
  | zero =>
    intro i a b out bit hi ha hb hbit ho
    have ea : a = 0 := by simpa using ha
    have eb : b = 0 := by simpa using hb
    subst ea eb
    refine Ev.step (f := fun _ => some (out : Int)) (fun k => ?_) (by simpa using Ev.now (out : Int))
    simp only [spec_l04Xor.l0]
    rw [if_neg (by omega)]
  | succ d ih =>
    intro i a b out bit hi ha hb hbit ho
    have hbit' : (2 * bit) * 2 ^ d = 4294967296 := by rw [← hbit, Nat.pow_succ]; ac_rfl
    have hb32 : 2 * bit ≤ 4294967296 := by
      rw [← hbit']
      exact Nat.le_mul_of_pos_right _ (Nat.two_pow_pos d)
    have hd : d + 1 ≤ 32 := by clear hbit hbit' ha hb; omega
    have ha2 : a < 4294967296 := Nat.lt_of_lt_of_le ha (Nat.pow_le_pow_right (by decide) hd)
    have hb2 : b < 4294967296 := Nat.lt_of_lt_of_le hb (Nat.pow_le_pow_right (by decide) hd)
    have ha' : a / 2 < 2 ^ d := by rw [Nat.pow_succ] at ha; exact Nat.div_lt_of_lt_mul (by rw [Nat.mul_comm]; exact ha)
    have hb' : b / 2 < 2 ^ d := by rw [Nat.pow_succ] at hb; exact Nat.div_lt_of_lt_mul (by rw [Nat.mul_comm]; exact hb)
    clear hbit ha hb
    have hx := xor_step a b
    have ho' : out + bit * ((a % 2 + b % 2) % 2) < 2 * bit := by
      rcases Nat.mod_two_eq_zero_or_one (a % 2 + b % 2) with h | h <;> rw [h] <;> omega
    have h := ih (i + 1) (a / 2) (b / 2) (out + bit * ((a % 2 + b % 2) % 2)) (2 * bit) (by omega) ha' hb' hbit' ho'
    have er : out + bit * (a ^^^ b) = out + bit * ((a % 2 + b % 2) % 2) + 2 * bit * ((a / 2) ^^^ (b / 2)) := by
      rw [hx, Nat.mul_add, ← Nat.mul_assoc, Nat.mul_comm bit 2, Nat.add_assoc]
    rw [er]
    exact Ev.step (fun k => spec_xor_step a b out bit i k ha2 hb2 (by omega) ho (by omega)) h
theorem spec_xor (x y : Int) (h0 : 0 ≤ x) (h1 : x < 4294967296) (h2 : 0 ≤ y) (h3 : y < 4294967296) : Ev (fun k => spec_l04Xor.f k x y) (Go.bits .xor .u32 x y) := by
  obtain ⟨a, rfl⟩ := Int.eq_ofNat_of_zero_le h0
  obtain ⟨b, rfl⟩ := Int.eq_ofNat_of_zero_le h2
  rw [bits_xor_nat a b (by omega) (by omega)]
  have h := spec_xor_loop 32 0 a b 0 1 (by decide) (by omega) (by omega) (by decide) (by decide)
  simpa [spec_l04Xor.f] using h
theorem spec_hash_loop (s : ByteArray) (hs : s.size ≤ 140737488355328) (d : Nat) : ∀ (x : Int) (i : Nat), 0 ≤ x → x < 4294967296 → s.size - i = d → i ≤ s.size →
    Ev (fun k => spec_HashOf.l0 k s x (i : Int)) (fold16 (hashL (s.data.toList.drop i) x)) := by
  induction d with
  | zero =>
    intro x i h0 h1 hd hi
    have e : s.data.toList.drop i = [] := List.drop_eq_nil_of_le (by simp; omega)
    have ew : wrap64 (Int.tdiv x 65536) = x / 65536 := by rw [Int.tdiv_eq_ediv_of_nonneg h0, wrap64_id (by omega) (by omega)]
    rw [e]
    refine Ev.step (f := fun k => (spec_l04Xor.f k x (x / 65536)).bind fun t => some t) (fun k => ?_) (Ev.bind (spec_xor x (x / 65536) h0 h1 (by omega) (by omega)) (Ev.now _))
    simp only [spec_HashOf.l0]
    rw [if_neg (by omega), ew]
  | succ d ih =>
    intro x i h0 h1 hd hi
    obtain ⟨c, e, hb⟩ := drop_bt s i (by omega)
    have hc := c.toNat_lt
    obtain ⟨a, b⟩ := bits_xor_range x (c.toNat : Int)
    obtain ⟨a', b'⟩ := hashByte_range x c
    have h := ih (hashByte x c) (i + 1) a' b' (by omega) (by omega)
    rw [e]
    have ew : wrap64 ((i : Int) + 1) = ((i + 1 : Nat) : Int) := by rw [wrap64_id (by omega) (by omega)]; omega
    have eb : wrap64 (bt s (i : Int)) = (c.toNat : Int) := by rw [hb, wrap64_id (by omega) (by omega)]
    have em : Int.tmod (wrap64 (Go.bits .xor .u32 x (c.toNat : Int) * 16777619)) 4294967296 = hashByte x c := by
      rw [wrap64_id (by omega) (by omega), Int.tmod_eq_emod_of_nonneg (by omega)]
      rfl
    refine Ev.step (f := fun k => (spec_l04Xor.f k x (c.toNat : Int)).bind fun t => spec_HashOf.l0 k s (Int.tmod (wrap64 (t * 16777619)) 4294967296) ((i + 1 : Nat) : Int)) (fun k => ?_) (Ev.bind (spec_xor x (c.toNat : Int) h0 h1 (by omega) (by omega)) (by rw [em]; exact h))
    simp only [spec_HashOf.l0]
    rw [if_pos (by omega), if_pos (by omega), eb, ew]
theorem spec_hash (s : ByteArray) (hs : s.size ≤ 140737488355328) (seed : Int) : Ev (fun k => spec_HashOf.f k s seed) (hashOf s seed) := by
  have hl := fun (x : Int) (h0 : 0 ≤ x) (h1 : x ≤ 1000000000) => spec_hash_loop s hs _ (2166136261 + x) 0 (by omega) (by omega) rfl (by omega)
  have h1 : ∀ x : Int, 0 ≤ x → x ≤ 1000000000 → Ev (fun k => spec_HashOf.j1 k s x) (fold16 (hashL s.data.toList (2166136261 + x))) := fun x h0 h1 => by
    have em : Int.tmod (wrap64 (2166136261 + x)) 4294967296 = 2166136261 + x := by rw [wrap64_id (by omega) (by omega), Int.tmod_eq_emod_of_nonneg (by omega)]; omega
    refine Ev.step (fun k => ?_) (by simpa using hl x h0 h1)
    simp only [spec_HashOf.j1]
    rw [em]
  have h2 : ∀ x : Int, 0 ≤ x → Ev (fun k => spec_HashOf.j0 k s x) (fold16 (hashL s.data.toList (2166136261 + (if x > 1000000000 then 1000000000 else x)))) := fun x h0 => by
    by_cases hx : x > 1000000000
    · refine Ev.step (fun k => ?_) (h1 1000000000 (by omega) (by omega) |> fun z => by simpa [hx] using z)
      simp only [spec_HashOf.j0]
      rw [if_pos hx]
    · refine Ev.step (fun k => ?_) (h1 x h0 (by omega) |> fun z => by simpa [hx] using z)
      simp only [spec_HashOf.j0]
      rw [if_neg hx]
  unfold spec_HashOf.f hashOf clampSeed
  by_cases hn : seed < 0
  · simp only [if_pos hn]
    simpa using h2 0 (by omega)
  · simp only [if_neg hn]
    exact h2 seed (by omega)
theorem impl_hash_loop (s : ByteArray) (hs : s.size ≤ 140737488355328) (d : Nat) : ∀ (x : Int) (i : Nat), 0 ≤ x → x < 4294967296 → s.size - i = d → i ≤ s.size →
    Ev (fun k => impl_HashOf.l0 k s x (i : Int)) (fold16 (hashL (s.data.toList.drop i) x)) := by
  induction d with
  | zero =>
    intro x i h0 h1 hd hi
    have e : s.data.toList.drop i = [] := List.drop_eq_nil_of_le (by simp; omega)
    obtain ⟨a, b⟩ := bits_xor_range x (x / 65536)
    rw [e]
    refine Ev.step (f := fun _ => some (fold16 x)) (fun k => ?_) (Ev.now _)
    simp only [impl_HashOf.l0]
    rw [if_neg (by omega), wrap64_id (by omega) (by omega)]
    rfl
  | succ d ih =>
    intro x i h0 h1 hd hi
    obtain ⟨c, e, hb⟩ := drop_bt s i (by omega)
    have hc := c.toNat_lt
    obtain ⟨a', b'⟩ := hashByte_range x c
    have h := ih (hashByte x c) (i + 1) a' b' (by omega) (by omega)
    rw [e]
    have ew : wrap64 ((i : Int) + 1) = ((i + 1 : Nat) : Int) := by rw [wrap64_id (by omega) (by omega)]; omega
    have eb : bt s (i : Int) % 4294967296 = (c.toNat : Int) := by rw [hb]; omega
    refine Ev.step (fun k => ?_) h
    simp only [impl_HashOf.l0]
    rw [if_pos (by omega), if_pos (by omega), eb, ew]
    rfl
theorem impl_hash (s : ByteArray) (hs : s.size ≤ 140737488355328) (seed : Int) : Ev (fun k => impl_HashOf.f k s seed) (hashOf s seed) := by
  obtain ⟨a, b⟩ := clampSeed_range seed
  have e : mx 0 (mn seed 1000000000) = clampSeed seed := by unfold mx mn clampSeed; omega
  have h := impl_hash_loop s hs _ (2166136261 + clampSeed seed) 0 (by omega) (by omega) rfl (by omega)
  unfold impl_HashOf.f hashOf
  rw [e]
  simpa using h

theorem hash_mod (s : ByteArray) (seed : Int) : 0 ≤ hashOf s seed % 16 ∧ hashOf s seed % 16 < 16 := by omega
def atOf (s : ByteArray) (row : Int) : Int := row * 16 + hashOf s row % 16
theorem spec_at (s : ByteArray) (hs : s.size ≤ 140737488355328) (row : Int) (h0 : 0 ≤ row) (h1 : row ≤ 2) : Ev (fun k => spec_l05At.f k s row) (atOf s row) := by
  obtain ⟨a, b⟩ := hashOf_range s row
  unfold spec_l05At.f atOf
  refine Ev.bind (spec_hash s hs row) ?_
  simp only [Int.tmod_eq_emod_of_nonneg a]
  have e1 : wrap64 (row * 16) = row * 16 := wrap64_id (by omega) (by omega)
  have e2 : wrap64 (row * 16 + hashOf s row % 16) = row * 16 + hashOf s row % 16 := wrap64_id (by omega) (by omega)
  simp only [e1, e2]
  exact Ev.now _
theorem impl_at (s : ByteArray) (hs : s.size ≤ 140737488355328) (row : Int) (h0 : 0 ≤ row) (h1 : row ≤ 2) : Ev (fun k => impl_countAt.f k s row) (atOf s row) := by
  obtain ⟨a, b⟩ := hashOf_range s row
  unfold impl_countAt.f atOf
  refine Ev.bind (impl_hash s hs row) ?_
  simp only [Int.tmod_eq_emod_of_nonneg a]
  have e1 : wrap64 (row * 16) = row * 16 := wrap64_id (by omega) (by omega)
  have e2 : wrap64 (row * 16 + hashOf s row % 16) = row * 16 + hashOf s row % 16 := wrap64_id (by omega) (by omega)
  simp only [e1, e2]
  exact Ev.now _

theorem at_range (s : ByteArray) (row : Int) (h0 : 0 ≤ row) (h1 : row ≤ 2) : 0 ≤ atOf s row ∧ atOf s row < 48 := by
  unfold atOf
  omega
def guess (l : List Int) (s : ByteArray) : Int := min (min (min 15 (rd l (atOf s 0))) (rd l (atOf s 1))) (rd l (atOf s 2))
theorem impl_guess_loop (l : List Int) (a : Int) (s : ByteArray) (hs : s.size ≤ 140737488355328) (hl : l.length = 48) : Ev (fun k => impl_GuessKey.l0 k s 15 0 l a) (guess l s) := by
  have step : ∀ (least row r : Int), 0 ≤ row → row ≤ 2 → Ev (fun k => impl_GuessKey.l0 k s (min least (rd l (atOf s row))) (row + 1) l a) r → Ev (fun k => impl_GuessKey.l0 k s least row l a) r := by
    intro least row r h0 h1 h
    obtain ⟨a0, a1⟩ := at_range s row h0 h1
    have em : mn least (rd l (atOf s row)) = min least (rd l (atOf s row)) := by unfold mn; omega
    refine Ev.step (f := fun k => (impl_countAt.f k s row).bind fun t139 => (if 0 ≤ t139 then (if t139 < (l.length : Int) then (impl_GuessKey.l0 k s (mn least (rd l t139)) (row + 1) l a) else (none)) else (none))) (fun k => ?_) (Ev.bind (impl_at s hs row h0 h1) ?_)
    · simp only [impl_GuessKey.l0]
      rw [if_pos (by omega), wrap64_id (x := row + 1) (by omega) (by omega)]
    · simp only [if_pos a0, if_pos (show atOf s row < (l.length : Int) by omega), em]
      exact h
  refine step 15 0 _ (by omega) (by omega) (step _ 1 _ (by omega) (by omega) (step _ 2 _ (by omega) (by omega) ?_))
  refine Ev.step (f := fun _ => some (guess l s)) (fun k => ?_) (Ev.now _)
  simp only [impl_GuessKey.l0]
  rw [if_neg (by omega)]
  rfl
theorem spec_guess_loop (l : List Int) (a : Int) (s : ByteArray) (hs : s.size ≤ 140737488355328) (hl : l.length = 48) : Ev (fun k => spec_GuessKey.l0 k s 15 0 l a) (guess l s) := by
  have step : ∀ (least row r : Int), 0 ≤ row → row ≤ 2 → Ev (fun k => spec_GuessKey.l0 k s (min least (rd l (atOf s row))) (row + 1) l a) r → Ev (fun k => spec_GuessKey.l0 k s least row l a) r := by
    intro least row r h0 h1 h
    obtain ⟨a0, a1⟩ := at_range s row h0 h1
    refine Ev.step (f := fun k => (spec_l05At.f k s row).bind fun t128 => (if 0 ≤ t128 then (if t128 < (l.length : Int) then (if (rd l t128) < least then ((spec_l05At.f k s row).bind fun t130 => (if 0 ≤ t130 then (if t130 < (l.length : Int) then (spec_GuessKey.l0 k s (rd l t130) (row + 1) l a) else (none)) else (none))) else (spec_GuessKey.l0 k s least (row + 1) l a)) else (none)) else (none))) (fun k => ?_) (Ev.bind (spec_at s hs row h0 h1) ?_)
    · simp only [spec_GuessKey.l0]
      rw [if_pos (by omega), wrap64_id (x := row + 1) (by omega) (by omega)]
    · simp only [if_pos a0, if_pos (show atOf s row < (l.length : Int) by omega)]
      by_cases hlt : rd l (atOf s row) < least
      · simp only [if_pos hlt]
        refine Ev.bind (spec_at s hs row h0 h1) ?_
        simp only [if_pos a0, if_pos (show atOf s row < (l.length : Int) by omega)]
        rw [show min least (rd l (atOf s row)) = rd l (atOf s row) by omega] at h
        exact h
      · simp only [if_neg hlt]
        rw [show min least (rd l (atOf s row)) = least by omega] at h
        exact h
  refine step 15 0 _ (by omega) (by omega) (step _ 1 _ (by omega) (by omega) (step _ 2 _ (by omega) (by omega) ?_))
  refine Ev.step (f := fun _ => some (guess l s)) (fun k => ?_) (Ev.now _)
  simp only [spec_GuessKey.l0]
  rw [if_neg (by omega)]
  rfl

noncomputable def guessKey (l : List Int) (a : Int) (s : ByteArray) : Int := if skOk l a = true then guess l s else 0
theorem skOk_length {l : List Int} {a : Int} (h : skOk l a = true) : l.length = 48 := (tr_iff.1 h).1
theorem impl_guesskey (l : List Int) (a : Int) (s : ByteArray) (hl : l.length ≤ 1048576) (hs : s.size ≤ 140737488355328) : Ev (fun k => impl_GuessKey.f k l a s) (guessKey l a s) := by
  unfold impl_GuessKey.f guessKey
  refine Ev.bind (impl_skok l a hl) ?_
  by_cases h : skOk l a = true
  · simp only [if_pos h]
    exact impl_guess_loop l a s hs (skOk_length h)
  · simp only [if_neg h]
    exact Ev.now _
theorem spec_guesskey (l : List Int) (a : Int) (s : ByteArray) (hl : l.length ≤ 1048576) (hs : s.size ≤ 140737488355328) : Ev (fun k => spec_GuessKey.f k l a s) (guessKey l a s) := by
  unfold spec_GuessKey.f guessKey
  refine Ev.bind (spec_skok l a hl) ?_
  by_cases h : skOk l a = true
  · simp only [if_pos h]
    exact spec_guess_loop l a s hs (skOk_length h)
  · simp only [if_neg h]
    exact Ev.now _

theorem FnExactGuessKey (l : List Int) (a : Int) (s : ByteArray) (h : l.length ≤ maxLen ∧ ∀ y ∈ l, (Lit.int .i64 y).wf = true) (ha : (Lit.int .i64 a).wf = true) (hs : s.size ≤ 140737488351232) : ∃ k, laws_FnExactGuessKey.f k l a s = some true := by
  refine Ev.rounds ?_
  unfold laws_FnExactGuessKey.f
  by_cases hb : (s.size : Int) > 1048576
  · simp only [if_pos hb]
    exact Ev.now _
  · simp only [if_neg hb]
    obtain ⟨r, hr, hlen⟩ := sz_sketch l a h.1
    simp only [hr, Option.bind_some]
    by_cases h0 : r < 0
    · simp only [if_pos h0]
      exact Ev.now _
    · simp only [if_neg h0]
      have hl := hlen (by omega)
      refine Ev.bind (to_sketch l a hl) (Ev.bind (spec_guesskey l a s hl (by omega)) (Ev.bind (to_sketch l a hl) (Ev.bind (impl_guesskey l a s hl (by omega)) ?_)))
      simp only [if_true]
      refine Ev.bind (to_sketch l a hl) (Ev.bind (eq_sketch l a hl) ?_)
      simp only [if_true]
      exact Ev.now _

end Go.Proofs.Ytcoboobnpmaahaa.Pure
