/- The pure statement of the law FnTurned: plain Lean over numbers and lists. -/
import Derived.Test.YtcoboobnpmaahaaHFnTurnedx3
import Derived.Test.YtcoboobnpmaahaaMath
set_option linter.unusedSimpArgs false
set_option linter.unusedVariables false
namespace Go.Proofs.Ytcoboobnpmaahaa.Pure
open Go.RowKit Go.Proofs.Ytcoboobnpmaahaa.HFnTurned Go.Proofs.YtcoboobnpmaahaaW.PrintWords Go.Proofs.YtcoboobnpmaahaaW.PrintLast Go.Proofs.Ytcoboobnpmaahaa.Math

/-! ### a reader of draws -/
def CurOk (b : List Int) (i : Int) : Prop := 0 ≤ i ∧ i ≤ b.length ∧ b.length ≤ 140737488355328
theorem cur_new (l : List Int) (hl : l.length ≤ 140737488355328) : ∃ h, Ev (fun k => spec_l01New.f k l) (l, 0, h) := by
  have key : ∀ (d : Nat) (h : Int) (i : Nat), l.length - i = d → ∃ h', Ev (fun k => spec_l01New.l0 k l h (i : Int)) (l, 0, h') := by
    intro d
    induction d with
    | zero =>
      intro h i hd
      refine ⟨h, Ev.step (f := fun _ => some (l, 0, h)) (fun k => ?_) (Ev.now _)⟩
      simp only [spec_l01New.l0]
      rw [if_neg (by omega)]
    | succ d ih =>
      intro h i hd
      by_cases h4 : (i : Int) < 4000
      · obtain ⟨h', hh⟩ := ih (Go.bits .and .i64 (wrap64 ((wrap64 ((wrap64 (h * 131)) + (wrap64 (rd l (i : Int))))) + 7)) 1073741823) (i + 1) (by omega)
        refine ⟨h', Ev.step (fun k => ?_) hh⟩
        simp only [spec_l01New.l0]
        rw [if_pos (by omega), if_pos h4, if_pos (by omega), wrap64_id (x := (i : Int) + 1) (by omega) (by omega)]
        rfl
      · refine ⟨h, Ev.step (f := fun _ => some (l, 0, h)) (fun k => ?_) (Ev.now _)⟩
        simp only [spec_l01New.l0]
        rw [if_pos (by omega), if_neg h4]
  exact key _ _ 0 rfl
theorem cur_byte (b : List Int) (i h : Int) (hc : CurOk b i) : ∃ x i' h', spec_l01Byte.f b i h = some (x, i', h') ∧ (0 ≤ x ∧ x ≤ 255) ∧ CurOk b i' := by
  obtain ⟨h0, h1, h2⟩ := hc
  unfold spec_l01Byte.f
  by_cases hlt : i < (b.length : Int)
  · rw [if_pos hlt, if_pos h0]
    exact ⟨_, _, _, rfl, bits_and_255 _, by rw [wrap64_id (by omega) (by omega)]; exact ⟨by omega, by omega, h2⟩⟩
  · rw [if_neg hlt]
    exact ⟨_, _, _, rfl, bits_and_255 _, h0, h1, h2⟩
theorem cur_below (b : List Int) (i h n : Int) (hn : n ≤ 4294967296) (hc : CurOk b i) : ∃ x i' h', spec_l01Below.f b i h n = some (x, i', h') ∧ 0 ≤ x ∧ (x = 0 ∨ x < n) ∧ CurOk b i' := by
  unfold spec_l01Below.f
  by_cases h0 : n ≤ 0
  · rw [if_pos h0]
    exact ⟨_, _, _, rfl, by omega, .inl rfl, hc⟩
  · rw [if_neg h0]
    by_cases h1 : n ≤ 256
    · rw [if_pos h1]
      obtain ⟨x, i', h', e, ⟨hx0, hx1⟩, hc'⟩ := cur_byte b i h hc
      rw [e, Option.bind_some, if_neg (by omega)]
      have em : Int.tmod x n = x % n := Int.tmod_eq_emod_of_nonneg hx0
      exact ⟨_, _, _, rfl, by simp only [em]; exact Int.emod_nonneg _ (by omega), .inr (by simp only [em]; exact Int.emod_lt_of_pos _ (by omega)), hc'⟩
    · rw [if_neg h1]
      obtain ⟨x, i1, h1, e1, ⟨x0, x1⟩, c1⟩ := cur_byte b i h hc
      obtain ⟨y, i2, h2, e2, ⟨y0, y1⟩, c2⟩ := cur_byte b i1 h1 c1
      obtain ⟨z, i3, h3, e3, ⟨z0, z1⟩, c3⟩ := cur_byte b i2 h2 c2
      obtain ⟨v, i4, h4, e4, ⟨v0, v1⟩, c4⟩ := cur_byte b i3 h3 c3
      rw [e1, Option.bind_some]
      simp only [e2, Option.bind_some, e3, e4]
      rw [if_neg (by omega)]
      have a1 : wrap64 (x * 16777216) = x * 16777216 := wrap64_id (by omega) (by omega)
      have a2 : wrap64 (y * 65536) = y * 65536 := wrap64_id (by omega) (by omega)
      have a3 : wrap64 (x * 16777216 + y * 65536) = x * 16777216 + y * 65536 := wrap64_id (by omega) (by omega)
      have a4 : wrap64 (z * 256) = z * 256 := wrap64_id (by omega) (by omega)
      have a5 : wrap64 (x * 16777216 + y * 65536 + z * 256) = x * 16777216 + y * 65536 + z * 256 := wrap64_id (by omega) (by omega)
      have a6 : wrap64 (x * 16777216 + y * 65536 + z * 256 + v) = x * 16777216 + y * 65536 + z * 256 + v := wrap64_id (by omega) (by omega)
      rw [a1, a2, a3, a4, a5, a6]
      have em : Int.tmod (x * 16777216 + y * 65536 + z * 256 + v) n = (x * 16777216 + y * 65536 + z * 256 + v) % n := Int.tmod_eq_emod_of_nonneg (by omega)
      exact ⟨_, _, _, rfl, by simp only [em]; exact Int.emod_nonneg _ (by omega), .inr (by simp only [em]; exact Int.emod_lt_of_pos _ (by omega)), c4⟩

theorem cur_text_loop (b : List Int) (n : Int) (hn : n ≤ 5000) (d : Nat) : ∀ (xs : List Int) (j : Nat) (i h : Int), (n - j).toNat = d → xs.length + d ≤ 5000 → CurOk b i →
    ∃ s i' h', Ev (fun k => spec_l01Text.l0 k n xs (j : Int) b i h) (s, i', h') ∧ s.size ≤ xs.length + d ∧ CurOk b i' := by
  induction d with
  | zero =>
    intro xs j i h hd hx hc
    refine ⟨strOfNums xs, i, h, Ev.step (f := fun _ => some (strOfNums xs, i, h)) (fun k => ?_) (Ev.now _), by rw [strOfNums_size]; omega, hc⟩
    simp only [spec_l01Text.l0]
    rw [if_neg (by omega)]
  | succ d ih =>
    intro xs j i h hd hx hc
    obtain ⟨x, i1, h1, e1, _, c1⟩ := cur_byte b i h hc
    obtain ⟨s, i', h', hs, hsz, hc'⟩ := ih (xs ++ [x % 256]) (j + 1) i1 h1 (by omega) (by simp; omega) c1
    refine ⟨s, i', h', Ev.step (fun k => ?_) hs, by simp at hsz; omega, hc'⟩
    simp only [spec_l01Text.l0]
    rw [if_pos (by omega), e1, Option.bind_some, if_pos (by omega), wrap64_id (x := (j : Int) + 1) (by omega) (by omega)]
    rfl
theorem cur_text (b : List Int) (i h n : Int) (hn : n ≤ 5000) (hc : CurOk b i) : ∃ s i' h', Ev (fun k => spec_l01Text.f k b i h n) (s, i', h') ∧ s.size ≤ n.toNat ∧ CurOk b i' := by
  obtain ⟨s, i', h', hs, hsz, hc'⟩ := cur_text_loop b n hn n.toNat [] 0 i h (by omega) (by simp; omega) hc
  refine ⟨s, i', h', ?_, by simpa using hsz, hc'⟩
  unfold spec_l01Text.f
  simp only [if_neg (show ¬ n > 5000 by omega)]
  refine Ev.step (fun k => ?_) hs
  simp only [spec_l01Text.j0]
  rfl

theorem draw_places_loop (b : List Int) (d : Nat) : ∀ (xs : List Int) (ci h : Int), xs.length + d = 12 → CurOk b ci → (∀ x ∈ xs, 0 ≤ x ∧ x < 10000) → ∃ p : List Int, p.length = 12 ∧ (∀ x ∈ p, 0 ≤ x ∧ x < 10000) ∧ Ev (fun k => spec_DrawPlaces.l0 k xs (xs.length : Int) b ci h) p := by
  induction d with
  | zero =>
    intro xs ci h hd hc hx
    refine ⟨xs, by omega, hx, Ev.step (f := fun _ => some xs) (fun k => ?_) (Ev.now _)⟩
    simp only [spec_DrawPlaces.l0]
    rw [if_neg (by omega)]
  | succ d ih =>
    intro xs ci h hd hc hx
    obtain ⟨y, ci1, h1, e, y0, y1, hc1⟩ := cur_below b ci h 10000 (by omega) hc
    have ew : Aside0 (wrap64 ((xs.length : Int) + 1) = ((xs ++ [y]).length : Int)) := ⟨by rw [wrap64_id (by omega) (by omega)]; simp⟩
    obtain ⟨p, p1, p2, p3⟩ := ih (xs ++ [y]) ci1 h1 (by simp; omega) hc1 (fun x hm => by
      rcases List.mem_append.1 hm with hm | hm
      · exact hx x hm
      · rw [List.mem_singleton] at hm; omega)
    refine ⟨p, p1, p2, Ev.step (fun k => ?_) p3⟩
    simp only [spec_DrawPlaces.l0]
    rw [if_pos (by omega), e, Option.bind_some, if_pos (by omega), ew.out]
theorem draw_places (b : List Int) (hl : b.length ≤ 140737488355328) : ∃ p : List Int, p.length = 12 ∧ (∀ x ∈ p, 0 ≤ x ∧ x < 10000) ∧ Ev (fun k => spec_DrawPlaces.f k b) p := by
  obtain ⟨h, e0⟩ := cur_new b hl
  obtain ⟨x, ci, h1, e1, _, hc⟩ := cur_byte b 0 h ⟨by omega, by omega, hl⟩
  obtain ⟨p, p1, p2, p3⟩ := draw_places_loop b 12 [] ci h1 rfl hc (fun x hm => absurd hm (by simp))
  refine ⟨p, p1, p2, ?_⟩
  unfold spec_DrawPlaces.f
  refine Ev.bind e0 ?_
  simp only [e1, Option.bind_some]
  exact p3

theorem bytes_eq {a b : ByteArray} (h : a.data.toList = b.data.toList) : a = b := by
  cases a; cases b; simpa using h

theorem impl_sum_in (s : ByteArray) (i : Int) (r : Int) (d : Nat) : ∀ (x j : Int), 0 ≤ x → x < 4294967296 → 0 ≤ j → 8 - j = d →
    Ev (fun k => impl_SumMore.l0 k (halves d x) s (wrap64 (i + 1))) r → Ev (fun k => impl_SumMore.l1 k x s i j) r := by
  induction d with
  | zero =>
    intro x j h0 h1 hj hd h
    exact Ev.step (fun k => by simp only [impl_SumMore.l1]; rw [if_neg (by omega)]; rfl) h
  | succ d ih =>
    intro x j h0 h1 hj hd h
    have ew : wrap64 (j + 1) = j + 1 := wrap64_id (by omega) (by omega)
    have em : Go.bits .and .u32 x 1 = x % 2 := bits_and_one x h0 h1
    obtain ⟨a, b⟩ := half_range h0 h1
    refine Ev.step (f := fun k => impl_SumMore.l1 k (half x) s i (j + 1)) (fun k => ?_) (ih (half x) (j + 1) a b (by omega) (by omega) h)
    simp only [impl_SumMore.l1]
    rw [if_pos (by omega), ew, em]
    by_cases hx : x % 2 = 1
    · rw [if_pos hx, half, if_pos hx]
    · rw [if_neg hx, half, if_neg hx]
theorem impl_sum_out (s : ByteArray) (hs : s.size ≤ 140737488355328) (d : Nat) : ∀ (x : Int) (i : Nat), 0 ≤ x → x < 4294967296 → s.size - i = d → i ≤ s.size →
    Ev (fun k => impl_SumMore.l0 k x s (i : Int)) (sumL (s.data.toList.drop i) x) := by
  induction d with
  | zero =>
    intro x i h0 h1 hd hi
    have e : s.data.toList.drop i = [] := List.drop_eq_nil_of_le (by simp; omega)
    rw [e]
    exact Ev.step (f := fun _ => some x) (fun k => by simp only [impl_SumMore.l0]; rw [if_neg (by omega)]) (Ev.now x)
  | succ d ih =>
    intro x i h0 h1 hd hi
    obtain ⟨c, e, hb⟩ := drop_bt s i (by omega)
    have hc := c.toNat_lt
    obtain ⟨a, b⟩ := bits_xor_range x (c.toNat : Int)
    obtain ⟨a', b'⟩ := halves_range 8 a b
    have h := ih (sumByte x c) (i + 1) a' b' (by omega) (by omega)
    rw [e]
    have ew : wrap64 ((i : Int) + 1) = ((i + 1 : Nat) : Int) := by rw [wrap64_id (by omega) (by omega)]; omega
    refine Ev.step (f := fun k => impl_SumMore.l1 k (Go.bits .xor .u32 x (c.toNat : Int)) s i 0) (fun k => ?_) (impl_sum_in s i _ 8 _ 0 a b (by omega) (by omega) (by rw [ew]; exact h))
    simp only [impl_SumMore.l0]
    rw [if_pos (by omega), if_pos (by omega), hb, Int.emod_eq_of_lt (by omega) (by omega)]
theorem impl_sum (s : ByteArray) (hs : s.size ≤ 140737488355328) (x : Int) (h0 : 0 ≤ x) (h1 : x < 4294967296) : Ev (fun k => impl_SumMore.f k x s) (sumL s.data.toList x) := by
  simpa [impl_SumMore.f] using impl_sum_out s hs _ x 0 h0 h1 rfl (by omega)
theorem impl_sumof (s : ByteArray) (hs : s.size ≤ 140737488355328) : Ev (fun k => impl_SumOf.f k s) (sumL s.data.toList 4294967295) := by
  unfold impl_SumOf.f
  exact Ev.bind (impl_sum s hs 4294967295 (by omega) (by omega)) (Ev.now _)
def four (x : Int) : ByteArray := strOfNums [(x / 16777216) % 256, (x / 65536) % 256, (x / 256) % 256, x % 256]
theorem four_size (x : Int) : (four x).size = 4 := by
  unfold four
  rw [strOfNums_size]
  rfl
def tail4 (s : ByteArray) : ByteArray := four (sumL s.data.toList 4294967295)
theorem tail4_size (s : ByteArray) : (tail4 s).size = 4 := four_size _
theorem impl_sumtext (s : ByteArray) (hs : s.size ≤ 140737488355328) : Ev (fun k => impl_sumText.f k s) (tail4 s) := by
  unfold impl_sumText.f
  exact Ev.bind (impl_sumof s hs) (Ev.now _)
theorem impl_sealed (s : ByteArray) (h : ¬ (s.size : Int) > 20000) : Ev (fun k => impl_Sealed.f k s) (s ++ tail4 s, true) := by
  unfold impl_Sealed.f
  simp only [if_neg h]
  refine Ev.bind (impl_sumtext s (by omega)) ?_
  have hz := tail4_size s
  simp only [if_pos (show s.size + (tail4 s).size ≤ 9223372036854775807 by omega)]
  exact Ev.now _
/-- What Unsealed tells, in plain words. -/
def bare (s : ByteArray) : ByteArray × Bool :=
  if (s.size : Int) - 4 < 0 then (⟨#[]⟩, false) else if (s.size : Int) - 4 > 20000 then (⟨#[]⟩, false)
  else if (tail4 (s.extract 0 (s.size - 4))).toList = (s.extract (s.size - 4) s.size).toList then (s.extract 0 (s.size - 4), true) else (⟨#[]⟩, false)
theorem impl_unsealed (s : ByteArray) (hs : s.size ≤ 140737488355328) : Ev (fun k => impl_Unsealed.f k s) (bare s) := by
  unfold impl_Unsealed.f bare
  have ew : wrap64 ((s.size : Int) - 4) = (s.size : Int) - 4 := wrap64_id (by omega) (by omega)
  have en : ((s.size : Int) - 4).toNat = s.size - 4 := by omega
  have hz : (s.extract 0 (s.size - 4)).size ≤ 140737488355328 := by
    rw [ByteArray.size_extract]
    omega
  simp only [ew, en]
  by_cases h0 : (s.size : Int) - 4 < 0
  · simp only [if_pos h0]
    exact Ev.now _
  · by_cases h1 : (s.size : Int) - 4 > 20000
    · simp only [if_neg h0, if_pos h1]
      exact Ev.now _
    · simp only [if_neg h0, if_neg h1, if_pos (show 0 ≤ (s.size : Int) - 4 by omega), if_pos (show (s.size : Int) - 4 ≤ (s.size : Int) by omega)]
      refine Ev.bind (impl_sumtext _ hz) ?_
      by_cases e : (tail4 (s.extract 0 (s.size - 4))).toList = (s.extract (s.size - 4) s.size).toList
      · simp only [if_pos e]
        exact Ev.now _
      · simp only [if_neg e]
        exact Ev.now _

/-! ### one byte that is another turns the check sum -/
theorem xor_cancel (a b c : Nat) (h : a ^^^ c = b ^^^ c) : a = b := by
  have := congrArg (· ^^^ c) h
  simpa [Nat.xor_assoc] using this
theorem xor32 (a b c : Int) (ha : 0 ≤ a ∧ a < 4294967296) (hb : 0 ≤ b ∧ b < 4294967296) (hc : 0 ≤ c ∧ c < 4294967296) (h : Go.bits .xor .u32 a c = Go.bits .xor .u32 b c) : a = b := by
  obtain ⟨a, rfl⟩ := Int.eq_ofNat_of_zero_le ha.1
  obtain ⟨b, rfl⟩ := Int.eq_ofNat_of_zero_le hb.1
  obtain ⟨c, rfl⟩ := Int.eq_ofNat_of_zero_le hc.1
  rw [bits_xor_nat a c (by omega) (by omega), bits_xor_nat b c (by omega) (by omega)] at h
  have := xor_cancel a b c (by omega)
  omega
theorem xor32r (x a b : Int) (hx : 0 ≤ x ∧ x < 4294967296) (ha : 0 ≤ a ∧ a < 4294967296) (hb : 0 ≤ b ∧ b < 4294967296) (h : Go.bits .xor .u32 x a = Go.bits .xor .u32 x b) : a = b := by
  obtain ⟨a, rfl⟩ := Int.eq_ofNat_of_zero_le ha.1
  obtain ⟨b, rfl⟩ := Int.eq_ofNat_of_zero_le hb.1
  obtain ⟨x, rfl⟩ := Int.eq_ofNat_of_zero_le hx.1
  rw [bits_xor_nat x a (by omega) (by omega), bits_xor_nat x b (by omega) (by omega)] at h
  have := xor_cancel a b x (by rw [Nat.xor_comm a, Nat.xor_comm b]; omega)
  omega
theorem top_bit (a b : Nat) (ha : a < 2147483648) (hb : b < 2147483648) : a ^^^ 3558460437 ≠ b := by
  intro h
  have h1 : (a ^^^ 3558460437).testBit 31 = true := by
    rw [Nat.testBit_xor, Nat.testBit_lt_two_pow (show a < 2 ^ 31 by omega)]
    decide
  rw [h, Nat.testBit_lt_two_pow (show b < 2 ^ 31 by omega)] at h1
  cases h1
theorem half_inj (x y : Int) (hx : 0 ≤ x ∧ x < 4294967296) (hy : 0 ≤ y ∧ y < 4294967296) (h : half x = half y) : x = y := by
  unfold half at h
  have hno : ∀ a b : Int, 0 ≤ a ∧ a < 4294967296 → 0 ≤ b ∧ b < 4294967296 → Go.bits .xor .u32 (a / 2) 3558460437 = b / 2 → False := by
    intro a b ha hb he
    obtain ⟨a', ha'⟩ := Int.eq_ofNat_of_zero_le (show 0 ≤ a / 2 by omega)
    obtain ⟨b', hb'⟩ := Int.eq_ofNat_of_zero_le (show 0 ≤ b / 2 by omega)
    rw [ha', hb', show (3558460437 : Int) = ((3558460437 : Nat) : Int) from rfl, bits_xor_nat a' 3558460437 (by omega) (by omega)] at he
    exact top_bit a' b' (by omega) (by omega) (by omega)
  by_cases h1 : x % 2 = 1
  · by_cases h2 : y % 2 = 1
    · rw [if_pos h1, if_pos h2] at h
      have := xor32 (x / 2) (y / 2) 3558460437 (by omega) (by omega) (by omega) h
      omega
    · rw [if_pos h1, if_neg h2] at h
      exact absurd h (fun h => hno x y hx hy h)
  · by_cases h2 : y % 2 = 1
    · rw [if_neg h1, if_pos h2] at h
      exact absurd h.symm (fun h => hno y x hy hx h)
    · rw [if_neg h1, if_neg h2] at h
      omega
theorem halves_inj (n : Nat) : ∀ (x y : Int), 0 ≤ x ∧ x < 4294967296 → 0 ≤ y ∧ y < 4294967296 → halves n x = halves n y → x = y := by
  induction n with
  | zero => intro x y _ _ h; exact h
  | succ n ih => intro x y hx hy h; exact half_inj x y hx hy (ih _ _ (half_range hx.1 hx.2) (half_range hy.1 hy.2) h)
theorem byte32 (c : UInt8) : (0 : Int) ≤ (c.toNat : Int) ∧ (c.toNat : Int) < 4294967296 := by
  have := c.toNat_lt
  omega
theorem sumByte_inj (x y : Int) (c : UInt8) (hx : 0 ≤ x ∧ x < 4294967296) (hy : 0 ≤ y ∧ y < 4294967296) (h : sumByte x c = sumByte y c) : x = y :=
  xor32 x y _ hx hy (byte32 c) (halves_inj 8 _ _ (bits_xor_range _ _) (bits_xor_range _ _) h)
theorem sumByte_turn (x : Int) (c d : UInt8) (hx : 0 ≤ x ∧ x < 4294967296) (h : sumByte x c = sumByte x d) : c = d := by
  have := xor32r x _ _ hx (byte32 c) (byte32 d) (halves_inj 8 _ _ (bits_xor_range _ _) (bits_xor_range _ _) h)
  exact UInt8.toNat_inj.1 (by omega)
theorem sumL_inj (l : List UInt8) : ∀ (x y : Int), 0 ≤ x ∧ x < 4294967296 → 0 ≤ y ∧ y < 4294967296 → sumL l x = sumL l y → x = y := by
  induction l with
  | nil => intro x y _ _ h; exact h
  | cons c l ih => intro x y hx hy h; exact sumByte_inj x y c hx hy (ih _ _ (sumByte_range x c) (sumByte_range y c) h)
theorem sumL_turn (l : List UInt8) : ∀ (i : Nat) (x : Int) (b c : UInt8), 0 ≤ x ∧ x < 4294967296 → l[i]? = some c → sumL (l.set i b) x = sumL l x → b = c := by
  induction l with
  | nil => intro i x b c _ h; simp at h
  | cons a l ih =>
    intro i x b c hx h he
    cases i with
    | zero =>
      have hc : a = c := by simpa using h
      subst hc
      exact sumByte_turn x b a hx (sumL_inj l _ _ (sumByte_range x b) (sumByte_range x a) he)
    | succ i => exact ih i _ b c (sumByte_range x a) (by simpa using h) he
theorem four_inj (x y : Int) (hx : 0 ≤ x ∧ x < 4294967296) (hy : 0 ≤ y ∧ y < 4294967296) (h : (four x).data.toList = (four y).data.toList) : x = y := by
  have hb : ∀ p q : Int, 0 ≤ p ∧ p < 256 → 0 ≤ q ∧ q < 256 → UInt8.ofNat p.toNat = UInt8.ofNat q.toNat → p = q := by
    intro p q hp hq e
    have := congrArg UInt8.toNat e
    rw [UInt8.toNat_ofNat', UInt8.toNat_ofNat'] at this
    omega
  unfold four at h
  rw [strOfNums_data, strOfNums_data] at h
  simp only [List.map_cons, List.map_nil, List.cons.injEq, and_true] at h
  obtain ⟨h1, h2, h3, h4⟩ := h
  have k1 := hb _ _ (by omega) (by omega) h1
  have k2 := hb _ _ (by omega) (by omega) h2
  have k3 := hb _ _ (by omega) (by omega) h3
  have k4 := hb _ _ (by omega) (by omega) h4
  omega
theorem sum32 (l : List UInt8) : 0 ≤ sumL l 4294967295 ∧ sumL l 4294967295 < 4294967296 := sumL_range l (by omega) (by omega)
/-- A sealed text whose one byte is another is bare of no text. -/
theorem turned_no (s : ByteArray) (hs : s.size ≤ 20000) (i : Nat) (b c : UInt8) (hc : (s ++ tail4 s).data.toList[i]? = some c) (hbc : b ≠ c) (u : ByteArray) (hu : u.data.toList = (s ++ tail4 s).data.toList.set i b) : (bare u).2 = false := by
  have hL : (s ++ tail4 s).data.toList = s.data.toList ++ (tail4 s).data.toList := by simp [ByteArray.data_append]
  have l1 : s.data.toList.length = s.size := by simp
  have l2 : (tail4 s).data.toList.length = 4 := by rw [← tail4_size s]; simp
  have hsz : u.size = s.size + 4 := by
    have := congrArg List.length hu
    rw [hL] at this
    simp only [List.length_set, List.length_append, l1, l2] at this
    have e : u.data.toList.length = u.size := by simp
    omega
  unfold bare
  rw [if_neg (by omega), if_neg (by omega)]
  have e4 : u.size - 4 = s.size := by omega
  rw [e4]
  have b1 : (u.extract 0 s.size).data.toList = u.data.toList.take s.size := by rw [Lib.extract_data]; simp
  have b2 : (u.extract s.size u.size).data.toList = u.data.toList.drop s.size := by rw [Lib.extract_data, List.take_of_length_le]; simp
  rw [if_neg]
  rw [ByteArray.toList_eq, ByteArray.toList_eq, b2]
  unfold tail4 at *
  rw [b1, hu, hL]
  rw [hL] at hc
  intro h
  by_cases hi : i < s.size
  · rw [List.take_set, List.take_append_of_le_length (by omega), List.take_of_length_le (by omega), List.set_append_left _ _ (by omega), List.drop_append_of_le_length (by simp), List.drop_of_length_le (by simp), List.nil_append] at h
    have := four_inj _ _ (sum32 _) (sum32 _) h
    rw [List.getElem?_append_left (by omega)] at hc
    exact hbc (sumL_turn _ i _ b c (by omega) hc this)
  · rw [List.take_set, List.take_append_of_le_length (by omega), List.take_of_length_le (by omega), List.set_eq_of_length_le (by omega), List.set_append_right _ _ (by omega), List.drop_append_of_le_length (by omega), List.drop_of_length_le (by omega), List.nil_append, l1] at h
    rw [List.getElem?_append_right (by omega), l1] at hc
    have h2 := congrArg (·[i - s.size]?) h
    have hlt : i - s.size < (four (sumL s.data.toList 4294967295)).data.toList.length := (List.getElem?_eq_some_iff.1 hc).1
    simp only [List.getElem?_set_self hlt] at h2
    rw [hc] at h2
    exact hbc (Option.some.inj h2).symm

theorem draw_sumof (l : List Int) (hl : l.length ≤ 140737488355328) : ∃ s : ByteArray, s.size ≤ 40 ∧ Ev (fun k => spec_DrawSumOf.f k l) s := by
  obtain ⟨h, h1⟩ := cur_new l hl
  obtain ⟨y, i2, g2, e2, y0, y1, c2⟩ := cur_below l 0 h 40 (by omega) ⟨by omega, by omega, hl⟩
  obtain ⟨s, i3, g3, hs, hz, _⟩ := cur_text l i2 g2 y (by omega) c2
  refine ⟨s, by omega, ?_⟩
  unfold spec_DrawSumOf.f
  refine Ev.bind h1 ?_
  simp only [e2, Option.bind_some]
  exact Ev.bind hs (Ev.now _)
theorem xor8 (a d : Nat) (ha : a < 256) (hd : 0 < d) (hd2 : d < 256) : ∃ z : Nat, Go.bits .xor .u8 (a : Int) (d : Int) = (z : Int) ∧ z < 256 ∧ z ≠ a := by
  refine ⟨a ^^^ d, ?_, Nat.xor_lt_two_pow (n := 8) ha hd2, fun h => ?_⟩
  · have ha' : a % 2 ^ IntKind.u8.bits = a := Nat.mod_eq_of_lt ha
    have hd' : d % 2 ^ IntKind.u8.bits = d := Nat.mod_eq_of_lt hd2
    have hx : a ^^^ d < 2 ^ 8 := Nat.xor_lt_two_pow ha hd2
    simp only [Go.bits, BitVec.ofInt_natCast, BitVec.toNat_xor, BitVec.toNat_ofNat, ha', hd']
    rw [IntKind.wrap_u8]
    have hx' : a ^^^ d < 256 := by simpa using hx
    omega
  · have : d = 0 := by
      have h2 := congrArg (a ^^^ ·) h
      simpa [← Nat.xor_assoc] using h2
    omega
theorem turned_end (s : ByteArray) (hs : s.size ≤ 40) (p : List Int) (hp : p.length = 12) (hr : ∀ x ∈ p, 0 ≤ x ∧ x < 10000) : Ev (fun k => laws_FnTurned.j0 k s p (s ++ tail4 s) false) true := by
  have hz : (s ++ tail4 s).size = s.size + 4 := by rw [ByteArray.size_append, tail4_size]
  have hl : (bytesOf (s ++ tail4 s)).length = s.size + 4 := by rw [bytesOf_length, hz]
  have r0 : 0 ≤ rd p 0 ∧ rd p 0 < 10000 := hr _ (by
    have : rd p 0 = p.getD 0 0 := rfl
    rw [this]; exact getD_mem p 0 0 (by omega))
  have r1 : 0 ≤ rd p 1 ∧ rd p 1 < 10000 := hr _ (by
    have : rd p 1 = p.getD 1 0 := rfl
    rw [this]; exact getD_mem p 0 1 (by omega))
  have hi : Int.tmod (rd p 0) (((bytesOf (s ++ tail4 s)).length : Nat) : Int) = rd p 0 % ((s.size + 4 : Nat) : Int) := by rw [hl]; exact Int.tmod_eq_emod_of_nonneg r0.1
  have hm := Int.emod_nonneg (rd p 0) (show ((s.size + 4 : Nat) : Int) ≠ 0 by omega)
  have hm2 := Int.emod_lt_of_pos (rd p 0) (show (0 : Int) < ((s.size + 4 : Nat) : Int) by omega)
  obtain ⟨i, hI⟩ := Int.eq_ofNat_of_zero_le hm
  have hil : i < s.size + 4 := by omega
  have hL : (s ++ tail4 s).data.toList.length = s.size + 4 := by rw [← hz]; simp
  obtain ⟨c, hc⟩ : ∃ c, (s ++ tail4 s).data.toList[i]? = some c := ⟨_, List.getElem?_eq_getElem (by omega)⟩
  have hd : wrap64 (1 + Int.tmod (rd p 1) 255) % 256 = 1 + rd p 1 % 255 := by
    rw [Int.tmod_eq_emod_of_nonneg r1.1, wrap64_id (by omega) (by omega), Int.emod_eq_of_lt (by omega) (by omega)]
  obtain ⟨d, hD⟩ := Int.eq_ofNat_of_zero_le (show 0 ≤ 1 + rd p 1 % 255 by omega)
  obtain ⟨z, hz1, hz2, hz3⟩ := xor8 c.toNat d c.toNat_lt (by omega) (by omega)
  have hrd : rd (bytesOf (s ++ tail4 s)) (i : Int) = (c.toNat : Int) := by
    have : rd (bytesOf (s ++ tail4 s)) (i : Int) = (bytesOf (s ++ tail4 s)).getD i 0 := rfl
    have hb2 : (bytesOf (s ++ tail4 s))[i]? = some (c.toNat : Int) := by
      unfold bytesOf
      rw [List.getElem?_map, hc]
      rfl
    rw [this, List.getD_eq_getElem?_getD, hb2]
    rfl
  have hu : (strOfNums ((bytesOf (s ++ tail4 s)).set i (z : Int))).data.toList = (s ++ tail4 s).data.toList.set i (UInt8.ofNat z) := by
    rw [strOfNums_data, List.map_set]
    congr 1
    · rw [bytesOf, List.map_map]
      conv => rhs; rw [← List.map_id (s ++ tail4 s).data.toList]
      refine List.map_congr_left fun b _ => ?_
      simp
  have hne : UInt8.ofNat z ≠ c := fun h => hz3 (by have := congrArg UInt8.toNat h; rw [UInt8.toNat_ofNat'] at this; omega)
  have hno := turned_no s (by omega) i (UInt8.ofNat z) c hc hne _ hu
  have husz : (strOfNums ((bytesOf (s ++ tail4 s)).set i (z : Int))).size = s.size + 4 := by rw [strOfNums_size, List.length_set, hl]
  have hU := impl_unsealed (strOfNums ((bytesOf (s ++ tail4 s)).set i (z : Int))) (by omega)
  have hS := impl_sumof s (by omega)
  have hx := sum32 s.data.toList
  have hM := impl_sum ⟨#[120]⟩ (by decide) (sumL s.data.toList 4294967295) hx.1 hx.2
  have hS2 := impl_sumof (s ++ ⟨#[120]⟩) (by rw [ByteArray.size_append]; have : (⟨#[120]⟩ : ByteArray).size = 1 := rfl; omega)
  have eS : sumL (s ++ ⟨#[120]⟩).data.toList 4294967295 = sumL (⟨#[120]⟩ : ByteArray).data.toList (sumL s.data.toList 4294967295) := by
    simp [ByteArray.data_append, sumL, List.foldl_append]
  rw [eS] at hS2
  have c0 : ¬ (((bytesOf (s ++ tail4 s)).length : Nat) : Int) = 0 := by omega
  have c1 : (0 : Int) < (p.length : Int) := by omega
  have c2 : (1 : Int) < (p.length : Int) := by omega
  have c3 : s.size + 1 ≤ 9223372036854775807 := by omega
  have c4 : (s ++ tail4 s).size ≤ 9223372036854775807 := by omega
  have c5 : (0 : Int) ≤ (i : Int) := by omega
  have c6 : (i : Int) < (((bytesOf (s ++ tail4 s)).length : Nat) : Int) := by omega
  refine Ev.step (f := fun k => (impl_Unsealed.f k (strOfNums ((bytesOf (s ++ tail4 s)).set i (z : Int)))).bind fun bt178 => (if bt178.2 = true then (some false) else ((impl_SumOf.f k s).bind fun t180 => ((impl_SumMore.f k t180 (⟨#[120]⟩ : ByteArray)).bind fun t181 => (if s.size + 1 ≤ 9223372036854775807 then ((impl_SumOf.f k (s ++ (⟨#[120]⟩ : ByteArray))).bind fun t182 => (some (t181 == t182))) else (none)))))) (fun k => ?_) ?_
  · simp only [laws_FnTurned.j0]
    rw [if_neg (by simp), if_pos c4, Option.bind_some, if_pos c1, if_neg c0, hi, hI, if_pos c5, if_pos c6, if_pos c2, hrd, hd, hD, hz1]
    rfl
  · refine Ev.bind hU ?_
    simp only [hno, Bool.false_eq_true, if_false]
    refine Ev.bind hS (Ev.bind hM ?_)
    simp only [if_pos c3]
    refine Ev.bind hS2 ?_
    simp
    exact Ev.now _
theorem FnTurned : laws_FnTurned.Pure := by
  intro l hm hl hw
  refine Ev.rounds ?_
  unfold laws_FnTurned.f laws_big.f
  simp only [Option.bind_some]
  by_cases hb : (l.length : Int) > 1048576
  · simp only [decide_eq_true hb, if_true]
    exact Ev.now _
  · simp only [decide_eq_false hb, Bool.false_eq_true, if_false]
    obtain ⟨s, hs, h1⟩ := draw_sumof l (by omega)
    obtain ⟨p, hp, hr, h2⟩ := draw_places l (by omega)
    have hz : (s ++ tail4 s).size = s.size + 4 := by rw [ByteArray.size_append, tail4_size]
    have h3 := impl_sealed s (by omega)
    have h4 := impl_unsealed (s ++ tail4 s) (by omega)
    have e1 : (s ++ tail4 s).extract 0 ((s ++ tail4 s).size - 4) = s := bytes_eq (by
      rw [Lib.extract_data, hz]
      simp [ByteArray.data_append])
    have e2 : (s ++ tail4 s).extract ((s ++ tail4 s).size - 4) (s ++ tail4 s).size = tail4 s := bytes_eq (by
      rw [Lib.extract_data, hz]
      have : (tail4 s).data.toList.length = 4 := by rw [← tail4_size s]; simp
      simp [ByteArray.data_append]
      rw [List.take_of_length_le (by omega)])
    have eb : bare (s ++ tail4 s) = (s, true) := by
      unfold bare
      rw [if_neg (by omega), if_neg (by omega), e1, e2, if_pos rfl]
    rw [eb] at h4
    refine Ev.bind h1 (Ev.bind h2 (Ev.bind h3 (Ev.bind h4 ?_)))
    have ew : (((s ++ tail4 s).size : Int) != wrap64 ((s.size : Int) + 4)) = false := by
      rw [wrap64_id (by omega) (by omega), hz]
      simp
    simp only [if_true, ew]
    exact turned_end s hs p hp hr

end Go.Proofs.Ytcoboobnpmaahaa.Pure
