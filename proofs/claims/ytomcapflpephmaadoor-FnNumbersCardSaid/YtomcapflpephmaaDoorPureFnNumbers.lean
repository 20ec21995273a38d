/- The pure statement of the law FnNumbers: plain Lean over numbers and lists. -/
import Derived.Test.YtomcapflpephmaaDoorHFnNumbersx4
import Derived.Test.YtomcapflpephmaaDoorMath
set_option linter.unusedSimpArgs false
set_option linter.unusedVariables false
namespace Go.Proofs.YtomcapflpephmaaDoor.Pure
open Go.RowKit Go.Proofs.YtomcapflpephmaaDoor.HFnNumbers Go.Proofs.YtomcapflpephmaaDoorW.PrintWords Go.Proofs.YtomcapflpephmaaDoorW.PrintLast Go.Proofs.YtomcapflpephmaaDoor.Math

theorem impl_var_loop (d : Nat) : ∀ (n : Int) (xs : List Int), 0 ≤ n → n ≤ 9223372036854775807 → n < 128 ^ (d + 1) → xs.length + d < 140737488355328 →
    Ev (fun k => impl_varText.l0 k n xs) (strOfNums (xs ++ varL d n)) := by
  induction d with
  | zero =>
    intro n xs h0 h9 h1 hl
    have h1' : n < 128 := by simpa using h1
    refine Ev.step (f := fun _ => some (strOfNums (xs ++ varL 0 n))) (fun k => ?_) (Ev.now _)
    simp only [impl_varText.l0]
    rw [if_neg (by omega), if_pos (by omega)]
    rfl
  | succ d ih =>
    intro n xs h0 h9 h1 hl
    by_cases hn : n > 127
    · have e1 : wrap64 (Int.tdiv n 128) = n / 128 := by rw [Int.tdiv_eq_ediv_of_nonneg h0, wrap64_id (by omega) (by omega)]
      have e2 : wrap64 (128 + (Int.tmod n 128)) % 256 = n % 128 + 128 := by rw [Int.tmod_eq_emod_of_nonneg h0, wrap64_id (by omega) (by omega)]; omega
      have hp : n / 128 < 128 ^ (d + 1) := by
        rw [Int.pow_succ] at h1
        omega
      have h := ih (n / 128) (xs ++ [n % 128 + 128]) (by omega) (by omega) hp (by simp; omega)
      have e3 : varL (d + 1) n = (n % 128 + 128) :: varL d (n / 128) := by simp only [varL]; rw [if_pos hn]
      rw [e3, ← List.singleton_append, ← List.append_assoc]
      refine Ev.step (fun k => ?_) h
      simp only [impl_varText.l0]
      rw [if_pos hn, if_pos (by omega), e1, e2]
    · refine Ev.step (f := fun _ => some (strOfNums (xs ++ varL (d + 1) n))) (fun k => ?_) (Ev.now _)
      simp only [impl_varText.l0, varL]
      rw [if_neg hn, if_pos (by omega), if_neg hn]
theorem impl_var (n : Int) (h0 : 0 ≤ n) (h1 : n ≤ 9223372036854775807) : Ev (fun k => impl_varText.f k n) (var n) := by
  have h := impl_var_loop 9 n [] h0 h1 (by omega) (by simp)
  simpa [var, impl_varText.f] using h

theorem varL_length (d : Nat) : ∀ n, (varL d n).length ≤ d + 1 := by
  induction d with
  | zero => intro n; simp [varL]
  | succ d ih =>
    intro n
    simp only [varL]
    split
    · have := ih (n / 128)
      simp
      omega
    · simp
theorem var_size (n : Int) : (var n).size ≤ 10 := by
  unfold var
  rw [strOfNums_size]
  exact varL_length 9 n

theorem impl_short (s : ByteArray) (h : ¬ (s.size : Int) > 20000) : Ev (fun k => impl_ShortText.f k s) (var s.size ++ s, true) := by
  unfold impl_ShortText.f
  simp only [if_neg h]
  refine Ev.bind (impl_var s.size (by omega) (by omega)) ?_
  have := var_size s.size
  simp only [if_pos (show (var s.size).size + s.size ≤ 9223372036854775807 by omega)]
  exact Ev.now _

theorem bytes_eq {a b : ByteArray} (h : a.data.toList = b.data.toList) : a = b := by
  cases a; cases b; simpa using h

theorem rv_step (sc m low n : Int) (h : low + sc * m = n) (h0 : 0 ≤ m) (h1 : 1 ≤ sc) : 0 ≤ sc * (m % 128) ∧ low + sc * (m % 128) ≤ n ∧ low + sc * (m % 128) + sc * 128 * (m / 128) = n := by
  have e : m = m % 128 + 128 * (m / 128) := by omega
  have e2 : sc * m = sc * (m % 128) + sc * 128 * (m / 128) := by
    conv => lhs; rw [e]
    rw [Int.mul_add, Int.mul_assoc]
  have p1 : 0 ≤ sc * (m % 128) := Int.mul_nonneg (by omega) (by omega)
  have p2 : 0 ≤ sc * 128 * (m / 128) := Int.mul_nonneg (by omega) (by omega)
  exact ⟨p1, by omega, by omega⟩
theorem pow128 (i : Nat) (h : i ≤ 5) : (1 : Int) ≤ ((128 ^ i : Nat) : Int) ∧ ((128 ^ i : Nat) : Int) ≤ 34359738368 := by
  have h1 : 1 ≤ 128 ^ i := Nat.pow_pos (by decide)
  have h2 : 128 ^ i ≤ 128 ^ 5 := Nat.pow_le_pow_right (by decide) h
  have h3 : (128 : Nat) ^ 5 = 34359738368 := by decide
  omega
theorem byte_of (x : Int) (h0 : 0 ≤ x) (h1 : x < 256) : ((UInt8.ofNat x.toNat).toNat : Int) = x := by
  rw [UInt8.toNat_ofNat']
  omega
/-- The bytes of a number, as they are read back. -/
theorem impl_rv_loop (s : ByteArray) (hs : s.size ≤ 140737488351232) (p : Nat) (n : Int) (hn : n ≤ 1000000000) (tail : List UInt8) (d : Nat) : ∀ (i e : Nat) (m low : Int), i + d = 5 → i + e = 9 → 0 ≤ m → m < ((128 ^ d : Nat) : Int) → 0 ≤ low → low + ((128 ^ i : Nat) : Int) * m = n → (i = 0 ∨ 0 < m) →
    p + i + (varL e m).length + tail.length = s.size → s.data.toList.drop (p + i) = ((varL e m).map fun x => UInt8.ofNat x.toNat) ++ tail →
    Ev (fun k => impl_ReadVar.l0 k s (p : Int) low ((128 ^ i : Nat) : Int) (i : Int)) (n, ((p + i + (varL e m).length : Nat) : Int), true) := by
  induction d with
  | zero =>
    intro i e m low hi he hm hm2 hl hv hz hsz hd
    have : m = 0 := by simp at hm2; omega
    omega
  | succ d ih =>
    intro i e m low hi he hm hm2 hl hv hz hsz hd
    obtain ⟨e, rfl⟩ : ∃ e', e = e' + 1 := ⟨e - 1, by omega⟩
    obtain ⟨q1, q2⟩ := pow128 i (by omega)
    have hpw : ((128 ^ (i + 1) : Nat) : Int) = ((128 ^ i : Nat) : Int) * 128 := by rw [Nat.pow_succ]; omega
    have hpd : ((128 ^ (d + 1) : Nat) : Int) = ((128 ^ d : Nat) : Int) * 128 := by rw [Nat.pow_succ]; omega
    obtain ⟨s1, s2, s3⟩ := rv_step _ _ _ _ hv hm q1
    have hlen : 1 ≤ (varL (e + 1) m).length := by simp only [varL]; split <;> simp
    have hlt : p + i < s.size := by omega
    obtain ⟨c, hc, hb⟩ := drop_bt s (p + i) hlt
    have hc' := c.toNat_lt
    have e1 : Aside0 (wrap64 ((p : Int) + (i : Int)) = ((p + i : Nat) : Int)) := ⟨by rw [wrap64_id (by omega) (by omega)]; omega⟩
    have e2 : Aside0 (wrap64 (c.toNat : Int) = (c.toNat : Int)) := ⟨wrap64_id (by omega) (by omega)⟩
    have e3 : Aside0 (wrap64 ((i : Int) + 1) = ((i + 1 : Nat) : Int)) := ⟨by rw [wrap64_id (by omega) (by omega)]; omega⟩
    have e4 : Aside0 (Int.tmod (c.toNat : Int) 128 = (c.toNat : Int) % 128) := ⟨Int.tmod_eq_emod_of_nonneg (by omega)⟩
    have l0 : (p : Int) ≥ 0 := by omega
    by_cases h127 : m > 127
    · have hV : varL (e + 1) m = (m % 128 + 128) :: varL e (m / 128) := by simp only [varL]; rw [if_pos h127]
      rw [hV] at hd hsz ⊢
      rw [hc, List.map_cons, List.cons_append] at hd
      obtain ⟨hd1, hd2⟩ := List.cons.inj hd
      have hcv : (c.toNat : Int) = m % 128 + 128 := by rw [hd1]; exact byte_of _ (by omega) (by omega)
      have e5 : Aside0 (wrap64 (low + wrap64 ((c.toNat : Int) % 128 * ((128 ^ i : Nat) : Int))) = low + ((128 ^ i : Nat) : Int) * (m % 128)) := ⟨by
        have : (c.toNat : Int) % 128 = m % 128 := by omega
        rw [this, Int.mul_comm, wrap64_id (x := ((128 ^ i : Nat) : Int) * (m % 128)) (by omega) (by omega), wrap64_id (by omega) (by omega)]⟩
      have e6 : Aside0 (wrap64 (((128 ^ i : Nat) : Int) * 128) = ((128 ^ (i + 1) : Nat) : Int)) := ⟨by rw [hpw, wrap64_id (by omega) (by omega)]⟩
      simp only [List.length_cons] at hsz ⊢
      have h := ih (i + 1) e (m / 128) (low + ((128 ^ i : Nat) : Int) * (m % 128)) (by omega) (by omega) (by omega) (by rw [hpd] at hm2; omega) (by omega) (by rw [hpw]; exact s3) (.inr (by omega)) (by omega) (by rw [show p + (i + 1) = p + i + 1 from rfl]; exact hd2)
      rw [show p + (i + 1) + (varL e (m / 128)).length = p + i + ((varL e (m / 128)).length + 1) by omega] at h
      refine Ev.step (f := fun k => impl_ReadVar.j2 k s (p : Int) low ((128 ^ i : Nat) : Int) (i : Int) true) (fun k => ?_) (Ev.step (fun k => ?_) h)
      · simp only [impl_ReadVar.l0]
        rw [if_pos (by omega), e1.out, decide_eq_true (by omega)]
      · simp only [impl_ReadVar.j2]
        rw [if_pos trivial, e1.out, if_pos (by omega), if_pos (by omega), hb, e2.out, if_pos (by omega), e4.out, e5.out, e6.out, e3.out]
    · have hV : varL (e + 1) m = [m % 256] := by simp only [varL]; rw [if_neg h127]
      rw [hV] at hd hsz ⊢
      rw [hc, List.map_cons, List.cons_append] at hd
      obtain ⟨hd1, hd2⟩ := List.cons.inj hd
      have hcv : (c.toNat : Int) = m := by rw [hd1]; rw [byte_of _ (by omega) (by omega)]; omega
      have hmm : m % 128 = m := by omega
      rw [hmm] at s1 s2
      have e5 : Aside0 (wrap64 (low + wrap64 ((c.toNat : Int) % 128 * ((128 ^ i : Nat) : Int))) = n) := ⟨by
        have : (c.toNat : Int) % 128 = m := by omega
        rw [this, Int.mul_comm, wrap64_id (x := ((128 ^ i : Nat) : Int) * m) (by omega) (by omega), wrap64_id (by omega) (by omega), hv]⟩
      have e7 : Aside0 (wrap64 (((p + i : Nat) : Int) + 1) = ((p + i + 1 : Nat) : Int)) := ⟨by rw [wrap64_id (by omega) (by omega)]; omega⟩
      simp only [List.length_singleton] at hsz ⊢
      refine Ev.step (f := fun k => impl_ReadVar.j2 k s (p : Int) low ((128 ^ i : Nat) : Int) (i : Int) true) (fun k => ?_) (Ev.step (f := fun _ => some (n, ((p + i + 1 : Nat) : Int), true)) (fun k => ?_) (Ev.now _))
      · simp only [impl_ReadVar.l0]
        rw [if_pos (by omega), e1.out, decide_eq_true (by omega)]
      · simp only [impl_ReadVar.j2]
        rw [if_pos trivial, e1.out, if_pos (by omega), if_pos (by omega), hb, e2.out, if_neg (by omega), e4.out, e5.out, e7.out]
        by_cases hc0 : (c.toNat : Int) = 0
        · rw [if_pos hc0, if_neg (by omega), if_neg (by omega)]
        · rw [if_neg hc0, if_neg (by omega)]
theorem impl_readvar_var (s : ByteArray) (hs : s.size ≤ 140737488351232) (p : Nat) (n : Int) (h0 : 0 ≤ n) (hn : n ≤ 1000000000) (tail : List UInt8) (hp : p ≤ s.size) (hd : s.data.toList.drop p = (var n).data.toList ++ tail) :
    Ev (fun k => impl_ReadVar.f k s (p : Int)) (n, ((p + (var n).size : Nat) : Int), true) := by
  have hsz : (var n).size = (varL 9 n).length := strOfNums_size _
  have hl := congrArg List.length hd
  simp only [List.length_drop, List.length_append] at hl
  have hl1 : s.data.toList.length = s.size := by simp
  have hl2 : (var n).data.toList.length = (varL 9 n).length := by rw [← hsz]; simp
  have h := impl_rv_loop s hs p n hn tail 5 0 9 n 0 (by omega) (by omega) h0 (by simp; omega) (by omega) (by simp) (.inl rfl) (by omega) (show s.data.toList.drop (p + 0) = _ from hd)
  unfold impl_ReadVar.f
  have c1 : ¬ (p : Int) < 0 := by omega
  have c2 : ¬ (p : Int) > (s.size : Int) := by omega
  simp only [if_neg c1, decide_eq_false c2]
  rw [hsz]
  refine Ev.step (fun k => ?_) h
  simp only [impl_ReadVar.j0]
  rw [if_neg (by simp)]
  rfl

theorem impl_readshort_short (t : ByteArray) (ht : t.size ≤ 20000) : Ev (fun k => impl_ReadShort.f k (var (t.size : Int) ++ t) 0) (t, ((var (t.size : Int) ++ t).size : Int), true) := by
  have hv := var_size (t.size : Int)
  have hsz : (var (t.size : Int) ++ t).size = (var (t.size : Int)).size + t.size := ByteArray.size_append
  have h := impl_readvar_var (var (t.size : Int) ++ t) (by omega) 0 (t.size : Int) (by omega) (by omega) t.data.toList (by omega) (by simp [ByteArray.data_append])
  have eq_ : (var (t.size : Int) ++ t).extract (var (t.size : Int)).size ((var (t.size : Int)).size + t.size) = t := by
    apply bytes_eq
    simp [ByteArray.data_extract, ByteArray.data_append]
    rw [List.drop_eq_nil_of_le (by simp), List.take_nil, List.nil_append, List.take_of_length_le (by simp)]
  unfold impl_ReadShort.f
  refine Ev.bind h ?_
  have e1 : wrap64 (((var (t.size : Int) ++ t).size : Int) - ((0 + (var (t.size : Int)).size : Nat) : Int)) = (t.size : Int) := by rw [wrap64_id (by omega) (by omega)]; omega
  have e2 : wrap64 (((0 + (var (t.size : Int)).size : Nat) : Int) + (t.size : Int)) = (((var (t.size : Int)).size + t.size : Nat) : Int) := by rw [wrap64_id (by omega) (by omega)]; omega
  simp only [if_true, e1, e2]
  rw [if_neg (by omega), if_neg (by omega), if_pos (by omega), if_pos (by omega), if_pos (by omega)]
  have e3 : ((0 + (var (t.size : Int)).size : Nat) : Int).toNat = (var (t.size : Int)).size := by omega
  have e4 : (((var (t.size : Int)).size + t.size : Nat) : Int).toNat = (var (t.size : Int)).size + t.size := by omega
  rw [e3, e4, eq_, hsz]
  exact Ev.now _

def fig (x : Int) : Int := if x < 10 then 48 + x else 87 + x
def digits : ByteArray := ⟨#[48, 49, 50, 51, 52, 53, 54, 55, 56, 57, 97, 98, 99, 100, 101, 102]⟩
theorem digits_fig (x : Int) (h0 : 0 ≤ x) (h1 : x < 16) : bt digits x = fig x := by
  have hc : x = 0 ∨ x = 1 ∨ x = 2 ∨ x = 3 ∨ x = 4 ∨ x = 5 ∨ x = 6 ∨ x = 7 ∨ x = 8 ∨ x = 9 ∨ x = 10 ∨ x = 11 ∨ x = 12 ∨ x = 13 ∨ x = 14 ∨ x = 15 := by omega
  rcases hc with rfl | rfl | rfl | rfl | rfl | rfl | rfl | rfl | rfl | rfl | rfl | rfl | rfl | rfl | rfl | rfl <;> decide
def hexL : List UInt8 → List Int
  | [] => []
  | b :: l => fig ((b.toNat : Int) / 16) :: fig ((b.toNat : Int) % 16) :: hexL l
theorem hexL_length (l : List UInt8) : (hexL l).length = 2 * l.length := by
  induction l with
  | nil => rfl
  | cons b l ih => simp only [hexL, List.length_cons, ih]; omega

theorem impl_hex_loop (s : ByteArray) (hs : s.size ≤ 20000) (d : Nat) : ∀ (xs : List Int) (i : Nat), s.size - i = d → i ≤ s.size → xs.length = 2 * i → Ev (fun k => impl_Hex.l0 k s digits xs (i : Int)) (strOfNums (xs ++ hexL (s.data.toList.drop i)), true) := by
  induction d with
  | zero =>
    intro xs i hd hi hx
    have e : s.data.toList.drop i = [] := List.drop_eq_nil_of_le (by simp; omega)
    rw [e]
    refine Ev.step (f := fun _ => some (strOfNums (xs ++ hexL []), true)) (fun k => ?_) (Ev.now _)
    simp only [impl_Hex.l0, hexL, List.append_nil]
    rw [if_neg (by omega)]
  | succ d ih =>
    intro xs i hd hi hx
    obtain ⟨c, e, hb⟩ := drop_bt s i (by omega)
    have hc := c.toNat_lt
    have h := ih (xs ++ [fig ((c.toNat : Int) / 16), fig ((c.toNat : Int) % 16)]) (i + 1) (by omega) (by omega) (by simp; omega)
    rw [e]
    simp only [hexL]
    have f1 := digits_fig ((c.toNat : Int) / 16) (by omega) (by omega)
    have f2 := digits_fig ((c.toNat : Int) % 16) (by omega) (by omega)
    have hi' : (i : Int) < (s.size : Int) := by omega
    have hx' : xs.length + 2 < 140737488355328 := by omega
    have hz : (digits.size : Int) = 16 := rfl
    have em : Go.bits .and .u8 (c.toNat : Int) 15 = (c.toNat : Int) % 16 := u8_and15 _ (by omega) (by omega)
    have ew : Aside0 (wrap64 ((i : Int) + 1) = ((i + 1 : Nat) : Int)) := ⟨by rw [wrap64_id (by omega) (by omega)]; omega⟩
    have hl : ([fig ((c.toNat : Int) / 16), fig ((c.toNat : Int) % 16)] : List Int).length = 2 := rfl
    refine Ev.step (fun k => ?_) (by simpa using h)
    simp only [impl_Hex.l0]
    rw [if_pos hi', if_pos (by omega), hb, em, hz, if_pos (by omega), if_pos (by omega), if_pos (by omega), if_pos (by omega), f1, f2, Option.bind_some, hl, if_pos hx', ew.out]
    rfl
theorem impl_hex (s : ByteArray) (h : ¬ (s.size : Int) > 20000) : Ev (fun k => impl_Hex.f k s) (strOfNums (hexL s.data.toList), true) := by
  unfold impl_Hex.f
  have ew : wrap64 (2 * (s.size : Int)) = 2 * (s.size : Int) := wrap64_id (by omega) (by omega)
  simp only [if_neg h, ew, if_pos (show 0 ≤ 2 * (s.size : Int) by omega), if_pos (show (2 * (s.size : Int)).toNat ≤ 281474976710656 by omega)]
  simpa [digits] using impl_hex_loop s (by omega) _ [] 0 rfl (by omega) rfl

def digits2 : ByteArray := ⟨#[48, 49, 50, 51, 52, 53, 54, 55, 56, 57, 97, 98, 99, 100, 101, 102]⟩
def hval (x : Int) : Int := if 48 ≤ x ∧ x ≤ 57 then x - 48 else if 97 ≤ x ∧ x ≤ 102 then x - 87 else -1
theorem hval_range (x : Int) : -1 ≤ hval x ∧ hval x ≤ 15 := by
  unfold hval
  split
  · omega
  · split <;> omega
def unhexR : List UInt8 → List Int → ByteArray × Bool
  | a :: b :: l, acc => if hval (a.toNat : Int) < 0 then (⟨#[]⟩, false) else if hval (b.toNat : Int) < 0 then (⟨#[]⟩, false) else unhexR l (acc ++ [16 * hval (a.toNat : Int) + hval (b.toNat : Int)])
  | _, acc => (strOfNums acc, true)

theorem index_hval (c : UInt8) : Lib.indexByte digits2.data.toList c = hval (c.toNat : Int) := by
  have h : ∀ n : Fin 256, Lib.indexByte digits2.data.toList (UInt8.ofNat n.val) = hval (n.val : Int) := by decide +kernel
  have := h ⟨c.toNat, c.toNat_lt⟩
  simpa using this
theorem impl_index (c : UInt8) : strings_IndexByte.f digits2 (c.toNat : Int) = some (hval (c.toNat : Int)) := by
  unfold strings_IndexByte.f
  have e : ((c.toNat : Int)).toNat.toUInt8 = c := by simp
  rw [e, index_hval]
theorem or_sum (h l : Int) (h0 : 0 ≤ h) (h1 : h ≤ 15) (l0 : 0 ≤ l) (l1 : l ≤ 15) : Go.bits .or .i64 (h * 16) l % 256 = 16 * h + l := by
  have hd : ∀ a b : Fin 16, Go.bits .or .i64 ((a.val : Int) * 16) (b.val : Int) % 256 = 16 * (a.val : Int) + (b.val : Int) := by decide +kernel
  obtain ⟨a, rfl⟩ := Int.eq_ofNat_of_zero_le h0
  obtain ⟨b, rfl⟩ := Int.eq_ofNat_of_zero_le l0
  exact hd ⟨a, by omega⟩ ⟨b, by omega⟩
theorem impl_unhex_loop (s : ByteArray) (hs : s.size ≤ 40000) (d : Nat) : ∀ (xs : List Int) (i : Nat), s.size - i = 2 * d → i ≤ s.size → xs.length ≤ i → Ev (fun k => impl_Unhex.l0 k s xs (i : Int)) (unhexR (s.data.toList.drop i) xs) := by
  induction d with
  | zero =>
    intro xs i hd hi hx
    have e : s.data.toList.drop i = [] := List.drop_eq_nil_of_le (by simp; omega)
    rw [e]
    refine Ev.step (f := fun _ => some (strOfNums xs, true)) (fun k => ?_) (Ev.now _)
    simp only [impl_Unhex.l0]
    rw [if_neg (by omega)]
  | succ d ih =>
    intro xs i hd hi hx
    obtain ⟨a, e1, hb1⟩ := drop_bt s i (by omega)
    obtain ⟨b, e2, hb2⟩ := drop_bt s (i + 1) (by omega)
    obtain ⟨a0, a1⟩ := hval_range (a.toNat : Int)
    obtain ⟨b0, b1⟩ := hval_range (b.toNat : Int)
    have v1 := impl_index a
    have v2 := impl_index b
    rw [e1, e2]
    simp only [unhexR]
    have hi' : (i : Int) < (s.size : Int) := by omega
    have hi2 : ((i + 1 : Nat) : Int) < (s.size : Int) := by omega
    have hx' : xs.length < 140737488355328 := by omega
    have h3 := ih (xs ++ [16 * hval (a.toNat : Int) + hval (b.toNat : Int)]) (i + 2) (by omega) (by omega) (by simp; omega)
    have eq : ¬ hval (a.toNat : Int) < 0 → ¬ hval (b.toNat : Int) < 0 → Aside0 (Go.bits .or .i64 (wrap64 (hval (a.toNat : Int) * 16)) (hval (b.toNat : Int)) % 256 = 16 * hval (a.toNat : Int) + hval (b.toNat : Int)) := fun p q => ⟨by rw [wrap64_id (by omega) (by omega), or_sum _ _ (by omega) a1 (by omega) b1]⟩
    have ew1 : Aside0 (wrap64 ((i : Int) + 1) = ((i + 1 : Nat) : Int)) := ⟨by rw [wrap64_id (by omega) (by omega)]; omega⟩
    have ew2 : Aside0 (wrap64 ((i : Int) + 2) = ((i + 2 : Nat) : Int)) := ⟨by rw [wrap64_id (by omega) (by omega)]; omega⟩
    have hstep : ∀ k, impl_Unhex.l0 (k + 1) s xs (i : Int) = (if hval (a.toNat : Int) < 0 then (some ((⟨#[]⟩ : ByteArray), false)) else (if hval (b.toNat : Int) < 0 then (some ((⟨#[]⟩ : ByteArray), false)) else (impl_Unhex.l0 k s (xs ++ [(Go.bits .or .i64 (wrap64 (hval (a.toNat : Int) * 16)) (hval (b.toNat : Int))) % 256]) ((i + 2 : Nat) : Int)))) := fun k => by
      simp only [impl_Unhex.l0]
      rw [if_pos hi', if_pos (by omega), ew1.out, ew2.out, hb1, hb2]
      show ((strings_IndexByte.f digits2 (a.toNat : Int)).bind _) = _
      rw [v1, Option.bind_some, if_pos (by omega), if_pos hi2]
      show ((strings_IndexByte.f digits2 (b.toNat : Int)).bind _) = _
      rw [v2, Option.bind_some, if_pos hx']
    refine Ev.step hstep ?_
    by_cases p : hval (a.toNat : Int) < 0
    · simp only [if_pos p]
      exact Ev.now _
    · by_cases q : hval (b.toNat : Int) < 0
      · simp only [if_neg p, if_pos q]
        exact Ev.now _
      · simp only [if_neg p, if_neg q, (eq p q).out]
        exact h3
theorem impl_unhex (s : ByteArray) (hs : s.size ≤ 140737488355328) : Ev (fun k => impl_Unhex.f k s) (if s.size % 2 = 0 ∧ s.size ≤ 40000 then unhexR s.data.toList [] else (⟨#[]⟩, false)) := by
  have hj : Ev (fun k => impl_Unhex.j0 k s true) (⟨#[]⟩, false) := Ev.step (f := fun _ => some (⟨#[]⟩, false)) (fun k => by simp only [impl_Unhex.j0]; rw [if_pos trivial]) (Ev.now _)
  unfold impl_Unhex.f
  by_cases h2 : (s.size : Int) % 2 = 0
  · simp only [if_pos h2]
    by_cases h4 : (s.size : Int) > 40000
    · rw [decide_eq_true h4, if_neg (by omega)]
      exact hj
    · rw [decide_eq_false h4, if_pos (by omega)]
      have ew : wrap64 ((s.size : Int) / 2) = (s.size : Int) / 2 := wrap64_id (by omega) (by omega)
      refine Ev.step (fun k => ?_) (by simpa using impl_unhex_loop s (by omega) (s.size / 2) [] 0 (by omega) (by omega) (by simp))
      simp only [impl_Unhex.j0]
      rw [if_neg (by simp), ew, if_pos (by omega), if_pos (by omega)]
  · simp only [if_neg h2]
    rw [if_neg (by omega)]
    exact hj

theorem hval_fig (x : Int) (h0 : 0 ≤ x) (h1 : x < 16) : hval ((UInt8.ofNat (fig x).toNat).toNat : Int) = x := by
  have hf : 0 ≤ fig x ∧ fig x < 256 := by unfold fig; split <;> omega
  rw [byte_of _ hf.1 hf.2]
  unfold hval fig
  by_cases h : x < 10
  · rw [if_pos h, if_pos (by omega)]; omega
  · rw [if_neg h, if_neg (by omega), if_pos (by omega)]; omega
theorem unhex_hex (l : List UInt8) : ∀ acc, unhexR ((hexL l).map fun x => UInt8.ofNat x.toNat) acc = (strOfNums (acc ++ l.map fun b => (b.toNat : Int)), true) := by
  induction l with
  | nil => intro acc; simp [hexL, unhexR]
  | cons b l ih =>
    intro acc
    have hb := b.toNat_lt
    simp only [hexL, List.map_cons, unhexR]
    have v1 := hval_fig ((b.toNat : Int) / 16) (by omega) (by omega)
    have v2 := hval_fig ((b.toNat : Int) % 16) (by omega) (by omega)
    rw [v1, v2, if_neg (by omega), if_neg (by omega), ih]
    have e : 16 * ((b.toNat : Int) / 16) + (b.toNat : Int) % 16 = (b.toNat : Int) := by omega
    rw [e, List.append_assoc]
    rfl
theorem impl_hexback (t : ByteArray) (ht : t.size ≤ 20000) : Ev (fun k => impl_Unhex.f k (strOfNums (hexL t.data.toList))) (t, true) := by
  have hl : (strOfNums (hexL t.data.toList)).size = 2 * t.size := by rw [strOfNums_size, hexL_length]; simp
  have h := impl_unhex (strOfNums (hexL t.data.toList)) (by omega)
  rw [if_pos (by omega), strOfNums_data, unhex_hex] at h
  have e : strOfNums ([] ++ t.data.toList.map fun b => (b.toNat : Int)) = t := bytes_eq (by rw [List.nil_append, strOfNums_bytes])
  rw [e] at h
  exact h

theorem impl_decimal (x : Int) (h1 : -9223372036854775808 ≤ x) (h2 : x ≤ 9223372036854775807) : impl_Decimal.f x = some (⟨(Lib.itoa x).toArray⟩ : ByteArray) := by
  unfold impl_Decimal.f strconv_Itoa.f
  rw [if_pos h1, if_pos h2]
  rfl

/-- What a decimal text is read as. -/
def decEnd (s : ByteArray) (n : Int) : Int × Bool := if n > 1000000000 then (0, false) else if (⟨(Lib.itoa n).toArray⟩ : ByteArray).toList = s.toList then (n, true) else (0, false)
def decR (s : ByteArray) : List UInt8 → Int → Int × Bool
  | [], n => decEnd s n
  | c :: l, n => if (c.toNat : Int) < 48 then (0, false) else if (c.toNat : Int) > 57 then (0, false) else decR s l (10 * n + (c.toNat : Int) - 48)
theorem pow10_step (i : Nat) : (10 : Nat) ^ (i + 1) = 10 * 10 ^ i := by rw [Nat.pow_succ]; omega
theorem pow10_ten (i : Nat) (h : i ≤ 10) : (10 : Nat) ^ i ≤ 10000000000 := Nat.le_trans (Nat.pow_le_pow_right (by decide) h) (by decide)

theorem impl_readdec_loop (s : ByteArray) (hs : s.size ≤ 10) (d : Nat) : ∀ (n : Int) (i : Nat), s.size - i = d → i ≤ s.size → 0 ≤ n → n < ((10 ^ i : Nat) : Int) → Ev (fun k => impl_ReadDecimal.l0 k s n (i : Int)) (decR s (s.data.toList.drop i) n) := by
  induction d with
  | zero =>
    intro n i hd hi hn hn2
    have e : s.data.toList.drop i = [] := List.drop_eq_nil_of_le (by simp; omega)
    have h10 := pow10_ten i (by omega)
    rw [e]
    simp only [decR]
    unfold decEnd
    by_cases hb : n > 1000000000
    · refine Ev.step (f := fun _ => some ((0 : Int), false)) (fun k => ?_) (by rw [if_pos hb]; exact Ev.now _)
      simp only [impl_ReadDecimal.l0]
      rw [if_neg (by omega), if_pos hb]
    · rw [if_neg hb]
      refine Ev.step (f := fun k => (if (⟨(Lib.itoa n).toArray⟩ : ByteArray).toList = s.toList then (some (n, true)) else (some (0, false)))) (fun k => ?_) ?_
      · simp only [impl_ReadDecimal.l0]
        rw [if_neg (by omega), if_neg hb, impl_decimal n (by omega) (by omega), Option.bind_some]
      · split
        · exact Ev.now _
        · exact Ev.now _
  | succ d ih =>
    intro n i hd hi hn hn2
    obtain ⟨c, e, hb⟩ := drop_bt s i (by omega)
    have hc := c.toNat_lt
    have h10 := pow10_ten i (by omega)
    rw [e]
    simp only [decR]
    have hi' : (i : Int) < (s.size : Int) := by omega
    have ew : Aside0 (wrap64 ((i : Int) + 1) = ((i + 1 : Nat) : Int)) := ⟨by rw [wrap64_id (by omega) (by omega)]; omega⟩
    by_cases h1 : (c.toNat : Int) < 48
    · rw [if_pos h1]
      refine Ev.step (f := fun _ => some ((0 : Int), false)) (fun k => ?_) (Ev.now _)
      simp only [impl_ReadDecimal.l0]
      rw [if_pos hi', if_pos (by omega), hb, if_pos h1]
    · rw [if_neg h1]
      by_cases h2 : (c.toNat : Int) > 57
      · rw [if_pos h2]
        refine Ev.step (f := fun _ => some ((0 : Int), false)) (fun k => ?_) (Ev.now _)
        simp only [impl_ReadDecimal.l0]
        rw [if_pos hi', if_pos (by omega), hb, if_neg h1, if_pos h2]
      · rw [if_neg h2]
        have hp := pow10_step i
        have en : Aside0 (wrap64 ((wrap64 (n * 10)) + (((c.toNat : Int) - 48) % 256)) = 10 * n + (c.toNat : Int) - 48) := ⟨by rw [wrap64_id (x := n * 10) (by omega) (by omega), Int.emod_eq_of_lt (by omega) (by omega), wrap64_id (by omega) (by omega)]; omega⟩
        have h := ih (10 * n + (c.toNat : Int) - 48) (i + 1) (by omega) (by omega) (by omega) (by rw [hp]; omega)
        refine Ev.step (fun k => ?_) h
        simp only [impl_ReadDecimal.l0]
        rw [if_pos hi', if_pos (by omega), hb, if_neg h1, if_neg h2, en.out, ew.out]
theorem impl_readdec (s : ByteArray) (hs : s.size ≤ 10) (h0 : 0 < s.size) : Ev (fun k => impl_ReadDecimal.f k s) (decR s s.data.toList 0) := by
  unfold impl_ReadDecimal.f
  have hz : ¬ (s.size : Int) = 0 := by omega
  have hb : ¬ (s.size : Int) > 10 := by omega
  simp only [if_neg hz, decide_eq_false hb]
  refine Ev.step (f := fun k => impl_ReadDecimal.l0 k s 0 0) (fun k => ?_) (by simpa using impl_readdec_loop s hs _ 0 0 rfl (by omega) (by omega) (by simp))
  simp only [impl_ReadDecimal.j0]
  rw [if_neg (by simp)]

theorem dec_back (s : ByteArray) (m : Nat) : ∀ (l : List UInt8), decR s (Lib.decDigits m ++ l) 0 = decR s l (m : Int) := by
  induction m using Nat.strongRecOn with
  | ind m ih =>
    intro l
    have hd : ∀ (r : Nat) (a : Int) (l : List UInt8), r < 10 → decR s (UInt8.ofNat (48 + r) :: l) a = decR s l (10 * a + (r : Int)) := by
      intro r a l hr
      have e : ((UInt8.ofNat (48 + r)).toNat : Int) = 48 + (r : Int) := by
        rw [UInt8.toNat_ofNat']
        omega
      simp only [decR]
      rw [e, if_neg (by omega), if_neg (by omega)]
      congr 1
      omega
    rw [Lib.decDigits]
    by_cases h : m < 10
    · rw [dif_pos h]
      have := hd m 0 l h
      simpa using this
    · rw [dif_neg h, List.append_assoc, ih (m / 10) (by omega)]
      have := hd (m % 10) ((m / 10 : Nat) : Int) l (by omega)
      rw [show 10 * ((m / 10 : Nat) : Int) + ((m % 10 : Nat) : Int) = (m : Int) by omega] at this
      simpa using this
theorem dec_length (j : Nat) : ∀ (m : Nat), m < 10 ^ (j + 1) → (Lib.decDigits m).length ≤ j + 1 := by
  induction j with
  | zero => intro m h; rw [Lib.decDigits_one (by simpa using h)]; simp
  | succ j ih =>
    intro m h
    rw [Lib.decDigits]
    by_cases hm : m < 10
    · rw [dif_pos hm]; simp
    · rw [dif_neg hm]
      have := ih (m / 10) (by rw [Nat.div_lt_iff_lt_mul (by decide), ← Nat.pow_succ]; exact h)
      simp
      omega
theorem dec_some (m : Nat) : 0 < (Lib.decDigits m).length := by
  rw [Lib.decDigits]
  split <;> simp
theorem impl_decback (n : Int) (h0 : 0 ≤ n) (hn : n ≤ 1000000000) : Ev (fun k => impl_ReadDecimal.f k ⟨(Lib.itoa n).toArray⟩) (n, true) := by
  have e : Lib.itoa n = Lib.decDigits n.toNat := by unfold Lib.itoa; rw [if_neg (by omega)]
  have h1 := dec_length 9 n.toNat (by omega)
  have h2 := dec_some n.toNat
  have hs : (⟨(Lib.itoa n).toArray⟩ : ByteArray).size = (Lib.decDigits n.toNat).length := by rw [e, Lib.size_eq]
  have h := impl_readdec ⟨(Lib.itoa n).toArray⟩ (by omega) (by omega)
  have e2 : decR ⟨(Lib.itoa n).toArray⟩ (⟨(Lib.itoa n).toArray⟩ : ByteArray).data.toList 0 = (n, true) := by
    have := dec_back ⟨(Lib.itoa n).toArray⟩ n.toNat []
    rw [List.append_nil] at this
    have e3 : (⟨(Lib.itoa n).toArray⟩ : ByteArray).data.toList = Lib.decDigits n.toNat := by rw [e]
    rw [e3, this]
    simp only [decR]
    unfold decEnd
    have e4 : ((n.toNat : Nat) : Int) = n := by omega
    rw [e4, if_neg (by omega), if_pos rfl]
  rw [e2] at h
  exact h

/-! ### a reader of draws -/
def CurOk (b : List Int) (i : Int) : Prop := 0 ≤ i ∧ i ≤ b.length ∧ b.length ≤ 140737488355328
theorem cur_new (l : List Int) (hl : l.length ≤ 140737488355328) : ∃ h, Ev (fun k => spec_l01New.f k l) (l, 0, h) := by
  have key : ∀ (d : Nat) (h : Int) (i : Nat), l.length - i = d → ∃ h', Ev (fun k => spec_l01New.l0 k l h (i : Int)) (l, 0, h') := by
    intro d
    induction d with
    | zero =>
      intro h i hd
      refine ⟨h, Ev.step (f := fun _ => some (l, 0, h)) (fun k => ?_) (Ev.now _)⟩
      simp only [spec_l01New.l0]
      rw [if_neg (by omega)]
    | succ d ih =>
      intro h i hd
      by_cases h4 : (i : Int) < 4000
      · obtain ⟨h', hh⟩ := ih (Go.bits .and .i64 (wrap64 ((wrap64 ((wrap64 (h * 131)) + (wrap64 (rd l (i : Int))))) + 7)) 1073741823) (i + 1) (by omega)
        refine ⟨h', Ev.step (fun k => ?_) hh⟩
        simp only [spec_l01New.l0]
        rw [if_pos (by omega), if_pos h4, if_pos (by omega), wrap64_id (x := (i : Int) + 1) (by omega) (by omega)]
        rfl
      · refine ⟨h, Ev.step (f := fun _ => some (l, 0, h)) (fun k => ?_) (Ev.now _)⟩
        simp only [spec_l01New.l0]
        rw [if_pos (by omega), if_neg h4]
  exact key _ _ 0 rfl
theorem cur_byte (b : List Int) (i h : Int) (hc : CurOk b i) : ∃ x i' h', spec_l01Byte.f b i h = some (x, i', h') ∧ (0 ≤ x ∧ x ≤ 255) ∧ CurOk b i' := by
  obtain ⟨h0, h1, h2⟩ := hc
  unfold spec_l01Byte.f
  by_cases hlt : i < (b.length : Int)
  · rw [if_pos hlt, if_pos h0]
    exact ⟨_, _, _, rfl, bits_and_255 _, by rw [wrap64_id (by omega) (by omega)]; exact ⟨by omega, by omega, h2⟩⟩
  · rw [if_neg hlt]
    exact ⟨_, _, _, rfl, bits_and_255 _, h0, h1, h2⟩
theorem cur_below (b : List Int) (i h n : Int) (hn : n ≤ 4294967296) (hc : CurOk b i) : ∃ x i' h', spec_l01Below.f b i h n = some (x, i', h') ∧ 0 ≤ x ∧ (x = 0 ∨ x < n) ∧ CurOk b i' := by
  unfold spec_l01Below.f
  by_cases h0 : n ≤ 0
  · rw [if_pos h0]
    exact ⟨_, _, _, rfl, by omega, .inl rfl, hc⟩
  · rw [if_neg h0]
    by_cases h1 : n ≤ 256
    · rw [if_pos h1]
      obtain ⟨x, i', h', e, ⟨hx0, hx1⟩, hc'⟩ := cur_byte b i h hc
      rw [e, Option.bind_some, if_neg (by omega)]
      have em : Int.tmod x n = x % n := Int.tmod_eq_emod_of_nonneg hx0
      exact ⟨_, _, _, rfl, by simp only [em]; exact Int.emod_nonneg _ (by omega), .inr (by simp only [em]; exact Int.emod_lt_of_pos _ (by omega)), hc'⟩
    · rw [if_neg h1]
      obtain ⟨x, i1, h1, e1, ⟨x0, x1⟩, c1⟩ := cur_byte b i h hc
      obtain ⟨y, i2, h2, e2, ⟨y0, y1⟩, c2⟩ := cur_byte b i1 h1 c1
      obtain ⟨z, i3, h3, e3, ⟨z0, z1⟩, c3⟩ := cur_byte b i2 h2 c2
      obtain ⟨v, i4, h4, e4, ⟨v0, v1⟩, c4⟩ := cur_byte b i3 h3 c3
      rw [e1, Option.bind_some]
      simp only [e2, Option.bind_some, e3, e4]
      rw [if_neg (by omega)]
      have a1 : wrap64 (x * 16777216) = x * 16777216 := wrap64_id (by omega) (by omega)
      have a2 : wrap64 (y * 65536) = y * 65536 := wrap64_id (by omega) (by omega)
      have a3 : wrap64 (x * 16777216 + y * 65536) = x * 16777216 + y * 65536 := wrap64_id (by omega) (by omega)
      have a4 : wrap64 (z * 256) = z * 256 := wrap64_id (by omega) (by omega)
      have a5 : wrap64 (x * 16777216 + y * 65536 + z * 256) = x * 16777216 + y * 65536 + z * 256 := wrap64_id (by omega) (by omega)
      have a6 : wrap64 (x * 16777216 + y * 65536 + z * 256 + v) = x * 16777216 + y * 65536 + z * 256 + v := wrap64_id (by omega) (by omega)
      rw [a1, a2, a3, a4, a5, a6]
      have em : Int.tmod (x * 16777216 + y * 65536 + z * 256 + v) n = (x * 16777216 + y * 65536 + z * 256 + v) % n := Int.tmod_eq_emod_of_nonneg (by omega)
      exact ⟨_, _, _, rfl, by simp only [em]; exact Int.emod_nonneg _ (by omega), .inr (by simp only [em]; exact Int.emod_lt_of_pos _ (by omega)), c4⟩

theorem cur_once (b : List Int) (i h n : Int) (hn : n ≤ 4294967296) (hc : CurOk b i) : ∃ x i' h', spec_l01Once.f b i h n = some (x, i', h') ∧ CurOk b i' := by
  obtain ⟨x, i', h', e, _, _, hc'⟩ := cur_below b i h n hn hc
  unfold spec_l01Once.f
  rw [e, Option.bind_some]
  exact ⟨_, _, _, rfl, hc'⟩

theorem cur_pickint (b : List Int) (i h : Int) (l : List Int) (hl : 0 < l.length) (hn : (l.length : Int) ≤ 4294967296) (hc : CurOk b i) : ∃ x i' h', spec_l01PickInt.f b i h l = some (x, i', h') ∧ x ∈ l ∧ CurOk b i' := by
  obtain ⟨x, i', h', e, h0, h1, hc'⟩ := cur_below b i h (l.length : Int) hn hc
  unfold spec_l01PickInt.f
  rw [e, Option.bind_some, if_pos (by simpa using h0), if_pos (by simp only; omega)]
  refine ⟨_, _, _, rfl, ?_, hc'⟩
  exact getD_mem l 0 x.toNat (by omega)

theorem cur_text_loop (b : List Int) (n : Int) (hn : n ≤ 5000) (d : Nat) : ∀ (xs : List Int) (j : Nat) (i h : Int), (n - j).toNat = d → xs.length + d ≤ 5000 → CurOk b i →
    ∃ s i' h', Ev (fun k => spec_l01Text.l0 k n xs (j : Int) b i h) (s, i', h') ∧ s.size ≤ xs.length + d ∧ CurOk b i' := by
  induction d with
  | zero =>
    intro xs j i h hd hx hc
    refine ⟨strOfNums xs, i, h, Ev.step (f := fun _ => some (strOfNums xs, i, h)) (fun k => ?_) (Ev.now _), by rw [strOfNums_size]; omega, hc⟩
    simp only [spec_l01Text.l0]
    rw [if_neg (by omega)]
  | succ d ih =>
    intro xs j i h hd hx hc
    obtain ⟨x, i1, h1, e1, _, c1⟩ := cur_byte b i h hc
    obtain ⟨s, i', h', hs, hsz, hc'⟩ := ih (xs ++ [x % 256]) (j + 1) i1 h1 (by omega) (by simp; omega) c1
    refine ⟨s, i', h', Ev.step (fun k => ?_) hs, by simp at hsz; omega, hc'⟩
    simp only [spec_l01Text.l0]
    rw [if_pos (by omega), e1, Option.bind_some, if_pos (by omega), wrap64_id (x := (j : Int) + 1) (by omega) (by omega)]
    rfl
theorem cur_text (b : List Int) (i h n : Int) (hn : n ≤ 5000) (hc : CurOk b i) : ∃ s i' h', Ev (fun k => spec_l01Text.f k b i h n) (s, i', h') ∧ s.size ≤ n.toNat ∧ CurOk b i' := by
  obtain ⟨s, i', h', hs, hsz, hc'⟩ := cur_text_loop b n hn n.toNat [] 0 i h (by omega) (by simp; omega) hc
  refine ⟨s, i', h', ?_, by simpa using hsz, hc'⟩
  unfold spec_l01Text.f
  simp only [if_neg (show ¬ n > 5000 by omega)]
  refine Ev.step (fun k => ?_) hs
  simp only [spec_l01Text.j0]
  rfl

theorem cur_number (b : List Int) (i h : Int) (hc : CurOk b i) : ∃ x i' h', spec_l01Number.f b i h = some (x, i', h') ∧ CurOk b i' := by
  unfold spec_l01Number.f
  obtain ⟨x, i1, h1, e1, _, _, c1⟩ := cur_below b i h 4 (by omega) hc
  rw [e1]
  simp only [Option.bind_some]
  by_cases z : x = 0
  · obtain ⟨y, i2, h2, e2, _, c2⟩ := cur_pickint b i1 h1 [(-1), 0, 127, 128, 16383, 16384, 1000000000, 1000000001, 9223372036854775807, (-9223372036854775808)] (by decide) (by decide) c1
    exact ⟨y, i2, h2, by rw [if_pos z, e2]; rfl, c2⟩
  · by_cases o : x = 1
    · obtain ⟨y, i2, h2, e2, _, _, c2⟩ := cur_below b i1 h1 1000000000 (by omega) c1
      exact ⟨y, i2, h2, by rw [if_neg z, if_pos o, e2]; rfl, c2⟩
    · obtain ⟨y, i2, h2, e2, _, _, c2⟩ := cur_below b i1 h1 400 (by omega) c1
      exact ⟨y, i2, h2, by rw [if_neg z, if_neg o, e2]; rfl, c2⟩
theorem draw_vartext (l : List Int) (hl : l.length ≤ 140737488355328) : ∃ n, Ev (fun k => spec_DrawVarText.f k l) n := by
  obtain ⟨h, h1⟩ := cur_new l hl
  obtain ⟨x, i', h', e, _⟩ := cur_number l 0 h ⟨by omega, by omega, hl⟩
  refine ⟨x, ?_⟩
  unfold spec_DrawVarText.f
  refine Ev.bind h1 ?_
  simp only [e, Option.bind_some]
  exact Ev.now _
theorem long_loop (n c : Int) (d : Nat) : ∀ (xs : List Int) (j : Nat), (n - j).toNat = d → (xs.length : Int) = n → n ≤ 1000000 → (j : Int) ≤ n → ∃ s, Ev (fun k => spec_l01Long.l0 k n c xs (j : Int)) s := by
  induction d with
  | zero =>
    intro xs j hd hx hn hj
    refine ⟨_, Ev.step (f := fun _ => some (strOfNums xs)) (fun k => ?_) (Ev.now _)⟩
    simp only [spec_l01Long.l0]
    rw [if_neg (by omega)]
  | succ d ih =>
    intro xs j hd hx hn hj
    obtain ⟨s, h⟩ := ih (xs.set j c) (j + 1) (by omega) (by simpa using hx) hn (by omega)
    have e : Aside0 (wrap64 ((j : Int) + 1) = ((j + 1 : Nat) : Int)) := ⟨by rw [wrap64_id (by omega) (by omega)]; omega⟩
    refine ⟨s, Ev.step (fun k => ?_) h⟩
    simp only [spec_l01Long.l0]
    rw [if_pos (by omega), if_pos (by omega), if_pos (by omega), e.out]
    rfl
theorem draw_long (n c : Int) (h0 : 0 ≤ n) (hn : n ≤ 1000000) : ∃ s, Ev (fun k => spec_l01Long.f k n c) s := by
  obtain ⟨s, h⟩ := long_loop n c _ (List.replicate n.toNat 0) 0 rfl (by simp; omega) hn (by omega)
  refine ⟨s, ?_⟩
  unfold spec_l01Long.f
  simp only [if_pos h0, if_pos (show n.toNat ≤ 281474976710656 by omega)]
  exact h
theorem draw_hex (l : List Int) (hl : l.length ≤ 140737488355328) : ∃ t, Ev (fun k => spec_DrawHex.f k l) t := by
  obtain ⟨h, h1⟩ := cur_new l hl
  obtain ⟨x, i1, g1, e1, c1⟩ := cur_once l 0 h 60 (by omega) ⟨by omega, by omega, hl⟩
  unfold spec_DrawHex.f
  by_cases hx : x = true
  · obtain ⟨y, i2, g2, e2, y0, y1, c2⟩ := cur_below l i1 g1 2 (by omega) c1
    have ey : wrap64 (20000 + y) = 20000 + y := wrap64_id (by omega) (by omega)
    obtain ⟨s, hs⟩ := draw_long (20000 + y) 200 (by omega) (by omega)
    refine ⟨s, Ev.bind h1 ?_⟩
    simp only [e1, Option.bind_some, if_pos hx, e2, ey]
    exact Ev.bind hs (Ev.now _)
  · obtain ⟨y, i2, g2, e2, y0, y1, c2⟩ := cur_below l i1 g1 30 (by omega) c1
    obtain ⟨s, i3, g3, hs, _, _⟩ := cur_text l i2 g2 y (by omega) c2
    refine ⟨s, Ev.bind h1 ?_⟩
    simp only [e1, Option.bind_some, if_neg hx, e2]
    exact Ev.bind hs (Ev.now _)

theorem numbers_end (n : Int) (t : ByteArray) (ht : t.size ≤ 300) (s : ByteArray) (hs : s.size ≤ 10) : Ev (fun k => laws_FnNumbers.j2 k n s true n (((s.size + 1 : Nat)) : Int) true n true t) true := by
  refine Ev.step (fun k => by simp only [laws_FnNumbers.j2]; rfl) ?_
  refine Ev.bind (impl_short t (by omega)) ?_
  refine Ev.bind (impl_readshort_short t (by omega)) ?_
  refine Ev.bind (impl_hex t (by omega)) ?_
  refine Ev.bind (impl_hexback t (by omega)) ?_
  have e : wrap64 ((s.size : Int) + 1) = ((s.size + 1 : Nat) : Int) := by rw [wrap64_id (by omega) (by omega)]; omega
  simp only [if_true, e]
  simp
  exact Ev.now _
theorem numbers_mid (l : List Int) (hl : l.length ≤ 140737488355328) (n : Int) (h0 : 0 ≤ n) (hn : n ≤ 1000000000) : Ev (fun k => laws_FnNumbers.j1 k l n) true := by
  obtain ⟨t, ht⟩ := draw_hex l hl
  have hv := var_size n
  refine Ev.step (fun k => by simp only [laws_FnNumbers.j1]; rfl) ?_
  have hvt : Ev (fun k => impl_VarText.f k n) (var n, true) := by
    unfold impl_VarText.f
    have c1 : ¬ n < 0 := by omega
    have c2 : ¬ n > 1000000000 := by omega
    simp only [if_neg c1, if_neg c2]
    exact Ev.bind (impl_var n h0 (by omega)) (Ev.now _)
  refine Ev.bind hvt ?_
  have s1 : ((⟨#[120]⟩ : ByteArray) ++ var n).size = 1 + (var n).size := by rw [ByteArray.size_append]; rfl
  have s2 : (((⟨#[120]⟩ : ByteArray) ++ var n) ++ (⟨#[121]⟩ : ByteArray)).size = 1 + (var n).size + 1 := by rw [ByteArray.size_append, s1]; rfl
  have c1 : 1 + (var n).size ≤ 9223372036854775807 := by omega
  have c2 : ((⟨#[120]⟩ : ByteArray) ++ var n).size + 1 ≤ 9223372036854775807 := by omega
  simp only [if_pos c1, if_pos c2]
  refine Ev.bind (a := (n, ((1 + (var n).size : Nat) : Int), true)) (impl_readvar_var _ (by rw [s2]; omega) 1 n h0 hn [121] (by rw [s2]; omega) ?_) ?_
  · simp [ByteArray.data_append]
  · simp only [impl_decimal n (by omega) (by omega), Option.bind_some]
    refine Ev.bind (impl_decback n h0 hn) (Ev.bind ht ?_)
    rw [show 1 + (var n).size = (var n).size + 1 by omega]
    by_cases hb : (t.size : Int) > 300
    · simp only [if_pos hb]
      exact numbers_end n _ (by decide) _ hv
    · simp only [if_neg hb]
      exact numbers_end n t (by omega) _ hv
theorem FnNumbers : laws_FnNumbers.Pure := by
  intro l hm hl hw
  refine Ev.rounds ?_
  unfold laws_FnNumbers.f laws_big.f
  simp only [Option.bind_some]
  by_cases hb : (l.length : Int) > 1048576
  · simp only [decide_eq_true hb, if_true]
    exact Ev.now _
  · simp only [decide_eq_false hb, Bool.false_eq_true, if_false]
    obtain ⟨n, hn⟩ := draw_vartext l (by omega)
    refine Ev.bind hn ?_
    have hno : Ev (fun k => laws_FnNumbers.j0 k l n true) true := by
      refine Ev.step (fun k => ?_) (numbers_mid l (by omega) 12345 (by omega) (by omega))
      simp only [laws_FnNumbers.j0]
      rw [if_pos trivial]
    by_cases h1 : n < 0
    · simp only [if_pos h1]
      exact hno
    · simp only [if_neg h1]
      by_cases h2 : n > 1000000000
      · rw [decide_eq_true h2]
        exact hno
      · rw [decide_eq_false h2]
        refine Ev.step (fun k => ?_) (numbers_mid l (by omega) n (by omega) (by omega))
        simp only [laws_FnNumbers.j0]
        rw [if_neg (by simp)]

end Go.Proofs.YtomcapflpephmaaDoor.Pure
