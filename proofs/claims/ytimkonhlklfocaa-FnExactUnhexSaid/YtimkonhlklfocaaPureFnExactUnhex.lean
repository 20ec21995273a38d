/- The pure statement of the law FnExactUnhex: plain Lean over numbers and lists. -/
import Derived.Test.YtimkonhlklfocaaHFnExactUnhexx1
import Derived.Test.YtimkonhlklfocaaMath
set_option linter.unusedSimpArgs false
set_option linter.unusedVariables false
namespace Go.Proofs.Ytimkonhlklfocaa.Pure
open Go.RowKit Go.Proofs.Ytimkonhlklfocaa.HFnExactUnhex Go.Proofs.YtimkonhlklfocaaW.PrintWords Go.Proofs.YtimkonhlklfocaaW.PrintLast Go.Proofs.Ytimkonhlklfocaa.Math

def digits2 : ByteArray := ⟨#[48, 49, 50, 51, 52, 53, 54, 55, 56, 57, 97, 98, 99, 100, 101, 102]⟩
def hval (x : Int) : Int := if 48 ≤ x ∧ x ≤ 57 then x - 48 else if 97 ≤ x ∧ x ≤ 102 then x - 87 else -1
theorem hval_range (x : Int) : -1 ≤ hval x ∧ hval x ≤ 15 := by
  unfold hval
  split
  · omega
  · split <;> omega
def unhexR : List UInt8 → List Int → ByteArray × Bool
  | a :: b :: l, acc => if hval (a.toNat : Int) < 0 then (⟨#[]⟩, false) else if hval (b.toNat : Int) < 0 then (⟨#[]⟩, false) else unhexR l (acc ++ [16 * hval (a.toNat : Int) + hval (b.toNat : Int)])
  | _, acc => (strOfNums acc, true)

theorem spec_hval (x : Int) (h0 : 0 ≤ x) (h1 : x ≤ 255) : Ev (fun k => spec_l01Value.f k x) (hval x) := by
  have e0 : wrap64 x = x := wrap64_id (by omega) (by omega)
  have e1 : wrap64 (x - 48) = x - 48 := wrap64_id (by omega) (by omega)
  have e2 : wrap64 (x - 97) = x - 97 := wrap64_id (by omega) (by omega)
  have e3 : wrap64 (x - 97 + 10) = x - 87 := by rw [wrap64_id (by omega) (by omega)]; omega
  have hno : ¬ (48 ≤ x ∧ x ≤ 57) → Ev (fun k => spec_l01Value.j0 k x false) (hval x) := fun hn => by
    refine Ev.step (f := fun _ => some (hval x)) (fun k => ?_) (Ev.now _)
    simp only [spec_l01Value.j0]
    unfold hval
    rw [if_neg (by simp), if_neg hn, e0, e2, e3]
    by_cases ha : x ≥ 97
    · by_cases hb : x ≤ 102
      · rw [if_pos ha, if_pos hb, if_pos ⟨ha, hb⟩]
      · rw [if_pos ha, if_neg hb, if_neg (fun z => hb z.2)]
    · rw [if_neg ha, if_neg (fun z => ha z.1)]
  unfold spec_l01Value.f
  by_cases ha : x ≥ 48
  · simp only [if_pos ha]
    by_cases hb : x ≤ 57
    · rw [decide_eq_true hb]
      refine Ev.step (f := fun _ => some (hval x)) (fun k => ?_) (Ev.now _)
      simp only [spec_l01Value.j0]
      unfold hval
      rw [if_pos trivial, if_pos ⟨ha, hb⟩, e0, e1]
    · rw [decide_eq_false hb]
      exact hno (fun z => hb z.2)
  · simp only [if_neg ha]
    exact hno (fun z => ha z.1)
theorem spec_unhex_loop (s : ByteArray) (hs : s.size ≤ 40000) (d : Nat) : ∀ (xs : List Int) (i : Nat), s.size - i = 2 * d → i ≤ s.size → xs.length ≤ i → Ev (fun k => spec_Unhex.l0 k s xs (i : Int)) (unhexR (s.data.toList.drop i) xs) := by
  induction d with
  | zero =>
    intro xs i hd hi hx
    have e : s.data.toList.drop i = [] := List.drop_eq_nil_of_le (by simp; omega)
    rw [e]
    refine Ev.step (f := fun _ => some (strOfNums xs, true)) (fun k => ?_) (Ev.now _)
    simp only [spec_Unhex.l0]
    rw [if_neg (by omega)]
  | succ d ih =>
    intro xs i hd hi hx
    obtain ⟨a, e1, hb1⟩ := drop_bt s i (by omega)
    obtain ⟨b, e2, hb2⟩ := drop_bt s (i + 1) (by omega)
    have ha := a.toNat_lt
    have hb := b.toNat_lt
    obtain ⟨a0, a1⟩ := hval_range (a.toNat : Int)
    obtain ⟨b0, b1⟩ := hval_range (b.toNat : Int)
    have v1 := spec_hval (a.toNat : Int) (by omega) (by omega)
    have v2 := spec_hval (b.toNat : Int) (by omega) (by omega)
    rw [e1, e2]
    simp only [unhexR]
    have hi' : (i : Int) < (s.size : Int) := by omega
    have hi2 : ((i + 1 : Nat) : Int) < (s.size : Int) := by omega
    have hx' : xs.length < 140737488355328 := by omega
    have h3 := ih (xs ++ [16 * hval (a.toNat : Int) + hval (b.toNat : Int)]) (i + 2) (by omega) (by omega) (by simp; omega)
    have eq : ¬ hval (a.toNat : Int) < 0 → ¬ hval (b.toNat : Int) < 0 → Aside0 (wrap64 (wrap64 (16 * hval (a.toNat : Int)) + hval (b.toNat : Int)) % 256 = 16 * hval (a.toNat : Int) + hval (b.toNat : Int)) := fun p q => ⟨by rw [wrap64_id (x := 16 * hval (a.toNat : Int)) (by omega) (by omega), wrap64_id (by omega) (by omega), Int.emod_eq_of_lt (by omega) (by omega)]⟩
    have ew1 : Aside0 (wrap64 ((i : Int) + 1) = ((i + 1 : Nat) : Int)) := ⟨by rw [wrap64_id (by omega) (by omega)]; omega⟩
    have ew2 : Aside0 (wrap64 ((i : Int) + 2) = ((i + 2 : Nat) : Int)) := ⟨by rw [wrap64_id (by omega) (by omega)]; omega⟩
    refine Ev.step (f := fun k => (spec_l01Value.f k (a.toNat : Int)).bind fun t104 => (spec_l01Value.f k (b.toNat : Int)).bind fun t105 => (if t104 < 0 then (some ((⟨#[]⟩ : ByteArray), false)) else (if t105 < 0 then (some ((⟨#[]⟩ : ByteArray), false)) else (spec_Unhex.l0 k s (xs ++ [(wrap64 ((wrap64 (16 * t104)) + t105)) % 256]) ((i + 2 : Nat) : Int))))) (fun k => ?_) (Ev.bind v1 (Ev.bind v2 ?_))
    · simp only [spec_Unhex.l0]
      rw [if_pos hi', if_pos (by omega), ew1.out, ew2.out]
      simp only [if_pos (show (0 : Int) ≤ ((i + 1 : Nat) : Int) by omega), if_pos hi2, hb1, hb2, if_pos hx']
    · by_cases p : hval (a.toNat : Int) < 0
      · simp only [if_pos p]
        exact Ev.now _
      · by_cases q : hval (b.toNat : Int) < 0
        · simp only [if_neg p, if_pos q]
          exact Ev.now _
        · simp only [if_neg p, if_neg q, (eq p q).out]
          exact h3

theorem index_hval (c : UInt8) : Lib.indexByte digits2.data.toList c = hval (c.toNat : Int) := by
  have h : ∀ n : Fin 256, Lib.indexByte digits2.data.toList (UInt8.ofNat n.val) = hval (n.val : Int) := by decide +kernel
  have := h ⟨c.toNat, c.toNat_lt⟩
  simpa using this
theorem impl_index (c : UInt8) : strings_IndexByte.f digits2 (c.toNat : Int) = some (hval (c.toNat : Int)) := by
  unfold strings_IndexByte.f
  have e : ((c.toNat : Int)).toNat.toUInt8 = c := by simp
  rw [e, index_hval]
theorem or_sum (h l : Int) (h0 : 0 ≤ h) (h1 : h ≤ 15) (l0 : 0 ≤ l) (l1 : l ≤ 15) : Go.bits .or .i64 (h * 16) l % 256 = 16 * h + l := by
  have hd : ∀ a b : Fin 16, Go.bits .or .i64 ((a.val : Int) * 16) (b.val : Int) % 256 = 16 * (a.val : Int) + (b.val : Int) := by decide +kernel
  obtain ⟨a, rfl⟩ := Int.eq_ofNat_of_zero_le h0
  obtain ⟨b, rfl⟩ := Int.eq_ofNat_of_zero_le l0
  exact hd ⟨a, by omega⟩ ⟨b, by omega⟩
theorem impl_unhex_loop (s : ByteArray) (hs : s.size ≤ 40000) (d : Nat) : ∀ (xs : List Int) (i : Nat), s.size - i = 2 * d → i ≤ s.size → xs.length ≤ i → Ev (fun k => impl_Unhex.l0 k s xs (i : Int)) (unhexR (s.data.toList.drop i) xs) := by
  induction d with
  | zero =>
    intro xs i hd hi hx
    have e : s.data.toList.drop i = [] := List.drop_eq_nil_of_le (by simp; omega)
    rw [e]
    refine Ev.step (f := fun _ => some (strOfNums xs, true)) (fun k => ?_) (Ev.now _)
    simp only [impl_Unhex.l0]
    rw [if_neg (by omega)]
  | succ d ih =>
    intro xs i hd hi hx
    obtain ⟨a, e1, hb1⟩ := drop_bt s i (by omega)
    obtain ⟨b, e2, hb2⟩ := drop_bt s (i + 1) (by omega)
    obtain ⟨a0, a1⟩ := hval_range (a.toNat : Int)
    obtain ⟨b0, b1⟩ := hval_range (b.toNat : Int)
    have v1 := impl_index a
    have v2 := impl_index b
    rw [e1, e2]
    simp only [unhexR]
    have hi' : (i : Int) < (s.size : Int) := by omega
    have hi2 : ((i + 1 : Nat) : Int) < (s.size : Int) := by omega
    have hx' : xs.length < 140737488355328 := by omega
    have h3 := ih (xs ++ [16 * hval (a.toNat : Int) + hval (b.toNat : Int)]) (i + 2) (by omega) (by omega) (by simp; omega)
    have eq : ¬ hval (a.toNat : Int) < 0 → ¬ hval (b.toNat : Int) < 0 → Aside0 (Go.bits .or .i64 (wrap64 (hval (a.toNat : Int) * 16)) (hval (b.toNat : Int)) % 256 = 16 * hval (a.toNat : Int) + hval (b.toNat : Int)) := fun p q => ⟨by rw [wrap64_id (by omega) (by omega), or_sum _ _ (by omega) a1 (by omega) b1]⟩
    have ew1 : Aside0 (wrap64 ((i : Int) + 1) = ((i + 1 : Nat) : Int)) := ⟨by rw [wrap64_id (by omega) (by omega)]; omega⟩
    have ew2 : Aside0 (wrap64 ((i : Int) + 2) = ((i + 2 : Nat) : Int)) := ⟨by rw [wrap64_id (by omega) (by omega)]; omega⟩
    have hstep : ∀ k, impl_Unhex.l0 (k + 1) s xs (i : Int) = (if hval (a.toNat : Int) < 0 then (some ((⟨#[]⟩ : ByteArray), false)) else (if hval (b.toNat : Int) < 0 then (some ((⟨#[]⟩ : ByteArray), false)) else (impl_Unhex.l0 k s (xs ++ [(Go.bits .or .i64 (wrap64 (hval (a.toNat : Int) * 16)) (hval (b.toNat : Int))) % 256]) ((i + 2 : Nat) : Int)))) := fun k => by
      simp only [impl_Unhex.l0]
      rw [if_pos hi', if_pos (by omega), ew1.out, ew2.out, hb1, hb2]
      show ((strings_IndexByte.f digits2 (a.toNat : Int)).bind _) = _
      rw [v1, Option.bind_some, if_pos (by omega), if_pos hi2]
      show ((strings_IndexByte.f digits2 (b.toNat : Int)).bind _) = _
      rw [v2, Option.bind_some, if_pos hx']
    refine Ev.step hstep ?_
    by_cases p : hval (a.toNat : Int) < 0
    · simp only [if_pos p]
      exact Ev.now _
    · by_cases q : hval (b.toNat : Int) < 0
      · simp only [if_neg p, if_pos q]
        exact Ev.now _
      · simp only [if_neg p, if_neg q, (eq p q).out]
        exact h3
theorem impl_unhex (s : ByteArray) (hs : s.size ≤ 140737488355328) : Ev (fun k => impl_Unhex.f k s) (if s.size % 2 = 0 ∧ s.size ≤ 40000 then unhexR s.data.toList [] else (⟨#[]⟩, false)) := by
  have hj : Ev (fun k => impl_Unhex.j0 k s true) (⟨#[]⟩, false) := Ev.step (f := fun _ => some (⟨#[]⟩, false)) (fun k => by simp only [impl_Unhex.j0]; rw [if_pos trivial]) (Ev.now _)
  unfold impl_Unhex.f
  by_cases h2 : (s.size : Int) % 2 = 0
  · simp only [if_pos h2]
    by_cases h4 : (s.size : Int) > 40000
    · rw [decide_eq_true h4, if_neg (by omega)]
      exact hj
    · rw [decide_eq_false h4, if_pos (by omega)]
      have ew : wrap64 ((s.size : Int) / 2) = (s.size : Int) / 2 := wrap64_id (by omega) (by omega)
      refine Ev.step (fun k => ?_) (by simpa using impl_unhex_loop s (by omega) (s.size / 2) [] 0 (by omega) (by omega) (by simp))
      simp only [impl_Unhex.j0]
      rw [if_neg (by simp), ew, if_pos (by omega), if_pos (by omega)]
  · simp only [if_neg h2]
    rw [if_neg (by omega)]
    exact hj

theorem spec_unhex (s : ByteArray) (hs : s.size ≤ 140737488355328) : Ev (fun k => spec_Unhex.f k s) (if s.size % 2 = 0 ∧ s.size ≤ 40000 then unhexR s.data.toList [] else (⟨#[]⟩, false)) := by
  have hj : Ev (fun k => spec_Unhex.j0 k s true) (⟨#[]⟩, false) := Ev.step (f := fun _ => some (⟨#[]⟩, false)) (fun k => by simp only [spec_Unhex.j0]; rw [if_pos trivial]) (Ev.now _)
  unfold spec_Unhex.f
  by_cases h4 : (s.size : Int) > 40000
  · simp only [if_pos h4]
    rw [if_neg (by omega)]
    exact hj
  · simp only [if_neg h4]
    by_cases h2 : (s.size : Int) % 2 = 0
    · rw [if_pos (by omega), show (((s.size : Int) % 2) != 0) = false from bne_eq_false_iff_eq.2 h2]
      refine Ev.step (fun k => ?_) (by simpa using spec_unhex_loop s (by omega) (s.size / 2) [] 0 (by omega) (by omega) (by simp))
      simp only [spec_Unhex.j0]
      rw [if_neg (by simp)]
    · rw [if_neg (by omega), show (((s.size : Int) % 2) != 0) = true from bne_iff_ne.2 h2]
      exact hj
theorem FnExactUnhex : laws_FnExactUnhex.Pure := by
  intro s hs
  refine Ev.rounds ?_
  unfold laws_FnExactUnhex.f
  by_cases hb : (s.size : Int) > 1048576
  · simp only [if_pos hb]
    exact Ev.now _
  · simp only [if_neg hb]
    refine Ev.bind (spec_unhex s (by omega)) (Ev.bind (impl_unhex s (by omega)) ?_)
    simp
    exact Ev.now _

end Go.Proofs.Ytimkonhlklfocaa.Pure
