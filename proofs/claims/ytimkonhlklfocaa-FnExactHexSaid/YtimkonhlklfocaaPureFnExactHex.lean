/- The pure statement of the law FnExactHex: plain Lean over numbers and lists. -/
import Derived.Test.YtimkonhlklfocaaHFnExactHexx1
import Derived.Test.YtimkonhlklfocaaMath
set_option linter.unusedSimpArgs false
set_option linter.unusedVariables false
namespace Go.Proofs.Ytimkonhlklfocaa.Pure
open Go.RowKit Go.Proofs.Ytimkonhlklfocaa.HFnExactHex Go.Proofs.YtimkonhlklfocaaW.PrintWords Go.Proofs.YtimkonhlklfocaaW.PrintLast Go.Proofs.Ytimkonhlklfocaa.Math

def fig (x : Int) : Int := if x < 10 then 48 + x else 87 + x
theorem spec_fig (x : Int) (h0 : 0 ≤ x) (h1 : x < 16) : spec_l01Figure.f x = some (fig x) := by
  unfold spec_l01Figure.f fig
  by_cases h : x < 10
  · have e : wrap64 (48 + x) = 48 + x := wrap64_id (by omega) (by omega)
    rw [if_pos h, if_pos h, e, Int.emod_eq_of_lt (by omega) (by omega)]
  · have e1 : wrap64 (97 + x) = 97 + x := wrap64_id (by omega) (by omega)
    have e2 : wrap64 (97 + x - 10) = 87 + x := by rw [wrap64_id (by omega) (by omega)]; omega
    rw [if_neg h, if_neg h, e1, e2, Int.emod_eq_of_lt (by omega) (by omega)]
def digits : ByteArray := ⟨#[48, 49, 50, 51, 52, 53, 54, 55, 56, 57, 97, 98, 99, 100, 101, 102]⟩
theorem digits_fig (x : Int) (h0 : 0 ≤ x) (h1 : x < 16) : bt digits x = fig x := by
  have hc : x = 0 ∨ x = 1 ∨ x = 2 ∨ x = 3 ∨ x = 4 ∨ x = 5 ∨ x = 6 ∨ x = 7 ∨ x = 8 ∨ x = 9 ∨ x = 10 ∨ x = 11 ∨ x = 12 ∨ x = 13 ∨ x = 14 ∨ x = 15 := by omega
  rcases hc with rfl | rfl | rfl | rfl | rfl | rfl | rfl | rfl | rfl | rfl | rfl | rfl | rfl | rfl | rfl | rfl <;> decide
def hexL : List UInt8 → List Int
  | [] => []
  | b :: l => fig ((b.toNat : Int) / 16) :: fig ((b.toNat : Int) % 16) :: hexL l
theorem hexL_length (l : List UInt8) : (hexL l).length = 2 * l.length := by
  induction l with
  | nil => rfl
  | cons b l ih => simp only [hexL, List.length_cons, ih]; omega

theorem spec_hex_loop (s : ByteArray) (hs : s.size ≤ 20000) (d : Nat) : ∀ (xs : List Int) (i : Nat), s.size - i = d → i ≤ s.size → xs.length = 2 * i → Ev (fun k => spec_Hex.l0 k s xs (i : Int)) (strOfNums (xs ++ hexL (s.data.toList.drop i)), true) := by
  induction d with
  | zero =>
    intro xs i hd hi hx
    have e : s.data.toList.drop i = [] := List.drop_eq_nil_of_le (by simp; omega)
    rw [e]
    refine Ev.step (f := fun _ => some (strOfNums (xs ++ hexL []), true)) (fun k => ?_) (Ev.now _)
    simp only [spec_Hex.l0, hexL, List.append_nil]
    rw [if_neg (by omega)]
  | succ d ih =>
    intro xs i hd hi hx
    obtain ⟨c, e, hb⟩ := drop_bt s i (by omega)
    have hc := c.toNat_lt
    have h := ih (xs ++ [fig ((c.toNat : Int) / 16), fig ((c.toNat : Int) % 16)]) (i + 1) (by omega) (by omega) (by simp; omega)
    rw [e]
    simp only [hexL]
    have f1 := spec_fig ((c.toNat : Int) / 16) (by omega) (by omega)
    have f2 := spec_fig ((c.toNat : Int) % 16) (by omega) (by omega)
    have hi' : (i : Int) < (s.size : Int) := by omega
    have hx' : xs.length + 2 < 140737488355328 := by omega
    have ew : Aside0 (wrap64 ((i : Int) + 1) = ((i + 1 : Nat) : Int)) := ⟨by rw [wrap64_id (by omega) (by omega)]; omega⟩
    have eb : Aside0 (wrap64 (c.toNat : Int) = (c.toNat : Int)) := ⟨wrap64_id (by omega) (by omega)⟩
    have ed : Aside0 (wrap64 (Int.tdiv (c.toNat : Int) 16) = (c.toNat : Int) / 16) := ⟨by rw [Int.tdiv_eq_ediv_of_nonneg (by omega), wrap64_id (by omega) (by omega)]⟩
    have em : Int.tmod (c.toNat : Int) 16 = (c.toNat : Int) % 16 := Int.tmod_eq_emod_of_nonneg (by omega)
    have hl : ([fig ((c.toNat : Int) / 16), fig ((c.toNat : Int) % 16)] : List Int).length = 2 := rfl
    refine Ev.step (fun k => ?_) (by simpa using h)
    simp only [spec_Hex.l0]
    rw [if_pos hi', if_pos (by omega), hb, eb.out, ed.out, f1, Option.bind_some, em, f2, Option.bind_some, Option.bind_some, hl, if_pos hx', ew.out]
    rfl
theorem spec_hex (s : ByteArray) (h : ¬ (s.size : Int) > 20000) : Ev (fun k => spec_Hex.f k s) (strOfNums (hexL s.data.toList), true) := by
  unfold spec_Hex.f
  simp only [if_neg h]
  simpa using spec_hex_loop s (by omega) _ [] 0 rfl (by omega) rfl

theorem impl_hex_loop (s : ByteArray) (hs : s.size ≤ 20000) (d : Nat) : ∀ (xs : List Int) (i : Nat), s.size - i = d → i ≤ s.size → xs.length = 2 * i → Ev (fun k => impl_Hex.l0 k s digits xs (i : Int)) (strOfNums (xs ++ hexL (s.data.toList.drop i)), true) := by
  induction d with
  | zero =>
    intro xs i hd hi hx
    have e : s.data.toList.drop i = [] := List.drop_eq_nil_of_le (by simp; omega)
    rw [e]
    refine Ev.step (f := fun _ => some (strOfNums (xs ++ hexL []), true)) (fun k => ?_) (Ev.now _)
    simp only [impl_Hex.l0, hexL, List.append_nil]
    rw [if_neg (by omega)]
  | succ d ih =>
    intro xs i hd hi hx
    obtain ⟨c, e, hb⟩ := drop_bt s i (by omega)
    have hc := c.toNat_lt
    have h := ih (xs ++ [fig ((c.toNat : Int) / 16), fig ((c.toNat : Int) % 16)]) (i + 1) (by omega) (by omega) (by simp; omega)
    rw [e]
    simp only [hexL]
    have f1 := digits_fig ((c.toNat : Int) / 16) (by omega) (by omega)
    have f2 := digits_fig ((c.toNat : Int) % 16) (by omega) (by omega)
    have hi' : (i : Int) < (s.size : Int) := by omega
    have hx' : xs.length + 2 < 140737488355328 := by omega
    have hz : (digits.size : Int) = 16 := rfl
    have em : Go.bits .and .u8 (c.toNat : Int) 15 = (c.toNat : Int) % 16 := u8_and15 _ (by omega) (by omega)
    have ew : Aside0 (wrap64 ((i : Int) + 1) = ((i + 1 : Nat) : Int)) := ⟨by rw [wrap64_id (by omega) (by omega)]; omega⟩
    have hl : ([fig ((c.toNat : Int) / 16), fig ((c.toNat : Int) % 16)] : List Int).length = 2 := rfl
    refine Ev.step (fun k => ?_) (by simpa using h)
    simp only [impl_Hex.l0]
    rw [if_pos hi', if_pos (by omega), hb, em, hz, if_pos (by omega), if_pos (by omega), if_pos (by omega), if_pos (by omega), f1, f2, Option.bind_some, hl, if_pos hx', ew.out]
    rfl
theorem impl_hex (s : ByteArray) (h : ¬ (s.size : Int) > 20000) : Ev (fun k => impl_Hex.f k s) (strOfNums (hexL s.data.toList), true) := by
  unfold impl_Hex.f
  have ew : wrap64 (2 * (s.size : Int)) = 2 * (s.size : Int) := wrap64_id (by omega) (by omega)
  simp only [if_neg h, ew, if_pos (show 0 ≤ 2 * (s.size : Int) by omega), if_pos (show (2 * (s.size : Int)).toNat ≤ 281474976710656 by omega)]
  simpa [digits] using impl_hex_loop s (by omega) _ [] 0 rfl (by omega) rfl

theorem FnExactHex : laws_FnExactHex.Pure := by
  intro s hs
  refine Ev.rounds ?_
  unfold laws_FnExactHex.f
  by_cases hb : (s.size : Int) > 1048576
  · simp only [if_pos hb]
    exact Ev.now _
  · simp only [if_neg hb]
    by_cases h : (s.size : Int) > 20000
    · unfold spec_Hex.f impl_Hex.f
      simp [if_pos h]
      exact Ev.now _
    · refine Ev.bind (spec_hex s h) (Ev.bind (impl_hex s h) ?_)
      simp
      exact Ev.now _

end Go.Proofs.Ytimkonhlklfocaa.Pure
