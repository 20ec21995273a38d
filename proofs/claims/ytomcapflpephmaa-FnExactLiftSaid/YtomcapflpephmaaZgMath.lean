/- What the row of the law needs of the printed and the plain texts. -/
import Derived.Test.YtomcapflpephmaaZgWWords
import Derived.Laws.BitsLemmas
import Derived.Laws.BytesArg
import Derived.Lib.Strings
set_option linter.unusedSimpArgs false
set_option linter.unusedVariables false
namespace Go.Proofs.Ytomcapflpephmaa.Math
open Go Go.RowKit Go.Proofs.YtomcapflpephmaaW.PrintWords
theorem wrap64_id {x : Int} (h0 : -9223372036854775808 ≤ x) (h1 : x ≤ 9223372036854775807) : wrap64 x = x := by
  unfold wrap64
  omega
theorem i64_range {n : Int} (h : (Lit.int .i64 n).wf = true) : -9223372036854775808 ≤ n ∧ n ≤ 9223372036854775807 := by
  simp [Lit.wf, IntKind.min, IntKind.max, IntKind.signed, IntKind.bits] at h
  omega
noncomputable def tr (p : Prop) : Bool := @decide p (Classical.propDecidable p)
theorem tr_true {p : Prop} (h : p) : tr p = true := @decide_eq_true p (Classical.propDecidable p) h
theorem tr_false {p : Prop} (h : ¬ p) : tr p = false := @decide_eq_false p (Classical.propDecidable p) h
theorem tr_iff {p : Prop} : tr p = true ↔ p := @decide_eq_true_iff p (Classical.propDecidable p)
theorem tr_congr {p q : Prop} (h : p ↔ q) : tr p = tr q := by rw [propext h]
theorem tr_dec {p : Prop} [d : Decidable p] : decide p = tr p := by
  unfold tr
  congr
theorem tr_and {p q : Prop} : tr (p ∧ q) = (tr p && tr q) := by
  by_cases hp : p
  · by_cases hq : q
    · rw [tr_true hp, tr_true hq, tr_true ⟨hp, hq⟩]; rfl
    · rw [tr_false hq, tr_false (fun h => hq h.2), Bool.and_false]
  · rw [tr_false hp, tr_false (fun h => hp h.1), Bool.false_and]
theorem set_take {α : Type} (l x : List α) (z : α) (i : Nat) (h : i < l.length) (hx : x.length = l.length) (ht : x.take i = l.take i) : (x.set i (l.getD i z)).take (i + 1) = l.take (i + 1) := by
  rw [List.take_add_one, List.take_add_one, List.take_set_of_le (Nat.le_refl i), ht]
  congr 1
  rw [List.getElem?_set_self (by omega), List.getD_eq_getElem?_getD, List.getElem?_eq_getElem h]
  rfl
theorem take_all {α : Type} {l x : List α} (hx : x.length = l.length) (ht : x.take l.length = l.take l.length) : x = l := by
  rw [List.take_length, ← hx, List.take_length] at ht
  exact ht
theorem getD_mem {α : Type} (l : List α) (z : α) (i : Nat) (h : i < l.length) : l.getD i z ∈ l := by
  rw [List.getD_eq_getElem?_getD, List.getElem?_eq_getElem h]
  exact List.getElem_mem h
theorem all_from {P : Nat → Prop} {i n : Nat} (hi : i < n) : (∀ j, i ≤ j → j < n → P j) ↔ P i ∧ ∀ j, i + 1 ≤ j → j < n → P j :=
  ⟨fun h => ⟨h i (Nat.le_refl _) hi, fun j hj => h j (by omega)⟩, fun h j hj hn => by
    rcases Nat.eq_or_lt_of_le hj with rfl | hlt
    · exact h.1
    · exact h.2 j hlt hn⟩
theorem marks_used : ∀ (m u : List Bool), m.length = u.length → (∀ j, m.getD j false = true → u.getD j false = false) →
    m.count true + u.count true ≤ m.length ∧ (m.count true + u.count true = m.length ↔ ∀ j, j < m.length → u.getD j false = !(m.getD j false)) := by
  intro m
  induction m with
  | nil =>
    intro u hl h
    have hu : u = [] := by
      cases u with
      | nil => rfl
      | cons _ _ => simp at hl
    subst hu
    exact ⟨by simp, by simp⟩
  | cons b m ih =>
    intro u hl h
    cases u with
    | nil => simp at hl
    | cons c u =>
      obtain ⟨h1, h2⟩ := ih u (by simpa using hl) (fun j hj => by simpa using h (j + 1) (by simpa using hj))
      have h0 := h 0
      have h2' : (∀ j, j < (b :: m).length → (c :: u).getD j false = !((b :: m).getD j false)) ↔ (c = !b ∧ ∀ j, j < m.length → u.getD j false = !(m.getD j false)) := by
        constructor
        · intro hh
          exact ⟨by simpa using hh 0 (by simp), fun j hj => by simpa using hh (j + 1) (by simpa using hj)⟩
        · rintro ⟨ha, hb⟩ j hj
          cases j with
          | zero => simpa using ha
          | succ j => simpa using hb j (by simpa using hj)
      rw [h2', ← h2]
      cases b <;> cases c <;> simp [List.count_cons] at h0 ⊢ <;> omega
theorem count_set (m : List Bool) : ∀ (j : Nat), j < m.length → m.getD j false = false → (m.set j true).count true = m.count true + 1 := by
  induction m with
  | nil => intro j hj; simp at hj
  | cons b m ih =>
    intro j hj h
    cases j with
    | zero =>
      have : b = false := by simpa using h
      subst this
      simp [List.count_cons]
    | succ j =>
      have := ih j (by simpa using hj) (by simpa using h)
      cases b <;> simp [List.count_cons, this]
end Go.Proofs.Ytomcapflpephmaa.Math
