/- The pure statement of the law FnExactArenaNew: plain Lean over numbers and lists. -/
import Derived.Test.YtcoboobnpmaahaaPFnExactArenaNewx4
import Derived.Test.YtcoboobnpmaahaaMath
set_option linter.unusedSimpArgs false
set_option linter.unusedVariables false
namespace Go.Proofs.Ytcoboobnpmaahaa.Pure
open Go.RowKit Go.Proofs.Ytcoboobnpmaahaa.PFnExactArenaNew Go.Proofs.YtcoboobnpmaahaaW.PrintWords Go.Proofs.YtcoboobnpmaahaaW.PrintLast Go.Proofs.Ytcoboobnpmaahaa.Math

theorem spec_in (a b c : Int) : spec_l01In.f a b c = some (decide (b ≤ a ∧ a ≤ c)) := by
  unfold spec_l01In.f
  by_cases h : a ≥ b
  · rw [if_pos h]
    simp [h]
  · rw [if_neg h]
    have : ¬ (b ≤ a ∧ a ≤ c) := fun z => h z.1
    simp [this]

theorem impl_in (a b c : Int) : impl_inRange.f a b c = some (decide (b ≤ a ∧ a ≤ c)) := by
  unfold impl_inRange.f
  by_cases h : a ≥ b
  · rw [if_pos h]
    simp [h]
  · rw [if_neg h]
    have : ¬ (b ≤ a ∧ a ≤ c) := fun z => h z.1
    simp [this]

theorem eq_slots_loop (l : List S91) (hl : l.length ≤ 1048576) (d : Nat) : ∀ (i : Nat), l.length - i = d → Ev (fun k => laws_eqSlotS.l0 k l l (i : Int)) true := by
  induction d with
  | zero =>
    intro i hd
    refine Ev.step (f := fun _ => some true) (fun k => ?_) (Ev.now _)
    simp only [laws_eqSlotS.l0]
    rw [if_neg (by omega)]
  | succ d ih =>
    intro i hd
    have e : ∀ x : S91, laws_eqSlot.f x.f0 x.f1 x.f2 x.f3 x.f4 x.f0 x.f1 x.f2 x.f3 x.f4 = some true := fun x => by simp [laws_eqSlot.f]
    refine Ev.step (fun k => ?_) (ih (i + 1) (by omega))
    simp only [laws_eqSlotS.l0]
    rw [if_pos (by omega), if_pos (by omega), if_pos (by omega), e, Option.bind_some, if_pos rfl, wrap64_id (by omega) (by omega)]
    rfl
theorem eq_arena (l : List S91) (a : Int) (hl : l.length ≤ 1048576) : Ev (fun k => laws_eqArena.f k l a l a) true := by
  unfold laws_eqArena.f laws_eqSlotS.f
  simp only [if_true]
  refine Ev.bind (eq_slots_loop l hl _ 0 rfl) ?_
  simp only [if_true]
  exact Ev.now _

theorem FnExactArenaNew : laws_FnExactArenaNew.Pure := by
  intro n hn
  by_cases h : 1 ≤ n ∧ n ≤ 24
  · have hc : n = 1 ∨ n = 2 ∨ n = 3 ∨ n = 4 ∨ n = 5 ∨ n = 6 ∨ n = 7 ∨ n = 8 ∨ n = 9 ∨ n = 10 ∨ n = 11 ∨ n = 12 ∨ n = 13 ∨ n = 14 ∨ n = 15 ∨ n = 16 ∨ n = 17 ∨ n = 18 ∨ n = 19 ∨ n = 20 ∨ n = 21 ∨ n = 22 ∨ n = 23 ∨ n = 24 := by omega
    rcases hc with rfl | rfl | rfl | rfl | rfl | rfl | rfl | rfl | rfl | rfl | rfl | rfl | rfl | rfl | rfl | rfl | rfl | rfl | rfl | rfl | rfl | rfl | rfl | rfl <;> exact ⟨200, by decide +kernel⟩
  · refine Ev.rounds ?_
    have e1 : ∀ k, spec_ArenaNew.f k n = some ([], 0, false) := fun k => by unfold spec_ArenaNew.f; rw [spec_in, decide_eq_false h]; rfl
    have e2 : ∀ k, impl_ArenaNew.f k n = some ([], 0, false) := fun k => by unfold impl_ArenaNew.f; rw [impl_in, decide_eq_false h]; rfl
    have eq0 := eq_arena ([] : List S91) 0 (by simp)
    have hm : Ev (fun k => laws_markArena.f k ([] : List S91) 0 1) (1, []) := by
      unfold laws_markArena.f laws_markSlotS.f
      refine Ev.bind (Ev.step (f := fun _ => some (1, ([] : List S91))) (fun k => ?_) (Ev.now _)) (Ev.now _)
      simp only [laws_markSlotS.l0]
      rw [if_neg (by simp)]
    have hh : Ev (fun k => laws_heldArena.f k ([] : List S91) 0 1) 1 := by
      unfold laws_heldArena.f laws_heldSlotS.f
      refine Ev.bind (Ev.step (f := fun _ => some (1 : Int)) (fun k => ?_) (Ev.now _)) ?_
      · simp only [laws_heldSlotS.l0]
        rw [if_neg (by simp)]
      · simp
        exact Ev.now _
    have hj1 : Ev (fun k => laws_FnExactArenaNew.j1 k 1 false ([] : List S91) 0) true := by
      refine Ev.step (f := fun k => (laws_heldArena.f k ([] : List S91) 0 1).bind fun t170 => (if t170 < 0 then (some false) else (if t170 = 1 then (some true) else (some false)))) (fun k => ?_) (Ev.bind hh (by simp; exact Ev.now _))
      simp only [laws_FnExactArenaNew.j1]
      rw [if_neg (by simp)]
    unfold laws_FnExactArenaNew.f
    simp only [e1, e2, Option.bind_some]
    refine Ev.bind eq0 ?_
    simp only [if_true, bne_self_eq_false]
    refine Ev.step (f := fun k => (laws_markArena.f k ([] : List S91) 0 1).bind fun bt160 => ((laws_heldArena.f k bt160.2 0 1).bind fun t162 => (if t162 < 0 then (some false) else (if t162 = bt160.1 then ((impl_ArenaNew.f k n).bind fun bt163 => ((laws_eqArena.f k bt163.1 bt163.2.1 ([] : List S91) 0).bind fun t169 => (if t169 = true then (laws_FnExactArenaNew.j1 k bt160.1 (bt163.2.2 != false) bt160.2 0) else (laws_FnExactArenaNew.j1 k bt160.1 true bt160.2 0)))) else (some false))))) (fun k => ?_) ?_
    · simp only [laws_FnExactArenaNew.j0]
      rw [if_neg (by simp)]
    · refine Ev.bind hm (Ev.bind hh ?_)
      simp only [e2, Option.bind_some, if_true, show ¬ (1 : Int) < 0 by omega, if_false]
      refine Ev.bind eq0 ?_
      simp only [if_true, bne_self_eq_false]
      exact hj1

end Go.Proofs.Ytcoboobnpmaahaa.Pure
