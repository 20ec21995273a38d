/- The pure statement of the law FnExactSketchOk: plain Lean over numbers and lists. -/
import Derived.Test.YtcoboobnpmaahaaPFnExactSketchOkx2
import Derived.Test.YtcoboobnpmaahaaMath
set_option linter.unusedSimpArgs false
set_option linter.unusedVariables false
namespace Go.Proofs.Ytcoboobnpmaahaa.Pure
open Go.RowKit Go.Proofs.Ytcoboobnpmaahaa.PFnExactSketchOk Go.Proofs.YtcoboobnpmaahaaW.PrintWords Go.Proofs.YtcoboobnpmaahaaW.PrintLast Go.Proofs.Ytcoboobnpmaahaa.Math

theorem to_ints_loop (l : List Int) (hl : l.length ≤ 1048576) (d : Nat) : ∀ (x : List Int) (i : Nat), l.length - i = d → i ≤ l.length → x.length = l.length → x.take i = l.take i → Ev (fun k => laws_toIntS.l0 k l x (i : Int)) l := by
  induction d with
  | zero =>
    intro x i hd hi hx ht
    have e : x = l := take_all hx (by rw [show l.length = i by omega]; exact ht)
    refine Ev.step (f := fun _ => some x) (fun k => ?_) (by rw [e]; exact Ev.now _)
    simp only [laws_toIntS.l0]
    rw [if_neg (by omega)]
  | succ d ih =>
    intro x i hd hi hx ht
    have h := ih (x.set i (rd l (i : Int))) (i + 1) (by omega) (by omega) (by simp [hx]) (set_take l x 0 i (by omega) hx ht)
    refine Ev.step (fun k => ?_) h
    simp only [laws_toIntS.l0]
    rw [if_pos (by omega), if_pos (by omega), if_pos (by omega), wrap64_id (by omega) (by omega)]
    rfl
theorem to_ints (l : List Int) (hl : l.length ≤ 1048576) : Ev (fun k => laws_toIntS.f k l) l := by
  unfold laws_toIntS.f
  have e : ((l.length : Int)).toNat = l.length := by omega
  simp only [e, if_pos (show 0 ≤ (l.length : Int) by omega), if_pos (show l.length ≤ 35184372088832 by omega)]
  exact to_ints_loop l hl _ _ 0 rfl (by omega) (by simp) (by simp)
theorem eq_ints_loop (l : List Int) (hl : l.length ≤ 1048576) (d : Nat) : ∀ (i : Nat), l.length - i = d → Ev (fun k => laws_eqIntS.l0 k l l (i : Int)) true := by
  induction d with
  | zero =>
    intro i hd
    refine Ev.step (f := fun _ => some true) (fun k => ?_) (Ev.now _)
    simp only [laws_eqIntS.l0]
    rw [if_neg (by omega)]
  | succ d ih =>
    intro i hd
    refine Ev.step (fun k => ?_) (ih (i + 1) (by omega))
    simp only [laws_eqIntS.l0]
    rw [if_pos (by omega), if_pos (by omega), if_pos (by omega), if_pos trivial, wrap64_id (by omega) (by omega)]
    rfl
theorem eq_ints (l : List Int) (hl : l.length ≤ 1048576) : Ev (fun k => laws_eqIntS.f k l l) true := by
  unfold laws_eqIntS.f
  simp only [if_true]
  exact eq_ints_loop l hl _ 0 rfl
theorem eq_sketch (l : List Int) (a : Int) (hl : l.length ≤ 1048576) : Ev (fun k => laws_eqSketch.f k l a l a) true := by
  unfold laws_eqSketch.f
  refine Ev.bind (eq_ints l hl) ?_
  simp only [if_true]
  exact Ev.now _

theorem sz_sketch (l : List Int) (a : Int) (hl : l.length ≤ maxLen) : ∃ r, laws_szSketch.f l a 1048576 = some r ∧ (0 ≤ r → l.length ≤ 1048576) := by
  unfold maxLen at hl
  unfold laws_szSketch.f laws_szIntS.f
  rw [wrap64_id (by omega) (by omega)]
  by_cases h : (1048576 : Int) - (l.length : Int) < 0
  · refine ⟨-1, ?_, by omega⟩
    rw [if_pos h]
    simp
  · refine ⟨1048576 - (l.length : Int), ?_, by omega⟩
    rw [if_neg h]
    simp only [Option.bind_some]
    rw [if_neg h]
theorem to_sketch (l : List Int) (a : Int) (hl : l.length ≤ 1048576) : Ev (fun k => laws_toSketch.f k l a) (l, a) := by
  unfold laws_toSketch.f
  exact Ev.bind (to_ints l hl) (Ev.now _)

theorem spec_in (a b c : Int) : spec_l01In.f a b c = some (decide (b ≤ a ∧ a ≤ c)) := by
  unfold spec_l01In.f
  by_cases h : a ≥ b
  · rw [if_pos h]
    simp [h]
  · rw [if_neg h]
    have : ¬ (b ≤ a ∧ a ≤ c) := fun z => h z.1
    simp [this]

noncomputable def skOk (l : List Int) (a : Int) : Bool := tr (l.length = 48 ∧ (0 ≤ a ∧ a ≤ 99) ∧ ∀ j, 0 ≤ j → j < l.length → 0 ≤ l.getD j 0 ∧ l.getD j 0 ≤ 15)

theorem spec_skok_loop (l : List Int) (a : Int) (hl : l.length ≤ 1048576) (d : Nat) : ∀ (i : Nat), l.length - i = d →
    Ev (fun k => spec_SketchOk.l0 k (i : Int) l a) (tr (∀ j, i ≤ j → j < l.length → 0 ≤ l.getD j 0 ∧ l.getD j 0 ≤ 15)) := by
  induction d with
  | zero =>
    intro i hd
    rw [tr_true (fun j h1 h2 => by omega)]
    refine Ev.step (f := fun _ => some true) (fun k => ?_) (Ev.now _)
    simp only [spec_SketchOk.l0]
    rw [if_neg (by omega)]
  | succ d ih =>
    intro i hd
    have hlt : i < l.length := by omega
    have hall := all_from (P := fun j => 0 ≤ l.getD j 0 ∧ l.getD j 0 ≤ 15) hlt
    have er : rd l (i : Int) = l.getD i 0 := rfl
    by_cases h : 0 ≤ l.getD i 0 ∧ l.getD i 0 ≤ 15
    · have e : tr (∀ j, i ≤ j → j < l.length → 0 ≤ l.getD j 0 ∧ l.getD j 0 ≤ 15) = tr (∀ j, i + 1 ≤ j → j < l.length → 0 ≤ l.getD j 0 ∧ l.getD j 0 ≤ 15)   := tr_congr (hall.trans ⟨fun z => z.2, fun z => ⟨h, z⟩⟩)
      rw [e]
      refine Ev.step (fun k => ?_) (ih (i + 1) (by omega))
      simp only [spec_SketchOk.l0]
      rw [if_pos (by omega), if_pos (by omega), spec_in, er, decide_eq_true h, Option.bind_some, if_pos rfl, wrap64_id (by omega) (by omega)]
      rfl
    · rw [tr_false (fun z => h (hall.1 z).1)]
      refine Ev.step (f := fun _ => some false) (fun k => ?_) (Ev.now _)
      simp only [spec_SketchOk.l0]
      rw [if_pos (by omega), if_pos (by omega), spec_in, er, decide_eq_false h, Option.bind_some, if_neg (by simp)]
theorem spec_skok (l : List Int) (a : Int) (hl : l.length ≤ 1048576) : Ev (fun k => spec_SketchOk.f k l a) (skOk l a) := by
  have hj : ∀ b, Ev (fun k => spec_SketchOk.j0 k b l a) (!b && tr (∀ j, 0 ≤ j → j < l.length → 0 ≤ l.getD j 0 ∧ l.getD j 0 ≤ 15)) := fun b => by
    cases b with
    | true =>
      refine Ev.step (f := fun _ => some false) (fun k => ?_) (Ev.now _)
      simp only [spec_SketchOk.j0]
      rw [if_pos trivial]
    | false =>
      refine Ev.step (fun k => ?_) (by simpa using spec_skok_loop l a hl _ 0 rfl)
      simp only [spec_SketchOk.j0]
      rw [if_neg (by simp)]
  unfold spec_SketchOk.f skOk
  by_cases h : (l.length : Int) = 48
  · have h' : l.length = 48 := by omega
    simp only [if_pos h, spec_in, Option.bind_some]
    have e : tr (l.length = 48 ∧ (0 ≤ a ∧ a ≤ 99) ∧ ∀ j, 0 ≤ j → j < l.length → 0 ≤ l.getD j 0 ∧ l.getD j 0 ≤ 15) = (!!decide (0 ≤ a ∧ a ≤ 99) && tr (∀ j, 0 ≤ j → j < l.length → 0 ≤ l.getD j 0 ∧ l.getD j 0 ≤ 15)) := by
      rw [Bool.not_not, tr_dec, tr_and, tr_and, tr_true h', Bool.true_and]
    rw [e]
    exact hj _
  · have h' : ¬ l.length = 48 := by omega
    simp only [if_neg h]
    rw [tr_false (fun z => h' z.1)]
    simpa using hj true

theorem impl_in (a b c : Int) : impl_inRange.f a b c = some (decide (b ≤ a ∧ a ≤ c)) := by
  unfold impl_inRange.f
  by_cases h : a ≥ b
  · rw [if_pos h]
    simp [h]
  · rw [if_neg h]
    have : ¬ (b ≤ a ∧ a ≤ c) := fun z => h z.1
    simp [this]

theorem impl_skok_loop (l : List Int) (a : Int) (hl : l.length ≤ 1048576) (d : Nat) : ∀ (i : Nat), l.length - i = d →
    Ev (fun k => impl_SketchOk.l0 k l (l.length : Int) (i : Int) l a) (tr (l.length = 48 ∧ (0 ≤ a ∧ a ≤ 99) ∧ ∀ j, i ≤ j → j < l.length → 0 ≤ l.getD j 0 ∧ l.getD j 0 ≤ 15)) := by
  induction d with
  | zero =>
    intro i hd
    by_cases h : (l.length : Int) = 48
    · have e : tr (l.length = 48 ∧ (0 ≤ a ∧ a ≤ 99) ∧ ∀ j, i ≤ j → j < l.length → 0 ≤ l.getD j 0 ∧ l.getD j 0 ≤ 15) = decide (0 ≤ a ∧ a ≤ 99) := by
        rw [tr_dec]; exact tr_congr ⟨fun z => z.2.1, fun z => ⟨by omega, z, fun j h1 h2 => by omega⟩⟩
      rw [e]
      refine Ev.step (f := fun _ => some (decide (0 ≤ a ∧ a ≤ 99))) (fun k => ?_) (Ev.now _)
      simp only [impl_SketchOk.l0]
      rw [if_neg (by omega), if_pos h, impl_in, Option.bind_some]
    · rw [tr_false (fun z => h (by have := z.1; omega))]
      refine Ev.step (f := fun _ => some false) (fun k => ?_) (Ev.now _)
      simp only [impl_SketchOk.l0]
      rw [if_neg (by omega), if_neg h]
  | succ d ih =>
    intro i hd
    have hlt : i < l.length := by omega
    have hall := all_from (P := fun j => 0 ≤ l.getD j 0 ∧ l.getD j 0 ≤ 15) hlt
    have er : rd l (i : Int) = l.getD i 0 := rfl
    by_cases h : 0 ≤ l.getD i 0 ∧ l.getD i 0 ≤ 15
    · have e : tr (l.length = 48 ∧ (0 ≤ a ∧ a ≤ 99) ∧ ∀ j, i ≤ j → j < l.length → 0 ≤ l.getD j 0 ∧ l.getD j 0 ≤ 15) = tr (l.length = 48 ∧ (0 ≤ a ∧ a ≤ 99) ∧ ∀ j, i + 1 ≤ j → j < l.length → 0 ≤ l.getD j 0 ∧ l.getD j 0 ≤ 15) :=
        tr_congr ⟨fun z => ⟨z.1, z.2.1, (hall.1 z.2.2).2⟩, fun z => ⟨z.1, z.2.1, hall.2 ⟨h, z.2.2⟩⟩⟩
      rw [e]
      refine Ev.step (fun k => ?_) (ih (i + 1) (by omega))
      simp only [impl_SketchOk.l0]
      rw [if_pos (by omega), if_pos (by omega), if_pos (by omega), impl_in, er, decide_eq_true h, Option.bind_some, if_pos rfl, wrap64_id (by omega) (by omega)]
      rfl
    · rw [tr_false (fun z => h (hall.1 z.2.2).1)]
      refine Ev.step (f := fun _ => some false) (fun k => ?_) (Ev.now _)
      simp only [impl_SketchOk.l0]
      rw [if_pos (by omega), if_pos (by omega), if_pos (by omega), impl_in, er, decide_eq_false h, Option.bind_some, if_neg (by simp)]
theorem impl_skok (l : List Int) (a : Int) (hl : l.length ≤ 1048576) : Ev (fun k => impl_SketchOk.f k l a) (skOk l a) := impl_skok_loop l a hl _ 0 rfl

theorem FnExactSketchOk (l : List Int) (a : Int) (h : l.length ≤ maxLen ∧ ∀ y ∈ l, (Lit.int .i64 y).wf = true) (ha : (Lit.int .i64 a).wf = true) : ∃ k, laws_FnExactSketchOk.f k l a = some true := by
  refine Ev.rounds ?_
  unfold laws_FnExactSketchOk.f
  obtain ⟨r, hr, hlen⟩ := sz_sketch l a h.1
  simp only [hr, Option.bind_some]
  by_cases h0 : r < 0
  · simp only [if_pos h0]
    exact Ev.now _
  · simp only [if_neg h0]
    have hl := hlen (by omega)
    refine Ev.bind (to_sketch l a hl) (Ev.bind (spec_skok l a hl) (Ev.bind (to_sketch l a hl) (Ev.bind (impl_skok l a hl) ?_)))
    simp only [bne_self_eq_false, Bool.false_eq_true, if_false]
    refine Ev.bind (to_sketch l a hl) (Ev.bind (eq_sketch l a hl) ?_)
    simp only [if_true]
    exact Ev.now _

end Go.Proofs.Ytcoboobnpmaahaa.Pure
