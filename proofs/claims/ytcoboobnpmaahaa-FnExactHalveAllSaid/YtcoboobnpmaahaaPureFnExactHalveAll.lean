/- The pure statement of the law FnExactHalveAll: plain Lean over numbers and lists. -/
import Derived.Test.YtcoboobnpmaahaaHFnExactHalveAllx4
import Derived.Test.YtcoboobnpmaahaaMath
set_option linter.unusedSimpArgs false
set_option linter.unusedVariables false
namespace Go.Proofs.Ytcoboobnpmaahaa.Pure
open Go.RowKit Go.Proofs.Ytcoboobnpmaahaa.HFnExactHalveAll Go.Proofs.YtcoboobnpmaahaaW.PrintWords Go.Proofs.YtcoboobnpmaahaaW.PrintLast Go.Proofs.Ytcoboobnpmaahaa.Math

theorem to_ints_loop (l : List Int) (hl : l.length ≤ 1048576) (d : Nat) : ∀ (x : List Int) (i : Nat), l.length - i = d → i ≤ l.length → x.length = l.length → x.take i = l.take i → Ev (fun k => laws_toIntS.l0 k l x (i : Int)) l := by
  induction d with
  | zero =>
    intro x i hd hi hx ht
    have e : x = l := take_all hx (by rw [show l.length = i by omega]; exact ht)
    refine Ev.step (f := fun _ => some x) (fun k => ?_) (by rw [e]; exact Ev.now _)
    simp only [laws_toIntS.l0]
    rw [if_neg (by omega)]
  | succ d ih =>
    intro x i hd hi hx ht
    have h := ih (x.set i (rd l (i : Int))) (i + 1) (by omega) (by omega) (by simp [hx]) (set_take l x 0 i (by omega) hx ht)
    refine Ev.step (fun k => ?_) h
    simp only [laws_toIntS.l0]
    rw [if_pos (by omega), if_pos (by omega), if_pos (by omega), wrap64_id (by omega) (by omega)]
    rfl
theorem to_ints (l : List Int) (hl : l.length ≤ 1048576) : Ev (fun k => laws_toIntS.f k l) l := by
  unfold laws_toIntS.f
  have e : ((l.length : Int)).toNat = l.length := by omega
  simp only [e, if_pos (show 0 ≤ (l.length : Int) by omega), if_pos (show l.length ≤ 35184372088832 by omega)]
  exact to_ints_loop l hl _ _ 0 rfl (by omega) (by simp) (by simp)
theorem eq_ints_loop (l : List Int) (hl : l.length ≤ 1048576) (d : Nat) : ∀ (i : Nat), l.length - i = d → Ev (fun k => laws_eqIntS.l0 k l l (i : Int)) true := by
  induction d with
  | zero =>
    intro i hd
    refine Ev.step (f := fun _ => some true) (fun k => ?_) (Ev.now _)
    simp only [laws_eqIntS.l0]
    rw [if_neg (by omega)]
  | succ d ih =>
    intro i hd
    refine Ev.step (fun k => ?_) (ih (i + 1) (by omega))
    simp only [laws_eqIntS.l0]
    rw [if_pos (by omega), if_pos (by omega), if_pos (by omega), if_pos trivial, wrap64_id (by omega) (by omega)]
    rfl
theorem eq_ints (l : List Int) (hl : l.length ≤ 1048576) : Ev (fun k => laws_eqIntS.f k l l) true := by
  unfold laws_eqIntS.f
  simp only [if_true]
  exact eq_ints_loop l hl _ 0 rfl
theorem eq_sketch (l : List Int) (a : Int) (hl : l.length ≤ 1048576) : Ev (fun k => laws_eqSketch.f k l a l a) true := by
  unfold laws_eqSketch.f
  refine Ev.bind (eq_ints l hl) ?_
  simp only [if_true]
  exact Ev.now _

theorem sz_sketch (l : List Int) (a : Int) (hl : l.length ≤ maxLen) : ∃ r, laws_szSketch.f l a 1048576 = some r ∧ (0 ≤ r → l.length ≤ 1048576) := by
  unfold maxLen at hl
  unfold laws_szSketch.f laws_szIntS.f
  rw [wrap64_id (by omega) (by omega)]
  by_cases h : (1048576 : Int) - (l.length : Int) < 0
  · refine ⟨-1, ?_, by omega⟩
    rw [if_pos h]
    simp
  · refine ⟨1048576 - (l.length : Int), ?_, by omega⟩
    rw [if_neg h]
    simp only [Option.bind_some]
    rw [if_neg h]
theorem to_sketch (l : List Int) (a : Int) (hl : l.length ≤ 1048576) : Ev (fun k => laws_toSketch.f k l a) (l, a) := by
  unfold laws_toSketch.f
  exact Ev.bind (to_ints l hl) (Ev.now _)

theorem spec_in (a b c : Int) : spec_l01In.f a b c = some (decide (b ≤ a ∧ a ≤ c)) := by
  unfold spec_l01In.f
  by_cases h : a ≥ b
  · rw [if_pos h]
    simp [h]
  · rw [if_neg h]
    have : ¬ (b ≤ a ∧ a ≤ c) := fun z => h z.1
    simp [this]

noncomputable def skOk (l : List Int) (a : Int) : Bool := tr (l.length = 48 ∧ (0 ≤ a ∧ a ≤ 99) ∧ ∀ j, 0 ≤ j → j < l.length → 0 ≤ l.getD j 0 ∧ l.getD j 0 ≤ 15)

theorem spec_skok_loop (l : List Int) (a : Int) (hl : l.length ≤ 1048576) (d : Nat) : ∀ (i : Nat), l.length - i = d →
    Ev (fun k => spec_SketchOk.l0 k (i : Int) l a) (tr (∀ j, i ≤ j → j < l.length → 0 ≤ l.getD j 0 ∧ l.getD j 0 ≤ 15)) := by
  induction d with
  | zero =>
    intro i hd
    rw [tr_true (fun j h1 h2 => by omega)]
    refine Ev.step (f := fun _ => some true) (fun k => ?_) (Ev.now _)
    simp only [spec_SketchOk.l0]
    rw [if_neg (by omega)]
  | succ d ih =>
    intro i hd
    have hlt : i < l.length := by omega
    have hall := all_from (P := fun j => 0 ≤ l.getD j 0 ∧ l.getD j 0 ≤ 15) hlt
    have er : rd l (i : Int) = l.getD i 0 := rfl
    by_cases h : 0 ≤ l.getD i 0 ∧ l.getD i 0 ≤ 15
    · have e : tr (∀ j, i ≤ j → j < l.length → 0 ≤ l.getD j 0 ∧ l.getD j 0 ≤ 15) = tr (∀ j, i + 1 ≤ j → j < l.length → 0 ≤ l.getD j 0 ∧ l.getD j 0 ≤ 15)   := tr_congr (hall.trans ⟨fun z => z.2, fun z => ⟨h, z⟩⟩)
      rw [e]
      refine Ev.step (fun k => ?_) (ih (i + 1) (by omega))
      simp only [spec_SketchOk.l0]
      rw [if_pos (by omega), if_pos (by omega), spec_in, er, decide_eq_true h, Option.bind_some, if_pos rfl, wrap64_id (by omega) (by omega)]
      rfl
    · rw [tr_false (fun z => h (hall.1 z).1)]
      refine Ev.step (f := fun _ => some false) (fun k => ?_) (Ev.now _)
      simp only [spec_SketchOk.l0]
      rw [if_pos (by omega), if_pos (by omega), spec_in, er, decide_eq_false h, Option.bind_some, if_neg (by simp)]
theorem spec_skok (l : List Int) (a : Int) (hl : l.length ≤ 1048576) : Ev (fun k => spec_SketchOk.f k l a) (skOk l a) := by
  have hj : ∀ b, Ev (fun k => spec_SketchOk.j0 k b l a) (!b && tr (∀ j, 0 ≤ j → j < l.length → 0 ≤ l.getD j 0 ∧ l.getD j 0 ≤ 15)) := fun b => by
    cases b with
    | true =>
      refine Ev.step (f := fun _ => some false) (fun k => ?_) (Ev.now _)
      simp only [spec_SketchOk.j0]
      rw [if_pos trivial]
    | false =>
      refine Ev.step (fun k => ?_) (by simpa using spec_skok_loop l a hl _ 0 rfl)
      simp only [spec_SketchOk.j0]
      rw [if_neg (by simp)]
  unfold spec_SketchOk.f skOk
  by_cases h : (l.length : Int) = 48
  · have h' : l.length = 48 := by omega
    simp only [if_pos h, spec_in, Option.bind_some]
    have e : tr (l.length = 48 ∧ (0 ≤ a ∧ a ≤ 99) ∧ ∀ j, 0 ≤ j → j < l.length → 0 ≤ l.getD j 0 ∧ l.getD j 0 ≤ 15) = (!!decide (0 ≤ a ∧ a ≤ 99) && tr (∀ j, 0 ≤ j → j < l.length → 0 ≤ l.getD j 0 ∧ l.getD j 0 ≤ 15)) := by
      rw [Bool.not_not, tr_dec, tr_and, tr_and, tr_true h', Bool.true_and]
    rw [e]
    exact hj _
  · have h' : ¬ l.length = 48 := by omega
    simp only [if_neg h]
    rw [tr_false (fun z => h' z.1)]
    simpa using hj true

theorem impl_in (a b c : Int) : impl_inRange.f a b c = some (decide (b ≤ a ∧ a ≤ c)) := by
  unfold impl_inRange.f
  by_cases h : a ≥ b
  · rw [if_pos h]
    simp [h]
  · rw [if_neg h]
    have : ¬ (b ≤ a ∧ a ≤ c) := fun z => h z.1
    simp [this]

theorem impl_skok_loop (l : List Int) (a : Int) (hl : l.length ≤ 1048576) (d : Nat) : ∀ (i : Nat), l.length - i = d →
    Ev (fun k => impl_SketchOk.l0 k l (l.length : Int) (i : Int) l a) (tr (l.length = 48 ∧ (0 ≤ a ∧ a ≤ 99) ∧ ∀ j, i ≤ j → j < l.length → 0 ≤ l.getD j 0 ∧ l.getD j 0 ≤ 15)) := by
  induction d with
  | zero =>
    intro i hd
    by_cases h : (l.length : Int) = 48
    · have e : tr (l.length = 48 ∧ (0 ≤ a ∧ a ≤ 99) ∧ ∀ j, i ≤ j → j < l.length → 0 ≤ l.getD j 0 ∧ l.getD j 0 ≤ 15) = decide (0 ≤ a ∧ a ≤ 99) := by
        rw [tr_dec]; exact tr_congr ⟨fun z => z.2.1, fun z => ⟨by omega, z, fun j h1 h2 => by omega⟩⟩
      rw [e]
      refine Ev.step (f := fun _ => some (decide (0 ≤ a ∧ a ≤ 99))) (fun k => ?_) (Ev.now _)
      simp only [impl_SketchOk.l0]
      rw [if_neg (by omega), if_pos h, impl_in, Option.bind_some]
    · rw [tr_false (fun z => h (by have := z.1; omega))]
      refine Ev.step (f := fun _ => some false) (fun k => ?_) (Ev.now _)
      simp only [impl_SketchOk.l0]
      rw [if_neg (by omega), if_neg h]
  | succ d ih =>
    intro i hd
    have hlt : i < l.length := by omega
    have hall := all_from (P := fun j => 0 ≤ l.getD j 0 ∧ l.getD j 0 ≤ 15) hlt
    have er : rd l (i : Int) = l.getD i 0 := rfl
    by_cases h : 0 ≤ l.getD i 0 ∧ l.getD i 0 ≤ 15
    · have e : tr (l.length = 48 ∧ (0 ≤ a ∧ a ≤ 99) ∧ ∀ j, i ≤ j → j < l.length → 0 ≤ l.getD j 0 ∧ l.getD j 0 ≤ 15) = tr (l.length = 48 ∧ (0 ≤ a ∧ a ≤ 99) ∧ ∀ j, i + 1 ≤ j → j < l.length → 0 ≤ l.getD j 0 ∧ l.getD j 0 ≤ 15) :=
        tr_congr ⟨fun z => ⟨z.1, z.2.1, (hall.1 z.2.2).2⟩, fun z => ⟨z.1, z.2.1, hall.2 ⟨h, z.2.2⟩⟩⟩
      rw [e]
      refine Ev.step (fun k => ?_) (ih (i + 1) (by omega))
      simp only [impl_SketchOk.l0]
      rw [if_pos (by omega), if_pos (by omega), if_pos (by omega), impl_in, er, decide_eq_true h, Option.bind_some, if_pos rfl, wrap64_id (by omega) (by omega)]
      rfl
    · rw [tr_false (fun z => h (hall.1 z.2.2).1)]
      refine Ev.step (f := fun _ => some false) (fun k => ?_) (Ev.now _)
      simp only [impl_SketchOk.l0]
      rw [if_pos (by omega), if_pos (by omega), if_pos (by omega), impl_in, er, decide_eq_false h, Option.bind_some, if_neg (by simp)]
theorem impl_skok (l : List Int) (a : Int) (hl : l.length ≤ 1048576) : Ev (fun k => impl_SketchOk.f k l a) (skOk l a) := impl_skok_loop l a hl _ 0 rfl

/-! ### all halved -/
def half2 (x : Int) : Int := wrap64 (Int.tdiv x 2)
theorem drop_getD_eq {x l : List Int} {i : Nat} (h : x.drop i = l.drop i) : x.getD i 0 = l.getD i 0 := by
  have e : ∀ y : List Int, y[i]? = (y.drop i)[0]? := fun y => by rw [List.getElem?_drop, Nat.add_zero]
  rw [List.getD_eq_getElem?_getD, List.getD_eq_getElem?_getD, e x, e l, h]
theorem half_getD (l : List Int) (i : Nat) (h : i < l.length) : (l.map half2).getD i 0 = half2 (l.getD i 0) := by
  simp [List.getD_eq_getElem?_getD, List.getElem?_eq_getElem h]
theorem half_set {x l : List Int} {i : Nat} (hi : i < l.length) (hx : x.length = l.length) (ht : x.take i = (l.map half2).take i) (hd : x.drop i = l.drop i) :
    (x.set i (half2 (x.getD i 0))).length = l.length ∧ (x.set i (half2 (x.getD i 0))).take (i + 1) = (l.map half2).take (i + 1) ∧ (x.set i (half2 (x.getD i 0))).drop (i + 1) = l.drop (i + 1) := by
  have hg := drop_getD_eq hd
  refine ⟨by simpa using hx, ?_, ?_⟩
  · rw [hg, ← half_getD l i hi]
    exact set_take (l.map half2) x 0 i (by simpa using hi) (by simpa using hx) ht
  · rw [List.drop_set_of_lt (by omega), ← List.drop_drop, ← List.drop_drop, hd]
theorem impl_halve_loop (l : List Int) (a : Int) (hl : l.length ≤ 1048576) (d : Nat) : ∀ (x : List Int) (i : Nat), l.length - i = d → i ≤ l.length → x.length = l.length → x.take i = (l.map half2).take i → x.drop i = l.drop i → Ev (fun k => impl_Sketch_halve.l0 k (l.length : Int) (i : Int) x a) (l.map half2) := by
  induction d with
  | zero =>
    intro x i hd hi hx ht hdr
    have e : x = l.map half2 := take_all (by simpa using hx) (by rw [List.length_map, show l.length = i by omega]; exact ht)
    refine Ev.step (f := fun _ => some x) (fun k => ?_) (by rw [e]; exact Ev.now _)
    simp only [impl_Sketch_halve.l0]
    rw [if_neg (by omega)]
  | succ d ih =>
    intro x i hd hi hx ht hdr
    have e3 : Aside0 (wrap64 ((i : Int) + 1) = ((i + 1 : Nat) : Int)) := ⟨by rw [wrap64_id (by omega) (by omega)]; omega⟩
    obtain ⟨h1, h2, h3⟩ := half_set (i := i) (by omega) hx ht hdr
    refine Ev.step (fun k => ?_) (ih _ (i + 1) (by omega) (by omega) h1 h2 h3)
    simp only [impl_Sketch_halve.l0]
    rw [if_pos (by omega), if_pos (by omega), if_pos (by omega), e3.out]
    rfl
theorem impl_halve (l : List Int) (a : Int) (hl : l.length ≤ 1048576) : Ev (fun k => impl_Sketch_halve.f k l a) (l.map half2) := by
  unfold impl_Sketch_halve.f
  exact impl_halve_loop l a hl _ l 0 rfl (Nat.zero_le _) rfl (by simp) rfl
noncomputable def halvesV (l : List Int) (a : Int) : List Int × Int := if skOk l a = true then (l.map half2, a) else (l, a)
theorem impl_clone_ints (l : List Int) (h : l.length ≤ 1048576) : slices_Clone_int_int.f l = some l := by
  unfold slices_Clone_int_int.f
  rw [Option.bind_some, if_pos (by simp; omega), List.nil_append]
theorem impl_HalveAll_ev (l : List Int) (a : Int) (hl : l.length ≤ 1048576) : Ev (fun k => impl_HalveAll.f k l a) (halvesV l a) := by
  unfold impl_HalveAll.f impl_copySketch.f halvesV
  simp only [impl_clone_ints l hl, Option.bind_some]
  refine Ev.bind (impl_skok l a hl) ?_
  cases skOk l a
  · exact Ev.now _
  · simp only [if_true]
    exact Ev.bind (impl_halve l a hl) (Ev.now _)
theorem spec_halve_loop (l : List Int) (a : Int) (hl : l.length ≤ 1048576) (hok : skOk l a = true) (d : Nat) : ∀ (x : List Int) (i : Nat), l.length - i = d → i ≤ l.length → x.length = l.length → x.take i = (l.map half2).take i → x.drop i = l.drop i → Ev (fun k => spec_HalveAll.l0 k (i : Int) l a x a) (l.map half2, a) := by
  induction d with
  | zero =>
    intro x i hd hi hx ht hdr
    have e : x = l.map half2 := take_all (by simpa using hx) (by rw [List.length_map, show l.length = i by omega]; exact ht)
    refine Ev.step (f := fun _ => some (x, a)) (fun k => ?_) (by rw [e]; exact Ev.now _)
    simp only [spec_HalveAll.l0]
    rw [if_neg (by omega)]
  | succ d ih =>
    intro x i hd hi hx ht hdr
    have e3 : Aside0 (wrap64 ((i : Int) + 1) = ((i + 1 : Nat) : Int)) := ⟨by rw [wrap64_id (by omega) (by omega)]; omega⟩
    obtain ⟨h1, h2, h3⟩ := half_set (i := i) (by omega) hx ht hdr
    have hs := spec_skok l a hl
    rw [hok] at hs
    refine Ev.step (f := fun k => (spec_SketchOk.f k l a).bind fun t => if t = true then spec_HalveAll.l0 k ((i + 1 : Nat) : Int) l a (x.set i (half2 (x.getD i 0))) a else some (x, a)) (fun k => ?_) (Ev.bind hs ?_)
    · simp only [spec_HalveAll.l0]
      rw [if_pos (by omega), if_pos (by omega), e3.out]
      rfl
    · simp only [if_true]
      exact ih _ (i + 1) (by omega) (by omega) h1 h2 h3
theorem spec_HalveAll_ev (l : List Int) (a : Int) (hl : l.length ≤ 1048576) : Ev (fun k => spec_HalveAll.f k l a) (halvesV l a) := by
  unfold spec_HalveAll.f spec_l05Copy.f halvesV
  simp only [Option.bind_some, List.nil_append, if_pos (show ([] : List Int).length + l.length < 17592186044416 by simp; omega)]
  cases h : skOk l a
  · have hs := spec_skok l a hl
    rw [h] at hs
    by_cases h0 : l.length = 0
    · refine Ev.step (f := fun _ => some (l, a)) (fun k => ?_) (Ev.now _)
      simp only [spec_HalveAll.l0]
      rw [if_neg (by omega)]
    · refine Ev.step (f := fun k => (spec_SketchOk.f k l a).bind fun t => if t = true then spec_HalveAll.l0 k (wrap64 (0 + 1)) l a (l.set 0 (half2 (l.getD 0 0))) a else some (l, a)) (fun k => ?_) (Ev.bind hs (Ev.now _))
      simp only [spec_HalveAll.l0]
      rw [if_pos (by omega), if_pos (by omega)]
      rfl
  · exact spec_halve_loop l a hl h _ l 0 rfl (Nat.zero_le _) rfl (by simp) rfl
theorem halvesV_len (l : List Int) (a : Int) : (halvesV l a).1.length = l.length := by
  unfold halvesV
  split <;> simp

def MarkedI (l : List Int) (n : Nat) (x : Int) : Prop := l.length = n ∧ ∀ j, j < n → l.getD j 0 = x + (j : Int)
theorem mark_ints_loop (x0 : Int) (n : Nat) (hn : n ≤ 2097152) (h0 : 0 ≤ x0) (h1 : x0 ≤ 100000000) (d : Nat) : ∀ (l : List Int) (i : Nat), l.length = n → n - i = d → i ≤ n → (∀ j, j < i → l.getD j 0 = x0 + (j : Int)) → ∃ l', MarkedI l' n x0 ∧ Ev (fun k => laws_markIntS.l0 k l (x0 + (i : Int)) (i : Int)) (x0 + (n : Int), l') := by
  induction d with
  | zero =>
    intro l i hl hd hi hj
    have e : i = n := by omega
    subst e
    refine ⟨l, ⟨hl, hj⟩, Ev.step (f := fun _ => some (x0 + (i : Int), l)) (fun k => ?_) (Ev.now _)⟩
    simp only [laws_markIntS.l0]
    rw [if_neg (by omega)]
  | succ d ih =>
    intro l i hl hd hi hj
    have e1 : Aside0 (wrap64 (x0 + (i : Int) + 1) = x0 + ((i + 1 : Nat) : Int)) := ⟨by rw [wrap64_id (by omega) (by omega)]; omega⟩
    have e3 : Aside0 (wrap64 ((i : Int) + 1) = ((i + 1 : Nat) : Int)) := ⟨by rw [wrap64_id (by omega) (by omega)]; omega⟩
    obtain ⟨l', h2, h3⟩ := ih (l.set i (x0 + (i : Int))) (i + 1) (by simpa using hl) (by omega) (by omega) (fun j hj' => by
      rw [List.getD_eq_getElem?_getD]
      rcases Nat.lt_or_ge j i with h | h
      · rw [List.getElem?_set_ne (by omega), ← List.getD_eq_getElem?_getD]; exact hj j h
      · obtain rfl : j = i := by omega
        rw [List.getElem?_set_self (by omega)]; rfl)
    refine ⟨l', h2, Ev.step (fun k => ?_) h3⟩
    simp only [laws_markIntS.l0]
    rw [if_pos (by omega), if_pos (by omega), e1.out, e3.out]
    rfl
theorem mark_ints (l : List Int) (x : Int) (hl : l.length ≤ 2097152) (h0 : 0 ≤ x) (h1 : x ≤ 100000000) : ∃ l', MarkedI l' l.length x ∧ Ev (fun k => laws_markIntS.f k l x) (x + (l.length : Int), l') := by
  unfold laws_markIntS.f
  have h := mark_ints_loop x l.length hl h0 h1 _ l 0 rfl rfl (Nat.zero_le _) (fun j hj => absurd hj (by omega))
  simpa using h
theorem held_ints_loop (l : List Int) (x0 : Int) (n : Nat) (hn : n ≤ 2097152) (h0 : 0 ≤ x0) (h1 : x0 ≤ 100000000) (hm : MarkedI l n x0) (d : Nat) : ∀ (i : Nat), n - i = d → i ≤ n → Ev (fun k => laws_heldIntS.l0 k l (x0 + (i : Int)) (i : Int)) (x0 + (n : Int)) := by
  have hl := hm.1
  induction d with
  | zero =>
    intro i hd hi
    have e : i = n := by omega
    subst e
    refine Ev.step (f := fun _ => some (x0 + (i : Int))) (fun k => ?_) (Ev.now _)
    simp only [laws_heldIntS.l0]
    rw [if_neg (by omega)]
  | succ d ih =>
    intro i hd hi
    have e1 : Aside0 (wrap64 (x0 + (i : Int) + 1) = x0 + ((i + 1 : Nat) : Int)) := ⟨by rw [wrap64_id (by omega) (by omega)]; omega⟩
    have e3 : Aside0 (wrap64 ((i : Int) + 1) = ((i + 1 : Nat) : Int)) := ⟨by rw [wrap64_id (by omega) (by omega)]; omega⟩
    have r0 : rd l (i : Int) = x0 + (i : Int) := hm.2 i (by omega)
    refine Ev.step (fun k => ?_) (ih (i + 1) (by omega) (by omega))
    simp only [laws_heldIntS.l0]
    rw [if_pos (by omega), if_pos (by omega), r0, if_pos rfl, e1.out, e3.out]
theorem held_ints (l : List Int) (n : Nat) (x : Int) (hn : n ≤ 2097152) (h0 : 0 ≤ x) (h1 : x ≤ 100000000) (hm : MarkedI l n x) : Ev (fun k => laws_heldIntS.f k l x) (x + (n : Int)) := by
  unfold laws_heldIntS.f
  simpa using held_ints_loop l x n hn h0 h1 hm _ 0 rfl (Nat.zero_le _)

theorem FnExactHalveAll (l : List Int) (a : Int) (h : l.length ≤ maxLen ∧ ∀ y ∈ l, (Lit.int .i64 y).wf = true) (ha : (Lit.int .i64 a).wf = true) : ∃ k, laws_FnExactHalveAll.f k l a = some true := by
  refine Ev.rounds ?_
  unfold laws_FnExactHalveAll.f
  obtain ⟨r, hr, hlen⟩ := sz_sketch l a h.1
  simp only [hr, Option.bind_some]
  by_cases h0 : r < 0
  · simp only [if_pos h0]
    exact Ev.now _
  · simp only [if_neg h0]
    have hl := hlen (by omega)
    have tt := to_sketch l a hl
    have hS := spec_HalveAll_ev l a hl
    have hI := impl_HalveAll_ev l a hl
    have hL := halvesV_len l a
    generalize halvesV l a = V at hS hI hL
    obtain ⟨x, y⟩ := V
    simp only at hL
    have hE := eq_sketch x y (by omega)
    have hE0 := eq_sketch l a hl
    obtain ⟨m0, _, hM0⟩ := mark_ints l 1 (by omega) (by omega) (by omega)
    obtain ⟨m1, k1, hM1⟩ := mark_ints x 1 (by omega) (by omega) (by omega)
    have hH := held_ints m1 x.length 1 (by omega) (by omega) (by omega) k1
    have n0 : ¬ (1 + (l.length : Int)) < 0 := by omega
    have n1 : ¬ (1 + (x.length : Int)) < 0 := by omega
    have sM0 : Ev (fun k => laws_markSketch.f k l a 1) (1 + (l.length : Int), m0) := by unfold laws_markSketch.f; exact Ev.bind hM0 (Ev.now _)
    have sM1 : Ev (fun k => laws_markSketch.f k x y 1) (1 + (x.length : Int), m1) := by unfold laws_markSketch.f; exact Ev.bind hM1 (Ev.now _)
    have sH : Ev (fun k => laws_heldSketch.f k m1 y 1) (1 + (x.length : Int)) := by
      unfold laws_heldSketch.f
      refine Ev.bind hH ?_
      simp only [if_neg n1]
      exact Ev.now _
    refine Ev.bind tt (Ev.bind hS (Ev.bind tt (Ev.bind hI (Ev.bind hE ?_))))
    simp only [if_true]
    refine Ev.bind tt (Ev.bind hE0 ?_)
    simp only [if_true]
    refine Ev.bind sM0 ?_
    simp only [if_neg n0]
    refine Ev.bind hE ?_
    refine Ev.step (f := fun k => (laws_markSketch.f k x y 1).bind fun bt205 => ((laws_heldSketch.f k bt205.2 y 1).bind fun t207 => (if t207 < 0 then (some false) else (if t207 = bt205.1 then ((laws_toSketch.f k l a).bind fun bt208 => ((impl_HalveAll.f k bt208.1 bt208.2).bind fun bt212 => ((laws_eqSketch.f k bt212.1 bt212.2 x y).bind fun t217 => (if t217 = true then ((laws_heldSketch.f k bt205.2 y 1).bind fun t218 => (if t218 < 0 then (some false) else (if t218 = bt205.1 then (some true) else (some false)))) else (some false))))) else (some false))))) (fun k => ?_) (Ev.bind sM1 (Ev.bind sH ?_))
    · simp only [laws_FnExactHalveAll.j0]
      rw [if_neg (by simp)]
    · simp only [if_neg n1, if_true]
      refine Ev.bind tt (Ev.bind hI (Ev.bind hE ?_))
      simp only [if_true]
      refine Ev.bind sH ?_
      simp only [if_neg n1, if_true]
      exact Ev.now _

end Go.Proofs.Ytcoboobnpmaahaa.Pure
