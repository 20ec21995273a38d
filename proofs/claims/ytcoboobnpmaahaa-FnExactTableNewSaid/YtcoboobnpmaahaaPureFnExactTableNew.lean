/- The pure statement of the law FnExactTableNew: plain Lean over numbers and lists. -/
import Derived.Test.YtcoboobnpmaahaaHFnExactTableNewx3
import Derived.Test.YtcoboobnpmaahaaMath
set_option linter.unusedSimpArgs false
set_option linter.unusedVariables false
namespace Go.Proofs.Ytcoboobnpmaahaa.Pure
open Go.RowKit Go.Proofs.Ytcoboobnpmaahaa.HFnExactTableNew Go.Proofs.YtcoboobnpmaahaaW.PrintWords Go.Proofs.YtcoboobnpmaahaaW.PrintLast Go.Proofs.Ytcoboobnpmaahaa.Math

theorem eq_cells_loop (l : List S111) (hl : l.length ≤ 1048576) (d : Nat) : ∀ (i : Nat), l.length - i = d → Ev (fun k => laws_eqCellS.l0 k l l (i : Int)) true := by
  induction d with
  | zero =>
    intro i hd
    refine Ev.step (f := fun _ => some true) (fun k => ?_) (Ev.now _)
    simp only [laws_eqCellS.l0]
    rw [if_neg (by omega)]
  | succ d ih =>
    intro i hd
    have e : ∀ x : S111, laws_eqCell.f x.f0 x.f1 x.f0 x.f1 = some true := fun x => by simp [laws_eqCell.f]
    refine Ev.step (fun k => ?_) (ih (i + 1) (by omega))
    simp only [laws_eqCellS.l0]
    rw [if_pos (by omega), if_pos (by omega), if_pos (by omega), e, Option.bind_some, if_pos rfl, wrap64_id (by omega) (by omega)]
    rfl
theorem eq_cells (l : List S111) (hl : l.length ≤ 1048576) : Ev (fun k => laws_eqCellS.f k l l) true := by
  unfold laws_eqCellS.f
  simp only [if_true]
  exact eq_cells_loop l hl _ 0 rfl
theorem eq_table (c o : List S111) (mv : Int) (hc : c.length ≤ 1048576) (ho : o.length ≤ 1048576) : Ev (fun k => laws_eqTable.f k c o mv c o mv) true := by
  unfold laws_eqTable.f
  refine Ev.bind (eq_cells c hc) ?_
  simp only [if_true]
  refine Ev.bind (eq_cells o ho) ?_
  simp only [if_true]
  exact Ev.now _

/-! ### texts that mark -/
theorem mark_loop (d : Nat) : ∀ (x : Int) (acc : ByteArray), 0 ≤ x → x < ((10 ^ d : Nat) : Int) → x ≤ 1000000000000000000 → acc.size + d ≤ 1000 → ∃ b, Ev (fun k => laws_markText.l0 k x acc) b := by
  induction d with
  | zero =>
    intro x acc h0 h1 _ ha
    have hx : ¬ x > 0 := by simp at h1; omega
    refine ⟨_, Ev.step (f := fun _ => some ((⟨#[109]⟩ : ByteArray) ++ acc)) (fun k => ?_) (Ev.now _)⟩
    simp only [laws_markText.l0]
    rw [if_neg hx, if_pos (by omega)]
  | succ d ih =>
    intro x acc h0 h1 h2 ha
    by_cases hx : x > 0
    · have e1 : Aside0 (wrap64 (Int.tdiv x 10) = x / 10) := ⟨by rw [Int.tdiv_eq_ediv_of_nonneg h0, wrap64_id (by omega) (by omega)]⟩
      have hp : ((10 ^ (d + 1) : Nat) : Int) = 10 * ((10 ^ d : Nat) : Int) := by rw [Nat.pow_succ]; omega
      rw [hp] at h1
      have hs : ∀ c : Int, (strOfNums [c]).size = 1 := fun c => by simp [strOfNums, ByteArray.size]
      generalize hst : strOfNums ([(wrap64 (48 + (Int.tmod x 10))) % 256] : List Int) = st
      have hst1 : st.size = 1 := by rw [← hst]; exact hs _
      obtain ⟨b, hb⟩ := ih (x / 10) (st ++ acc) (by omega) (by omega) (by omega) (by rw [ByteArray.size_append]; omega)
      refine ⟨b, Ev.step (fun k => ?_) hb⟩
      simp only [laws_markText.l0]
      rw [if_pos hx, Option.bind_some, hst, if_pos (by omega), e1.out]
    · refine ⟨_, Ev.step (f := fun _ => some ((⟨#[109]⟩ : ByteArray) ++ acc)) (fun k => ?_) (Ev.now _)⟩
      simp only [laws_markText.l0]
      rw [if_neg hx, if_pos (by omega)]
theorem mark_ex (x : Int) (h : x < 1000000000000000000) : ∃ b, Ev (fun k => laws_markText.f k x) b := by
  unfold laws_markText.f
  by_cases hx : x ≤ 0
  · simp only [if_pos hx]
    exact ⟨_, Ev.now _⟩
  · simp only [if_neg hx]
    exact mark_loop 18 x _ (by omega) (by simpa using h) (by omega) (by decide)
/-- The text that marks with a number. -/
noncomputable def mkT (x : Int) : ByteArray := Classical.epsilon fun b => Ev (fun k => laws_markText.f k x) b
theorem mark_text (x : Int) (h : x < 1000000000000000000) : Ev (fun k => laws_markText.f k x) (mkT x) := Classical.epsilon_spec (mark_ex x h)
theorem drop_getD {α : Type} (l : List α) (z : α) (i : Nat) (h : i < l.length) : l.drop i = l.getD i z :: l.drop (i + 1) := by
  rw [List.getD_eq_getElem?_getD, List.getElem?_eq_getElem h]
  exact List.drop_eq_getElem_cons h

theorem mark_cells_loop (d : Nat) : ∀ (l : List S111) (x : Int) (i : Nat), l.length ≤ 1048576 → l.length - i = d → i ≤ l.length → 0 ≤ x → x + 2 * (l.length - i : Nat) ≤ 1000000000 → ∃ l' : List S111, l'.length = l.length ∧ (∀ j, j < i → l'.getD j z111 = l.getD j z111) ∧ (∀ j, i ≤ j → j < l.length → l'.getD j z111 = ⟨mkT (x + 2 * ((j - i : Nat) : Int)), x + 2 * ((j - i : Nat) : Int) + 1⟩) ∧ Ev (fun k => laws_markCellS.l0 k l x (i : Int)) (x + 2 * ((l.length - i : Nat) : Int), l') := by
  induction d with
  | zero =>
    intro l x i hl hd hi h0 h1
    refine ⟨l, rfl, fun j _ => rfl, fun j h2 h3 => absurd h2 (by omega), ?_⟩
    have e : x + 2 * ((l.length - i : Nat) : Int) = x := by omega
    rw [e]
    refine Ev.step (f := fun _ => some (x, l)) (fun k => ?_) (Ev.now _)
    simp only [laws_markCellS.l0]
    rw [if_neg (by omega)]
  | succ d ih =>
    intro l x i hl hd hi h0 h1
    have e1 : Aside0 (wrap64 (x + 1) = x + 1) := ⟨wrap64_id (by omega) (by omega)⟩
    have e2 : Aside0 (wrap64 (x + 1 + 1) = x + 2) := ⟨by rw [wrap64_id (by omega) (by omega)]; omega⟩
    have e3 : Aside0 (wrap64 ((i : Int) + 1) = ((i + 1 : Nat) : Int)) := ⟨by rw [wrap64_id (by omega) (by omega)]; omega⟩
    obtain ⟨l', hl', ha, hb, hev⟩ := ih ((l.set i ⟨mkT x, (l.getD i z111).f1⟩).set i ⟨mkT x, x + 1⟩) (x + 2) (i + 1) (by simpa using hl) (by simp; omega) (by simp; omega) (by omega) (by simp; omega)
    simp only [List.length_set] at hl' hb hev
    refine ⟨l', hl', fun j hj => ?_, fun j h2 h3 => ?_, ?_⟩
    · rw [ha j (by omega)]
      simp only [List.getD_eq_getElem?_getD]
      rw [List.getElem?_set_ne (by omega), List.getElem?_set_ne (by omega)]
    · rcases Nat.eq_or_lt_of_le h2 with rfl | h
      · rw [ha _ (by omega), List.getD_eq_getElem?_getD, List.getElem?_set_self (by simpa using h3)]
        have : x + 2 * ((i - i : Nat) : Int) = x := by omega
        rw [this]
        rfl
      · have h4 := hb j (by omega) h3
        have : x + 2 + 2 * ((j - (i + 1) : Nat) : Int) = x + 2 * ((j - i : Nat) : Int) := by omega
        rw [this] at h4
        exact h4
    · have e : x + 2 + 2 * ((l.length - (i + 1) : Nat) : Int) = x + 2 * ((l.length - i : Nat) : Int) := by omega
      rw [e] at hev
      refine Ev.step (f := fun k => (laws_markText.f k x).bind fun t => laws_markCellS.l0 k ((l.set i ⟨t, (l.getD i z111).f1⟩).set i ⟨t, x + 1⟩) (x + 2) ((i + 1 : Nat) : Int)) (fun k => ?_) (Ev.bind (mark_text x (by omega)) hev)
      simp only [laws_markCellS.l0]
      rw [if_pos (by omega)]
      refine congrArg _ (funext fun t => ?_)
      have er : (rd_T111 (l.set i ⟨t, (l.getD i z111).f1⟩) (i : Int)).f0 = t := by
        show ((l.set i (⟨t, (l.getD i z111).f1⟩ : S111)).getD i z111).f0 = t
        rw [List.getD_eq_getElem?_getD, List.getElem?_set_self (by omega)]
        rfl
      rw [if_pos (by omega), Option.bind_some, e1.out, e2.out, e3.out]
      show laws_markCellS.l0 k ((l.set i ⟨t, (l.getD i z111).f1⟩).set i ⟨(rd_T111 (l.set i ⟨t, (l.getD i z111).f1⟩) (i : Int)).f0, x + 1⟩) (x + 2) ((i + 1 : Nat) : Int) = _
      rw [er]
/-- How the cells read once they are marked from a number on. -/
def MarkedC (l' : List S111) (n : Nat) (x : Int) : Prop := l'.length = n ∧ ∀ j, j < n → l'.getD j z111 = ⟨mkT (x + 2 * (j : Int)), x + 2 * (j : Int) + 1⟩
theorem mark_cells (l : List S111) (x : Int) (hl : l.length ≤ 1048576) (h0 : 0 ≤ x) (h1 : x ≤ 100000000) : ∃ l', MarkedC l' l.length x ∧ Ev (fun k => laws_markCellS.f k l x) (x + 2 * (l.length : Int), l') := by
  unfold laws_markCellS.f
  obtain ⟨l', h2, _, h3, h4⟩ := mark_cells_loop _ l x 0 hl rfl (Nat.zero_le _) h0 (by omega)
  exact ⟨l', ⟨h2, fun j hj => by simpa using h3 j (Nat.zero_le _) hj⟩, by simpa using h4⟩
theorem mark_table (c o : List S111) (mv x : Int) (hc : c.length ≤ 1048576) (ho : o.length ≤ 1048576) (h0 : 0 ≤ x) (h1 : x ≤ 10000000) : ∃ c' o', MarkedC c' c.length x ∧ MarkedC o' o.length (x + 2 * (c.length : Int)) ∧ Ev (fun k => laws_markTable.f k c o mv x) (x + 2 * (c.length : Int) + 2 * (o.length : Int), c', o') := by
  obtain ⟨c', m1, e1⟩ := mark_cells c x hc h0 (by omega)
  obtain ⟨o', m2, e2⟩ := mark_cells o (x + 2 * (c.length : Int)) ho (by omega) (by omega)
  refine ⟨c', o', m1, m2, ?_⟩
  unfold laws_markTable.f
  exact Ev.bind e1 (Ev.bind e2 (Ev.now _))

theorem held_cells_loop (l : List S111) (x : Int) (n : Nat) (hn : n ≤ 1048576) (h0 : 0 ≤ x) (h1 : x ≤ 100000000) (hm : MarkedC l n x) (d : Nat) : ∀ (i : Nat), n - i = d → i ≤ n → Ev (fun k => laws_heldCellS.l0 k l (x + 2 * (i : Int)) (i : Int)) (x + 2 * (n : Int)) := by
  have hl := hm.1
  induction d with
  | zero =>
    intro i hd hi
    have e : i = n := by omega
    subst e
    refine Ev.step (f := fun _ => some (x + 2 * (i : Int))) (fun k => ?_) (Ev.now _)
    simp only [laws_heldCellS.l0]
    rw [if_neg (by omega)]
  | succ d ih =>
    intro i hd hi
    have e1 : Aside0 (wrap64 (x + 2 * (i : Int) + 1) = x + 2 * (i : Int) + 1) := ⟨wrap64_id (by omega) (by omega)⟩
    have e2 : Aside0 (wrap64 (x + 2 * (i : Int) + 1 + 1) = x + 2 * ((i + 1 : Nat) : Int)) := ⟨by rw [wrap64_id (by omega) (by omega)]; omega⟩
    have e3 : Aside0 (wrap64 ((i : Int) + 1) = ((i + 1 : Nat) : Int)) := ⟨by rw [wrap64_id (by omega) (by omega)]; omega⟩
    have r0 : rd_T111 l (i : Int) = ⟨mkT (x + 2 * (i : Int)), x + 2 * (i : Int) + 1⟩ := hm.2 i (by omega)
    refine Ev.step (f := fun k => (laws_markText.f k (x + 2 * (i : Int))).bind fun t => if (mkT (x + 2 * (i : Int))).toList = t.toList then laws_heldCellS.l0 k l (x + 2 * ((i + 1 : Nat) : Int)) ((i + 1 : Nat) : Int) else some (-1)) (fun k => ?_) (Ev.bind (mark_text _ (by omega)) ?_)
    · simp only [laws_heldCellS.l0]
      rw [if_pos (by omega), if_pos (by omega), r0, e1.out, e2.out, e3.out]
      simp only [if_true]
    · simp only [if_true]
      exact ih (i + 1) (by omega) (by omega)
theorem held_cells (l : List S111) (n : Nat) (x : Int) (hn : n ≤ 1048576) (h0 : 0 ≤ x) (h1 : x ≤ 100000000) (hm : MarkedC l n x) : Ev (fun k => laws_heldCellS.f k l x) (x + 2 * (n : Int)) := by
  unfold laws_heldCellS.f
  simpa using held_cells_loop l x n hn h0 h1 hm _ 0 rfl (Nat.zero_le _)
theorem held_table (c o : List S111) (n m : Nat) (mv x : Int) (hn : n ≤ 1048576) (hm : m ≤ 1048576) (h0 : 0 ≤ x) (h1 : x ≤ 10000000) (h2 : MarkedC c n x) (h3 : MarkedC o m (x + 2 * (n : Int))) : Ev (fun k => laws_heldTable.f k c o mv x) (x + 2 * (n : Int) + 2 * (m : Int)) := by
  unfold laws_heldTable.f
  refine Ev.bind (held_cells c n x hn h0 (by omega) h2) ?_
  simp only [if_neg (show ¬ (x + 2 * (n : Int)) < 0 by omega)]
  refine Ev.bind (held_cells o m _ hm (by omega) (by omega) h3) ?_
  simp only [if_neg (show ¬ (x + 2 * (n : Int) + 2 * (m : Int)) < 0 by omega)]
  exact Ev.now _

def noneC : S111 := ⟨(⟨#[]⟩ : ByteArray), (-1)⟩
theorem impl_newCells_ev (n : Nat) (h1 : 1 ≤ n) (h2 : n ≤ 64) : impl_newCells.f (n : Int) = some (List.replicate n noneC) := by
  unfold impl_newCells.f impl_Cell.f
  have e : ([(⟨(⟨#[]⟩ : ByteArray), (-1)⟩ : S111)] : List S111).length = 1 := rfl
  rw [if_pos e, if_pos (by omega)]
  rfl
theorem spec_cells_loop (n : Nat) (hn : n ≤ 1048576) (d : Nat) : ∀ i : Nat, i + d = n → Ev (fun k => spec_l04Cells.l0 k (n : Int) (List.replicate i noneC) (i : Int)) (List.replicate n noneC) := by
  induction d with
  | zero =>
    intro i hi
    have e : i = n := by omega
    subst e
    refine Ev.step (f := fun _ => some (List.replicate i noneC)) (fun k => ?_) (Ev.now _)
    simp only [spec_l04Cells.l0]
    rw [if_neg (by omega)]
  | succ d ih =>
    intro i hi
    have e2 : Aside0 (wrap64 ((i : Int) + 1) = ((i + 1 : Nat) : Int)) := ⟨by rw [wrap64_id (by omega) (by omega)]; omega⟩
    have h := ih (i + 1) (by omega)
    rw [List.replicate_succ'] at h
    refine Ev.step (fun k => ?_) h
    simp only [spec_l04Cells.l0]
    rw [if_pos (by omega), if_pos (by simp; omega), e2.out]
    rfl
theorem spec_cells_ev (n : Nat) (hn : n ≤ 1048576) : Ev (fun k => spec_l04Cells.f k (n : Int)) (List.replicate n noneC) := by
  unfold spec_l04Cells.f
  exact spec_cells_loop n hn n 0 (by omega)

def SizeP (n : Nat) : Prop := n = 4 ∨ n = 8 ∨ n = 16 ∨ n = 32 ∨ n = 64
theorem impl_size (n : Nat) : impl_isSize.f (n : Int) = some (tr (SizeP n)) := by
  unfold impl_isSize.f
  by_cases h : SizeP n
  · rw [tr_true h]
    unfold SizeP at h
    rcases h with rfl | rfl | rfl | rfl | rfl <;> rfl
  · rw [tr_false h]
    unfold SizeP at h
    rw [if_neg (by omega), if_neg (by omega), if_neg (by omega), if_neg (by omega), if_neg (by omega)]
theorem spec_size (n : Nat) : spec_l04Size.f (n : Int) = some (tr (SizeP n)) := by
  unfold spec_l04Size.f
  by_cases h : SizeP n
  · rw [tr_true h]
    unfold SizeP at h
    rcases h with rfl | rfl | rfl | rfl | rfl <;> rfl
  · rw [tr_false h]
    unfold SizeP at h
    rw [if_neg (by omega), if_neg (by omega), if_neg (by omega), if_neg (by omega)]
    have : ¬ (n : Int) = 64 := by omega
    simp [this]

abbrev TV := List S111 × List S111 × Int × Bool
def badV : TV := ([], [], 0, false)
theorem size_le {n : Nat} (h : SizeP n) : 4 ≤ n ∧ n ≤ 64 := by unfold SizeP at h; omega

noncomputable def newV (n : Int) : TV := if tr (0 ≤ n ∧ SizeP n.toNat) = true then (List.replicate n.toNat noneC, [], 0, true) else badV
theorem size_neg (n : Int) (h : ¬ 0 ≤ n) : impl_isSize.f n = some false ∧ spec_l04Size.f n = some false := by
  unfold impl_isSize.f spec_l04Size.f
  rw [if_neg (by omega), if_neg (by omega), if_neg (by omega), if_neg (by omega), if_neg (by omega), if_neg (by omega), if_neg (by omega), if_neg (by omega), if_neg (by omega)]
  refine ⟨rfl, ?_⟩
  have : ¬ n = 64 := by omega
  simp [this]
theorem impl_New_ev (n : Int) : impl_TableNew.f n = some (newV n) := by
  unfold impl_TableNew.f newV
  by_cases h0 : 0 ≤ n
  · obtain ⟨m, rfl⟩ := Int.eq_ofNat_of_zero_le h0
    rw [impl_size, Option.bind_some]
    by_cases h : SizeP m
    · have := size_le h
      rw [tr_true h, if_pos rfl, impl_newCells_ev m (by omega) (by omega), Option.bind_some, tr_true ⟨h0, h⟩]
      rfl
    · rw [tr_false h, if_neg (by simp), tr_false (fun z => h z.2)]
      rfl
  · rw [(size_neg n h0).1, Option.bind_some, if_neg (by simp), tr_false (fun z => h0 z.1)]
    rfl
theorem spec_New_ev (n : Int) : Ev (fun k => spec_TableNew.f k n) (newV n) := by
  unfold spec_TableNew.f newV
  by_cases h0 : 0 ≤ n
  · obtain ⟨m, rfl⟩ := Int.eq_ofNat_of_zero_le h0
    simp only [spec_size, Option.bind_some]
    by_cases h : SizeP m
    · have := size_le h
      simp only [tr_true h, if_true, tr_true (p := 0 ≤ (m : Int) ∧ SizeP (m : Int).toNat) ⟨h0, h⟩]
      exact Ev.bind (spec_cells_ev m (by omega)) (Ev.now _)
    · simp only [tr_false h, tr_false (p := 0 ≤ (m : Int) ∧ SizeP (m : Int).toNat) (fun z => h z.2)]
      exact Ev.now _
  · simp only [(size_neg n h0).2, Option.bind_some, tr_false (p := 0 ≤ n ∧ SizeP n.toNat) (fun z => h0 z.1)]
    exact Ev.now _
theorem newV_len (n : Int) : (newV n).1.length ≤ 1048576 ∧ (newV n).2.1.length ≤ 1048576 := by
  unfold newV
  by_cases h : 0 ≤ n ∧ SizeP n.toNat
  · have := size_le h.2
    rw [tr_true h]
    simp
    omega
  · rw [tr_false h]
    exact ⟨Nat.zero_le _, Nat.zero_le _⟩
theorem FnExactTableNew : laws_FnExactTableNew.Pure := by
  intro n hn
  refine Ev.rounds ?_
  unfold laws_FnExactTableNew.f
  have hS := spec_New_ev n
  have hI := impl_New_ev n
  obtain ⟨l1, l2⟩ := newV_len n
  generalize newV n = V at hS hI l1 l2
  obtain ⟨c', o', mv', b⟩ := V
  simp only at l1 l2
  have hE := eq_table c' o' mv' l1 l2
  obtain ⟨nc, no, m1, m2, hM⟩ := mark_table c' o' mv' 1 l1 l2 (by omega) (by omega)
  have hH := held_table nc no c'.length o'.length mv' 1 l1 l2 (by omega) (by omega) m1 m2
  have n0 : ¬ (1 + 2 * (c'.length : Int) + 2 * (o'.length : Int)) < 0 := by omega
  refine Ev.bind hS ?_
  simp only [hI, Option.bind_some]
  refine Ev.bind hE ?_
  simp only [if_true, bne_self_eq_false]
  refine Ev.step (f := fun k => (laws_markTable.f k c' o' mv' 1).bind fun bt168 => ((laws_heldTable.f k bt168.2.1 bt168.2.2 mv' 1).bind fun t171 => (if t171 < 0 then (some false) else (if t171 = bt168.1 then ((some (c', o', mv', b)).bind fun bt172 => ((laws_eqTable.f k bt172.1 bt172.2.1 bt172.2.2.1 c' o' mv').bind fun t181 => (if t181 = true then (laws_FnExactTableNew.j1 k bt168.1 (bt172.2.2.2 != b) bt168.2.1 bt168.2.2 mv') else (laws_FnExactTableNew.j1 k bt168.1 true bt168.2.1 bt168.2.2 mv')))) else (some false))))) (fun k => ?_) (Ev.bind hM (Ev.bind hH ?_))
  · simp only [laws_FnExactTableNew.j0, hI]
    rw [if_neg (by simp)]
  · simp only [if_neg n0, if_true, Option.bind_some]
    refine Ev.bind hE ?_
    simp only [if_true, bne_self_eq_false]
    refine Ev.step (f := fun k => (laws_heldTable.f k nc no mv' 1).bind fun t182 => (if t182 < 0 then (some false) else (if t182 = 1 + 2 * (c'.length : Int) + 2 * (o'.length : Int) then (some true) else (some false)))) (fun k => ?_) (Ev.bind hH ?_)
    · simp only [laws_FnExactTableNew.j1]
      rw [if_neg (by simp)]
    · simp only [if_neg n0, if_true]
      exact Ev.now _

end Go.Proofs.Ytcoboobnpmaahaa.Pure
