/- What the row of the law needs of the printed and the plain texts. -/
import Derived.Test.YtomcapflpephmaaZgHFnExactLiftx9
import Derived.Test.YtomcapflpephmaaZgMath
set_option linter.unusedSimpArgs false
set_option linter.unusedVariables false
namespace Go.Proofs.Ytomcapflpephmaa.Pure
open Go.RowKit Go.Proofs.Ytomcapflpephmaa.HFnExactLift Go.Proofs.YtomcapflpephmaaW.PrintWords Go.Proofs.YtomcapflpephmaaW.PrintLast Go.Proofs.Ytomcapflpephmaa.Math
theorem eq_slots_loop (l : List S50) (hl : l.length ≤ 1048576) (d : Nat) : ∀ (i : Nat), l.length - i = d → Ev (fun k => laws_eqSlotS.l0 k l l (i : Int)) true := by
  induction d with
  | zero =>
    intro i hd
    refine Ev.step (f := fun _ => some true) (fun k => ?_) (Ev.now _)
    simp only [laws_eqSlotS.l0]
    rw [if_neg (by omega)]
  | succ d ih =>
    intro i hd
    have e : ∀ x : S50, laws_eqSlot.f x.f0 x.f1 x.f2 x.f3 x.f4 x.f0 x.f1 x.f2 x.f3 x.f4 = some true := fun x => by simp [laws_eqSlot.f]
    refine Ev.step (fun k => ?_) (ih (i + 1) (by omega))
    simp only [laws_eqSlotS.l0]
    rw [if_pos (by omega), if_pos (by omega), if_pos (by omega), e, Option.bind_some, if_pos rfl, wrap64_id (by omega) (by omega)]
    rfl
theorem eq_arena (l : List S50) (a : Int) (hl : l.length ≤ 1048576) : Ev (fun k => laws_eqArena.f k l a l a) true := by
  unfold laws_eqArena.f laws_eqSlotS.f
  simp only [if_true]
  refine Ev.bind (eq_slots_loop l hl _ 0 rfl) ?_
  simp only [if_true]
  exact Ev.now _
def toS (x : S83) : S50 := ⟨x.f0, x.f1, x.f2, x.f3, x.f4⟩
theorem map_getD (l : List S83) (i : Nat) (h : i < l.length) : (l.map toS).getD i z50 = toS (l.getD i z83) := by
  simp [List.getD_eq_getElem?_getD, List.getElem?_eq_getElem h]
theorem to_slots_loop (l : List S83) (hl : l.length ≤ 1048576) (d : Nat) : ∀ (x : List S50) (i : Nat), l.length - i = d → i ≤ l.length → x.length = l.length → x.take i = (l.map toS).take i → Ev (fun k => laws_toSlotS.l0 k l x (i : Int)) (l.map toS) := by
  induction d with
  | zero =>
    intro x i hd hi hx ht
    have e : x = l.map toS := take_all (by simpa using hx) (by rw [List.length_map, show l.length = i by omega]; exact ht)
    refine Ev.step (f := fun _ => some x) (fun k => ?_) (by rw [e]; exact Ev.now _)
    simp only [laws_toSlotS.l0]
    rw [if_neg (by omega)]
  | succ d ih =>
    intro x i hd hi hx ht
    have h := ih (x.set i ((l.map toS).getD i z50)) (i + 1) (by omega) (by omega) (by simp [hx]) (set_take (l.map toS) x z50 i (by simp; omega) (by simpa using hx) ht)
    rw [map_getD l i (by omega)] at h
    refine Ev.step (fun k => ?_) h
    simp only [laws_toSlotS.l0, laws_toSlot.f, Option.bind_some]
    rw [if_pos (by omega), if_pos (by omega), if_pos (by omega), wrap64_id (by omega) (by omega)]
    rfl
theorem to_slots (l : List S83) (hl : l.length ≤ 1048576) : Ev (fun k => laws_toSlotS.f k l) (l.map toS) := by
  unfold laws_toSlotS.f
  have e : ((l.length : Int)).toNat = l.length := by omega
  simp only [e, if_pos (show 0 ≤ (l.length : Int) by omega), if_pos (show l.length ≤ 5026338869833 by omega)]
  exact to_slots_loop l hl _ _ 0 rfl (by omega) (by simp) (by simp)
theorem to_arena (l : List S83) (a : Int) (hl : l.length ≤ 1048576) : Ev (fun k => laws_toArena.f k l a) (l.map toS, a) := by
  unfold laws_toArena.f
  exact Ev.bind (to_slots l hl) (Ev.now _)
def SlotWf (x : S83) : Prop := (Lit.int .i64 x.f0).wf = true ∧ True ∧ x.f2.size ≤ maxLen ∧ x.f3.size ≤ maxLen ∧ (Lit.int .i64 x.f4).wf = true
theorem sz_slots_loop (l : List S83) (hw : ∀ y ∈ l, SlotWf y) (hl : l.length ≤ 1048576) (d : Nat) : ∀ (left : Int) (i : Nat), l.length - i = d → 0 ≤ left → left ≤ 1048576 → ∃ r, Ev (fun k => laws_szSlotS.l0 k l left (i : Int)) r := by
  induction d with
  | zero =>
    intro left i hd h0 h1
    refine ⟨left, Ev.step (f := fun _ => some left) (fun k => ?_) (Ev.now _)⟩
    simp only [laws_szSlotS.l0]
    rw [if_neg (by omega)]
  | succ d ih =>
    intro left i hd h0 h1
    obtain ⟨_, _, hk, hv, _⟩ := hw _ (getD_mem l z83 i (by omega))
    unfold maxLen at hk hv
    have er : rd_T83 l (i : Int) = l.getD i z83 := rfl
    generalize l.getD i z83 = x at hk hv er
    have e1 : Aside0 (wrap64 (left - (x.f2.size : Int)) = left - (x.f2.size : Int)) := ⟨wrap64_id (by omega) (by omega)⟩
    have ei : Aside0 (wrap64 ((i : Int) + 1) = ((i + 1 : Nat) : Int)) := ⟨by rw [wrap64_id (by omega) (by omega)]; omega⟩
    have hsz : ∃ t, laws_szSlot.f x.f0 x.f1 x.f2 x.f3 x.f4 left = some t ∧ t ≤ 1048576 := by
      unfold laws_szSlot.f
      by_cases ha : left - (x.f2.size : Int) < 0
      · exact ⟨-1, by rw [e1.out, if_pos ha], by omega⟩
      · have e2 : Aside0 (wrap64 (left - (x.f2.size : Int) - (x.f3.size : Int)) = left - (x.f2.size : Int) - (x.f3.size : Int)) := ⟨wrap64_id (by omega) (by omega)⟩
        by_cases hb : left - (x.f2.size : Int) - (x.f3.size : Int) < 0
        · exact ⟨-1, by rw [e1.out, if_neg ha, e2.out, if_pos hb], by omega⟩
        · exact ⟨_, by rw [e1.out, if_neg ha, e2.out, if_neg hb], by omega⟩
    obtain ⟨t, ht, ht1⟩ := hsz
    by_cases h : t < 0
    · refine ⟨-1, Ev.step (f := fun _ => some (-1)) (fun k => ?_) (Ev.now _)⟩
      simp only [laws_szSlotS.l0]
      rw [if_pos (by omega), if_pos (by omega), er, ht, Option.bind_some, if_pos h]
    · obtain ⟨r, hr⟩ := ih t (i + 1) (by omega) (by omega) (by omega)
      refine ⟨r, Ev.step (fun k => ?_) hr⟩
      simp only [laws_szSlotS.l0]
      rw [if_pos (by omega), if_pos (by omega), er, ht, Option.bind_some, if_neg h, ei.out]
theorem sz_arena (l : List S83) (a : Int) (hl : l.length ≤ maxLen ∧ ∀ y ∈ l, SlotWf y) : ∃ r, Ev (fun k => laws_szArena.f k l a 1048576) r ∧ (0 ≤ r → l.length ≤ 1048576) := by
  obtain ⟨hl, hw⟩ := hl
  unfold maxLen at hl
  unfold laws_szArena.f laws_szSlotS.f
  have e1 : wrap64 ((1048576 : Int) - (l.length : Int)) = 1048576 - (l.length : Int) := wrap64_id (by omega) (by omega)
  simp only [e1]
  by_cases h : (1048576 : Int) - (l.length : Int) < 0
  · simp only [if_pos h, Option.bind_some]
    exact ⟨-1, by simp; exact Ev.now _, by omega⟩
  · simp only [if_neg h]
    obtain ⟨r, hr⟩ := sz_slots_loop l hw (by omega) _ (1048576 - (l.length : Int)) 0 rfl (by omega) (by omega)
    by_cases h0 : r < 0
    · refine ⟨-1, Ev.bind hr ?_, by omega⟩
      simp only [if_pos h0]
      exact Ev.now _
    · refine ⟨r, Ev.bind hr ?_, by omega⟩
      simp only [if_neg h0]
      exact Ev.now _
theorem spec_in (a b c : Int) : spec_l01In.f a b c = some (decide (b ≤ a ∧ a ≤ c)) := by
  unfold spec_l01In.f
  by_cases h : a ≥ b
  · rw [if_pos h]
    simp [h]
  · rw [if_neg h]
    have : ¬ (b ≤ a ∧ a ≤ c) := fun z => h z.1
    simp [this]
theorem impl_in (a b c : Int) : impl_inRange.f a b c = some (decide (b ≤ a ∧ a ≤ c)) := by
  unfold impl_inRange.f
  by_cases h : a ≥ b
  · rw [if_pos h]
    simp [h]
  · rw [if_neg h]
    have : ¬ (b ≤ a ∧ a ≤ c) := fun z => h z.1
    simp [this]
def sl (l : List S50) (j : Nat) : S50 := l.getD j z50
theorem rd_sl (l : List S50) (j : Nat) : rd_T50 l (j : Int) = sl l j := rfl
def SlotRight (x : S50) : Prop := (0 ≤ x.f0 ∧ x.f0 ≤ 41666665) ∧ (if x.f1 = true then (1 ≤ (x.f2.size : Int) ∧ (x.f2.size : Int) ≤ 12) ∧ (x.f3.size : Int) ≤ 20 ∧ x.f4 = 0 else x.f2.toList = [] ∧ x.f3.toList = [])
def MarkInv (l : List S50) (m : List Bool) (at_ : Int) : Prop :=
  m.length = l.length ∧ (∀ j, m.getD j false = true → (sl l j).f1 = false) ∧ ∀ j, m.getD j false = true → (sl l j).f4 = at_ ∨ ∃ q : Nat, (sl l j).f4 = (q : Int) ∧ m.getD q false = true
theorem mark_lt {l : List Bool} {j : Nat} (h : l.getD j false = true) : j < l.length := by
  rcases Nat.lt_or_ge j l.length with hj | hj
  · exact hj
  · rw [List.getD_eq_getElem?_getD, List.getElem?_eq_none hj] at h
    cases h
theorem chain_ring (l : List S50) (fr : Int) (hl : l.length ≤ 1048576) (m : List Bool) (hm : m.length = l.length) (hu : ∀ j, m.getD j false = true → (sl l j).f1 = false) (hc : ∀ j, m.getD j false = true → ∃ q : Nat, (sl l j).f4 = (q : Int) ∧ m.getD q false = true) (d : Nat) :
    ∀ (c at_ : Nat), c + d = l.length → m.getD at_ false = true → Ev (fun k => impl_Arena_chain.l0 k (c : Int) (at_ : Int) l fr) (-1) := by
  induction d with
  | zero =>
    intro c at_ hcd ha
    have hlt := mark_lt ha
    have hu' := hu at_ ha
    refine Ev.step (f := fun _ => some (-1)) (fun k => ?_) (Ev.now _)
    simp only [impl_Arena_chain.l0]
    rw [if_neg (by omega), impl_in, wrap64_id (by omega) (by omega), decide_eq_true (by omega), Option.bind_some, if_pos rfl, if_pos (by omega), if_pos (by omega), rd_sl, if_neg (by rw [hu']; simp), if_pos (by omega)]
  | succ d ih =>
    intro c at_ hcd ha
    have hlt := mark_lt ha
    have hu' := hu at_ ha
    obtain ⟨q, hq, hmq⟩ := hc at_ ha
    refine Ev.step (fun k => ?_) (ih (c + 1) q (by omega) hmq)
    simp only [impl_Arena_chain.l0]
    rw [if_neg (by omega), impl_in, wrap64_id (x := (l.length : Int) - 1) (by omega) (by omega), decide_eq_true (by omega), Option.bind_some, if_pos rfl, if_pos (by omega), if_pos (by omega), rd_sl, if_neg (by rw [hu']; simp), if_neg (by omega), hq, wrap64_id (by omega) (by omega)]
    rfl
theorem chain_both (l : List S50) (fr : Int) (hl : l.length ≤ 1048576) (h0 : 0 < l.length) (d : Nat) : ∀ (m : List Bool) (c : Nat) (at_ : Int), m.count true = c → c + d = l.length → MarkInv l m at_ →
    (∃ m', m'.length = l.length ∧ (∀ j, m'.getD j false = true → (sl l j).f1 = false) ∧ (∀ r, Ev (fun k => spec_ArenaOk.l1 k (l.length : Int) m' 0 l fr) r → Ev (fun k => spec_ArenaOk.l0 k (l.length : Int) m at_ l fr) r) ∧ Ev (fun k => impl_Arena_chain.l0 k (c : Int) at_ l fr) ((m'.count true : Nat) : Int)) ∨
    (Ev (fun k => spec_ArenaOk.l0 k (l.length : Int) m at_ l fr) false ∧ Ev (fun k => impl_Arena_chain.l0 k (c : Int) at_ l fr) (-1)) := by
  induction d with
  | zero =>
    intro m c at_ hc hcd hi
    by_cases ha : at_ = -1
    · subst ha
      refine .inl ⟨m, hi.1, hi.2.1, fun r hr => Ev.step (fun k => ?_) hr, ?_⟩
      · simp only [spec_ArenaOk.l0]
        rw [if_pos trivial]
      · rw [hc]
        refine Ev.step (f := fun _ => some (c : Int)) (fun k => ?_) (Ev.now _)
        simp only [impl_Arena_chain.l0]
        rw [if_pos trivial]
    · have ew : wrap64 ((l.length : Int) - 1) = (l.length : Int) - 1 := wrap64_id (by omega) (by omega)
      by_cases hr : 0 ≤ at_ ∧ at_ ≤ (l.length : Int) - 1
      · obtain ⟨p, rfl⟩ := Int.eq_ofNat_of_zero_le hr.1
        have hml := hi.1
        have hall : m.getD p false = true := by
          have h1 : m.count true = m.length := by omega
          have h2 := List.count_eq_length.1 h1
          rw [List.getD_eq_getElem?_getD, List.getElem?_eq_getElem (show p < m.length by omega)]
          exact (h2 _ (List.getElem_mem _)).symm
        have hu := hi.2.1 p hall
        refine .inr ⟨?_, ?_⟩
        · refine Ev.step (f := fun _ => some false) (fun k => ?_) (Ev.now _)
          simp only [spec_ArenaOk.l0]
          have er : rdOf false m (p : Int) = m.getD p false := rfl
          rw [if_neg ha, spec_in, ew, decide_eq_true hr, Option.bind_some, if_pos rfl, if_pos (by omega), if_pos (by omega), er, if_pos hall]
        · refine Ev.step (f := fun _ => some (-1)) (fun k => ?_) (Ev.now _)
          simp only [impl_Arena_chain.l0]
          rw [if_neg ha, impl_in, ew, decide_eq_true hr, Option.bind_some, if_pos rfl, if_pos (by omega), if_pos (by omega), rd_sl, if_neg (by rw [hu]; simp), if_pos (by omega)]
      · refine .inr ⟨?_, ?_⟩
        · refine Ev.step (f := fun _ => some false) (fun k => ?_) (Ev.now _)
          simp only [spec_ArenaOk.l0]
          rw [if_neg ha, spec_in, ew, decide_eq_false hr, Option.bind_some, if_neg (by simp)]
        · refine Ev.step (f := fun _ => some (-1)) (fun k => ?_) (Ev.now _)
          simp only [impl_Arena_chain.l0]
          rw [if_neg ha, impl_in, ew, decide_eq_false hr, Option.bind_some, if_neg (by simp)]
  | succ d ih =>
    intro m c at_ hc hcd hi
    by_cases ha : at_ = -1
    · subst ha
      refine .inl ⟨m, hi.1, hi.2.1, fun r hr => Ev.step (fun k => ?_) hr, ?_⟩
      · simp only [spec_ArenaOk.l0]
        rw [if_pos trivial]
      · rw [hc]
        refine Ev.step (f := fun _ => some (c : Int)) (fun k => ?_) (Ev.now _)
        simp only [impl_Arena_chain.l0]
        rw [if_pos trivial]
    · have ew : wrap64 ((l.length : Int) - 1) = (l.length : Int) - 1 := wrap64_id (by omega) (by omega)
      by_cases hr : 0 ≤ at_ ∧ at_ ≤ (l.length : Int) - 1
      · obtain ⟨p, rfl⟩ := Int.eq_ofNat_of_zero_le hr.1
        have hml := hi.1
        have er : rdOf false m (p : Int) = m.getD p false := rfl
        cases hmk : m.getD p false with
        | true =>
          refine .inr ⟨?_, chain_ring l fr hl m hi.1 hi.2.1 (fun j hj => ?_) (d + 1) c p hcd hmk⟩
          · refine Ev.step (f := fun _ => some false) (fun k => ?_) (Ev.now _)
            simp only [spec_ArenaOk.l0]
            rw [if_neg ha, spec_in, ew, decide_eq_true hr, Option.bind_some, if_pos rfl, if_pos (by omega), if_pos (by omega), er, if_pos hmk]
          · rcases hi.2.2 j hj with h | h
            · exact ⟨p, h, hmk⟩
            · exact h
        | false =>
          cases hus : (sl l p).f1 with
          | true =>
            refine .inr ⟨?_, ?_⟩
            · refine Ev.step (f := fun _ => some false) (fun k => ?_) (Ev.now _)
              simp only [spec_ArenaOk.l0]
              rw [if_neg ha, spec_in, ew, decide_eq_true hr, Option.bind_some, if_pos rfl, if_pos (by omega), if_pos (by omega), er, if_neg (by rw [hmk]; simp), if_pos (by omega), rd_sl, if_pos hus]
            · refine Ev.step (f := fun _ => some (-1)) (fun k => ?_) (Ev.now _)
              simp only [impl_Arena_chain.l0]
              rw [if_neg ha, impl_in, ew, decide_eq_true hr, Option.bind_some, if_pos rfl, if_pos (by omega), if_pos (by omega), rd_sl, if_pos hus]
          | false =>
            have hset : ∀ j, (m.set p true).getD j false = true ↔ j = p ∨ m.getD j false = true := by
              intro j
              rw [List.getD_eq_getElem?_getD, List.getD_eq_getElem?_getD, List.getElem?_set]
              by_cases hj : p = j
              · subst hj
                simp [show p < m.length by omega]
              · simp [hj, Ne.symm hj]
            have hi' : MarkInv l (m.set p true) (sl l p).f4 := by
              refine ⟨by simpa using hi.1, fun j hj => ?_, fun j hj => ?_⟩
              · rcases (hset j).1 hj with rfl | h
                · exact hus
                · exact hi.2.1 j h
              · rcases (hset j).1 hj with rfl | h
                · exact .inl rfl
                · rcases hi.2.2 j h with h | ⟨q, h1, h2⟩
                  · exact .inr ⟨p, h, (hset p).2 (.inl rfl)⟩
                  · exact .inr ⟨q, h1, (hset q).2 (.inr h2)⟩
            have hcount := count_set m p (by omega) hmk
            have hspec : ∀ r, Ev (fun k => spec_ArenaOk.l0 k (l.length : Int) (m.set p true) (sl l p).f4 l fr) r → Ev (fun k => spec_ArenaOk.l0 k (l.length : Int) m (p : Int) l fr) r := fun r h => by
              refine Ev.step (fun k => ?_) h
              simp only [spec_ArenaOk.l0]
              rw [if_neg ha, spec_in, ew, decide_eq_true hr, Option.bind_some, if_pos rfl, if_pos (by omega), if_pos (by omega), er, if_neg (by rw [hmk]; simp), if_pos (by omega), rd_sl, if_neg (by rw [hus]; simp)]
              rfl
            have himpl : ∀ r, Ev (fun k => impl_Arena_chain.l0 k ((c + 1 : Nat) : Int) (sl l p).f4 l fr) r → Ev (fun k => impl_Arena_chain.l0 k (c : Int) (p : Int) l fr) r := fun r h => by
              refine Ev.step (fun k => ?_) h
              simp only [impl_Arena_chain.l0]
              rw [if_neg ha, impl_in, ew, decide_eq_true hr, Option.bind_some, if_pos rfl, if_pos (by omega), if_pos (by omega), rd_sl, if_neg (by rw [hus]; simp), if_neg (by omega), wrap64_id (by omega) (by omega)]
              rfl
            rcases ih (m.set p true) (c + 1) (sl l p).f4 (by omega) (by omega) hi' with ⟨m', h1, h2, h3, h4⟩ | ⟨h1, h2⟩
            · exact .inl ⟨m', h1, h2, fun r hr => hspec r (h3 r hr), himpl _ h4⟩
            · exact .inr ⟨hspec _ h1, himpl _ h2⟩
      · refine .inr ⟨?_, ?_⟩
        · refine Ev.step (f := fun _ => some false) (fun k => ?_) (Ev.now _)
          simp only [spec_ArenaOk.l0]
          rw [if_neg ha, spec_in, ew, decide_eq_false hr, Option.bind_some, if_neg (by simp)]
        · refine Ev.step (f := fun _ => some (-1)) (fun k => ?_) (Ev.now _)
          simp only [impl_Arena_chain.l0]
          rw [if_neg ha, impl_in, ew, decide_eq_false hr, Option.bind_some, if_neg (by simp)]
theorem spec_look_loop (l : List S50) (fr : Int) (hl : l.length ≤ 1048576) (m : List Bool) (hm : m.length = l.length) (d : Nat) : ∀ i : Nat, l.length - i = d →
    Ev (fun k => spec_ArenaOk.l1 k (l.length : Int) m (i : Int) l fr) (tr (∀ j, i ≤ j → j < l.length → SlotRight (sl l j) ∧ (sl l j).f1 = !(m.getD j false))) := by
  induction d with
  | zero =>
    intro i hd
    rw [tr_true (fun j h1 h2 => by omega)]
    refine Ev.step (f := fun _ => some true) (fun k => ?_) (Ev.now _)
    simp only [spec_ArenaOk.l1]
    rw [if_neg (by omega)]
  | succ d ih =>
    intro i hd
    have hlt : i < l.length := by omega
    have hall := all_from (P := fun j => SlotRight (sl l j) ∧ (sl l j).f1 = !(m.getD j false)) hlt
    have er : rdOf false m (i : Int) = m.getD i false := rfl
    have e2 : Aside0 (wrap64 ((i : Int) + 1) = ((i + 1 : Nat) : Int)) := ⟨by rw [wrap64_id (by omega) (by omega)]; omega⟩
    have hno : ∀ {b : Bool}, ¬ (SlotRight (sl l i) ∧ (sl l i).f1 = !(m.getD i false)) → tr (∀ j, i ≤ j → j < l.length → SlotRight (sl l j) ∧ (sl l j).f1 = !(m.getD j false)) = false := fun h => tr_false (fun z => h (hall.1 z).1)
    have hyes : (SlotRight (sl l i) ∧ (sl l i).f1 = !(m.getD i false)) → tr (∀ j, i ≤ j → j < l.length → SlotRight (sl l j) ∧ (sl l j).f1 = !(m.getD j false)) = tr (∀ j, i + 1 ≤ j → j < l.length → SlotRight (sl l j) ∧ (sl l j).f1 = !(m.getD j false)) := fun h => tr_congr (hall.trans ⟨fun z => z.2, fun z => ⟨h, z⟩⟩)
    by_cases hg : 0 ≤ (sl l i).f0 ∧ (sl l i).f0 ≤ 41666665
    · refine Ev.step (f := fun k => spec_ArenaOk.j2 k (l.length : Int) m (i : Int) ((sl l i).f1 == m.getD i false) l fr (sl l i).f0 (sl l i).f1 (sl l i).f2 (sl l i).f3 (sl l i).f4) (fun k => ?_) ?_
      · simp only [spec_ArenaOk.l1]
        rw [if_pos (by omega), if_pos (by omega), if_pos (by omega), rd_sl, spec_in, decide_eq_true hg, Option.bind_some, if_pos rfl, if_pos (by omega), er]
      · by_cases hmk : ((sl l i).f1 == m.getD i false) = true
        · rw [hno (b := true) (fun h => by
            have h2 := h.2
            rw [eq_of_beq hmk] at h2
            cases m.getD i false <;> simp at h2)]
          refine Ev.step (f := fun _ => some false) (fun k => ?_) (Ev.now _)
          simp only [spec_ArenaOk.j2]
          rw [if_pos hmk]
        · have hmk' : (sl l i).f1 = !(m.getD i false) := by
            cases h1 : (sl l i).f1 <;> cases h2 : m.getD i false <;> rw [h1, h2] at hmk <;> simp at hmk ⊢
          cases hus : (sl l i).f1 with
          | true =>
            rw [hus] at hmk
            by_cases hk : 1 ≤ ((sl l i).f2.size : Int) ∧ ((sl l i).f2.size : Int) ≤ 12
            · by_cases hv : ((sl l i).f3.size : Int) > 20
              · rw [hno (b := true) (fun h => by
                  have h1 := h.1.2
                  rw [if_pos hus] at h1
                  omega)]
                refine Ev.step (f := fun _ => some false) (fun k => ?_) (Ev.now _)
                simp only [spec_ArenaOk.j2]
                rw [if_neg hmk, if_pos trivial, spec_in, decide_eq_true hk, Option.bind_some, if_pos rfl, if_pos hv]
              · by_cases hx : (sl l i).f4 = 0
                · rw [hyes ⟨⟨hg, by rw [if_pos hus]; exact ⟨hk, by omega, hx⟩⟩, hmk'⟩]
                  refine Ev.step (fun k => ?_) (ih (i + 1) (by omega))
                  simp only [spec_ArenaOk.j2]
                  rw [if_neg hmk, if_pos trivial, spec_in, decide_eq_true hk, Option.bind_some, if_pos rfl, if_neg hv, if_pos hx, e2.out]
                · rw [hno (b := true) (fun h => by
                    have h1 := h.1.2
                    rw [if_pos hus] at h1
                    exact hx h1.2.2)]
                  refine Ev.step (f := fun _ => some false) (fun k => ?_) (Ev.now _)
                  simp only [spec_ArenaOk.j2]
                  rw [if_neg hmk, if_pos trivial, spec_in, decide_eq_true hk, Option.bind_some, if_pos rfl, if_neg hv, if_neg hx]
            · rw [hno (b := true) (fun h => by
                have h1 := h.1.2
                rw [if_pos hus] at h1
                exact hk h1.1)]
              refine Ev.step (f := fun _ => some false) (fun k => ?_) (Ev.now _)
              simp only [spec_ArenaOk.j2]
              rw [if_neg hmk, if_pos trivial, spec_in, decide_eq_false hk, Option.bind_some, if_neg (by simp)]
          | false =>
            rw [hus] at hmk
            by_cases hk : (sl l i).f2.toList = ([] : List UInt8)
            · by_cases hv : (sl l i).f3.toList = ([] : List UInt8)
              · rw [hyes ⟨⟨hg, by rw [if_neg (by rw [hus]; simp)]; exact ⟨hk, hv⟩⟩, hmk'⟩]
                refine Ev.step (fun k => ?_) (ih (i + 1) (by omega))
                simp only [spec_ArenaOk.j2]
                rw [if_neg hmk, if_neg (by simp), if_pos hk, if_pos hv, e2.out]
              · rw [hno (b := true) (fun h => by
                  have h1 := h.1.2
                  rw [if_neg (by rw [hus]; simp)] at h1
                  exact hv h1.2)]
                refine Ev.step (f := fun _ => some false) (fun k => ?_) (Ev.now _)
                simp only [spec_ArenaOk.j2]
                rw [if_neg hmk, if_neg (by simp), if_pos hk, if_neg hv]
            · rw [hno (b := true) (fun h => by
                have h1 := h.1.2
                rw [if_neg (by rw [hus]; simp)] at h1
                exact hk h1.1)]
              refine Ev.step (f := fun _ => some false) (fun k => ?_) (Ev.now _)
              simp only [spec_ArenaOk.j2]
              rw [if_neg hmk, if_neg (by simp), if_neg hk]
    · rw [hno (b := true) (fun h => hg h.1.1)]
      refine Ev.step (f := fun k => spec_ArenaOk.j2 k (l.length : Int) m (i : Int) true l fr (sl l i).f0 (sl l i).f1 (sl l i).f2 (sl l i).f3 (sl l i).f4) (fun k => ?_) (Ev.step (f := fun _ => some false) (fun k => ?_) (Ev.now _))
      · simp only [spec_ArenaOk.l1]
        rw [if_pos (by omega), if_pos (by omega), if_pos (by omega), rd_sl, spec_in, decide_eq_false hg, Option.bind_some, if_neg (by simp)]
      · simp only [spec_ArenaOk.j2]
        rw [if_pos trivial]
theorem impl_slot (x : S50) : impl_slotOk.f x.f0 x.f1 x.f2 x.f3 x.f4 = some (tr (SlotRight x)) := by
  unfold impl_slotOk.f impl_isKey.f
  rw [impl_in]
  by_cases hg : 0 ≤ x.f0 ∧ x.f0 ≤ 41666665
  · rw [decide_eq_true hg, Option.bind_some, if_pos rfl]
    cases hus : x.f1 with
    | true =>
      rw [if_pos rfl, impl_in]
      simp only [Option.bind_some]
      by_cases hk : 1 ≤ (x.f2.size : Int) ∧ (x.f2.size : Int) ≤ 12
      · rw [decide_eq_true hk, if_pos rfl]
        by_cases hv : (x.f3.size : Int) ≤ 20
        · rw [if_pos hv]
          by_cases hx : x.f4 = 0
          · rw [tr_true ⟨hg, by rw [if_pos hus]; exact ⟨hk, hv, hx⟩⟩, hx]
            rfl
          · rw [tr_false (fun h => by
              have h1 := h.2
              rw [if_pos hus] at h1
              exact hx h1.2.2), beq_eq_false_iff_ne.2 hx]
        · rw [if_neg hv, tr_false (fun h => by
            have h1 := h.2
            rw [if_pos hus] at h1
            exact hv h1.2.1)]
      · rw [decide_eq_false hk, if_neg (by simp), tr_false (fun h => by
          have h1 := h.2
          rw [if_pos hus] at h1
          exact hk h1.1)]
    | false =>
      rw [if_neg (by simp)]
      by_cases hk : x.f2.toList = ([] : List UInt8)
      · rw [if_pos hk]
        by_cases hv : x.f3.toList = ([] : List UInt8)
        · rw [tr_true ⟨hg, by rw [if_neg (by rw [hus]; simp)]; exact ⟨hk, hv⟩⟩, hv]
          rfl
        · rw [tr_false (fun h => by
            have h1 := h.2
            rw [if_neg (by rw [hus]; simp)] at h1
            exact hv h1.2), beq_eq_false_iff_ne.2 hv]
      · rw [if_neg hk, tr_false (fun h => by
          have h1 := h.2
          rw [if_neg (by rw [hus]; simp)] at h1
          exact hk h1.1)]
  · rw [decide_eq_false hg, Option.bind_some, if_neg (by simp), tr_false (fun h => hg h.1)]
def usedN (l : List S50) : Nat := (l.map (·.f1)).count true
theorem usedN_le (l : List S50) : usedN l ≤ l.length := by
  unfold usedN
  have := List.count_le_length (a := true) (l := l.map (·.f1))
  simpa using this
theorem impl_used_loop (l : List S50) (hl : l.length ≤ 1048576) (d : Nat) : ∀ (n i : Nat), l.length - i = d → n ≤ i → i ≤ l.length → Ev (fun k => impl_Arena_used.l0 k (n : Int) l (l.length : Int) (i : Int)) ((n + usedN (l.drop i) : Nat) : Int) := by
  induction d with
  | zero =>
    intro n i hd hn hi
    have e : l.drop i = [] := List.drop_eq_nil_of_le (by omega)
    refine Ev.step (f := fun _ => some (n : Int)) (fun k => ?_) (by rw [e]; simpa [usedN] using Ev.now (n : Int))
    simp only [impl_Arena_used.l0]
    rw [if_neg (by omega)]
  | succ d ih =>
    intro n i hd hn hi
    have hlt : i < l.length := by omega
    have e : l.drop i = sl l i :: l.drop (i + 1) := by
      rw [List.drop_eq_getElem_cons hlt]
      congr 1
      simp [sl, List.getD_eq_getElem?_getD, List.getElem?_eq_getElem hlt]
    have e2 : Aside0 (wrap64 ((i : Int) + 1) = ((i + 1 : Nat) : Int)) := ⟨by rw [wrap64_id (by omega) (by omega)]; omega⟩
    have e3 : Aside0 (wrap64 ((n : Int) + 1) = ((n + 1 : Nat) : Int)) := ⟨by rw [wrap64_id (by omega) (by omega)]; omega⟩
    cases hus : (sl l i).f1 with
    | true =>
      have en : n + usedN (l.drop i) = (n + 1) + usedN (l.drop (i + 1)) := by rw [e]; simp [usedN, hus]; omega
      rw [en]
      refine Ev.step (fun k => ?_) (ih (n + 1) (i + 1) (by omega) (by omega) (by omega))
      simp only [impl_Arena_used.l0]
      rw [if_pos (by omega), if_pos (by omega), if_pos (by omega), rd_sl, if_pos hus, e2.out, e3.out]
    | false =>
      have en : n + usedN (l.drop i) = n + usedN (l.drop (i + 1)) := by rw [e]; simp [usedN, hus]
      rw [en]
      refine Ev.step (fun k => ?_) (ih n (i + 1) (by omega) (by omega) (by omega))
      simp only [impl_Arena_used.l0]
      rw [if_pos (by omega), if_pos (by omega), if_pos (by omega), rd_sl, if_neg (by rw [hus]; simp), e2.out]
theorem impl_used (l : List S50) (a : Int) (hl : l.length ≤ 1048576) : Ev (fun k => impl_Arena_used.f k l a) ((usedN l : Nat) : Int) := by
  simpa [impl_Arena_used.f] using impl_used_loop l hl _ 0 0 rfl (by omega) (by omega)
theorem impl_ok_loop (l : List S50) (fr : Int) (hl : l.length ≤ 1048576) (R : Bool) (hend : Ev (fun k => (impl_inRange.f (l.length : Int) 1 24).bind fun t168 => (if t168 = true then ((impl_Arena_chain.f k l fr).bind fun t169 => ((impl_Arena_used.f k l fr).bind fun t170 => (some (t169 == (wrap64 ((l.length : Int) - t170)))))) else (some false))) R) (d : Nat) :
    ∀ i : Nat, l.length - i = d → Ev (fun k => impl_ArenaOk.l0 k l (l.length : Int) (i : Int) l fr) (tr (∀ j, i ≤ j → j < l.length → SlotRight (sl l j)) && R) := by
  induction d with
  | zero =>
    intro i hd
    rw [tr_true (fun j h1 h2 => by omega), Bool.true_and]
    refine Ev.step (fun k => ?_) hend
    simp only [impl_ArenaOk.l0]
    rw [if_neg (by omega)]
  | succ d ih =>
    intro i hd
    have hlt : i < l.length := by omega
    have hall := all_from (P := fun j => SlotRight (sl l j)) hlt
    have e2 : Aside0 (wrap64 ((i : Int) + 1) = ((i + 1 : Nat) : Int)) := ⟨by rw [wrap64_id (by omega) (by omega)]; omega⟩
    by_cases h : SlotRight (sl l i)
    · rw [tr_congr (hall.trans ⟨fun z => z.2, fun z => ⟨h, z⟩⟩)]
      refine Ev.step (fun k => ?_) (ih (i + 1) (by omega))
      simp only [impl_ArenaOk.l0]
      rw [if_pos (by omega), if_pos (by omega), if_pos (by omega), rd_sl, impl_slot, tr_true h, Option.bind_some, if_pos rfl, e2.out]
    · rw [tr_false (fun z => h (hall.1 z).1), Bool.false_and]
      refine Ev.step (f := fun _ => some false) (fun k => ?_) (Ev.now _)
      simp only [impl_ArenaOk.l0]
      rw [if_pos (by omega), if_pos (by omega), if_pos (by omega), rd_sl, impl_slot, tr_false h, Option.bind_some, if_neg (by simp)]
def ArRight (l : List S50) : Prop := 1 ≤ l.length ∧ l.length ≤ 24 ∧ ∀ j, j < l.length → SlotRight (sl l j)
theorem arena_both (l : List S50) (fr : Int) (hl : l.length ≤ 1048576) : ∃ r, Ev (fun k => spec_ArenaOk.f k l fr) r ∧ Ev (fun k => impl_ArenaOk.f k l fr) r ∧ (r = true → ArRight l) := by
  have en : ((l.length : Int)).toNat = l.length := by omega
  by_cases hn : 1 ≤ (l.length : Int) ∧ (l.length : Int) ≤ 24
  · have hm0 : MarkInv l (List.replicate l.length false) fr := ⟨by simp, fun j hj => by
      have := mark_lt hj
      simp at this
      simp [List.getD_eq_getElem?_getD, this] at hj, fun j hj => by
      have := mark_lt hj
      simp at this
      simp [List.getD_eq_getElem?_getD, this] at hj⟩
    have hc0 : (List.replicate l.length false).count true = 0 := by simp [List.count_replicate]
    have hu := impl_used l fr hl
    have hul := usedN_le l
    have ew : wrap64 ((l.length : Int) - ((usedN l : Nat) : Int)) = ((l.length - usedN l : Nat) : Int) := by rw [wrap64_id (by omega) (by omega)]; omega
    have hsp : ∀ r, Ev (fun k => spec_ArenaOk.l0 k (l.length : Int) (List.replicate l.length false) fr l fr) r → Ev (fun k => spec_ArenaOk.f k l fr) r := fun r h => by
      unfold spec_ArenaOk.f
      simp only [spec_in, decide_eq_true hn, Option.bind_some, if_true, en, if_pos (show 0 ≤ (l.length : Int) by omega), if_pos (show l.length ≤ 281474976710656 by omega)]
      exact h
    have him : ∀ c, Ev (fun k => impl_Arena_chain.l0 k ((0 : Nat) : Int) fr l fr) c → Ev (fun k => impl_ArenaOk.f k l fr) (tr (∀ j, 0 ≤ j → j < l.length → SlotRight (sl l j)) && (c == ((l.length - usedN l : Nat) : Int))) := fun c h => by
      refine impl_ok_loop l fr hl _ ?_ _ 0 rfl
      simp only [impl_in, decide_eq_true hn, Option.bind_some, if_true]
      refine Ev.bind (show Ev (fun k => impl_Arena_chain.f k l fr) c from h) (Ev.bind hu ?_)
      simp only [ew]
      exact Ev.now _
    rcases chain_both l fr hl (by omega) l.length (List.replicate l.length false) 0 fr hc0 (by omega) hm0 with ⟨m', h1, h2, h3, h4⟩ | ⟨h1, h2⟩
    · have hs := hsp _ (h3 _ (spec_look_loop l fr hl m' h1 _ 0 rfl))
      have hi := him _ h4
      have hmu := marks_used m' (l.map (·.f1)) (by simpa using h1) (fun j hj => by
        have hlt := mark_lt hj
        rw [h1] at hlt
        have := h2 j hj
        simp [List.getD_eq_getElem?_getD, List.getElem?_eq_getElem hlt, sl] at this ⊢
        exact this)
      have e : (tr (∀ j, 0 ≤ j → j < l.length → SlotRight (sl l j)) && (((m'.count true : Nat) : Int) == ((l.length - usedN l : Nat) : Int))) = tr (∀ j, 0 ≤ j → j < l.length → SlotRight (sl l j) ∧ (sl l j).f1 = !(m'.getD j false)) := by
        have hq : (((m'.count true : Nat) : Int) == ((l.length - usedN l : Nat) : Int)) = tr (∀ j, 0 ≤ j → j < l.length → (sl l j).f1 = !(m'.getD j false)) := by
          rw [show ((((m'.count true : Nat) : Int) == ((l.length - usedN l : Nat) : Int)) = decide (((m'.count true : Nat) : Int) = ((l.length - usedN l : Nat) : Int))) from rfl, tr_dec]
          refine tr_congr ?_
          have hmu2 := hmu.2
          unfold usedN at *
          constructor
          · intro hh j _ hj
            have := hmu2.1 (by omega) j (by omega)
            rw [← this]
            simp [sl, List.getD_eq_getElem?_getD, List.getElem?_eq_getElem hj]
          · intro hh
            have := hmu2.2 (fun j hj => by
              have := hh j (by omega) (by omega)
              rw [← this]
              simp [sl, List.getD_eq_getElem?_getD, List.getElem?_eq_getElem (show j < l.length by omega)])
            omega
        rw [hq, ← tr_and]
        exact tr_congr ⟨fun z j h0 hj => ⟨z.1 j h0 hj, z.2 j h0 hj⟩, fun z => ⟨fun j h0 hj => (z j h0 hj).1, fun j h0 hj => (z j h0 hj).2⟩⟩
      rw [e] at hi
      exact ⟨_, hs, hi, fun hr => ⟨by omega, by omega, fun j hj => ((tr_iff.1 hr) j (by omega) hj).1⟩⟩
    · refine ⟨false, hsp _ h1, ?_, fun h => by cases h⟩
      have := him _ h2
      rw [show ((-1 : Int) == ((l.length - usedN l : Nat) : Int)) = false from beq_eq_false_iff_ne.2 (by omega), Bool.and_false] at this
      exact this
  · refine ⟨false, ?_, ?_, fun h => by cases h⟩
    · unfold spec_ArenaOk.f
      simp only [spec_in, decide_eq_false hn, Option.bind_some]
      simp
      exact Ev.now _
    · have := impl_ok_loop l fr hl false (by
        simp only [impl_in, decide_eq_false hn, Option.bind_some]
        simp
        exact Ev.now _) _ 0 rfl
      rw [Bool.and_false] at this
      exact this
theorem mark_loop (d : Nat) : ∀ (x : Int) (acc : ByteArray), 0 ≤ x → x < ((10 ^ d : Nat) : Int) → x ≤ 1000000000000000000 → acc.size + d ≤ 1000 → ∃ b, Ev (fun k => laws_markText.l0 k x acc) b := by
  induction d with
  | zero =>
    intro x acc h0 h1 _ ha
    have hx : ¬ x > 0 := by simp at h1; omega
    refine ⟨_, Ev.step (f := fun _ => some ((⟨#[109]⟩ : ByteArray) ++ acc)) (fun k => ?_) (Ev.now _)⟩
    simp only [laws_markText.l0]
    rw [if_neg hx, if_pos (by omega)]
  | succ d ih =>
    intro x acc h0 h1 h2 ha
    by_cases hx : x > 0
    · have e1 : Aside0 (wrap64 (Int.tdiv x 10) = x / 10) := ⟨by rw [Int.tdiv_eq_ediv_of_nonneg h0, wrap64_id (by omega) (by omega)]⟩
      have hp : ((10 ^ (d + 1) : Nat) : Int) = 10 * ((10 ^ d : Nat) : Int) := by rw [Nat.pow_succ]; omega
      rw [hp] at h1
      have hs : ∀ c : Int, (strOfNums [c]).size = 1 := fun c => by simp [strOfNums, ByteArray.size]
      generalize hst : strOfNums ([(wrap64 (48 + (Int.tmod x 10))) % 256] : List Int) = st
      have hst1 : st.size = 1 := by rw [← hst]; exact hs _
      obtain ⟨b, hb⟩ := ih (x / 10) (st ++ acc) (by omega) (by omega) (by omega) (by rw [ByteArray.size_append]; omega)
      refine ⟨b, Ev.step (fun k => ?_) hb⟩
      simp only [laws_markText.l0]
      rw [if_pos hx, Option.bind_some, hst, if_pos (by omega), e1.out]
    · refine ⟨_, Ev.step (f := fun _ => some ((⟨#[109]⟩ : ByteArray) ++ acc)) (fun k => ?_) (Ev.now _)⟩
      simp only [laws_markText.l0]
      rw [if_neg hx, if_pos (by omega)]
theorem mark_ex (x : Int) (h : x < 1000000000000000000) : ∃ b, Ev (fun k => laws_markText.f k x) b := by
  unfold laws_markText.f
  by_cases hx : x ≤ 0
  · simp only [if_pos hx]
    exact ⟨_, Ev.now _⟩
  · simp only [if_neg hx]
    exact mark_loop 18 x _ (by omega) (by simpa using h) (by omega) (by decide)
noncomputable def mkT (x : Int) : ByteArray := Classical.epsilon fun b => Ev (fun k => laws_markText.f k x) b
theorem mark_text (x : Int) (h : x < 1000000000000000000) : Ev (fun k => laws_markText.f k x) (mkT x) := Classical.epsilon_spec (mark_ex x h)
noncomputable def mkSlot (x : Int) : S50 := ⟨x, (Int.tmod (x + 1) 3 == 0), mkT (x + 2), mkT (x + 3), x + 4⟩
theorem rd_set_slot (l : List S50) (i : Nat) (h : i < l.length) (v : S50) : rd_T50 (l.set i v) (i : Int) = v := by
  show (l.set i v).getD i z50 = v
  rw [List.getD_eq_getElem?_getD, List.getElem?_set_self h]
  rfl
theorem mark_slots_loop (d : Nat) : ∀ (l : List S50) (x : Int) (i : Nat), l.length ≤ 1048576 → l.length - i = d → i ≤ l.length → 0 ≤ x → x + 5 * (l.length - i : Nat) ≤ 1000000000 → ∃ l' : List S50, l'.length = l.length ∧ (∀ j, j < i → l'.getD j z50 = l.getD j z50) ∧ (∀ j, i ≤ j → j < l.length → l'.getD j z50 = mkSlot (x + 5 * ((j - i : Nat) : Int))) ∧ Ev (fun k => laws_markSlotS.l0 k l x (i : Int)) (x + 5 * ((l.length - i : Nat) : Int), l') := by
  induction d with
  | zero =>
    intro l x i hl hd hi h0 h1
    refine ⟨l, rfl, fun j _ => rfl, fun j h2 h3 => absurd h2 (by omega), ?_⟩
    have e : x + 5 * ((l.length - i : Nat) : Int) = x := by omega
    rw [e]
    refine Ev.step (f := fun _ => some (x, l)) (fun k => ?_) (Ev.now _)
    simp only [laws_markSlotS.l0]
    rw [if_neg (by omega)]
  | succ d ih =>
    intro l x i hl hd hi h0 h1
    have hi' : i < l.length := by omega
    have e1 : Aside0 (wrap64 (x + 1) = x + 1) := ⟨wrap64_id (by omega) (by omega)⟩
    have e2 : Aside0 (wrap64 (x + 1 + 1) = x + 2) := ⟨by rw [wrap64_id (by omega) (by omega)]; omega⟩
    have e3 : Aside0 (wrap64 (x + 2 + 1) = x + 3) := ⟨by rw [wrap64_id (by omega) (by omega)]; omega⟩
    have e4 : Aside0 (wrap64 (x + 3 + 1) = x + 4) := ⟨by rw [wrap64_id (by omega) (by omega)]; omega⟩
    have e5 : Aside0 (wrap64 (x + 4 + 1) = x + 5) := ⟨by rw [wrap64_id (by omega) (by omega)]; omega⟩
    have e6 : Aside0 (wrap64 ((i : Int) + 1) = ((i + 1 : Nat) : Int)) := ⟨by rw [wrap64_id (by omega) (by omega)]; omega⟩
    obtain ⟨l', hl', ha, hb, hev⟩ := ih (l.set i (mkSlot x)) (x + 5) (i + 1) (by simpa using hl) (by simp; omega) (by simp; omega) (by omega) (by simp; omega)
    simp only [List.length_set] at hl' hb hev
    refine ⟨l', hl', fun j hj => ?_, fun j h2 h3 => ?_, ?_⟩
    · rw [ha j (by omega)]
      simp only [List.getD_eq_getElem?_getD]
      rw [List.getElem?_set_ne (by omega)]
    · rcases Nat.eq_or_lt_of_le h2 with rfl | h
      · rw [ha _ (by omega), List.getD_eq_getElem?_getD, List.getElem?_set_self h3]
        have : x + 5 * ((i - i : Nat) : Int) = x := by omega
        rw [this]
        rfl
      · have h4 := hb j (by omega) h3
        have : x + 5 + 5 * ((j - (i + 1) : Nat) : Int) = x + 5 * ((j - i : Nat) : Int) := by omega
        rw [this] at h4
        exact h4
    · have e : x + 5 + 5 * ((l.length - (i + 1) : Nat) : Int) = x + 5 * ((l.length - i : Nat) : Int) := by omega
      rw [e] at hev
      have rs := rd_set_slot l i hi'
      refine Ev.step (f := fun k => (laws_markText.f k (x + 2)).bind fun t => (laws_markText.f k (x + 3)).bind fun t2 => laws_markSlotS.l0 k (l.set i ⟨x, (Int.tmod (x + 1) 3 == 0), t, t2, x + 4⟩) (x + 5) ((i + 1 : Nat) : Int)) (fun k => ?_) (Ev.bind (mark_text (x + 2) (by omega)) (Ev.bind (mark_text (x + 3) (by omega)) hev))
      simp only [laws_markSlotS.l0]
      rw [if_pos (by omega), if_pos (by omega)]
      simp only [Option.bind_some, Int.toNat_natCast, rs, List.set_set, e1.out, e2.out, e3.out, e4.out, e5.out, e6.out]
def MarkedSl (l' : List S50) (n : Nat) (x : Int) : Prop := l'.length = n ∧ ∀ j, j < n → l'.getD j z50 = mkSlot (x + 5 * (j : Int))
theorem mark_slots (l : List S50) (x : Int) (hl : l.length ≤ 1048576) (h0 : 0 ≤ x) (h1 : x ≤ 100000000) : ∃ l', MarkedSl l' l.length x ∧ Ev (fun k => laws_markSlotS.f k l x) (x + 5 * (l.length : Int), l') := by
  unfold laws_markSlotS.f
  obtain ⟨l', h2, _, h3, h4⟩ := mark_slots_loop _ l x 0 hl rfl (Nat.zero_le _) h0 (by omega)
  exact ⟨l', ⟨h2, fun j hj => by simpa using h3 j (Nat.zero_le _) hj⟩, by simpa using h4⟩
theorem held_slots_loop (l : List S50) (x : Int) (n : Nat) (hn : n ≤ 1048576) (h0 : 0 ≤ x) (h1 : x ≤ 100000000) (hm : MarkedSl l n x) (d : Nat) : ∀ (i : Nat), n - i = d → i ≤ n → Ev (fun k => laws_heldSlotS.l0 k l (x + 5 * (i : Int)) (i : Int)) (x + 5 * (n : Int)) := by
  have hl := hm.1
  induction d with
  | zero =>
    intro i hd hi
    obtain rfl : i = n := by omega
    refine Ev.step (f := fun _ => some (x + 5 * (i : Int))) (fun k => ?_) (Ev.now _)
    simp only [laws_heldSlotS.l0]
    rw [if_neg (by omega)]
  | succ d ih =>
    intro i hd hi
    have ih' := ih (i + 1) (by omega) (by omega)
    have hr : rd_T50 l (i : Int) = mkSlot (x + 5 * (i : Int)) := hm.2 i (by omega)
    have e6 : Aside0 (wrap64 ((i : Int) + 1) = ((i + 1 : Nat) : Int)) := ⟨by rw [wrap64_id (by omega) (by omega)]; omega⟩
    have ey : x + 5 * ((i + 1 : Nat) : Int) = x + 5 * (i : Int) + 5 := by omega
    rw [ey] at ih'
    have hy0 : 0 ≤ x + 5 * (i : Int) := by omega
    have hy1 : x + 5 * (i : Int) ≤ 200000000 := by omega
    generalize x + 5 * (i : Int) = y at ih' hr hy0 hy1 ⊢
    have e1 : Aside0 (wrap64 (y + 1) = y + 1) := ⟨wrap64_id (by omega) (by omega)⟩
    have e2 : Aside0 (wrap64 (y + 1 + 1) = y + 2) := ⟨by rw [wrap64_id (by omega) (by omega)]; omega⟩
    have e3 : Aside0 (wrap64 (y + 2 + 1) = y + 3) := ⟨by rw [wrap64_id (by omega) (by omega)]; omega⟩
    have e4 : Aside0 (wrap64 (y + 3 + 1) = y + 4) := ⟨by rw [wrap64_id (by omega) (by omega)]; omega⟩
    have e5 : Aside0 (wrap64 (y + 4 + 1) = y + 5) := ⟨by rw [wrap64_id (by omega) (by omega)]; omega⟩
    refine Ev.step (f := fun k => (laws_markText.f k (y + 2)).bind fun t235 => (if (mkT (y + 2)).toList = t235.toList then ((laws_markText.f k (y + 3)).bind fun t237 => (if (mkT (y + 3)).toList = t237.toList then laws_heldSlotS.l0 k l (y + 5) ((i + 1 : Nat) : Int) else (some (-1)))) else (some (-1)))) (fun k => ?_) (Ev.bind (mark_text (y + 2) (by omega)) ?_)
    · simp only [laws_heldSlotS.l0]
      rw [if_pos (by omega), if_pos (by omega)]
      simp only [hr, mkSlot, if_true, e1.out, e2.out, e3.out, e4.out, e5.out, e6.out, bne_self_eq_false, Bool.false_eq_true, if_false]
    · simp only [if_true]
      refine Ev.bind (mark_text (y + 3) (by omega)) ?_
      simp only [if_true]
      exact ih'
theorem held_slots (l : List S50) (n : Nat) (x : Int) (hn : n ≤ 1048576) (h0 : 0 ≤ x) (h1 : x ≤ 100000000) (hm : MarkedSl l n x) : Ev (fun k => laws_heldSlotS.f k l x) (x + 5 * (n : Int)) := by
  unfold laws_heldSlotS.f
  simpa using held_slots_loop l x n hn h0 h1 hm _ 0 rfl (Nat.zero_le _)
theorem lift_both (l : List S50) (fr h : Int) (hl : l.length ≤ 1048576) (hw : -9223372036854775808 ≤ h ∧ h ≤ 9223372036854775807) : ∃ x : List S50, ∃ a : Int, ∃ b : Bool, x.length ≤ 1048576 ∧ Ev (fun k => spec_Lift.f k l fr h) (x, a, b) ∧ Ev (fun k => impl_Lift.f k l fr h) (x, a, b) := by
  have hneg : (∃ r : Int, r < 0 ∧ Ev (fun k => spec_l03At.f k l fr h) r) → (∃ r : Bool, Ev (fun k => impl_ArenaOk.f k l fr) r ∧ (r = true → ∃ q : Int, q < 0 ∧ impl_Arena_place.f l fr h = some q)) → ∃ x : List S50, ∃ a : Int, ∃ b : Bool, x.length ≤ 1048576 ∧ Ev (fun k => spec_Lift.f k l fr h) (x, a, b) ∧ Ev (fun k => impl_Lift.f k l fr h) (x, a, b) := by
    rintro ⟨r, hr, hE⟩ ⟨b, hB, hq⟩
    refine ⟨[], 0, false, by simp, ?_, ?_⟩
    · unfold spec_Lift.f
      refine Ev.bind hE ?_
      simp only [if_pos hr]
      exact Ev.now _
    · unfold impl_Lift.f
      refine Ev.bind hB ?_
      cases b with
      | false =>
        simp only [Bool.false_eq_true, if_false]
        exact Ev.now _
      | true =>
        obtain ⟨q, q0, q1⟩ := hq rfl
        simp only [if_true, q1, Option.bind_some, if_pos q0]
        exact Ev.now _
  obtain ⟨r, hS, hI, hR⟩ := arena_both l fr hl
  have hj : Ev (fun k => spec_l03At.j0 k h true l fr) (-1) := by
    refine Ev.step (f := fun _ => some (-1)) (fun k => ?_) (Ev.now _)
    simp only [spec_l03At.j0]
    rw [if_pos trivial]
  cases r with
  | false =>
    refine hneg ⟨-1, by omega, ?_⟩ ⟨false, hI, fun z => by cases z⟩
    unfold spec_l03At.f
    refine Ev.bind hS ?_
    simp only [Bool.false_eq_true, if_false]
    exact hj
  | true =>
    obtain ⟨a1, a2, a3⟩ := hR rfl
    by_cases hh : h < 0
    · refine hneg ⟨-1, by omega, ?_⟩ ⟨true, hI, fun _ => ⟨-1, by omega, ?_⟩⟩
      · unfold spec_l03At.f
        refine Ev.bind hS ?_
        simp only [if_true, if_pos hh]
        exact hj
      · unfold impl_Arena_place.f
        rw [if_pos hh]
    · have em : Int.tmod h 24 = h % 24 := Int.tmod_eq_emod_of_nonneg (by omega)
      have ed : Aside0 (wrap64 (Int.tdiv h 24) = h / 24) := ⟨by rw [Int.tdiv_eq_ediv_of_nonneg (by omega), wrap64_id (by omega) (by omega)]⟩
      by_cases hge : h % 24 ≥ (l.length : Int)
      · refine hneg ⟨-1, by omega, ?_⟩ ⟨true, hI, fun _ => ⟨-1, by omega, ?_⟩⟩
        · unfold spec_l03At.f
          refine Ev.bind hS ?_
          simp only [if_true, if_neg hh, em, decide_eq_true hge]
          exact hj
        · unfold impl_Arena_place.f
          rw [if_neg hh, em, if_pos hge]
      · obtain ⟨q, hq⟩ := Int.eq_ofNat_of_zero_le (show 0 ≤ h % 24 by omega)
        have hql : q < l.length := by omega
        obtain ⟨g0, g1⟩ := (a3 q hql).1
        have e24 : Aside0 (wrap64 (wrap64 (24 * (sl l q).f0) + (q : Int)) = 24 * (sl l q).f0 + (q : Int)) := ⟨by rw [wrap64_id (x := 24 * (sl l q).f0) (by omega) (by omega), wrap64_id (by omega) (by omega)]⟩
        have hhd : impl_Arena_handle.f l fr (q : Int) = some (24 * (sl l q).f0 + (q : Int)) := by
          unfold impl_Arena_handle.f
          rw [if_pos (by omega), if_pos (by omega), rd_sl, e24.out]
        have hAt : ∀ r : Int, (if (sl l q).f1 = true then (if (sl l q).f0 = h / 24 then (q : Int) else -1) else -1) = r → Ev (fun k => spec_l03At.f k l fr h) r := by
          rintro r rfl
          unfold spec_l03At.f
          refine Ev.bind hS ?_
          simp only [if_true, if_neg hh, em, decide_eq_false hge]
          refine Ev.step (f := fun _ => some (if (sl l q).f1 = true then (if (sl l q).f0 = h / 24 then (q : Int) else -1) else -1)) (fun k => ?_) (Ev.now _)
          simp only [spec_l03At.j0]
          rw [if_neg (by simp), em, hq, if_pos (by omega), if_pos (by omega), rd_sl, ed.out]
          split
          · split <;> rfl
          · rfl
        have hPl : impl_Arena_place.f l fr h = some (if (sl l q).f1 = true then (if (sl l q).f0 = h / 24 then (q : Int) else -1) else -1) := by
          unfold impl_Arena_place.f
          rw [if_neg hh, em, if_neg hge, hq, if_pos (by omega), if_pos (by omega), rd_sl, hhd]
          split
          · rw [Option.bind_some]
            by_cases e : (sl l q).f0 = h / 24
            · rw [if_pos e, if_pos (by omega)]
            · rw [if_neg e, if_neg (by omega)]
          · rfl
        by_cases hu : (sl l q).f1 = true ∧ (sl l q).f0 = h / 24
        · have hAt' := hAt (q : Int) (by rw [if_pos hu.1, if_pos hu.2])
          rw [if_pos hu.1, if_pos hu.2] at hPl
          have hcS : spec_l03Copy.f l fr = some (l, fr) := by
            unfold spec_l03Copy.f
            rw [Option.bind_some, if_pos (by simp; omega)]
            rfl
          have hcI : impl_copyArena.f l fr = some (l, fr) := by
            unfold impl_copyArena.f impl_Slot.f
            rw [Option.bind_some, if_pos (by simp; omega)]
            rfl
          have ew : Aside0 (wrap64 ((sl l q).f0 + 1) = (sl l q).f0 + 1) := ⟨wrap64_id (by omega) (by omega)⟩
          by_cases hg : (sl l q).f0 + 1 > 41666665
          · refine ⟨l.set q ⟨0, false, (⟨#[]⟩ : ByteArray), (⟨#[]⟩ : ByteArray), fr⟩, (q : Int), true, by simpa using hl, ?_, ?_⟩
            · unfold spec_Lift.f
              refine Ev.bind hAt' ?_
              simp only [if_neg (show ¬ (q : Int) < 0 by omega), hcS, Option.bind_some, if_pos (show (0 : Int) ≤ (q : Int) by omega), if_pos (show (q : Int) < (l.length : Int) by omega), rd_sl, ew.out, if_pos hg]
              exact Ev.now _
            · unfold impl_Lift.f
              refine Ev.bind hI ?_
              simp only [if_true, hPl, Option.bind_some, if_neg (show ¬ (q : Int) < 0 by omega), hcI]
              unfold impl_Arena_lift.f
              simp only [if_pos (show (0 : Int) ≤ (q : Int) by omega), if_pos (show (q : Int) < (l.length : Int) by omega), rd_sl, ew.out, if_pos hg, Option.bind_some]
              exact Ev.now _
          · refine ⟨l.set q ⟨(sl l q).f0 + 1, false, (⟨#[]⟩ : ByteArray), (⟨#[]⟩ : ByteArray), fr⟩, (q : Int), true, by simpa using hl, ?_, ?_⟩
            · unfold spec_Lift.f
              refine Ev.bind hAt' ?_
              simp only [if_neg (show ¬ (q : Int) < 0 by omega), hcS, Option.bind_some, if_pos (show (0 : Int) ≤ (q : Int) by omega), if_pos (show (q : Int) < (l.length : Int) by omega), rd_sl, ew.out, if_neg hg]
              exact Ev.now _
            · unfold impl_Lift.f
              refine Ev.bind hI ?_
              simp only [if_true, hPl, Option.bind_some, if_neg (show ¬ (q : Int) < 0 by omega), hcI]
              unfold impl_Arena_lift.f
              simp only [if_pos (show (0 : Int) ≤ (q : Int) by omega), if_pos (show (q : Int) < (l.length : Int) by omega), rd_sl, ew.out, if_neg hg, Option.bind_some]
              exact Ev.now _
        · have e : (if (sl l q).f1 = true then (if (sl l q).f0 = h / 24 then (q : Int) else -1) else -1) = -1 := by
            by_cases h1 : (sl l q).f1 = true
            · rw [if_pos h1, if_neg (fun z => hu ⟨h1, z⟩)]
            · rw [if_neg h1]
          rw [e] at hPl
          exact hneg ⟨-1, by omega, hAt _ e⟩ ⟨true, hI, fun _ => ⟨-1, by omega, hPl⟩⟩
theorem FnExactLift (l : List S83) (a h : Int) (hl : l.length ≤ maxLen ∧ ∀ y ∈ l, SlotWf y) (ha : (Lit.int .i64 a).wf = true) (hh : (Lit.int .i64 h).wf = true) : ∃ k, laws_FnExactLift.f k l a h = some true := by
  refine Ev.rounds ?_
  unfold laws_FnExactLift.f
  obtain ⟨r, hr, hlen⟩ := sz_arena l a hl
  refine Ev.bind hr ?_
  by_cases h0 : r < 0
  · simp only [if_pos h0]
    exact Ev.now _
  · simp only [if_neg h0]
    have hl' := hlen (by omega)
    have tt := to_arena l a hl'
    have hm : (l.map toS).length ≤ 1048576 := by simpa using hl'
    obtain ⟨x, fr, b, hx, hS, hI⟩ := lift_both (l.map toS) a h hm (i64_range hh)
    have hE := eq_arena x fr hx
    have hE0 := eq_arena (l.map toS) a hm
    obtain ⟨m0, _, hM0'⟩ := mark_slots (l.map toS) 1 hm (by omega) (by omega)
    obtain ⟨m1, k1, hM1'⟩ := mark_slots x 1 hx (by omega) (by omega)
    have hH' := held_slots m1 x.length 1 hx (by omega) (by omega) k1
    have n0 : ¬ (1 + 5 * ((l.map toS).length : Int)) < 0 := by omega
    have n1 : ¬ (1 + 5 * (x.length : Int)) < 0 := by omega
    have hM0 : Ev (fun k => laws_markArena.f k (l.map toS) a 1) (1 + 5 * ((l.map toS).length : Int), m0) := by unfold laws_markArena.f; exact Ev.bind hM0' (Ev.now _)
    have hM1 : Ev (fun k => laws_markArena.f k x fr 1) (1 + 5 * (x.length : Int), m1) := by unfold laws_markArena.f; exact Ev.bind hM1' (Ev.now _)
    have hH : Ev (fun k => laws_heldArena.f k m1 fr 1) (1 + 5 * (x.length : Int)) := by
      unfold laws_heldArena.f
      refine Ev.bind hH' ?_
      simp only [if_neg n1]
      exact Ev.now _
    refine Ev.bind tt (Ev.bind hS (Ev.bind tt (Ev.bind hI (Ev.bind hE ?_))))
    simp only [if_true, bne_self_eq_false]
    refine Ev.step (f := fun k => (laws_toArena.f k l a).bind fun bt265 => ((laws_eqArena.f k (l.map toS) a bt265.1 bt265.2).bind fun t269 => (if t269 = true then ((laws_markArena.f k (l.map toS) a 1).bind fun bt270 => (if bt270.1 < 0 then (laws_FnExactLift.j1 k h b true l a x fr x fr) else ((laws_eqArena.f k x fr x fr).bind fun t272 => (if t272 = true then (laws_FnExactLift.j1 k h b (b != b) l a x fr x fr) else (laws_FnExactLift.j1 k h b true l a x fr x fr))))) else (some false)))) (fun k => ?_) (Ev.bind tt (Ev.bind hE0 ?_))
    · simp only [laws_FnExactLift.j0]
      rw [if_neg (by simp)]
    · simp only [if_true]
      refine Ev.bind hM0 ?_
      simp only [if_neg n0]
      refine Ev.bind hE ?_
      simp only [if_true, bne_self_eq_false]
      refine Ev.step (f := fun k => (laws_markArena.f k x fr 1).bind fun bt273 => ((laws_heldArena.f k bt273.2 fr 1).bind fun t275 => (if t275 < 0 then (some false) else (if t275 = bt273.1 then ((laws_toArena.f k l a).bind fun bt276 => ((impl_Lift.f k bt276.1 bt276.2 h).bind fun bt280 => ((laws_eqArena.f k bt280.1 bt280.2.1 x fr).bind fun t286 => (if t286 = true then (laws_FnExactLift.j2 k bt273.1 (bt280.2.2 != b) bt273.2 fr) else (laws_FnExactLift.j2 k bt273.1 true bt273.2 fr))))) else (some false))))) (fun k => ?_) (Ev.bind hM1 (Ev.bind hH ?_))
      · simp only [laws_FnExactLift.j1]
        rw [if_neg (by simp)]
      · simp only [if_neg n1, if_true]
        refine Ev.bind tt (Ev.bind hI (Ev.bind hE ?_))
        simp only [if_true, bne_self_eq_false]
        refine Ev.step (f := fun k => (laws_heldArena.f k m1 fr 1).bind fun t287 => (if t287 < 0 then (some false) else (if t287 = 1 + 5 * (x.length : Int) then (some true) else (some false)))) (fun k => ?_) (Ev.bind hH ?_)
        · simp only [laws_FnExactLift.j2]
          rw [if_neg (by simp)]
        · simp only [if_neg n1, if_true]
          exact Ev.now _
end Go.Proofs.Ytomcapflpephmaa.Pure
