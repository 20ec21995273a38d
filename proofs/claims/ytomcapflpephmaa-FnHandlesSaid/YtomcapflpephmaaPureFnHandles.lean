/- The pure statement of the law FnHandles: plain Lean over numbers and lists. -/
import Derived.Test.YtomcapflpephmaaHFnHandlesx8
import Derived.Test.YtomcapflpephmaaMath
set_option linter.unusedSimpArgs false
set_option linter.unusedVariables false
namespace Go.Proofs.Ytomcapflpephmaa.Pure
open Go.RowKit Go.Proofs.Ytomcapflpephmaa.HFnHandles Go.Proofs.YtomcapflpephmaaW.PrintWords Go.Proofs.YtomcapflpephmaaW.PrintLast Go.Proofs.Ytomcapflpephmaa.Math

/-! ### a reader of draws -/
def CurOk (b : List Int) (i : Int) : Prop := 0 ≤ i ∧ i ≤ b.length ∧ b.length ≤ 140737488355328
theorem cur_new (l : List Int) (hl : l.length ≤ 140737488355328) : ∃ h, Ev (fun k => spec_l01New.f k l) (l, 0, h) := by
  have key : ∀ (d : Nat) (h : Int) (i : Nat), l.length - i = d → ∃ h', Ev (fun k => spec_l01New.l0 k l h (i : Int)) (l, 0, h') := by
    intro d
    induction d with
    | zero =>
      intro h i hd
      refine ⟨h, Ev.step (f := fun _ => some (l, 0, h)) (fun k => ?_) (Ev.now _)⟩
      simp only [spec_l01New.l0]
      rw [if_neg (by omega)]
    | succ d ih =>
      intro h i hd
      by_cases h4 : (i : Int) < 4000
      · obtain ⟨h', hh⟩ := ih (Go.bits .and .i64 (wrap64 ((wrap64 ((wrap64 (h * 131)) + (wrap64 (rd l (i : Int))))) + 7)) 1073741823) (i + 1) (by omega)
        refine ⟨h', Ev.step (fun k => ?_) hh⟩
        simp only [spec_l01New.l0]
        rw [if_pos (by omega), if_pos h4, if_pos (by omega), wrap64_id (x := (i : Int) + 1) (by omega) (by omega)]
        rfl
      · refine ⟨h, Ev.step (f := fun _ => some (l, 0, h)) (fun k => ?_) (Ev.now _)⟩
        simp only [spec_l01New.l0]
        rw [if_pos (by omega), if_neg h4]
  exact key _ _ 0 rfl
theorem cur_byte (b : List Int) (i h : Int) (hc : CurOk b i) : ∃ x i' h', spec_l01Byte.f b i h = some (x, i', h') ∧ (0 ≤ x ∧ x ≤ 255) ∧ CurOk b i' := by
  obtain ⟨h0, h1, h2⟩ := hc
  unfold spec_l01Byte.f
  by_cases hlt : i < (b.length : Int)
  · rw [if_pos hlt, if_pos h0]
    exact ⟨_, _, _, rfl, bits_and_255 _, by rw [wrap64_id (by omega) (by omega)]; exact ⟨by omega, by omega, h2⟩⟩
  · rw [if_neg hlt]
    exact ⟨_, _, _, rfl, bits_and_255 _, h0, h1, h2⟩
theorem cur_below (b : List Int) (i h n : Int) (hn : n ≤ 4294967296) (hc : CurOk b i) : ∃ x i' h', spec_l01Below.f b i h n = some (x, i', h') ∧ 0 ≤ x ∧ (x = 0 ∨ x < n) ∧ CurOk b i' := by
  unfold spec_l01Below.f
  by_cases h0 : n ≤ 0
  · rw [if_pos h0]
    exact ⟨_, _, _, rfl, by omega, .inl rfl, hc⟩
  · rw [if_neg h0]
    by_cases h1 : n ≤ 256
    · rw [if_pos h1]
      obtain ⟨x, i', h', e, ⟨hx0, hx1⟩, hc'⟩ := cur_byte b i h hc
      rw [e, Option.bind_some, if_neg (by omega)]
      have em : Int.tmod x n = x % n := Int.tmod_eq_emod_of_nonneg hx0
      exact ⟨_, _, _, rfl, by simp only [em]; exact Int.emod_nonneg _ (by omega), .inr (by simp only [em]; exact Int.emod_lt_of_pos _ (by omega)), hc'⟩
    · rw [if_neg h1]
      obtain ⟨x, i1, h1, e1, ⟨x0, x1⟩, c1⟩ := cur_byte b i h hc
      obtain ⟨y, i2, h2, e2, ⟨y0, y1⟩, c2⟩ := cur_byte b i1 h1 c1
      obtain ⟨z, i3, h3, e3, ⟨z0, z1⟩, c3⟩ := cur_byte b i2 h2 c2
      obtain ⟨v, i4, h4, e4, ⟨v0, v1⟩, c4⟩ := cur_byte b i3 h3 c3
      rw [e1, Option.bind_some]
      simp only [e2, Option.bind_some, e3, e4]
      rw [if_neg (by omega)]
      have a1 : wrap64 (x * 16777216) = x * 16777216 := wrap64_id (by omega) (by omega)
      have a2 : wrap64 (y * 65536) = y * 65536 := wrap64_id (by omega) (by omega)
      have a3 : wrap64 (x * 16777216 + y * 65536) = x * 16777216 + y * 65536 := wrap64_id (by omega) (by omega)
      have a4 : wrap64 (z * 256) = z * 256 := wrap64_id (by omega) (by omega)
      have a5 : wrap64 (x * 16777216 + y * 65536 + z * 256) = x * 16777216 + y * 65536 + z * 256 := wrap64_id (by omega) (by omega)
      have a6 : wrap64 (x * 16777216 + y * 65536 + z * 256 + v) = x * 16777216 + y * 65536 + z * 256 + v := wrap64_id (by omega) (by omega)
      rw [a1, a2, a3, a4, a5, a6]
      have em : Int.tmod (x * 16777216 + y * 65536 + z * 256 + v) n = (x * 16777216 + y * 65536 + z * 256 + v) % n := Int.tmod_eq_emod_of_nonneg (by omega)
      exact ⟨_, _, _, rfl, by simp only [em]; exact Int.emod_nonneg _ (by omega), .inr (by simp only [em]; exact Int.emod_lt_of_pos _ (by omega)), c4⟩

theorem cur_pick (b : List Int) (i h : Int) (l : List ByteArray) (hl : 0 < l.length) (hn : (l.length : Int) ≤ 4294967296) (hc : CurOk b i) : ∃ x i' h', spec_l01Pick.f b i h l = some (x, i', h') ∧ x ∈ l ∧ CurOk b i' := by
  obtain ⟨x, i', h', e, h0, h1, hc'⟩ := cur_below b i h (l.length : Int) hn hc
  unfold spec_l01Pick.f
  rw [e, Option.bind_some, if_pos (by simpa using h0), if_pos (by simp only; omega)]
  refine ⟨_, _, _, rfl, ?_, hc'⟩
  exact getD_mem l ByteArray.empty x.toNat (by omega)
def keys12 : List ByteArray := [⟨#[97]⟩, ⟨#[98]⟩, ⟨#[99]⟩, ⟨#[100]⟩, ⟨#[101]⟩, ⟨#[102]⟩, ⟨#[103]⟩, ⟨#[104]⟩, ⟨#[107, 49]⟩, ⟨#[107, 50]⟩, ⟨#[107, 51]⟩, ⟨#[107, 101, 121]⟩]
theorem keys12_size : ∀ s ∈ keys12, 0 < s.size ∧ s.size ≤ 3 := by
  intro s hs
  simp only [keys12, List.mem_cons, List.not_mem_nil, or_false] at hs
  rcases hs with rfl | rfl | rfl | rfl | rfl | rfl | rfl | rfl | rfl | rfl | rfl | rfl <;> decide
theorem cur_key (b : List Int) (i h : Int) (hc : CurOk b i) : ∃ s i' h', spec_l03Key.f b i h = some (s, i', h') ∧ s ∈ keys12 ∧ CurOk b i' := by
  obtain ⟨x, i', h', e, hm, hc'⟩ := cur_pick b i h keys12 (by decide) (by decide) hc
  unfold spec_l03Key.f
  unfold keys12 at e
  rw [e, Option.bind_some]
  exact ⟨_, _, _, rfl, hm, hc'⟩

theorem cur_once (b : List Int) (i h n : Int) (hn : n ≤ 4294967296) (hc : CurOk b i) : ∃ x i' h', spec_l01Once.f b i h n = some (x, i', h') ∧ CurOk b i' := by
  obtain ⟨x, i', h', e, _, _, hc'⟩ := cur_below b i h n hn hc
  unfold spec_l01Once.f
  rw [e, Option.bind_some]
  exact ⟨_, _, _, rfl, hc'⟩

theorem spec_in (a b c : Int) : spec_l01In.f a b c = some (decide (b ≤ a ∧ a ≤ c)) := by
  unfold spec_l01In.f
  by_cases h : a ≥ b
  · rw [if_pos h]
    simp [h]
  · rw [if_neg h]
    have : ¬ (b ≤ a ∧ a ≤ c) := fun z => h z.1
    simp [this]

theorem impl_in (a b c : Int) : impl_inRange.f a b c = some (decide (b ≤ a ∧ a ≤ c)) := by
  unfold impl_inRange.f
  by_cases h : a ≥ b
  · rw [if_pos h]
    simp [h]
  · rw [if_neg h]
    have : ¬ (b ≤ a ∧ a ≤ c) := fun z => h z.1
    simp [this]

/-! ### the chain of the free slots -/
def sl (l : List S50) (j : Nat) : S50 := l.getD j z50
theorem rd_sl (l : List S50) (j : Nat) : rd_T50 l (j : Int) = sl l j := rfl
def SlotRight (x : S50) : Prop := (0 ≤ x.f0 ∧ x.f0 ≤ 41666665) ∧ (if x.f1 = true then (1 ≤ (x.f2.size : Int) ∧ (x.f2.size : Int) ≤ 12) ∧ (x.f3.size : Int) ≤ 20 ∧ x.f4 = 0 else x.f2.toList = [] ∧ x.f3.toList = [])
/-- All that is marked is free, and leads to what is marked, or to where we are. -/
def MarkInv (l : List S50) (m : List Bool) (at_ : Int) : Prop :=
  m.length = l.length ∧ (∀ j, m.getD j false = true → (sl l j).f1 = false) ∧ ∀ j, m.getD j false = true → (sl l j).f4 = at_ ∨ ∃ q : Nat, (sl l j).f4 = (q : Int) ∧ m.getD q false = true
theorem mark_lt {l : List Bool} {j : Nat} (h : l.getD j false = true) : j < l.length := by
  rcases Nat.lt_or_ge j l.length with hj | hj
  · exact hj
  · rw [List.getD_eq_getElem?_getD, List.getElem?_eq_none hj] at h
    cases h
/-- In a ring the program's count comes to its end. -/
theorem chain_ring (l : List S50) (fr : Int) (hl : l.length ≤ 1048576) (m : List Bool) (hm : m.length = l.length) (hu : ∀ j, m.getD j false = true → (sl l j).f1 = false) (hc : ∀ j, m.getD j false = true → ∃ q : Nat, (sl l j).f4 = (q : Int) ∧ m.getD q false = true) (d : Nat) :
    ∀ (c at_ : Nat), c + d = l.length → m.getD at_ false = true → Ev (fun k => impl_Arena_chain.l0 k (c : Int) (at_ : Int) l fr) (-1) := by
  induction d with
  | zero =>
    intro c at_ hcd ha
    have hlt := mark_lt ha
    have hu' := hu at_ ha
    refine Ev.step (f := fun _ => some (-1)) (fun k => ?_) (Ev.now _)
    simp only [impl_Arena_chain.l0]
    rw [if_neg (by omega), impl_in, wrap64_id (by omega) (by omega), decide_eq_true (by omega), Option.bind_some, if_pos rfl, if_pos (by omega), if_pos (by omega), rd_sl, if_neg (by rw [hu']; simp), if_pos (by omega)]
  | succ d ih =>
    intro c at_ hcd ha
    have hlt := mark_lt ha
    have hu' := hu at_ ha
    obtain ⟨q, hq, hmq⟩ := hc at_ ha
    refine Ev.step (fun k => ?_) (ih (c + 1) q (by omega) hmq)
    simp only [impl_Arena_chain.l0]
    rw [if_neg (by omega), impl_in, wrap64_id (x := (l.length : Int) - 1) (by omega) (by omega), decide_eq_true (by omega), Option.bind_some, if_pos rfl, if_pos (by omega), if_pos (by omega), rd_sl, if_neg (by rw [hu']; simp), if_neg (by omega), hq, wrap64_id (by omega) (by omega)]
    rfl
theorem chain_both (l : List S50) (fr : Int) (hl : l.length ≤ 1048576) (h0 : 0 < l.length) (d : Nat) : ∀ (m : List Bool) (c : Nat) (at_ : Int), m.count true = c → c + d = l.length → MarkInv l m at_ →
    (∃ m', m'.length = l.length ∧ (∀ j, m'.getD j false = true → (sl l j).f1 = false) ∧ (∀ r, Ev (fun k => spec_ArenaOk.l1 k (l.length : Int) m' 0 l fr) r → Ev (fun k => spec_ArenaOk.l0 k (l.length : Int) m at_ l fr) r) ∧ Ev (fun k => impl_Arena_chain.l0 k (c : Int) at_ l fr) ((m'.count true : Nat) : Int)) ∨
    (Ev (fun k => spec_ArenaOk.l0 k (l.length : Int) m at_ l fr) false ∧ Ev (fun k => impl_Arena_chain.l0 k (c : Int) at_ l fr) (-1)) := by
  induction d with
  | zero =>
    intro m c at_ hc hcd hi
    by_cases ha : at_ = -1
    · subst ha
      refine .inl ⟨m, hi.1, hi.2.1, fun r hr => Ev.step (fun k => ?_) hr, ?_⟩
      · simp only [spec_ArenaOk.l0]
        rw [if_pos trivial]
      · rw [hc]
        refine Ev.step (f := fun _ => some (c : Int)) (fun k => ?_) (Ev.now _)
        simp only [impl_Arena_chain.l0]
        rw [if_pos trivial]
    · have ew : wrap64 ((l.length : Int) - 1) = (l.length : Int) - 1 := wrap64_id (by omega) (by omega)
      by_cases hr : 0 ≤ at_ ∧ at_ ≤ (l.length : Int) - 1
      · obtain ⟨p, rfl⟩ := Int.eq_ofNat_of_zero_le hr.1
        have hml := hi.1
        have hall : m.getD p false = true := by
          have h1 : m.count true = m.length := by omega
          have h2 := List.count_eq_length.1 h1
          rw [List.getD_eq_getElem?_getD, List.getElem?_eq_getElem (show p < m.length by omega)]
          exact (h2 _ (List.getElem_mem _)).symm
        have hu := hi.2.1 p hall
        refine .inr ⟨?_, ?_⟩
        · refine Ev.step (f := fun _ => some false) (fun k => ?_) (Ev.now _)
          simp only [spec_ArenaOk.l0]
          have er : rdOf false m (p : Int) = m.getD p false := rfl
          rw [if_neg ha, spec_in, ew, decide_eq_true hr, Option.bind_some, if_pos rfl, if_pos (by omega), if_pos (by omega), er, if_pos hall]
        · refine Ev.step (f := fun _ => some (-1)) (fun k => ?_) (Ev.now _)
          simp only [impl_Arena_chain.l0]
          rw [if_neg ha, impl_in, ew, decide_eq_true hr, Option.bind_some, if_pos rfl, if_pos (by omega), if_pos (by omega), rd_sl, if_neg (by rw [hu]; simp), if_pos (by omega)]
      · refine .inr ⟨?_, ?_⟩
        · refine Ev.step (f := fun _ => some false) (fun k => ?_) (Ev.now _)
          simp only [spec_ArenaOk.l0]
          rw [if_neg ha, spec_in, ew, decide_eq_false hr, Option.bind_some, if_neg (by simp)]
        · refine Ev.step (f := fun _ => some (-1)) (fun k => ?_) (Ev.now _)
          simp only [impl_Arena_chain.l0]
          rw [if_neg ha, impl_in, ew, decide_eq_false hr, Option.bind_some, if_neg (by simp)]
  | succ d ih =>
    intro m c at_ hc hcd hi
    by_cases ha : at_ = -1
    · subst ha
      refine .inl ⟨m, hi.1, hi.2.1, fun r hr => Ev.step (fun k => ?_) hr, ?_⟩
      · simp only [spec_ArenaOk.l0]
        rw [if_pos trivial]
      · rw [hc]
        refine Ev.step (f := fun _ => some (c : Int)) (fun k => ?_) (Ev.now _)
        simp only [impl_Arena_chain.l0]
        rw [if_pos trivial]
    · have ew : wrap64 ((l.length : Int) - 1) = (l.length : Int) - 1 := wrap64_id (by omega) (by omega)
      by_cases hr : 0 ≤ at_ ∧ at_ ≤ (l.length : Int) - 1
      · obtain ⟨p, rfl⟩ := Int.eq_ofNat_of_zero_le hr.1
        have hml := hi.1
        have er : rdOf false m (p : Int) = m.getD p false := rfl
        cases hmk : m.getD p false with
        | true =>
          refine .inr ⟨?_, chain_ring l fr hl m hi.1 hi.2.1 (fun j hj => ?_) (d + 1) c p hcd hmk⟩
          · refine Ev.step (f := fun _ => some false) (fun k => ?_) (Ev.now _)
            simp only [spec_ArenaOk.l0]
            rw [if_neg ha, spec_in, ew, decide_eq_true hr, Option.bind_some, if_pos rfl, if_pos (by omega), if_pos (by omega), er, if_pos hmk]
          · rcases hi.2.2 j hj with h | h
            · exact ⟨p, h, hmk⟩
            · exact h
        | false =>
          cases hus : (sl l p).f1 with
          | true =>
            refine .inr ⟨?_, ?_⟩
            · refine Ev.step (f := fun _ => some false) (fun k => ?_) (Ev.now _)
              simp only [spec_ArenaOk.l0]
              rw [if_neg ha, spec_in, ew, decide_eq_true hr, Option.bind_some, if_pos rfl, if_pos (by omega), if_pos (by omega), er, if_neg (by rw [hmk]; simp), if_pos (by omega), rd_sl, if_pos hus]
            · refine Ev.step (f := fun _ => some (-1)) (fun k => ?_) (Ev.now _)
              simp only [impl_Arena_chain.l0]
              rw [if_neg ha, impl_in, ew, decide_eq_true hr, Option.bind_some, if_pos rfl, if_pos (by omega), if_pos (by omega), rd_sl, if_pos hus]
          | false =>
            have hset : ∀ j, (m.set p true).getD j false = true ↔ j = p ∨ m.getD j false = true := by
              intro j
              rw [List.getD_eq_getElem?_getD, List.getD_eq_getElem?_getD, List.getElem?_set]
              by_cases hj : p = j
              · subst hj
                simp [show p < m.length by omega]
              · simp [hj, Ne.symm hj]
            have hi' : MarkInv l (m.set p true) (sl l p).f4 := by
              refine ⟨by simpa using hi.1, fun j hj => ?_, fun j hj => ?_⟩
              · rcases (hset j).1 hj with rfl | h
                · exact hus
                · exact hi.2.1 j h
              · rcases (hset j).1 hj with rfl | h
                · exact .inl rfl
                · rcases hi.2.2 j h with h | ⟨q, h1, h2⟩
                  · exact .inr ⟨p, h, (hset p).2 (.inl rfl)⟩
                  · exact .inr ⟨q, h1, (hset q).2 (.inr h2)⟩
            have hcount := count_set m p (by omega) hmk
            have hspec : ∀ r, Ev (fun k => spec_ArenaOk.l0 k (l.length : Int) (m.set p true) (sl l p).f4 l fr) r → Ev (fun k => spec_ArenaOk.l0 k (l.length : Int) m (p : Int) l fr) r := fun r h => by
              refine Ev.step (fun k => ?_) h
              simp only [spec_ArenaOk.l0]
              rw [if_neg ha, spec_in, ew, decide_eq_true hr, Option.bind_some, if_pos rfl, if_pos (by omega), if_pos (by omega), er, if_neg (by rw [hmk]; simp), if_pos (by omega), rd_sl, if_neg (by rw [hus]; simp)]
              rfl
            have himpl : ∀ r, Ev (fun k => impl_Arena_chain.l0 k ((c + 1 : Nat) : Int) (sl l p).f4 l fr) r → Ev (fun k => impl_Arena_chain.l0 k (c : Int) (p : Int) l fr) r := fun r h => by
              refine Ev.step (fun k => ?_) h
              simp only [impl_Arena_chain.l0]
              rw [if_neg ha, impl_in, ew, decide_eq_true hr, Option.bind_some, if_pos rfl, if_pos (by omega), if_pos (by omega), rd_sl, if_neg (by rw [hus]; simp), if_neg (by omega), wrap64_id (by omega) (by omega)]
              rfl
            rcases ih (m.set p true) (c + 1) (sl l p).f4 (by omega) (by omega) hi' with ⟨m', h1, h2, h3, h4⟩ | ⟨h1, h2⟩
            · exact .inl ⟨m', h1, h2, fun r hr => hspec r (h3 r hr), himpl _ h4⟩
            · exact .inr ⟨hspec _ h1, himpl _ h2⟩
      · refine .inr ⟨?_, ?_⟩
        · refine Ev.step (f := fun _ => some false) (fun k => ?_) (Ev.now _)
          simp only [spec_ArenaOk.l0]
          rw [if_neg ha, spec_in, ew, decide_eq_false hr, Option.bind_some, if_neg (by simp)]
        · refine Ev.step (f := fun _ => some (-1)) (fun k => ?_) (Ev.now _)
          simp only [impl_Arena_chain.l0]
          rw [if_neg ha, impl_in, ew, decide_eq_false hr, Option.bind_some, if_neg (by simp)]
/-- The reference's look at each slot. -/
theorem spec_look_loop (l : List S50) (fr : Int) (hl : l.length ≤ 1048576) (m : List Bool) (hm : m.length = l.length) (d : Nat) : ∀ i : Nat, l.length - i = d →
    Ev (fun k => spec_ArenaOk.l1 k (l.length : Int) m (i : Int) l fr) (tr (∀ j, i ≤ j → j < l.length → SlotRight (sl l j) ∧ (sl l j).f1 = !(m.getD j false))) := by
  induction d with
  | zero =>
    intro i hd
    rw [tr_true (fun j h1 h2 => by omega)]
    refine Ev.step (f := fun _ => some true) (fun k => ?_) (Ev.now _)
    simp only [spec_ArenaOk.l1]
    rw [if_neg (by omega)]
  | succ d ih =>
    intro i hd
    have hlt : i < l.length := by omega
    have hall := all_from (P := fun j => SlotRight (sl l j) ∧ (sl l j).f1 = !(m.getD j false)) hlt
    have er : rdOf false m (i : Int) = m.getD i false := rfl
    have e2 : Aside0 (wrap64 ((i : Int) + 1) = ((i + 1 : Nat) : Int)) := ⟨by rw [wrap64_id (by omega) (by omega)]; omega⟩
    have hno : ∀ {b : Bool}, ¬ (SlotRight (sl l i) ∧ (sl l i).f1 = !(m.getD i false)) → tr (∀ j, i ≤ j → j < l.length → SlotRight (sl l j) ∧ (sl l j).f1 = !(m.getD j false)) = false := fun h => tr_false (fun z => h (hall.1 z).1)
    have hyes : (SlotRight (sl l i) ∧ (sl l i).f1 = !(m.getD i false)) → tr (∀ j, i ≤ j → j < l.length → SlotRight (sl l j) ∧ (sl l j).f1 = !(m.getD j false)) = tr (∀ j, i + 1 ≤ j → j < l.length → SlotRight (sl l j) ∧ (sl l j).f1 = !(m.getD j false)) := fun h => tr_congr (hall.trans ⟨fun z => z.2, fun z => ⟨h, z⟩⟩)
    by_cases hg : 0 ≤ (sl l i).f0 ∧ (sl l i).f0 ≤ 41666665
    · refine Ev.step (f := fun k => spec_ArenaOk.j2 k (l.length : Int) m (i : Int) ((sl l i).f1 == m.getD i false) l fr (sl l i).f0 (sl l i).f1 (sl l i).f2 (sl l i).f3 (sl l i).f4) (fun k => ?_) ?_
      · simp only [spec_ArenaOk.l1]
        rw [if_pos (by omega), if_pos (by omega), if_pos (by omega), rd_sl, spec_in, decide_eq_true hg, Option.bind_some, if_pos rfl, if_pos (by omega), er]
      · by_cases hmk : ((sl l i).f1 == m.getD i false) = true
        · rw [hno (b := true) (fun h => by
            have h2 := h.2
            rw [eq_of_beq hmk] at h2
            cases m.getD i false <;> simp at h2)]
          refine Ev.step (f := fun _ => some false) (fun k => ?_) (Ev.now _)
          simp only [spec_ArenaOk.j2]
          rw [if_pos hmk]
        · have hmk' : (sl l i).f1 = !(m.getD i false) := by
            cases h1 : (sl l i).f1 <;> cases h2 : m.getD i false <;> rw [h1, h2] at hmk <;> simp at hmk ⊢
          cases hus : (sl l i).f1 with
          | true =>
            rw [hus] at hmk
            by_cases hk : 1 ≤ ((sl l i).f2.size : Int) ∧ ((sl l i).f2.size : Int) ≤ 12
            · by_cases hv : ((sl l i).f3.size : Int) > 20
              · rw [hno (b := true) (fun h => by
                  have h1 := h.1.2
                  rw [if_pos hus] at h1
                  omega)]
                refine Ev.step (f := fun _ => some false) (fun k => ?_) (Ev.now _)
                simp only [spec_ArenaOk.j2]
                rw [if_neg hmk, if_pos trivial, spec_in, decide_eq_true hk, Option.bind_some, if_pos rfl, if_pos hv]
              · by_cases hx : (sl l i).f4 = 0
                · rw [hyes ⟨⟨hg, by rw [if_pos hus]; exact ⟨hk, by omega, hx⟩⟩, hmk'⟩]
                  refine Ev.step (fun k => ?_) (ih (i + 1) (by omega))
                  simp only [spec_ArenaOk.j2]
                  rw [if_neg hmk, if_pos trivial, spec_in, decide_eq_true hk, Option.bind_some, if_pos rfl, if_neg hv, if_pos hx, e2.out]
                · rw [hno (b := true) (fun h => by
                    have h1 := h.1.2
                    rw [if_pos hus] at h1
                    exact hx h1.2.2)]
                  refine Ev.step (f := fun _ => some false) (fun k => ?_) (Ev.now _)
                  simp only [spec_ArenaOk.j2]
                  rw [if_neg hmk, if_pos trivial, spec_in, decide_eq_true hk, Option.bind_some, if_pos rfl, if_neg hv, if_neg hx]
            · rw [hno (b := true) (fun h => by
                have h1 := h.1.2
                rw [if_pos hus] at h1
                exact hk h1.1)]
              refine Ev.step (f := fun _ => some false) (fun k => ?_) (Ev.now _)
              simp only [spec_ArenaOk.j2]
              rw [if_neg hmk, if_pos trivial, spec_in, decide_eq_false hk, Option.bind_some, if_neg (by simp)]
          | false =>
            rw [hus] at hmk
            by_cases hk : (sl l i).f2.toList = ([] : List UInt8)
            · by_cases hv : (sl l i).f3.toList = ([] : List UInt8)
              · rw [hyes ⟨⟨hg, by rw [if_neg (by rw [hus]; simp)]; exact ⟨hk, hv⟩⟩, hmk'⟩]
                refine Ev.step (fun k => ?_) (ih (i + 1) (by omega))
                simp only [spec_ArenaOk.j2]
                rw [if_neg hmk, if_neg (by simp), if_pos hk, if_pos hv, e2.out]
              · rw [hno (b := true) (fun h => by
                  have h1 := h.1.2
                  rw [if_neg (by rw [hus]; simp)] at h1
                  exact hv h1.2)]
                refine Ev.step (f := fun _ => some false) (fun k => ?_) (Ev.now _)
                simp only [spec_ArenaOk.j2]
                rw [if_neg hmk, if_neg (by simp), if_pos hk, if_neg hv]
            · rw [hno (b := true) (fun h => by
                have h1 := h.1.2
                rw [if_neg (by rw [hus]; simp)] at h1
                exact hk h1.1)]
              refine Ev.step (f := fun _ => some false) (fun k => ?_) (Ev.now _)
              simp only [spec_ArenaOk.j2]
              rw [if_neg hmk, if_neg (by simp), if_neg hk]
    · rw [hno (b := true) (fun h => hg h.1.1)]
      refine Ev.step (f := fun k => spec_ArenaOk.j2 k (l.length : Int) m (i : Int) true l fr (sl l i).f0 (sl l i).f1 (sl l i).f2 (sl l i).f3 (sl l i).f4) (fun k => ?_) (Ev.step (f := fun _ => some false) (fun k => ?_) (Ev.now _))
      · simp only [spec_ArenaOk.l1]
        rw [if_pos (by omega), if_pos (by omega), if_pos (by omega), rd_sl, spec_in, decide_eq_false hg, Option.bind_some, if_neg (by simp)]
      · simp only [spec_ArenaOk.j2]
        rw [if_pos trivial]
/-- The program's look at one slot. -/
theorem impl_slot (x : S50) : impl_slotOk.f x.f0 x.f1 x.f2 x.f3 x.f4 = some (tr (SlotRight x)) := by
  unfold impl_slotOk.f impl_isKey.f
  rw [impl_in]
  by_cases hg : 0 ≤ x.f0 ∧ x.f0 ≤ 41666665
  · rw [decide_eq_true hg, Option.bind_some, if_pos rfl]
    cases hus : x.f1 with
    | true =>
      rw [if_pos rfl, impl_in]
      simp only [Option.bind_some]
      by_cases hk : 1 ≤ (x.f2.size : Int) ∧ (x.f2.size : Int) ≤ 12
      · rw [decide_eq_true hk, if_pos rfl]
        by_cases hv : (x.f3.size : Int) ≤ 20
        · rw [if_pos hv]
          by_cases hx : x.f4 = 0
          · rw [tr_true ⟨hg, by rw [if_pos hus]; exact ⟨hk, hv, hx⟩⟩, hx]
            rfl
          · rw [tr_false (fun h => by
              have h1 := h.2
              rw [if_pos hus] at h1
              exact hx h1.2.2), beq_eq_false_iff_ne.2 hx]
        · rw [if_neg hv, tr_false (fun h => by
            have h1 := h.2
            rw [if_pos hus] at h1
            exact hv h1.2.1)]
      · rw [decide_eq_false hk, if_neg (by simp), tr_false (fun h => by
          have h1 := h.2
          rw [if_pos hus] at h1
          exact hk h1.1)]
    | false =>
      rw [if_neg (by simp)]
      by_cases hk : x.f2.toList = ([] : List UInt8)
      · rw [if_pos hk]
        by_cases hv : x.f3.toList = ([] : List UInt8)
        · rw [tr_true ⟨hg, by rw [if_neg (by rw [hus]; simp)]; exact ⟨hk, hv⟩⟩, hv]
          rfl
        · rw [tr_false (fun h => by
            have h1 := h.2
            rw [if_neg (by rw [hus]; simp)] at h1
            exact hv h1.2), beq_eq_false_iff_ne.2 hv]
      · rw [if_neg hk, tr_false (fun h => by
          have h1 := h.2
          rw [if_neg (by rw [hus]; simp)] at h1
          exact hk h1.1)]
  · rw [decide_eq_false hg, Option.bind_some, if_neg (by simp), tr_false (fun h => hg h.1)]
/-- How many are used. -/
def usedN (l : List S50) : Nat := (l.map (·.f1)).count true
theorem usedN_le (l : List S50) : usedN l ≤ l.length := by
  unfold usedN
  have := List.count_le_length (a := true) (l := l.map (·.f1))
  simpa using this
theorem impl_used_loop (l : List S50) (hl : l.length ≤ 1048576) (d : Nat) : ∀ (n i : Nat), l.length - i = d → n ≤ i → i ≤ l.length → Ev (fun k => impl_Arena_used.l0 k (n : Int) l (l.length : Int) (i : Int)) ((n + usedN (l.drop i) : Nat) : Int) := by
  induction d with
  | zero =>
    intro n i hd hn hi
    have e : l.drop i = [] := List.drop_eq_nil_of_le (by omega)
    refine Ev.step (f := fun _ => some (n : Int)) (fun k => ?_) (by rw [e]; simpa [usedN] using Ev.now (n : Int))
    simp only [impl_Arena_used.l0]
    rw [if_neg (by omega)]
  | succ d ih =>
    intro n i hd hn hi
    have hlt : i < l.length := by omega
    have e : l.drop i = sl l i :: l.drop (i + 1) := by
      rw [List.drop_eq_getElem_cons hlt]
      congr 1
      simp [sl, List.getD_eq_getElem?_getD, List.getElem?_eq_getElem hlt]
    have e2 : Aside0 (wrap64 ((i : Int) + 1) = ((i + 1 : Nat) : Int)) := ⟨by rw [wrap64_id (by omega) (by omega)]; omega⟩
    have e3 : Aside0 (wrap64 ((n : Int) + 1) = ((n + 1 : Nat) : Int)) := ⟨by rw [wrap64_id (by omega) (by omega)]; omega⟩
    cases hus : (sl l i).f1 with
    | true =>
      have en : n + usedN (l.drop i) = (n + 1) + usedN (l.drop (i + 1)) := by rw [e]; simp [usedN, hus]; omega
      rw [en]
      refine Ev.step (fun k => ?_) (ih (n + 1) (i + 1) (by omega) (by omega) (by omega))
      simp only [impl_Arena_used.l0]
      rw [if_pos (by omega), if_pos (by omega), if_pos (by omega), rd_sl, if_pos hus, e2.out, e3.out]
    | false =>
      have en : n + usedN (l.drop i) = n + usedN (l.drop (i + 1)) := by rw [e]; simp [usedN, hus]
      rw [en]
      refine Ev.step (fun k => ?_) (ih n (i + 1) (by omega) (by omega) (by omega))
      simp only [impl_Arena_used.l0]
      rw [if_pos (by omega), if_pos (by omega), if_pos (by omega), rd_sl, if_neg (by rw [hus]; simp), e2.out]
theorem impl_used (l : List S50) (a : Int) (hl : l.length ≤ 1048576) : Ev (fun k => impl_Arena_used.f k l a) ((usedN l : Nat) : Int) := by
  simpa [impl_Arena_used.f] using impl_used_loop l hl _ 0 0 rfl (by omega) (by omega)
theorem impl_ok_loop (l : List S50) (fr : Int) (hl : l.length ≤ 1048576) (R : Bool) (hend : Ev (fun k => (impl_inRange.f (l.length : Int) 1 24).bind fun t168 => (if t168 = true then ((impl_Arena_chain.f k l fr).bind fun t169 => ((impl_Arena_used.f k l fr).bind fun t170 => (some (t169 == (wrap64 ((l.length : Int) - t170)))))) else (some false))) R) (d : Nat) :
    ∀ i : Nat, l.length - i = d → Ev (fun k => impl_ArenaOk.l0 k l (l.length : Int) (i : Int) l fr) (tr (∀ j, i ≤ j → j < l.length → SlotRight (sl l j)) && R) := by
  induction d with
  | zero =>
    intro i hd
    rw [tr_true (fun j h1 h2 => by omega), Bool.true_and]
    refine Ev.step (fun k => ?_) hend
    simp only [impl_ArenaOk.l0]
    rw [if_neg (by omega)]
  | succ d ih =>
    intro i hd
    have hlt : i < l.length := by omega
    have hall := all_from (P := fun j => SlotRight (sl l j)) hlt
    have e2 : Aside0 (wrap64 ((i : Int) + 1) = ((i + 1 : Nat) : Int)) := ⟨by rw [wrap64_id (by omega) (by omega)]; omega⟩
    by_cases h : SlotRight (sl l i)
    · rw [tr_congr (hall.trans ⟨fun z => z.2, fun z => ⟨h, z⟩⟩)]
      refine Ev.step (fun k => ?_) (ih (i + 1) (by omega))
      simp only [impl_ArenaOk.l0]
      rw [if_pos (by omega), if_pos (by omega), if_pos (by omega), rd_sl, impl_slot, tr_true h, Option.bind_some, if_pos rfl, e2.out]
    · rw [tr_false (fun z => h (hall.1 z).1), Bool.false_and]
      refine Ev.step (f := fun _ => some false) (fun k => ?_) (Ev.now _)
      simp only [impl_ArenaOk.l0]
      rw [if_pos (by omega), if_pos (by omega), if_pos (by omega), rd_sl, impl_slot, tr_false h, Option.bind_some, if_neg (by simp)]
/-- What a right place has. -/
def ArRight (l : List S50) : Prop := 1 ≤ l.length ∧ l.length ≤ 24 ∧ ∀ j, j < l.length → SlotRight (sl l j)
theorem arena_both (l : List S50) (fr : Int) (hl : l.length ≤ 1048576) : ∃ r, Ev (fun k => spec_ArenaOk.f k l fr) r ∧ Ev (fun k => impl_ArenaOk.f k l fr) r ∧ (r = true → ArRight l) := by
  have en : ((l.length : Int)).toNat = l.length := by omega
  by_cases hn : 1 ≤ (l.length : Int) ∧ (l.length : Int) ≤ 24
  · have hm0 : MarkInv l (List.replicate l.length false) fr := ⟨by simp, fun j hj => by
      have := mark_lt hj
      simp at this
      simp [List.getD_eq_getElem?_getD, this] at hj, fun j hj => by
      have := mark_lt hj
      simp at this
      simp [List.getD_eq_getElem?_getD, this] at hj⟩
    have hc0 : (List.replicate l.length false).count true = 0 := by simp [List.count_replicate]
    have hu := impl_used l fr hl
    have hul := usedN_le l
    have ew : wrap64 ((l.length : Int) - ((usedN l : Nat) : Int)) = ((l.length - usedN l : Nat) : Int) := by rw [wrap64_id (by omega) (by omega)]; omega
    have hsp : ∀ r, Ev (fun k => spec_ArenaOk.l0 k (l.length : Int) (List.replicate l.length false) fr l fr) r → Ev (fun k => spec_ArenaOk.f k l fr) r := fun r h => by
      unfold spec_ArenaOk.f
      simp only [spec_in, decide_eq_true hn, Option.bind_some, if_true, en, if_pos (show 0 ≤ (l.length : Int) by omega), if_pos (show l.length ≤ 281474976710656 by omega)]
      exact h
    have him : ∀ c, Ev (fun k => impl_Arena_chain.l0 k ((0 : Nat) : Int) fr l fr) c → Ev (fun k => impl_ArenaOk.f k l fr) (tr (∀ j, 0 ≤ j → j < l.length → SlotRight (sl l j)) && (c == ((l.length - usedN l : Nat) : Int))) := fun c h => by
      refine impl_ok_loop l fr hl _ ?_ _ 0 rfl
      simp only [impl_in, decide_eq_true hn, Option.bind_some, if_true]
      refine Ev.bind (show Ev (fun k => impl_Arena_chain.f k l fr) c from h) (Ev.bind hu ?_)
      simp only [ew]
      exact Ev.now _
    rcases chain_both l fr hl (by omega) l.length (List.replicate l.length false) 0 fr hc0 (by omega) hm0 with ⟨m', h1, h2, h3, h4⟩ | ⟨h1, h2⟩
    · have hs := hsp _ (h3 _ (spec_look_loop l fr hl m' h1 _ 0 rfl))
      have hi := him _ h4
      have hmu := marks_used m' (l.map (·.f1)) (by simpa using h1) (fun j hj => by
        have hlt := mark_lt hj
        rw [h1] at hlt
        have := h2 j hj
        simp [List.getD_eq_getElem?_getD, List.getElem?_eq_getElem hlt, sl] at this ⊢
        exact this)
      have e : (tr (∀ j, 0 ≤ j → j < l.length → SlotRight (sl l j)) && (((m'.count true : Nat) : Int) == ((l.length - usedN l : Nat) : Int))) = tr (∀ j, 0 ≤ j → j < l.length → SlotRight (sl l j) ∧ (sl l j).f1 = !(m'.getD j false)) := by
        have hq : (((m'.count true : Nat) : Int) == ((l.length - usedN l : Nat) : Int)) = tr (∀ j, 0 ≤ j → j < l.length → (sl l j).f1 = !(m'.getD j false)) := by
          rw [show ((((m'.count true : Nat) : Int) == ((l.length - usedN l : Nat) : Int)) = decide (((m'.count true : Nat) : Int) = ((l.length - usedN l : Nat) : Int))) from rfl, tr_dec]
          refine tr_congr ?_
          have hmu2 := hmu.2
          unfold usedN at *
          constructor
          · intro hh j _ hj
            have := hmu2.1 (by omega) j (by omega)
            rw [← this]
            simp [sl, List.getD_eq_getElem?_getD, List.getElem?_eq_getElem hj]
          · intro hh
            have := hmu2.2 (fun j hj => by
              have := hh j (by omega) (by omega)
              rw [← this]
              simp [sl, List.getD_eq_getElem?_getD, List.getElem?_eq_getElem (show j < l.length by omega)])
            omega
        rw [hq, ← tr_and]
        exact tr_congr ⟨fun z j h0 hj => ⟨z.1 j h0 hj, z.2 j h0 hj⟩, fun z => ⟨fun j h0 hj => (z j h0 hj).1, fun j h0 hj => (z j h0 hj).2⟩⟩
      rw [e] at hi
      exact ⟨_, hs, hi, fun hr => ⟨by omega, by omega, fun j hj => ((tr_iff.1 hr) j (by omega) hj).1⟩⟩
    · refine ⟨false, hsp _ h1, ?_, fun h => by cases h⟩
      have := him _ h2
      rw [show ((-1 : Int) == ((l.length - usedN l : Nat) : Int)) = false from beq_eq_false_iff_ne.2 (by omega), Bool.and_false] at this
      exact this
  · refine ⟨false, ?_, ?_, fun h => by cases h⟩
    · unfold spec_ArenaOk.f
      simp only [spec_in, decide_eq_false hn, Option.bind_some]
      simp
      exact Ev.now _
    · have := impl_ok_loop l fr hl false (by
        simp only [impl_in, decide_eq_false hn, Option.bind_some]
        simp
        exact Ev.now _) _ 0 rfl
      rw [Bool.and_false] at this
      exact this

/-! ### a right place by its chain -/
def Chain (l : List S50) : List Nat → Int → Prop
  | [], at_ => at_ = -1
  | p :: r, at_ => at_ = (p : Int) ∧ p < l.length ∧ Chain l r (sl l p).f4
def ArP (l : List S50) (fr : Int) : Prop := ArRight l ∧ ∃ path : List Nat, path.Nodup ∧ Chain l path fr ∧ ∀ j, j < l.length → (j ∈ path ↔ (sl l j).f1 = false)
theorem Chain.lt {l : List S50} : ∀ {path : List Nat} {at_ : Int}, Chain l path at_ → ∀ j ∈ path, j < l.length
  | [], _, _, j, hj => absurd hj (by simp)
  | p :: r, _, h, j, hj => by
    rcases List.mem_cons.1 hj with rfl | hj
    · exact h.2.1
    · exact Chain.lt h.2.2 j hj
theorem Chain.congr {l l' : List S50} (hl : l'.length = l.length) : ∀ {path : List Nat} {at_ : Int}, Chain l path at_ → (∀ j ∈ path, (sl l' j).f4 = (sl l j).f4) → Chain l' path at_
  | [], _, h, _ => h
  | p :: r, _, h, hs => ⟨h.1, by rw [hl]; exact h.2.1, by rw [hs p (List.mem_cons_self ..)]; exact Chain.congr hl h.2.2 (fun j hj => hs j (List.mem_cons_of_mem _ hj))⟩
theorem Ev.same {α : Type} {g : Nat → Option α} {a b : α} (h : Ev g a) (k : Ev g b) : a = b := by
  obtain ⟨x, hx⟩ := h
  obtain ⟨y, hy⟩ := k
  exact Option.some.inj ((hx (max x y) (Nat.le_max_left ..)).symm.trans (hy (max x y) (Nat.le_max_right ..)))
theorem sl_get (l : List S50) (j : Nat) (h : j < l.length) : sl l j = l[j] := by unfold sl; rw [List.getD_eq_getElem?_getD, List.getElem?_eq_getElem h]; rfl
theorem sl_set (l : List S50) (q : Nat) (v : S50) (j : Nat) (hj : j < l.length) : sl (l.set q v) j = if j = q then v else sl l j := by
  unfold sl
  rw [List.getD_eq_getElem?_getD, List.getD_eq_getElem?_getD]
  by_cases h : j = q
  · subst h
    rw [List.getElem?_set_self hj, if_pos rfl]
    rfl
  · rw [List.getElem?_set_ne (by omega), if_neg h]
theorem used_filter (l : List S50) : usedN l + ((List.range l.length).filter fun j => !(sl l j).f1).length = l.length := by
  have e : l.map (·.f1) = (List.range l.length).map fun j => (sl l j).f1 := by
    refine List.ext_getElem (by simp) (fun i h1 h2 => ?_)
    simp only [List.getElem_map, List.getElem_range]
    rw [sl_get l i (by simpa using h1)]
  unfold usedN
  rw [e, List.count_eq_countP, List.countP_map, ← List.countP_eq_length_filter]
  have h := List.length_eq_countP_add_countP (fun j => (sl l j).f1) (l := List.range l.length)
  rw [List.length_range] at h
  have e1 : List.countP ((fun x => x == true) ∘ fun j => (sl l j).f1) (List.range l.length) = List.countP (fun j => (sl l j).f1) (List.range l.length) := by
    refine List.countP_congr (fun x _ => by simp)
  have e2 : List.countP (fun j => !(sl l j).f1) (List.range l.length) = List.countP (fun a => decide ¬(sl l a).f1 = true) (List.range l.length) := by
    refine List.countP_congr (fun x _ => by simp)
  rw [e1, e2]
  omega
theorem path_len {l : List S50} {fr : Int} {path : List Nat} (hn : path.Nodup) (hc : Chain l path fr) (hm : ∀ j, j < l.length → (j ∈ path ↔ (sl l j).f1 = false)) : usedN l + path.length = l.length := by
  have hp : path.Perm ((List.range l.length).filter fun j => !(sl l j).f1) := by
    refine (List.perm_ext_iff_of_nodup hn (List.nodup_range.filter _)).2 (fun j => ?_)
    rw [List.mem_filter, List.mem_range]
    constructor
    · intro hj
      have hlt := hc.lt j hj
      exact ⟨hlt, by rw [(hm j hlt).1 hj]; rfl⟩
    · rintro ⟨hlt, hf⟩
      exact (hm j hlt).2 (by simpa using hf)
  rw [hp.length_eq]
  exact used_filter l
theorem impl_chain_path (l : List S50) (fr : Int) (hl : l.length ≤ 1048576) (hu : ∀ j, j < l.length → True) : ∀ (path : List Nat) (at_ : Int) (c : Nat), Chain l path at_ → (∀ j ∈ path, (sl l j).f1 = false) → c + path.length ≤ l.length → Ev (fun k => impl_Arena_chain.l0 k (c : Int) at_ l fr) ((c + path.length : Nat) : Int)
  | [], at_, c, hc, _, _ => by
    have hc' : at_ = -1 := hc
    refine Ev.step (f := fun _ => some (c : Int)) (fun k => ?_) (Ev.now _)
    simp only [impl_Arena_chain.l0]
    rw [if_pos hc']
  | p :: r, at_, c, hc, hf, hlen => by
    obtain ⟨rfl, hp, hr⟩ := hc
    simp only [List.length_cons] at hlen ⊢
    have ih := impl_chain_path l fr hl hu r _ (c + 1) hr (fun j hj => hf j (List.mem_cons_of_mem _ hj)) (by omega)
    rw [show c + (r.length + 1) = c + 1 + r.length by omega]
    have hus := hf p (List.mem_cons_self ..)
    refine Ev.step (fun k => ?_) ih
    simp only [impl_Arena_chain.l0]
    rw [if_neg (by omega), impl_in, wrap64_id (x := (l.length : Int) - 1) (by omega) (by omega), decide_eq_true (by omega), Option.bind_some, if_pos rfl, if_pos (by omega), if_pos (by omega), rd_sl, if_neg (by rw [hus]; simp), if_neg (by omega), wrap64_id (by omega) (by omega)]
    rfl
theorem arena_true {l : List S50} {fr : Int} (h : ArP l fr) : Ev (fun k => spec_ArenaOk.f k l fr) true ∧ Ev (fun k => impl_ArenaOk.f k l fr) true := by
  obtain ⟨⟨h1, h2, h3⟩, path, hn, hc, hm⟩ := h
  have hl : l.length ≤ 1048576 := by omega
  obtain ⟨r, hS, hI, _⟩ := arena_both l fr hl
  have hp := path_len hn hc hm
  have hch := impl_chain_path l fr hl (fun _ _ => trivial) path fr 0 hc (fun j hj => (hm j (hc.lt j hj)).1 hj) (by omega)
  have hu := impl_used l fr hl
  have ew : wrap64 ((l.length : Int) - ((usedN l : Nat) : Int)) = ((l.length - usedN l : Nat) : Int) := by rw [wrap64_id (by omega) (by omega)]; omega
  have hI2 : Ev (fun k => impl_ArenaOk.f k l fr) (tr (∀ j, 0 ≤ j → j < l.length → SlotRight (sl l j)) && (((0 + path.length : Nat) : Int) == ((l.length - usedN l : Nat) : Int))) := by
    refine impl_ok_loop l fr hl _ ?_ _ 0 rfl
    simp only [impl_in, decide_eq_true (show 1 ≤ (l.length : Int) ∧ (l.length : Int) ≤ 24 by omega), Option.bind_some, if_true]
    refine Ev.bind (show Ev (fun k => impl_Arena_chain.f k l fr) _ from hch) (Ev.bind hu ?_)
    simp only [ew]
    exact Ev.now _
  rw [tr_true (fun j _ hj => h3 j hj), Bool.true_and, show (((0 + path.length : Nat) : Int) == ((l.length - usedN l : Nat) : Int)) = true from beq_iff_eq.2 (by omega)] at hI2
  have e := Ev.same hI hI2
  rw [e] at hS hI
  exact ⟨hS, hI⟩

theorem handle_of {n gen : Int} {k : Nat} (hk : k < 24) (h0 : 0 ≤ gen) (h1 : gen ≤ 41666665) : wrap64 (wrap64 (24 * gen) + (k : Int)) = 24 * gen + (k : Int) ∧ Int.tmod (24 * gen + (k : Int)) 24 = (k : Int) ∧ wrap64 (Int.tdiv (24 * gen + (k : Int)) 24) = gen := by
  rw [wrap64_id (x := 24 * gen) (by omega) (by omega), wrap64_id (by omega) (by omega), Int.tmod_eq_emod_of_nonneg (by omega), Int.tdiv_eq_ediv_of_nonneg (by omega)]
  refine ⟨rfl, by omega, ?_⟩
  rw [wrap64_id (by omega) (by omega)]
  omega
theorem copy_slots (l : List S50) (fr : Int) (h : l.length ≤ 24) : spec_l03Copy.f l fr = some (l, fr) := by
  unfold spec_l03Copy.f
  rw [Option.bind_some, if_pos (by simp; omega)]
  rfl
/-! ### what a drawn place is made by -/
theorem ArP.lay {l : List S50} {p : Nat} {key val : ByteArray} (h : ArP l (p : Int)) (hk : 1 ≤ (key.size : Int) ∧ (key.size : Int) ≤ 12) (hv : (val.size : Int) ≤ 20) : p < l.length ∧ ArP (l.set p ⟨(sl l p).f0, true, key, val, 0⟩) (sl l p).f4 := by
  obtain ⟨⟨h1, h2, h3⟩, path, hn, hc, hm⟩ := h
  cases path with
  | nil =>
    have hc' : (p : Int) = -1 := hc
    omega
  | cons q r =>
    obtain ⟨e, hq, hr⟩ := hc
    obtain rfl : p = q := by omega
    have hpr : p ∉ r := (List.nodup_cons.1 hn).1
    refine ⟨hq, ⟨by simpa using h1, by simpa using h2, fun j hj => ?_⟩, r, (List.nodup_cons.1 hn).2, ?_, fun j hj => ?_⟩
    · have hj' : j < l.length := by simpa using hj
      rw [sl_set l p _ j hj']
      split
      · exact ⟨(h3 p hq).1, by simp only [if_true]; exact ⟨hk, hv, trivial⟩⟩
      · exact h3 j hj'
    · refine Chain.congr (by simp) hr (fun j hj => ?_)
      rw [sl_set l p _ j (hr.lt j hj), if_neg (fun z : j = p => hpr (z ▸ hj))]
    · have hj' : j < l.length := by simpa using hj
      rw [sl_set l p _ j hj']
      by_cases e2 : j = p
      · subst e2
        rw [if_pos rfl]
        exact ⟨fun z => absurd z hpr, fun z => by cases z⟩
      · rw [if_neg e2, ← hm j hj', List.mem_cons]
        exact ⟨fun z => .inr z, fun z => z.resolve_left e2⟩
theorem ArP.lift {l : List S50} {fr : Int} {k : Nat} {gen : Int} (h : ArP l fr) (hk : k < l.length) (hu : (sl l k).f1 = true) (h0 : 0 ≤ gen) (h1 : gen ≤ 41666665) : ArP (l.set k ⟨gen, false, (⟨#[]⟩ : ByteArray), (⟨#[]⟩ : ByteArray), fr⟩) (k : Int) := by
  obtain ⟨⟨g1, g2, g3⟩, path, hn, hc, hm⟩ := h
  have hkp : k ∉ path := fun z => by rw [(hm k hk).1 z] at hu; cases hu
  have en : (⟨#[]⟩ : ByteArray).toList = [] := by rw [Lib.toList_data]
  refine ⟨⟨by simpa using g1, by simpa using g2, fun j hj => ?_⟩, k :: path, List.nodup_cons.2 ⟨hkp, hn⟩, ⟨rfl, by simpa using hk, ?_⟩, fun j hj => ?_⟩
  · have hj' : j < l.length := by simpa using hj
    rw [sl_set l k _ j hj']
    split
    · exact ⟨⟨h0, h1⟩, by simp only [Bool.false_eq_true, if_false]; exact ⟨en, en⟩⟩
    · exact g3 j hj'
  · rw [sl_set l k _ k hk, if_pos rfl]
    refine Chain.congr (by simp) hc (fun j hj => ?_)
    rw [sl_set l k _ j (hc.lt j hj), if_neg (fun z : j = k => hkp (z ▸ hj))]
  · have hj' : j < l.length := by simpa using hj
    rw [sl_set l k _ j hj', List.mem_cons]
    by_cases e2 : j = k
    · subst e2
      simp
    · rw [if_neg e2, ← hm j hj']
      exact ⟨fun z => z.resolve_left e2, fun z => .inr z⟩
theorem ArP.gen {l : List S50} {fr : Int} {k : Nat} {gen : Int} (h : ArP l fr) (hk : k < l.length) (h0 : 0 ≤ gen) (h1 : gen ≤ 41666665) : ArP (l.set k ⟨gen, (sl l k).f1, (sl l k).f2, (sl l k).f3, (sl l k).f4⟩) fr := by
  obtain ⟨⟨g1, g2, g3⟩, path, hn, hc, hm⟩ := h
  refine ⟨⟨by simpa using g1, by simpa using g2, fun j hj => ?_⟩, path, hn, Chain.congr (by simp) hc (fun j hj => ?_), fun j hj => ?_⟩
  · have hj' : j < l.length := by simpa using hj
    rw [sl_set l k _ j hj']
    split
    · exact ⟨⟨h0, h1⟩, (g3 k hk).2⟩
    · exact g3 j hj'
  · rw [sl_set l k _ j (hc.lt j hj)]
    split
    · rename_i e; rw [e]
    · rfl
  · have hj' : j < l.length := by simpa using hj
    rw [sl_set l k _ j hj', hm j hj']
    split
    · rename_i e; rw [e]
    · rfl
/-! ### the calls -/
theorem lay_ev {l : List S50} {fr : Int} {key val : ByteArray} (h : ArP l fr) (hk : 1 ≤ (key.size : Int) ∧ (key.size : Int) ≤ 12) (hv : (val.size : Int) ≤ 20) : ∃ l' fr' hd b, Ev (fun k => spec_Lay.f k l fr key val) (l', fr', hd, b) ∧ (b = true → ArP l' fr') := by
  have ht := (arena_true h).1
  have h2 := h.1.2.1
  have h3 := h.1.2.2
  by_cases e : fr = -1
  · refine ⟨[], 0, 0, false, ?_, fun z => by cases z⟩
    unfold spec_Lay.f
    refine Ev.bind ht ?_
    simp only [if_true, if_pos e]
    exact Ev.now _
  · obtain ⟨p, rfl⟩ : ∃ p : Nat, fr = (p : Int) := by
      obtain ⟨_, path, _, hc, _⟩ := h
      cases path with
      | nil => exact absurd hc e
      | cons q r => exact ⟨q, hc.1⟩
    obtain ⟨hp, hA⟩ := h.lay hk hv
    refine ⟨_, _, wrap64 ((wrap64 (24 * (sl l p).f0)) + (p : Int)), true, ?_, fun _ => hA⟩
    unfold spec_Lay.f
    refine Ev.bind ht ?_
    simp only [if_true, if_neg e, spec_in, decide_eq_true hk, Option.bind_some, if_neg (show ¬ (val.size : Int) > 20 by omega), copy_slots l _ h2, if_pos (show (0 : Int) ≤ (p : Int) by omega), if_pos (show (p : Int) < (l.length : Int) by omega), rd_sl]
    exact Ev.now _
theorem spec_handle_ev {l : List S50} {fr : Int} {k : Nat} (h : ArP l fr) (hk : k < l.length) (hu : (sl l k).f1 = true) : Ev (fun n => spec_HandleOf.f n l fr (k : Int)) (24 * (sl l k).f0 + (k : Int)) := by
  have h2 := h.1.2.1
  obtain ⟨g0, g1⟩ := (h.1.2.2 k hk).1
  obtain ⟨e1, _, _⟩ := handle_of (n := 0) (show k < 24 by omega) g0 g1
  unfold spec_HandleOf.f
  refine Ev.bind (arena_true h).1 ?_
  simp only [if_true, spec_in, wrap64_id (x := (l.length : Int) - 1) (by omega) (by omega), decide_eq_true (show 0 ≤ (k : Int) ∧ (k : Int) ≤ (l.length : Int) - 1 by omega), Option.bind_some, if_pos (show (0 : Int) ≤ (k : Int) by omega), if_pos (show (k : Int) < (l.length : Int) by omega), rd_sl, if_pos hu, e1]
  exact Ev.now _
theorem lift_ev {l : List S50} {fr : Int} {k : Nat} (h : ArP l fr) (hk : k < l.length) (hu : (sl l k).f1 = true) : ∃ l' fr', Ev (fun n => spec_Lift.f n l fr (24 * (sl l k).f0 + (k : Int))) (l', fr', true) ∧ ArP l' fr' := by
  have h2 := h.1.2.1
  obtain ⟨g0, g1⟩ := (h.1.2.2 k hk).1
  obtain ⟨_, e2, e3⟩ := handle_of (n := 0) (show k < 24 by omega) g0 g1
  have hat : Ev (fun n => spec_l03At.f n l fr (24 * (sl l k).f0 + (k : Int))) (k : Int) := by
    unfold spec_l03At.f
    refine Ev.bind (arena_true h).1 ?_
    simp only [if_true, if_neg (show ¬ (24 * (sl l k).f0 + (k : Int)) < 0 by omega), e2, decide_eq_false (show ¬ (k : Int) ≥ (l.length : Int) by omega)]
    refine Ev.step (f := fun _ => some (k : Int)) (fun n => ?_) (Ev.now _)
    simp only [spec_l03At.j0]
    rw [if_neg (by simp), e2, if_pos (by omega), if_pos (by omega), rd_sl, if_pos hu, e3, if_pos rfl]
  have ew : wrap64 ((sl l k).f0 + 1) = (sl l k).f0 + 1 := wrap64_id (by omega) (by omega)
  by_cases hg : (sl l k).f0 + 1 > 41666665
  · refine ⟨_, _, ?_, h.lift (gen := 0) hk hu (by omega) (by omega)⟩
    unfold spec_Lift.f
    refine Ev.bind hat ?_
    simp only [if_neg (show ¬ (k : Int) < 0 by omega), copy_slots l fr h2, Option.bind_some, if_pos (show (0 : Int) ≤ (k : Int) by omega), if_pos (show (k : Int) < (l.length : Int) by omega), rd_sl, ew, if_pos hg]
    exact Ev.now _
  · refine ⟨_, _, ?_, h.lift (gen := (sl l k).f0 + 1) hk hu (by omega) (by omega)⟩
    unfold spec_Lift.f
    refine Ev.bind hat ?_
    simp only [if_neg (show ¬ (k : Int) < 0 by omega), copy_slots l fr h2, Option.bind_some, if_pos (show (0 : Int) ≤ (k : Int) by omega), if_pos (show (k : Int) < (l.length : Int) by omega), rd_sl, ew, if_neg hg]
    exact Ev.now _
/-! ### a new place -/
def newSlot (n i : Nat) : S50 := ⟨0, false, (⟨#[]⟩ : ByteArray), (⟨#[]⟩ : ByteArray), if i + 1 = n then -1 else ((i + 1 : Nat) : Int)⟩
def newSlots (n : Nat) : List S50 := (List.range n).map (newSlot n)
theorem new_loop (n : Nat) (hn : n ≤ 24) (d : Nat) : ∀ i : Nat, i + d = n → Ev (fun k => spec_ArenaNew.l0 k (n : Int) (i : Int) ((List.range i).map (newSlot n)) 0) (newSlots n, 0, true) := by
  induction d with
  | zero =>
    intro i hi
    obtain rfl : i = n := by omega
    refine Ev.step (f := fun _ => some (newSlots i, 0, true)) (fun k => ?_) (Ev.now _)
    simp only [spec_ArenaNew.l0]
    rw [if_neg (by omega)]
    rfl
  | succ d ih =>
    intro i hi
    have e2 : wrap64 ((i : Int) + 1) = ((i + 1 : Nat) : Int) := by rw [wrap64_id (by omega) (by omega)]; omega
    have hx : (List.range (i + 1)).map (newSlot n) = (List.range i).map (newSlot n) ++ [newSlot n i] := by rw [List.range_succ, List.map_append]; rfl
    have hh := ih (i + 1) (by omega)
    rw [hx] at hh
    refine Ev.step (fun k => ?_) hh
    simp only [spec_ArenaNew.l0]
    rw [if_pos (by omega), e2, if_pos (show ((List.range i).map (newSlot n)).length < 2513169434916 by simp; omega)]
    by_cases h : i + 1 = n
    · rw [if_pos (by omega)]
      unfold newSlot
      rw [if_pos h]
    · rw [if_neg (by omega), if_pos (show ((List.range i).map (newSlot n)).length < 2513169434916 by simp; omega)]
      unfold newSlot
      rw [if_neg h]
theorem new_sl (n i : Nat) (h : i < n) : sl (newSlots n) i = newSlot n i := by
  unfold newSlots
  rw [sl_get _ _ (by simpa using h), List.getElem_map, List.getElem_range]
theorem new_chain (n : Nat) (d : Nat) : ∀ i : Nat, i + d + 1 = n → Chain (newSlots n) (List.range' i (d + 1)) (i : Int) := by
  induction d with
  | zero =>
    intro i hi
    refine ⟨rfl, by simp [newSlots]; omega, ?_⟩
    rw [new_sl n i (by omega)]
    unfold newSlot
    rw [if_pos (by omega)]
    rfl
  | succ d ih =>
    intro i hi
    refine ⟨rfl, by simp [newSlots]; omega, ?_⟩
    rw [new_sl n i (by omega)]
    unfold newSlot
    rw [if_neg (by omega)]
    exact ih (i + 1) (by omega)
theorem new_right (n : Nat) (h1 : 1 ≤ n) (h2 : n ≤ 24) : ArP (newSlots n) 0 := by
  have en : (⟨#[]⟩ : ByteArray).toList = [] := by rw [Lib.toList_data]
  have hl : (newSlots n).length = n := by simp [newSlots]
  refine ⟨⟨by omega, by omega, fun j hj => ?_⟩, List.range' 0 n, List.nodup_range', ?_, fun j hj => ?_⟩
  · rw [new_sl n j (by omega)]
    exact ⟨⟨by simp [newSlot], by simp [newSlot]⟩, by simp only [newSlot, Bool.false_eq_true, if_false]; exact ⟨en, en⟩⟩
  · obtain ⟨d, rfl⟩ : ∃ d, n = d + 1 := ⟨n - 1, by omega⟩
    exact new_chain (d + 1) d 0 (by omega)
  · rw [new_sl n j (by omega), List.mem_range']
    refine ⟨fun _ => rfl, fun _ => ⟨j, by omega, by omega⟩⟩
theorem cur_val (b : List Int) (i h : Int) (hc : CurOk b i) : ∃ s i' h', spec_l03Val.f b i h = some (s, i', h') ∧ s.size ≤ 3 ∧ CurOk b i' := by
  obtain ⟨x, i', h', e, hm, hc'⟩ := cur_pick b i h [⟨#[]⟩, ⟨#[118]⟩, ⟨#[119]⟩, ⟨#[120, 120]⟩, ⟨#[121, 121, 121]⟩] (by decide) (by decide) hc
  unfold spec_l03Val.f
  rw [e, Option.bind_some]
  have hx : x.size ≤ 3 := by
    clear e
    simp only [List.mem_cons, List.not_mem_nil, or_false] at hm
    rcases hm with rfl | rfl | rfl | rfl | rfl <;> decide
  exact ⟨_, _, _, rfl, hx, hc'⟩
theorem draw_arena_loop (b : List Int) (d : Nat) : ∀ (l : List S50) (fr : Int) (i : Nat) (ci h : Int), 24 - i = d → i ≤ 24 → ArP l fr → CurOk b ci → ∃ l' fr' ci' h', ArP l' fr' ∧ CurOk b ci' ∧ Ev (fun k => spec_l03Arena.l0 k (i : Int) b ci h l fr) (l', fr', ci', h') := by
  have last : ∀ (l : List S50) (fr : Int) (i : Nat) (ci h n : Int) (ci1 h1 : Int), ArP l fr → CurOk b ci1 → spec_l01Below.f b ci h 24 = some (n, ci1, h1) → ¬ (i : Int) < n → ∃ l' fr' ci' h', ArP l' fr' ∧ CurOk b ci' ∧ Ev (fun k => spec_l03Arena.l0 k (i : Int) b ci h l fr) (l', fr', ci', h') := by
    intro l fr i ci h n ci1 h1 hok hc1 e hn
    have hl2 := hok.1.2.1
    have hl1 := hok.1.1
    obtain ⟨x, ci2, h2, e2, hc2⟩ := cur_once b ci1 h1 12 (by omega) hc1
    cases x with
    | true =>
      obtain ⟨y, ci3, h3, e3, y0, y1, hc3⟩ := cur_below b ci2 h2 (l.length : Int) (by omega) hc2
      obtain ⟨q, rfl⟩ := Int.eq_ofNat_of_zero_le y0
      have hq : q < l.length := by omega
      refine ⟨_, fr, ci3, h3, hok.gen (gen := 41666665) hq (by omega) (by omega), hc3, Ev.step (fun k => ?_) (Ev.now _)⟩
      simp only [spec_l03Arena.l0, e, Option.bind_some, if_neg hn, e2, if_true, copy_slots l fr hl2, e3, if_pos (show (0 : Int) ≤ (q : Int) by omega), if_pos (show (q : Int) < (l.length : Int) by omega), rd_sl]
      rfl
    | false =>
      refine ⟨l, fr, ci2, h2, hok, hc2, Ev.step (f := fun _ => some (l, fr, ci2, h2)) (fun k => ?_) (Ev.now _)⟩
      simp only [spec_l03Arena.l0, e, Option.bind_some, if_neg hn, e2, Bool.false_eq_true, if_false]
  induction d with
  | zero =>
    intro l fr i ci h hd hi hok hc
    obtain ⟨n, ci1, h1, e, n0, n1, hc1⟩ := cur_below b ci h 24 (by omega) hc
    exact last l fr i ci h n ci1 h1 hok hc1 e (by omega)
  | succ d ih =>
    intro l fr i ci h hd hi hok hc
    have hl2 := hok.1.2.1
    have hl1 := hok.1.1
    obtain ⟨n, ci1, h1, e, n0, n1, hc1⟩ := cur_below b ci h 24 (by omega) hc
    by_cases hn : (i : Int) < n
    · have e9 : Aside0 (wrap64 ((i : Int) + 1) = ((i + 1 : Nat) : Int)) := ⟨by rw [wrap64_id (by omega) (by omega)]; omega⟩
      obtain ⟨y, ci2, h2, e2, y0, y1, hc2⟩ := cur_below b ci1 h1 (l.length : Int) (by omega) hc1
      obtain ⟨q, rfl⟩ := Int.eq_ofNat_of_zero_le y0
      have hq : q < l.length := by omega
      -- a lifting, or a laying
      have hT : ∀ (ci3 h3 : Int), CurOk b ci3 → (sl l q).f1 = true → ∃ l' fr' ci' h', ArP l' fr' ∧ CurOk b ci' ∧ Ev (fun k => spec_l03Arena.j1 k (i : Int) (q : Int) true b ci3 h3 l fr) (l', fr', ci', h') := by
        intro ci3 h3 hc3 hu
        obtain ⟨l1, fr1, hE, hA⟩ := lift_ev hok hq hu
        obtain ⟨l', fr', ci', h', r1, r2, r3⟩ := ih l1 fr1 (i + 1) ci3 h3 (by omega) (by omega) hA hc3
        refine ⟨l', fr', ci', h', r1, r2, Ev.step (f := fun k => (spec_HandleOf.f k l fr (q : Int)).bind fun t => (spec_Lift.f k l fr t).bind fun bt => spec_l03Arena.l0 k ((i + 1 : Nat) : Int) b ci3 h3 bt.1 bt.2.1) (fun k => ?_) (Ev.bind (spec_handle_ev hok hq hu) (Ev.bind hE r3))⟩
        simp only [spec_l03Arena.j1]
        rw [if_pos trivial, e9.out]
      have hF : ∀ (ci3 h3 : Int), CurOk b ci3 → ∃ l' fr' ci' h', ArP l' fr' ∧ CurOk b ci' ∧ Ev (fun k => spec_l03Arena.j1 k (i : Int) (q : Int) false b ci3 h3 l fr) (l', fr', ci', h') := by
        intro ci3 h3 hc3
        obtain ⟨s, ci4, h4, e4, hm, hc4⟩ := cur_key b ci3 h3 hc3
        obtain ⟨v, ci5, h5, e5, hv, hc5⟩ := cur_val b ci4 h4 hc4
        obtain ⟨k1, k2⟩ := keys12_size s hm
        obtain ⟨l1, fr1, hd1, bb, hE, hA⟩ := lay_ev (key := s) (val := v) hok (by omega) (by omega)
        cases bb with
        | true =>
          obtain ⟨l', fr', ci', h', r1, r2, r3⟩ := ih l1 fr1 (i + 1) ci5 h5 (by omega) (by omega) (hA rfl) hc5
          refine ⟨l', fr', ci', h', r1, r2, Ev.step (f := fun k => (spec_Lay.f k l fr s v).bind fun bt => if bt.2.2.2 = true then spec_l03Arena.l0 k ((i + 1 : Nat) : Int) b ci5 h5 bt.1 bt.2.1 else spec_l03Arena.l0 k ((i + 1 : Nat) : Int) b ci5 h5 l fr) (fun k => ?_) (Ev.bind hE ?_)⟩
          · simp only [spec_l03Arena.j1]
            rw [if_neg (by simp), e4, Option.bind_some]
            simp only [e5, Option.bind_some, e9.out]
          · simp only [if_true]
            exact r3
        | false =>
          obtain ⟨l', fr', ci', h', r1, r2, r3⟩ := ih l fr (i + 1) ci5 h5 (by omega) (by omega) hok hc5
          refine ⟨l', fr', ci', h', r1, r2, Ev.step (f := fun k => (spec_Lay.f k l fr s v).bind fun bt => if bt.2.2.2 = true then spec_l03Arena.l0 k ((i + 1 : Nat) : Int) b ci5 h5 bt.1 bt.2.1 else spec_l03Arena.l0 k ((i + 1 : Nat) : Int) b ci5 h5 l fr) (fun k => ?_) (Ev.bind hE ?_)⟩
          · simp only [spec_l03Arena.j1]
            rw [if_neg (by simp), e4, Option.bind_some]
            simp only [e5, Option.bind_some, e9.out]
          · simp only [Bool.false_eq_true, if_false]
            exact r3
      cases hu : (sl l q).f1 with
      | true =>
        obtain ⟨x, ci3, h3, e3, hc3⟩ := cur_once b ci2 h2 2 (by omega) hc2
        have hx : ∃ l' fr' ci' h', ArP l' fr' ∧ CurOk b ci' ∧ Ev (fun k => spec_l03Arena.j1 k (i : Int) (q : Int) x b ci3 h3 l fr) (l', fr', ci', h') := by
          cases x with
          | true => exact hT ci3 h3 hc3 hu
          | false => exact hF ci3 h3 hc3
        obtain ⟨l', fr', ci', h', r1, r2, r3⟩ := hx
        refine ⟨l', fr', ci', h', r1, r2, Ev.step (fun k => ?_) r3⟩
        simp only [spec_l03Arena.l0, e, Option.bind_some, if_pos hn, e2, if_pos (show (0 : Int) ≤ (q : Int) by omega), if_pos (show (q : Int) < (l.length : Int) by omega), rd_sl, hu, if_true, e3]
      | false =>
        obtain ⟨l', fr', ci', h', r1, r2, r3⟩ := hF ci2 h2 hc2
        refine ⟨l', fr', ci', h', r1, r2, Ev.step (fun k => ?_) r3⟩
        simp only [spec_l03Arena.l0, e, Option.bind_some, if_pos hn, e2, if_pos (show (0 : Int) ≤ (q : Int) by omega), if_pos (show (q : Int) < (l.length : Int) by omega), rd_sl, hu, Bool.false_eq_true, if_false]
    · exact last l fr i ci h n ci1 h1 hok hc1 e hn
theorem draw_arena (b : List Int) (hl : b.length ≤ 140737488355328) : ∃ l fr s v, ArP l fr ∧ Ev (fun k => spec_DrawRightArena.f k b) (l, fr, s, v) := by
  obtain ⟨h, e0⟩ := cur_new b hl
  obtain ⟨n, ci, h1, e1, n0, n1, hc⟩ := cur_below b 0 h 9 (by omega) ⟨by omega, by omega, hl⟩
  obtain ⟨m, rfl⟩ := Int.eq_ofNat_of_zero_le n0
  have ew : Aside0 (wrap64 (1 + (m : Int)) = ((m + 1 : Nat) : Int)) := ⟨by rw [wrap64_id (by omega) (by omega)]; omega⟩
  have hnew : Ev (fun k => spec_ArenaNew.f k ((m + 1 : Nat) : Int)) (newSlots (m + 1), 0, true) := by
    unfold spec_ArenaNew.f
    simp only [spec_in, decide_eq_true (show 1 ≤ ((m + 1 : Nat) : Int) ∧ ((m + 1 : Nat) : Int) ≤ 24 by omega), Option.bind_some, if_true]
    exact new_loop (m + 1) (by omega) (m + 1) 0 (by omega)
  obtain ⟨l, fr, ci2, h2, hA, hc2, hE⟩ := draw_arena_loop b 24 (newSlots (m + 1)) 0 0 ci h1 rfl (by omega) (new_right (m + 1) (by omega) (by omega)) hc
  obtain ⟨s, ci3, h3, e3, _, hc3⟩ := cur_key b ci2 h2 hc2
  obtain ⟨v, ci4, h4, e4, _, _⟩ := cur_val b ci3 h3 hc3
  have hAr : Ev (fun k => spec_l03Arena.f k b 0 h) (l, fr, ci2, h2) := by
    refine Ev.congr (f := fun k => (spec_ArenaNew.f k ((m + 1 : Nat) : Int)).bind fun bt235 => spec_l03Arena.l0 k 0 b ci h1 bt235.1 bt235.2.1) (fun k => ?_) (Ev.bind hnew hE)
    unfold spec_l03Arena.f
    rw [e1, Option.bind_some, ew.out]
  refine ⟨l, fr, s, v, hA, ?_⟩
  unfold spec_DrawRightArena.f
  refine Ev.bind e0 (Ev.bind hAr ?_)
  simp only [e3, Option.bind_some, e4]
  exact Ev.now _

/-! ### handles -/
theorem impl_handle_at {l : List S50} {fr : Int} (h : ArP l fr) (j : Nat) (hj : j < l.length) : Ev (fun n => impl_HandleOf.f n l fr (j : Int)) (if (sl l j).f1 = true then 24 * (sl l j).f0 + (j : Int) else -1) := by
  have h2 := h.1.2.1
  obtain ⟨g0, g1⟩ := (h.1.2.2 j hj).1
  obtain ⟨e1, _, _⟩ := handle_of (n := 0) (show j < 24 by omega) g0 g1
  unfold impl_HandleOf.f impl_Arena_handle.f
  simp only [impl_in, wrap64_id (x := (l.length : Int) - 1) (by omega) (by omega), decide_eq_true (show 0 ≤ (j : Int) ∧ (j : Int) ≤ (l.length : Int) - 1 by omega), Option.bind_some, if_true, if_pos (show (0 : Int) ≤ (j : Int) by omega), if_pos (show (j : Int) < (l.length : Int) by omega), rd_sl]
  by_cases hu : (sl l j).f1 = true
  · simp only [if_pos hu]
    refine Ev.bind (arena_true h).2 ?_
    simp only [if_true, e1]
    exact Ev.now _
  · simp only [if_neg hu]
    exact Ev.now _
theorem impl_handle_out {l : List S50} {fr : Int} (h : ArP l fr) : Ev (fun n => impl_HandleOf.f n l fr (l.length : Int)) (-1) := by
  have h2 := h.1.2.1
  unfold impl_HandleOf.f
  simp only [impl_in, wrap64_id (x := (l.length : Int) - 1) (by omega) (by omega), decide_eq_false (show ¬ (0 ≤ (l.length : Int) ∧ (l.length : Int) ≤ (l.length : Int) - 1) by omega), Option.bind_some, Bool.false_eq_true, if_false]
  exact Ev.now _
theorem impl_look_at {l : List S50} {fr : Int} (h : ArP l fr) (j : Nat) (hj : j < l.length) (hu : (sl l j).f1 = true) : Ev (fun n => impl_Look.f n l fr (24 * (sl l j).f0 + (j : Int))) ((sl l j).f2, (sl l j).f3, true) := by
  have h2 := h.1.2.1
  obtain ⟨g0, g1⟩ := (h.1.2.2 j hj).1
  obtain ⟨e1, e2, e3⟩ := handle_of (n := 0) (show j < 24 by omega) g0 g1
  unfold impl_Look.f impl_Arena_place.f impl_Arena_handle.f
  refine Ev.bind (arena_true h).2 ?_
  simp only [if_true, if_neg (show ¬ (24 * (sl l j).f0 + (j : Int)) < 0 by omega), e2, if_neg (show ¬ (j : Int) ≥ (l.length : Int) by omega), if_pos (show (0 : Int) ≤ (j : Int) by omega), if_pos (show (j : Int) < (l.length : Int) by omega), rd_sl, if_pos hu, e1, Option.bind_some, if_neg (show ¬ (j : Int) < 0 by omega)]
  exact Ev.now _
theorem impl_look_none {l : List S50} {fr : Int} (h : ArP l fr) : Ev (fun n => impl_Look.f n l fr (-1)) ((⟨#[]⟩ : ByteArray), (⟨#[]⟩ : ByteArray), false) := by
  unfold impl_Look.f impl_Arena_place.f
  refine Ev.bind (arena_true h).2 ?_
  simp only [if_true, if_pos (show (-1 : Int) < 0 by omega), Option.bind_some]
  exact Ev.now _
theorem in_loop (xs : List Int) (x : Int) (hx : xs.length ≤ 1048576) (hn : ∀ y ∈ xs, y ≠ x) (d : Nat) : ∀ i : Nat, xs.length - i = d → Ev (fun k => laws_in.l0 k xs x (i : Int)) false := by
  induction d with
  | zero =>
    intro i hd
    refine Ev.step (f := fun _ => some false) (fun k => ?_) (Ev.now _)
    simp only [laws_in.l0]
    rw [if_neg (by omega)]
  | succ d ih =>
    intro i hd
    have er : rd xs (i : Int) = xs.getD i 0 := rfl
    refine Ev.step (fun k => ?_) (ih (i + 1) (by omega))
    simp only [laws_in.l0]
    rw [if_pos (by omega), if_pos (by omega), er, if_neg (hn _ (getD_mem xs 0 i (by omega))), wrap64_id (by omega) (by omega)]
    rfl
def HandlesOf (l : List S50) (i : Nat) : List Int := ((List.range i).filter fun j => (sl l j).f1).map fun (j : Nat) => 24 * (sl l j).f0 + (j : Int)
theorem handles_len (l : List S50) : (HandlesOf l l.length).length = usedN l := by
  have h := used_filter l
  have h2 := List.length_eq_countP_add_countP (fun j => (sl l j).f1) (l := List.range l.length)
  rw [List.length_range] at h2
  have e2 : List.countP (fun a => decide ¬(sl l a).f1 = true) (List.range l.length) = ((List.range l.length).filter fun j => !(sl l j).f1).length := by
    rw [← List.countP_eq_length_filter]
    exact List.countP_congr (fun x _ => by simp)
  unfold HandlesOf
  rw [List.length_map, ← List.countP_eq_length_filter]
  omega
theorem handles_step (l : List S50) (i : Nat) : HandlesOf l (i + 1) = if (sl l i).f1 = true then HandlesOf l i ++ [24 * (sl l i).f0 + (i : Int)] else HandlesOf l i := by
  unfold HandlesOf
  rw [List.range_succ, List.filter_append, List.map_append]
  cases h : (sl l i).f1 <;> simp [h]
theorem handles_le (l : List S50) (i : Nat) : (HandlesOf l i).length ≤ i := by
  unfold HandlesOf
  rw [List.length_map]
  have := List.length_filter_le (fun j => (sl l j).f1) (List.range i)
  simpa using this
theorem laws_loop {l : List S50} {fr : Int} (h : ArP l fr) (d : Nat) : ∀ i : Nat, l.length - i = d → i ≤ l.length → Ev (fun k => laws_FnHandles.l0 k (HandlesOf l i) (i : Int) l fr) true := by
  have h2 := h.1.2.1
  induction d with
  | zero =>
    intro i hd hi
    obtain rfl : i = l.length := by omega
    have hU : Ev (fun k => impl_UsedOf.f k l fr) ((usedN l : Nat) : Int) := by
      unfold impl_UsedOf.f
      refine Ev.bind (arena_true h).2 ?_
      simp only [if_true]
      exact Ev.bind (impl_used l fr (by omega)) (Ev.now _)
    refine Ev.step (f := fun k => (impl_Look.f k l fr (-1)).bind fun bt329 => ((impl_UsedOf.f k l fr).bind fun t332 => (if ((HandlesOf l l.length).length : Int) = t332 then (if bt329.2.2 = true then (some false) else ((impl_ArenaOk.f k l fr).bind fun t333 => (if t333 = true then ((impl_HandleOf.f k l fr (l.length : Int)).bind fun t334 => (some (t334 == (-1)))) else (some false)))) else (some false)))) (fun k => ?_) (Ev.bind (impl_look_none h) (Ev.bind hU ?_))
    · simp only [laws_FnHandles.l0]
      rw [if_neg (by omega)]
    · simp only [if_pos (show ((HandlesOf l l.length).length : Int) = ((usedN l : Nat) : Int) by rw [handles_len]), Bool.false_eq_true, if_false]
      refine Ev.bind (arena_true h).2 ?_
      simp only [if_true]
      refine Ev.bind (impl_handle_out h) ?_
      exact Ev.now _
  | succ d ih =>
    intro i hd hi
    have hlt : i < l.length := by omega
    obtain ⟨g0, g1⟩ := (h.1.2.2 i hlt).1
    have e2 : Aside0 (wrap64 ((i : Int) + 1) = ((i + 1 : Nat) : Int)) := ⟨by rw [wrap64_id (by omega) (by omega)]; omega⟩
    have ih' := ih (i + 1) (by omega) (by omega)
    rw [handles_step] at ih'
    have hh := impl_handle_at h i hlt
    by_cases hu : (sl l i).f1 = true
    · rw [if_pos hu] at hh ih'
      have hle := handles_le l i
      have hin := in_loop (HandlesOf l i) (24 * (sl l i).f0 + (i : Int)) (by omega) (fun y hy e => by
        unfold HandlesOf at hy
        obtain ⟨j, hj, e3⟩ := List.mem_map.1 hy
        rw [List.mem_filter, List.mem_range] at hj
        obtain ⟨q0, q1⟩ := (h.1.2.2 j (by omega)).1
        omega) _ 0 rfl
      refine Ev.step (f := fun k => (impl_HandleOf.f k l fr (i : Int)).bind fun t318 => (if 0 ≤ (i : Int) then (if ((sl l i).f1 != (decide (t318 ≥ 0))) = true then (some false) else (if t318 < 0 then (laws_FnHandles.l0 k (HandlesOf l i) ((i + 1 : Nat) : Int) l fr) else ((impl_Look.f k l fr t318).bind fun bt320 => (if bt320.2.2 = true then (if bt320.1.toList = ((sl l i).f2).toList then (if bt320.2.1.toList = ((sl l i).f3).toList then ((laws_in.f k (HandlesOf l i) t318).bind fun t325 => (if t325 = true then (some false) else (if (HandlesOf l i).length < 17592186044416 then (laws_FnHandles.l0 k (HandlesOf l i ++ [t318]) ((i + 1 : Nat) : Int) l fr) else (none)))) else (some false)) else (some false)) else (some false))))) else (none))) (fun k => ?_) (Ev.bind hh ?_)
      · simp only [laws_FnHandles.l0]
        rw [if_pos (by omega), e2.out, rd_sl]
      · have hb : ((sl l i).f1 != (decide ((24 * (sl l i).f0 + (i : Int)) ≥ 0))) = false := by rw [hu, decide_eq_true (by omega)]; rfl
        simp only [if_pos (show (0 : Int) ≤ (i : Int) by omega), hb, Bool.false_eq_true, if_false, if_neg (show ¬ (24 * (sl l i).f0 + (i : Int)) < 0 by omega)]
        refine Ev.bind (impl_look_at h i hlt hu) ?_
        simp only [if_true]
        refine Ev.bind (show Ev (fun k => laws_in.f k (HandlesOf l i) (24 * (sl l i).f0 + (i : Int))) false from hin) ?_
        simp only [Bool.false_eq_true, if_false, if_pos (show (HandlesOf l i).length < 17592186044416 by omega)]
        exact ih'
    · rw [if_neg hu] at hh ih'
      have hu' : (sl l i).f1 = false := by simpa using hu
      refine Ev.step (f := fun k => (impl_HandleOf.f k l fr (i : Int)).bind fun t318 => (if 0 ≤ (i : Int) then (if ((sl l i).f1 != (decide (t318 ≥ 0))) = true then (some false) else (if t318 < 0 then (laws_FnHandles.l0 k (HandlesOf l i) ((i + 1 : Nat) : Int) l fr) else ((impl_Look.f k l fr t318).bind fun bt320 => (if bt320.2.2 = true then (if bt320.1.toList = ((sl l i).f2).toList then (if bt320.2.1.toList = ((sl l i).f3).toList then ((laws_in.f k (HandlesOf l i) t318).bind fun t325 => (if t325 = true then (some false) else (if (HandlesOf l i).length < 17592186044416 then (laws_FnHandles.l0 k (HandlesOf l i ++ [t318]) ((i + 1 : Nat) : Int) l fr) else (none)))) else (some false)) else (some false)) else (some false))))) else (none))) (fun k => ?_) (Ev.bind hh ?_)
      · simp only [laws_FnHandles.l0]
        rw [if_pos (by omega), e2.out, rd_sl]
      · have hb : ((sl l i).f1 != (decide ((-1 : Int) ≥ 0))) = false := by rw [hu']; rfl
        simp only [if_pos (show (0 : Int) ≤ (i : Int) by omega), hb, Bool.false_eq_true, if_false, if_pos (show (-1 : Int) < 0 by omega)]
        exact ih'
theorem FnHandles : laws_FnHandles.Pure := by
  intro l hl hl1 hw
  refine Ev.rounds ?_
  unfold laws_FnHandles.f laws_big.f
  simp only [Option.bind_some]
  by_cases hb : (l.length : Int) > 1048576
  · simp only [decide_eq_true hb, if_true]
    exact Ev.now _
  · simp only [decide_eq_false hb, Bool.false_eq_true, if_false]
    obtain ⟨x, fr, s, v, hA, hE⟩ := draw_arena l (by omega)
    refine Ev.bind hE ?_
    exact laws_loop hA _ 0 rfl (Nat.zero_le _)

end Go.Proofs.Ytomcapflpephmaa.Pure
