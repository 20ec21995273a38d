/- The pure statement of the law FnExactPartsOf: plain Lean over numbers and lists. -/
import Derived.Test.YtomcapflpephmaaDoorHFnExactPartsOfx3
import Derived.Test.YtomcapflpephmaaDoorMath
set_option linter.unusedSimpArgs false
set_option linter.unusedVariables false
namespace Go.Proofs.YtomcapflpephmaaDoor.Pure
open Go.RowKit Go.Proofs.YtomcapflpephmaaDoor.HFnExactPartsOf Go.Proofs.YtomcapflpephmaaDoorW.PrintWords Go.Proofs.YtomcapflpephmaaDoorW.PrintLast Go.Proofs.YtomcapflpephmaaDoor.Math

theorem bytes_eq {a b : ByteArray} (h : a.data.toList = b.data.toList) : a = b := by
  cases a; cases b; simpa using h

/-! ### a line's words -/
def mkB (l : List UInt8) : ByteArray := ⟨l.toArray⟩
theorem mkB_data (l : List UInt8) : (mkB l).data.toList = l := by simp [mkB]
theorem mkB_toList (l : List UInt8) : (mkB l).toList = l := by rw [ByteArray.toList_eq, mkB_data]
def partsL : List UInt8 → List UInt8 → List (List UInt8)
  | [], cur => [cur]
  | c :: l, cur => if c = 32 then cur :: partsL l [] else partsL l (cur ++ [c])
def wordsL : List UInt8 → List UInt8 → List (List UInt8)
  | [], cur => if cur = [] then [] else [cur]
  | c :: l, cur => if c = 32 then (if cur = [] then wordsL l [] else cur :: wordsL l []) else wordsL l (cur ++ [c])
theorem words_parts (l : List UInt8) : ∀ cur, wordsL l cur = (partsL l cur).filter fun p => !(decide (p = [])) := by
  induction l with
  | nil => intro cur; by_cases h : cur = [] <;> simp [wordsL, partsL, h]
  | cons c l ih =>
    intro cur
    simp only [wordsL, partsL]
    by_cases hc : c = 32
    · rw [if_pos hc, if_pos hc, ih]
      by_cases h : cur = [] <;> simp [h]
    · rw [if_neg hc, if_neg hc, ih]
theorem parts_none (l : List UInt8) : ∀ cur, l.count 32 = 0 → partsL l cur = [cur ++ l] := by
  induction l with
  | nil => intro cur _; simp [partsL]
  | cons c l ih =>
    intro cur h
    by_cases hc : c = 32
    · subst hc; simp at h
    · have h2 : l.count 32 = 0 := by rw [List.count_cons_of_ne hc] at h; exact h
      simp only [partsL]
      rw [if_neg hc, ih _ h2]
      simp
theorem parts_at (l : List UInt8) : ∀ (cur : List UInt8) (i : Nat), Lib.indexByte l 32 = (i : Int) → partsL l cur = (cur ++ l.take i) :: partsL (l.drop (i + 1)) [] := by
  induction l with
  | nil => intro cur i h; simp [Lib.indexByte] at h
  | cons c l ih =>
    intro cur i h
    simp only [partsL]
    by_cases hc : c = 32
    · rw [if_pos hc]
      simp only [Lib.indexByte, hc, beq_self_eq_true, if_true] at h
      have : i = 0 := by omega
      subst this
      simp
    · rw [if_neg hc]
      have hb : (c == 32) = false := by simpa using hc
      simp only [Lib.indexByte, hb, Bool.false_eq_true, if_false] at h
      by_cases hn : Lib.indexByte l 32 = -1
      · rw [hn] at h
        simp at h
      · have hn' : (Lib.indexByte l 32 == -1) = false := by simpa using hn
        rw [hn'] at h
        simp only [Bool.false_eq_true, if_false] at h
        have hg := Lib.indexByte_ge l 32
        obtain ⟨i, rfl⟩ : ∃ i', i = i' + 1 := ⟨i - 1, by omega⟩
        rw [ih (cur ++ [c]) i (by omega)]
        simp
theorem split_parts (k : Nat) : ∀ (s : ByteArray), Lib.countB s ⟨#[32]⟩ = k → Lib.splitB ⟨#[32]⟩ 0 k s = (partsL s.data.toList []).map mkB := by
  have hix : ∀ s : ByteArray, Lib.indexB s ⟨#[32]⟩ = Lib.indexByte s.data.toList 32 := fun s => Lib.index_one s.data.toList 32
  have hct : ∀ s : ByteArray, Lib.countB s ⟨#[32]⟩ = s.data.toList.count 32 := fun s => Lib.count_one 32 s.data.toList
  have hmk : ∀ s : ByteArray, mkB s.data.toList = s := fun s => bytes_eq (mkB_data _)
  induction k with
  | zero =>
    intro s h
    rw [hct] at h
    rw [Lib.splitB_zero, parts_none _ _ h]
    simp [hmk]
  | succ k ih =>
    intro s h
    have hg := Lib.indexByte_ge s.data.toList 32
    by_cases hn : Lib.indexByte s.data.toList 32 = -1
    · have : Lib.countB s ⟨#[32]⟩ = 0 := Lib.countB_miss s ⟨#[32]⟩ (by rw [hix]; exact hn)
      omega
    · obtain ⟨i, hi⟩ : ∃ i : Nat, Lib.indexByte s.data.toList 32 = (i : Int) := ⟨(Lib.indexByte s.data.toList 32).toNat, by omega⟩
      have hhit := Lib.countB_hit s ⟨#[32]⟩ i (by decide) (by rw [hix]; exact hi)
      have hrest := ih (s.extract (i + 1) s.size) (by have e : (⟨#[32]⟩ : ByteArray).size = 1 := rfl; rw [e] at hhit; omega)
      rw [parts_at _ _ _ hi]
      unfold Lib.splitB
      rw [hix, hi]
      have hne : ((i : Int) == -1) = false := by
        rw [beq_eq_false_iff_ne]
        omega
      rw [hne]
      simp only [Bool.false_eq_true, if_false, List.map_cons, List.nil_append]
      have e1 : s.extract 0 ((i : Int).toNat + 0) = mkB (s.data.toList.take i) := bytes_eq (by rw [Lib.extract_data, mkB_data]; simp)
      have e2 : (s.extract (i + 1) s.size).data.toList = s.data.toList.drop (i + 1) := by rw [Lib.extract_data]; rw [List.take_of_length_le]; simp
      rw [e1]
      congr 1
      rw [← e2]
      exact hrest
def goodC (c : UInt8) : Prop := ¬ (c.toNat : Int) < 32 ∧ ¬ (c.toNat : Int) > 126
def finP (ws : List ByteArray) : List ByteArray × Bool := if (ws.length : Int) > 10 then ([], false) else (ws, true)
open Classical in
noncomputable def partsV (l : List UInt8) : List ByteArray × Bool := if ∀ c ∈ l, goodC c then finP ((wordsL l []).map mkB) else ([], false)
def scanR : List UInt8 → List UInt8 → List ByteArray → List ByteArray × Bool
  | [], cur, out => finP (if cur = [] then out else out ++ [mkB cur])
  | c :: l, cur, out => if (c.toNat : Int) < 32 then ([], false) else if (c.toNat : Int) > 126 then ([], false) else if c = 32 then scanR l [] (if cur = [] then out else out ++ [mkB cur]) else scanR l (cur ++ [c]) out
theorem scan_words (l : List UInt8) : ∀ (cur : List UInt8) (out : List ByteArray), ((∀ c ∈ l, goodC c) → scanR l cur out = finP (out ++ (wordsL l cur).map mkB)) ∧ (¬ (∀ c ∈ l, goodC c) → scanR l cur out = ([], false)) := by
  induction l with
  | nil =>
    intro cur out
    refine ⟨fun _ => ?_, fun h => absurd (fun c hc => by simp at hc) h⟩
    by_cases h : cur = [] <;> simp [scanR, wordsL, h]
  | cons c l ih =>
    intro cur out
    simp only [scanR, wordsL]
    by_cases h1 : (c.toNat : Int) < 32
    · rw [if_pos h1]
      exact ⟨fun h => absurd h1 (h c (by simp)).1, fun _ => rfl⟩
    · rw [if_neg h1]
      by_cases h2 : (c.toNat : Int) > 126
      · rw [if_pos h2]
        exact ⟨fun h => absurd h2 (h c (by simp)).2, fun _ => rfl⟩
      · rw [if_neg h2]
        have hc : goodC c := ⟨h1, h2⟩
        have hiff : (∀ x ∈ c :: l, goodC x) ↔ ∀ x ∈ l, goodC x := ⟨fun h x hx => h x (by simp [hx]), fun h x hx => (List.mem_cons.1 hx).elim (fun e => by rw [e]; exact hc) (h x)⟩
        rw [hiff]
        by_cases h3 : c = 32
        · rw [if_pos h3, if_pos h3]
          obtain ⟨a, b⟩ := ih [] (if cur = [] then out else out ++ [mkB cur])
          refine ⟨fun h => ?_, b⟩
          rw [a h]
          by_cases h4 : cur = [] <;> simp [h4]
        · rw [if_neg h3, if_neg h3]
          exact ih (cur ++ [c]) out
theorem scan_parts (l : List UInt8) : scanR l [] [] = partsV l := by
  obtain ⟨a, b⟩ := scan_words l [] []
  unfold partsV
  by_cases h : ∀ c ∈ l, goodC c
  · rw [if_pos h, a h, List.nil_append]
  · rw [if_neg h, b h]

theorem spec_parts_loop (s : ByteArray) (hs : s.size ≤ 600) (d : Nat) : ∀ (out : List ByteArray) (b i : Nat), s.size - i = d → b ≤ i → i ≤ s.size → out.length ≤ b →
    Ev (fun k => spec_PartsOf.l0 k s out (b : Int) (i : Int)) (scanR (s.data.toList.drop i) ((s.data.toList.drop b).take (i - b)) out) := by
  have hend : ∀ (out : List ByteArray) (b : Int), Ev (fun k => spec_PartsOf.l0 k s out b ((s.size + 1 : Nat) : Int)) (finP out) := by
    intro out b
    refine Ev.step (f := fun _ => some (finP out)) (fun k => ?_) (Ev.now _)
    simp only [spec_PartsOf.l0]
    rw [if_neg (by omega)]
    unfold finP
    by_cases h : (out.length : Int) > 10
    · rw [if_pos h, if_pos h]
    · rw [if_neg h, if_neg h]
  have hcut : ∀ (b i : Nat), b ≤ i → i ≤ s.size → s.extract b i = mkB ((s.data.toList.drop b).take (i - b)) := fun b i _ _ => bytes_eq (by rw [Lib.extract_data, mkB_data])
  have hnil : ∀ (b i : Nat), b ≤ i → i ≤ s.size → ((s.data.toList.drop b).take (i - b) = [] ↔ ¬ b < i) := by
    intro b i h1 h2
    rw [← List.length_eq_zero_iff]
    simp only [List.length_take, List.length_drop]
    have : s.data.toList.length = s.size := by simp
    omega
  induction d with
  | zero =>
    intro out b i hd hb hi ho
    have he : i = s.size := by omega
    subst he
    have e : s.data.toList.drop s.size = [] := List.drop_eq_nil_of_le (by simp)
    have ew : Aside0 (wrap64 ((s.size : Int) + 1) = ((s.size + 1 : Nat) : Int)) := ⟨by rw [wrap64_id (by omega) (by omega)]; omega⟩
    rw [e]
    simp only [scanR]
    refine Ev.step (f := fun k => spec_PartsOf.j1 k s out (b : Int) (s.size : Int) false) (fun k => ?_) (Ev.step (f := fun k => spec_PartsOf.j2 k s out (b : Int) (s.size : Int) false) (fun k => ?_) ?_)
    · simp only [spec_PartsOf.l0]
      rw [if_pos (by omega), if_neg (by omega)]
    · simp only [spec_PartsOf.j1]
      rw [if_neg (by simp), if_neg (by omega)]
    · by_cases hlt : b < s.size
      · rw [if_neg (fun h => (hnil b s.size hb hi).1 h hlt), ← hcut b s.size hb hi]
        refine Ev.step (fun k => ?_) (hend (out ++ [s.extract b s.size]) ((s.size + 1 : Nat) : Int))
        simp only [spec_PartsOf.j2]
        rw [if_neg (by simp), if_pos (by omega), if_pos (by omega), if_pos (by omega), if_pos (by omega), if_pos (by omega), ew.out]
        rfl
      · rw [if_pos ((hnil b s.size hb hi).2 hlt)]
        refine Ev.step (fun k => ?_) (hend out ((s.size + 1 : Nat) : Int))
        simp only [spec_PartsOf.j2]
        rw [if_neg (by simp), if_neg (by omega), ew.out]
  | succ d ih =>
    intro out b i hd hb hi ho
    obtain ⟨c, e, hbt⟩ := drop_bt s i (by omega)
    have hc := c.toNat_lt
    have ew : Aside0 (wrap64 ((i : Int) + 1) = ((i + 1 : Nat) : Int)) := ⟨by rw [wrap64_id (by omega) (by omega)]; omega⟩
    rw [e]
    simp only [scanR]
    have hbad : Ev (fun k => spec_PartsOf.j1 k s out (b : Int) (i : Int) true) (([] : List ByteArray), false) := by
      refine Ev.step (f := fun _ => some (([] : List ByteArray), false)) (fun k => ?_) (Ev.now _)
      simp only [spec_PartsOf.j1]
      rw [if_pos trivial]
    by_cases h1 : (c.toNat : Int) < 32
    · rw [if_pos h1]
      refine Ev.step (fun k => ?_) hbad
      simp only [spec_PartsOf.l0]
      rw [if_pos (by omega), if_pos (by omega), if_pos (by omega), hbt, if_pos h1]
    · rw [if_neg h1]
      by_cases h2 : (c.toNat : Int) > 126
      · rw [if_pos h2]
        refine Ev.step (fun k => ?_) hbad
        simp only [spec_PartsOf.l0]
        rw [if_pos (by omega), if_pos (by omega), if_pos (by omega), hbt, if_neg h1, decide_eq_true h2]
      · rw [if_neg h2]
        refine Ev.step (f := fun k => spec_PartsOf.j1 k s out (b : Int) (i : Int) false) (fun k => ?_) (Ev.step (f := fun k => spec_PartsOf.j2 k s out (b : Int) (i : Int) ((c.toNat : Int) != 32)) (fun k => ?_) ?_)
        · simp only [spec_PartsOf.l0]
          rw [if_pos (by omega), if_pos (by omega), if_pos (by omega), hbt, if_neg h1, decide_eq_false h2]
        · simp only [spec_PartsOf.j1]
          rw [if_neg (by simp), if_pos (by omega), if_pos (by omega), hbt]
        · by_cases h3 : c = 32
          · have h3' : ((c.toNat : Int) != 32) = false := by subst h3; rfl
            rw [h3', if_pos h3]
            by_cases hlt : b < i
            · rw [if_neg (fun h => (hnil b i hb hi).1 h hlt), ← hcut b i hb hi]
              have h := ih (out ++ [s.extract b i]) (i + 1) (i + 1) (by omega) (Nat.le_refl _) (by omega) (by simp; omega)
              rw [Nat.sub_self, List.take_zero] at h
              refine Ev.step (fun k => ?_) h
              simp only [spec_PartsOf.j2]
              rw [if_neg (by simp), if_pos (by omega), if_pos (by omega), if_pos (by omega), if_pos (by omega), if_pos (by omega), ew.out]
              rfl
            · rw [if_pos ((hnil b i hb hi).2 hlt)]
              have h := ih out (i + 1) (i + 1) (by omega) (Nat.le_refl _) (by omega) (by omega)
              rw [Nat.sub_self, List.take_zero] at h
              refine Ev.step (fun k => ?_) h
              simp only [spec_PartsOf.j2]
              rw [if_neg (by simp), if_neg (by omega), ew.out]
          · have h3' : ((c.toNat : Int) != 32) = true := by
              rw [bne_iff_ne]
              intro h
              apply h3
              apply UInt8.toNat_inj.1
              have : (32 : UInt8).toNat = 32 := rfl
              omega
            rw [h3', if_neg h3]
            have h := ih out b (i + 1) (by omega) (by omega) (by omega) ho
            have et : (s.data.toList.drop b).take (i + 1 - b) = (s.data.toList.drop b).take (i - b) ++ [c] := by
              rw [show i + 1 - b = (i - b) + 1 by omega, List.take_add_one]
              have h0 : (s.data.toList.drop i)[0]? = some c := by rw [e]; rfl
              have h1' : (s.data.toList.drop b)[i - b]? = some c := by
                rw [List.getElem?_drop] at h0 ⊢
                rw [show b + (i - b) = i + 0 by omega]
                exact h0
              rw [h1']
              rfl
            rw [et] at h
            refine Ev.step (fun k => ?_) h
            simp only [spec_PartsOf.j2]
            rw [if_pos trivial, ew.out]
theorem spec_parts (s : ByteArray) (hs : s.size ≤ 600) : Ev (fun k => spec_PartsOf.f k s) (partsV s.data.toList) := by
  have h := spec_parts_loop s hs _ [] 0 0 rfl (by omega) (by omega) (by simp)
  unfold spec_PartsOf.f
  simp only [Option.bind_some, if_neg (show ¬ (s.size : Int) > 600 by omega)]
  rw [← scan_parts]
  simpa using h

theorem impl_parts_fill (ts : List ByteArray) (hl : ts.length ≤ 601) (d : Nat) : ∀ (out : List ByteArray) (i : Nat), ts.length - i = d → i ≤ ts.length → out.length ≤ i →
    Ev (fun k => impl_PartsOf.l1 k out ts (ts.length : Int) (i : Int)) (finP (out ++ (ts.drop i).filter fun p => !(decide (p.toList = [])))) := by
  induction d with
  | zero =>
    intro out i hd hi ho
    have he : i = ts.length := by omega
    subst he
    rw [List.drop_length]
    simp only [List.filter_nil, List.append_nil]
    refine Ev.step (f := fun _ => some (finP out)) (fun k => ?_) (Ev.now _)
    simp only [impl_PartsOf.l1]
    rw [if_neg (by omega)]
    unfold finP
    by_cases h : (out.length : Int) > 10
    · rw [if_pos h, if_pos h]
    · rw [if_neg h, if_neg h]
  | succ d ih =>
    intro out i hd hi ho
    have hlt : i < ts.length := by omega
    have ew : Aside0 (wrap64 ((i : Int) + 1) = ((i + 1 : Nat) : Int)) := ⟨by rw [wrap64_id (by omega) (by omega)]; omega⟩
    have er : rdOf ByteArray.empty ts (i : Int) = ts[i] := by
      unfold rdOf
      simp [List.getD_eq_getElem?_getD, List.getElem?_eq_getElem hlt]
    rw [List.drop_eq_getElem_cons hlt]
    by_cases h : (ts[i]).toList = ([] : List UInt8)
    · rw [List.filter_cons_of_neg (by simp [h])]
      refine Ev.step (fun k => ?_) (ih out (i + 1) (by omega) (by omega) (by omega))
      simp only [impl_PartsOf.l1]
      rw [if_pos (by omega), if_pos (by omega), if_pos (by omega), er, if_pos h, ew.out]
    · rw [List.filter_cons_of_pos (by simp [h])]
      have h' := ih (out ++ [ts[i]]) (i + 1) (by omega) (by omega) (by simp; omega)
      rw [List.append_assoc] at h'
      refine Ev.step (fun k => ?_) h'
      simp only [impl_PartsOf.l1]
      rw [if_pos (by omega), if_pos (by omega), if_pos (by omega), er, if_neg h, if_pos (by omega), ew.out]
theorem impl_parts_loop (s : ByteArray) (hs : s.size ≤ 600) (d : Nat) : ∀ (i : Nat), s.size - i = d → i ≤ s.size → (∀ c ∈ s.data.toList.take i, goodC c) → Ev (fun k => impl_PartsOf.l0 k s (i : Int)) (partsV s.data.toList) := by
  induction d with
  | zero =>
    intro i hd hi hg
    have he : i = s.size := by omega
    subst he
    have hall : ∀ c ∈ s.data.toList, goodC c := by
      rw [List.take_of_length_le (by simp)] at hg
      exact hg
    have hlen : (Lib.splitB ⟨#[32]⟩ 0 (Lib.countB s ⟨#[32]⟩) s).length = Lib.countB s ⟨#[32]⟩ + 1 := Lib.splitB_all ⟨#[32]⟩ (by decide) 0 _ _ rfl
    have hc := Lib.countB_le ⟨#[32]⟩ (by decide) _ s (Nat.le_refl _)
    have h := impl_parts_fill (Lib.splitB ⟨#[32]⟩ 0 (Lib.countB s ⟨#[32]⟩) s) (by omega) _ [] 0 rfl (by omega) (by simp)
    have e : finP ([] ++ ((Lib.splitB ⟨#[32]⟩ 0 (Lib.countB s ⟨#[32]⟩) s).drop 0).filter fun p => !(decide (p.toList = []))) = partsV s.data.toList := by
      unfold partsV
      rw [if_pos hall, List.nil_append, List.drop_zero, split_parts _ s rfl, List.filter_map, words_parts]
      have ef : (fun p : ByteArray => !(decide (p.toList = []))) ∘ mkB = fun p => !(decide (p = [])) := funext fun p => by simp [Function.comp, mkB_toList]
      rw [ef]
    rw [e] at h
    have hsp : strings_Split.f s ⟨#[32]⟩ = some (Lib.splitB ⟨#[32]⟩ 0 (Lib.countB s ⟨#[32]⟩) s) := by
      unfold strings_Split.f
      rw [if_pos (by omega), if_pos (by decide)]
    refine Ev.step (fun k => ?_) h
    simp only [impl_PartsOf.l0]
    rw [if_neg (by omega), hsp]
    rfl
  | succ d ih =>
    intro i hd hi hg
    obtain ⟨c, e, hbt⟩ := drop_bt s i (by omega)
    have ew : Aside0 (wrap64 ((i : Int) + 1) = ((i + 1 : Nat) : Int)) := ⟨by rw [wrap64_id (by omega) (by omega)]; omega⟩
    have hmem : c ∈ s.data.toList := List.mem_of_mem_drop (by rw [e]; simp : c ∈ s.data.toList.drop i)
    have hno : ¬ goodC c → partsV s.data.toList = ([], false) := fun h => by
      unfold partsV
      rw [if_neg (fun hall => h (hall c hmem))]
    by_cases h1 : (c.toNat : Int) < 32
    · rw [hno (fun h => h.1 h1)]
      refine Ev.step (f := fun _ => some (([] : List ByteArray), false)) (fun k => ?_) (Ev.now _)
      simp only [impl_PartsOf.l0]
      rw [if_pos (by omega), if_pos (by omega), hbt, if_pos h1]
    · by_cases h2 : (c.toNat : Int) > 126
      · rw [hno (fun h => h.2 h2)]
        refine Ev.step (f := fun _ => some (([] : List ByteArray), false)) (fun k => ?_) (Ev.now _)
        simp only [impl_PartsOf.l0]
        rw [if_pos (by omega), if_pos (by omega), hbt, if_neg h1, if_pos h2]
      · refine Ev.step (fun k => ?_) (ih (i + 1) (by omega) (by omega) (fun x hx => ?_))
        · simp only [impl_PartsOf.l0]
          rw [if_pos (by omega), if_pos (by omega), hbt, if_neg h1, if_neg h2, ew.out]
        · rw [List.take_add_one] at hx
          have h0 : s.data.toList[i]? = some c := by
            have h0 : (s.data.toList.drop i)[0]? = some c := by rw [e]; rfl
            simpa using h0
          rw [h0] at hx
          rcases List.mem_append.1 hx with hx | hx
          · exact hg x hx
          · have : x = c := by simpa using hx
            subst this
            exact ⟨h1, h2⟩
theorem impl_parts (s : ByteArray) (hs : s.size ≤ 600) : Ev (fun k => impl_PartsOf.f k s) (partsV s.data.toList) := by
  have h := impl_parts_loop s hs _ 0 rfl (by omega) (by simp)
  unfold impl_PartsOf.f
  simp only [if_neg (show ¬ (s.size : Int) > 600 by omega)]
  exact h

theorem eq_texts_loop (l : List ByteArray) (hl : l.length ≤ 2097152) (d : Nat) : ∀ (i : Nat), l.length - i = d → Ev (fun k => laws_eqStringS.l0 k l l (i : Int)) true := by
  induction d with
  | zero =>
    intro i hd
    refine Ev.step (f := fun _ => some true) (fun k => ?_) (Ev.now _)
    simp only [laws_eqStringS.l0]
    rw [if_neg (by omega)]
  | succ d ih =>
    intro i hd
    refine Ev.step (fun k => ?_) (ih (i + 1) (by omega))
    simp only [laws_eqStringS.l0]
    rw [if_pos (by omega), if_pos (by omega), if_pos (by omega), if_pos trivial, wrap64_id (by omega) (by omega)]
    rfl
theorem eq_texts (l : List ByteArray) (hl : l.length ≤ 2097152) : Ev (fun k => laws_eqStringS.f k l l) true := by
  unfold laws_eqStringS.f
  simp only [if_true]
  exact eq_texts_loop l hl _ 0 rfl

theorem drop_getD {α : Type} (l : List α) (z : α) (i : Nat) (h : i < l.length) : l.drop i = l.getD i z :: l.drop (i + 1) := by
  rw [List.getD_eq_getElem?_getD, List.getElem?_eq_getElem h]
  exact List.drop_eq_getElem_cons h

/-! ### texts that mark -/
theorem mark_loop (d : Nat) : ∀ (x : Int) (acc : ByteArray), 0 ≤ x → x < ((10 ^ d : Nat) : Int) → x ≤ 1000000000000000000 → acc.size + d ≤ 1000 → ∃ b, Ev (fun k => laws_markText.l0 k x acc) b := by
  induction d with
  | zero =>
    intro x acc h0 h1 _ ha
    have hx : ¬ x > 0 := by simp at h1; omega
    refine ⟨_, Ev.step (f := fun _ => some ((⟨#[109]⟩ : ByteArray) ++ acc)) (fun k => ?_) (Ev.now _)⟩
    simp only [laws_markText.l0]
    rw [if_neg hx, if_pos (by omega)]
  | succ d ih =>
    intro x acc h0 h1 h2 ha
    by_cases hx : x > 0
    · have e1 : Aside0 (wrap64 (Int.tdiv x 10) = x / 10) := ⟨by rw [Int.tdiv_eq_ediv_of_nonneg h0, wrap64_id (by omega) (by omega)]⟩
      have hp : ((10 ^ (d + 1) : Nat) : Int) = 10 * ((10 ^ d : Nat) : Int) := by rw [Nat.pow_succ]; omega
      rw [hp] at h1
      have hs : ∀ c : Int, (strOfNums [c]).size = 1 := fun c => by simp [strOfNums, ByteArray.size]
      generalize hst : strOfNums ([(wrap64 (48 + (Int.tmod x 10))) % 256] : List Int) = st
      have hst1 : st.size = 1 := by rw [← hst]; exact hs _
      obtain ⟨b, hb⟩ := ih (x / 10) (st ++ acc) (by omega) (by omega) (by omega) (by rw [ByteArray.size_append]; omega)
      refine ⟨b, Ev.step (fun k => ?_) hb⟩
      simp only [laws_markText.l0]
      rw [if_pos hx, Option.bind_some, hst, if_pos (by omega), e1.out]
    · refine ⟨_, Ev.step (f := fun _ => some ((⟨#[109]⟩ : ByteArray) ++ acc)) (fun k => ?_) (Ev.now _)⟩
      simp only [laws_markText.l0]
      rw [if_neg hx, if_pos (by omega)]
theorem mark_ex (x : Int) (h : x < 1000000000000000000) : ∃ b, Ev (fun k => laws_markText.f k x) b := by
  unfold laws_markText.f
  by_cases hx : x ≤ 0
  · simp only [if_pos hx]
    exact ⟨_, Ev.now _⟩
  · simp only [if_neg hx]
    exact mark_loop 18 x _ (by omega) (by simpa using h) (by omega) (by decide)
/-- The text that marks with a number. -/
noncomputable def mkT (x : Int) : ByteArray := Classical.epsilon fun b => Ev (fun k => laws_markText.f k x) b
theorem mark_text (x : Int) (h : x < 1000000000000000000) : Ev (fun k => laws_markText.f k x) (mkT x) := Classical.epsilon_spec (mark_ex x h)

def MarkedT (l : List ByteArray) (n : Nat) (x : Int) : Prop := l.length = n ∧ ∀ j, j < n → l.getD j ByteArray.empty = mkT (x + (j : Int))
theorem mark_texts_loop (x0 : Int) (n : Nat) (hn : n ≤ 2097152) (h0 : 0 ≤ x0) (h1 : x0 ≤ 100000000) (d : Nat) : ∀ (l : List ByteArray) (i : Nat), l.length = n → n - i = d → i ≤ n → (∀ j, j < i → l.getD j ByteArray.empty = mkT (x0 + (j : Int))) → ∃ l', MarkedT l' n x0 ∧ Ev (fun k => laws_markStringS.l0 k l (x0 + (i : Int)) (i : Int)) (x0 + (n : Int), l') := by
  induction d with
  | zero =>
    intro l i hl hd hi hj
    have e : i = n := by omega
    subst e
    refine ⟨l, ⟨hl, hj⟩, Ev.step (f := fun _ => some (x0 + (i : Int), l)) (fun k => ?_) (Ev.now _)⟩
    simp only [laws_markStringS.l0]
    rw [if_neg (by omega)]
  | succ d ih =>
    intro l i hl hd hi hj
    have e1 : Aside0 (wrap64 (x0 + (i : Int) + 1) = x0 + ((i + 1 : Nat) : Int)) := ⟨by rw [wrap64_id (by omega) (by omega)]; omega⟩
    have e3 : Aside0 (wrap64 ((i : Int) + 1) = ((i + 1 : Nat) : Int)) := ⟨by rw [wrap64_id (by omega) (by omega)]; omega⟩
    obtain ⟨l', h2, h3⟩ := ih (l.set i (mkT (x0 + (i : Int)))) (i + 1) (by simpa using hl) (by omega) (by omega) (fun j hj' => by
      rw [List.getD_eq_getElem?_getD]
      rcases Nat.lt_or_ge j i with h | h
      · rw [List.getElem?_set_ne (by omega), ← List.getD_eq_getElem?_getD]; exact hj j h
      · obtain rfl : j = i := by omega
        rw [List.getElem?_set_self (by omega)]; rfl)
    refine ⟨l', h2, Ev.step (f := fun k => (laws_markText.f k (x0 + (i : Int))).bind fun t => laws_markStringS.l0 k (l.set i t) (x0 + ((i + 1 : Nat) : Int)) ((i + 1 : Nat) : Int)) (fun k => ?_) (Ev.bind (mark_text _ (by omega)) h3)⟩
    simp only [laws_markStringS.l0]
    rw [if_pos (by omega)]
    refine congrArg _ (funext fun t => ?_)
    rw [if_pos (by omega), e1.out, e3.out]
    rfl
theorem mark_texts (l : List ByteArray) (x : Int) (hl : l.length ≤ 2097152) (h0 : 0 ≤ x) (h1 : x ≤ 100000000) : ∃ l', MarkedT l' l.length x ∧ Ev (fun k => laws_markStringS.f k l x) (x + (l.length : Int), l') := by
  unfold laws_markStringS.f
  have h := mark_texts_loop x l.length hl h0 h1 _ l 0 rfl rfl (Nat.zero_le _) (fun j hj => absurd hj (by omega))
  simpa using h
theorem held_texts_loop (l : List ByteArray) (x0 : Int) (n : Nat) (hn : n ≤ 2097152) (h0 : 0 ≤ x0) (h1 : x0 ≤ 100000000) (hm : MarkedT l n x0) (d : Nat) : ∀ (i : Nat), n - i = d → i ≤ n → Ev (fun k => laws_heldStringS.l0 k l (x0 + (i : Int)) (i : Int)) (x0 + (n : Int)) := by
  have hl := hm.1
  induction d with
  | zero =>
    intro i hd hi
    have e : i = n := by omega
    subst e
    refine Ev.step (f := fun _ => some (x0 + (i : Int))) (fun k => ?_) (Ev.now _)
    simp only [laws_heldStringS.l0]
    rw [if_neg (by omega)]
  | succ d ih =>
    intro i hd hi
    have e1 : Aside0 (wrap64 (x0 + (i : Int) + 1) = x0 + ((i + 1 : Nat) : Int)) := ⟨by rw [wrap64_id (by omega) (by omega)]; omega⟩
    have e3 : Aside0 (wrap64 ((i : Int) + 1) = ((i + 1 : Nat) : Int)) := ⟨by rw [wrap64_id (by omega) (by omega)]; omega⟩
    have r0 : rdOf ByteArray.empty l (i : Int) = mkT (x0 + (i : Int)) := hm.2 i (by omega)
    refine Ev.step (f := fun k => (laws_markText.f k (x0 + (i : Int))).bind fun t => if (mkT (x0 + (i : Int))).toList = t.toList then laws_heldStringS.l0 k l (x0 + ((i + 1 : Nat) : Int)) ((i + 1 : Nat) : Int) else some (-1)) (fun k => ?_) (Ev.bind (mark_text _ (by omega)) ?_)
    · simp only [laws_heldStringS.l0]
      rw [if_pos (by omega), if_pos (by omega), r0, e1.out, e3.out]
    · simp only [if_true]
      exact ih (i + 1) (by omega) (by omega)
theorem held_texts (l : List ByteArray) (n : Nat) (x : Int) (hn : n ≤ 2097152) (h0 : 0 ≤ x) (h1 : x ≤ 100000000) (hm : MarkedT l n x) : Ev (fun k => laws_heldStringS.f k l x) (x + (n : Int)) := by
  unfold laws_heldStringS.f
  simpa using held_texts_loop l x n hn h0 h1 hm _ 0 rfl (Nat.zero_le _)

theorem parts_length (l : List UInt8) : (partsV l).1.length ≤ 10 := by
  unfold partsV
  split
  · unfold finP
    split
    · simp
    · simp only; omega
  · simp
theorem parts_end (s : ByteArray) (P : List ByteArray) (ok : Bool) (hP : P.length ≤ 10) (hI : Ev (fun k => impl_PartsOf.f k s) (P, ok)) : Ev (fun k => laws_FnExactPartsOf.j0 k s P ok P (ok != ok)) true := by
  obtain ⟨P', mP, hM⟩ := mark_texts P 1 (by omega) (by omega) (by omega)
  have hH := held_texts P' P.length 1 (by omega) (by omega) (by omega) mP
  have hE := eq_texts P (by omega)
  have n0 : ¬ (1 + (P.length : Int)) < 0 := by omega
  have eb : (ok != ok) = false := by cases ok <;> rfl
  rw [eb]
  refine Ev.step (fun k => by simp only [laws_FnExactPartsOf.j0]; rw [if_neg (by simp)]) ?_
  refine Ev.bind hM (Ev.bind hH ?_)
  simp only [if_neg n0, if_true]
  refine Ev.bind hI (Ev.bind hE ?_)
  simp only [if_true, eb]
  refine Ev.step (fun k => by simp only [laws_FnExactPartsOf.j1]; rw [if_neg (by simp)]) ?_
  refine Ev.bind hH ?_
  simp only [if_neg n0, if_true]
  exact Ev.now _
theorem FnExactPartsOf : laws_FnExactPartsOf.Pure := by
  intro s hs
  refine Ev.rounds ?_
  unfold laws_FnExactPartsOf.f
  by_cases hb : (s.size : Int) > 1048576
  · simp only [if_pos hb]
    exact Ev.now _
  · simp only [if_neg hb]
    have key : ∃ P ok, P.length ≤ 10 ∧ Ev (fun k => spec_PartsOf.f k s) (P, ok) ∧ Ev (fun k => impl_PartsOf.f k s) (P, ok) := by
      by_cases h6 : s.size ≤ 600
      · exact ⟨(partsV s.data.toList).1, (partsV s.data.toList).2, parts_length _, spec_parts s h6, impl_parts s h6⟩
      · refine ⟨[], false, by simp, ?_, ?_⟩
        · unfold spec_PartsOf.f
          simp only [Option.bind_some, if_pos (show (s.size : Int) > 600 by omega)]
          exact Ev.now _
        · unfold impl_PartsOf.f
          simp only [if_pos (show (s.size : Int) > 600 by omega)]
          exact Ev.now _
    obtain ⟨P, ok, hP, hS, hI⟩ := key
    refine Ev.bind hS (Ev.bind hI (Ev.bind (eq_texts P (by omega)) ?_))
    simp only [if_true]
    exact parts_end s P ok hP hI

end Go.Proofs.YtomcapflpephmaaDoor.Pure
