/- The pure statement of the law FnExactReadShort: plain Lean over numbers and lists. -/
import Derived.Test.YtcoboobnpmaahaaPFnExactReadShortx2
import Derived.Test.YtcoboobnpmaahaaMath
set_option linter.unusedSimpArgs false
set_option linter.unusedVariables false
namespace Go.Proofs.Ytcoboobnpmaahaa.Pure
open Go.RowKit Go.Proofs.Ytcoboobnpmaahaa.PFnExactReadShort Go.Proofs.YtcoboobnpmaahaaW.PrintWords Go.Proofs.YtcoboobnpmaahaaW.PrintLast Go.Proofs.Ytcoboobnpmaahaa.Math

theorem spec_in (a b c : Int) : spec_l01In.f a b c = some (decide (b ≤ a ∧ a ≤ c)) := by
  unfold spec_l01In.f
  by_cases h : a ≥ b
  · rw [if_pos h]
    simp [h]
  · rw [if_neg h]
    have : ¬ (b ≤ a ∧ a ≤ c) := fun z => h z.1
    simp [this]

theorem spec_var_loop (d : Nat) : ∀ (n : Int) (xs : List Int), 0 ≤ n → n ≤ 9223372036854775807 → n < 128 ^ (d + 1) → xs.length + d < 140737488355328 →
    Ev (fun k => spec_l01Var.l0 k n xs) (strOfNums (xs ++ varL d n)) := by
  induction d with
  | zero =>
    intro n xs h0 h9 h1 hl
    have h1' : n < 128 := by simpa using h1
    refine Ev.step (f := fun _ => some (strOfNums (xs ++ varL 0 n))) (fun k => ?_) (Ev.now _)
    simp only [spec_l01Var.l0]
    rw [if_neg (by omega), if_pos (by omega)]
    rfl
  | succ d ih =>
    intro n xs h0 h9 h1 hl
    by_cases hn : n > 127
    · have e1 : wrap64 (Int.tdiv n 128) = n / 128 := by rw [Int.tdiv_eq_ediv_of_nonneg h0, wrap64_id (by omega) (by omega)]
      have e2 : wrap64 ((Int.tmod n 128) + 128) % 256 = n % 128 + 128 := by rw [Int.tmod_eq_emod_of_nonneg h0, wrap64_id (by omega) (by omega)]; omega
      have hp : n / 128 < 128 ^ (d + 1) := by
        rw [Int.pow_succ] at h1
        omega
      have h := ih (n / 128) (xs ++ [n % 128 + 128]) (by omega) (by omega) hp (by simp; omega)
      have e3 : varL (d + 1) n = (n % 128 + 128) :: varL d (n / 128) := by simp only [varL]; rw [if_pos hn]
      rw [e3, ← List.singleton_append, ← List.append_assoc]
      refine Ev.step (fun k => ?_) h
      simp only [spec_l01Var.l0]
      rw [if_pos hn, if_pos (by omega), e1, e2]
    · refine Ev.step (f := fun _ => some (strOfNums (xs ++ varL (d + 1) n))) (fun k => ?_) (Ev.now _)
      simp only [spec_l01Var.l0, varL]
      rw [if_neg hn, if_pos (by omega), if_neg hn]
theorem spec_var (n : Int) (h0 : 0 ≤ n) (h1 : n ≤ 9223372036854775807) : Ev (fun k => spec_l01Var.f k n) (var n) := by
  have h := spec_var_loop 9 n [] h0 h1 (by omega) (by simp)
  simpa [var, spec_l01Var.f] using h

/-- What a ReadVar's answer may be. -/
def RvGood (s : ByteArray) (r : Int × Int × Bool) : Prop := 0 ≤ r.1 ∧ r.1 ≤ 1000000000 ∧ 0 ≤ r.2.1 ∧ r.2.1 ≤ s.size
theorem rvGood_no (s : ByteArray) : RvGood s (0, 0, false) := ⟨by simp, by simp, by simp, by simp⟩
theorem rv_num (l : List UInt8) (c : UInt8) (i : Nat) (hl : l.length = i) (hi : i ≤ 4) :
    wrap64 (vl l + wrap64 ((Int.tmod (c.toNat : Int) 128) * ((128 ^ i : Nat) : Int))) = vl (l ++ [c]) ∧ wrap64 (((128 ^ i : Nat) : Int) * 128) = ((128 ^ (i + 1) : Nat) : Int) ∧ 0 ≤ vl (l ++ [c]) ∧ (c.toNat = 0 → vl (l ++ [c]) < ((128 ^ i : Nat) : Int)) := by
  have hc := c.toNat_lt
  have e := vl_snoc l c
  have e2 : ((128 ^ (i + 1) : Nat) : Int) = ((128 ^ i : Nat) : Int) * 128 := by rw [Nat.pow_succ]; omega
  obtain ⟨h0, h1⟩ := vl_range l
  have hp : 128 ^ i ≤ 128 ^ 4 := Nat.pow_le_pow_right (by decide) hi
  have hp' : 128 ^ i ≤ 268435456 := hp
  have hq : 0 < 128 ^ i := Nat.pow_pos (by decide)
  rw [hl] at e h1
  rw [e, e2]
  generalize 128 ^ i = sc at *
  have hm0 : 0 ≤ (sc : Int) * ((c.toNat : Int) % 128) := Int.mul_nonneg (by omega) (by omega)
  have hm1 : (sc : Int) * ((c.toNat : Int) % 128) ≤ 268435456 * 128 := Int.mul_le_mul (by omega) (by omega) (by omega) (by omega)
  have em : Int.tmod (c.toNat : Int) 128 * (sc : Int) = (sc : Int) * ((c.toNat : Int) % 128) := by rw [Int.tmod_eq_emod_of_nonneg (by omega), Int.mul_comm]
  have hw : wrap64 ((sc : Int) * ((c.toNat : Int) % 128)) = (sc : Int) * ((c.toNat : Int) % 128) := wrap64_id (by omega) (by omega)
  have hw2 : wrap64 (vl l + (sc : Int) * ((c.toNat : Int) % 128)) = vl l + (sc : Int) * ((c.toNat : Int) % 128) := wrap64_id (by omega) (by omega)
  refine ⟨by rw [em, hw, hw2], wrap64_id (by omega) (by omega), by omega, fun hz => ?_⟩
  have : (sc : Int) * ((c.toNat : Int) % 128) = 0 := by rw [hz]; simp
  omega
theorem rv_loop (s : ByteArray) (hs : s.size ≤ 140737488355328) (p : Nat) (d : Nat) : ∀ (i : Nat), i + d = 5 → p + i ≤ s.size → (∀ b ∈ (s.data.toList.drop p).take i, 128 ≤ b.toNat) →
    ∃ r, RvGood s r ∧ Ev (fun k => spec_ReadVar.l0 k s (p : Int) (vl ((s.data.toList.drop p).take i)) ((128 ^ i : Nat) : Int) ((p + i : Nat) : Int)) r ∧
      Ev (fun k => impl_ReadVar.l0 k s (p : Int) (vl ((s.data.toList.drop p).take i)) ((128 ^ i : Nat) : Int) (i : Int)) r := by
  induction d with
  | zero =>
    intro i hi hp hb
    have e5_ : Aside0 (wrap64 ((p : Int) + 5) = ((p + i : Nat) : Int)) := ⟨by rw [wrap64_id (by omega) (by omega)]; omega⟩
    refine ⟨(0, 0, false), rvGood_no s, ?_, ?_⟩
    · have hj : Ev (fun k => spec_ReadVar.j1 k s (p : Int) (vl ((s.data.toList.drop p).take i)) ((128 ^ i : Nat) : Int) ((p + i : Nat) : Int) false) (0, 0, false) :=
        Ev.step (f := fun _ => some (0, 0, false)) (fun k => by simp only [spec_ReadVar.j1]; rw [if_neg (by simp)]) (Ev.now _)
      by_cases hlt : ((p + i : Nat) : Int) < (s.size : Int)
      · refine Ev.step (fun k => ?_) hj
        simp only [spec_ReadVar.l0]
        rw [if_pos hlt, e5_.out, decide_eq_false (by omega)]
      · refine Ev.step (fun k => ?_) hj
        simp only [spec_ReadVar.l0]
        rw [if_neg hlt]
    · have hj : Ev (fun k => impl_ReadVar.j2 k s (p : Int) (vl ((s.data.toList.drop p).take i)) ((128 ^ i : Nat) : Int) (i : Int) false) (0, 0, false) :=
        Ev.step (f := fun _ => some (0, 0, false)) (fun k => by simp only [impl_ReadVar.j2]; rw [if_neg (by simp)]) (Ev.now _)
      refine Ev.step (fun k => ?_) hj
      simp only [impl_ReadVar.l0]
      rw [if_neg (by omega)]
  | succ d ih =>
    intro i hi hp hb
    have e5_ : Aside0 (wrap64 ((p : Int) + 5) = (p : Int) + 5) := ⟨by rw [wrap64_id (by omega) (by omega)]⟩
    have ei_ : Aside0 (wrap64 ((p : Int) + (i : Int)) = ((p + i : Nat) : Int)) := ⟨by rw [wrap64_id (by omega) (by omega)]; omega⟩
    by_cases hlt : p + i < s.size
    · obtain ⟨c, e, hbt⟩ := drop_bt s (p + i) hlt
      have hc := c.toNat_lt
      have hlen : ((s.data.toList.drop p).take i).length = i := by simp; omega
      have esn : (s.data.toList.drop p).take (i + 1) = (s.data.toList.drop p).take i ++ [c] := by
        have hi' : (s.data.toList.drop p)[i]? = some c := by
          have h0 : (s.data.toList.drop (p + i))[0]? = some c := by rw [e]; rfl
          simpa using h0
        rw [List.take_add_one, hi']
        rfl
      have eb_ : Aside0 (wrap64 (c.toNat : Int) = (c.toNat : Int)) := ⟨wrap64_id (by omega) (by omega)⟩
      have e1_ : Aside0 (wrap64 (((p + i : Nat) : Int) + 1) = ((p + (i + 1) : Nat) : Int)) := ⟨by rw [wrap64_id (by omega) (by omega)]; omega⟩
      have e2_ : Aside0 (wrap64 ((i : Int) + 1) = ((i + 1 : Nat) : Int)) := ⟨by rw [wrap64_id (by omega) (by omega)]; omega⟩
      have hih : 128 ≤ c.toNat → _ := fun h128 => ih (i + 1) (by omega) (by omega) (by
        intro b hb'
        rw [esn] at hb'
        rcases List.mem_append.1 hb' with h | h
        · exact hb b h
        · rw [List.mem_singleton.1 h]; omega)
      obtain ⟨en0, es0, hvn0, hvz⟩ := rv_num ((s.data.toList.drop p).take i) c i hlen (by omega)
      have en := Aside0.mk en0
      have es := Aside0.mk es0
      clear en0 es0
      have hVlt : ∀ j, i = j + 1 → c.toNat = 0 → Aside0 (vl ((s.data.toList.drop p).take (i + 1)) < ((128 ^ (j + 1) : Nat) : Int)) := by
        rintro j rfl hz
        rw [esn]
        exact ⟨hvz hz⟩
      clear hvz
      rw [← esn] at en hvn0
      generalize hV : vl ((s.data.toList.drop p).take (i + 1)) = V at *
      generalize ((128 ^ i : Nat) : Int) = sc at *
      generalize ((128 ^ (i + 1) : Nat) : Int) = sc' at *
      have hlt' : ((p + i : Nat) : Int) < (s.size : Int) := by omega
      -- the two joins behind the tests of the round
      have hspec : ∀ r, Ev (fun k => if (c.toNat : Int) < 128 then (if V > 1000000000 then some (0, 0, false) else ((spec_l01Var.f k V).bind fun t111 => (if 0 ≤ (p : Int) then (if (p : Int) ≤ ((p + (i + 1) : Nat) : Int) then (if ((p + (i + 1) : Nat) : Int) ≤ (s.size : Int) then (if t111.toList = (s.extract ((p : Int)).toNat ((((p + (i + 1) : Nat) : Int))).toNat).toList then (some (V, ((p + (i + 1) : Nat) : Int), true)) else (some (0, 0, false))) else none) else none) else none))) else spec_ReadVar.l0 k s (p : Int) V sc' ((p + (i + 1) : Nat) : Int)) r →
          Ev (fun k => spec_ReadVar.l0 k s (p : Int) (vl ((s.data.toList.drop p).take i)) sc ((p + i : Nat) : Int)) r := by
        intro r h
        refine Ev.step (f := fun k => spec_ReadVar.j1 k s (p : Int) (vl ((s.data.toList.drop p).take i)) sc ((p + i : Nat) : Int) true) (fun k => ?_) (Ev.step (fun k => ?_) h)
        · simp only [spec_ReadVar.l0]
          rw [if_pos hlt', e5_.out, decide_eq_true (by omega)]
        · simp only [spec_ReadVar.j1]
          rw [if_pos trivial, if_pos (by omega), if_pos hlt', hbt, eb_.out, en.out, es.out, e1_.out]
      have himpl : ∀ r, Ev (fun k => if (c.toNat : Int) ≥ 128 then impl_ReadVar.l0 k s (p : Int) V sc' ((i + 1 : Nat) : Int) else (if (c.toNat : Int) = 0 then (if (i : Int) > 0 then (some (0, 0, false)) else (if V > 1000000000 then (some (0, 0, false)) else (some (V, ((p + (i + 1) : Nat) : Int), true)))) else (if V > 1000000000 then (some (0, 0, false)) else (some (V, ((p + (i + 1) : Nat) : Int), true))))) r →
          Ev (fun k => impl_ReadVar.l0 k s (p : Int) (vl ((s.data.toList.drop p).take i)) sc (i : Int)) r := by
        intro r h
        refine Ev.step (f := fun k => impl_ReadVar.j2 k s (p : Int) (vl ((s.data.toList.drop p).take i)) sc (i : Int) true) (fun k => ?_) (Ev.step (fun k => ?_) h)
        · simp only [impl_ReadVar.l0]
          rw [if_pos (by omega), ei_.out, decide_eq_true hlt']
        · simp only [impl_ReadVar.j2]
          rw [if_pos trivial, ei_.out, if_pos (by omega), if_pos hlt', hbt, eb_.out, en.out, es.out, e1_.out, e2_.out]
      by_cases h128 : c.toNat < 128
      · have h128' : (c.toNat : Int) < 128 := by omega
        have h128n : ¬ (c.toNat : Int) ≥ 128 := by omega
        have hdata : (s.extract ((p : Int)).toNat ((((p + (i + 1) : Nat) : Int))).toNat).toList = (s.data.toList.drop p).take i ++ [c] := by
          rw [ByteArray.toList_eq, Go.Lib.extract_data, ← esn]
          congr 1
          omega
        by_cases hbig : V > 1000000000
        · refine ⟨(0, 0, false), rvGood_no s, hspec _ ?_, himpl _ ?_⟩
          · simp only [if_pos h128', if_pos hbig]
            exact Ev.now _
          · simp only [if_neg h128n, if_pos hbig, ite_self]
            exact Ev.now _
        · by_cases hz : c.toNat = 0 ∧ 0 < i
          · obtain ⟨hz0, hzi⟩ := hz
            refine ⟨(0, 0, false), rvGood_no s, hspec _ ?_, himpl _ ?_⟩
            · simp only [if_pos h128', if_neg hbig]
              refine Ev.bind (spec_var V hvn0 (by omega)) ?_
              have hne : ¬ (var V).toList = (s.extract ((p : Int)).toNat ((((p + (i + 1) : Nat) : Int))).toNat).toList := by
                intro h
                have hl := congrArg List.length h
                rw [hdata, ByteArray.toList_eq] at hl
                have h1 : (var V).data.toList.length = (varL 9 V).length := by unfold var; rw [strOfNums_data]; simp
                have h2 := varL_short (i - 1) 9 V hvn0 (hVlt (i - 1) (by omega) hz0).out
                rw [h1] at hl
                simp only [List.length_append, hlen, List.length_singleton] at hl
                omega
              simp only [if_pos (show 0 ≤ (p : Int) by omega), if_pos (show (p : Int) ≤ ((p + (i + 1) : Nat) : Int) by omega), if_pos (show ((p + (i + 1) : Nat) : Int) ≤ (s.size : Int) by omega), if_neg hne]
              exact Ev.now _
            · simp only [if_neg h128n, if_pos (show (c.toNat : Int) = 0 by omega), if_pos (show (i : Int) > 0 by omega)]
              exact Ev.now _
          · refine ⟨(V, ((p + (i + 1) : Nat) : Int), true), ⟨hvn0, by simp; omega, by simp; omega, by simp; omega⟩, hspec _ ?_, himpl _ ?_⟩
            · simp only [if_pos h128', if_neg hbig]
              refine Ev.bind (spec_var V hvn0 (by omega)) ?_
              have he : (var V).toList = (s.extract ((p : Int)).toNat ((((p + (i + 1) : Nat) : Int))).toNat).toList := by
                rw [hdata, ByteArray.toList_eq]
                have hv := varL_of ((s.data.toList.drop p).take i) c h128 (by
                  rcases Nat.eq_zero_or_pos i with h | h
                  · left; rw [h]; rfl
                  · right; omega) hb 9 (by omega)
                rw [← esn, hV] at hv
                unfold var
                rw [hv, strOfNums_bytes, esn]
              simp only [if_pos (show 0 ≤ (p : Int) by omega), if_pos (show (p : Int) ≤ ((p + (i + 1) : Nat) : Int) by omega), if_pos (show ((p + (i + 1) : Nat) : Int) ≤ (s.size : Int) by omega), if_pos he]
              exact Ev.now _
            · by_cases h0 : (c.toNat : Int) = 0
              · simp only [if_neg h128n, if_pos h0, if_neg (show ¬ (i : Int) > 0 by omega), if_neg hbig]
                exact Ev.now _
              · simp only [if_neg h128n, if_neg h0, if_neg hbig]
                exact Ev.now _
      · obtain ⟨r, hg, h1, h2⟩ := hih (by omega)
        refine ⟨r, hg, hspec _ ?_, himpl _ ?_⟩
        · simp only [if_neg (show ¬ (c.toNat : Int) < 128 by omega)]
          exact h1
        · simp only [if_pos (show (c.toNat : Int) ≥ 128 by omega)]
          exact h2
    · refine ⟨(0, 0, false), rvGood_no s, ?_, ?_⟩
      · have hj : Ev (fun k => spec_ReadVar.j1 k s (p : Int) (vl ((s.data.toList.drop p).take i)) ((128 ^ i : Nat) : Int) ((p + i : Nat) : Int) false) (0, 0, false) :=
          Ev.step (f := fun _ => some (0, 0, false)) (fun k => by simp only [spec_ReadVar.j1]; rw [if_neg (by simp)]) (Ev.now _)
        refine Ev.step (fun k => ?_) hj
        simp only [spec_ReadVar.l0]
        rw [if_neg (by omega)]
      · have hj : Ev (fun k => impl_ReadVar.j2 k s (p : Int) (vl ((s.data.toList.drop p).take i)) ((128 ^ i : Nat) : Int) (i : Int) false) (0, 0, false) :=
          Ev.step (f := fun _ => some (0, 0, false)) (fun k => by simp only [impl_ReadVar.j2]; rw [if_neg (by simp)]) (Ev.now _)
        refine Ev.step (fun k => ?_) hj
        simp only [impl_ReadVar.l0]
        rw [if_pos (by omega), ei_.out, decide_eq_false (by omega)]
theorem readvar_same (s : ByteArray) (hs : s.size ≤ 140737488355328) (at_ : Int) : ∃ r, RvGood s r ∧ Ev (fun k => spec_ReadVar.f k s at_) r ∧ Ev (fun k => impl_ReadVar.f k s at_) r := by
  unfold spec_ReadVar.f impl_ReadVar.f
  by_cases h : 0 ≤ at_ ∧ at_ ≤ (s.size : Int)
  · obtain ⟨p, rfl⟩ := Int.eq_ofNat_of_zero_le h.1
    obtain ⟨r, hg, h1, h2⟩ := rv_loop s hs p 5 0 (by omega) (by omega) (by simp)
    refine ⟨r, hg, ?_, ?_⟩
    · simp only [spec_in, decide_eq_true h, Option.bind_some, if_true]
      simpa [vl] using h1
    · simp only [if_neg (show ¬ (p : Int) < 0 by omega), decide_eq_false (show ¬ (p : Int) > (s.size : Int) by omega)]
      refine Ev.step (fun k => ?_) (by simpa [vl] using h2)
      simp only [impl_ReadVar.j0]
      rw [if_neg (by simp)]
  · refine ⟨(0, 0, false), rvGood_no s, ?_, ?_⟩
    · simp only [spec_in, decide_eq_false h, Option.bind_some]
      simp
      exact Ev.now _
    · have hj : Ev (fun k => impl_ReadVar.j0 k s at_ true) (0, 0, false) :=
        Ev.step (f := fun _ => some (0, 0, false)) (fun k => by simp only [impl_ReadVar.j0]; simp) (Ev.now _)
      by_cases h0 : at_ < 0
      · simp only [if_pos h0]
        exact hj
      · simp only [if_neg h0, decide_eq_true (show at_ > (s.size : Int) by omega)]
        exact hj

theorem FnExactReadShort : laws_FnExactReadShort.Pure := by
  intro s at_ hs hat
  refine Ev.rounds ?_
  unfold laws_FnExactReadShort.f
  by_cases hb : (s.size : Int) > 1048576
  · simp only [if_pos hb]
    exact Ev.now _
  · simp only [if_neg hb]
    obtain ⟨⟨n, next, ok⟩, hg, h1, h2⟩ := readvar_same s (by omega) at_
    obtain ⟨g0, g1, g2, g3⟩ := hg
    simp only at g0 g1 g2 g3
    have key : ∃ q, Ev (fun k => spec_ReadShort.f k s at_) q ∧ Ev (fun k => impl_ReadShort.f k s at_) q := by
      unfold spec_ReadShort.f impl_ReadShort.f
      have e1 : wrap64 ((s.size : Int) - next) = (s.size : Int) - next := wrap64_id (by omega) (by omega)
      have e2 : wrap64 (next + n) = next + n := wrap64_id (by omega) (by omega)
      by_cases hok : ok = true
      · by_cases hn : n > 20000
        · refine ⟨(⟨#[]⟩, 0, false), Ev.bind h1 ?_, Ev.bind h2 ?_⟩ <;> simp only [if_pos hok, if_pos hn] <;> exact Ev.now _
        · by_cases hm : n > (s.size : Int) - next
          · refine ⟨(⟨#[]⟩, 0, false), Ev.bind h1 ?_, Ev.bind h2 ?_⟩ <;> simp only [if_pos hok, if_neg hn, e1, if_pos hm] <;> exact Ev.now _
          · refine ⟨(s.extract next.toNat (next + n).toNat, next + n, true), Ev.bind h1 ?_, Ev.bind h2 ?_⟩ <;> simp only [if_pos hok, if_neg hn, e1, e2, if_neg hm, if_pos g2, if_pos (show next ≤ next + n by omega), if_pos (show next + n ≤ (s.size : Int) by omega)] <;> exact Ev.now _
      · refine ⟨(⟨#[]⟩, 0, false), Ev.bind h1 ?_, Ev.bind h2 ?_⟩ <;> simp only [if_neg hok] <;> exact Ev.now _
    obtain ⟨q, h3, h4⟩ := key
    refine Ev.bind h3 (Ev.bind h4 ?_)
    simp
    exact Ev.now _

end Go.Proofs.Ytcoboobnpmaahaa.Pure
