/- What the row of the law needs of the printed and the plain texts. -/
import Derived.Test.YtmahoekbedgbcaaZfWWords
import Derived.Test.YtmahoekbedgbcaaZfWMore
import Derived.Laws.CopyOwn
set_option linter.unusedVariables false
set_option linter.unusedSimpArgs false
namespace Go.Proofs.YtmahoekbedgbcaaW.PrintWords
open Go.RowKit
namespace Kd
structure Plain {α : Type} (d : Kd α) (enc : α → List Value) : Prop where
  len : ∀ x, (enc x).length = d.sz
  one : ∀ x, ∀ u ∈ enc x, u.oneCell' = true
  K : ∀ w x cs, d.K w x cs ↔ cs = enc x
  M : ∀ w b ok x cs, d.M w b ok x cs ↔ cs = enc x
section
variable {α : Type} {enc : α → List Value} {sz : Nat}
theorem flat_length (hl : ∀ x, (enc x).length = sz) (xs : List α) : (xs.flatMap enc).length = xs.length * sz := by
  induction xs with
  | nil => simp
  | cons x xs ih => rw [List.flatMap_cons, List.length_append, hl, ih, List.length_cons, Nat.succ_mul]; omega
theorem reps_flat (hl : ∀ x, (enc x).length = sz) : ∀ (xs : List α) (cs : List Value), Reps (fun x c => c = enc x) sz xs cs ↔ cs = xs.flatMap enc
  | [], cs => ⟨fun h => List.eq_nil_of_length_eq_zero (by simpa using h.1), fun h => by rw [h]; exact Reps.none _ _⟩
  | x :: xs, cs => by
    have ih := reps_flat hl xs
    have ed : ∀ j, (enc x ++ xs.flatMap enc).drop ((j + 1) * sz) = (xs.flatMap enc).drop (j * sz) := fun j => by
      rw [Nat.succ_mul, Nat.add_comm, ← List.drop_drop, List.drop_left' (hl x)]
    constructor
    · rintro ⟨h1, h2⟩
      have h0 : (cs.drop (0 * sz)).take sz = enc x := h2 0 x rfl
      rw [Nat.zero_mul, List.drop_zero] at h0
      have ht : cs.drop sz = xs.flatMap enc := (ih _).1 ⟨by rw [List.length_drop, h1, List.length_cons, Nat.succ_mul]; omega, fun j p hp => by
        rw [List.drop_drop, Nat.add_comm, ← Nat.succ_mul]
        exact h2 (j + 1) p hp⟩
      rw [List.flatMap_cons, ← h0, ← ht, List.take_append_drop]
    · rintro rfl
      refine ⟨flat_length hl _, fun j p hp => ?_⟩
      rw [List.flatMap_cons]
      cases j with
      | zero =>
        rw [Nat.zero_mul, List.drop_zero, List.take_left' (hl x)]
        injection hp with hp
        rw [hp]
      | succ j =>
        rw [ed]
        exact ((ih _).2 rfl).2 j p hp
theorem flat_take (hl : ∀ x, (enc x).length = sz) (xs : List α) (o : Nat) (h : o ≤ xs.length) : (xs.flatMap enc).take (o * sz) = (xs.take o).flatMap enc := by
  conv => lhs; rw [← List.take_append_drop o xs, List.flatMap_append]
  refine List.take_left' ?_
  rw [flat_length hl, List.length_take, Nat.min_eq_left h]
theorem flat_drop (hl : ∀ x, (enc x).length = sz) (xs : List α) (o : Nat) (h : o ≤ xs.length) : (xs.flatMap enc).drop (o * sz) = (xs.drop o).flatMap enc := by
  conv => lhs; rw [← List.take_append_drop o xs, List.flatMap_append]
  refine List.drop_left' ?_
  rw [flat_length hl, List.length_take, Nat.min_eq_left h]
end
section
variable {α : Type} {d : Kd α} {enc : α → List Value} {e : Nat} {W : World} {base : Nat} {ok : Nat → Prop} {v : Value} {xs : List α}
theorem R_plain (hp : Plain d enc) : d.R e W base ok v xs ↔ (∀ k, v.ownBlock = some k → ok k) ∧ W.ownsRow base e d.sz v xs.length (xs.flatMap enc) := by
  constructor
  · rintro ⟨h1, inner, h2, h3⟩
    have := (reps_flat hp.len xs inner).1 (h3.imp_ fun x c h => (hp.M _ _ _ _ _).1 h)
    subst this
    exact ⟨h1, h2⟩
  · rintro ⟨h1, h2⟩
    exact ⟨h1, _, h2, ((reps_flat hp.len xs _).2 rfl).imp_ fun x c h => (hp.M _ _ _ _ _).2 h⟩
theorem C_cells (hp : Plain d enc) {A : Option Addr} {n : Nat} (h : d.C W A n xs) (h0 : 0 < n) : ∃ ad, A = some ad ∧ ∀ j u, (xs.flatMap enc)[j]? = some u → W.cell? (ad.add j) = some u := by
  obtain ⟨hn, _, hC⟩ := h
  obtain ⟨ad, e, hc⟩ := hC h0
  refine ⟨ad, e, fun j u hu => ?_⟩
  have hz : 0 < d.sz := by
    rcases Nat.eq_zero_or_pos d.sz with hz | hz
    · have := (List.getElem?_eq_some_iff.1 hu).1
      rw [flat_length hp.len, hz] at this
      omega
    · exact hz
  have hj : j < xs.length * d.sz := by rw [← flat_length hp.len]; exact (List.getElem?_eq_some_iff.1 hu).1
  have hq : j / d.sz < xs.length := by rw [Nat.div_lt_iff_lt_mul hz]; exact hj
  obtain ⟨c, hl, hK, hcell⟩ := hc (j / d.sz) _ (List.getElem?_eq_getElem hq)
  obtain rfl := (hp.K _ _ _).1 hK
  have hm : j / d.sz * d.sz + j % d.sz = j := by rw [Nat.mul_comm]; exact Nat.div_add_mod j d.sz
  have := hcell (j % d.sz) u (by
    have h1 := flat_drop hp.len xs (j / d.sz) (Nat.le_of_lt hq)
    rw [List.drop_eq_getElem_cons hq, List.flatMap_cons] at h1
    have h2 : (xs.flatMap enc)[j]? = ((xs.flatMap enc).drop (j / d.sz * d.sz))[j % d.sz]? := by rw [List.getElem?_drop, hm]
    rw [h2, h1, List.getElem?_append_left (by rw [hp.len]; exact Nat.mod_lt _ hz)] at hu
    exact hu)
  rwa [hm] at this
theorem R_write (hp : Plain d enc) {g n cap : Nat} (h : d.R e W base ok (.slice (some ⟨g, 0, none⟩) n cap) xs) (o : Nat) (ys : List α) (hfit : o + ys.length ≤ xs.length) :
    ∃ cur, W.heap[g]? = some (.cells cur e (0, 0)) ∧ o * d.sz + (ys.flatMap enc).length ≤ cur.size ∧ base ≤ g ∧ (∀ j, j < xs.length * d.sz → cur[j]? = (xs.flatMap enc)[j]?) ∧
      d.R e (W.setRow g (cur.toList.take (o * d.sz) ++ ys.flatMap enc ++ cur.toList.drop (o * d.sz + (ys.flatMap enc).length)).toArray) base ok (.slice (some ⟨g, 0, none⟩) n cap) (xs.take o ++ ys ++ xs.drop (o + ys.length)) := by
  obtain ⟨h1, h2⟩ := (R_plain hp).1 h
  obtain ⟨hil, h3⟩ := h2
  rcases h3 with ⟨hv, _⟩ | ⟨g', cap', cur, hv, hg, hh, hnc, hcm, hcs, ht⟩
  · cases hv
  · injection hv with ha hn hc
    injection ha with ha
    injection ha with ha _ _
    subst ha hn hc
    have hys := flat_length hp.len ys
    have hle : xs.length * d.sz ≤ cur.size := by rw [hcs]; exact Nat.mul_le_mul_right _ hnc
    have hos : (o + ys.length) * d.sz ≤ xs.length * d.sz := Nat.mul_le_mul_right _ hfit
    rw [Nat.add_mul] at hos
    have hYf : (xs.take o ++ ys ++ xs.drop (o + ys.length)).flatMap enc = (xs.take o).flatMap enc ++ ys.flatMap enc ++ (xs.drop (o + ys.length)).flatMap enc := by rw [List.flatMap_append, List.flatMap_append]
    generalize ys.flatMap enc = Y at hys hYf ⊢
    refine ⟨cur, hh, by omega, hg, fun j hj => ?_, (R_plain hp).2 ⟨h1, ?_⟩⟩
    · rw [← ht, List.getElem?_take_of_lt hj]
      simp
    · have hlen : (xs.take o ++ ys ++ xs.drop (o + ys.length)).length = xs.length := by simp; omega
      rw [hlen]
      refine ⟨by rw [flat_length hp.len, hlen], .inr ⟨g, cap, _, rfl, hg, setRow_heap W g cur _ e (0, 0) hh, hnc, hcm, ?_, ?_⟩⟩
      · rw [← hcs]
        simp
        omega
      · have hcl : cur.toList.length = cur.size := by simp
        have e1 : cur.toList.take (o * d.sz) = (xs.take o).flatMap enc := by
          rw [← flat_take hp.len xs o (by omega), ← ht, List.take_take, Nat.min_eq_left (by omega)]
        have e2 : (cur.toList.drop (o * d.sz + ys.length * d.sz)).take (xs.length * d.sz - (o * d.sz + ys.length * d.sz)) = (xs.drop (o + ys.length)).flatMap enc := by
          rw [← flat_drop hp.len xs (o + ys.length) hfit, ← ht, Nat.add_mul, List.drop_take]
        simp only []
        rw [hYf, e1.symm, ← e2, hys]
        rw [List.take_append, List.take_of_length_le (by simp; omega)]
        congr 2
        simp
        omega
end
section
variable {α : Type} {P : Program} {ops : Array Oper} {o : Oper} {rest : List Oper} {a : Act} {Q : Exit → Act → World → Prop}
theorem run_copy_wide (w : World) (dT sT ty elem : TypeId) (sz : Nat) (g o dLen dCap : Nat) (a : Addr) (sLen sCap : Nat) (cur : Array Value) (t : TypeId) (cs : List Value)
    (hu : P.underlying dT = some (.slice elem)) (hs : (P.info? elem).map (·.size) = some sz)
    (hg : w.heap[g]? = some (.cells cur t (0, 0))) (m : Nat) (hm : Nat.min sLen dLen = m) (hn : cs.length = m * sz)
    (hsrc : ∀ j v, cs[j]? = some v → w.cell? (a.add j) = some v) (hfit : o + cs.length ≤ cur.size) (h1 : ∀ v ∈ cs, v.oneCell' = true) :
    (Builtin.copy_ #[dT, sT] ty #[.slice (some ⟨g, o, none⟩) dLen dCap, .slice (some a) sLen sCap]).run P w =
      .ok (goInt (m : Nat)) (w.setRow g (cur.toList.take o ++ cs ++ cur.toList.drop (o + cs.length)).toArray) := by
  have hl := run_loadCells_list (P := P) w a cs hsrc
  have hst := run_storeCells_at P g o t cs 0 cur w hg (by simpa using hfit) h1
  cases hq : P.info? elem with
  | none => simp [hq] at hs
  | some i =>
    have hi : i.size = sz := by simpa [hq] using hs
    have hm2 : min sLen dLen = m := hm
    rw [hn] at hl
    simp [Builtin.copy_, run_underlying hu, Builtin.lenOf, Builtin.firstCells, sizeOf, typeInfo, hq, hi, hl, hst, hm, hm2]
theorem copy_run {α : Type} {d : Kd α} {enc : α → List Value} (hp : Plain d enc) {w0 W : World} {base e : Nat} {ok : Nat → Prop} (t : TypeId) (hu : P.underlying t = some (.slice e)) (hs : (P.info? e).map (·.size) = some d.sz)
    (g off dl dc : Nat) (ad : Addr) (sl sc : Nat) {n cap : Nat} {xs : List α} (hR : d.R e W base ok (.slice (some ⟨g, 0, none⟩) n cap) xs)
    (o' : Nat) (ho' : off = o' * d.sz) (ys : List α) (hmin : Nat.min sl dl = ys.length) (hfit : o' + ys.length ≤ xs.length) (hsrc : ∀ j u, (ys.flatMap enc)[j]? = some u → W.cell? (ad.add j) = some u) (HB : Below base w0 W) :
    ∃ w1, (∀ ty, (Builtin.copy_ #[t, t] ty #[.slice (some ⟨g, off, none⟩) dl dc, .slice (some ad) sl sc]).run P W = .ok (.int .i64 (ys.length : Nat)) w1) ∧ d.R e w1 base ok (.slice (some ⟨g, 0, none⟩) n cap) (xs.take o' ++ ys ++ xs.drop (o' + ys.length)) ∧ Below base w0 w1 := by
  obtain ⟨cur, hh, hfit2, hg, _, hR2⟩ := R_write hp hR o' ys hfit
  have hone : ∀ u ∈ ys.flatMap enc, u.oneCell' = true := fun u hu => by
    obtain ⟨x, _, hx⟩ := List.mem_flatMap.1 hu
    exact hp.one x u hx
  subst ho'
  exact ⟨_, fun ty => run_copy_wide (P := P) W t t ty e d.sz g (o' * d.sz) dl dc ad sl sc cur e (ys.flatMap enc) hu hs hh ys.length hmin (flat_length hp.len ys) hsrc hfit2 hone, hR2, below_setRow HB hg _⟩
theorem step_copy {α : Type} {d : Kd α} {enc : α → List Value} (hp : Plain d enc) {w0 W : World} {base e : Nat} {ok : Nat → Prop} {K : Act → World → Prop} {E : Prop} (hgd : o.guard = none) (x y : Operand) (t : TypeId)
    (ho : o.op = .call { callee := .builtin .copy, args := #[x, y], argTypes := #[t, t] }) (hu : P.underlying t = some (.slice e)) (hs : (P.info? e).map (·.size) = some d.sz)
    (g off dl dc : Nat) (ad : Addr) (sl sc : Nat) (hx : a.eval x = .slice (some ⟨g, off, none⟩) dl dc) (hy : a.eval y = .slice (some ad) sl sc) {n cap : Nat} {xs : List α} (hR : d.R e W base ok (.slice (some ⟨g, 0, none⟩) n cap) xs)
    (o' : Nat) (ho' : off = o' * d.sz) (ys : List α) (hmin : Nat.min sl dl = ys.length) (hfit : o' + ys.length ≤ xs.length) (hsrc : ∀ j u, (ys.flatMap enc)[j]? = some u → W.cell? (ad.add j) = some u) (HB : Below base w0 W)
    (next : ∀ w1, d.R e w1 base ok (.slice (some ⟨g, 0, none⟩) n cap) (xs.take o' ++ ys ++ xs.drop (o' + ys.length)) → Below base w0 w1 → K (a.put o.dst (.int .i64 (ys.length : Nat))) w1) :
    if Region.wanted o (yielded ops a.tmps) = true then Oper.wp P o a W K Q else E := by
  have hw : Region.wanted o (yielded ops a.tmps) = true := by simp [Region.wanted, hgd]
  rw [if_pos hw]
  obtain ⟨w1, hrun, h1, h2⟩ := copy_run (P := P) hp t hu hs g off dl dc ad sl sc hR o' ho' ys hmin hfit hsrc HB
  unfold Oper.wp
  simp only [execOp, ho, resolve, invoke, builtin, Sem.run_bind, Sem.run_pure, Result.andThen_ok, List.map_toArray, List.map_cons, List.map_nil, hx, hy, hrun]
  exact next _ h1 h2
theorem R_src {α : Type} {d : Kd α} {enc : α → List Value} (hp : Plain d enc) {W : World} {base e : Nat} {ok : Nat → Prop} {g n cap : Nat} {xs : List α} (hR : d.R e W base ok (.slice (some ⟨g, 0, none⟩) n cap) xs) (q : Nat) (hq : q ≤ xs.length) :
    ∀ j u, ((xs.take q).flatMap enc)[j]? = some u → W.cell? (({ block := g, off := 0 } : Addr).add j) = some u := by
  obtain ⟨cur, hh, _, _, hc, _⟩ := R_write hp hR 0 [] (Nat.zero_le _)
  intro j u hu
  rw [← flat_take hp.len xs q hq, List.getElem?_take] at hu
  split at hu
  · rename_i hj
    have hj2 : j < xs.length * d.sz := Nat.lt_of_lt_of_le hj (Nat.mul_le_mul_right _ hq)
    have h3 := hc j hj2
    rw [hu] at h3
    have hadd : (({ block := g, off := 0 } : Addr).add j) = ⟨g, j, none⟩ := by unfold Addr.add; split <;> simp_all
    rw [hadd]
    simp [World.cell?, hh, h3]
  · cases hu
theorem R_cap {α : Type} {d : Kd α} {W : World} {base e : Nat} {ok : Nat → Prop} {g n cap : Nat} {xs : List α} (hR : d.R e W base ok (.slice (some ⟨g, 0, none⟩) n cap) xs) : xs.length ≤ cap ∧ n = xs.length := by
  obtain ⟨_, inner, ho, _⟩ := hR
  rcases ho.2 with ⟨hv, _⟩ | ⟨g', cap', cur, hv, _, _, hnc, _⟩
  · cases hv
  · injection hv with _ hn hc
    subst hc
    exact ⟨hnc, hn⟩
end
end Kd
end Go.Proofs.YtmahoekbedgbcaaW.PrintWords
