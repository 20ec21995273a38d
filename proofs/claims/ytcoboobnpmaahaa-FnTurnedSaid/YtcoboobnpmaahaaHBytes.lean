/- []byte(s): a new row of the string's bytes, whose block bears a conversion's mark behind its cells: read, written, and made a string again. -/
import Derived.Test.YtcoboobnpmaahaaWWords
import Derived.Test.YtcoboobnpmaahaaWMore
import Derived.Lib.ConvBytes
set_option linter.unusedVariables false
set_option linter.unusedSimpArgs false
namespace Go.Proofs.YtcoboobnpmaahaaW.PrintWords
open Go.RowKit
namespace RB
variable {P : Program} {ops : Array Oper} {o : Oper} {rest : List Oper} {a : Act} {Q : Exit → Act → World → Prop}
/-- A row of bytes of the call's own; the mark lies behind its cells. -/
def R (e : Nat) (w : World) (base : Nat) (ok : Nat → Prop) (v : Value) (xs : List Int) : Prop :=
  xs.length ≤ 9223372036854775807 ∧ ∃ g cap cur m, v = .slice (some ⟨g, 0, none⟩) xs.length cap ∧ ok g ∧ base ≤ g ∧ g < w.heap.size ∧ w.heap[g]? = some (.cells cur e (m, m + 1)) ∧ xs.length ≤ cap ∧ xs.length ≤ m ∧
    ∀ (j : Nat) (x : Int), xs[j]? = some x → cur[j]? = some (Value.int .u8 x)
variable {e : Nat} {w w1 : World} {base base' : Nat} {ok : Nat → Prop} {v : Value} {xs : List Int} {g n cap : Nat}
theorem R_below (h : R e w base ok v xs) (hb : Below w.heap.size w w1) : R e w1 base ok v xs := by
  obtain ⟨hn, g, cap, cur, m, hv, h0, h1, h2, h3, h4, h5, h6⟩ := h
  exact ⟨hn, g, cap, cur, m, hv, h0, h1, Nat.lt_of_lt_of_le h2 hb.size, (hb.block g h2).trans h3, h4, h5, h6⟩
theorem R_lower (h : R e w base ok v xs) (hb : base' ≤ base) : R e w base' ok v xs := by
  obtain ⟨hn, g, cap, cur, m, hv, h0, h1, h⟩ := h
  exact ⟨hn, g, cap, cur, m, hv, h0, Nat.le_trans hb h1, h⟩
theorem R_drew (h : R e w base ok v xs) : R e w.drew base ok v xs := R_below h (below_drew1 (Below.refl _ _))
theorem R_drewN (h : R e w base ok v xs) (m : Nat) : R e (w.drewN m) base ok v xs := R_below h (pw_below_drewN (Below.refl _ _) m)
theorem R_alloc (h : R e w base ok v xs) (o : Obj) : R e (w.alloc o) base ok v xs := R_below h (below_alloc (Below.refl _ _) o)
theorem R_slice (h : R e w base ok v xs) : ∃ A c, v = .slice A xs.length c := by
  obtain ⟨hn, g, cap, cur, m, hv, _⟩ := h
  exact ⟨_, cap, hv⟩
theorem R_cell0 (h : R e w base ok (.slice (some ⟨g, 0, none⟩) n cap) xs) : n = xs.length ∧ n ≤ cap ∧ base ≤ g ∧ ∀ (j : Nat) (x : Int), xs[j]? = some x → w.cell? ⟨g, j, none⟩ = some (.int .u8 x) ∧ w.frozen? ⟨g, j, none⟩ = false := by
  obtain ⟨hn, g', cap', cur, m, hv, h0, h1, h2, h3, h4, h5, h6⟩ := h
  injection hv with e1 e2 e3
  injection e1 with e1
  injection e1 with e1 _ _
  subst e1; subst e2; subst e3
  refine ⟨rfl, h4, h1, fun j x hj => ?_⟩
  have hlt : j < xs.length := (List.getElem?_eq_some_iff.1 hj).1
  constructor
  · simp [World.cell?, h3, h6 j x hj]
  · simp only [World.frozen?, h3]
    have : decide (m ≤ j) = false := decide_eq_false (by omega)
    simp [this]
theorem R_reads' {A : Option Addr} (h : R e w base ok (.slice A n cap) xs) : n = xs.length ∧ n ≤ cap ∧ (Kd.int .u8).C w A xs.length xs := by
  have h0 := h
  obtain ⟨hn, g', cap', cur, m, hv, _⟩ := h0
  injection hv with e1 e2 e3
  subst e1
  obtain ⟨a1, a2, _, a3⟩ := R_cell0 h
  refine ⟨a1, a2, rfl, hn, fun _ => ⟨_, rfl, fun j p hj => ⟨[.int .u8 p], rfl, rfl, fun i u hi => ?_⟩⟩⟩
  have hi0 : i = 0 := by
    have := (List.getElem?_eq_some_iff.1 hi).1
    simpa using this
  subst hi0
  have hu : u = .int .u8 p := by simpa using hi.symm
  subst hu
  have e : (⟨g', 0, none⟩ : Addr).add (j * (Kd.int .u8).sz + 0) = ⟨g', j, none⟩ := by
    have hs : (Kd.int .u8).sz = 1 := rfl
    rw [hs]
    simp [Addr.add]
    exact fun h => h.symm
  rw [e]
  exact (a3 j p hj).1
theorem R_form (h : R e w base ok v xs) (hp : 0 < xs.length) : ∃ g cap, v = .slice (some ⟨g, 0, none⟩) xs.length cap ∧ base ≤ g ∧ g < w.heap.size ∧ ∃ cells, ∃ m, w.heap[g]? = some (.cells cells e (m, m + 1)) := by
  obtain ⟨hn, g, cap, cur, m, hv, h0, h1, h2, h3, _⟩ := h
  exact ⟨g, cap, hv, h1, h2, cur, m, h3⟩
theorem R_celln (d : Int) (h : R e w base ok (.slice (some ⟨g, 0, none⟩) n cap) xs) (i : Int) (h0 : 0 ≤ i) (hi : i < n) : w.cell? ⟨g, i.toNat, none⟩ = some (.int .u8 (rdOf d xs i)) ∧ w.frozen? ⟨g, i.toNat, none⟩ = false := by
  obtain ⟨a1, _, _, a3⟩ := R_cell0 h
  have hlt : i.toNat < xs.length := by omega
  have := a3 i.toNat _ (List.getElem?_eq_getElem hlt)
  refine ⟨?_, this.2⟩
  rw [this.1]
  simp [rdOf, List.getD_eq_getElem?_getD, List.getElem?_eq_getElem hlt]
theorem R_putn (h : R e w base ok (.slice (some ⟨g, 0, none⟩) n cap) xs) (i : Int) (x : Int) : R e (w.setCell ⟨g, i.toNat, none⟩ (.int .u8 x)) base ok (.slice (some ⟨g, 0, none⟩) n cap) (xs.set i.toNat x) := by
  obtain ⟨hn, g', cap', cur, m, hv, h0, h1, h2, h3, h4, h5, h6⟩ := h
  injection hv with e1 e2 e3
  injection e1 with e1
  injection e1 with e1 _ _
  subst e1; subst e2; subst e3
  refine ⟨by simpa using hn, g, cap, cur.setIfInBounds i.toNat (.int .u8 x), m, by simp, h0, h1, by simpa [World.setCell] using h2, ?_, by simpa using h4, by simpa using h5, fun j y hj => ?_⟩
  · simp [World.setCell, Array.getElem?_modify, h3]
  · rw [List.getElem?_set] at hj
    rw [Array.getElem?_setIfInBounds]
    by_cases hji : i.toNat = j
    · subst hji
      simp only [if_true] at hj ⊢
      split at hj
      · rename_i hlt
        have hy : x = y := by simpa using hj
        have := h6 i.toNat _ (List.getElem?_eq_getElem hlt)
        have hs : i.toNat < cur.size := (Array.getElem?_eq_some_iff.1 this).1
        simp [hs, hy]
      · cases hj
    · rw [if_neg hji] at hj ⊢
      exact h6 j y hj
/-- Another row's block is not this one: its mark is another. -/
theorem R_types {α : Type} {d : Kd α} {e' : Nat} {xs' : List α} (h : d.R e' w base ok v xs') {g t : Nat} {cells : Array Value} (hb : ∃ m, w.heap[g]? = some (.cells cells t (m, m + 1))) (_ : True) : d.R e' w base (fun k => ok k ∧ k ≠ g) v xs' :=
  Kd.R_mono (Kd.R_bound h) (fun k hk => ⟨hk.1, by
    obtain ⟨_, _, _, q, hq, cells', hc⟩ := hk
    obtain ⟨m, hm⟩ := hb
    rintro rfl
    rw [hc] at hm
    simp at hm⟩)
theorem string {src dst : TypeId} (hs : P.underlying src = some (.slice e)) (he : P.underlying e = some (.int .u8)) (hd : P.underlying dst = some .string) {e' : Nat} (h : R e' w base ok v xs) :
    (convert src dst v).run P w = .ok (.string (strOfNums xs)) w := by
  obtain ⟨A, c, rfl⟩ := R_slice h
  have h0 := h
  obtain ⟨hn, g', cap', cur, m, hv, _⟩ := h0
  injection hv with e1 e2 e3
  subst e1
  obtain ⟨_, _, _, a3⟩ := R_cell0 h
  refine run_convert_bytes_arg w src e hs he g' 0 xs.length c xs rfl (fun i hi => ?_) dst hd
  have := (a3 i _ (List.getElem?_eq_getElem hi)).1
  simp [List.getD_eq_getElem?_getD, List.getElem?_eq_getElem hi, this, Addr.add]
/-- []byte(s). -/
theorem new {w0 W : World} (base e : Nat) (hgd : o.guard = none) {N : Tmp} (hd : o.dst = some N) (src t : TypeId) {x : Operand} (ho : o.op = .convert src t x) (s : ByteArray) (hx : a.eval x = .string s)
    (hs : P.underlying src = some .string) (ht : P.underlying t = some (.slice e)) (he : P.underlying e = some (.int .u8)) (hsz : s.size ≤ 9223372036854775807) {ok : Nat → Prop} (hok : ok W.heap.size) (HB : Below base w0 W) (hbase : base ≤ W.heap.size)
    (h : ∀ v1 w1, R e w1 base ok v1 (bytesOf s) → Below base w0 w1 → W.grownBy w1 none → (∃ b, v1.ownBlock = some b ∧ W.heap.size ≤ b) → wpList P ops Q rest (a.put o.dst v1) w1) : wpList P ops Q (o :: rest) a W := by
  have hc := Lib.run_convert_string_bytes (P := P) W src t e s hs ht he
  have hrun : (execOp a.eval o).run P W = .ok (.value (.slice (some ⟨W.heap.size, 0, none⟩) s.size (grownCap W s.size 0 e))) (Lib.bytesWorld W e s) := by
    simp [execOp, ho, hx, hc]
  have hl := bytesOf_length s
  refine Kd.event_run hgd hrun (h _ _ ?_ (bytes_below HB hbase e s) (grown_of_below (bytes_below (Below.refl _ _) (Nat.le_refl _) e s) none) ⟨W.heap.size, by simp [Value.ownBlock], Nat.le_refl _⟩)
  have hb := Lib.bytesWorld_at_new W e s
  refine ⟨by omega, W.heap.size, _, _, _, by rw [hl], hok, hbase, by rw [Lib.bytesWorld_size]; omega, hb, ?_, ?_, fun j y hj => ?_⟩
  · rw [hl]
    exact grownCap_ge _ _ _ _
  · rw [hl]
    simp [Lib.bytesCells]
  · have hlt : j < s.size := by have := (List.getElem?_eq_some_iff.1 hj).1; omega
    have := Lib.bytesWorld_cell W e s j hlt
    simp only [World.cell?, hb] at this
    simp at this
    rw [this]
    simp [bytesOf, List.getElem?_map] at hj
    obtain ⟨b, hb1, rfl⟩ := hj
    simp [List.getD_eq_getElem?_getD, hb1]
end RB
end Go.Proofs.YtcoboobnpmaahaaW.PrintWords
