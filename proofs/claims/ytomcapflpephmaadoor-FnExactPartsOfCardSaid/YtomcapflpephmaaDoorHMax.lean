/- The first variable of the program, a new row of texts, and the wrap of a row that keeps the shape of the world. -/
import Derived.Test.YtomcapflpephmaaDoorShelf
import Derived.Test.YtomcapflpephmaaDoorWWords
import Derived.Below
import Derived.Lib.SplitLaws
import Derived.HandedShaped
import Derived.Test.YtomcapflpephmaaDoorWApart
set_option linter.unusedVariables false
namespace Go.Proofs.YtomcapflpephmaaDoorW.PrintWords
open Go.RowKit
/-- The first variable holds some number: so it does while nothing below is written. -/
theorem max_up {w w' : World} (h : Aside0 (∃ m, w.cell? ⟨0, 0, none⟩ = some (.int .i64 m))) (hb : Below w.heap.size w w') : Aside0 (∃ m, w'.cell? ⟨0, 0, none⟩ = some (.int .i64 m)) := by
  obtain ⟨m, hm⟩ := h.out
  have hlt : 0 < w.heap.size := by
    rcases Nat.lt_or_ge 0 w.heap.size with h' | h'
    · exact h'
    · simp [World.cell?, Array.getElem?_eq_none h'] at hm
  refine ⟨m, ?_⟩
  unfold World.cell? at hm ⊢
  rw [hb.block 0 hlt]
  exact hm
/-- A new row of texts. -/
theorem texts_new (w : World) (l : List ByteArray) (hl : l.length ≤ maxLen) : Kd.R Kd.string 9 (w.alloc (.cells (l.map Value.string).toArray 9)) w.heap.size (fun _ => True) (.slice (some ⟨w.heap.size, 0, none⟩) l.length l.length) l := by
  have hlen : (l.map Value.string).toArray.size = l.length * Kd.string.sz := by simp [Kd.string, Kd.scalar]
  refine ⟨fun k hk => trivial, l.map Value.string, ?_, ?_⟩
  · have h2 := World.ownsRow_lit (base := w.heap.size) (e := 9) (size := Kd.string.sz) w (l.map Value.string).toArray l.length (Nat.le_refl _) (by simpa using hl) (by simpa using hlen)
    simpa using h2
  · refine ⟨by simpa using hlen, fun j p hj => ?_⟩
    have e : ((l.map Value.string).drop (j * Kd.string.sz)).take Kd.string.sz = [Value.string p] := by
      have hs : Kd.string.sz = 1 := rfl
      rw [hs, Nat.mul_one]
      have hj2 : (l.map Value.string)[j]? = some (Value.string p) := by simp [hj]
      obtain ⟨hlt, hp⟩ := List.getElem?_eq_some_iff.1 hj2
      rw [List.drop_eq_getElem_cons hlt, hp]
      rfl
    rw [e]
    exact rfl
end Go.Proofs.YtomcapflpephmaaDoorW.PrintWords
namespace Go.Proofs.YtomcapflpephmaaDoorW
variable {H : Type} {enc : TypeId × Value → H}
/-- The wrap of a row that lists variables, the world's shape kept. -/
theorem returns_laid_shaped {a : Assume} {C : Checked} {os : Os} {f : FuncId} {fn : Func} {s : ChangeSpec} {conds : List PathCond} {apart fresh handsOn again : Bool} {X : World → Array Value → Prop}
    (hX : ∀ (w w' : World) (args : Array Value), w.heap = w'.heap → X w args → X w' args)
    (own : ownKnob C.prog.godebug = none) (started : os.Started) (noInit : C.prog.inits.idxOf? f = none) (hfn : C.prog.funcs[f]? = some fn)
    (witness : ∃ (w : World) (tape : Tape) (i : Input), w.os = os ∧ (w.forCall tape i).Shaped C.prog ∧ i.vars = [] ∧ Input.okWide C.prog (w.forCall tape i) .any w.heap.size f i ∧
      ((s.pre enc C.prog fn conds apart (w.forCall tape i).memory i.args ∧ X (w.forCall tape i).memory i.args) ∧ sizedMet enc C.prog fn (OpenSpec.ofChange s) apart (w.forCall tape i).memory i.args) ∧ a.holds C.prog (lone (Frame.enter C.prog f i.args .normal) [] (w.forCall tape i)))
    (contract : ∀ (W : World) (base : Nat) (args : Array Value) (ds gs : List (DataW H)) (before : List MemPlace),
      (∀ (j : Nat) t v, fn.params[j]? = some t → args[j]? = some v → Value.okWide C.prog W .any base t v) →
      DataW.Whole enc C.prog fn.params.toList s.vars apart W args.toList ds gs before →
      conds.all (PathCond.test C.prog ⟨fn.params.toList, ds, s.plain.varTypes C.prog, gs⟩) = true →
      (DataW.weightsEach C.prog (fn.params.toList ++ s.plain.varTypes C.prog) (ds ++ gs)).all (· ≤ reachBytes) = true →
      W.ShapedOpen C.prog →
      a.holds C.prog (lone (Frame.enter C.prog f args .normal) [] W) →
      Calls C.prog f args W fun e W' => ∃ v, e = .returned v ∧ s.post enc C.prog fn apart fresh handsOn again W args v W') :
    ReturnsInHanded a C os f .any (fun w args => (s.pre enc C.prog fn conds apart w args ∧ X w args) ∧ sizedMet enc C.prog fn (OpenSpec.ofChange s) apart w args) (s.post enc C.prog fn apart fresh handsOn again) := by
  refine returnsInHanded_of_calls own started noInit witness ?_
  intro w tape i _ hsh _ hok hpre hholds
  obtain ⟨_, _, _, fn', hfn', _, _, _, _, hval⟩ := hok
  have e : fn' = fn := Option.some.inj (hfn'.symm.trans hfn)
  subst e
  obtain ⟨⟨⟨ds, gs, before, hw, hc⟩, hx⟩, hz⟩ := hpre
  have hw' := DataW.Whole.of_heap (w' := w.forCall tape i) (by rfl) hw
  refine (contract (w.forCall tape i) w.heap.size i.args ds gs before hval hw' hc (hz.weights hw) hsh hholds).mono fun e W' ⟨v, he, hp⟩ => ?_
  subst he
  exact ChangeSpec.post_blind hp
end Go.Proofs.YtomcapflpephmaaDoorW
