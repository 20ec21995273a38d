/- The row of the law FnExactCleanTable: whatever comes in, it answers true, and what came in reads as before. Out of its pure statement and the walk. -/
import Derived.Test.YtmahoekbedgbcaaRows
import Derived.Test.YtmahoekbedgbcaaZbHFnExactCleanTablex15
import Derived.Test.YtmahoekbedgbcaaZbPureFnExactCleanTable
import Derived.Test.YtmahoekbedgbcaaZbOpen
import Derived.WalkKit
import Derived.ProofKit
import Derived.OpenShut
import Derived.ShutString
import Derived.ChangeOld
import Derived.Below
import Derived.SizedLaws
import Derived.Carry
set_option linter.unusedVariables false
set_option linter.unusedSimpArgs false
namespace Go.Proofs.Ytmahoekbedgbcaa.fnExactCleanTable
open Go.ChangeShapes Go.WideShapes Go.ChangeAt Go.RowKit Go.Joins Go.Proofs.YtmahoekbedgbcaaW.PrintWords Go.Proofs.Ytmahoekbedgbcaa.HFnExactCleanTable Go.Proofs.Ytmahoekbedgbcaa.Open
open Go.ChangeMaps (open_string shut_string)
theorem own : ownKnob Try.prog.godebug = none := by kernel_rfl
theorem laidOut : laidOutB Try.prog = true := by kernel_rfl
set_option maxRecDepth 100000 in
theorem opens95 {H : Type} {enc : TypeId × Value → H} {w : World} {base : Nat} {spare : Nat → Bool} {held : Bool} : Opens enc Try.prog w base spare held 95 k95 (fun x => x.f0.size ≤ maxLen ∧ (Lit.int .i64 x.f1).wf = true) := by
  intro fuel cs x h
  obtain ⟨xs, n, _, rfl, hl, hlen, hf⟩ := DataW.trod_struct Try.underlying95 h
  have hl' : cs.length = 2 := hl.trans (by kernel_rfl)
  obtain ⟨y0, y1, rfl⟩ := list2 (hlen.trans rfl)
  obtain ⟨c0, c1, rfl⟩ := list2 hl'
  have t0 : DataW.trod enc Try.prog w base spare held n 9 [c0] = some y0 := by
    have z := hf 0 _ rfl
    simpa [show Try.prog.cellsOf 9 = 1 by kernel_rfl] using z
  obtain ⟨a0, e0, w0⟩ := (Opens.string Try.underlying9) _ _ _ t0
  obtain rfl : c0 = .string a0 := by simpa using (show [c0] = [_] from e0)
  have t1 : DataW.trod enc Try.prog w base spare held n 3 [c1] = some y1 := by
    have z := hf 1 _ rfl
    simpa [show Try.prog.cellsOf 3 = 1 by kernel_rfl] using z
  obtain ⟨a1, e1, w1⟩ := (Opens.int Try.underlying3) _ _ _ t1
  obtain rfl : c1 = .int .i64 a1 := by simpa using (show [c1] = [_] from e1)
  exact ⟨⟨a0, a1⟩, k95_mk w _, w0, w1⟩
set_option maxRecDepth 100000 in
theorem lifted (os : Os) (started : os.Started) (H : Type) (enc : TypeId × Value → H) :
    ReturnsInHanded {} Try.checked os 12 .any (Rows.fnExactCleanTableSpec.pre6 enc Try.prog Try.f12 Rows.fnExactCleanTableRow.domain false) (Rows.fnExactCleanTableSpec.post enc Try.prog Try.f12 false true false false) := by
  refine returnsInHanded_of_change_sized (C := Try.checked) own started (by kernel_rfl) Try.func12
    (ChangeSpec.witness6 (enc := enc) (C := Try.checked) false ⟨#[], #[.agg #[.slice none 0 0, .slice none 0 0, .int .i64 0]], []⟩ 8 (by kernel_rfl) (by kernel_rfl) (by kernel_rfl) (by kernel_rfl)) ?_
  intro W base args ds gs before hval0 hW hcnd hsz0 _
  have hsz : (DataW.weightsEach Try.prog (Try.f12.params.toList ++ Rows.fnExactCleanTableSpec.plain.varTypes Try.prog) (ds ++ gs)).all (· ≤ reachBytes) = true := hsz0
  have hval : ∀ (j : Nat) t v, Try.f12.params[j]? = some t → args[j]? = some v → Value.okWide Try.prog W .any base t v := hval0
  have hW' := hW
  obtain ⟨p, q, hA0, hV, rfl, hfz, hnd⟩ := hW
  have hA : DataW.TrodAll enc Try.prog W 0 (fun _ => true) true Try.f12.params.toList args.toList ds p := hA0
  rw [Try.params12] at hA hval hsz
  obtain ⟨v0, vs0, d0, ds0, p0, q0, hargs, rfl, rfl, h0, r0⟩ := trodAll_cons hA
  obtain ⟨rfl, rfl, rfl⟩ := trodAll_nil r0
  obtain rfl : args = #[v0] := by cases args; simp_all
  obtain ⟨rfl, rfl⟩ := trodVars_none hV
  have k0 := h0
  have lt0 : ∀ x ∈ p0, x.block < W.heap.size := by obtain ⟨m, hm⟩ := k0; exact DataW.trod_lt m _ _ _ hm
  obtain ⟨u0_0, u0_1, u0_2, y0_0, y0_1, y0_2, m0, rfl, _, _, g0_0, g0_1, g0_2⟩ := open_agg3 Try.underlying42 (by kernel_rfl) (by kernel_rfl) (hval 0 42 v0 rfl rfl) h0
  obtain ⟨l0_0, ⟨A0_0, c0_0, hcs0_0, hle0_0, hC0_0⟩, hG0_0⟩ := (Opens.slice z95 Try.underlying40 (by kernel_rfl) (opens95)) _ _ _ g0_0
  obtain rfl : u0_0 = .slice A0_0 l0_0.length c0_0 := by simpa using hcs0_0
  obtain ⟨l0_1, ⟨A0_1, c0_1, hcs0_1, hle0_1, hC0_1⟩, hG0_1⟩ := (Opens.slice z95 Try.underlying40 (by kernel_rfl) (opens95)) _ _ _ g0_1
  obtain rfl : u0_1 = .slice A0_1 l0_1.length c0_1 := by simpa using hcs0_1
  obtain ⟨a0_2, hcs0_2, hG0_2⟩ := (Opens.int Try.underlying3) _ _ _ g0_2
  obtain rfl : u0_2 = .int .i64 a0_2 := by simpa using (show [u0_2] = [_] from hcs0_2)
  clear hA0 hval0 hsz0 hsz
  obtain ⟨k, hk⟩ := Pure.FnExactCleanTable l0_0 l0_1 a0_2 hG0_0 hG0_1 hG0_2
  refine (laws_FnExactCleanTable.calls k A0_0 c0_0 l0_0 A0_1 c0_1 l0_1 a0_2 true W hC0_0 hle0_0 hC0_1 hle0_1 hk).mono fun e W' ⟨he, bel0⟩ => ?_
  have bel : Below W.heap.size W W' := by first | exact bel0 | exact bel0.below
  subst he
  exact ⟨_, rfl, _, _, _, [], _, [], hW', trodAll_mk1 (shut_bool Try.underlying4 _), (trodAll_cons_mk (Below.trod laidOut (by kernel_rfl) (of_decide_eq_true (by kernel_rfl)) k0 bel lt0) trodAll_mk0), rfl, bel.frame _, fun h => by cases h⟩
theorem over : Rows.fnExactCleanTableRow.holds Try.pinned (OpenSpec.ofChange Rows.fnExactCleanTableSpec) :=
  OpenClaim.holds_of_wide 12 Try.f12 rfl rfl rfl rfl rfl rfl rfl ⟨rfl, rfl, rfl, rfl, rfl⟩ rfl rfl rfl rfl rfl (by kernel_rfl) Try.func12 (by kernel_rfl)
    (of_decide_eq_true (by kernel_rfl)) (by unfold Func.isWrapper; first | (rw [if_pos (by decide +kernel)]; kernel_rfl) | (rw [if_neg (by decide +kernel)]; exact ⟨rfl, rfl⟩))
    (fun os started H enc _ => lifted os started H enc)
theorem proved : Rows.FnExactCleanTableSaid := over
end Go.Proofs.Ytmahoekbedgbcaa.fnExactCleanTable
namespace Go.Proofs.Ytmahoekbedgbcaa
theorem fnExactCleanTable_holds : Rows.FnExactCleanTableSaid := fnExactCleanTable.proved
#print axioms fnExactCleanTable_holds
end Go.Proofs.Ytmahoekbedgbcaa
