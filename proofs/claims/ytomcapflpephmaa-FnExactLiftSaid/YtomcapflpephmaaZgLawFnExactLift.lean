/- The row of the law FnExactLift: whatever comes in, it answers true, and what came in reads as before. Out of its pure statement and the walk. -/
import Derived.Test.YtomcapflpephmaaRows
import Derived.Test.YtomcapflpephmaaZgHFnExactLiftx9
import Derived.Test.YtomcapflpephmaaZgPureFnExactLift
import Derived.Test.YtomcapflpephmaaZgOpen
import Derived.WalkKit
import Derived.ProofKit
import Derived.OpenShut
import Derived.ShutString
import Derived.ChangeOld
import Derived.Below
import Derived.SizedLaws
import Derived.Carry
set_option linter.unusedVariables false
set_option linter.unusedSimpArgs false
namespace Go.Proofs.Ytomcapflpephmaa.fnExactLift
open Go.ChangeShapes Go.WideShapes Go.ChangeAt Go.RowKit Go.Joins Go.Proofs.YtomcapflpephmaaW.PrintWords Go.Proofs.Ytomcapflpephmaa.HFnExactLift Go.Proofs.Ytomcapflpephmaa.Open
open Go.ChangeMaps (open_string shut_string)
theorem own : ownKnob Try.prog.godebug = none := by kernel_rfl
theorem laidOut : laidOutB Try.prog = true := by kernel_rfl
set_option maxRecDepth 100000 in
theorem opens83 {H : Type} {enc : TypeId × Value → H} {w : World} {base : Nat} {spare : Nat → Bool} {held : Bool} : Opens enc Try.prog w base spare held 83 k83 (fun x => (Lit.int .i64 x.f0).wf = true ∧ True ∧ x.f2.size ≤ maxLen ∧ x.f3.size ≤ maxLen ∧ (Lit.int .i64 x.f4).wf = true) := by
  intro fuel cs x h
  obtain ⟨xs, n, _, rfl, hl, hlen, hf⟩ := DataW.trod_struct Try.underlying83 h
  have hl' : cs.length = 5 := hl.trans (by kernel_rfl)
  obtain ⟨y0, y1, y2, y3, y4, rfl⟩ := list5 (hlen.trans rfl)
  obtain ⟨c0, c1, c2, c3, c4, rfl⟩ := list5 hl'
  have t0 : DataW.trod enc Try.prog w base spare held n 3 [c0] = some y0 := by
    have z := hf 0 _ rfl
    simpa [show Try.prog.cellsOf 3 = 1 by kernel_rfl] using z
  obtain ⟨a0, e0, w0⟩ := (Opens.int Try.underlying3) _ _ _ t0
  obtain rfl : c0 = .int .i64 a0 := by simpa using (show [c0] = [_] from e0)
  have t1 : DataW.trod enc Try.prog w base spare held n 4 [c1] = some y1 := by
    have z := hf 1 _ rfl
    simpa [show Try.prog.cellsOf 4 = 1 by kernel_rfl] using z
  obtain ⟨a1, e1, w1⟩ := (Opens.bool Try.underlying4) _ _ _ t1
  obtain rfl : c1 = .bool a1 := by simpa using (show [c1] = [_] from e1)
  have t2 : DataW.trod enc Try.prog w base spare held n 9 [c2] = some y2 := by
    have z := hf 2 _ rfl
    simpa [show Try.prog.cellsOf 9 = 1 by kernel_rfl] using z
  obtain ⟨a2, e2, w2⟩ := (Opens.string Try.underlying9) _ _ _ t2
  obtain rfl : c2 = .string a2 := by simpa using (show [c2] = [_] from e2)
  have t3 : DataW.trod enc Try.prog w base spare held n 9 [c3] = some y3 := by
    have z := hf 3 _ rfl
    simpa [show Try.prog.cellsOf 9 = 1 by kernel_rfl] using z
  obtain ⟨a3, e3, w3⟩ := (Opens.string Try.underlying9) _ _ _ t3
  obtain rfl : c3 = .string a3 := by simpa using (show [c3] = [_] from e3)
  have t4 : DataW.trod enc Try.prog w base spare held n 3 [c4] = some y4 := by
    have z := hf 4 _ rfl
    simpa [show Try.prog.cellsOf 3 = 1 by kernel_rfl] using z
  obtain ⟨a4, e4, w4⟩ := (Opens.int Try.underlying3) _ _ _ t4
  obtain rfl : c4 = .int .i64 a4 := by simpa using (show [c4] = [_] from e4)
  exact ⟨⟨a0, a1, a2, a3, a4⟩, k83_mk w _, w0, w1, w2, w3, w4⟩
set_option maxRecDepth 100000 in
theorem lifted (os : Os) (started : os.Started) (H : Type) (enc : TypeId × Value → H) :
    ReturnsInHanded {} Try.checked os 6 .any (Rows.fnExactLiftSpec.pre6 enc Try.prog Try.f6 Rows.fnExactLiftRow.domain false) (Rows.fnExactLiftSpec.post enc Try.prog Try.f6 false true false false) := by
  refine returnsInHanded_of_change_sized (C := Try.checked) own started (by kernel_rfl) Try.func6
    (ChangeSpec.witness6 (enc := enc) (C := Try.checked) false ⟨#[], #[.agg #[.slice none 0 0, .int .i64 0], .int .i64 0], []⟩ 8 (by kernel_rfl) (by kernel_rfl) (by kernel_rfl) (by kernel_rfl)) ?_
  intro W base args ds gs before hval0 hW hcnd hsz0 _
  have hsz : (DataW.weightsEach Try.prog (Try.f6.params.toList ++ Rows.fnExactLiftSpec.plain.varTypes Try.prog) (ds ++ gs)).all (· ≤ reachBytes) = true := hsz0
  have hval : ∀ (j : Nat) t v, Try.f6.params[j]? = some t → args[j]? = some v → Value.okWide Try.prog W .any base t v := hval0
  have hW' := hW
  obtain ⟨p, q, hA0, hV, rfl, hfz, hnd⟩ := hW
  have hA : DataW.TrodAll enc Try.prog W 0 (fun _ => true) true Try.f6.params.toList args.toList ds p := hA0
  rw [Try.params6] at hA hval hsz
  obtain ⟨v0, vs0, d0, ds0, p0, q0, hargs, rfl, rfl, h0, r0⟩ := trodAll_cons hA
  obtain ⟨v1, vs1, d1, ds1, p1, q1, rfl, rfl, rfl, h1, r1⟩ := trodAll_cons r0
  obtain ⟨rfl, rfl, rfl⟩ := trodAll_nil r1
  obtain rfl : args = #[v0, v1] := by cases args; simp_all
  obtain ⟨rfl, rfl⟩ := trodVars_none hV
  have k0 := h0
  have lt0 : ∀ x ∈ p0, x.block < W.heap.size := by obtain ⟨m, hm⟩ := k0; exact DataW.trod_lt m _ _ _ hm
  obtain ⟨u0_0, u0_1, y0_0, y0_1, m0, rfl, _, _, g0_0, g0_1⟩ := open_agg2 Try.underlying36 (by kernel_rfl) (by kernel_rfl) (hval 0 36 v0 rfl rfl) h0
  obtain ⟨l0_0, ⟨A0_0, c0_0, hcs0_0, hle0_0, hC0_0⟩, hG0_0⟩ := (Opens.slice z83 Try.underlying34 (by kernel_rfl) (opens83)) _ _ _ g0_0
  obtain rfl : u0_0 = .slice A0_0 l0_0.length c0_0 := by simpa using hcs0_0
  obtain ⟨a0_1, hcs0_1, hG0_1⟩ := (Opens.int Try.underlying3) _ _ _ g0_1
  obtain rfl : u0_1 = .int .i64 a0_1 := by simpa using (show [u0_1] = [_] from hcs0_1)
  obtain ⟨a1, rfl, rfl, rfl, w1⟩ := open_int Try.underlying3 (hval 1 3 v1 rfl rfl) h1
  clear hA0 hval0 hsz0 hsz
  obtain ⟨k, hk⟩ := Pure.FnExactLift l0_0 a0_1 a1 hG0_0 hG0_1 w1
  refine (laws_FnExactLift.calls k A0_0 c0_0 l0_0 a0_1 a1 true W hC0_0 hle0_0 hk).mono fun e W' ⟨he, bel0⟩ => ?_
  have bel : Below W.heap.size W W' := by first | exact bel0 | exact bel0.below
  subst he
  exact ⟨_, rfl, _, _, _, [], _, [], hW', trodAll_mk1 (shut_bool Try.underlying4 _), (trodAll_cons_mk (Below.trod laidOut (by kernel_rfl) (of_decide_eq_true (by kernel_rfl)) k0 bel lt0) (trodAll_cons_mk (shut_int Try.underlying3 w1) trodAll_mk0)), rfl, bel.frame _, fun h => by cases h⟩
theorem over : Rows.fnExactLiftRow.holds Try.pinned (OpenSpec.ofChange Rows.fnExactLiftSpec) :=
  OpenClaim.holds_of_wide 6 Try.f6 rfl rfl rfl rfl rfl rfl rfl ⟨rfl, rfl, rfl, rfl, rfl⟩ rfl rfl rfl rfl rfl (by kernel_rfl) Try.func6 (by kernel_rfl)
    (of_decide_eq_true (by kernel_rfl)) (by unfold Func.isWrapper; first | (rw [if_pos (by decide +kernel)]; kernel_rfl) | (rw [if_neg (by decide +kernel)]; exact ⟨rfl, rfl⟩))
    (fun os started H enc _ => lifted os started H enc)
theorem proved : Rows.FnExactLiftSaid := over
end Go.Proofs.Ytomcapflpephmaa.fnExactLift
namespace Go.Proofs.Ytomcapflpephmaa
theorem fnExactLift_holds : Rows.FnExactLiftSaid := fnExactLift.proved
#print axioms fnExactLift_holds
end Go.Proofs.Ytomcapflpephmaa
