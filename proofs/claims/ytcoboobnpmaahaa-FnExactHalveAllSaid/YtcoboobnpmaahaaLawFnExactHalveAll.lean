/- The row of the law FnExactHalveAll: whatever comes in, it answers true, and what came in reads as before. Out of its pure statement and the walk. -/
import Derived.Test.YtcoboobnpmaahaaRows
import Derived.Test.YtcoboobnpmaahaaHFnExactHalveAllx4
import Derived.Test.YtcoboobnpmaahaaPureFnExactHalveAll
import Derived.Test.YtcoboobnpmaahaaOpen
import Derived.WalkKit
import Derived.ProofKit
import Derived.OpenShut
import Derived.ShutString
import Derived.ChangeOld
import Derived.Below
import Derived.SizedLaws
import Derived.Carry
set_option linter.unusedVariables false
set_option linter.unusedSimpArgs false
namespace Go.Proofs.Ytcoboobnpmaahaa.fnExactHalveAll
open Go.ChangeShapes Go.WideShapes Go.ChangeAt Go.RowKit Go.Joins Go.Proofs.YtcoboobnpmaahaaW.PrintWords Go.Proofs.Ytcoboobnpmaahaa.HFnExactHalveAll Go.Proofs.Ytcoboobnpmaahaa.Open
open Go.ChangeMaps (open_string shut_string)
theorem own : ownKnob Try.prog.godebug = none := by kernel_rfl
theorem laidOut : laidOutB Try.prog = true := by kernel_rfl
set_option maxRecDepth 100000 in
theorem lifted (os : Os) (started : os.Started) (H : Type) (enc : TypeId × Value → H) :
    ReturnsInHanded {} Try.checked os 10 .any (Rows.fnExactHalveAllSpec.pre6 enc Try.prog Try.f10 Rows.fnExactHalveAllRow.domain false) (Rows.fnExactHalveAllSpec.post enc Try.prog Try.f10 false true false false) := by
  refine returnsInHanded_of_change_sized (C := Try.checked) own started (by kernel_rfl) Try.func10
    (ChangeSpec.witness6 (enc := enc) (C := Try.checked) false ⟨#[], #[.agg #[.slice none 0 0, .int .i64 0]], []⟩ 8 (by kernel_rfl) (by kernel_rfl) (by kernel_rfl) (by kernel_rfl)) ?_
  intro W base args ds gs before hval0 hW hcnd hsz0 _
  have hsz : (DataW.weightsEach Try.prog (Try.f10.params.toList ++ Rows.fnExactHalveAllSpec.plain.varTypes Try.prog) (ds ++ gs)).all (· ≤ reachBytes) = true := hsz0
  have hval : ∀ (j : Nat) t v, Try.f10.params[j]? = some t → args[j]? = some v → Value.okWide Try.prog W .any base t v := hval0
  have hW' := hW
  obtain ⟨p, q, hA0, hV, rfl, hfz, hnd⟩ := hW
  have hA : DataW.TrodAll enc Try.prog W 0 (fun _ => true) true Try.f10.params.toList args.toList ds p := hA0
  rw [Try.params10] at hA hval hsz
  obtain ⟨v0, vs0, d0, ds0, p0, q0, hargs, rfl, rfl, h0, r0⟩ := trodAll_cons hA
  obtain ⟨rfl, rfl, rfl⟩ := trodAll_nil r0
  obtain rfl : args = #[v0] := by cases args; simp_all
  obtain ⟨rfl, rfl⟩ := trodVars_none hV
  have k0 := h0
  have lt0 : ∀ x ∈ p0, x.block < W.heap.size := by obtain ⟨m, hm⟩ := k0; exact DataW.trod_lt m _ _ _ hm
  obtain ⟨u0_0, u0_1, y0_0, y0_1, m0, rfl, _, _, g0_0, g0_1⟩ := open_agg2 Try.underlying32 (by kernel_rfl) (by kernel_rfl) (hval 0 32 v0 rfl rfl) h0
  obtain ⟨l0_0, ⟨A0_0, c0_0, hcs0_0, hle0_0, hC0_0⟩, hG0_0⟩ := (Opens.slice (0 : Int) Try.underlying22 (by kernel_rfl) (Opens.int Try.underlying3)) _ _ _ g0_0
  obtain rfl : u0_0 = .slice A0_0 l0_0.length c0_0 := by simpa using hcs0_0
  obtain ⟨a0_1, hcs0_1, hG0_1⟩ := (Opens.int Try.underlying3) _ _ _ g0_1
  obtain rfl : u0_1 = .int .i64 a0_1 := by simpa using (show [u0_1] = [_] from hcs0_1)
  clear hA0 hval0 hsz0 hsz
  obtain ⟨k, hk⟩ := Pure.FnExactHalveAll l0_0 a0_1 hG0_0 hG0_1
  refine (laws_FnExactHalveAll.calls k A0_0 c0_0 l0_0 a0_1 true W hC0_0 hle0_0 hk).mono fun e W' ⟨he, bel0⟩ => ?_
  have bel : Below W.heap.size W W' := by first | exact bel0 | exact bel0.below
  subst he
  exact ⟨_, rfl, _, _, _, [], _, [], hW', trodAll_mk1 (shut_bool Try.underlying4 _), (trodAll_cons_mk (Below.trod laidOut (by kernel_rfl) (of_decide_eq_true (by kernel_rfl)) k0 bel lt0) trodAll_mk0), rfl, bel.frame _, fun h => by cases h⟩
theorem over : Rows.fnExactHalveAllRow.holds Try.pinned (OpenSpec.ofChange Rows.fnExactHalveAllSpec) :=
  OpenClaim.holds_of_wide 10 Try.f10 rfl rfl rfl rfl rfl rfl rfl ⟨rfl, rfl, rfl, rfl, rfl⟩ rfl rfl rfl rfl rfl (by kernel_rfl) Try.func10 (by kernel_rfl)
    (of_decide_eq_true (by kernel_rfl)) (by unfold Func.isWrapper; first | (rw [if_pos (by decide +kernel)]; kernel_rfl) | (rw [if_neg (by decide +kernel)]; exact ⟨rfl, rfl⟩))
    (fun os started H enc _ => lifted os started H enc)
theorem proved : Rows.FnExactHalveAllSaid := over
end Go.Proofs.Ytcoboobnpmaahaa.fnExactHalveAll
namespace Go.Proofs.Ytcoboobnpmaahaa
/-- The row, under a short name, for the claim. -/
theorem fnExactHalveAll_holds : Rows.FnExactHalveAllSaid := fnExactHalveAll.proved
#print axioms fnExactHalveAll_holds
end Go.Proofs.Ytcoboobnpmaahaa
