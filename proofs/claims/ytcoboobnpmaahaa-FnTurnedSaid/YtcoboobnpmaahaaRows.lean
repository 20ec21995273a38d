/-
  No cell of these rows narrows 'for every input' (looked for: loops, veiled, ifaces, maps, wideKeys, modest, calm, conditions, laid).
  DERIVED. THE GIVEN ROWS OF THIS SEAT. 12 by the template 'for every input the law returns true; each argument reads behind the call as it read before'; 0 by the template 'total and deterministic' (their statements: YtcoboobnpmaahaaTotals.lean).
  GIVEN WITH THE SEED: the statements are not yours to turn. If you find one false, say at which input.
  Laid BY PROGRAM, IN A SANDBOX (cutbox-rows.mjs): the forced cells as the released guide's own fill.sh prints them over the translation 3aeaf93d9d377537… (all of the seat's roots in one cut). By AI agents, Wed Nov 11 2026. No macro, syntax, notation, axiom, sorry.
-/
import Derived.Test.YtcoboobnpmaahaaChecked
import GoSem.Claim
import GoSem.ClaimJoined
import GoSem.ClaimMapViews
import Derived.JoinedTies
import Derived.KernelRfl
namespace Go.Proofs.Ytcoboobnpmaahaa
/- THE CELL 'sum', in the pinned program and in every row, IS THE sha256 OF THE DUMP (.gsa) THAT YtcoboobnpmaahaaProg.lean LOADS. Nothing in Lean hashes anything: it is a label: what it is worth is what the hold of that sum in a sandbox is worth. -/
noncomputable def Try.pinned : Pinned := { name := "ytcoboobnpmaahaa", sum := "3aeaf93d9d3775371d9009d5fa42a9cd762ba7a0c57dd0c926aee00469f00f53", checked := Try.checked }
namespace Rows
def none {H : Type} : Left H := { results := [], args := [] }

/-- 'laws.FnExactSketchNew': WHATEVER THE INPUT: true; the input reads as it did. -/
def fnExactSketchNewSpec : ChangeSpec := { name := "fnExactSketchNew", fn := fun _ => fun
  | [] => { results := [.lit (.bool true)], args := [] }
  | _ => none }
def fnExactSketchNewRow : OpenClaim := { program := "ytcoboobnpmaahaa", sum := "3aeaf93d9d3775371d9009d5fa42a9cd762ba7a0c57dd0c926aee00469f00f53", func := "loop.example/g00180/laws.FnExactSketchNew", spec := "fnExactSketchNew", apart := false }
def FnExactSketchNewSaid : Prop := fnExactSketchNewRow.holds Try.pinned (OpenSpec.ofChange fnExactSketchNewSpec)

/-- ITS FALSE NEIGHBOUR: 'it returns false'. Refute it at one input. -/
def fnExactSketchNewWrong : ChangeSpec := { name := "fnExactSketchNew", fn := fun _ => fun
  | [] => { results := [.lit (.bool false)], args := [] }
  | _ => none }
def FnExactSketchNewWrongFalsely : Prop := fnExactSketchNewRow.holds Try.pinned (OpenSpec.ofChange fnExactSketchNewWrong)

/-- 'laws.FnExactReadShort': WHATEVER THE INPUT: true; the input reads as it did. -/
def fnExactReadShortSpec : ChangeSpec := { name := "fnExactReadShort", fn := fun _ => fun
  | [d1, d2] => { results := [.lit (.bool true)], args := [d1, d2] }
  | _ => none }
def fnExactReadShortRow : OpenClaim := { program := "ytcoboobnpmaahaa", sum := "3aeaf93d9d3775371d9009d5fa42a9cd762ba7a0c57dd0c926aee00469f00f53", func := "loop.example/g00180/laws.FnExactReadShort", spec := "fnExactReadShort", apart := false }
def FnExactReadShortSaid : Prop := fnExactReadShortRow.holds Try.pinned (OpenSpec.ofChange fnExactReadShortSpec)

/-- ITS FALSE NEIGHBOUR: 'it returns false'. Refute it at one input. -/
def fnExactReadShortWrong : ChangeSpec := { name := "fnExactReadShort", fn := fun _ => fun
  | [d1, d2] => { results := [.lit (.bool false)], args := [d1, d2] }
  | _ => none }
def FnExactReadShortWrongFalsely : Prop := fnExactReadShortRow.holds Try.pinned (OpenSpec.ofChange fnExactReadShortWrong)

/-- 'laws.FnExactSketchOk': WHATEVER THE INPUT: true; the input reads as it did. -/
def fnExactSketchOkSpec : ChangeSpec := { name := "fnExactSketchOk", fn := fun _ => fun
  | [d] => { results := [.lit (.bool true)], args := [d] }
  | _ => none }
def fnExactSketchOkRow : OpenClaim := { program := "ytcoboobnpmaahaa", sum := "3aeaf93d9d3775371d9009d5fa42a9cd762ba7a0c57dd0c926aee00469f00f53", func := "loop.example/g00180/laws.FnExactSketchOk", spec := "fnExactSketchOk", apart := false }
def FnExactSketchOkSaid : Prop := fnExactSketchOkRow.holds Try.pinned (OpenSpec.ofChange fnExactSketchOkSpec)

/-- ITS FALSE NEIGHBOUR: 'it returns false'. Refute it at one input. -/
def fnExactSketchOkWrong : ChangeSpec := { name := "fnExactSketchOk", fn := fun _ => fun
  | [d] => { results := [.lit (.bool false)], args := [d] }
  | _ => none }
def FnExactSketchOkWrongFalsely : Prop := fnExactSketchOkRow.holds Try.pinned (OpenSpec.ofChange fnExactSketchOkWrong)

/-- 'laws.FnTurned': WHATEVER THE INPUT: true; the input reads as it did. -/
def fnTurnedSpec : ChangeSpec := { name := "fnTurned", fn := fun _ => fun
  | [d] => { results := [.lit (.bool true)], args := [d] }
  | _ => none }
def fnTurnedRow : OpenClaim := { program := "ytcoboobnpmaahaa", sum := "3aeaf93d9d3775371d9009d5fa42a9cd762ba7a0c57dd0c926aee00469f00f53", func := "loop.example/g00180/laws.FnTurned", spec := "fnTurned", apart := false }
def FnTurnedSaid : Prop := fnTurnedRow.holds Try.pinned (OpenSpec.ofChange fnTurnedSpec)

/-- ITS FALSE NEIGHBOUR: 'it returns false'. Refute it at one input. -/
def fnTurnedWrong : ChangeSpec := { name := "fnTurned", fn := fun _ => fun
  | [d] => { results := [.lit (.bool false)], args := [d] }
  | _ => none }
def FnTurnedWrongFalsely : Prop := fnTurnedRow.holds Try.pinned (OpenSpec.ofChange fnTurnedWrong)

/-- 'laws.FnHashes': WHATEVER THE INPUT: true; the input reads as it did. -/
def fnHashesSpec : ChangeSpec := { name := "fnHashes", fn := fun _ => fun
  | [d] => { results := [.lit (.bool true)], args := [d] }
  | _ => none }
def fnHashesRow : OpenClaim := { program := "ytcoboobnpmaahaa", sum := "3aeaf93d9d3775371d9009d5fa42a9cd762ba7a0c57dd0c926aee00469f00f53", func := "loop.example/g00180/laws.FnHashes", spec := "fnHashes", apart := false }
def FnHashesSaid : Prop := fnHashesRow.holds Try.pinned (OpenSpec.ofChange fnHashesSpec)

/-- ITS FALSE NEIGHBOUR: 'it returns false'. Refute it at one input. -/
def fnHashesWrong : ChangeSpec := { name := "fnHashes", fn := fun _ => fun
  | [d] => { results := [.lit (.bool false)], args := [d] }
  | _ => none }
def FnHashesWrongFalsely : Prop := fnHashesRow.holds Try.pinned (OpenSpec.ofChange fnHashesWrong)

/-- 'laws.FnExactArenaNew': WHATEVER THE INPUT: true; the input reads as it did. -/
def fnExactArenaNewSpec : ChangeSpec := { name := "fnExactArenaNew", fn := fun _ => fun
  | [d] => { results := [.lit (.bool true)], args := [d] }
  | _ => none }
def fnExactArenaNewRow : OpenClaim := { program := "ytcoboobnpmaahaa", sum := "3aeaf93d9d3775371d9009d5fa42a9cd762ba7a0c57dd0c926aee00469f00f53", func := "loop.example/g00180/laws.FnExactArenaNew", spec := "fnExactArenaNew", apart := false }
def FnExactArenaNewSaid : Prop := fnExactArenaNewRow.holds Try.pinned (OpenSpec.ofChange fnExactArenaNewSpec)

/-- ITS FALSE NEIGHBOUR: 'it returns false'. Refute it at one input. -/
def fnExactArenaNewWrong : ChangeSpec := { name := "fnExactArenaNew", fn := fun _ => fun
  | [d] => { results := [.lit (.bool false)], args := [d] }
  | _ => none }
def FnExactArenaNewWrongFalsely : Prop := fnExactArenaNewRow.holds Try.pinned (OpenSpec.ofChange fnExactArenaNewWrong)

/-- 'laws.FnExactGuessKey': WHATEVER THE INPUT: true; the input reads as it did. -/
def fnExactGuessKeySpec : ChangeSpec := { name := "fnExactGuessKey", fn := fun _ => fun
  | [d1, d2] => { results := [.lit (.bool true)], args := [d1, d2] }
  | _ => none }
def fnExactGuessKeyRow : OpenClaim := { program := "ytcoboobnpmaahaa", sum := "3aeaf93d9d3775371d9009d5fa42a9cd762ba7a0c57dd0c926aee00469f00f53", func := "loop.example/g00180/laws.FnExactGuessKey", spec := "fnExactGuessKey", apart := false }
def FnExactGuessKeySaid : Prop := fnExactGuessKeyRow.holds Try.pinned (OpenSpec.ofChange fnExactGuessKeySpec)

/-- ITS FALSE NEIGHBOUR: 'it returns false'. Refute it at one input. -/
def fnExactGuessKeyWrong : ChangeSpec := { name := "fnExactGuessKey", fn := fun _ => fun
  | [d1, d2] => { results := [.lit (.bool false)], args := [d1, d2] }
  | _ => none }
def FnExactGuessKeyWrongFalsely : Prop := fnExactGuessKeyRow.holds Try.pinned (OpenSpec.ofChange fnExactGuessKeyWrong)

/-- 'laws.FnExactHalveAll': WHATEVER THE INPUT: true; the input reads as it did. -/
def fnExactHalveAllSpec : ChangeSpec := { name := "fnExactHalveAll", fn := fun _ => fun
  | [d] => { results := [.lit (.bool true)], args := [d] }
  | _ => none }
def fnExactHalveAllRow : OpenClaim := { program := "ytcoboobnpmaahaa", sum := "3aeaf93d9d3775371d9009d5fa42a9cd762ba7a0c57dd0c926aee00469f00f53", func := "loop.example/g00180/laws.FnExactHalveAll", spec := "fnExactHalveAll", apart := false }
def FnExactHalveAllSaid : Prop := fnExactHalveAllRow.holds Try.pinned (OpenSpec.ofChange fnExactHalveAllSpec)

/-- ITS FALSE NEIGHBOUR: 'it returns false'. Refute it at one input. -/
def fnExactHalveAllWrong : ChangeSpec := { name := "fnExactHalveAll", fn := fun _ => fun
  | [d] => { results := [.lit (.bool false)], args := [d] }
  | _ => none }
def FnExactHalveAllWrongFalsely : Prop := fnExactHalveAllRow.holds Try.pinned (OpenSpec.ofChange fnExactHalveAllWrong)

/-- 'laws.FnExactTableNew': WHATEVER THE INPUT: true; the input reads as it did. -/
def fnExactTableNewSpec : ChangeSpec := { name := "fnExactTableNew", fn := fun _ => fun
  | [d] => { results := [.lit (.bool true)], args := [d] }
  | _ => none }
def fnExactTableNewRow : OpenClaim := { program := "ytcoboobnpmaahaa", sum := "3aeaf93d9d3775371d9009d5fa42a9cd762ba7a0c57dd0c926aee00469f00f53", func := "loop.example/g00180/laws.FnExactTableNew", spec := "fnExactTableNew", apart := false }
def FnExactTableNewSaid : Prop := fnExactTableNewRow.holds Try.pinned (OpenSpec.ofChange fnExactTableNewSpec)

/-- ITS FALSE NEIGHBOUR: 'it returns false'. Refute it at one input. -/
def fnExactTableNewWrong : ChangeSpec := { name := "fnExactTableNew", fn := fun _ => fun
  | [d] => { results := [.lit (.bool false)], args := [d] }
  | _ => none }
def FnExactTableNewWrongFalsely : Prop := fnExactTableNewRow.holds Try.pinned (OpenSpec.ofChange fnExactTableNewWrong)

/-- 'laws.FnExactArenaOk': WHATEVER THE INPUT: true; the input reads as it did. -/
def fnExactArenaOkSpec : ChangeSpec := { name := "fnExactArenaOk", fn := fun _ => fun
  | [d] => { results := [.lit (.bool true)], args := [d] }
  | _ => none }
def fnExactArenaOkRow : OpenClaim := { program := "ytcoboobnpmaahaa", sum := "3aeaf93d9d3775371d9009d5fa42a9cd762ba7a0c57dd0c926aee00469f00f53", func := "loop.example/g00180/laws.FnExactArenaOk", spec := "fnExactArenaOk", apart := false }
def FnExactArenaOkSaid : Prop := fnExactArenaOkRow.holds Try.pinned (OpenSpec.ofChange fnExactArenaOkSpec)

/-- ITS FALSE NEIGHBOUR: 'it returns false'. Refute it at one input. -/
def fnExactArenaOkWrong : ChangeSpec := { name := "fnExactArenaOk", fn := fun _ => fun
  | [d] => { results := [.lit (.bool false)], args := [d] }
  | _ => none }
def FnExactArenaOkWrongFalsely : Prop := fnExactArenaOkRow.holds Try.pinned (OpenSpec.ofChange fnExactArenaOkWrong)

/-- 'laws.FnExactUsedOf': WHATEVER THE INPUT: true; the input reads as it did. -/
def fnExactUsedOfSpec : ChangeSpec := { name := "fnExactUsedOf", fn := fun _ => fun
  | [d] => { results := [.lit (.bool true)], args := [d] }
  | _ => none }
def fnExactUsedOfRow : OpenClaim := { program := "ytcoboobnpmaahaa", sum := "3aeaf93d9d3775371d9009d5fa42a9cd762ba7a0c57dd0c926aee00469f00f53", func := "loop.example/g00180/laws.FnExactUsedOf", spec := "fnExactUsedOf", apart := false }
def FnExactUsedOfSaid : Prop := fnExactUsedOfRow.holds Try.pinned (OpenSpec.ofChange fnExactUsedOfSpec)

/-- ITS FALSE NEIGHBOUR: 'it returns false'. Refute it at one input. -/
def fnExactUsedOfWrong : ChangeSpec := { name := "fnExactUsedOf", fn := fun _ => fun
  | [d] => { results := [.lit (.bool false)], args := [d] }
  | _ => none }
def FnExactUsedOfWrongFalsely : Prop := fnExactUsedOfRow.holds Try.pinned (OpenSpec.ofChange fnExactUsedOfWrong)

/-- 'laws.FnExactHandleOf': WHATEVER THE INPUT: true; the input reads as it did. -/
def fnExactHandleOfSpec : ChangeSpec := { name := "fnExactHandleOf", fn := fun _ => fun
  | [d1, d2] => { results := [.lit (.bool true)], args := [d1, d2] }
  | _ => none }
def fnExactHandleOfRow : OpenClaim := { program := "ytcoboobnpmaahaa", sum := "3aeaf93d9d3775371d9009d5fa42a9cd762ba7a0c57dd0c926aee00469f00f53", func := "loop.example/g00180/laws.FnExactHandleOf", spec := "fnExactHandleOf", apart := false }
def FnExactHandleOfSaid : Prop := fnExactHandleOfRow.holds Try.pinned (OpenSpec.ofChange fnExactHandleOfSpec)

/-- ITS FALSE NEIGHBOUR: 'it returns false'. Refute it at one input. -/
def fnExactHandleOfWrong : ChangeSpec := { name := "fnExactHandleOf", fn := fun _ => fun
  | [d1, d2] => { results := [.lit (.bool false)], args := [d1, d2] }
  | _ => none }
def FnExactHandleOfWrongFalsely : Prop := fnExactHandleOfRow.holds Try.pinned (OpenSpec.ofChange fnExactHandleOfWrong)

/- THE SECOND FORM. 'bulk': how many values and letters a reading holds, each counted each time it is reached (what is shared counts as often as it is met; a slice's spare places count too). A statement '..UptoSaid' is the law's where the arguments, and the package variables that the reading takes, are together of bulk at most 1048576: NARROWER than '..Said'. Prove '..Said' where nothing that the law and all that it calls make is longer than what came in: it says more and counts as full. Else prove '..UptoSaid'. A law counts once. -/
mutual
def uptoBulk {H : Type} : DataW H → Nat
  | .lit (.string bytes) => bytes.length + 1
  | .lit _ => 1
  | .nil => 1
  | .ptr d => uptoBulk d + 1
  | .slice elems spare => uptoBulkAll elems + uptoBulkAll spare + 1
  | .agg parts => uptoBulkAll parts + 1
  | .iface _ d => uptoBulk d + 1
  | .map entries => uptoBulkEntries entries + 1
  | .held _ => 1
def uptoBulkAll {H : Type} : List (DataW H) → Nat
  | [] => 0
  | d :: r => uptoBulk d + uptoBulkAll r
def uptoBulkEntries {H : Type} : List (Lit × DataW H) → Nat
  | [] => 0
  | x :: r => uptoBulkEntry x + uptoBulkEntries r
def uptoBulkEntry {H : Type} : Lit × DataW H → Nat
  | (.string bytes, d) => bytes.length + uptoBulk d + 1
  | (_, d) => uptoBulk d + 1
 end
def uptoSmall : (H : Type) → List (DataW H) → Bool := fun _ ds => decide (uptoBulkAll ds ≤ 1048576)
def OpenSpec.upto (s : _root_.Go.ChangeSpec) : _root_.Go.OpenSpec := { _root_.Go.OpenSpec.ofChange s with cond := some uptoSmall }

/-- 'laws.FnExactSketchNew', WHERE WHAT IT READS IS OF BULK AT MOST 1048576: true; the input reads as it did. -/
def fnExactSketchNewUptoRow : OpenClaim := { program := "ytcoboobnpmaahaa", sum := "3aeaf93d9d3775371d9009d5fa42a9cd762ba7a0c57dd0c926aee00469f00f53", func := "loop.example/g00180/laws.FnExactSketchNew", spec := "fnExactSketchNew", apart := false, narrowed := true }
def FnExactSketchNewUptoSaid : Prop := fnExactSketchNewUptoRow.holds Try.pinned (OpenSpec.upto fnExactSketchNewSpec)

/-- 'laws.FnExactReadShort', WHERE WHAT IT READS IS OF BULK AT MOST 1048576: true; the input reads as it did. -/
def fnExactReadShortUptoRow : OpenClaim := { program := "ytcoboobnpmaahaa", sum := "3aeaf93d9d3775371d9009d5fa42a9cd762ba7a0c57dd0c926aee00469f00f53", func := "loop.example/g00180/laws.FnExactReadShort", spec := "fnExactReadShort", apart := false, narrowed := true }
def FnExactReadShortUptoSaid : Prop := fnExactReadShortUptoRow.holds Try.pinned (OpenSpec.upto fnExactReadShortSpec)

/-- 'laws.FnExactSketchOk', WHERE WHAT IT READS IS OF BULK AT MOST 1048576: true; the input reads as it did. -/
def fnExactSketchOkUptoRow : OpenClaim := { program := "ytcoboobnpmaahaa", sum := "3aeaf93d9d3775371d9009d5fa42a9cd762ba7a0c57dd0c926aee00469f00f53", func := "loop.example/g00180/laws.FnExactSketchOk", spec := "fnExactSketchOk", apart := false, narrowed := true }
def FnExactSketchOkUptoSaid : Prop := fnExactSketchOkUptoRow.holds Try.pinned (OpenSpec.upto fnExactSketchOkSpec)

/-- 'laws.FnTurned', WHERE WHAT IT READS IS OF BULK AT MOST 1048576: true; the input reads as it did. -/
def fnTurnedUptoRow : OpenClaim := { program := "ytcoboobnpmaahaa", sum := "3aeaf93d9d3775371d9009d5fa42a9cd762ba7a0c57dd0c926aee00469f00f53", func := "loop.example/g00180/laws.FnTurned", spec := "fnTurned", apart := false, narrowed := true }
def FnTurnedUptoSaid : Prop := fnTurnedUptoRow.holds Try.pinned (OpenSpec.upto fnTurnedSpec)

/-- 'laws.FnHashes', WHERE WHAT IT READS IS OF BULK AT MOST 1048576: true; the input reads as it did. -/
def fnHashesUptoRow : OpenClaim := { program := "ytcoboobnpmaahaa", sum := "3aeaf93d9d3775371d9009d5fa42a9cd762ba7a0c57dd0c926aee00469f00f53", func := "loop.example/g00180/laws.FnHashes", spec := "fnHashes", apart := false, narrowed := true }
def FnHashesUptoSaid : Prop := fnHashesUptoRow.holds Try.pinned (OpenSpec.upto fnHashesSpec)

/-- 'laws.FnExactArenaNew', WHERE WHAT IT READS IS OF BULK AT MOST 1048576: true; the input reads as it did. -/
def fnExactArenaNewUptoRow : OpenClaim := { program := "ytcoboobnpmaahaa", sum := "3aeaf93d9d3775371d9009d5fa42a9cd762ba7a0c57dd0c926aee00469f00f53", func := "loop.example/g00180/laws.FnExactArenaNew", spec := "fnExactArenaNew", apart := false, narrowed := true }
def FnExactArenaNewUptoSaid : Prop := fnExactArenaNewUptoRow.holds Try.pinned (OpenSpec.upto fnExactArenaNewSpec)

/-- 'laws.FnExactGuessKey', WHERE WHAT IT READS IS OF BULK AT MOST 1048576: true; the input reads as it did. -/
def fnExactGuessKeyUptoRow : OpenClaim := { program := "ytcoboobnpmaahaa", sum := "3aeaf93d9d3775371d9009d5fa42a9cd762ba7a0c57dd0c926aee00469f00f53", func := "loop.example/g00180/laws.FnExactGuessKey", spec := "fnExactGuessKey", apart := false, narrowed := true }
def FnExactGuessKeyUptoSaid : Prop := fnExactGuessKeyUptoRow.holds Try.pinned (OpenSpec.upto fnExactGuessKeySpec)

/-- 'laws.FnExactHalveAll', WHERE WHAT IT READS IS OF BULK AT MOST 1048576: true; the input reads as it did. -/
def fnExactHalveAllUptoRow : OpenClaim := { program := "ytcoboobnpmaahaa", sum := "3aeaf93d9d3775371d9009d5fa42a9cd762ba7a0c57dd0c926aee00469f00f53", func := "loop.example/g00180/laws.FnExactHalveAll", spec := "fnExactHalveAll", apart := false, narrowed := true }
def FnExactHalveAllUptoSaid : Prop := fnExactHalveAllUptoRow.holds Try.pinned (OpenSpec.upto fnExactHalveAllSpec)

/-- 'laws.FnExactTableNew', WHERE WHAT IT READS IS OF BULK AT MOST 1048576: true; the input reads as it did. -/
def fnExactTableNewUptoRow : OpenClaim := { program := "ytcoboobnpmaahaa", sum := "3aeaf93d9d3775371d9009d5fa42a9cd762ba7a0c57dd0c926aee00469f00f53", func := "loop.example/g00180/laws.FnExactTableNew", spec := "fnExactTableNew", apart := false, narrowed := true }
def FnExactTableNewUptoSaid : Prop := fnExactTableNewUptoRow.holds Try.pinned (OpenSpec.upto fnExactTableNewSpec)

/-- 'laws.FnExactArenaOk', WHERE WHAT IT READS IS OF BULK AT MOST 1048576: true; the input reads as it did. -/
def fnExactArenaOkUptoRow : OpenClaim := { program := "ytcoboobnpmaahaa", sum := "3aeaf93d9d3775371d9009d5fa42a9cd762ba7a0c57dd0c926aee00469f00f53", func := "loop.example/g00180/laws.FnExactArenaOk", spec := "fnExactArenaOk", apart := false, narrowed := true }
def FnExactArenaOkUptoSaid : Prop := fnExactArenaOkUptoRow.holds Try.pinned (OpenSpec.upto fnExactArenaOkSpec)

/-- 'laws.FnExactUsedOf', WHERE WHAT IT READS IS OF BULK AT MOST 1048576: true; the input reads as it did. -/
def fnExactUsedOfUptoRow : OpenClaim := { program := "ytcoboobnpmaahaa", sum := "3aeaf93d9d3775371d9009d5fa42a9cd762ba7a0c57dd0c926aee00469f00f53", func := "loop.example/g00180/laws.FnExactUsedOf", spec := "fnExactUsedOf", apart := false, narrowed := true }
def FnExactUsedOfUptoSaid : Prop := fnExactUsedOfUptoRow.holds Try.pinned (OpenSpec.upto fnExactUsedOfSpec)

/-- 'laws.FnExactHandleOf', WHERE WHAT IT READS IS OF BULK AT MOST 1048576: true; the input reads as it did. -/
def fnExactHandleOfUptoRow : OpenClaim := { program := "ytcoboobnpmaahaa", sum := "3aeaf93d9d3775371d9009d5fa42a9cd762ba7a0c57dd0c926aee00469f00f53", func := "loop.example/g00180/laws.FnExactHandleOf", spec := "fnExactHandleOf", apart := false, narrowed := true }
def FnExactHandleOfUptoSaid : Prop := fnExactHandleOfUptoRow.holds Try.pinned (OpenSpec.upto fnExactHandleOfSpec)

end Rows
end Go.Proofs.Ytcoboobnpmaahaa
