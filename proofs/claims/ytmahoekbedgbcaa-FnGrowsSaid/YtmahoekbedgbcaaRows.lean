/-
  No cell of these rows narrows 'for every input' (looked for: loops, veiled, ifaces, maps, wideKeys, modest, calm, conditions, laid).
  DERIVED. THE GIVEN ROWS OF THIS SEAT. 11 by the template 'for every input the law returns true; each argument reads behind the call as it read before'; 0 by the template 'total and deterministic' (their statements: YtmahoekbedgbcaaTotals.lean).
  GIVEN WITH THE SEED: the statements are not yours to turn. If you find one false, say at which input.
  Laid BY PROGRAM, IN A SANDBOX (cutbox-rows.mjs): the forced cells as the released guide's own fill.sh prints them over the translation d9921606cece9229… (all of the seat's roots in one cut). By AI agents, Wed Nov 11 2026. No macro, syntax, notation, axiom, sorry.
-/
import Derived.Test.YtmahoekbedgbcaaChecked
import GoSem.Claim
import GoSem.ClaimJoined
import GoSem.ClaimMapViews
import Derived.JoinedTies
import Derived.KernelRfl
namespace Go.Proofs.Ytmahoekbedgbcaa
/- THE CELL 'sum', in the pinned program and in every row, IS THE sha256 OF THE DUMP (.gsa) THAT YtmahoekbedgbcaaProg.lean LOADS. Nothing in Lean hashes anything: it is a label: what it is worth is what the hold of that sum in a sandbox is worth. -/
noncomputable def Try.pinned : Pinned := { name := "ytmahoekbedgbcaa", sum := "d9921606cece92296c98597c27f14ca9907c3f9a222ff5c1a9043578a66ae75a", checked := Try.checked }
namespace Rows
def none {H : Type} : Left H := { results := [], args := [] }

/-- 'laws.FnGrows': WHATEVER THE INPUT: true; the input reads as it did. -/
def fnGrowsSpec : ChangeSpec := { name := "fnGrows", fn := fun _ => fun
  | [d] => { results := [.lit (.bool true)], args := [d] }
  | _ => none }
def fnGrowsRow : OpenClaim := { program := "ytmahoekbedgbcaa", sum := "d9921606cece92296c98597c27f14ca9907c3f9a222ff5c1a9043578a66ae75a", func := "loop.example/g00180/laws.FnGrows", spec := "fnGrows", recurses := true, apart := false }
def FnGrowsSaid : Prop := fnGrowsRow.holds Try.pinned (OpenSpec.ofChange fnGrowsSpec)

/-- ITS FALSE NEIGHBOUR: 'it returns false'. Refute it at one input. -/
def fnGrowsWrong : ChangeSpec := { name := "fnGrows", fn := fun _ => fun
  | [d] => { results := [.lit (.bool false)], args := [d] }
  | _ => none }
def FnGrowsWrongFalsely : Prop := fnGrowsRow.holds Try.pinned (OpenSpec.ofChange fnGrowsWrong)

/-- 'laws.FnExactTableOk': WHATEVER THE INPUT: true; the input reads as it did. -/
def fnExactTableOkSpec : ChangeSpec := { name := "fnExactTableOk", fn := fun _ => fun
  | [d] => { results := [.lit (.bool true)], args := [d] }
  | _ => none }
def fnExactTableOkRow : OpenClaim := { program := "ytmahoekbedgbcaa", sum := "d9921606cece92296c98597c27f14ca9907c3f9a222ff5c1a9043578a66ae75a", func := "loop.example/g00180/laws.FnExactTableOk", spec := "fnExactTableOk", recurses := true, apart := false }
def FnExactTableOkSaid : Prop := fnExactTableOkRow.holds Try.pinned (OpenSpec.ofChange fnExactTableOkSpec)

/-- ITS FALSE NEIGHBOUR: 'it returns false'. Refute it at one input. -/
def fnExactTableOkWrong : ChangeSpec := { name := "fnExactTableOk", fn := fun _ => fun
  | [d] => { results := [.lit (.bool false)], args := [d] }
  | _ => none }
def FnExactTableOkWrongFalsely : Prop := fnExactTableOkRow.holds Try.pinned (OpenSpec.ofChange fnExactTableOkWrong)

/-- 'laws.FnExactSeekKey': WHATEVER THE INPUT: true; the input reads as it did. -/
def fnExactSeekKeySpec : ChangeSpec := { name := "fnExactSeekKey", fn := fun _ => fun
  | [d1, d2] => { results := [.lit (.bool true)], args := [d1, d2] }
  | _ => none }
def fnExactSeekKeyRow : OpenClaim := { program := "ytmahoekbedgbcaa", sum := "d9921606cece92296c98597c27f14ca9907c3f9a222ff5c1a9043578a66ae75a", func := "loop.example/g00180/laws.FnExactSeekKey", spec := "fnExactSeekKey", recurses := true, apart := false }
def FnExactSeekKeySaid : Prop := fnExactSeekKeyRow.holds Try.pinned (OpenSpec.ofChange fnExactSeekKeySpec)

/-- ITS FALSE NEIGHBOUR: 'it returns false'. Refute it at one input. -/
def fnExactSeekKeyWrong : ChangeSpec := { name := "fnExactSeekKey", fn := fun _ => fun
  | [d1, d2] => { results := [.lit (.bool false)], args := [d1, d2] }
  | _ => none }
def FnExactSeekKeyWrongFalsely : Prop := fnExactSeekKeyRow.holds Try.pinned (OpenSpec.ofChange fnExactSeekKeyWrong)

/-- 'laws.FnExactKeysOf': WHATEVER THE INPUT: true; the input reads as it did. -/
def fnExactKeysOfSpec : ChangeSpec := { name := "fnExactKeysOf", fn := fun _ => fun
  | [d] => { results := [.lit (.bool true)], args := [d] }
  | _ => none }
def fnExactKeysOfRow : OpenClaim := { program := "ytmahoekbedgbcaa", sum := "d9921606cece92296c98597c27f14ca9907c3f9a222ff5c1a9043578a66ae75a", func := "loop.example/g00180/laws.FnExactKeysOf", spec := "fnExactKeysOf", recurses := true, apart := false }
def FnExactKeysOfSaid : Prop := fnExactKeysOfRow.holds Try.pinned (OpenSpec.ofChange fnExactKeysOfSpec)

/-- ITS FALSE NEIGHBOUR: 'it returns false'. Refute it at one input. -/
def fnExactKeysOfWrong : ChangeSpec := { name := "fnExactKeysOf", fn := fun _ => fun
  | [d] => { results := [.lit (.bool false)], args := [d] }
  | _ => none }
def FnExactKeysOfWrongFalsely : Prop := fnExactKeysOfRow.holds Try.pinned (OpenSpec.ofChange fnExactKeysOfWrong)

/-- 'laws.FnExactTakeKey': WHATEVER THE INPUT: true; the input reads as it did. -/
def fnExactTakeKeySpec : ChangeSpec := { name := "fnExactTakeKey", fn := fun _ => fun
  | [d1, d2] => { results := [.lit (.bool true)], args := [d1, d2] }
  | _ => none }
def fnExactTakeKeyRow : OpenClaim := { program := "ytmahoekbedgbcaa", sum := "d9921606cece92296c98597c27f14ca9907c3f9a222ff5c1a9043578a66ae75a", func := "loop.example/g00180/laws.FnExactTakeKey", spec := "fnExactTakeKey", recurses := true, apart := false }
def FnExactTakeKeySaid : Prop := fnExactTakeKeyRow.holds Try.pinned (OpenSpec.ofChange fnExactTakeKeySpec)

/-- ITS FALSE NEIGHBOUR: 'it returns false'. Refute it at one input. -/
def fnExactTakeKeyWrong : ChangeSpec := { name := "fnExactTakeKey", fn := fun _ => fun
  | [d1, d2] => { results := [.lit (.bool false)], args := [d1, d2] }
  | _ => none }
def FnExactTakeKeyWrongFalsely : Prop := fnExactTakeKeyRow.holds Try.pinned (OpenSpec.ofChange fnExactTakeKeyWrong)

/-- 'laws.FnExactGrowTable': WHATEVER THE INPUT: true; the input reads as it did. -/
def fnExactGrowTableSpec : ChangeSpec := { name := "fnExactGrowTable", fn := fun _ => fun
  | [d] => { results := [.lit (.bool true)], args := [d] }
  | _ => none }
def fnExactGrowTableRow : OpenClaim := { program := "ytmahoekbedgbcaa", sum := "d9921606cece92296c98597c27f14ca9907c3f9a222ff5c1a9043578a66ae75a", func := "loop.example/g00180/laws.FnExactGrowTable", spec := "fnExactGrowTable", recurses := true, apart := false }
def FnExactGrowTableSaid : Prop := fnExactGrowTableRow.holds Try.pinned (OpenSpec.ofChange fnExactGrowTableSpec)

/-- ITS FALSE NEIGHBOUR: 'it returns false'. Refute it at one input. -/
def fnExactGrowTableWrong : ChangeSpec := { name := "fnExactGrowTable", fn := fun _ => fun
  | [d] => { results := [.lit (.bool false)], args := [d] }
  | _ => none }
def FnExactGrowTableWrongFalsely : Prop := fnExactGrowTableRow.holds Try.pinned (OpenSpec.ofChange fnExactGrowTableWrong)

/-- 'laws.FnExactPutKey': WHATEVER THE INPUT: true; the input reads as it did. -/
def fnExactPutKeySpec : ChangeSpec := { name := "fnExactPutKey", fn := fun _ => fun
  | [d1, d2, d3] => { results := [.lit (.bool true)], args := [d1, d2, d3] }
  | _ => none }
def fnExactPutKeyRow : OpenClaim := { program := "ytmahoekbedgbcaa", sum := "d9921606cece92296c98597c27f14ca9907c3f9a222ff5c1a9043578a66ae75a", func := "loop.example/g00180/laws.FnExactPutKey", spec := "fnExactPutKey", recurses := true, apart := false }
def FnExactPutKeySaid : Prop := fnExactPutKeyRow.holds Try.pinned (OpenSpec.ofChange fnExactPutKeySpec)

/-- ITS FALSE NEIGHBOUR: 'it returns false'. Refute it at one input. -/
def fnExactPutKeyWrong : ChangeSpec := { name := "fnExactPutKey", fn := fun _ => fun
  | [d1, d2, d3] => { results := [.lit (.bool false)], args := [d1, d2, d3] }
  | _ => none }
def FnExactPutKeyWrongFalsely : Prop := fnExactPutKeyRow.holds Try.pinned (OpenSpec.ofChange fnExactPutKeyWrong)

/-- 'laws.FnKeyLists': WHATEVER THE INPUT: true; the input reads as it did. -/
def fnKeyListsSpec : ChangeSpec := { name := "fnKeyLists", fn := fun _ => fun
  | [d] => { results := [.lit (.bool true)], args := [d] }
  | _ => none }
def fnKeyListsRow : OpenClaim := { program := "ytmahoekbedgbcaa", sum := "d9921606cece92296c98597c27f14ca9907c3f9a222ff5c1a9043578a66ae75a", func := "loop.example/g00180/laws.FnKeyLists", spec := "fnKeyLists", recurses := true, apart := false }
def FnKeyListsSaid : Prop := fnKeyListsRow.holds Try.pinned (OpenSpec.ofChange fnKeyListsSpec)

/-- ITS FALSE NEIGHBOUR: 'it returns false'. Refute it at one input. -/
def fnKeyListsWrong : ChangeSpec := { name := "fnKeyLists", fn := fun _ => fun
  | [d] => { results := [.lit (.bool false)], args := [d] }
  | _ => none }
def FnKeyListsWrongFalsely : Prop := fnKeyListsRow.holds Try.pinned (OpenSpec.ofChange fnKeyListsWrong)

/-- 'laws.FnPuts': WHATEVER THE INPUT: true; the input reads as it did. -/
def fnPutsSpec : ChangeSpec := { name := "fnPuts", fn := fun _ => fun
  | [d] => { results := [.lit (.bool true)], args := [d] }
  | _ => none }
def fnPutsRow : OpenClaim := { program := "ytmahoekbedgbcaa", sum := "d9921606cece92296c98597c27f14ca9907c3f9a222ff5c1a9043578a66ae75a", func := "loop.example/g00180/laws.FnPuts", spec := "fnPuts", recurses := true, apart := false }
def FnPutsSaid : Prop := fnPutsRow.holds Try.pinned (OpenSpec.ofChange fnPutsSpec)

/-- ITS FALSE NEIGHBOUR: 'it returns false'. Refute it at one input. -/
def fnPutsWrong : ChangeSpec := { name := "fnPuts", fn := fun _ => fun
  | [d] => { results := [.lit (.bool false)], args := [d] }
  | _ => none }
def FnPutsWrongFalsely : Prop := fnPutsRow.holds Try.pinned (OpenSpec.ofChange fnPutsWrong)

/-- 'laws.FnExactCleanTable': WHATEVER THE INPUT: true; the input reads as it did. -/
def fnExactCleanTableSpec : ChangeSpec := { name := "fnExactCleanTable", fn := fun _ => fun
  | [d] => { results := [.lit (.bool true)], args := [d] }
  | _ => none }
def fnExactCleanTableRow : OpenClaim := { program := "ytmahoekbedgbcaa", sum := "d9921606cece92296c98597c27f14ca9907c3f9a222ff5c1a9043578a66ae75a", func := "loop.example/g00180/laws.FnExactCleanTable", spec := "fnExactCleanTable", recurses := true, apart := false }
def FnExactCleanTableSaid : Prop := fnExactCleanTableRow.holds Try.pinned (OpenSpec.ofChange fnExactCleanTableSpec)

/-- ITS FALSE NEIGHBOUR: 'it returns false'. Refute it at one input. -/
def fnExactCleanTableWrong : ChangeSpec := { name := "fnExactCleanTable", fn := fun _ => fun
  | [d] => { results := [.lit (.bool false)], args := [d] }
  | _ => none }
def FnExactCleanTableWrongFalsely : Prop := fnExactCleanTableRow.holds Try.pinned (OpenSpec.ofChange fnExactCleanTableWrong)

/-- 'laws.FnCleans': WHATEVER THE INPUT: true; the input reads as it did. -/
def fnCleansSpec : ChangeSpec := { name := "fnCleans", fn := fun _ => fun
  | [d] => { results := [.lit (.bool true)], args := [d] }
  | _ => none }
def fnCleansRow : OpenClaim := { program := "ytmahoekbedgbcaa", sum := "d9921606cece92296c98597c27f14ca9907c3f9a222ff5c1a9043578a66ae75a", func := "loop.example/g00180/laws.FnCleans", spec := "fnCleans", recurses := true, apart := false }
def FnCleansSaid : Prop := fnCleansRow.holds Try.pinned (OpenSpec.ofChange fnCleansSpec)

/-- ITS FALSE NEIGHBOUR: 'it returns false'. Refute it at one input. -/
def fnCleansWrong : ChangeSpec := { name := "fnCleans", fn := fun _ => fun
  | [d] => { results := [.lit (.bool false)], args := [d] }
  | _ => none }
def FnCleansWrongFalsely : Prop := fnCleansRow.holds Try.pinned (OpenSpec.ofChange fnCleansWrong)

/- THE SECOND FORM. 'bulk': how many values and letters a reading holds, each counted each time it is reached (what is shared counts as often as it is met; a slice's spare places count too). A statement '..UptoSaid' is the law's where the arguments, and the package variables that the reading takes, are together of bulk at most 1048576: NARROWER than '..Said'. Prove '..Said' where nothing that the law and all that it calls make is longer than what came in: it says more and counts as full. Else prove '..UptoSaid'. A law counts once. -/
mutual
def uptoBulk {H : Type} : DataW H → Nat
  | .lit (.string bytes) => bytes.length + 1
  | .lit _ => 1
  | .nil => 1
  | .ptr d => uptoBulk d + 1
  | .slice elems spare => uptoBulkAll elems + uptoBulkAll spare + 1
  | .agg parts => uptoBulkAll parts + 1
  | .iface _ d => uptoBulk d + 1
  | .map entries => uptoBulkEntries entries + 1
  | .held _ => 1
def uptoBulkAll {H : Type} : List (DataW H) → Nat
  | [] => 0
  | d :: r => uptoBulk d + uptoBulkAll r
def uptoBulkEntries {H : Type} : List (Lit × DataW H) → Nat
  | [] => 0
  | x :: r => uptoBulkEntry x + uptoBulkEntries r
def uptoBulkEntry {H : Type} : Lit × DataW H → Nat
  | (.string bytes, d) => bytes.length + uptoBulk d + 1
  | (_, d) => uptoBulk d + 1
 end
def uptoSmall : (H : Type) → List (DataW H) → Bool := fun _ ds => decide (uptoBulkAll ds ≤ 1048576)
def OpenSpec.upto (s : _root_.Go.ChangeSpec) : _root_.Go.OpenSpec := { _root_.Go.OpenSpec.ofChange s with cond := some uptoSmall }

/-- 'laws.FnGrows', WHERE WHAT IT READS IS OF BULK AT MOST 1048576: true; the input reads as it did. -/
def fnGrowsUptoRow : OpenClaim := { program := "ytmahoekbedgbcaa", sum := "d9921606cece92296c98597c27f14ca9907c3f9a222ff5c1a9043578a66ae75a", func := "loop.example/g00180/laws.FnGrows", spec := "fnGrows", recurses := true, apart := false, narrowed := true }
def FnGrowsUptoSaid : Prop := fnGrowsUptoRow.holds Try.pinned (OpenSpec.upto fnGrowsSpec)

/-- 'laws.FnExactTableOk', WHERE WHAT IT READS IS OF BULK AT MOST 1048576: true; the input reads as it did. -/
def fnExactTableOkUptoRow : OpenClaim := { program := "ytmahoekbedgbcaa", sum := "d9921606cece92296c98597c27f14ca9907c3f9a222ff5c1a9043578a66ae75a", func := "loop.example/g00180/laws.FnExactTableOk", spec := "fnExactTableOk", recurses := true, apart := false, narrowed := true }
def FnExactTableOkUptoSaid : Prop := fnExactTableOkUptoRow.holds Try.pinned (OpenSpec.upto fnExactTableOkSpec)

/-- 'laws.FnExactSeekKey', WHERE WHAT IT READS IS OF BULK AT MOST 1048576: true; the input reads as it did. -/
def fnExactSeekKeyUptoRow : OpenClaim := { program := "ytmahoekbedgbcaa", sum := "d9921606cece92296c98597c27f14ca9907c3f9a222ff5c1a9043578a66ae75a", func := "loop.example/g00180/laws.FnExactSeekKey", spec := "fnExactSeekKey", recurses := true, apart := false, narrowed := true }
def FnExactSeekKeyUptoSaid : Prop := fnExactSeekKeyUptoRow.holds Try.pinned (OpenSpec.upto fnExactSeekKeySpec)

/-- 'laws.FnExactKeysOf', WHERE WHAT IT READS IS OF BULK AT MOST 1048576: true; the input reads as it did. -/
def fnExactKeysOfUptoRow : OpenClaim := { program := "ytmahoekbedgbcaa", sum := "d9921606cece92296c98597c27f14ca9907c3f9a222ff5c1a9043578a66ae75a", func := "loop.example/g00180/laws.FnExactKeysOf", spec := "fnExactKeysOf", recurses := true, apart := false, narrowed := true }
def FnExactKeysOfUptoSaid : Prop := fnExactKeysOfUptoRow.holds Try.pinned (OpenSpec.upto fnExactKeysOfSpec)

/-- 'laws.FnExactTakeKey', WHERE WHAT IT READS IS OF BULK AT MOST 1048576: true; the input reads as it did. -/
def fnExactTakeKeyUptoRow : OpenClaim := { program := "ytmahoekbedgbcaa", sum := "d9921606cece92296c98597c27f14ca9907c3f9a222ff5c1a9043578a66ae75a", func := "loop.example/g00180/laws.FnExactTakeKey", spec := "fnExactTakeKey", recurses := true, apart := false, narrowed := true }
def FnExactTakeKeyUptoSaid : Prop := fnExactTakeKeyUptoRow.holds Try.pinned (OpenSpec.upto fnExactTakeKeySpec)

/-- 'laws.FnExactGrowTable', WHERE WHAT IT READS IS OF BULK AT MOST 1048576: true; the input reads as it did. -/
def fnExactGrowTableUptoRow : OpenClaim := { program := "ytmahoekbedgbcaa", sum := "d9921606cece92296c98597c27f14ca9907c3f9a222ff5c1a9043578a66ae75a", func := "loop.example/g00180/laws.FnExactGrowTable", spec := "fnExactGrowTable", recurses := true, apart := false, narrowed := true }
def FnExactGrowTableUptoSaid : Prop := fnExactGrowTableUptoRow.holds Try.pinned (OpenSpec.upto fnExactGrowTableSpec)

/-- 'laws.FnExactPutKey', WHERE WHAT IT READS IS OF BULK AT MOST 1048576: true; the input reads as it did. -/
def fnExactPutKeyUptoRow : OpenClaim := { program := "ytmahoekbedgbcaa", sum := "d9921606cece92296c98597c27f14ca9907c3f9a222ff5c1a9043578a66ae75a", func := "loop.example/g00180/laws.FnExactPutKey", spec := "fnExactPutKey", recurses := true, apart := false, narrowed := true }
def FnExactPutKeyUptoSaid : Prop := fnExactPutKeyUptoRow.holds Try.pinned (OpenSpec.upto fnExactPutKeySpec)

/-- 'laws.FnKeyLists', WHERE WHAT IT READS IS OF BULK AT MOST 1048576: true; the input reads as it did. -/
def fnKeyListsUptoRow : OpenClaim := { program := "ytmahoekbedgbcaa", sum := "d9921606cece92296c98597c27f14ca9907c3f9a222ff5c1a9043578a66ae75a", func := "loop.example/g00180/laws.FnKeyLists", spec := "fnKeyLists", recurses := true, apart := false, narrowed := true }
def FnKeyListsUptoSaid : Prop := fnKeyListsUptoRow.holds Try.pinned (OpenSpec.upto fnKeyListsSpec)

/-- 'laws.FnPuts', WHERE WHAT IT READS IS OF BULK AT MOST 1048576: true; the input reads as it did. -/
def fnPutsUptoRow : OpenClaim := { program := "ytmahoekbedgbcaa", sum := "d9921606cece92296c98597c27f14ca9907c3f9a222ff5c1a9043578a66ae75a", func := "loop.example/g00180/laws.FnPuts", spec := "fnPuts", recurses := true, apart := false, narrowed := true }
def FnPutsUptoSaid : Prop := fnPutsUptoRow.holds Try.pinned (OpenSpec.upto fnPutsSpec)

/-- 'laws.FnExactCleanTable', WHERE WHAT IT READS IS OF BULK AT MOST 1048576: true; the input reads as it did. -/
def fnExactCleanTableUptoRow : OpenClaim := { program := "ytmahoekbedgbcaa", sum := "d9921606cece92296c98597c27f14ca9907c3f9a222ff5c1a9043578a66ae75a", func := "loop.example/g00180/laws.FnExactCleanTable", spec := "fnExactCleanTable", recurses := true, apart := false, narrowed := true }
def FnExactCleanTableUptoSaid : Prop := fnExactCleanTableUptoRow.holds Try.pinned (OpenSpec.upto fnExactCleanTableSpec)

/-- 'laws.FnCleans', WHERE WHAT IT READS IS OF BULK AT MOST 1048576: true; the input reads as it did. -/
def fnCleansUptoRow : OpenClaim := { program := "ytmahoekbedgbcaa", sum := "d9921606cece92296c98597c27f14ca9907c3f9a222ff5c1a9043578a66ae75a", func := "loop.example/g00180/laws.FnCleans", spec := "fnCleans", recurses := true, apart := false, narrowed := true }
def FnCleansUptoSaid : Prop := fnCleansUptoRow.holds Try.pinned (OpenSpec.upto fnCleansSpec)

end Rows
end Go.Proofs.Ytmahoekbedgbcaa
