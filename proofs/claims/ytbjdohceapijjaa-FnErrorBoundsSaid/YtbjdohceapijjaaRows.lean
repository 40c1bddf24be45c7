/-
  No cell of these rows narrows 'for every input' (looked for: loops, veiled, ifaces, maps, wideKeys, modest, calm, conditions, laid).
  DERIVED. THE GIVEN ROWS OF THIS SEAT. 12 by the template 'for every input the law returns true; each argument reads behind the call as it read before'; 0 by the template 'total and deterministic' (their statements: YtbjdohceapijjaaTotals.lean).
  GIVEN WITH THE SEED: the statements are not yours to turn. If you find one false, say at which input.
  Laid BY PROGRAM, IN A SANDBOX (cutbox-rows.mjs): the forced cells as the released guide's own fill.sh prints them over the translation 0eb50481ebe488c9… (all of the seat's roots in one cut). By AI agents, Wed Nov 11 2026. No macro, syntax, notation, axiom, sorry.
-/
import Derived.Test.YtbjdohceapijjaaChecked
import GoSem.Claim
import GoSem.ClaimJoined
import GoSem.ClaimMapViews
import Derived.JoinedTies
import Derived.KernelRfl
namespace Go.Proofs.Ytbjdohceapijjaa
/- THE CELL 'sum', in the pinned program and in every row, IS THE sha256 OF THE DUMP (.gsa) THAT YtbjdohceapijjaaProg.lean LOADS. Nothing in Lean hashes anything: it is a label: what it is worth is what the hold of that sum in a sandbox is worth. -/
noncomputable def Try.pinned : Pinned := { name := "ytbjdohceapijjaa", sum := "0eb50481ebe488c9fa416ac44797068ec3db19a7d34c9acd83b1d0c79629bde5", checked := Try.checked }
namespace Rows
def none {H : Type} : Left H := { results := [], args := [] }

/-- 'laws.FnExactFirstDifference': WHATEVER THE INPUT: true; the input reads as it did. -/
def fnExactFirstDifferenceSpec : ChangeSpec := { name := "fnExactFirstDifference", fn := fun _ => fun
  | [d1, d2] => { results := [.lit (.bool true)], args := [d1, d2] }
  | _ => none }
def fnExactFirstDifferenceRow : OpenClaim := { program := "ytbjdohceapijjaa", sum := "0eb50481ebe488c9fa416ac44797068ec3db19a7d34c9acd83b1d0c79629bde5", func := "loop.example/g00982/laws.FnExactFirstDifference", spec := "fnExactFirstDifference", apart := false }
def FnExactFirstDifferenceSaid : Prop := fnExactFirstDifferenceRow.holds Try.pinned (OpenSpec.ofChange fnExactFirstDifferenceSpec)

/-- ITS FALSE NEIGHBOUR: 'it returns false'. Refute it at one input. -/
def fnExactFirstDifferenceWrong : ChangeSpec := { name := "fnExactFirstDifference", fn := fun _ => fun
  | [d1, d2] => { results := [.lit (.bool false)], args := [d1, d2] }
  | _ => none }
def FnExactFirstDifferenceWrongFalsely : Prop := fnExactFirstDifferenceRow.holds Try.pinned (OpenSpec.ofChange fnExactFirstDifferenceWrong)

/-- 'laws.FnExactCutsOk': WHATEVER THE INPUT: true; the input reads as it did. -/
def fnExactCutsOkSpec : ChangeSpec := { name := "fnExactCutsOk", fn := fun _ => fun
  | [d1, d2] => { results := [.lit (.bool true)], args := [d1, d2] }
  | _ => none }
def fnExactCutsOkRow : OpenClaim := { program := "ytbjdohceapijjaa", sum := "0eb50481ebe488c9fa416ac44797068ec3db19a7d34c9acd83b1d0c79629bde5", func := "loop.example/g00982/laws.FnExactCutsOk", spec := "fnExactCutsOk", apart := false }
def FnExactCutsOkSaid : Prop := fnExactCutsOkRow.holds Try.pinned (OpenSpec.ofChange fnExactCutsOkSpec)

/-- ITS FALSE NEIGHBOUR: 'it returns false'. Refute it at one input. -/
def fnExactCutsOkWrong : ChangeSpec := { name := "fnExactCutsOk", fn := fun _ => fun
  | [d1, d2] => { results := [.lit (.bool false)], args := [d1, d2] }
  | _ => none }
def FnExactCutsOkWrongFalsely : Prop := fnExactCutsOkRow.holds Try.pinned (OpenSpec.ofChange fnExactCutsOkWrong)

/-- 'laws.FnExactQuantize': WHATEVER THE INPUT: true; the input reads as it did. -/
def fnExactQuantizeSpec : ChangeSpec := { name := "fnExactQuantize", fn := fun _ => fun
  | [d1, d2] => { results := [.lit (.bool true)], args := [d1, d2] }
  | _ => none }
def fnExactQuantizeRow : OpenClaim := { program := "ytbjdohceapijjaa", sum := "0eb50481ebe488c9fa416ac44797068ec3db19a7d34c9acd83b1d0c79629bde5", func := "loop.example/g00982/laws.FnExactQuantize", spec := "fnExactQuantize", apart := false }
def FnExactQuantizeSaid : Prop := fnExactQuantizeRow.holds Try.pinned (OpenSpec.ofChange fnExactQuantizeSpec)

/-- ITS FALSE NEIGHBOUR: 'it returns false'. Refute it at one input. -/
def fnExactQuantizeWrong : ChangeSpec := { name := "fnExactQuantize", fn := fun _ => fun
  | [d1, d2] => { results := [.lit (.bool false)], args := [d1, d2] }
  | _ => none }
def FnExactQuantizeWrongFalsely : Prop := fnExactQuantizeRow.holds Try.pinned (OpenSpec.ofChange fnExactQuantizeWrong)

/-- 'laws.FnExactErrorOf': WHATEVER THE INPUT: true; the input reads as it did. -/
def fnExactErrorOfSpec : ChangeSpec := { name := "fnExactErrorOf", fn := fun _ => fun
  | [d1, d2] => { results := [.lit (.bool true)], args := [d1, d2] }
  | _ => none }
def fnExactErrorOfRow : OpenClaim := { program := "ytbjdohceapijjaa", sum := "0eb50481ebe488c9fa416ac44797068ec3db19a7d34c9acd83b1d0c79629bde5", func := "loop.example/g00982/laws.FnExactErrorOf", spec := "fnExactErrorOf", apart := false }
def FnExactErrorOfSaid : Prop := fnExactErrorOfRow.holds Try.pinned (OpenSpec.ofChange fnExactErrorOfSpec)

/-- ITS FALSE NEIGHBOUR: 'it returns false'. Refute it at one input. -/
def fnExactErrorOfWrong : ChangeSpec := { name := "fnExactErrorOf", fn := fun _ => fun
  | [d1, d2] => { results := [.lit (.bool false)], args := [d1, d2] }
  | _ => none }
def FnExactErrorOfWrongFalsely : Prop := fnExactErrorOfRow.holds Try.pinned (OpenSpec.ofChange fnExactErrorOfWrong)

/-- 'laws.FnExactFinePart': WHATEVER THE INPUT: true; the input reads as it did. -/
def fnExactFinePartSpec : ChangeSpec := { name := "fnExactFinePart", fn := fun _ => fun
  | [d1, d2] => { results := [.lit (.bool true)], args := [d1, d2] }
  | _ => none }
def fnExactFinePartRow : OpenClaim := { program := "ytbjdohceapijjaa", sum := "0eb50481ebe488c9fa416ac44797068ec3db19a7d34c9acd83b1d0c79629bde5", func := "loop.example/g00982/laws.FnExactFinePart", spec := "fnExactFinePart", apart := false }
def FnExactFinePartSaid : Prop := fnExactFinePartRow.holds Try.pinned (OpenSpec.ofChange fnExactFinePartSpec)

/-- ITS FALSE NEIGHBOUR: 'it returns false'. Refute it at one input. -/
def fnExactFinePartWrong : ChangeSpec := { name := "fnExactFinePart", fn := fun _ => fun
  | [d1, d2] => { results := [.lit (.bool false)], args := [d1, d2] }
  | _ => none }
def FnExactFinePartWrongFalsely : Prop := fnExactFinePartRow.holds Try.pinned (OpenSpec.ofChange fnExactFinePartWrong)

/-- 'laws.FnExactDecompressList': WHATEVER THE INPUT: true; the input reads as it did. -/
def fnExactDecompressListSpec : ChangeSpec := { name := "fnExactDecompressList", fn := fun _ => fun
  | [d1, d2] => { results := [.lit (.bool true)], args := [d1, d2] }
  | _ => none }
def fnExactDecompressListRow : OpenClaim := { program := "ytbjdohceapijjaa", sum := "0eb50481ebe488c9fa416ac44797068ec3db19a7d34c9acd83b1d0c79629bde5", func := "loop.example/g00982/laws.FnExactDecompressList", spec := "fnExactDecompressList", apart := false }
def FnExactDecompressListSaid : Prop := fnExactDecompressListRow.holds Try.pinned (OpenSpec.ofChange fnExactDecompressListSpec)

/-- ITS FALSE NEIGHBOUR: 'it returns false'. Refute it at one input. -/
def fnExactDecompressListWrong : ChangeSpec := { name := "fnExactDecompressList", fn := fun _ => fun
  | [d1, d2] => { results := [.lit (.bool false)], args := [d1, d2] }
  | _ => none }
def FnExactDecompressListWrongFalsely : Prop := fnExactDecompressListRow.holds Try.pinned (OpenSpec.ofChange fnExactDecompressListWrong)

/-- 'laws.FnExactConstantPart': WHATEVER THE INPUT: true; the input reads as it did. -/
def fnExactConstantPartSpec : ChangeSpec := { name := "fnExactConstantPart", fn := fun _ => fun
  | [d] => { results := [.lit (.bool true)], args := [d] }
  | _ => none }
def fnExactConstantPartRow : OpenClaim := { program := "ytbjdohceapijjaa", sum := "0eb50481ebe488c9fa416ac44797068ec3db19a7d34c9acd83b1d0c79629bde5", func := "loop.example/g00982/laws.FnExactConstantPart", spec := "fnExactConstantPart", unfollowed := true, recurses := true, apart := false }
def FnExactConstantPartSaid : Prop := fnExactConstantPartRow.holds Try.pinned (OpenSpec.ofChange fnExactConstantPartSpec)

/-- ITS FALSE NEIGHBOUR: 'it returns false'. Refute it at one input. -/
def fnExactConstantPartWrong : ChangeSpec := { name := "fnExactConstantPart", fn := fun _ => fun
  | [d] => { results := [.lit (.bool false)], args := [d] }
  | _ => none }
def FnExactConstantPartWrongFalsely : Prop := fnExactConstantPartRow.holds Try.pinned (OpenSpec.ofChange fnExactConstantPartWrong)

/-- 'laws.FnErrorBounds': WHATEVER THE INPUT: true; the input reads as it did. -/
def fnErrorBoundsSpec : ChangeSpec := { name := "fnErrorBounds", fn := fun _ => fun
  | [d] => { results := [.lit (.bool true)], args := [d] }
  | _ => none }
def fnErrorBoundsRow : OpenClaim := { program := "ytbjdohceapijjaa", sum := "0eb50481ebe488c9fa416ac44797068ec3db19a7d34c9acd83b1d0c79629bde5", func := "loop.example/g00982/laws.FnErrorBounds", spec := "fnErrorBounds", unfollowed := true, recurses := true, apart := false }
def FnErrorBoundsSaid : Prop := fnErrorBoundsRow.holds Try.pinned (OpenSpec.ofChange fnErrorBoundsSpec)

/-- ITS FALSE NEIGHBOUR: 'it returns false'. Refute it at one input. -/
def fnErrorBoundsWrong : ChangeSpec := { name := "fnErrorBounds", fn := fun _ => fun
  | [d] => { results := [.lit (.bool false)], args := [d] }
  | _ => none }
def FnErrorBoundsWrongFalsely : Prop := fnErrorBoundsRow.holds Try.pinned (OpenSpec.ofChange fnErrorBoundsWrong)

/-- 'laws.FnExactMovedLeaves': WHATEVER THE INPUT: true; the input reads as it did. -/
def fnExactMovedLeavesSpec : ChangeSpec := { name := "fnExactMovedLeaves", fn := fun _ => fun
  | [d1, d2] => { results := [.lit (.bool true)], args := [d1, d2] }
  | _ => none }
def fnExactMovedLeavesRow : OpenClaim := { program := "ytbjdohceapijjaa", sum := "0eb50481ebe488c9fa416ac44797068ec3db19a7d34c9acd83b1d0c79629bde5", func := "loop.example/g00982/laws.FnExactMovedLeaves", spec := "fnExactMovedLeaves", apart := false }
def FnExactMovedLeavesSaid : Prop := fnExactMovedLeavesRow.holds Try.pinned (OpenSpec.ofChange fnExactMovedLeavesSpec)

/-- ITS FALSE NEIGHBOUR: 'it returns false'. Refute it at one input. -/
def fnExactMovedLeavesWrong : ChangeSpec := { name := "fnExactMovedLeaves", fn := fun _ => fun
  | [d1, d2] => { results := [.lit (.bool false)], args := [d1, d2] }
  | _ => none }
def FnExactMovedLeavesWrongFalsely : Prop := fnExactMovedLeavesRow.holds Try.pinned (OpenSpec.ofChange fnExactMovedLeavesWrong)

/-- 'laws.FnExactFewestParts': WHATEVER THE INPUT: true; the input reads as it did. -/
def fnExactFewestPartsSpec : ChangeSpec := { name := "fnExactFewestParts", fn := fun _ => fun
  | [d1, d2] => { results := [.lit (.bool true)], args := [d1, d2] }
  | _ => none }
def fnExactFewestPartsRow : OpenClaim := { program := "ytbjdohceapijjaa", sum := "0eb50481ebe488c9fa416ac44797068ec3db19a7d34c9acd83b1d0c79629bde5", func := "loop.example/g00982/laws.FnExactFewestParts", spec := "fnExactFewestParts", unfollowed := true, recurses := true, apart := false }
def FnExactFewestPartsSaid : Prop := fnExactFewestPartsRow.holds Try.pinned (OpenSpec.ofChange fnExactFewestPartsSpec)

/-- ITS FALSE NEIGHBOUR: 'it returns false'. Refute it at one input. -/
def fnExactFewestPartsWrong : ChangeSpec := { name := "fnExactFewestParts", fn := fun _ => fun
  | [d1, d2] => { results := [.lit (.bool false)], args := [d1, d2] }
  | _ => none }
def FnExactFewestPartsWrongFalsely : Prop := fnExactFewestPartsRow.holds Try.pinned (OpenSpec.ofChange fnExactFewestPartsWrong)

/-- 'laws.FnExactMaxPart': WHATEVER THE INPUT: true; the input reads as it did. -/
def fnExactMaxPartSpec : ChangeSpec := { name := "fnExactMaxPart", fn := fun _ => fun
  | [d1, d2] => { results := [.lit (.bool true)], args := [d1, d2] }
  | _ => none }
def fnExactMaxPartRow : OpenClaim := { program := "ytbjdohceapijjaa", sum := "0eb50481ebe488c9fa416ac44797068ec3db19a7d34c9acd83b1d0c79629bde5", func := "loop.example/g00982/laws.FnExactMaxPart", spec := "fnExactMaxPart", unfollowed := true, recurses := true, apart := false }
def FnExactMaxPartSaid : Prop := fnExactMaxPartRow.holds Try.pinned (OpenSpec.ofChange fnExactMaxPartSpec)

/-- ITS FALSE NEIGHBOUR: 'it returns false'. Refute it at one input. -/
def fnExactMaxPartWrong : ChangeSpec := { name := "fnExactMaxPart", fn := fun _ => fun
  | [d1, d2] => { results := [.lit (.bool false)], args := [d1, d2] }
  | _ => none }
def FnExactMaxPartWrongFalsely : Prop := fnExactMaxPartRow.holds Try.pinned (OpenSpec.ofChange fnExactMaxPartWrong)

/-- 'laws.FnExactResidual': WHATEVER THE INPUT: true; the input reads as it did. -/
def fnExactResidualSpec : ChangeSpec := { name := "fnExactResidual", fn := fun _ => fun
  | [d1, d2, d3] => { results := [.lit (.bool true)], args := [d1, d2, d3] }
  | _ => none }
def fnExactResidualRow : OpenClaim := { program := "ytbjdohceapijjaa", sum := "0eb50481ebe488c9fa416ac44797068ec3db19a7d34c9acd83b1d0c79629bde5", func := "loop.example/g00982/laws.FnExactResidual", spec := "fnExactResidual", unfollowed := true, recurses := true, apart := false }
def FnExactResidualSaid : Prop := fnExactResidualRow.holds Try.pinned (OpenSpec.ofChange fnExactResidualSpec)

/-- ITS FALSE NEIGHBOUR: 'it returns false'. Refute it at one input. -/
def fnExactResidualWrong : ChangeSpec := { name := "fnExactResidual", fn := fun _ => fun
  | [d1, d2, d3] => { results := [.lit (.bool false)], args := [d1, d2, d3] }
  | _ => none }
def FnExactResidualWrongFalsely : Prop := fnExactResidualRow.holds Try.pinned (OpenSpec.ofChange fnExactResidualWrong)

/- THE SECOND FORM. 'bulk': how many values and letters a reading holds, each counted each time it is reached (what is shared counts as often as it is met; a slice's spare places count too). A statement '..UptoSaid' is the law's where the arguments, and the package variables that the reading takes, are together of bulk at most 1048576: NARROWER than '..Said'. Prove '..Said' where nothing that the law and all that it calls make is longer than what came in: it says more and counts as full. Else prove '..UptoSaid'. A law counts once. -/
mutual
def uptoBulk {H : Type} : DataW H → Nat
  | .lit (.string bytes) => bytes.length + 1
  | .lit _ => 1
  | .nil => 1
  | .ptr d => uptoBulk d + 1
  | .slice elems spare => uptoBulkAll elems + uptoBulkAll spare + 1
  | .agg parts => uptoBulkAll parts + 1
  | .iface _ d => uptoBulk d + 1
  | .map entries => uptoBulkEntries entries + 1
  | .held _ => 1
def uptoBulkAll {H : Type} : List (DataW H) → Nat
  | [] => 0
  | d :: r => uptoBulk d + uptoBulkAll r
def uptoBulkEntries {H : Type} : List (Lit × DataW H) → Nat
  | [] => 0
  | x :: r => uptoBulkEntry x + uptoBulkEntries r
def uptoBulkEntry {H : Type} : Lit × DataW H → Nat
  | (.string bytes, d) => bytes.length + uptoBulk d + 1
  | (_, d) => uptoBulk d + 1
 end
def uptoSmall : (H : Type) → List (DataW H) → Bool := fun _ ds => decide (uptoBulkAll ds ≤ 1048576)
def OpenSpec.upto (s : _root_.Go.ChangeSpec) : _root_.Go.OpenSpec := { _root_.Go.OpenSpec.ofChange s with cond := some uptoSmall }

/-- 'laws.FnExactFirstDifference', WHERE WHAT IT READS IS OF BULK AT MOST 1048576: true; the input reads as it did. -/
def fnExactFirstDifferenceUptoRow : OpenClaim := { program := "ytbjdohceapijjaa", sum := "0eb50481ebe488c9fa416ac44797068ec3db19a7d34c9acd83b1d0c79629bde5", func := "loop.example/g00982/laws.FnExactFirstDifference", spec := "fnExactFirstDifference", apart := false, narrowed := true }
def FnExactFirstDifferenceUptoSaid : Prop := fnExactFirstDifferenceUptoRow.holds Try.pinned (OpenSpec.upto fnExactFirstDifferenceSpec)

/-- 'laws.FnExactCutsOk', WHERE WHAT IT READS IS OF BULK AT MOST 1048576: true; the input reads as it did. -/
def fnExactCutsOkUptoRow : OpenClaim := { program := "ytbjdohceapijjaa", sum := "0eb50481ebe488c9fa416ac44797068ec3db19a7d34c9acd83b1d0c79629bde5", func := "loop.example/g00982/laws.FnExactCutsOk", spec := "fnExactCutsOk", apart := false, narrowed := true }
def FnExactCutsOkUptoSaid : Prop := fnExactCutsOkUptoRow.holds Try.pinned (OpenSpec.upto fnExactCutsOkSpec)

/-- 'laws.FnExactQuantize', WHERE WHAT IT READS IS OF BULK AT MOST 1048576: true; the input reads as it did. -/
def fnExactQuantizeUptoRow : OpenClaim := { program := "ytbjdohceapijjaa", sum := "0eb50481ebe488c9fa416ac44797068ec3db19a7d34c9acd83b1d0c79629bde5", func := "loop.example/g00982/laws.FnExactQuantize", spec := "fnExactQuantize", apart := false, narrowed := true }
def FnExactQuantizeUptoSaid : Prop := fnExactQuantizeUptoRow.holds Try.pinned (OpenSpec.upto fnExactQuantizeSpec)

/-- 'laws.FnExactErrorOf', WHERE WHAT IT READS IS OF BULK AT MOST 1048576: true; the input reads as it did. -/
def fnExactErrorOfUptoRow : OpenClaim := { program := "ytbjdohceapijjaa", sum := "0eb50481ebe488c9fa416ac44797068ec3db19a7d34c9acd83b1d0c79629bde5", func := "loop.example/g00982/laws.FnExactErrorOf", spec := "fnExactErrorOf", apart := false, narrowed := true }
def FnExactErrorOfUptoSaid : Prop := fnExactErrorOfUptoRow.holds Try.pinned (OpenSpec.upto fnExactErrorOfSpec)

/-- 'laws.FnExactFinePart', WHERE WHAT IT READS IS OF BULK AT MOST 1048576: true; the input reads as it did. -/
def fnExactFinePartUptoRow : OpenClaim := { program := "ytbjdohceapijjaa", sum := "0eb50481ebe488c9fa416ac44797068ec3db19a7d34c9acd83b1d0c79629bde5", func := "loop.example/g00982/laws.FnExactFinePart", spec := "fnExactFinePart", apart := false, narrowed := true }
def FnExactFinePartUptoSaid : Prop := fnExactFinePartUptoRow.holds Try.pinned (OpenSpec.upto fnExactFinePartSpec)

/-- 'laws.FnExactDecompressList', WHERE WHAT IT READS IS OF BULK AT MOST 1048576: true; the input reads as it did. -/
def fnExactDecompressListUptoRow : OpenClaim := { program := "ytbjdohceapijjaa", sum := "0eb50481ebe488c9fa416ac44797068ec3db19a7d34c9acd83b1d0c79629bde5", func := "loop.example/g00982/laws.FnExactDecompressList", spec := "fnExactDecompressList", apart := false, narrowed := true }
def FnExactDecompressListUptoSaid : Prop := fnExactDecompressListUptoRow.holds Try.pinned (OpenSpec.upto fnExactDecompressListSpec)

/-- 'laws.FnExactConstantPart', WHERE WHAT IT READS IS OF BULK AT MOST 1048576: true; the input reads as it did. -/
def fnExactConstantPartUptoRow : OpenClaim := { program := "ytbjdohceapijjaa", sum := "0eb50481ebe488c9fa416ac44797068ec3db19a7d34c9acd83b1d0c79629bde5", func := "loop.example/g00982/laws.FnExactConstantPart", spec := "fnExactConstantPart", unfollowed := true, recurses := true, apart := false, narrowed := true }
def FnExactConstantPartUptoSaid : Prop := fnExactConstantPartUptoRow.holds Try.pinned (OpenSpec.upto fnExactConstantPartSpec)

/-- 'laws.FnErrorBounds', WHERE WHAT IT READS IS OF BULK AT MOST 1048576: true; the input reads as it did. -/
def fnErrorBoundsUptoRow : OpenClaim := { program := "ytbjdohceapijjaa", sum := "0eb50481ebe488c9fa416ac44797068ec3db19a7d34c9acd83b1d0c79629bde5", func := "loop.example/g00982/laws.FnErrorBounds", spec := "fnErrorBounds", unfollowed := true, recurses := true, apart := false, narrowed := true }
def FnErrorBoundsUptoSaid : Prop := fnErrorBoundsUptoRow.holds Try.pinned (OpenSpec.upto fnErrorBoundsSpec)

/-- 'laws.FnExactMovedLeaves', WHERE WHAT IT READS IS OF BULK AT MOST 1048576: true; the input reads as it did. -/
def fnExactMovedLeavesUptoRow : OpenClaim := { program := "ytbjdohceapijjaa", sum := "0eb50481ebe488c9fa416ac44797068ec3db19a7d34c9acd83b1d0c79629bde5", func := "loop.example/g00982/laws.FnExactMovedLeaves", spec := "fnExactMovedLeaves", apart := false, narrowed := true }
def FnExactMovedLeavesUptoSaid : Prop := fnExactMovedLeavesUptoRow.holds Try.pinned (OpenSpec.upto fnExactMovedLeavesSpec)

/-- 'laws.FnExactFewestParts', WHERE WHAT IT READS IS OF BULK AT MOST 1048576: true; the input reads as it did. -/
def fnExactFewestPartsUptoRow : OpenClaim := { program := "ytbjdohceapijjaa", sum := "0eb50481ebe488c9fa416ac44797068ec3db19a7d34c9acd83b1d0c79629bde5", func := "loop.example/g00982/laws.FnExactFewestParts", spec := "fnExactFewestParts", unfollowed := true, recurses := true, apart := false, narrowed := true }
def FnExactFewestPartsUptoSaid : Prop := fnExactFewestPartsUptoRow.holds Try.pinned (OpenSpec.upto fnExactFewestPartsSpec)

/-- 'laws.FnExactMaxPart', WHERE WHAT IT READS IS OF BULK AT MOST 1048576: true; the input reads as it did. -/
def fnExactMaxPartUptoRow : OpenClaim := { program := "ytbjdohceapijjaa", sum := "0eb50481ebe488c9fa416ac44797068ec3db19a7d34c9acd83b1d0c79629bde5", func := "loop.example/g00982/laws.FnExactMaxPart", spec := "fnExactMaxPart", unfollowed := true, recurses := true, apart := false, narrowed := true }
def FnExactMaxPartUptoSaid : Prop := fnExactMaxPartUptoRow.holds Try.pinned (OpenSpec.upto fnExactMaxPartSpec)

/-- 'laws.FnExactResidual', WHERE WHAT IT READS IS OF BULK AT MOST 1048576: true; the input reads as it did. -/
def fnExactResidualUptoRow : OpenClaim := { program := "ytbjdohceapijjaa", sum := "0eb50481ebe488c9fa416ac44797068ec3db19a7d34c9acd83b1d0c79629bde5", func := "loop.example/g00982/laws.FnExactResidual", spec := "fnExactResidual", unfollowed := true, recurses := true, apart := false, narrowed := true }
def FnExactResidualUptoSaid : Prop := fnExactResidualUptoRow.holds Try.pinned (OpenSpec.upto fnExactResidualSpec)

end Rows
end Go.Proofs.Ytbjdohceapijjaa
