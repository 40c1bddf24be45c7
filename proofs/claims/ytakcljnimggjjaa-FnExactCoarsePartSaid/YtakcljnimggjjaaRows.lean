/-
  No cell of these rows narrows 'for every input' (looked for: loops, veiled, ifaces, maps, wideKeys, modest, calm, conditions, laid).
  DERIVED. THE GIVEN ROWS OF THIS SEAT. 12 by the template 'for every input the law returns true; each argument reads behind the call as it read before'; 0 by the template 'total and deterministic' (their statements: YtakcljnimggjjaaTotals.lean).
  GIVEN WITH THE SEED: the statements are not yours to turn. If you find one false, say at which input.
  Laid BY PROGRAM, IN A SANDBOX (cutbox-rows.mjs): the forced cells as the released guide's own fill.sh prints them over the translation 503cbf6cab2c45a7… (all of the seat's roots in one cut). By AI agents, Wed Nov 11 2026. No macro, syntax, notation, axiom, sorry.
-/
import Derived.Test.YtakcljnimggjjaaChecked
import GoSem.Claim
import GoSem.ClaimJoined
import GoSem.ClaimMapViews
import Derived.JoinedTies
import Derived.KernelRfl
namespace Go.Proofs.Ytakcljnimggjjaa
/- THE CELL 'sum', in the pinned program and in every row, IS THE sha256 OF THE DUMP (.gsa) THAT YtakcljnimggjjaaProg.lean LOADS. Nothing in Lean hashes anything: it is a label: what it is worth is what the hold of that sum in a sandbox is worth. -/
noncomputable def Try.pinned : Pinned := { name := "ytakcljnimggjjaa", sum := "503cbf6cab2c45a72f5ffc435324455dda9cfbda79b3fdc024d779dd75952efc", checked := Try.checked }
namespace Rows
def none {H : Type} : Left H := { results := [], args := [] }

/-- 'laws.FnExactInboxOk': WHATEVER THE INPUT: true; the input reads as it did. -/
def fnExactInboxOkSpec : ChangeSpec := { name := "fnExactInboxOk", fn := fun _ => fun
  | [d] => { results := [.lit (.bool true)], args := [d] }
  | _ => none }
def fnExactInboxOkRow : OpenClaim := { program := "ytakcljnimggjjaa", sum := "503cbf6cab2c45a72f5ffc435324455dda9cfbda79b3fdc024d779dd75952efc", func := "loop.example/g00982/laws.FnExactInboxOk", spec := "fnExactInboxOk", apart := false }
def FnExactInboxOkSaid : Prop := fnExactInboxOkRow.holds Try.pinned (OpenSpec.ofChange fnExactInboxOkSpec)

/-- ITS FALSE NEIGHBOUR: 'it returns false'. Refute it at one input. -/
def fnExactInboxOkWrong : ChangeSpec := { name := "fnExactInboxOk", fn := fun _ => fun
  | [d] => { results := [.lit (.bool false)], args := [d] }
  | _ => none }
def FnExactInboxOkWrongFalsely : Prop := fnExactInboxOkRow.holds Try.pinned (OpenSpec.ofChange fnExactInboxOkWrong)

/-- 'laws.FnExactErrorBound': WHATEVER THE INPUT: true; the input reads as it did. -/
def fnExactErrorBoundSpec : ChangeSpec := { name := "fnExactErrorBound", fn := fun _ => fun
  | [d1, d2, d3] => { results := [.lit (.bool true)], args := [d1, d2, d3] }
  | _ => none }
def fnExactErrorBoundRow : OpenClaim := { program := "ytakcljnimggjjaa", sum := "503cbf6cab2c45a72f5ffc435324455dda9cfbda79b3fdc024d779dd75952efc", func := "loop.example/g00982/laws.FnExactErrorBound", spec := "fnExactErrorBound", unfollowed := true, recurses := true, apart := false }
def FnExactErrorBoundSaid : Prop := fnExactErrorBoundRow.holds Try.pinned (OpenSpec.ofChange fnExactErrorBoundSpec)

/-- ITS FALSE NEIGHBOUR: 'it returns false'. Refute it at one input. -/
def fnExactErrorBoundWrong : ChangeSpec := { name := "fnExactErrorBound", fn := fun _ => fun
  | [d1, d2, d3] => { results := [.lit (.bool false)], args := [d1, d2, d3] }
  | _ => none }
def FnExactErrorBoundWrongFalsely : Prop := fnExactErrorBoundRow.holds Try.pinned (OpenSpec.ofChange fnExactErrorBoundWrong)

/-- 'laws.FnExactCompressList': WHATEVER THE INPUT: true; the input reads as it did. -/
def fnExactCompressListSpec : ChangeSpec := { name := "fnExactCompressList", fn := fun _ => fun
  | [d1, d2] => { results := [.lit (.bool true)], args := [d1, d2] }
  | _ => none }
def fnExactCompressListRow : OpenClaim := { program := "ytakcljnimggjjaa", sum := "503cbf6cab2c45a72f5ffc435324455dda9cfbda79b3fdc024d779dd75952efc", func := "loop.example/g00982/laws.FnExactCompressList", spec := "fnExactCompressList", apart := false }
def FnExactCompressListSaid : Prop := fnExactCompressListRow.holds Try.pinned (OpenSpec.ofChange fnExactCompressListSpec)

/-- ITS FALSE NEIGHBOUR: 'it returns false'. Refute it at one input. -/
def fnExactCompressListWrong : ChangeSpec := { name := "fnExactCompressList", fn := fun _ => fun
  | [d1, d2] => { results := [.lit (.bool false)], args := [d1, d2] }
  | _ => none }
def FnExactCompressListWrongFalsely : Prop := fnExactCompressListRow.holds Try.pinned (OpenSpec.ofChange fnExactCompressListWrong)

/-- 'laws.FnExactCoarsePart': WHATEVER THE INPUT: true; the input reads as it did. -/
def fnExactCoarsePartSpec : ChangeSpec := { name := "fnExactCoarsePart", fn := fun _ => fun
  | [d] => { results := [.lit (.bool true)], args := [d] }
  | _ => none }
def fnExactCoarsePartRow : OpenClaim := { program := "ytakcljnimggjjaa", sum := "503cbf6cab2c45a72f5ffc435324455dda9cfbda79b3fdc024d779dd75952efc", func := "loop.example/g00982/laws.FnExactCoarsePart", spec := "fnExactCoarsePart", unfollowed := true, recurses := true, apart := false }
def FnExactCoarsePartSaid : Prop := fnExactCoarsePartRow.holds Try.pinned (OpenSpec.ofChange fnExactCoarsePartSpec)

/-- ITS FALSE NEIGHBOUR: 'it returns false'. Refute it at one input. -/
def fnExactCoarsePartWrong : ChangeSpec := { name := "fnExactCoarsePart", fn := fun _ => fun
  | [d] => { results := [.lit (.bool false)], args := [d] }
  | _ => none }
def FnExactCoarsePartWrongFalsely : Prop := fnExactCoarsePartRow.holds Try.pinned (OpenSpec.ofChange fnExactCoarsePartWrong)

/-- 'laws.FnCompressed': WHATEVER THE INPUT: true; the input reads as it did. -/
def fnCompressedSpec : ChangeSpec := { name := "fnCompressed", fn := fun _ => fun
  | [d] => { results := [.lit (.bool true)], args := [d] }
  | _ => none }
def fnCompressedRow : OpenClaim := { program := "ytakcljnimggjjaa", sum := "503cbf6cab2c45a72f5ffc435324455dda9cfbda79b3fdc024d779dd75952efc", func := "loop.example/g00982/laws.FnCompressed", spec := "fnCompressed", apart := false }
def FnCompressedSaid : Prop := fnCompressedRow.holds Try.pinned (OpenSpec.ofChange fnCompressedSpec)

/-- ITS FALSE NEIGHBOUR: 'it returns false'. Refute it at one input. -/
def fnCompressedWrong : ChangeSpec := { name := "fnCompressed", fn := fun _ => fun
  | [d] => { results := [.lit (.bool false)], args := [d] }
  | _ => none }
def FnCompressedWrongFalsely : Prop := fnCompressedRow.holds Try.pinned (OpenSpec.ofChange fnCompressedWrong)

/-- 'laws.FnPartitions': WHATEVER THE INPUT: true; the input reads as it did. -/
def fnPartitionsSpec : ChangeSpec := { name := "fnPartitions", fn := fun _ => fun
  | [d] => { results := [.lit (.bool true)], args := [d] }
  | _ => none }
def fnPartitionsRow : OpenClaim := { program := "ytakcljnimggjjaa", sum := "503cbf6cab2c45a72f5ffc435324455dda9cfbda79b3fdc024d779dd75952efc", func := "loop.example/g00982/laws.FnPartitions", spec := "fnPartitions", unfollowed := true, recurses := true, apart := false }
def FnPartitionsSaid : Prop := fnPartitionsRow.holds Try.pinned (OpenSpec.ofChange fnPartitionsSpec)

/-- ITS FALSE NEIGHBOUR: 'it returns false'. Refute it at one input. -/
def fnPartitionsWrong : ChangeSpec := { name := "fnPartitions", fn := fun _ => fun
  | [d] => { results := [.lit (.bool false)], args := [d] }
  | _ => none }
def FnPartitionsWrongFalsely : Prop := fnPartitionsRow.holds Try.pinned (OpenSpec.ofChange fnPartitionsWrong)

/-- 'laws.FnExactSolutions': WHATEVER THE INPUT: true; the input reads as it did. -/
def fnExactSolutionsSpec : ChangeSpec := { name := "fnExactSolutions", fn := fun _ => fun
  | [d] => { results := [.lit (.bool true)], args := [d] }
  | _ => none }
def fnExactSolutionsRow : OpenClaim := { program := "ytakcljnimggjjaa", sum := "503cbf6cab2c45a72f5ffc435324455dda9cfbda79b3fdc024d779dd75952efc", func := "loop.example/g00982/laws.FnExactSolutions", spec := "fnExactSolutions", unfollowed := true, recurses := true, apart := false }
def FnExactSolutionsSaid : Prop := fnExactSolutionsRow.holds Try.pinned (OpenSpec.ofChange fnExactSolutionsSpec)

/-- ITS FALSE NEIGHBOUR: 'it returns false'. Refute it at one input. -/
def fnExactSolutionsWrong : ChangeSpec := { name := "fnExactSolutions", fn := fun _ => fun
  | [d] => { results := [.lit (.bool false)], args := [d] }
  | _ => none }
def FnExactSolutionsWrongFalsely : Prop := fnExactSolutionsRow.holds Try.pinned (OpenSpec.ofChange fnExactSolutionsWrong)

/-- 'laws.FnExactRelax': WHATEVER THE INPUT: true; the input reads as it did. -/
def fnExactRelaxSpec : ChangeSpec := { name := "fnExactRelax", fn := fun _ => fun
  | [d1, d2, d3] => { results := [.lit (.bool true)], args := [d1, d2, d3] }
  | _ => none }
def fnExactRelaxRow : OpenClaim := { program := "ytakcljnimggjjaa", sum := "503cbf6cab2c45a72f5ffc435324455dda9cfbda79b3fdc024d779dd75952efc", func := "loop.example/g00982/laws.FnExactRelax", spec := "fnExactRelax", unfollowed := true, recurses := true, apart := false }
def FnExactRelaxSaid : Prop := fnExactRelaxRow.holds Try.pinned (OpenSpec.ofChange fnExactRelaxSpec)

/-- ITS FALSE NEIGHBOUR: 'it returns false'. Refute it at one input. -/
def fnExactRelaxWrong : ChangeSpec := { name := "fnExactRelax", fn := fun _ => fun
  | [d1, d2, d3] => { results := [.lit (.bool false)], args := [d1, d2, d3] }
  | _ => none }
def FnExactRelaxWrongFalsely : Prop := fnExactRelaxRow.holds Try.pinned (OpenSpec.ofChange fnExactRelaxWrong)

/-- 'laws.FnExactSameState': WHATEVER THE INPUT: true; the input reads as it did. -/
def fnExactSameStateSpec : ChangeSpec := { name := "fnExactSameState", fn := fun _ => fun
  | [d1, d2] => { results := [.lit (.bool true)], args := [d1, d2] }
  | _ => none }
def fnExactSameStateRow : OpenClaim := { program := "ytakcljnimggjjaa", sum := "503cbf6cab2c45a72f5ffc435324455dda9cfbda79b3fdc024d779dd75952efc", func := "loop.example/g00982/laws.FnExactSameState", spec := "fnExactSameState", apart := false }
def FnExactSameStateSaid : Prop := fnExactSameStateRow.holds Try.pinned (OpenSpec.ofChange fnExactSameStateSpec)

/-- ITS FALSE NEIGHBOUR: 'it returns false'. Refute it at one input. -/
def fnExactSameStateWrong : ChangeSpec := { name := "fnExactSameState", fn := fun _ => fun
  | [d1, d2] => { results := [.lit (.bool false)], args := [d1, d2] }
  | _ => none }
def FnExactSameStateWrongFalsely : Prop := fnExactSameStateRow.holds Try.pinned (OpenSpec.ofChange fnExactSameStateWrong)

/-- 'laws.FnWeights': WHATEVER THE INPUT: true; the input reads as it did. -/
def fnWeightsSpec : ChangeSpec := { name := "fnWeights", fn := fun _ => fun
  | [d] => { results := [.lit (.bool true)], args := [d] }
  | _ => none }
def fnWeightsRow : OpenClaim := { program := "ytakcljnimggjjaa", sum := "503cbf6cab2c45a72f5ffc435324455dda9cfbda79b3fdc024d779dd75952efc", func := "loop.example/g00982/laws.FnWeights", spec := "fnWeights", unfollowed := true, recurses := true, apart := false }
def FnWeightsSaid : Prop := fnWeightsRow.holds Try.pinned (OpenSpec.ofChange fnWeightsSpec)

/-- ITS FALSE NEIGHBOUR: 'it returns false'. Refute it at one input. -/
def fnWeightsWrong : ChangeSpec := { name := "fnWeights", fn := fun _ => fun
  | [d] => { results := [.lit (.bool false)], args := [d] }
  | _ => none }
def FnWeightsWrongFalsely : Prop := fnWeightsRow.holds Try.pinned (OpenSpec.ofChange fnWeightsWrong)

/-- 'laws.FnExactWeightsOf': WHATEVER THE INPUT: true; the input reads as it did. -/
def fnExactWeightsOfSpec : ChangeSpec := { name := "fnExactWeightsOf", fn := fun _ => fun
  | [d] => { results := [.lit (.bool true)], args := [d] }
  | _ => none }
def fnExactWeightsOfRow : OpenClaim := { program := "ytakcljnimggjjaa", sum := "503cbf6cab2c45a72f5ffc435324455dda9cfbda79b3fdc024d779dd75952efc", func := "loop.example/g00982/laws.FnExactWeightsOf", spec := "fnExactWeightsOf", apart := false }
def FnExactWeightsOfSaid : Prop := fnExactWeightsOfRow.holds Try.pinned (OpenSpec.ofChange fnExactWeightsOfSpec)

/-- ITS FALSE NEIGHBOUR: 'it returns false'. Refute it at one input. -/
def fnExactWeightsOfWrong : ChangeSpec := { name := "fnExactWeightsOf", fn := fun _ => fun
  | [d] => { results := [.lit (.bool false)], args := [d] }
  | _ => none }
def FnExactWeightsOfWrongFalsely : Prop := fnExactWeightsOfRow.holds Try.pinned (OpenSpec.ofChange fnExactWeightsOfWrong)

/-- 'laws.FnExactPartitionOf': WHATEVER THE INPUT: true; the input reads as it did. -/
def fnExactPartitionOfSpec : ChangeSpec := { name := "fnExactPartitionOf", fn := fun _ => fun
  | [d1, d2] => { results := [.lit (.bool true)], args := [d1, d2] }
  | _ => none }
def fnExactPartitionOfRow : OpenClaim := { program := "ytakcljnimggjjaa", sum := "503cbf6cab2c45a72f5ffc435324455dda9cfbda79b3fdc024d779dd75952efc", func := "loop.example/g00982/laws.FnExactPartitionOf", spec := "fnExactPartitionOf", unfollowed := true, recurses := true, apart := false }
def FnExactPartitionOfSaid : Prop := fnExactPartitionOfRow.holds Try.pinned (OpenSpec.ofChange fnExactPartitionOfSpec)

/-- ITS FALSE NEIGHBOUR: 'it returns false'. Refute it at one input. -/
def fnExactPartitionOfWrong : ChangeSpec := { name := "fnExactPartitionOf", fn := fun _ => fun
  | [d1, d2] => { results := [.lit (.bool false)], args := [d1, d2] }
  | _ => none }
def FnExactPartitionOfWrongFalsely : Prop := fnExactPartitionOfRow.holds Try.pinned (OpenSpec.ofChange fnExactPartitionOfWrong)

/- THE SECOND FORM. 'bulk': how many values and letters a reading holds, each counted each time it is reached (what is shared counts as often as it is met; a slice's spare places count too). A statement '..UptoSaid' is the law's where the arguments, and the package variables that the reading takes, are together of bulk at most 1048576: NARROWER than '..Said'. Prove '..Said' where nothing that the law and all that it calls make is longer than what came in: it says more and counts as full. Else prove '..UptoSaid'. A law counts once. -/
mutual
def uptoBulk {H : Type} : DataW H → Nat
  | .lit (.string bytes) => bytes.length + 1
  | .lit _ => 1
  | .nil => 1
  | .ptr d => uptoBulk d + 1
  | .slice elems spare => uptoBulkAll elems + uptoBulkAll spare + 1
  | .agg parts => uptoBulkAll parts + 1
  | .iface _ d => uptoBulk d + 1
  | .map entries => uptoBulkEntries entries + 1
  | .held _ => 1
def uptoBulkAll {H : Type} : List (DataW H) → Nat
  | [] => 0
  | d :: r => uptoBulk d + uptoBulkAll r
def uptoBulkEntries {H : Type} : List (Lit × DataW H) → Nat
  | [] => 0
  | x :: r => uptoBulkEntry x + uptoBulkEntries r
def uptoBulkEntry {H : Type} : Lit × DataW H → Nat
  | (.string bytes, d) => bytes.length + uptoBulk d + 1
  | (_, d) => uptoBulk d + 1
 end
def uptoSmall : (H : Type) → List (DataW H) → Bool := fun _ ds => decide (uptoBulkAll ds ≤ 1048576)
def OpenSpec.upto (s : _root_.Go.ChangeSpec) : _root_.Go.OpenSpec := { _root_.Go.OpenSpec.ofChange s with cond := some uptoSmall }

/-- 'laws.FnExactInboxOk', WHERE WHAT IT READS IS OF BULK AT MOST 1048576: true; the input reads as it did. -/
def fnExactInboxOkUptoRow : OpenClaim := { program := "ytakcljnimggjjaa", sum := "503cbf6cab2c45a72f5ffc435324455dda9cfbda79b3fdc024d779dd75952efc", func := "loop.example/g00982/laws.FnExactInboxOk", spec := "fnExactInboxOk", apart := false, narrowed := true }
def FnExactInboxOkUptoSaid : Prop := fnExactInboxOkUptoRow.holds Try.pinned (OpenSpec.upto fnExactInboxOkSpec)

/-- 'laws.FnExactErrorBound', WHERE WHAT IT READS IS OF BULK AT MOST 1048576: true; the input reads as it did. -/
def fnExactErrorBoundUptoRow : OpenClaim := { program := "ytakcljnimggjjaa", sum := "503cbf6cab2c45a72f5ffc435324455dda9cfbda79b3fdc024d779dd75952efc", func := "loop.example/g00982/laws.FnExactErrorBound", spec := "fnExactErrorBound", unfollowed := true, recurses := true, apart := false, narrowed := true }
def FnExactErrorBoundUptoSaid : Prop := fnExactErrorBoundUptoRow.holds Try.pinned (OpenSpec.upto fnExactErrorBoundSpec)

/-- 'laws.FnExactCompressList', WHERE WHAT IT READS IS OF BULK AT MOST 1048576: true; the input reads as it did. -/
def fnExactCompressListUptoRow : OpenClaim := { program := "ytakcljnimggjjaa", sum := "503cbf6cab2c45a72f5ffc435324455dda9cfbda79b3fdc024d779dd75952efc", func := "loop.example/g00982/laws.FnExactCompressList", spec := "fnExactCompressList", apart := false, narrowed := true }
def FnExactCompressListUptoSaid : Prop := fnExactCompressListUptoRow.holds Try.pinned (OpenSpec.upto fnExactCompressListSpec)

/-- 'laws.FnExactCoarsePart', WHERE WHAT IT READS IS OF BULK AT MOST 1048576: true; the input reads as it did. -/
def fnExactCoarsePartUptoRow : OpenClaim := { program := "ytakcljnimggjjaa", sum := "503cbf6cab2c45a72f5ffc435324455dda9cfbda79b3fdc024d779dd75952efc", func := "loop.example/g00982/laws.FnExactCoarsePart", spec := "fnExactCoarsePart", unfollowed := true, recurses := true, apart := false, narrowed := true }
def FnExactCoarsePartUptoSaid : Prop := fnExactCoarsePartUptoRow.holds Try.pinned (OpenSpec.upto fnExactCoarsePartSpec)

/-- 'laws.FnCompressed', WHERE WHAT IT READS IS OF BULK AT MOST 1048576: true; the input reads as it did. -/
def fnCompressedUptoRow : OpenClaim := { program := "ytakcljnimggjjaa", sum := "503cbf6cab2c45a72f5ffc435324455dda9cfbda79b3fdc024d779dd75952efc", func := "loop.example/g00982/laws.FnCompressed", spec := "fnCompressed", apart := false, narrowed := true }
def FnCompressedUptoSaid : Prop := fnCompressedUptoRow.holds Try.pinned (OpenSpec.upto fnCompressedSpec)

/-- 'laws.FnPartitions', WHERE WHAT IT READS IS OF BULK AT MOST 1048576: true; the input reads as it did. -/
def fnPartitionsUptoRow : OpenClaim := { program := "ytakcljnimggjjaa", sum := "503cbf6cab2c45a72f5ffc435324455dda9cfbda79b3fdc024d779dd75952efc", func := "loop.example/g00982/laws.FnPartitions", spec := "fnPartitions", unfollowed := true, recurses := true, apart := false, narrowed := true }
def FnPartitionsUptoSaid : Prop := fnPartitionsUptoRow.holds Try.pinned (OpenSpec.upto fnPartitionsSpec)

/-- 'laws.FnExactSolutions', WHERE WHAT IT READS IS OF BULK AT MOST 1048576: true; the input reads as it did. -/
def fnExactSolutionsUptoRow : OpenClaim := { program := "ytakcljnimggjjaa", sum := "503cbf6cab2c45a72f5ffc435324455dda9cfbda79b3fdc024d779dd75952efc", func := "loop.example/g00982/laws.FnExactSolutions", spec := "fnExactSolutions", unfollowed := true, recurses := true, apart := false, narrowed := true }
def FnExactSolutionsUptoSaid : Prop := fnExactSolutionsUptoRow.holds Try.pinned (OpenSpec.upto fnExactSolutionsSpec)

/-- 'laws.FnExactRelax', WHERE WHAT IT READS IS OF BULK AT MOST 1048576: true; the input reads as it did. -/
def fnExactRelaxUptoRow : OpenClaim := { program := "ytakcljnimggjjaa", sum := "503cbf6cab2c45a72f5ffc435324455dda9cfbda79b3fdc024d779dd75952efc", func := "loop.example/g00982/laws.FnExactRelax", spec := "fnExactRelax", unfollowed := true, recurses := true, apart := false, narrowed := true }
def FnExactRelaxUptoSaid : Prop := fnExactRelaxUptoRow.holds Try.pinned (OpenSpec.upto fnExactRelaxSpec)

/-- 'laws.FnExactSameState', WHERE WHAT IT READS IS OF BULK AT MOST 1048576: true; the input reads as it did. -/
def fnExactSameStateUptoRow : OpenClaim := { program := "ytakcljnimggjjaa", sum := "503cbf6cab2c45a72f5ffc435324455dda9cfbda79b3fdc024d779dd75952efc", func := "loop.example/g00982/laws.FnExactSameState", spec := "fnExactSameState", apart := false, narrowed := true }
def FnExactSameStateUptoSaid : Prop := fnExactSameStateUptoRow.holds Try.pinned (OpenSpec.upto fnExactSameStateSpec)

/-- 'laws.FnWeights', WHERE WHAT IT READS IS OF BULK AT MOST 1048576: true; the input reads as it did. -/
def fnWeightsUptoRow : OpenClaim := { program := "ytakcljnimggjjaa", sum := "503cbf6cab2c45a72f5ffc435324455dda9cfbda79b3fdc024d779dd75952efc", func := "loop.example/g00982/laws.FnWeights", spec := "fnWeights", unfollowed := true, recurses := true, apart := false, narrowed := true }
def FnWeightsUptoSaid : Prop := fnWeightsUptoRow.holds Try.pinned (OpenSpec.upto fnWeightsSpec)

/-- 'laws.FnExactWeightsOf', WHERE WHAT IT READS IS OF BULK AT MOST 1048576: true; the input reads as it did. -/
def fnExactWeightsOfUptoRow : OpenClaim := { program := "ytakcljnimggjjaa", sum := "503cbf6cab2c45a72f5ffc435324455dda9cfbda79b3fdc024d779dd75952efc", func := "loop.example/g00982/laws.FnExactWeightsOf", spec := "fnExactWeightsOf", apart := false, narrowed := true }
def FnExactWeightsOfUptoSaid : Prop := fnExactWeightsOfUptoRow.holds Try.pinned (OpenSpec.upto fnExactWeightsOfSpec)

/-- 'laws.FnExactPartitionOf', WHERE WHAT IT READS IS OF BULK AT MOST 1048576: true; the input reads as it did. -/
def fnExactPartitionOfUptoRow : OpenClaim := { program := "ytakcljnimggjjaa", sum := "503cbf6cab2c45a72f5ffc435324455dda9cfbda79b3fdc024d779dd75952efc", func := "loop.example/g00982/laws.FnExactPartitionOf", spec := "fnExactPartitionOf", unfollowed := true, recurses := true, apart := false, narrowed := true }
def FnExactPartitionOfUptoSaid : Prop := fnExactPartitionOfUptoRow.holds Try.pinned (OpenSpec.upto fnExactPartitionOfSpec)

end Rows
end Go.Proofs.Ytakcljnimggjjaa
