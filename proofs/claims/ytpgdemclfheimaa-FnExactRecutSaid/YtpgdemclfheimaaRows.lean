/-
  No cell of these rows narrows 'for every input' (looked for: loops, veiled, ifaces, maps, wideKeys, modest, calm, conditions, laid).
  DERIVED. THE GIVEN ROWS OF THIS SEAT. 5 by the template 'for every input the law returns true; each argument reads behind the call as it read before'; 0 by the template 'total and deterministic' (their statements: YtpgdemclfheimaaTotals.lean).
  GIVEN WITH THE SEED: the statements are not yours to turn. If you find one false, say at which input.
  Laid BY PROGRAM, IN A SANDBOX (cutbox-rows.mjs): the forced cells as the released guide's own fill.sh prints them over the translation 3e3e4ca2742ac03e… (all of the seat's roots in one cut). By AI agents, Wed Nov 11 2026. No macro, syntax, notation, axiom, sorry.
-/
import Derived.Test.YtpgdemclfheimaaChecked
import GoSem.Claim
import GoSem.ClaimJoined
import GoSem.ClaimMapViews
import Derived.JoinedTies
import Derived.KernelRfl
namespace Go.Proofs.Ytpgdemclfheimaa
/- THE CELL 'sum', in the pinned program and in every row, IS THE sha256 OF THE DUMP (.gsa) THAT YtpgdemclfheimaaProg.lean LOADS. Nothing in Lean hashes anything: it is a label: what it is worth is what the hold of that sum in a sandbox is worth. -/
noncomputable def Try.pinned : Pinned := { name := "ytpgdemclfheimaa", sum := "3e3e4ca2742ac03eccf9012ffb978548a4535443bcbf089aafc5b4e543844ac1", checked := Try.checked }
namespace Rows
def none {H : Type} : Left H := { results := [], args := [] }

/-- 'laws.FnExactJoinViews': WHATEVER THE INPUT: true; the input reads as it did. -/
def fnExactJoinViewsSpec : ChangeSpec := { name := "fnExactJoinViews", fn := fun _ => fun
  | [d] => { results := [.lit (.bool true)], args := [d] }
  | _ => none }
def fnExactJoinViewsRow : OpenClaim := { program := "ytpgdemclfheimaa", sum := "3e3e4ca2742ac03eccf9012ffb978548a4535443bcbf089aafc5b4e543844ac1", func := "loop.example/g00982/laws.FnExactJoinViews", spec := "fnExactJoinViews", unfollowed := true, recurses := true, apart := false }
def FnExactJoinViewsSaid : Prop := fnExactJoinViewsRow.holds Try.pinned (OpenSpec.ofChange fnExactJoinViewsSpec)

/-- ITS FALSE NEIGHBOUR: 'it returns false'. Refute it at one input. -/
def fnExactJoinViewsWrong : ChangeSpec := { name := "fnExactJoinViews", fn := fun _ => fun
  | [d] => { results := [.lit (.bool false)], args := [d] }
  | _ => none }
def FnExactJoinViewsWrongFalsely : Prop := fnExactJoinViewsRow.holds Try.pinned (OpenSpec.ofChange fnExactJoinViewsWrong)

/-- 'laws.FnExactSplitState': WHATEVER THE INPUT: true; the input reads as it did. -/
def fnExactSplitStateSpec : ChangeSpec := { name := "fnExactSplitState", fn := fun _ => fun
  | [d1, d2] => { results := [.lit (.bool true)], args := [d1, d2] }
  | _ => none }
def fnExactSplitStateRow : OpenClaim := { program := "ytpgdemclfheimaa", sum := "3e3e4ca2742ac03eccf9012ffb978548a4535443bcbf089aafc5b4e543844ac1", func := "loop.example/g00982/laws.FnExactSplitState", spec := "fnExactSplitState", unfollowed := true, recurses := true, apart := false }
def FnExactSplitStateSaid : Prop := fnExactSplitStateRow.holds Try.pinned (OpenSpec.ofChange fnExactSplitStateSpec)

/-- ITS FALSE NEIGHBOUR: 'it returns false'. Refute it at one input. -/
def fnExactSplitStateWrong : ChangeSpec := { name := "fnExactSplitState", fn := fun _ => fun
  | [d1, d2] => { results := [.lit (.bool false)], args := [d1, d2] }
  | _ => none }
def FnExactSplitStateWrongFalsely : Prop := fnExactSplitStateRow.holds Try.pinned (OpenSpec.ofChange fnExactSplitStateWrong)

/-- 'laws.FnExactRecut': WHATEVER THE INPUT: true; the input reads as it did. -/
def fnExactRecutSpec : ChangeSpec := { name := "fnExactRecut", fn := fun _ => fun
  | [d1, d2] => { results := [.lit (.bool true)], args := [d1, d2] }
  | _ => none }
def fnExactRecutRow : OpenClaim := { program := "ytpgdemclfheimaa", sum := "3e3e4ca2742ac03eccf9012ffb978548a4535443bcbf089aafc5b4e543844ac1", func := "loop.example/g00982/laws.FnExactRecut", spec := "fnExactRecut", unfollowed := true, recurses := true, apart := false }
def FnExactRecutSaid : Prop := fnExactRecutRow.holds Try.pinned (OpenSpec.ofChange fnExactRecutSpec)

/-- ITS FALSE NEIGHBOUR: 'it returns false'. Refute it at one input. -/
def fnExactRecutWrong : ChangeSpec := { name := "fnExactRecut", fn := fun _ => fun
  | [d1, d2] => { results := [.lit (.bool false)], args := [d1, d2] }
  | _ => none }
def FnExactRecutWrongFalsely : Prop := fnExactRecutRow.holds Try.pinned (OpenSpec.ofChange fnExactRecutWrong)

/-- 'laws.FnExactBestCuts': WHATEVER THE INPUT: true; the input reads as it did. -/
def fnExactBestCutsSpec : ChangeSpec := { name := "fnExactBestCuts", fn := fun _ => fun
  | [d] => { results := [.lit (.bool true)], args := [d] }
  | _ => none }
def fnExactBestCutsRow : OpenClaim := { program := "ytpgdemclfheimaa", sum := "3e3e4ca2742ac03eccf9012ffb978548a4535443bcbf089aafc5b4e543844ac1", func := "loop.example/g00982/laws.FnExactBestCuts", spec := "fnExactBestCuts", unfollowed := true, recurses := true, apart := false }
def FnExactBestCutsSaid : Prop := fnExactBestCutsRow.holds Try.pinned (OpenSpec.ofChange fnExactBestCutsSpec)

/-- ITS FALSE NEIGHBOUR: 'it returns false'. Refute it at one input. -/
def fnExactBestCutsWrong : ChangeSpec := { name := "fnExactBestCuts", fn := fun _ => fun
  | [d] => { results := [.lit (.bool false)], args := [d] }
  | _ => none }
def FnExactBestCutsWrongFalsely : Prop := fnExactBestCutsRow.holds Try.pinned (OpenSpec.ofChange fnExactBestCutsWrong)

/-- 'laws.FnExactImbalance': WHATEVER THE INPUT: true; the input reads as it did. -/
def fnExactImbalanceSpec : ChangeSpec := { name := "fnExactImbalance", fn := fun _ => fun
  | [d] => { results := [.lit (.bool true)], args := [d] }
  | _ => none }
def fnExactImbalanceRow : OpenClaim := { program := "ytpgdemclfheimaa", sum := "3e3e4ca2742ac03eccf9012ffb978548a4535443bcbf089aafc5b4e543844ac1", func := "loop.example/g00982/laws.FnExactImbalance", spec := "fnExactImbalance", unfollowed := true, recurses := true, apart := false }
def FnExactImbalanceSaid : Prop := fnExactImbalanceRow.holds Try.pinned (OpenSpec.ofChange fnExactImbalanceSpec)

/-- ITS FALSE NEIGHBOUR: 'it returns false'. Refute it at one input. -/
def fnExactImbalanceWrong : ChangeSpec := { name := "fnExactImbalance", fn := fun _ => fun
  | [d] => { results := [.lit (.bool false)], args := [d] }
  | _ => none }
def FnExactImbalanceWrongFalsely : Prop := fnExactImbalanceRow.holds Try.pinned (OpenSpec.ofChange fnExactImbalanceWrong)

/- THE SECOND FORM. 'bulk': how many values and letters a reading holds, each counted each time it is reached (what is shared counts as often as it is met; a slice's spare places count too). A statement '..UptoSaid' is the law's where the arguments, and the package variables that the reading takes, are together of bulk at most 1048576: NARROWER than '..Said'. Prove '..Said' where nothing that the law and all that it calls make is longer than what came in: it says more and counts as full. Else prove '..UptoSaid'. A law counts once. -/
mutual
def uptoBulk {H : Type} : DataW H → Nat
  | .lit (.string bytes) => bytes.length + 1
  | .lit _ => 1
  | .nil => 1
  | .ptr d => uptoBulk d + 1
  | .slice elems spare => uptoBulkAll elems + uptoBulkAll spare + 1
  | .agg parts => uptoBulkAll parts + 1
  | .iface _ d => uptoBulk d + 1
  | .map entries => uptoBulkEntries entries + 1
  | .held _ => 1
def uptoBulkAll {H : Type} : List (DataW H) → Nat
  | [] => 0
  | d :: r => uptoBulk d + uptoBulkAll r
def uptoBulkEntries {H : Type} : List (Lit × DataW H) → Nat
  | [] => 0
  | x :: r => uptoBulkEntry x + uptoBulkEntries r
def uptoBulkEntry {H : Type} : Lit × DataW H → Nat
  | (.string bytes, d) => bytes.length + uptoBulk d + 1
  | (_, d) => uptoBulk d + 1
 end
def uptoSmall : (H : Type) → List (DataW H) → Bool := fun _ ds => decide (uptoBulkAll ds ≤ 1048576)
def OpenSpec.upto (s : _root_.Go.ChangeSpec) : _root_.Go.OpenSpec := { _root_.Go.OpenSpec.ofChange s with cond := some uptoSmall }

/-- 'laws.FnExactJoinViews', WHERE WHAT IT READS IS OF BULK AT MOST 1048576: true; the input reads as it did. -/
def fnExactJoinViewsUptoRow : OpenClaim := { program := "ytpgdemclfheimaa", sum := "3e3e4ca2742ac03eccf9012ffb978548a4535443bcbf089aafc5b4e543844ac1", func := "loop.example/g00982/laws.FnExactJoinViews", spec := "fnExactJoinViews", unfollowed := true, recurses := true, apart := false, narrowed := true }
def FnExactJoinViewsUptoSaid : Prop := fnExactJoinViewsUptoRow.holds Try.pinned (OpenSpec.upto fnExactJoinViewsSpec)

/-- 'laws.FnExactSplitState', WHERE WHAT IT READS IS OF BULK AT MOST 1048576: true; the input reads as it did. -/
def fnExactSplitStateUptoRow : OpenClaim := { program := "ytpgdemclfheimaa", sum := "3e3e4ca2742ac03eccf9012ffb978548a4535443bcbf089aafc5b4e543844ac1", func := "loop.example/g00982/laws.FnExactSplitState", spec := "fnExactSplitState", unfollowed := true, recurses := true, apart := false, narrowed := true }
def FnExactSplitStateUptoSaid : Prop := fnExactSplitStateUptoRow.holds Try.pinned (OpenSpec.upto fnExactSplitStateSpec)

/-- 'laws.FnExactRecut', WHERE WHAT IT READS IS OF BULK AT MOST 1048576: true; the input reads as it did. -/
def fnExactRecutUptoRow : OpenClaim := { program := "ytpgdemclfheimaa", sum := "3e3e4ca2742ac03eccf9012ffb978548a4535443bcbf089aafc5b4e543844ac1", func := "loop.example/g00982/laws.FnExactRecut", spec := "fnExactRecut", unfollowed := true, recurses := true, apart := false, narrowed := true }
def FnExactRecutUptoSaid : Prop := fnExactRecutUptoRow.holds Try.pinned (OpenSpec.upto fnExactRecutSpec)

/-- 'laws.FnExactBestCuts', WHERE WHAT IT READS IS OF BULK AT MOST 1048576: true; the input reads as it did. -/
def fnExactBestCutsUptoRow : OpenClaim := { program := "ytpgdemclfheimaa", sum := "3e3e4ca2742ac03eccf9012ffb978548a4535443bcbf089aafc5b4e543844ac1", func := "loop.example/g00982/laws.FnExactBestCuts", spec := "fnExactBestCuts", unfollowed := true, recurses := true, apart := false, narrowed := true }
def FnExactBestCutsUptoSaid : Prop := fnExactBestCutsUptoRow.holds Try.pinned (OpenSpec.upto fnExactBestCutsSpec)

/-- 'laws.FnExactImbalance', WHERE WHAT IT READS IS OF BULK AT MOST 1048576: true; the input reads as it did. -/
def fnExactImbalanceUptoRow : OpenClaim := { program := "ytpgdemclfheimaa", sum := "3e3e4ca2742ac03eccf9012ffb978548a4535443bcbf089aafc5b4e543844ac1", func := "loop.example/g00982/laws.FnExactImbalance", spec := "fnExactImbalance", unfollowed := true, recurses := true, apart := false, narrowed := true }
def FnExactImbalanceUptoSaid : Prop := fnExactImbalanceUptoRow.holds Try.pinned (OpenSpec.upto fnExactImbalanceSpec)

end Rows
end Go.Proofs.Ytpgdemclfheimaa
