/-
  No cell of these rows narrows 'for every input' (looked for: loops, veiled, ifaces, maps, wideKeys, modest, calm, conditions, laid).
  DERIVED. THE GIVEN ROWS OF THIS SEAT. 5 by the template 'for every input the law returns true; each argument reads behind the call as it read before'; 0 by the template 'total and deterministic' (their statements: YtkhjkcefkampkaaTotals.lean).
  GIVEN WITH THE SEED: the statements are not yours to turn. If you find one false, say at which input.
  Laid BY PROGRAM, IN A SANDBOX (cutbox-rows.mjs): the forced cells as the released guide's own fill.sh prints them over the translation 41444e52f3d6df2d… (all of the seat's roots in one cut). By AI agents, Wed Nov 11 2026. No macro, syntax, notation, axiom, sorry.
-/
import Derived.Test.YtkhjkcefkampkaaChecked
import GoSem.Claim
import GoSem.ClaimJoined
import GoSem.ClaimMapViews
import Derived.JoinedTies
import Derived.KernelRfl
namespace Go.Proofs.Ytkhjkcefkampkaa
/- THE CELL 'sum', in the pinned program and in every row, IS THE sha256 OF THE DUMP (.gsa) THAT YtkhjkcefkampkaaProg.lean LOADS. Nothing in Lean hashes anything: it is a label: what it is worth is what the hold of that sum in a sandbox is worth. -/
noncomputable def Try.pinned : Pinned := { name := "ytkhjkcefkampkaa", sum := "41444e52f3d6df2df66736fe7aa682f2d3389223ffc9b802611ed7cb5ee64c6f", checked := Try.checked }
namespace Rows
def none {H : Type} : Left H := { results := [], args := [] }

/-- 'laws.FnExactStepViews': WHATEVER THE INPUT: true; the input reads as it did. -/
def fnExactStepViewsSpec : ChangeSpec := { name := "fnExactStepViews", fn := fun _ => fun
  | [d1, d2] => { results := [.lit (.bool true)], args := [d1, d2] }
  | _ => none }
def fnExactStepViewsRow : OpenClaim := { program := "ytkhjkcefkampkaa", sum := "41444e52f3d6df2df66736fe7aa682f2d3389223ffc9b802611ed7cb5ee64c6f", func := "loop.example/g00982/laws.FnExactStepViews", spec := "fnExactStepViews", unfollowed := true, recurses := true, apart := false }
def FnExactStepViewsSaid : Prop := fnExactStepViewsRow.holds Try.pinned (OpenSpec.ofChange fnExactStepViewsSpec)

/-- ITS FALSE NEIGHBOUR: 'it returns false'. Refute it at one input. -/
def fnExactStepViewsWrong : ChangeSpec := { name := "fnExactStepViews", fn := fun _ => fun
  | [d1, d2] => { results := [.lit (.bool false)], args := [d1, d2] }
  | _ => none }
def FnExactStepViewsWrongFalsely : Prop := fnExactStepViewsRow.holds Try.pinned (OpenSpec.ofChange fnExactStepViewsWrong)

/-- 'laws.FnExactLocalFluxes': WHATEVER THE INPUT: true; the input reads as it did. -/
def fnExactLocalFluxesSpec : ChangeSpec := { name := "fnExactLocalFluxes", fn := fun _ => fun
  | [d1, d2] => { results := [.lit (.bool true)], args := [d1, d2] }
  | _ => none }
def fnExactLocalFluxesRow : OpenClaim := { program := "ytkhjkcefkampkaa", sum := "41444e52f3d6df2df66736fe7aa682f2d3389223ffc9b802611ed7cb5ee64c6f", func := "loop.example/g00982/laws.FnExactLocalFluxes", spec := "fnExactLocalFluxes", unfollowed := true, recurses := true, apart := false }
def FnExactLocalFluxesSaid : Prop := fnExactLocalFluxesRow.holds Try.pinned (OpenSpec.ofChange fnExactLocalFluxesSpec)

/-- ITS FALSE NEIGHBOUR: 'it returns false'. Refute it at one input. -/
def fnExactLocalFluxesWrong : ChangeSpec := { name := "fnExactLocalFluxes", fn := fun _ => fun
  | [d1, d2] => { results := [.lit (.bool false)], args := [d1, d2] }
  | _ => none }
def FnExactLocalFluxesWrongFalsely : Prop := fnExactLocalFluxesRow.holds Try.pinned (OpenSpec.ofChange fnExactLocalFluxesWrong)

/-- 'laws.FnMacro': WHATEVER THE INPUT: true; the input reads as it did. -/
def fnMacroSpec : ChangeSpec := { name := "fnMacro", fn := fun _ => fun
  | [d] => { results := [.lit (.bool true)], args := [d] }
  | _ => none }
def fnMacroRow : OpenClaim := { program := "ytkhjkcefkampkaa", sum := "41444e52f3d6df2df66736fe7aa682f2d3389223ffc9b802611ed7cb5ee64c6f", func := "loop.example/g00982/laws.FnMacro", spec := "fnMacro", unfollowed := true, recurses := true, apart := false }
def FnMacroSaid : Prop := fnMacroRow.holds Try.pinned (OpenSpec.ofChange fnMacroSpec)

/-- ITS FALSE NEIGHBOUR: 'it returns false'. Refute it at one input. -/
def fnMacroWrong : ChangeSpec := { name := "fnMacro", fn := fun _ => fun
  | [d] => { results := [.lit (.bool false)], args := [d] }
  | _ => none }
def FnMacroWrongFalsely : Prop := fnMacroRow.holds Try.pinned (OpenSpec.ofChange fnMacroWrong)

/-- 'laws.FnRest': WHATEVER THE INPUT: true; the input reads as it did. -/
def fnRestSpec : ChangeSpec := { name := "fnRest", fn := fun _ => fun
  | [d] => { results := [.lit (.bool true)], args := [d] }
  | _ => none }
def fnRestRow : OpenClaim := { program := "ytkhjkcefkampkaa", sum := "41444e52f3d6df2df66736fe7aa682f2d3389223ffc9b802611ed7cb5ee64c6f", func := "loop.example/g00982/laws.FnRest", spec := "fnRest", unfollowed := true, recurses := true, apart := false }
def FnRestSaid : Prop := fnRestRow.holds Try.pinned (OpenSpec.ofChange fnRestSpec)

/-- ITS FALSE NEIGHBOUR: 'it returns false'. Refute it at one input. -/
def fnRestWrong : ChangeSpec := { name := "fnRest", fn := fun _ => fun
  | [d] => { results := [.lit (.bool false)], args := [d] }
  | _ => none }
def FnRestWrongFalsely : Prop := fnRestRow.holds Try.pinned (OpenSpec.ofChange fnRestWrong)

/-- 'laws.FnUndone': WHATEVER THE INPUT: true; the input reads as it did. -/
def fnUndoneSpec : ChangeSpec := { name := "fnUndone", fn := fun _ => fun
  | [d] => { results := [.lit (.bool true)], args := [d] }
  | _ => none }
def fnUndoneRow : OpenClaim := { program := "ytkhjkcefkampkaa", sum := "41444e52f3d6df2df66736fe7aa682f2d3389223ffc9b802611ed7cb5ee64c6f", func := "loop.example/g00982/laws.FnUndone", spec := "fnUndone", inPlace := ["slices.overlaps[loop.example/g00982/impl.Id]", "slices.overlaps[int]"], unfollowed := true, recurses := true, apart := false }
def FnUndoneSaid : Prop := fnUndoneRow.holds Try.pinned (OpenSpec.ofChange fnUndoneSpec)

/-- ITS FALSE NEIGHBOUR: 'it returns false'. Refute it at one input. -/
def fnUndoneWrong : ChangeSpec := { name := "fnUndone", fn := fun _ => fun
  | [d] => { results := [.lit (.bool false)], args := [d] }
  | _ => none }
def FnUndoneWrongFalsely : Prop := fnUndoneRow.holds Try.pinned (OpenSpec.ofChange fnUndoneWrong)

/- THE SECOND FORM. 'bulk': how many values and letters a reading holds, each counted each time it is reached (what is shared counts as often as it is met; a slice's spare places count too). A statement '..UptoSaid' is the law's where the arguments, and the package variables that the reading takes, are together of bulk at most 1048576: NARROWER than '..Said'. Prove '..Said' where nothing that the law and all that it calls make is longer than what came in: it says more and counts as full. Else prove '..UptoSaid'. A law counts once. -/
mutual
def uptoBulk {H : Type} : DataW H → Nat
  | .lit (.string bytes) => bytes.length + 1
  | .lit _ => 1
  | .nil => 1
  | .ptr d => uptoBulk d + 1
  | .slice elems spare => uptoBulkAll elems + uptoBulkAll spare + 1
  | .agg parts => uptoBulkAll parts + 1
  | .iface _ d => uptoBulk d + 1
  | .map entries => uptoBulkEntries entries + 1
  | .held _ => 1
def uptoBulkAll {H : Type} : List (DataW H) → Nat
  | [] => 0
  | d :: r => uptoBulk d + uptoBulkAll r
def uptoBulkEntries {H : Type} : List (Lit × DataW H) → Nat
  | [] => 0
  | x :: r => uptoBulkEntry x + uptoBulkEntries r
def uptoBulkEntry {H : Type} : Lit × DataW H → Nat
  | (.string bytes, d) => bytes.length + uptoBulk d + 1
  | (_, d) => uptoBulk d + 1
 end
def uptoSmall : (H : Type) → List (DataW H) → Bool := fun _ ds => decide (uptoBulkAll ds ≤ 1048576)
def OpenSpec.upto (s : _root_.Go.ChangeSpec) : _root_.Go.OpenSpec := { _root_.Go.OpenSpec.ofChange s with cond := some uptoSmall }

/-- 'laws.FnExactStepViews', WHERE WHAT IT READS IS OF BULK AT MOST 1048576: true; the input reads as it did. -/
def fnExactStepViewsUptoRow : OpenClaim := { program := "ytkhjkcefkampkaa", sum := "41444e52f3d6df2df66736fe7aa682f2d3389223ffc9b802611ed7cb5ee64c6f", func := "loop.example/g00982/laws.FnExactStepViews", spec := "fnExactStepViews", unfollowed := true, recurses := true, apart := false, narrowed := true }
def FnExactStepViewsUptoSaid : Prop := fnExactStepViewsUptoRow.holds Try.pinned (OpenSpec.upto fnExactStepViewsSpec)

/-- 'laws.FnExactLocalFluxes', WHERE WHAT IT READS IS OF BULK AT MOST 1048576: true; the input reads as it did. -/
def fnExactLocalFluxesUptoRow : OpenClaim := { program := "ytkhjkcefkampkaa", sum := "41444e52f3d6df2df66736fe7aa682f2d3389223ffc9b802611ed7cb5ee64c6f", func := "loop.example/g00982/laws.FnExactLocalFluxes", spec := "fnExactLocalFluxes", unfollowed := true, recurses := true, apart := false, narrowed := true }
def FnExactLocalFluxesUptoSaid : Prop := fnExactLocalFluxesUptoRow.holds Try.pinned (OpenSpec.upto fnExactLocalFluxesSpec)

/-- 'laws.FnMacro', WHERE WHAT IT READS IS OF BULK AT MOST 1048576: true; the input reads as it did. -/
def fnMacroUptoRow : OpenClaim := { program := "ytkhjkcefkampkaa", sum := "41444e52f3d6df2df66736fe7aa682f2d3389223ffc9b802611ed7cb5ee64c6f", func := "loop.example/g00982/laws.FnMacro", spec := "fnMacro", unfollowed := true, recurses := true, apart := false, narrowed := true }
def FnMacroUptoSaid : Prop := fnMacroUptoRow.holds Try.pinned (OpenSpec.upto fnMacroSpec)

/-- 'laws.FnRest', WHERE WHAT IT READS IS OF BULK AT MOST 1048576: true; the input reads as it did. -/
def fnRestUptoRow : OpenClaim := { program := "ytkhjkcefkampkaa", sum := "41444e52f3d6df2df66736fe7aa682f2d3389223ffc9b802611ed7cb5ee64c6f", func := "loop.example/g00982/laws.FnRest", spec := "fnRest", unfollowed := true, recurses := true, apart := false, narrowed := true }
def FnRestUptoSaid : Prop := fnRestUptoRow.holds Try.pinned (OpenSpec.upto fnRestSpec)

/-- 'laws.FnUndone', WHERE WHAT IT READS IS OF BULK AT MOST 1048576: true; the input reads as it did. -/
def fnUndoneUptoRow : OpenClaim := { program := "ytkhjkcefkampkaa", sum := "41444e52f3d6df2df66736fe7aa682f2d3389223ffc9b802611ed7cb5ee64c6f", func := "loop.example/g00982/laws.FnUndone", spec := "fnUndone", inPlace := ["slices.overlaps[loop.example/g00982/impl.Id]", "slices.overlaps[int]"], unfollowed := true, recurses := true, apart := false, narrowed := true }
def FnUndoneUptoSaid : Prop := fnUndoneUptoRow.holds Try.pinned (OpenSpec.upto fnUndoneSpec)

end Rows
end Go.Proofs.Ytkhjkcefkampkaa
