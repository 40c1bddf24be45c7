/-
  No cell of these rows narrows 'for every input' (looked for: loops, veiled, ifaces, maps, wideKeys, modest, calm, conditions, laid).
  DERIVED. THE GIVEN ROWS OF THIS SEAT. 3 by the template 'for every input the law returns true; each argument reads behind the call as it read before'; 0 by the template 'total and deterministic' (their statements: YtaidbdogolhnjaaTotals.lean).
  GIVEN WITH THE SEED: the statements are not yours to turn. If you find one false, say at which input.
  Laid BY PROGRAM, IN A SANDBOX (cutbox-rows.mjs): the forced cells as the released guide's own fill.sh prints them over the translation 03c403cac213331d… (all of the seat's roots in one cut). By AI agents, Wed Nov 11 2026. No macro, syntax, notation, axiom, sorry.
-/
import Derived.Test.YtaidbdogolhnjaaChecked
import GoSem.Claim
import GoSem.ClaimJoined
import GoSem.ClaimMapViews
import Derived.JoinedTies
import Derived.KernelRfl
namespace Go.Proofs.Ytaidbdogolhnjaa
/- THE CELL 'sum', in the pinned program and in every row, IS THE sha256 OF THE DUMP (.gsa) THAT YtaidbdogolhnjaaProg.lean LOADS. Nothing in Lean hashes anything: it is a label: what it is worth is what the hold of that sum in a sandbox is worth. -/
noncomputable def Try.pinned : Pinned := { name := "ytaidbdogolhnjaa", sum := "03c403cac213331d6a1f90551ab8c2b1a08fb0a048b988c064cb3ed634dca212", checked := Try.checked }
namespace Rows
def none {H : Type} : Left H := { results := [], args := [] }

/-- 'laws.FnUndone': WHATEVER THE INPUT: true; the input reads as it did. -/
def fnUndoneSpec : ChangeSpec := { name := "fnUndone", fn := fun _ => fun
  | [d] => { results := [.lit (.bool true)], args := [d] }
  | _ => none }
def fnUndoneRow : OpenClaim := { program := "ytaidbdogolhnjaa", sum := "03c403cac213331d6a1f90551ab8c2b1a08fb0a048b988c064cb3ed634dca212", func := "loop.example/g00982/laws.FnUndone", spec := "fnUndone", inPlace := ["slices.overlaps[loop.example/g00982/impl.Id]", "slices.overlaps[int]"], unfollowed := true, recurses := true, plainKeys := false, apart := false }
def FnUndoneSaid : Prop := fnUndoneRow.holds Try.pinned (OpenSpec.ofChange fnUndoneSpec)

/-- ITS FALSE NEIGHBOUR: 'it returns false'. Refute it at one input. -/
def fnUndoneWrong : ChangeSpec := { name := "fnUndone", fn := fun _ => fun
  | [d] => { results := [.lit (.bool false)], args := [d] }
  | _ => none }
def FnUndoneWrongFalsely : Prop := fnUndoneRow.holds Try.pinned (OpenSpec.ofChange fnUndoneWrong)

/-- 'laws.FnAdapted': WHATEVER THE INPUT: true; the input reads as it did. -/
def fnAdaptedSpec : ChangeSpec := { name := "fnAdapted", fn := fun _ => fun
  | [d] => { results := [.lit (.bool true)], args := [d] }
  | _ => none }
def fnAdaptedRow : OpenClaim := { program := "ytaidbdogolhnjaa", sum := "03c403cac213331d6a1f90551ab8c2b1a08fb0a048b988c064cb3ed634dca212", func := "loop.example/g00982/laws.FnAdapted", spec := "fnAdapted", inPlace := ["slices.overlaps[loop.example/g00982/impl.Id]", "slices.overlaps[int]"], unfollowed := true, recurses := true, plainKeys := false, apart := false }
def FnAdaptedSaid : Prop := fnAdaptedRow.holds Try.pinned (OpenSpec.ofChange fnAdaptedSpec)

/-- ITS FALSE NEIGHBOUR: 'it returns false'. Refute it at one input. -/
def fnAdaptedWrong : ChangeSpec := { name := "fnAdapted", fn := fun _ => fun
  | [d] => { results := [.lit (.bool false)], args := [d] }
  | _ => none }
def FnAdaptedWrongFalsely : Prop := fnAdaptedRow.holds Try.pinned (OpenSpec.ofChange fnAdaptedWrong)

/-- 'laws.FnRemapped': WHATEVER THE INPUT: true; the input reads as it did. -/
def fnRemappedSpec : ChangeSpec := { name := "fnRemapped", fn := fun _ => fun
  | [d] => { results := [.lit (.bool true)], args := [d] }
  | _ => none }
def fnRemappedRow : OpenClaim := { program := "ytaidbdogolhnjaa", sum := "03c403cac213331d6a1f90551ab8c2b1a08fb0a048b988c064cb3ed634dca212", func := "loop.example/g00982/laws.FnRemapped", spec := "fnRemapped", inPlace := ["slices.overlaps[loop.example/g00982/impl.Id]", "slices.overlaps[int]"], unfollowed := true, recurses := true, plainKeys := false, apart := false }
def FnRemappedSaid : Prop := fnRemappedRow.holds Try.pinned (OpenSpec.ofChange fnRemappedSpec)

/-- ITS FALSE NEIGHBOUR: 'it returns false'. Refute it at one input. -/
def fnRemappedWrong : ChangeSpec := { name := "fnRemapped", fn := fun _ => fun
  | [d] => { results := [.lit (.bool false)], args := [d] }
  | _ => none }
def FnRemappedWrongFalsely : Prop := fnRemappedRow.holds Try.pinned (OpenSpec.ofChange fnRemappedWrong)

/- THE SECOND FORM. 'bulk': how many values and letters a reading holds, each counted each time it is reached (what is shared counts as often as it is met; a slice's spare places count too). A statement '..UptoSaid' is the law's where the arguments, and the package variables that the reading takes, are together of bulk at most 1048576: NARROWER than '..Said'. Prove '..Said' where nothing that the law and all that it calls make is longer than what came in: it says more and counts as full. Else prove '..UptoSaid'. A law counts once. -/
mutual
def uptoBulk {H : Type} : DataW H → Nat
  | .lit (.string bytes) => bytes.length + 1
  | .lit _ => 1
  | .nil => 1
  | .ptr d => uptoBulk d + 1
  | .slice elems spare => uptoBulkAll elems + uptoBulkAll spare + 1
  | .agg parts => uptoBulkAll parts + 1
  | .iface _ d => uptoBulk d + 1
  | .map entries => uptoBulkEntries entries + 1
  | .held _ => 1
def uptoBulkAll {H : Type} : List (DataW H) → Nat
  | [] => 0
  | d :: r => uptoBulk d + uptoBulkAll r
def uptoBulkEntries {H : Type} : List (Lit × DataW H) → Nat
  | [] => 0
  | x :: r => uptoBulkEntry x + uptoBulkEntries r
def uptoBulkEntry {H : Type} : Lit × DataW H → Nat
  | (.string bytes, d) => bytes.length + uptoBulk d + 1
  | (_, d) => uptoBulk d + 1
 end
def uptoSmall : (H : Type) → List (DataW H) → Bool := fun _ ds => decide (uptoBulkAll ds ≤ 1048576)
def OpenSpec.upto (s : _root_.Go.ChangeSpec) : _root_.Go.OpenSpec := { _root_.Go.OpenSpec.ofChange s with cond := some uptoSmall }

/-- 'laws.FnUndone', WHERE WHAT IT READS IS OF BULK AT MOST 1048576: true; the input reads as it did. -/
def fnUndoneUptoRow : OpenClaim := { program := "ytaidbdogolhnjaa", sum := "03c403cac213331d6a1f90551ab8c2b1a08fb0a048b988c064cb3ed634dca212", func := "loop.example/g00982/laws.FnUndone", spec := "fnUndone", inPlace := ["slices.overlaps[loop.example/g00982/impl.Id]", "slices.overlaps[int]"], unfollowed := true, recurses := true, plainKeys := false, apart := false, narrowed := true }
def FnUndoneUptoSaid : Prop := fnUndoneUptoRow.holds Try.pinned (OpenSpec.upto fnUndoneSpec)

/-- 'laws.FnAdapted', WHERE WHAT IT READS IS OF BULK AT MOST 1048576: true; the input reads as it did. -/
def fnAdaptedUptoRow : OpenClaim := { program := "ytaidbdogolhnjaa", sum := "03c403cac213331d6a1f90551ab8c2b1a08fb0a048b988c064cb3ed634dca212", func := "loop.example/g00982/laws.FnAdapted", spec := "fnAdapted", inPlace := ["slices.overlaps[loop.example/g00982/impl.Id]", "slices.overlaps[int]"], unfollowed := true, recurses := true, plainKeys := false, apart := false, narrowed := true }
def FnAdaptedUptoSaid : Prop := fnAdaptedUptoRow.holds Try.pinned (OpenSpec.upto fnAdaptedSpec)

/-- 'laws.FnRemapped', WHERE WHAT IT READS IS OF BULK AT MOST 1048576: true; the input reads as it did. -/
def fnRemappedUptoRow : OpenClaim := { program := "ytaidbdogolhnjaa", sum := "03c403cac213331d6a1f90551ab8c2b1a08fb0a048b988c064cb3ed634dca212", func := "loop.example/g00982/laws.FnRemapped", spec := "fnRemapped", inPlace := ["slices.overlaps[loop.example/g00982/impl.Id]", "slices.overlaps[int]"], unfollowed := true, recurses := true, plainKeys := false, apart := false, narrowed := true }
def FnRemappedUptoSaid : Prop := fnRemappedUptoRow.holds Try.pinned (OpenSpec.upto fnRemappedSpec)

end Rows
end Go.Proofs.Ytaidbdogolhnjaa
