/-
  No cell of these rows narrows 'for every input' (looked for: loops, veiled, ifaces, maps, wideKeys, modest, calm, conditions, laid).
  DERIVED. THE GIVEN ROWS OF THIS SEAT. 5 by the template 'for every input the law returns true; each argument reads behind the call as it read before'; 0 by the template 'total and deterministic' (their statements: YthggcdjdikifaaaTotals.lean).
  GIVEN WITH THE SEED: the statements are not yours to turn. If you find one false, say at which input.
  Laid BY PROGRAM, IN A SANDBOX (cutbox-rows.mjs): the forced cells as the released guide's own fill.sh prints them over the translation 85e6b6fa67ea2981… (all of the seat's roots in one cut). By AI agents, Wed Nov 11 2026. No macro, syntax, notation, axiom, sorry.
-/
import Derived.Test.YthggcdjdikifaaaChecked
import GoSem.Claim
import GoSem.ClaimJoined
import GoSem.ClaimMapViews
import Derived.JoinedTies
import Derived.KernelRfl
namespace Go.Proofs.Ythggcdjdikifaaa
/- THE CELL 'sum', in the pinned program and in every row, IS THE sha256 OF THE DUMP (.gsa) THAT YthggcdjdikifaaaProg.lean LOADS. Nothing in Lean hashes anything: it is a label: what it is worth is what the hold of that sum in a sandbox is worth. -/
noncomputable def Try.pinned : Pinned := { name := "ythggcdjdikifaaa", sum := "85e6b6fa67ea2981c5e05ec9d15226eb98a2a696f54bd8b8a31acd2f75e029b8", checked := Try.checked }
namespace Rows
def none {H : Type} : Left H := { results := [], args := [] }

/-- 'laws.FnExactTotalWithin': WHATEVER THE INPUT: true; the input reads as it did. -/
def fnExactTotalWithinSpec : ChangeSpec := { name := "fnExactTotalWithin", fn := fun _ => fun
  | [d] => { results := [.lit (.bool true)], args := [d] }
  | _ => none }
def fnExactTotalWithinRow : OpenClaim := { program := "ythggcdjdikifaaa", sum := "85e6b6fa67ea2981c5e05ec9d15226eb98a2a696f54bd8b8a31acd2f75e029b8", func := "loop.example/g00982/laws.FnExactTotalWithin", spec := "fnExactTotalWithin", apart := false }
def FnExactTotalWithinSaid : Prop := fnExactTotalWithinRow.holds Try.pinned (OpenSpec.ofChange fnExactTotalWithinSpec)

/-- ITS FALSE NEIGHBOUR: 'it returns false'. Refute it at one input. -/
def fnExactTotalWithinWrong : ChangeSpec := { name := "fnExactTotalWithin", fn := fun _ => fun
  | [d] => { results := [.lit (.bool false)], args := [d] }
  | _ => none }
def FnExactTotalWithinWrongFalsely : Prop := fnExactTotalWithinRow.holds Try.pinned (OpenSpec.ofChange fnExactTotalWithinWrong)

/-- 'laws.FnExactReadFrame': WHATEVER THE INPUT: true; the input reads as it did. -/
def fnExactReadFrameSpec : ChangeSpec := { name := "fnExactReadFrame", fn := fun _ => fun
  | [d] => { results := [.lit (.bool true)], args := [d] }
  | _ => none }
def fnExactReadFrameRow : OpenClaim := { program := "ythggcdjdikifaaa", sum := "85e6b6fa67ea2981c5e05ec9d15226eb98a2a696f54bd8b8a31acd2f75e029b8", func := "loop.example/g00982/laws.FnExactReadFrame", spec := "fnExactReadFrame", apart := false }
def FnExactReadFrameSaid : Prop := fnExactReadFrameRow.holds Try.pinned (OpenSpec.ofChange fnExactReadFrameSpec)

/-- ITS FALSE NEIGHBOUR: 'it returns false'. Refute it at one input. -/
def fnExactReadFrameWrong : ChangeSpec := { name := "fnExactReadFrame", fn := fun _ => fun
  | [d] => { results := [.lit (.bool false)], args := [d] }
  | _ => none }
def FnExactReadFrameWrongFalsely : Prop := fnExactReadFrameRow.holds Try.pinned (OpenSpec.ofChange fnExactReadFrameWrong)

/-- 'laws.FnExactLocalFluxes': WHATEVER THE INPUT: true; the input reads as it did. -/
def fnExactLocalFluxesSpec : ChangeSpec := { name := "fnExactLocalFluxes", fn := fun _ => fun
  | [d1, d2] => { results := [.lit (.bool true)], args := [d1, d2] }
  | _ => none }
def fnExactLocalFluxesRow : OpenClaim := { program := "ythggcdjdikifaaa", sum := "85e6b6fa67ea2981c5e05ec9d15226eb98a2a696f54bd8b8a31acd2f75e029b8", func := "loop.example/g00982/laws.FnExactLocalFluxes", spec := "fnExactLocalFluxes", unfollowed := true, recurses := true, apart := false }
def FnExactLocalFluxesSaid : Prop := fnExactLocalFluxesRow.holds Try.pinned (OpenSpec.ofChange fnExactLocalFluxesSpec)

/-- ITS FALSE NEIGHBOUR: 'it returns false'. Refute it at one input. -/
def fnExactLocalFluxesWrong : ChangeSpec := { name := "fnExactLocalFluxes", fn := fun _ => fun
  | [d1, d2] => { results := [.lit (.bool false)], args := [d1, d2] }
  | _ => none }
def FnExactLocalFluxesWrongFalsely : Prop := fnExactLocalFluxesRow.holds Try.pinned (OpenSpec.ofChange fnExactLocalFluxesWrong)

/-- 'laws.FnExactDigestOf': WHATEVER THE INPUT: true; the input reads as it did. -/
def fnExactDigestOfSpec : ChangeSpec := { name := "fnExactDigestOf", fn := fun _ => fun
  | [d] => { results := [.lit (.bool true)], args := [d] }
  | _ => none }
def fnExactDigestOfRow : OpenClaim := { program := "ythggcdjdikifaaa", sum := "85e6b6fa67ea2981c5e05ec9d15226eb98a2a696f54bd8b8a31acd2f75e029b8", func := "loop.example/g00982/laws.FnExactDigestOf", spec := "fnExactDigestOf", unfollowed := true, recurses := true, apart := false }
def FnExactDigestOfSaid : Prop := fnExactDigestOfRow.holds Try.pinned (OpenSpec.ofChange fnExactDigestOfSpec)

/-- ITS FALSE NEIGHBOUR: 'it returns false'. Refute it at one input. -/
def fnExactDigestOfWrong : ChangeSpec := { name := "fnExactDigestOf", fn := fun _ => fun
  | [d] => { results := [.lit (.bool false)], args := [d] }
  | _ => none }
def FnExactDigestOfWrongFalsely : Prop := fnExactDigestOfRow.holds Try.pinned (OpenSpec.ofChange fnExactDigestOfWrong)

/-- 'laws.FnDigests': WHATEVER THE INPUT: true; the input reads as it did. -/
def fnDigestsSpec : ChangeSpec := { name := "fnDigests", fn := fun _ => fun
  | [d] => { results := [.lit (.bool true)], args := [d] }
  | _ => none }
def fnDigestsRow : OpenClaim := { program := "ythggcdjdikifaaa", sum := "85e6b6fa67ea2981c5e05ec9d15226eb98a2a696f54bd8b8a31acd2f75e029b8", func := "loop.example/g00982/laws.FnDigests", spec := "fnDigests", unfollowed := true, recurses := true, apart := false }
def FnDigestsSaid : Prop := fnDigestsRow.holds Try.pinned (OpenSpec.ofChange fnDigestsSpec)

/-- ITS FALSE NEIGHBOUR: 'it returns false'. Refute it at one input. -/
def fnDigestsWrong : ChangeSpec := { name := "fnDigests", fn := fun _ => fun
  | [d] => { results := [.lit (.bool false)], args := [d] }
  | _ => none }
def FnDigestsWrongFalsely : Prop := fnDigestsRow.holds Try.pinned (OpenSpec.ofChange fnDigestsWrong)

/- THE SECOND FORM. 'bulk': how many values and letters a reading holds, each counted each time it is reached (what is shared counts as often as it is met; a slice's spare places count too). A statement '..UptoSaid' is the law's where the arguments, and the package variables that the reading takes, are together of bulk at most 1048576: NARROWER than '..Said'. Prove '..Said' where nothing that the law and all that it calls make is longer than what came in: it says more and counts as full. Else prove '..UptoSaid'. A law counts once. -/
mutual
def uptoBulk {H : Type} : DataW H → Nat
  | .lit (.string bytes) => bytes.length + 1
  | .lit _ => 1
  | .nil => 1
  | .ptr d => uptoBulk d + 1
  | .slice elems spare => uptoBulkAll elems + uptoBulkAll spare + 1
  | .agg parts => uptoBulkAll parts + 1
  | .iface _ d => uptoBulk d + 1
  | .map entries => uptoBulkEntries entries + 1
  | .held _ => 1
def uptoBulkAll {H : Type} : List (DataW H) → Nat
  | [] => 0
  | d :: r => uptoBulk d + uptoBulkAll r
def uptoBulkEntries {H : Type} : List (Lit × DataW H) → Nat
  | [] => 0
  | x :: r => uptoBulkEntry x + uptoBulkEntries r
def uptoBulkEntry {H : Type} : Lit × DataW H → Nat
  | (.string bytes, d) => bytes.length + uptoBulk d + 1
  | (_, d) => uptoBulk d + 1
 end
def uptoSmall : (H : Type) → List (DataW H) → Bool := fun _ ds => decide (uptoBulkAll ds ≤ 1048576)
def OpenSpec.upto (s : _root_.Go.ChangeSpec) : _root_.Go.OpenSpec := { _root_.Go.OpenSpec.ofChange s with cond := some uptoSmall }

/-- 'laws.FnExactTotalWithin', WHERE WHAT IT READS IS OF BULK AT MOST 1048576: true; the input reads as it did. -/
def fnExactTotalWithinUptoRow : OpenClaim := { program := "ythggcdjdikifaaa", sum := "85e6b6fa67ea2981c5e05ec9d15226eb98a2a696f54bd8b8a31acd2f75e029b8", func := "loop.example/g00982/laws.FnExactTotalWithin", spec := "fnExactTotalWithin", apart := false, narrowed := true }
def FnExactTotalWithinUptoSaid : Prop := fnExactTotalWithinUptoRow.holds Try.pinned (OpenSpec.upto fnExactTotalWithinSpec)

/-- 'laws.FnExactReadFrame', WHERE WHAT IT READS IS OF BULK AT MOST 1048576: true; the input reads as it did. -/
def fnExactReadFrameUptoRow : OpenClaim := { program := "ythggcdjdikifaaa", sum := "85e6b6fa67ea2981c5e05ec9d15226eb98a2a696f54bd8b8a31acd2f75e029b8", func := "loop.example/g00982/laws.FnExactReadFrame", spec := "fnExactReadFrame", apart := false, narrowed := true }
def FnExactReadFrameUptoSaid : Prop := fnExactReadFrameUptoRow.holds Try.pinned (OpenSpec.upto fnExactReadFrameSpec)

/-- 'laws.FnExactLocalFluxes', WHERE WHAT IT READS IS OF BULK AT MOST 1048576: true; the input reads as it did. -/
def fnExactLocalFluxesUptoRow : OpenClaim := { program := "ythggcdjdikifaaa", sum := "85e6b6fa67ea2981c5e05ec9d15226eb98a2a696f54bd8b8a31acd2f75e029b8", func := "loop.example/g00982/laws.FnExactLocalFluxes", spec := "fnExactLocalFluxes", unfollowed := true, recurses := true, apart := false, narrowed := true }
def FnExactLocalFluxesUptoSaid : Prop := fnExactLocalFluxesUptoRow.holds Try.pinned (OpenSpec.upto fnExactLocalFluxesSpec)

/-- 'laws.FnExactDigestOf', WHERE WHAT IT READS IS OF BULK AT MOST 1048576: true; the input reads as it did. -/
def fnExactDigestOfUptoRow : OpenClaim := { program := "ythggcdjdikifaaa", sum := "85e6b6fa67ea2981c5e05ec9d15226eb98a2a696f54bd8b8a31acd2f75e029b8", func := "loop.example/g00982/laws.FnExactDigestOf", spec := "fnExactDigestOf", unfollowed := true, recurses := true, apart := false, narrowed := true }
def FnExactDigestOfUptoSaid : Prop := fnExactDigestOfUptoRow.holds Try.pinned (OpenSpec.upto fnExactDigestOfSpec)

/-- 'laws.FnDigests', WHERE WHAT IT READS IS OF BULK AT MOST 1048576: true; the input reads as it did. -/
def fnDigestsUptoRow : OpenClaim := { program := "ythggcdjdikifaaa", sum := "85e6b6fa67ea2981c5e05ec9d15226eb98a2a696f54bd8b8a31acd2f75e029b8", func := "loop.example/g00982/laws.FnDigests", spec := "fnDigests", unfollowed := true, recurses := true, apart := false, narrowed := true }
def FnDigestsUptoSaid : Prop := fnDigestsUptoRow.holds Try.pinned (OpenSpec.upto fnDigestsSpec)

end Rows
end Go.Proofs.Ythggcdjdikifaaa
