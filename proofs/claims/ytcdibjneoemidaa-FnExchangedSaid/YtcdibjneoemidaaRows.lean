/-
  No cell of these rows narrows 'for every input' (looked for: loops, veiled, ifaces, maps, wideKeys, modest, calm, conditions, laid).
  DERIVED. THE GIVEN ROWS OF THIS SEAT. 4 by the template 'for every input the law returns true; each argument reads behind the call as it read before'; 0 by the template 'total and deterministic' (their statements: YtcdibjneoemidaaTotals.lean).
  GIVEN WITH THE SEED: the statements are not yours to turn. If you find one false, say at which input.
  Laid BY PROGRAM, IN A SANDBOX (cutbox-rows.mjs): the forced cells as the released guide's own fill.sh prints them over the translation 9deacd7de3009f49… (all of the seat's roots in one cut). By AI agents, Wed Nov 11 2026. No macro, syntax, notation, axiom, sorry.
-/
import Derived.Test.YtcdibjneoemidaaChecked
import GoSem.Claim
import GoSem.ClaimJoined
import GoSem.ClaimMapViews
import Derived.JoinedTies
import Derived.KernelRfl
namespace Go.Proofs.Ytcdibjneoemidaa
/- THE CELL 'sum', in the pinned program and in every row, IS THE sha256 OF THE DUMP (.gsa) THAT YtcdibjneoemidaaProg.lean LOADS. Nothing in Lean hashes anything: it is a label: what it is worth is what the hold of that sum in a sandbox is worth. -/
noncomputable def Try.pinned : Pinned := { name := "ytcdibjneoemidaa", sum := "9deacd7de3009f49ee249e06c4ea839d1845a9afb4ef3974f1851c04e430a73d", checked := Try.checked }
namespace Rows
def none {H : Type} : Left H := { results := [], args := [] }

/-- 'laws.FnExactDeliver': WHATEVER THE INPUT: true; the input reads as it did. -/
def fnExactDeliverSpec : ChangeSpec := { name := "fnExactDeliver", fn := fun _ => fun
  | [d1, d2] => { results := [.lit (.bool true)], args := [d1, d2] }
  | _ => none }
def fnExactDeliverRow : OpenClaim := { program := "ytcdibjneoemidaa", sum := "9deacd7de3009f49ee249e06c4ea839d1845a9afb4ef3974f1851c04e430a73d", func := "loop.example/g00982/laws.FnExactDeliver", spec := "fnExactDeliver", inPlace := ["slices.overlaps[loop.example/g00982/impl.Packet]"], unfollowed := true, recurses := true, apart := false }
def FnExactDeliverSaid : Prop := fnExactDeliverRow.holds Try.pinned (OpenSpec.ofChange fnExactDeliverSpec)

/-- ITS FALSE NEIGHBOUR: 'it returns false'. Refute it at one input. -/
def fnExactDeliverWrong : ChangeSpec := { name := "fnExactDeliver", fn := fun _ => fun
  | [d1, d2] => { results := [.lit (.bool false)], args := [d1, d2] }
  | _ => none }
def FnExactDeliverWrongFalsely : Prop := fnExactDeliverRow.holds Try.pinned (OpenSpec.ofChange fnExactDeliverWrong)

/-- 'laws.FnDelivered': WHATEVER THE INPUT: true; the input reads as it did. -/
def fnDeliveredSpec : ChangeSpec := { name := "fnDelivered", fn := fun _ => fun
  | [d] => { results := [.lit (.bool true)], args := [d] }
  | _ => none }
def fnDeliveredRow : OpenClaim := { program := "ytcdibjneoemidaa", sum := "9deacd7de3009f49ee249e06c4ea839d1845a9afb4ef3974f1851c04e430a73d", func := "loop.example/g00982/laws.FnDelivered", spec := "fnDelivered", inPlace := ["slices.overlaps[loop.example/g00982/impl.Packet]"], unfollowed := true, recurses := true, apart := false }
def FnDeliveredSaid : Prop := fnDeliveredRow.holds Try.pinned (OpenSpec.ofChange fnDeliveredSpec)

/-- ITS FALSE NEIGHBOUR: 'it returns false'. Refute it at one input. -/
def fnDeliveredWrong : ChangeSpec := { name := "fnDelivered", fn := fun _ => fun
  | [d] => { results := [.lit (.bool false)], args := [d] }
  | _ => none }
def FnDeliveredWrongFalsely : Prop := fnDeliveredRow.holds Try.pinned (OpenSpec.ofChange fnDeliveredWrong)

/-- 'laws.FnExchanged': WHATEVER THE INPUT: true; the input reads as it did. -/
def fnExchangedSpec : ChangeSpec := { name := "fnExchanged", fn := fun _ => fun
  | [d] => { results := [.lit (.bool true)], args := [d] }
  | _ => none }
def fnExchangedRow : OpenClaim := { program := "ytcdibjneoemidaa", sum := "9deacd7de3009f49ee249e06c4ea839d1845a9afb4ef3974f1851c04e430a73d", func := "loop.example/g00982/laws.FnExchanged", spec := "fnExchanged", inPlace := ["slices.overlaps[loop.example/g00982/impl.Packet]"], unfollowed := true, recurses := true, apart := false }
def FnExchangedSaid : Prop := fnExchangedRow.holds Try.pinned (OpenSpec.ofChange fnExchangedSpec)

/-- ITS FALSE NEIGHBOUR: 'it returns false'. Refute it at one input. -/
def fnExchangedWrong : ChangeSpec := { name := "fnExchanged", fn := fun _ => fun
  | [d] => { results := [.lit (.bool false)], args := [d] }
  | _ => none }
def FnExchangedWrongFalsely : Prop := fnExchangedRow.holds Try.pinned (OpenSpec.ofChange fnExchangedWrong)

/-- 'laws.FnExactExchange': WHATEVER THE INPUT: true; the input reads as it did. -/
def fnExactExchangeSpec : ChangeSpec := { name := "fnExactExchange", fn := fun _ => fun
  | [d1, d2] => { results := [.lit (.bool true)], args := [d1, d2] }
  | _ => none }
def fnExactExchangeRow : OpenClaim := { program := "ytcdibjneoemidaa", sum := "9deacd7de3009f49ee249e06c4ea839d1845a9afb4ef3974f1851c04e430a73d", func := "loop.example/g00982/laws.FnExactExchange", spec := "fnExactExchange", inPlace := ["slices.overlaps[loop.example/g00982/impl.Packet]"], unfollowed := true, recurses := true, apart := false }
def FnExactExchangeSaid : Prop := fnExactExchangeRow.holds Try.pinned (OpenSpec.ofChange fnExactExchangeSpec)

/-- ITS FALSE NEIGHBOUR: 'it returns false'. Refute it at one input. -/
def fnExactExchangeWrong : ChangeSpec := { name := "fnExactExchange", fn := fun _ => fun
  | [d1, d2] => { results := [.lit (.bool false)], args := [d1, d2] }
  | _ => none }
def FnExactExchangeWrongFalsely : Prop := fnExactExchangeRow.holds Try.pinned (OpenSpec.ofChange fnExactExchangeWrong)

/- THE SECOND FORM. 'bulk': how many values and letters a reading holds, each counted each time it is reached (what is shared counts as often as it is met; a slice's spare places count too). A statement '..UptoSaid' is the law's where the arguments, and the package variables that the reading takes, are together of bulk at most 1048576: NARROWER than '..Said'. Prove '..Said' where nothing that the law and all that it calls make is longer than what came in: it says more and counts as full. Else prove '..UptoSaid'. A law counts once. -/
mutual
def uptoBulk {H : Type} : DataW H → Nat
  | .lit (.string bytes) => bytes.length + 1
  | .lit _ => 1
  | .nil => 1
  | .ptr d => uptoBulk d + 1
  | .slice elems spare => uptoBulkAll elems + uptoBulkAll spare + 1
  | .agg parts => uptoBulkAll parts + 1
  | .iface _ d => uptoBulk d + 1
  | .map entries => uptoBulkEntries entries + 1
  | .held _ => 1
def uptoBulkAll {H : Type} : List (DataW H) → Nat
  | [] => 0
  | d :: r => uptoBulk d + uptoBulkAll r
def uptoBulkEntries {H : Type} : List (Lit × DataW H) → Nat
  | [] => 0
  | x :: r => uptoBulkEntry x + uptoBulkEntries r
def uptoBulkEntry {H : Type} : Lit × DataW H → Nat
  | (.string bytes, d) => bytes.length + uptoBulk d + 1
  | (_, d) => uptoBulk d + 1
 end
def uptoSmall : (H : Type) → List (DataW H) → Bool := fun _ ds => decide (uptoBulkAll ds ≤ 1048576)
def OpenSpec.upto (s : _root_.Go.ChangeSpec) : _root_.Go.OpenSpec := { _root_.Go.OpenSpec.ofChange s with cond := some uptoSmall }

/-- 'laws.FnExactDeliver', WHERE WHAT IT READS IS OF BULK AT MOST 1048576: true; the input reads as it did. -/
def fnExactDeliverUptoRow : OpenClaim := { program := "ytcdibjneoemidaa", sum := "9deacd7de3009f49ee249e06c4ea839d1845a9afb4ef3974f1851c04e430a73d", func := "loop.example/g00982/laws.FnExactDeliver", spec := "fnExactDeliver", inPlace := ["slices.overlaps[loop.example/g00982/impl.Packet]"], unfollowed := true, recurses := true, apart := false, narrowed := true }
def FnExactDeliverUptoSaid : Prop := fnExactDeliverUptoRow.holds Try.pinned (OpenSpec.upto fnExactDeliverSpec)

/-- 'laws.FnDelivered', WHERE WHAT IT READS IS OF BULK AT MOST 1048576: true; the input reads as it did. -/
def fnDeliveredUptoRow : OpenClaim := { program := "ytcdibjneoemidaa", sum := "9deacd7de3009f49ee249e06c4ea839d1845a9afb4ef3974f1851c04e430a73d", func := "loop.example/g00982/laws.FnDelivered", spec := "fnDelivered", inPlace := ["slices.overlaps[loop.example/g00982/impl.Packet]"], unfollowed := true, recurses := true, apart := false, narrowed := true }
def FnDeliveredUptoSaid : Prop := fnDeliveredUptoRow.holds Try.pinned (OpenSpec.upto fnDeliveredSpec)

/-- 'laws.FnExchanged', WHERE WHAT IT READS IS OF BULK AT MOST 1048576: true; the input reads as it did. -/
def fnExchangedUptoRow : OpenClaim := { program := "ytcdibjneoemidaa", sum := "9deacd7de3009f49ee249e06c4ea839d1845a9afb4ef3974f1851c04e430a73d", func := "loop.example/g00982/laws.FnExchanged", spec := "fnExchanged", inPlace := ["slices.overlaps[loop.example/g00982/impl.Packet]"], unfollowed := true, recurses := true, apart := false, narrowed := true }
def FnExchangedUptoSaid : Prop := fnExchangedUptoRow.holds Try.pinned (OpenSpec.upto fnExchangedSpec)

/-- 'laws.FnExactExchange', WHERE WHAT IT READS IS OF BULK AT MOST 1048576: true; the input reads as it did. -/
def fnExactExchangeUptoRow : OpenClaim := { program := "ytcdibjneoemidaa", sum := "9deacd7de3009f49ee249e06c4ea839d1845a9afb4ef3974f1851c04e430a73d", func := "loop.example/g00982/laws.FnExactExchange", spec := "fnExactExchange", inPlace := ["slices.overlaps[loop.example/g00982/impl.Packet]"], unfollowed := true, recurses := true, apart := false, narrowed := true }
def FnExactExchangeUptoSaid : Prop := fnExactExchangeUptoRow.holds Try.pinned (OpenSpec.upto fnExactExchangeSpec)

end Rows
end Go.Proofs.Ytcdibjneoemidaa
