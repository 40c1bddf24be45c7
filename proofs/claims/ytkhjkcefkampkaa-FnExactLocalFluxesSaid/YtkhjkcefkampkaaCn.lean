
/- A copy of a list of ints, as slices.Clone makes it. -/
import Derived.Test.YtkhjkcefkampkaaAp
import Derived.WalkSpells
set_option linter.unusedVariables false
set_option linter.unusedSimpArgs false
namespace Go.Proofs.Ytkhjkcefkampkaa.U
open Go.RowKit Go.Lib Go.Proofs.YtkhjkcefkampkaaW.PrintWords
theorem eql_nil (w : World) (a : Option Addr) (n c : Nat) : (binOp .eql 31 (.slice a n c) (.slice none 0 0)).run Try.prog w = .ok (.bool a.isNone) w := by
 exact Go.Lib.run_eql_slice_nil (h := Try.underlying31) ..
attribute [local go_sem] eql_nil
end Go.Proofs.Ytkhjkcefkampkaa.U
