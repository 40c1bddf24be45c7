
/- slices.ContainsFunc at the closure of hasCells, in the print's words. -/
import Derived.Test.YtkhjkcefkampkaaCf
import Derived.Test.YtkhjkcefkampkaaWMore
set_option linter.unusedVariables false
set_option linter.unusedSimpArgs false
namespace Go.Proofs.Ytkhjkcefkampkaa.U
open Go.RowKit Go.Lib Go.Proofs.YtkhjkcefkampkaaW.PrintWords
theorem impl_isBed (x : Int) (w : World) : Calls Try.prog 93 #[.int .i64 x] w fun e w' => e = .returned (.bool (inR x 0 1000000)) ∧ w = w' := by
 go_enter Try.func93, Try.ntmps93
 go_wp2_with fail
 refine (within _ _ _ _).mono ?_
 rintro e w' ⟨rfl, rfl⟩
 go_wp2
 go_ret
 exact ⟨rfl, rfl⟩
end Go.Proofs.Ytkhjkcefkampkaa.U
