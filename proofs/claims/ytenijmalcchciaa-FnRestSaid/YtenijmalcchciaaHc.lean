
/- slices.ContainsFunc at the closure of hasCells, in the print's words. -/
import Derived.Test.YtenijmalcchciaaCf
import Derived.Test.YtenijmalcchciaaWMore
set_option linter.unusedVariables false
set_option linter.unusedSimpArgs false
namespace Go.Proofs.Ytenijmalcchciaa.U
open Go.RowKit Go.Lib Go.Proofs.YtenijmalcchciaaW.PrintWords
theorem impl_isBed (x : Int) (w : World) : Calls Try.prog 93 #[.int .i64 x] w fun e w' => e = .returned (.bool (inR x 0 1000000)) ∧ w = w' := by
 go_enter Try.func93, Try.ntmps93
 go_wp2_with fail
 refine (within _ _ _ _).mono ?_
 rintro e w' ⟨rfl, rfl⟩
 go_wp2
 go_ret
 exact ⟨rfl, rfl⟩
theorem bed_pred (w : World) : PredI 130 #[] (fun x => !inR x 0 1000000) w := ⟨fun W x d => by
 go_enter Try.func130, Try.ntmps130
 go_wp2_with fail
 refine (impl_isBed _ _).mono ?_
 rintro e w' ⟨rfl, rfl⟩
 go_wp2
 go_ret
 exact ⟨rfl, Drawn0.refl _⟩⟩
end Go.Proofs.Ytenijmalcchciaa.U
