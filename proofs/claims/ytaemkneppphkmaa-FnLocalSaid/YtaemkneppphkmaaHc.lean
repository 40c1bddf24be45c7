
/- slices.ContainsFunc at the closure of hasCells, in the print's words. -/
import Derived.Test.YtaemkneppphkmaaCf
import Derived.Test.YtaemkneppphkmaaWMore
set_option linter.unusedVariables false
set_option linter.unusedSimpArgs false
namespace Go.Proofs.Ytaemkneppphkmaa.U
open Go.RowKit Go.Lib Go.Proofs.YtaemkneppphkmaaW.PrintWords
theorem impl_isBed (x : Int) (w : World) : Calls Try.prog 75 #[.int .i64 x] w fun e w' => e = .returned (.bool (inR x 0 1000000)) ∧ w = w' := by
 go_enter Try.func75, Try.ntmps75
 go_wp2_with fail
 refine (within _ _ _ _).mono ?_
 rintro e w' ⟨rfl, rfl⟩
 go_wp2
 go_ret
 exact ⟨rfl, rfl⟩
theorem bed_pred (w : World) : PredI 95 #[] (fun x => !inR x 0 1000000) w := ⟨fun W x d => by
 go_enter Try.func95, Try.ntmps95
 go_wp2_with fail
 refine (impl_isBed _ _).mono ?_
 rintro e w' ⟨rfl, rfl⟩
 go_wp2
 go_ret
 exact ⟨rfl, Drawn0.refl _⟩⟩
end Go.Proofs.Ytaemkneppphkmaa.U
