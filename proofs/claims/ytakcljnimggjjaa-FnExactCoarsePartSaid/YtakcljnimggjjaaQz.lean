/- Quantize of a valid number, by the program and by the reference. -/
import Derived.Test.YtakcljnimggjjaaDn
set_option linter.unusedVariables false
set_option linter.unusedSimpArgs false
namespace Go.Proofs.Ytakcljnimggjjaa.U
open Go.RowKit Go.Lib Go.Proofs.YtakcljnimggjjaaW.PrintWords

theorem qIsQuantum (q : Int) (w : World) : Calls Try.prog 71 #[.int .i64 q] w fun e w' => e = .returned (.bool (inR q 1 1000000)) ∧ w = w' := by
  go_enter Try.func71, Try.ntmps71
  go_wp2_with (go_at_call 78; refine (within _ _ _ _).mono ?_; rintro e w' ⟨rfl, rfl⟩)
  go_ret
  exact ⟨rfl, rfl⟩
theorem qIsMass (q : Int) (w : World) : Calls Try.prog 72 #[.int .i64 q] w fun e w' => e = .returned (.bool (inR q 0 10000000)) ∧ w = w' := by
  go_enter Try.func72, Try.ntmps72
  go_wp2_with (go_at_call 78; refine (within _ _ _ _).mono ?_; rintro e w' ⟨rfl, rfl⟩)
  go_ret
  exact ⟨rfl, rfl⟩
theorem qz_range (x q : Int) (hx : 0 ≤ x ∧ x ≤ 10000000) (hq : 1 ≤ q) : 0 ≤ divNear x q ∧ divNear x q ≤ 10000000 := by
  unfold divNear
  refine ⟨Int.ediv_nonneg (by omega) (by omega), Int.lt_add_one_iff.1 (Int.ediv_lt_of_lt_mul (by omega) (by omega))⟩
theorem impl_Quantize (x q : Int) (w : World) (hx : inR x 0 10000000 = true) (hq : inR q 1 1000000 = true) :
    Calls Try.prog 36 #[.int .i64 x, .int .i64 q] w fun e w' => e = .returned (.int .i64 (divNear x q)) ∧ w = w' := by
  have h1 := inR_iff.1 hx
  have h2 := inR_iff.1 hq
  have H := hid (And.intro h1 h2)
  have HX := hid hx
  have HQ := hid hq
  clear h1 h2 hx hq
  go_enter Try.func36, Try.ntmps36
  go_wp2_with fail
  refine (toBool (qIsQuantum _ _) HQ.out).mono ?_
  rintro e w' ⟨rfl, rfl⟩
  go_wp2_with fail
  refine (toBool (qIsMass _ _) HX.out).mono ?_
  rintro e w' ⟨rfl, rfl⟩
  go_wp2_with fail
  refine (impl_DivNear _ _ _ (by have := H.out; omega) (by have := H.out; omega) (by have := H.out; omega) (by have := H.out; omega)).mono ?_
  rintro e w' ⟨rfl, rfl⟩
  go_wp2
  go_ret
  exact ⟨rfl, rfl⟩
theorem spec_Quantize (x q : Int) (w : World) (hx : inR x 0 10000000 = true) (hq : inR q 1 1000000 = true) :
    Calls Try.prog 70 #[.int .i64 x, .int .i64 q] w fun e w' => e = .returned (.int .i64 (divNear x q)) ∧ w = w' := by
  have h1 := inR_iff.1 hx
  have h2 := inR_iff.1 hq
  have H := hid (And.intro h1 h2)
  have HX := hid hx
  have HQ := hid hq
  clear h1 h2 hx hq
  go_enter Try.func70, Try.ntmps70
  go_wp2_with fail
  refine (toBool (l01In _ _ _ _) HQ.out).mono ?_
  rintro e w' ⟨rfl, rfl⟩
  go_wp2_with fail
  refine (toBool (l01In _ _ _ _) HX.out).mono ?_
  rintro e w' ⟨rfl, rfl⟩
  go_wp2_with fail
  refine (spec_DivNear _ _ _ (by have := H.out; omega) (by have := H.out; omega) (by have := H.out; omega) (by have := H.out; omega)).mono ?_
  rintro e w' ⟨rfl, rfl⟩
  go_wp2
  go_ret
  exact ⟨rfl, rfl⟩
end Go.Proofs.Ytakcljnimggjjaa.U
