
/- Division to the nearest, by the program and by the reference. -/
import Derived.Test.YtpnciejalcdgeaaAp
import Derived.Test.YtpnciejalcdgeaaDf
set_option linter.unusedVariables false
set_option linter.unusedSimpArgs false
namespace Go.Proofs.Ytpnciejalcdgeaa.U
open Go.RowKit Go.Lib Go.Proofs.YtpnciejalcdgeaaW.PrintWords

/-- a over b, rounded to the nearest -/
def divNear (a b : Int) : Int := (2 * a + b) / (2 * b)
theorem divNear_near (a b : Int) (hb : 1 ≤ b) : -b ≤ 2 * (a - b * divNear a b) ∧ 2 * (a - b * divNear a b) ≤ b := by
  unfold divNear
  have h1 := Int.mul_ediv_add_emod (2 * a + b) (2 * b)
  have h2 := Int.emod_nonneg (2 * a + b) (b := 2 * b) (by omega)
  have h3 := Int.emod_lt_of_pos (2 * a + b) (b := 2 * b) (by omega)
  generalize (2 * a + b) / (2 * b) = q at *
  generalize (2 * a + b) % (2 * b) = r at *
  rw [Int.mul_assoc] at h1
  generalize b * q = p at *
  omega

theorem impl_DivNear (a b : Int) (w : World) (hb1 : 1 ≤ b) (hb2 : b ≤ 2147483647) (h1 : -1000000000000000 ≤ a) (h2 : a ≤ 1000000000000000) :
    Calls Try.prog 63 #[.int .i64 a, .int .i64 b] w fun e w' => e = .returned (.int .i64 (divNear a b)) ∧ w = w' := by
  have e1 : inR b 1 2147483647 = true := inR_yes ⟨hb1, hb2⟩
  have e2 : inR a (-1000000000000000) 1000000000000000 = true := inR_yes ⟨h1, h2⟩
  have E1 := hid e1
  have E2 := hid e2
  have i1 : IntKind.i64.wrap (2 * a) = 2 * a := i64w (by omega) (by omega)
  have i2 : IntKind.i64.wrap (2 * a + b) = 2 * a + b := i64w (by omega) (by omega)
  have i3 : IntKind.i64.wrap (2 * b) = 2 * b := i64w (by omega) (by omega)
  have j1 : wrap64 (2 * a) = 2 * a := w64 (by omega) (by omega)
  have j2 : wrap64 (2 * a + b) = 2 * a + b := w64 (by omega) (by omega)
  have j3 : wrap64 (2 * b) = 2 * b := w64 (by omega) (by omega)
  have d0 : 0 < 2 * b := by omega
  have d1 : -9223372036854775808 ≤ 2 * a + b := by omega
  have d2 : 2 * a + b ≤ 9223372036854775807 := by omega
  have HD := hid (And.intro d0 (And.intro d1 d2))
  have HR : Hid (divNear a b = (2 * a + b) / (2 * b)) := hid rfl
  generalize divNear a b = R at *
  clear e1 e2 d0 d1 d2
  go_enter Try.func63, Try.ntmps63
  go_wp2_with fail
  refine (toBool (within _ _ _ _) E1.out).mono ?_
  rintro e w' ⟨rfl, rfl⟩
  go_wp2_with fail
  refine (toBool (within _ _ _ _) E2.out).mono ?_
  rintro e w' ⟨rfl, rfl⟩
  go_wp2_with fail
  refine (impl_DivFloor _ _ _ HD.out.1 HD.out.2.1 HD.out.2.2).mono ?_
  rintro e w' ⟨rfl, rfl⟩
  go_wp2
  go_ret
  exact ⟨ret_int HR.out.symm, rfl⟩

theorem spec_DivNear (a b : Int) (w : World) (hb1 : 1 ≤ b) (hb2 : b ≤ 2147483647) (h1 : -1000000000000000 ≤ a) (h2 : a ≤ 1000000000000000) :
    Calls Try.prog 58 #[.int .i64 a, .int .i64 b] w fun e w' => e = .returned (.int .i64 (divNear a b)) ∧ w = w' := by
  have e1 : inR b 1 2147483647 = true := inR_yes ⟨hb1, hb2⟩
  have e2 : inR a (-1000000000000000) 1000000000000000 = true := inR_yes ⟨h1, h2⟩
  have E1 := hid e1
  have E2 := hid e2
  have i1 : IntKind.i64.wrap (2 * a) = 2 * a := i64w (by omega) (by omega)
  have i2 : IntKind.i64.wrap (2 * a + b) = 2 * a + b := i64w (by omega) (by omega)
  have i3 : IntKind.i64.wrap (2 * b) = 2 * b := i64w (by omega) (by omega)
  have j1 : wrap64 (2 * a) = 2 * a := w64 (by omega) (by omega)
  have j2 : wrap64 (2 * a + b) = 2 * a + b := w64 (by omega) (by omega)
  have j3 : wrap64 (2 * b) = 2 * b := w64 (by omega) (by omega)
  have d0 : 0 < 2 * b := by omega
  have d1 : -9223372036854775808 ≤ 2 * a + b := by omega
  have d2 : 2 * a + b ≤ 9223372036854775807 := by omega
  have HD := hid (And.intro d0 (And.intro d1 d2))
  have HR : Hid (divNear a b = (2 * a + b) / (2 * b)) := hid rfl
  generalize divNear a b = R at *
  clear e1 e2 d0 d1 d2
  go_enter Try.func58, Try.ntmps58
  go_wp2_with fail
  refine (toBool (l01In _ _ _ _) E1.out).mono ?_
  rintro e w' ⟨rfl, rfl⟩
  go_wp2_with fail
  refine (toBool (l01In _ _ _ _) E2.out).mono ?_
  rintro e w' ⟨rfl, rfl⟩
  go_wp2_with fail
  refine (spec_DivFloor _ _ _ HD.out.1 HD.out.2.1 HD.out.2.2).mono ?_
  rintro e w' ⟨rfl, rfl⟩
  go_wp2
  go_ret
  exact ⟨ret_int HR.out.symm, rfl⟩
end Go.Proofs.Ytpnciejalcdgeaa.U
