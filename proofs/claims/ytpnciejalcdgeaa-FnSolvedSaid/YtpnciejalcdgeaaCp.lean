
/- ConstantPart of the program and of the reference: the sum by the length, rounded down. -/
import Derived.Test.YtpnciejalcdgeaaSy
import Derived.Test.YtpnciejalcdgeaaSm
import Derived.Test.YtpnciejalcdgeaaDf
set_option linter.unusedVariables false
set_option linter.unusedSimpArgs false
namespace Go.Proofs.Ytpnciejalcdgeaa.U
open Go.RowKit Go.Lib Go.Proofs.YtpnciejalcdgeaaW.PrintWords

def constPart (f : List Int) : Int := if unkOk f 1000000000 = true then f.sum / f.length else 0
theorem unk_sum (f : List Int) (h : unkOk f 1000000000 = true) : SumOk f ∧ (1 ≤ f.length ∧ f.length ≤ 64) ∧ -64000000000 ≤ f.sum ∧ f.sum ≤ 64000000000 := by
  have h1 := unkOk_iff.1 h
  have h2 := sum_bound f (-1000000000) 1000000000 h1.2
  exact ⟨sumOk_of f 1000000000 (by omega) h1.2 (by omega), h1.1, by omega, by omega⟩
theorem sysOk_self (f : List Int) : sysOk f f 0 = unkOk f 1000000000 := by
  simp [sysOk, inR]
set_option maxHeartbeats 1000000 in
theorem impl_ConstantPart (A : Option Addr) (n c : Nat) (f : List Int) (w : World) (r : RI w A n f) :
    Calls Try.prog 16 #[.slice A n c] w fun e w' => e = .returned (.int .i64 (constPart f)) ∧ Bw w w' := by
  have hl := r.len
  cases hu : unkOk f 1000000000 with
  | false =>
    rw [show constPart f = 0 by simp [constPart, hu]]
    have HU := hid hu; clear hu hl
    go_enter Try.func16, Try.ntmps16
    go_wp2_with fail
    refine (impl_areUnknowns A n c f _ _ r (by omega) (by omega)).mono ?_
    rintro e w1 ⟨rfl, b⟩
    rw [HU.out]
    go_wp2
    go_ret
    exact ⟨rfl, b⟩
  | true =>
    rw [show constPart f = f.sum / n by simp [constPart, hu, hl]]
    obtain ⟨s1, s2, s3, s4⟩ := unk_sum f hu
    rw [hl] at s2
    have HU := hid hu; clear hu hl
    obtain ⟨s5, s6⟩ := s2
    go_enter Try.func16, Try.ntmps16
    go_wp2_with fail
    refine (impl_areUnknowns A n c f _ _ r (by omega) (by omega)).mono ?_
    rintro e w1 ⟨rfl, b⟩
    rw [HU.out]
    go_wp2_with fail
    refine (impl_sum A n c f _ (r.to b) s1).mono ?_
    rintro e w2 ⟨rfl, rfl⟩
    go_wp2_with fail
    refine (impl_DivFloor _ _ _ (by omega) (by omega) (by omega)).mono ?_
    rintro e w3 ⟨rfl, rfl⟩
    go_wp2
    go_ret
    exact ⟨rfl, b⟩
set_option maxHeartbeats 1000000 in
theorem spec_ConstantPart (A : Option Addr) (n c : Nat) (f : List Int) (w : World) (r : RI w A n f) :
    Calls Try.prog 44 #[.slice A n c] w fun e w' => e = .returned (.int .i64 (constPart f)) ∧ Drawn0 w w' := by
  have hl := r.len
  have hs := sysOk_self f
  cases hu : unkOk f 1000000000 with
  | false =>
    rw [show constPart f = 0 by simp [constPart, hu]]
    rw [hu] at hs
    have HS := hid hs; clear hu hl hs
    go_enter Try.func44, Try.ntmps44
    go_wp2_with fail
    refine (spec_SystemOk A n c f A n c f 0 _ r r).mono ?_
    rintro e w1 ⟨rfl, b⟩
    rw [HS.out]
    go_wp2
    go_ret
    exact ⟨rfl, b⟩
  | true =>
    rw [show constPart f = f.sum / n by simp [constPart, hu, hl]]
    obtain ⟨s1, s2, s3, s4⟩ := unk_sum f hu
    rw [hl] at s2
    rw [hu] at hs
    have HS := hid hs; clear hu hl hs
    obtain ⟨s5, s6⟩ := s2
    go_enter Try.func44, Try.ntmps44
    go_wp2_with fail
    refine (spec_SystemOk A n c f A n c f 0 _ r r).mono ?_
    rintro e w1 ⟨rfl, b⟩
    rw [HS.out]
    go_wp2_with fail
    refine (l07Sum A n c f _ (r.dr b) s1).mono ?_
    rintro e w2 ⟨rfl, rfl⟩
    go_wp2_with fail
    refine (spec_DivFloor _ _ _ (by omega) (by omega) (by omega)).mono ?_
    rintro e w3 ⟨rfl, rfl⟩
    go_wp2
    go_ret
    exact ⟨rfl, b⟩
end Go.Proofs.Ytpnciejalcdgeaa.U
