
/- Which weights are let in, by the program and by the reference. -/
import Derived.Test.YtaemkneppphkmaaCf
set_option linter.unusedVariables false
set_option linter.unusedSimpArgs false
namespace Go.Proofs.Ytaemkneppphkmaa.U
open Go.RowKit Go.Lib Go.Proofs.YtaemkneppphkmaaW.PrintWords

/-- at most 1000 weights, each in the range 0 to 1000000 -/
def wOk (l : List Int) : Bool := decide (l.length ≤ 1000) && l.all (fun x => inR x 0 1000000)
theorem wOk_iff {l : List Int} : wOk l = true ↔ l.length ≤ 1000 ∧ ∀ x ∈ l, 0 ≤ x ∧ x ≤ 1000000 := by simp [wOk, inR_iff]
theorem weights_pred (w : World) : PredI 62 #[] (fun x => !inR x 0 1000000) w := ⟨fun W x d => by
  go_enter Try.func62, Try.ntmps62
  go_wp2_with fail
  refine (within _ _ _ _).mono ?_
  rintro e w' ⟨rfl, rfl⟩
  go_wp2
  go_ret
  exact ⟨rfl, Drawn0.refl _⟩⟩
theorem impl_areWeights (A : Option Addr) (n c : Nat) (l : List Int) (w : World) (r : RI w A n l) :
    Calls Try.prog 33 #[.slice A n c] w fun e w' => e = .returned (.bool (wOk l)) ∧ Drawn0 w w' := by
  have hl := r.len
  have eg := enters_of Try.func62 (by kernel_rfl) rfl
  by_cases h : n ≤ 1000
  · have hw : wOk l = !(l.any fun x => !inR x 0 1000000) := by rw [not_any_not]; simp [wOk, hl, h]
    rw [hw]
    clear hw hl
    go_enter Try.func33, Try.ntmps33
    go_wp2_with fail
    refine (ContainsFunc A n c l _ _ _ _ r (weights_pred _) eg).mono ?_
    rintro e w' ⟨rfl, d⟩
    go_wp2
    go_ret
    exact ⟨rfl, d⟩
  · have hw : wOk l = false := by simp [wOk, hl, h]
    rw [hw]
    clear hw hl
    go_enter Try.func33, Try.ntmps33
    go_wp2
    go_ret
    exact ⟨rfl, Drawn0.refl _⟩
end Go.Proofs.Ytaemkneppphkmaa.U
