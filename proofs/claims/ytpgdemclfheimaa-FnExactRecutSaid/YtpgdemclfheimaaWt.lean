
/- Which weights are let in, by the program and by the reference. -/
import Derived.Test.YtpgdemclfheimaaCf
set_option linter.unusedVariables false
set_option linter.unusedSimpArgs false
namespace Go.Proofs.Ytpgdemclfheimaa.U
open Go.RowKit Go.Lib Go.Proofs.YtpgdemclfheimaaW.PrintWords

/-- at most 1000 weights, each in the range 0 to 1000000 -/
def wOk (l : List Int) : Bool := decide (l.length ≤ 1000) && l.all (fun x => inR x 0 1000000)
theorem wOk_iff {l : List Int} : wOk l = true ↔ l.length ≤ 1000 ∧ ∀ x ∈ l, 0 ≤ x ∧ x ≤ 1000000 := by simp [wOk, inR_iff]
theorem weights_pred (w : World) : PredI 99 #[] (fun x => !inR x 0 1000000) w := ⟨fun W x d => by
  go_enter Try.func99, Try.ntmps99
  go_wp2_with fail
  refine (within _ _ _ _).mono ?_
  rintro e w' ⟨rfl, rfl⟩
  go_wp2
  go_ret
  exact ⟨rfl, Drawn0.refl _⟩⟩
theorem impl_areWeights (A : Option Addr) (n c : Nat) (l : List Int) (w : World) (r : RI w A n l) :
    Calls Try.prog 78 #[.slice A n c] w fun e w' => e = .returned (.bool (wOk l)) ∧ Drawn0 w w' := by
  have hl := r.len
  have eg := enters_of Try.func99 (by kernel_rfl) rfl
  by_cases h : n ≤ 1000
  · have hw : wOk l = !(l.any fun x => !inR x 0 1000000) := by rw [not_any_not]; simp [wOk, hl, h]
    rw [hw]
    clear hw hl
    go_enter Try.func78, Try.ntmps78
    go_wp2_with fail
    refine (ContainsFunc A n c l _ _ _ _ r (weights_pred _) eg).mono ?_
    rintro e w' ⟨rfl, d⟩
    go_wp2
    go_ret
    exact ⟨rfl, d⟩
  · have hw : wOk l = false := by simp [wOk, hl, h]
    rw [hw]
    clear hw hl
    go_enter Try.func78, Try.ntmps78
    go_wp2
    go_ret
    exact ⟨rfl, Drawn0.refl _⟩
set_option maxHeartbeats 1000000 in
theorem l22Weights (A : Option Addr) (n c : Nat) (l : List Int) (w : World) (r : RI w A n l) :
    Calls Try.prog 73 #[.slice A n c] w fun e w' => e = .returned (.bool (wOk l)) ∧ Drawn0 w w' := by
  have hm := r.max
  have hl := hid r.len
  go_enter Try.func73, Try.ntmps73
  go_wp2
  go_loop [3] (fun i => ∃ k : Nat, k ≤ n ∧ i = .int .i64 k ∧ Hid (∀ j, j < k → inR (rd l (j : Int)) 0 1000000 = true)) (fun i => n - (intOf i).toNat)
  case atStart => exact ⟨0, by omega, rfl, hid (fun j hj => by omega)⟩
  case round =>
    obtain ⟨k, hk, rfl, hE⟩ := hrel
    by_cases hlt : k < n
    · obtain ⟨ad, rfl, hc⟩ := r.nat k hlt
      cases hb : inR (rd l (k : Int)) 0 1000000 with
      | true =>
        have HB := hid hb; clear hb
        go_wp2_with (go_at_call 62; refine (l01In _ _ _ _).mono ?_; rintro e w' ⟨rfl, rfl⟩; rw [HB.out])
        go_round
        case rel => exact ⟨k + 1, by omega, by go_num, hid (fun j hj => by
          by_cases e : j = k
          · rw [e]; exact HB.out
          · exact hE.out j (by omega))⟩
        case measure => simp [intOf]; omega
      | false =>
        have HB := hid hb; clear hb
        go_wp2_with (go_at_call 62; refine (l01In _ _ _ _).mono ?_; rintro e w' ⟨rfl, rfl⟩; rw [HB.out])
        go_ret
        refine ⟨ret_bool ?_, Drawn0.refl _⟩
        rw [wOk, not_all_at l _ k (by rw [hl.out]; omega) HB.out]
        simp
    · obtain rfl : k = n := by omega
      go_wp2
      go_ret
      refine ⟨ret_bool ?_, Drawn0.refl _⟩
      rw [wOk, all_at l _ k hl.out hE.out, hl.out, Bool.and_true]
      exact decide_eq_decide.2 (by omega)
end Go.Proofs.Ytpgdemclfheimaa.U
