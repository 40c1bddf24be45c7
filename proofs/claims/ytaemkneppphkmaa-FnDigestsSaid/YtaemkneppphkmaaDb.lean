
/- Numbers drawn from a cursor. -/
import Derived.Test.YtaemkneppphkmaaDr
set_option linter.unusedVariables false
set_option linter.unusedSimpArgs false
namespace Go.Proofs.Ytaemkneppphkmaa.U
open Go.RowKit Go.Lib Go.Proofs.YtaemkneppphkmaaW.PrintWords

set_option maxHeartbeats 2000000 in
theorem l01Below (w0 : World) (g : Nat) (n : Int) (w : World) (h : Cur w0 w g) :
    Calls Try.prog 38 #[.pointer (some ⟨g, 0, none⟩), .int .i64 n] w fun e w' => (∃ x : Int, e = .returned (.int .i64 x) ∧ 0 ≤ x ∧ (0 < n → x < n)) ∧ Cur w0 w' g ∧ w.grownBy w' (some g) := by
  by_cases h0 : n ≤ 0
  · go_enter Try.func38, Try.ntmps38
    go_wp2
    go_ret
    exact ⟨⟨_, rfl, by omega, by omega⟩, h, grown_refl _ _⟩
  by_cases h1 : n ≤ 256
  · have t1 : decide (n ≤ 0) = false := decide_eq_false h0
    have t2 : decide (n ≤ 256) = true := decide_eq_true h1
    go_enter Try.func38, Try.ntmps38
    go_wp2_with fail
    refine (l01Byte w0 g _ h).mono ?_
    rintro e w1 ⟨⟨x, rfl, x1, x2⟩, hC, hG⟩
    go_wp2
    go_ret
    exact ⟨⟨_, rfl, Int.emod_nonneg _ (by omega), fun hp => Int.emod_lt_of_pos _ hp⟩, hC, hG⟩
  · have t1 : decide (n ≤ 0) = false := decide_eq_false h0
    have t2 : decide (n ≤ 256) = false := decide_eq_false h1
    go_enter Try.func38, Try.ntmps38
    go_wp2_with fail
    refine (l01Byte w0 g _ h).mono ?_
    rintro e w1 ⟨⟨x, rfl, x1, x2⟩, hC, hG⟩
    go_wp2_with fail
    refine (l01Byte w0 g _ hC).mono ?_
    rintro e w2 ⟨⟨y, rfl, y1, y2⟩, hC2, hG2⟩
    go_wp2_with fail
    refine (l01Byte w0 g _ hC2).mono ?_
    rintro e w3 ⟨⟨z, rfl, z1, z2⟩, hC3, hG3⟩
    go_wp2_with fail
    refine (l01Byte w0 g _ hC3).mono ?_
    rintro e w4 ⟨⟨u, rfl, u1, u2⟩, hC4, hG4⟩
    go_wp2
    go_ret
    refine ⟨⟨_, rfl, Int.emod_nonneg _ (by omega), fun hp => Int.emod_lt_of_pos _ hp⟩, hC4, ?_⟩
    exact ((hG.trans hG2).trans hG3).trans hG4
end Go.Proofs.Ytaemkneppphkmaa.U
