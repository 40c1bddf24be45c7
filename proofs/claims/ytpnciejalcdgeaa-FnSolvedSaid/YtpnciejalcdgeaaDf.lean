
/- Division rounded down, by the program and by the reference: Int's own division. -/
import Derived.Test.YtpnciejalcdgeaaA2
set_option linter.unusedVariables false
set_option linter.unusedSimpArgs false
namespace Go.Proofs.Ytpnciejalcdgeaa.U
open Go.RowKit Go.Lib Go.Proofs.YtpnciejalcdgeaaW.PrintWords

theorem tdiv_range (a b : Int) (h1 : -9223372036854775808 ≤ a) (h2 : a ≤ 9223372036854775807) (hb : 0 < b) : -9223372036854775808 ≤ Int.tdiv a b ∧ Int.tdiv a b ≤ 9223372036854775807 := by
  rcases Int.lt_or_le a 0 with h | h
  · have h3 := Int.tdiv_nonneg (a := -a) (b := b) (by omega) (by omega)
    have h4 : Int.tdiv (-a) b ≤ -a := Int.tdiv_le_self b (by omega)
    rw [Int.neg_tdiv] at h3 h4
    omega
  · have h3 := Int.tdiv_nonneg (a := a) (b := b) (by omega) (by omega)
    have h4 : Int.tdiv a b ≤ a := Int.tdiv_le_self b (by omega)
    omega
theorem fdiv_neg (a b : Int) (hb : 0 < b) (ha : a < 0) (hm : Int.tmod a b < 0) : a / b = Int.tdiv a b - 1 := by
  have h1 := Int.tmod_add_mul_tdiv a b
  have h2 : -b < Int.tmod a b := by
    have := Int.tmod_lt_of_pos (-a) hb
    rw [Int.neg_tmod] at this
    omega
  have h3 : a = b * (Int.tdiv a b - 1) + (Int.tmod a b + b) := by rw [Int.mul_sub]; omega
  generalize Int.tdiv a b = q at *
  generalize Int.tmod a b = m at *
  subst h3
  rw [Int.add_comm, Int.add_mul_ediv_left _ _ (by omega), Int.ediv_eq_zero_of_lt (by omega) (by omega)]
  omega
theorem fdiv_same (a b : Int) (hb : 0 < b) (hm : Int.tmod a b = 0) : a / b = Int.tdiv a b := by
  have h1 := Int.tmod_add_mul_tdiv a b
  rw [hm, Int.zero_add] at h1
  have h3 : a = b * Int.tdiv a b := h1.symm
  generalize Int.tdiv a b = q at h3
  subst h3
  exact Int.mul_ediv_cancel_left _ (by omega)
theorem fdiv_pos (a b : Int) (ha : 0 ≤ a) : a / b = Int.tdiv a b := (Int.tdiv_eq_ediv_of_nonneg ha).symm
theorem tmod_pos_nn (a b : Int) (ha : 0 ≤ a) : 0 ≤ Int.tmod a b := Int.tmod_nonneg b ha
theorem tmod_np (a b : Int) (ha : a < 0) : Int.tmod a b ≤ 0 := by
  have := Int.tmod_nonneg b (a := -a) (by omega)
  rw [Int.neg_tmod] at this
  omega
theorem dfl_low (a b : Int) (hb : 0 < b) (h1 : -9223372036854775808 ≤ a) (h2 : a ≤ 9223372036854775807) (hm : Int.tmod a b < 0) : wrap64 (Int.tdiv a b - 1) = a / b := by
  have ha : a < 0 := by
    rcases Int.lt_or_le a 0 with h | h
    · exact h
    · have := tmod_pos_nn a b h; omega
  have hb1 : b ≠ 1 := by
    intro e
    subst e
    simp at hm
  have h3 := fdiv_neg a b hb ha hm
  have h4 := tdiv_range a b h1 h2 hb
  have h5 : -9223372036854775808 ≤ a / b := Int.le_ediv_of_mul_le hb (by omega)
  rw [← h3, w64 h5 (by omega)]
theorem dfl_same (a b : Int) (hb : 0 < b) (hm : 0 ≤ Int.tmod a b) : Int.tdiv a b = a / b := by
  rcases Int.lt_or_le a 0 with h | h
  · have := tmod_np a b h
    exact (fdiv_same a b hb (by omega)).symm
  · exact (fdiv_pos a b h).symm
theorem impl_DivFloor (a b : Int) (w : World) (hb : 0 < b) (h1 : -9223372036854775808 ≤ a) (h2 : a ≤ 9223372036854775807) : Calls Try.prog 36 #[.int .i64 a, .int .i64 b] w fun e w' => e = .returned (.int .i64 (a / b)) ∧ w = w' := by
  go_enter Try.func36, Try.ntmps36
  go_wp2
  · have hm : Int.tmod a b < 0 := by assumption
    go_ret
    exact ⟨ret_int (dfl_low a b hb h1 h2 hm), rfl⟩
  · have hm : 0 ≤ Int.tmod a b := by assumption
    go_ret
    exact ⟨ret_int (dfl_same a b hb hm), rfl⟩
theorem spec_DivFloor (a b : Int) (w : World) (hb : 0 < b) (h1 : -9223372036854775808 ≤ a) (h2 : a ≤ 9223372036854775807) : Calls Try.prog 59 #[.int .i64 a, .int .i64 b] w fun e w' => e = .returned (.int .i64 (a / b)) ∧ w = w' := by
  go_enter Try.func59, Try.ntmps59
  go_wp2
  · have ha : a < 0 := by assumption
    have hm : (Int.tmod a b != 0) = true := by assumption
    have hm' : Int.tmod a b < 0 := by
      have h3 := tmod_np a b ha
      have h4 : Int.tmod a b ≠ 0 := by simpa using hm
      omega
    go_ret
    exact ⟨ret_int (dfl_low a b hb h1 h2 hm'), rfl⟩
  · have hm : (Int.tmod a b != 0) = false := by assumption
    have hm' : Int.tmod a b = 0 := by simpa using hm
    go_ret
    exact ⟨ret_int (dfl_same a b hb (by omega)), rfl⟩
  · have ha : 0 ≤ a := by assumption
    go_ret
    exact ⟨ret_int (dfl_same a b hb (tmod_pos_nn a b ha)), rfl⟩
end Go.Proofs.Ytpnciejalcdgeaa.U
