/- Quantize of the program and of the reference answer the same at every two whole numbers. -/
import Derived.Test.YtbjdohceapijjaaPFnExactQuantizex1
set_option linter.unusedVariables false
namespace Go.Proofs.Ytbjdohceapijjaa.Pure
open Go.RowKit Go.Proofs.Ytbjdohceapijjaa.PFnExactQuantize Go.Proofs.YtbjdohceapijjaaW.PrintWords Go.Proofs.YtbjdohceapijjaaW.PrintLast Go.Proofs.YtbjdohceapijjaaW.PrintMore

theorem w64 {x : Int} (h1 : -9223372036854775808 ≤ x) (h2 : x ≤ 9223372036854775807) : wrap64 x = x := by unfold wrap64; omega

theorem divFloor_same (a b : Int) (hb : 0 < b) (h1 : -9000000000000000000 ≤ a) (h2 : a ≤ 9000000000000000000) : impl_DivFloor.f a b = spec_DivFloor.f a b := by
  have hd : -9000000000000000000 ≤ Int.tdiv a b ∧ Int.tdiv a b ≤ 9000000000000000000 := by
    have h := Int.natAbs_tdiv_le_natAbs a b
    omega
  unfold impl_DivFloor.f spec_DivFloor.f
  simp only [show ¬ (b ≤ 0) by omega, show ¬ (b = 0) by omega, if_false]
  by_cases h : a < 0
  · simp only [h, if_true]
    have hm : Int.tmod a b ≤ 0 := by
      have := Int.tmod_nonneg b (a := -a) (by omega)
      rw [Int.neg_tmod] at this
      omega
    by_cases hz : Int.tmod a b = 0
    · simp [hz]
    · simp only [hz, show Int.tmod a b < 0 by omega, if_true, if_false]
  · have := Int.tmod_nonneg b (a := a) (by omega)
    simp only [h, show ¬ Int.tmod a b < 0 by omega, if_false]
theorem divNear_same (a b : Int) : impl_DivNear.f a b = spec_DivNear.f a b := by
  unfold impl_DivNear.f spec_DivNear.f impl_within.f spec_l01In.f
  by_cases h1 : b ≥ 1
  · rw [if_pos h1]
    simp only [Option.bind_some, decide_eq_true_eq]
    by_cases h2 : b ≤ 2147483647
    · rw [if_pos h2, if_pos h2]
      by_cases h3 : a ≥ -1000000000000000
      · rw [if_pos h3]
        simp only [Option.bind_some, decide_eq_true_eq]
        by_cases h4 : a ≤ 1000000000000000
        · rw [if_pos h4, if_pos h4, w64 (x := 2 * a) (by omega) (by omega), w64 (by omega) (by omega), w64 (by omega) (by omega), divFloor_same _ _ (by omega) (by omega) (by omega)]
        · rw [if_neg h4, if_neg h4]
      · rw [if_neg h3]; simp
    · rw [if_neg h2, if_neg h2]
  · rw [if_neg h1]; simp
theorem divNear_some (a b : Int) : ∃ r, spec_DivNear.f a b = some r := by
  unfold spec_DivNear.f spec_l01In.f spec_DivFloor.f
  by_cases h1 : b ≥ 1
  · rw [if_pos h1]
    simp only [Option.bind_some, decide_eq_true_eq]
    by_cases h2 : b ≤ 2147483647
    · rw [if_pos h2]
      by_cases h3 : a ≥ -1000000000000000
      · rw [if_pos h3]
        simp only [Option.bind_some, decide_eq_true_eq]
        by_cases h4 : a ≤ 1000000000000000
        · rw [if_pos h4, w64 (x := 2 * a) (by omega) (by omega), w64 (x := 2 * a + b) (by omega) (by omega), w64 (x := 2 * b) (by omega) (by omega), if_neg (by omega), if_neg (by omega)]
          (repeat' split) <;> exact ⟨_, rfl⟩
        · rw [if_neg h4]; exact ⟨_, rfl⟩
      · rw [if_neg h3]; exact ⟨0, by simp⟩
    · rw [if_neg h2]; exact ⟨_, rfl⟩
  · rw [if_neg h1]; exact ⟨0, by simp⟩
theorem FnExactQuantize : laws_FnExactQuantize.Pure := by
  intro a b _ _
  have key : impl_Quantize.f a b = spec_Quantize.f a b := by
    unfold impl_Quantize.f spec_Quantize.f impl_isQuantum.f impl_isMass.f impl_within.f spec_l01In.f
    rw [divNear_same]
    simp
  obtain ⟨r, hr⟩ : ∃ r, spec_Quantize.f a b = some r := by
    unfold spec_Quantize.f spec_l01In.f
    obtain ⟨r, hr⟩ := divNear_some a b
    rw [hr]
    by_cases h1 : b ≥ 1
    · rw [if_pos h1]; simp only [Option.bind_some, decide_eq_true_eq]
      by_cases h2 : b ≤ 1000000
      · rw [if_pos h2]
        by_cases h3 : a ≥ 0
        · rw [if_pos h3]; simp only [Option.bind_some, decide_eq_true_eq]
          split <;> exact ⟨_, rfl⟩
        · rw [if_neg h3]; exact ⟨0, by simp⟩
      · rw [if_neg h2]; exact ⟨_, rfl⟩
    · rw [if_neg h1]; exact ⟨0, by simp⟩
  unfold laws_FnExactQuantize.f
  rw [key, hr]
  simp

end Go.Proofs.Ytbjdohceapijjaa.Pure
