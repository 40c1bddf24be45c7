
/- Ranges and rounded divisions: what the program's and the reference's small functions over whole numbers answer. -/
import Derived.Test.YtcgikbidgknkpaaA1
set_option linter.unusedVariables false
set_option linter.unusedSimpArgs false
namespace Go.Proofs.Ytcgikbidgknkpaa.U
open Go.RowKit Go.Lib Go.Proofs.YtcgikbidgknkpaaW.PrintWords

/-- n lies in the range a to b -/
def inR (n a b : Int) : Bool := decide (a ≤ n) && decide (n ≤ b)
theorem inR_iff {n a b : Int} : inR n a b = true ↔ a ≤ n ∧ n ≤ b := by simp [inR]
theorem inR_yes {n a b : Int} (h : a ≤ n ∧ n ≤ b) : inR n a b = true := inR_iff.2 h
theorem inR_no {n a b : Int} (h : ¬ (a ≤ n ∧ n ≤ b)) : inR n a b = false := by rw [← Bool.not_eq_true, inR_iff]; exact h
theorem inR_false {n a b : Int} (h : inR n a b = false) : ¬ (a ≤ n ∧ n ≤ b) := by rw [← inR_iff, h]; simp
theorem within (n a b : Int) (w : World) : Calls Try.prog 69 #[.int .i64 n, .int .i64 a, .int .i64 b] w fun e w' => e = .returned (.bool (inR n a b)) ∧ w = w' := by
  by_cases h : a ≤ n
  · rw [show inR n a b = decide (n ≤ b) by simp [inR, h]]
    go_enter Try.func69, Try.ntmps69
    go_wp2
    go_ret
    exact ⟨rfl, rfl⟩
  · rw [show inR n a b = false by simp [inR, h]]
    go_enter Try.func69, Try.ntmps69
    go_wp2
    go_ret
    exact ⟨rfl, rfl⟩
theorem l01In (n a b : Int) (w : World) : Calls Try.prog 62 #[.int .i64 n, .int .i64 a, .int .i64 b] w fun e w' => e = .returned (.bool (inR n a b)) ∧ w = w' := by
  by_cases h : a ≤ n
  · rw [show inR n a b = decide (n ≤ b) by simp [inR, h]]
    go_enter Try.func62, Try.ntmps62
    go_wp2
    go_ret
    exact ⟨rfl, rfl⟩
  · rw [show inR n a b = false by simp [inR, h]]
    go_enter Try.func62, Try.ntmps62
    go_wp2
    go_ret
    exact ⟨rfl, rfl⟩
theorem add_pos (ad : Addr) (j : Nat) (h : 0 < j) : ad.add j = ⟨ad.block, ad.off + j, none⟩ := by
  have := add_field ad 0 j h
  rw [Nat.zero_add] at this
  rw [this]
  simp [Addr.add]
end Go.Proofs.Ytcgikbidgknkpaa.U
