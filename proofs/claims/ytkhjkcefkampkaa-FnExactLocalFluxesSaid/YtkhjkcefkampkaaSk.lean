
/- States: validity, by the program and by the reference. -/
import Derived.Test.YtkhjkcefkampkaaUb
import Derived.Test.YtkhjkcefkampkaaHc
import Derived.Test.YtkhjkcefkampkaaSm
set_option linter.unusedVariables false
set_option linter.unusedSimpArgs false
namespace Go.Proofs.Ytkhjkcefkampkaa.U
open Go.RowKit Go.Lib Go.Proofs.YtkhjkcefkampkaaW.PrintWords
def cellsOk (ms ts : List Int) : Nat → Nat → Bool
 | 0, _ => true
 | d + 1, j => (inR (rd ms (j : Int)) 0 10000000 && inR (rd ts (j : Int)) 0 (1000 * rd ms (j : Int))) && cellsOk ms ts d (j + 1)
def hasC (ro : Int) (n : Nat) (ms ts bd : List Int) : Bool :=
 decide (ms.length = n) && decide (ts.length = n) && decide ((bd.length : Int) = ro) && bd.all (inR · 0 1000000) && cellsOk ms ts n 0 && decide (ms.sum ≤ 10000000)
def staOk (ro : Int) (lv : List Ce) (ms ts bd : List Int) : Bool := isBal ro lv && hasC ro lv.length ms ts bd
theorem cellsOk_at (ms ts : List Int) : ∀ (d j : Nat), cellsOk ms ts d j = true → ∀ i, j ≤ i → i < j + d → (0 ≤ rd ms (i : Int) ∧ rd ms (i : Int) ≤ 10000000) ∧ (0 ≤ rd ts (i : Int) ∧ rd ts (i : Int) ≤ 1000 * rd ms (i : Int))
 | 0, j, _, i, h1, h2 => by omega
 | d + 1, j, h, i, h1, h2 => by
  simp only [cellsOk, Bool.and_eq_true, inR_iff] at h
  rcases Nat.eq_or_lt_of_le h1 with rfl | h3
  ·exact h.1
  ·exact cellsOk_at ms ts d (j + 1) h.2 i h3 (by omega)
theorem meshEnd_len : ∀ (l : List Ce) (a b : Int), meshEnd l a = some b → a + l.length ≤ b
 | [], a, b, h => by simp [meshEnd] at h; simp; omega
 | x :: xs, a, b, h => by
  rw [meshEnd] at h
  split at h
  ·rename_i hx
   have h1 := meshEnd_len xs _ _ h
   have h2 := ceOk_facts hx.1
   have h3 : 1 ≤ wid x.l := by
    unfold wid
    have := h2.2.1
    (repeat' split) <;> omega
   have h4 : ceEnd x = a + wid x.l := by rw [ceEnd, hx.2]
   rw [List.length_cons]
   push_cast
   omega
  ·cases h
theorem meshOk_len {ro : Int} {l : List Ce} (h : meshOk ro l = true) : l.length ≤ 128 ∧ (1 ≤ ro ∧ ro ≤ 8) ∧ 1 ≤ l.length := by
 unfold meshOk at h
 cases he : meshEnd l 0 with
 | none => rw [he] at h; cases h
 | some a =>
  rw [he, endIs, Bool.and_eq_true, inR_iff, decide_eq_true_iff] at h
  have := meshEnd_len l 0 a he
  refine ⟨by omega, h.1, ?_⟩
  rcases Nat.eq_zero_or_pos l.length with h0 | h0
  ·rw [List.length_eq_zero_iff.1 h0] at he
   simp [meshEnd] at he
   omega
  ·exact h0
end Go.Proofs.Ytkhjkcefkampkaa.U
