
/- The neighbours of an unknown: their sum and their number. -/
import Derived.Test.YtcdibjneoemidaaG1
import Derived.Deep.LoopGhost
set_option linter.unusedVariables false
set_option linter.unusedSimpArgs false
namespace Go.Proofs.Ytcdibjneoemidaa.U
open Go.RowKit Go.Lib Go.Proofs.YtcdibjneoemidaaW.PrintWords

/-- all elements lie in the range -B to B -/
structure Bd (l : List Int) (B : Int) : Prop where mk :: (out : ∀ j, j < l.length → -B ≤ rd l (j : Int) ∧ rd l (j : Int) ≤ B)
theorem Bd.of_mem {l : List Int} {B : Int} (h : ∀ x ∈ l, -B ≤ x ∧ x ≤ B) : Bd l B := ⟨fun j hj => by
  rw [rd_nat, List.getD_eq_getElem?_getD, List.getElem?_eq_getElem hj]
  exact h _ (List.getElem_mem hj)⟩
theorem Bd.mem {l : List Int} {B : Int} (h : Bd l B) : ∀ x ∈ l, -B ≤ x ∧ x ≤ B := fun x hx => by
  obtain ⟨j, hj, rfl⟩ := List.getElem_of_mem hx
  have := h.out j hj
  rwa [rd_nat, List.getD_eq_getElem?_getD, List.getElem?_eq_getElem hj] at this
def leftOf (u : List Int) (i : Nat) : Int := if 0 < i then rd u ((i - 1 : Nat) : Int) else 0
def rightOf (u : List Int) (n i : Nat) : Int := if i + 1 < n then rd u ((i + 1 : Nat) : Int) else 0
def nearCnt (n i : Nat) : Int := (if 0 < i then 1 else 0) + (if i + 1 < n then 1 else 0)
theorem nearCnt_range (n i : Nat) : 0 ≤ nearCnt n i ∧ nearCnt n i ≤ 2 := by unfold nearCnt; (repeat' split) <;> omega
end Go.Proofs.Ytcdibjneoemidaa.U
