
/- The sum of a list of ints, by the program and by the reference. -/
import Derived.Test.YtkhjkcefkampkaaG1
set_option linter.unusedVariables false
set_option linter.unusedSimpArgs false
namespace Go.Proofs.Ytkhjkcefkampkaa.U
open Go.RowKit Go.Lib Go.Proofs.YtkhjkcefkampkaaW.PrintWords
theorem sum_snoc (l : List Int) (k : Nat) (hk : k < l.length) : (l.take (k + 1)).sum = (l.take k).sum + rd l (k : Int) := by
 rw [List.take_succ_eq_append_getElem hk, List.sum_append, rd_nat, List.getD_eq_getElem?_getD, List.getElem?_eq_getElem hk]
 simp
end Go.Proofs.Ytkhjkcefkampkaa.U
