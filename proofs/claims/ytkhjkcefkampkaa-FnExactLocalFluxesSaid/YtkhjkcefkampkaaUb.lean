
/- The first leaf that is not balanced, by the program and by the reference. -/
import Derived.Test.YtkhjkcefkampkaaG2
set_option linter.unusedVariables false
set_option linter.unusedSimpArgs false
namespace Go.Proofs.Ytkhjkcefkampkaa.U
open Go.RowKit Go.Lib Go.Proofs.YtkhjkcefkampkaaW.PrintWords
attribute [local go_sem] go_max2 go_min2
end Go.Proofs.Ytkhjkcefkampkaa.U
