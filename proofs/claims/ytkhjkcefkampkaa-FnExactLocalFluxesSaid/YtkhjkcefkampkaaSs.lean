
/- States: validity, by the reference. -/
import Derived.Test.YtkhjkcefkampkaaSk
set_option linter.unusedVariables false
set_option linter.unusedSimpArgs false
namespace Go.Proofs.Ytkhjkcefkampkaa.U
open Go.RowKit Go.Lib Go.Proofs.YtkhjkcefkampkaaW.PrintWords
end Go.Proofs.Ytkhjkcefkampkaa.U
