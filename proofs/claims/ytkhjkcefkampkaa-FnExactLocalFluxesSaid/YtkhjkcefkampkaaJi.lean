
/- JoinViews, by the program. -/
import Derived.Test.YtkhjkcefkampkaaJv
import Derived.Test.YtkhjkcefkampkaaWMore
set_option linter.unusedVariables false
set_option linter.unusedSimpArgs false
namespace Go.Proofs.Ytkhjkcefkampkaa.U
open Go.RowKit Go.Lib Go.Proofs.YtkhjkcefkampkaaW.PrintWords
open Go.Proofs.YtkhjkcefkampkaaW.PrintLast Go.Proofs.YtkhjkcefkampkaaW.PrintMore
end Go.Proofs.Ytkhjkcefkampkaa.U
