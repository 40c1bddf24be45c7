
/- JoinViews, by the program. -/
import Derived.Test.YtenijmalcchciaaJv
import Derived.Test.YtenijmalcchciaaWMore
set_option linter.unusedVariables false
set_option linter.unusedSimpArgs false
namespace Go.Proofs.Ytenijmalcchciaa.U
open Go.RowKit Go.Lib Go.Proofs.YtenijmalcchciaaW.PrintWords
open Go.Proofs.YtenijmalcchciaaW.PrintLast Go.Proofs.YtenijmalcchciaaW.PrintMore
end Go.Proofs.Ytenijmalcchciaa.U
