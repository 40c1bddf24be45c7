
/- Weights of a valid mesh, by the program and by the reference. -/
import Derived.Test.YtenijmalcchciaaIa
import Derived.Test.YtenijmalcchciaaSk
import Derived.Test.YtenijmalcchciaaJv
import Derived.Test.YtenijmalcchciaaVw
import Derived.Test.YtenijmalcchciaaLJoinViews
import Derived.Test.YtenijmalcchciaaG8
set_option linter.unusedVariables false
set_option linter.unusedSimpArgs false
namespace Go.Proofs.Ytenijmalcchciaa.U
open Go.RowKit Go.Lib Go.Proofs.YtenijmalcchciaaW.PrintWords
end Go.Proofs.Ytenijmalcchciaa.U
set_option linter.unusedVariables false
set_option linter.unusedSimpArgs false
namespace Go.Proofs.Ytenijmalcchciaa.U
open Go.RowKit Go.Lib Go.Proofs.YtenijmalcchciaaW.PrintWords
open Go.Proofs.YtenijmalcchciaaW.PrintLast Go.Proofs.YtenijmalcchciaaW.PrintMore
end Go.Proofs.Ytenijmalcchciaa.U
set_option linter.unusedVariables false
set_option linter.unusedSimpArgs false
namespace Go.Proofs.Ytenijmalcchciaa.U
open Go.RowKit Go.Lib Go.Proofs.YtenijmalcchciaaW.PrintWords
end Go.Proofs.Ytenijmalcchciaa.U
set_option linter.unusedVariables false
set_option linter.unusedSimpArgs false
namespace Go.Proofs.Ytenijmalcchciaa.U
open Go.RowKit Go.Lib Go.Proofs.YtenijmalcchciaaW.PrintWords
end Go.Proofs.Ytenijmalcchciaa.U
set_option linter.unusedVariables false
set_option linter.unusedSimpArgs false
namespace Go.Proofs.Ytenijmalcchciaa.U
open Go.RowKit Go.Lib Go.Proofs.YtenijmalcchciaaW.PrintWords
end Go.Proofs.Ytenijmalcchciaa.U
