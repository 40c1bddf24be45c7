
/- The reference's CostOf and MacroStep; NextTick. -/
import Derived.Test.YtkendhkaheoinaaG24
import Derived.Test.YtkendhkaheoinaaG16
set_option linter.unusedVariables false
set_option linter.unusedSimpArgs false
namespace Go.Proofs.Ytkendhkaheoinaa.U
open Go.RowKit Go.Lib Go.Proofs.YtkendhkaheoinaaW.PrintWords
open Go.Proofs.YtkendhkaheoinaaW.PrintLast Go.Proofs.YtkendhkaheoinaaW.PrintMore
end Go.Proofs.Ytkendhkaheoinaa.U
