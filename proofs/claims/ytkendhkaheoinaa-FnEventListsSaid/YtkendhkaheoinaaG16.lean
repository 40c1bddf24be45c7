
/- The reference's copy of a state. -/
import Derived.Test.YtkendhkaheoinaaG9
import Derived.Test.YtkendhkaheoinaaG22
import Derived.Test.YtkendhkaheoinaaWInvWords
import Derived.Test.YtkendhkaheoinaaG14
import Derived.Test.YtkendhkaheoinaaG15
set_option linter.unusedVariables false
set_option linter.unusedSimpArgs false
namespace Go.Proofs.Ytkendhkaheoinaa.U
open Go.RowKit Go.Lib Go.Proofs.YtkendhkaheoinaaW.PrintWords
open Go.Proofs.YtkendhkaheoinaaW.PrintLast Go.Proofs.YtkendhkaheoinaaW.PrintMore
section
variable {P : Program} {ops : Array Oper} {o : Oper} {a : Act} {Q : Exit → Act → World → Prop} {Kc : Act → World → Prop}
end
end Go.Proofs.Ytkendhkaheoinaa.U
set_option linter.unusedVariables false
set_option linter.unusedSimpArgs false
namespace Go.Proofs.Ytkendhkaheoinaa.U
open Go.RowKit Go.Lib Go.Proofs.YtkendhkaheoinaaW.PrintWords
open Go.Proofs.YtkendhkaheoinaaW.PrintLast Go.Proofs.YtkendhkaheoinaaW.PrintMore
attribute [local go_sem] go_max2 go_min2
end Go.Proofs.Ytkendhkaheoinaa.U
