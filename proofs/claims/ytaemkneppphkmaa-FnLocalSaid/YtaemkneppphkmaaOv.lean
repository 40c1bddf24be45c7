
/- What the laws' arguments read as: views and states. -/
import Derived.Test.YtaemkneppphkmaaVw
import Derived.Test.YtaemkneppphkmaaOp
import Derived.Test.YtaemkneppphkmaaJv
set_option linter.unusedVariables false
set_option linter.unusedSimpArgs false
namespace Go.Proofs.Ytaemkneppphkmaa.U
open Go.RowKit Go.Lib Go.Proofs.YtaemkneppphkmaaW.PrintWords
open Go.Proofs.YtaemkneppphkmaaW.PrintLast Go.Proofs.YtaemkneppphkmaaW.PrintMore
end Go.Proofs.Ytaemkneppphkmaa.U
