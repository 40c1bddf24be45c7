
/- States: validity, by the reference. -/
import Derived.Test.YtaemkneppphkmaaSk
set_option linter.unusedVariables false
set_option linter.unusedSimpArgs false
namespace Go.Proofs.Ytaemkneppphkmaa.U
open Go.RowKit Go.Lib Go.Proofs.YtaemkneppphkmaaW.PrintWords
end Go.Proofs.Ytaemkneppphkmaa.U
