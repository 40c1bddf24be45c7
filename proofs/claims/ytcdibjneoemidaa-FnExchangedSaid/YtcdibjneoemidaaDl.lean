
/- Lists drawn from a cursor. -/
import Derived.Test.YtcdibjneoemidaaG7
import Derived.Test.YtcdibjneoemidaaNr
set_option linter.unusedVariables false
set_option linter.unusedSimpArgs false
namespace Go.Proofs.Ytcdibjneoemidaa.U
open Go.RowKit Go.Lib Go.Proofs.YtcdibjneoemidaaW.PrintWords

end Go.Proofs.Ytcdibjneoemidaa.U
