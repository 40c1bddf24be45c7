
/- From what an argument reads as to the kinds of its cells: whole numbers, slices, structs, to any depth. -/
import Derived.Test.YtaemkneppphkmaaWMore
import Derived.ChangeArms
import Derived.ChangeShapes
import Derived.WideShapes
import Derived.Deep.Slices
set_option linter.unusedVariables false
set_option linter.unusedSimpArgs false
namespace Go.Proofs.Ytaemkneppphkmaa.Op
open Go.RowKit Go.ChangeShapes Go.WideShapes Go.Proofs.YtaemkneppphkmaaW.PrintWords Go.Proofs.YtaemkneppphkmaaW.PrintLast Go.Proofs.YtaemkneppphkmaaW.PrintMore
end Go.Proofs.Ytaemkneppphkmaa.Op
