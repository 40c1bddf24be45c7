
/- From what an argument reads as to the kinds of its cells: whole numbers, slices, structs, to any depth. -/
import Derived.Test.YtenijmalcchciaaWMore
import Derived.ChangeArms
import Derived.ChangeShapes
import Derived.WideShapes
import Derived.Deep.Slices
set_option linter.unusedVariables false
set_option linter.unusedSimpArgs false
namespace Go.Proofs.Ytenijmalcchciaa.Op
open Go.RowKit Go.ChangeShapes Go.WideShapes Go.Proofs.YtenijmalcchciaaW.PrintWords Go.Proofs.YtenijmalcchciaaW.PrintLast Go.Proofs.YtenijmalcchciaaW.PrintMore
end Go.Proofs.Ytenijmalcchciaa.Op
