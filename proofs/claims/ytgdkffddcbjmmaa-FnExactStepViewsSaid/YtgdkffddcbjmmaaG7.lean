
/- A cursor over drawn bytes: it may be read for ever, and gives bytes. -/
import Derived.Test.YtgdkffddcbjmmaaAp
set_option linter.unusedVariables false
set_option linter.unusedSimpArgs false
namespace Go.Proofs.Ytgdkffddcbjmmaa.U
open Go.RowKit Go.Lib Go.Proofs.YtgdkffddcbjmmaaW.PrintWords
end Go.Proofs.Ytgdkffddcbjmmaa.U
set_option linter.unusedVariables false
set_option linter.unusedSimpArgs false
namespace Go.Proofs.Ytgdkffddcbjmmaa.U
open Go.RowKit Go.Lib Go.Proofs.YtgdkffddcbjmmaaW.PrintWords
end Go.Proofs.Ytgdkffddcbjmmaa.U
set_option linter.unusedVariables false
set_option linter.unusedSimpArgs false
namespace Go.Proofs.Ytgdkffddcbjmmaa.U
open Go.RowKit Go.Lib Go.Proofs.YtgdkffddcbjmmaaW.PrintWords
theorem OI.cur {w w' : World} {base n g : Nat} {v : Value} {l : List Int} (h : OI w base v n l) (hg : w.grownBy w' (some g)) (hb : g < base) : OI w' base v n l :=
 ⟨own_other h.out hg (.inr fun e => by have := own_base h.out g e; omega)⟩
end Go.Proofs.Ytgdkffddcbjmmaa.U
