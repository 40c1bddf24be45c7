
/- JoinViews, by the reference. -/
import Derived.Test.YtaemkneppphkmaaJi
set_option linter.unusedVariables false
set_option linter.unusedSimpArgs false
namespace Go.Proofs.Ytaemkneppphkmaa.U
open Go.RowKit Go.Lib Go.Proofs.YtaemkneppphkmaaW.PrintWords
open Go.Proofs.YtaemkneppphkmaaW.PrintLast Go.Proofs.YtaemkneppphkmaaW.PrintMore
theorem OI.less0 {w : World} {base base' n : Nat} {v : Value} {l : List Int} (h : OI w base v n l) (hb : base' ≤ base) : OI w base' v n l := ⟨own_less h.out hb⟩
section
variable {P : Program} {ops : Array Oper} {o : Oper} {a : Act} {Q : Exit → Act → World → Prop} {Kc : Act → World → Prop}
end
end Go.Proofs.Ytaemkneppphkmaa.U
