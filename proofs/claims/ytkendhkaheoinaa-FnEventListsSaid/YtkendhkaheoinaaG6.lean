
/- The part of a state, by the reference. -/
import Derived.Test.YtkendhkaheoinaaG5
import Derived.Test.YtkendhkaheoinaaWInvWords
set_option linter.unusedVariables false
set_option linter.unusedSimpArgs false
namespace Go.Proofs.Ytkendhkaheoinaa.U
open Go.RowKit Go.Lib Go.Proofs.YtkendhkaheoinaaW.PrintWords
open Go.Proofs.YtkendhkaheoinaaW.PrintLast Go.Proofs.YtkendhkaheoinaaW.PrintMore
section
variable {P : Program} {ops : Array Oper} {o : Oper} {a : Act} {Q : Exit → Act → World → Prop} {Kc : Act → World → Prop}
end
theorem Cn.store {w w' : World} {base : Nat} {κ : Nat → Nat} {c t k n g : Nat} {v : Value} {F : List Int} {cs : Array Value} {e : TypeId} (h : Cn w base κ c t k v n F) (hg : w.heap[g]? = some (.cells cs e (0, 0))) (hne : t ≠ e) (hw : Wi w w' g (g + 1)) : Cn w' base κ c t k v n F := ⟨⟨own_move h.o.out fun q hq => hw.block q (h.hd q hq) (fun e2 => own_ne h.o.out hg hne (by rw [hq, show q = g by omega]))⟩, h.col⟩
end Go.Proofs.Ytkendhkaheoinaa.U
