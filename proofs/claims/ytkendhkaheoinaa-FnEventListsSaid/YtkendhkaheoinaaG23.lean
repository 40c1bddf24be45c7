
/- From what an argument reads as to the kinds of its cells: whole numbers, slices, structs, to any depth. -/
import Derived.Test.YtkendhkaheoinaaWMore
import Derived.ChangeArms
import Derived.ChangeShapes
import Derived.WideShapes
import Derived.Deep.Slices
import Derived.Test.YtkendhkaheoinaaVw
import Derived.Test.YtkendhkaheoinaaG22
import Derived.Test.YtkendhkaheoinaaG4
set_option linter.unusedVariables false
set_option linter.unusedSimpArgs false
namespace Go.Proofs.Ytkendhkaheoinaa.Op
open Go.RowKit Go.ChangeShapes Go.WideShapes Go.Proofs.YtkendhkaheoinaaW.PrintWords Go.Proofs.YtkendhkaheoinaaW.PrintLast Go.Proofs.YtkendhkaheoinaaW.PrintMore
end Go.Proofs.Ytkendhkaheoinaa.Op
set_option linter.unusedVariables false
set_option linter.unusedSimpArgs false
namespace Go.Proofs.Ytkendhkaheoinaa.U
open Go.RowKit Go.Lib Go.Proofs.YtkendhkaheoinaaW.PrintWords
open Go.Proofs.YtkendhkaheoinaaW.PrintLast Go.Proofs.YtkendhkaheoinaaW.PrintMore
end Go.Proofs.Ytkendhkaheoinaa.U
set_option linter.unusedVariables false
set_option linter.unusedSimpArgs false
namespace Go.Proofs.Ytkendhkaheoinaa.U
open Go.RowKit Go.Lib Go.Proofs.YtkendhkaheoinaaW.PrintWords
theorem staOk_len {ro : Int} {l : List Ce} {ms ts bd : List Int} (h : staOk ro l ms ts bd = true) : l.length ≤ 128 ∧ ms.length = l.length ∧ ts.length = l.length ∧ (bd.length : Int) ≤ 8 := by
 simp only [staOk, isBal, hasC, Bool.and_eq_true, decide_eq_true_iff] at h
 obtain ⟨⟨h1, _⟩, ⟨⟨⟨⟨h2, h3⟩, h4⟩, _⟩, _⟩, _⟩ := h
 have := meshOk_len h1
 exact ⟨this.1, h2, h3, by omega⟩
end Go.Proofs.Ytkendhkaheoinaa.U
