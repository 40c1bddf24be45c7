
/- The law FnExactJoinViews, walked. -/
import Derived.Test.YtkhjkcefkampkaaJs
import Derived.Test.YtkhjkcefkampkaaSe
import Derived.Test.YtkhjkcefkampkaaG4
import Derived.Test.YtkhjkcefkampkaaOv
set_option linter.unusedVariables false
set_option linter.unusedSimpArgs false
namespace Go.Proofs.Ytkhjkcefkampkaa.U
open Go.RowKit Go.Lib Go.Proofs.YtkhjkcefkampkaaW.PrintWords
theorem VwO.rd {w : World} {lo hi n c : Nat} {A : Option Addr} {L : List Vf} (h : VwO w lo hi (.slice A n c) n L) : VwR w A n L := by
 obtain ⟨A', c', e, r⟩ := h.reads
 injection e with e1
 subst e1
 exact r
theorem staOk_len {ro : Int} {l : List Ce} {ms ts bd : List Int} (h : staOk ro l ms ts bd = true) : l.length ≤ 128 ∧ ms.length = l.length ∧ ts.length = l.length ∧ (bd.length : Int) ≤ 8 := by
 simp only [staOk, isBal, hasC, Bool.and_eq_true, decide_eq_true_iff] at h
 obtain ⟨⟨h1, _⟩, ⟨⟨⟨⟨h2, h3⟩, h4⟩, _⟩, _⟩, _⟩ := h
 have := meshOk_len h1
 exact ⟨this.1, h2, h3, by omega⟩
end Go.Proofs.Ytkhjkcefkampkaa.U
