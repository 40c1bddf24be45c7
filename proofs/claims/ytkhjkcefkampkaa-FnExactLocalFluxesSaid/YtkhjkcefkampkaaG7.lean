
/- A cursor over drawn bytes: it may be read for ever, and gives bytes. -/
import Derived.Test.YtkhjkcefkampkaaAp
set_option linter.unusedVariables false
set_option linter.unusedSimpArgs false
namespace Go.Proofs.Ytkhjkcefkampkaa.U
open Go.RowKit Go.Lib Go.Proofs.YtkhjkcefkampkaaW.PrintWords
structure Cur (w0 w : World) (g : Nat) : Prop where
 lo : w0.heap.size ≤ g
 below : Below w0.heap.size w0 w
 cells : ∃ (A : Option Addr) (n c : Nat) (bytes : List Int) (i : Nat) (h : Int), w.heap[g]? = some (.cells #[.slice A n c, .int .i64 i, .int .i64 h] 111 (0, 0)) ∧ i ≤ n ∧ n ≤ 1048576 ∧ ReadsInt w0 .u8 A n bytes ∧ (∀ x ∈ bytes, 0 ≤ x ∧ x ≤ 255)
end Go.Proofs.Ytkhjkcefkampkaa.U
set_option linter.unusedVariables false
set_option linter.unusedSimpArgs false
namespace Go.Proofs.Ytkhjkcefkampkaa.U
open Go.RowKit Go.Lib Go.Proofs.YtkhjkcefkampkaaW.PrintWords
end Go.Proofs.Ytkhjkcefkampkaa.U
set_option linter.unusedVariables false
set_option linter.unusedSimpArgs false
namespace Go.Proofs.Ytkhjkcefkampkaa.U
open Go.RowKit Go.Lib Go.Proofs.YtkhjkcefkampkaaW.PrintWords
theorem Cur.lt {w0 w : World} {g : Nat} (h : Cur w0 w g) : g < w.heap.size := by
 obtain ⟨A, n, c, bytes, i, hh, hblk, _⟩ := h.cells
 exact blk_lt hblk
theorem OI.cur {w w' : World} {base n g : Nat} {v : Value} {l : List Int} (h : OI w base v n l) (hg : w.grownBy w' (some g)) (hb : g < base) : OI w' base v n l :=
 ⟨own_other h.out hg (.inr fun e => by have := own_base h.out g e; omega)⟩
theorem Cur.at_lt {w0 w : World} {g : Nat} (h : Cur w0 w g) : g < w.heap.size := by
 obtain ⟨A, n, c, bytes, i, hh, hblk, _⟩ := h.cells
 exact blk_lt hblk
theorem Cur.pass {w0 w w' : World} {g : Nat} (h : Cur w0 w g) (hB : Below w0.heap.size w0 w') (hb : w'.heap[g]? = w.heap[g]?) : Cur w0 w' g := by
 obtain ⟨A, n, c, bytes, i, hh, hblk, rest⟩ := h.cells
 exact ⟨h.lo, hB, A, n, c, bytes, i, hh, hb.trans hblk, rest⟩
theorem Cur.bw {w0 w w' : World} {g : Nat} (h : Cur w0 w g) (b : Bw w w') : Cur w0 w' g := h.pass (below_then h.below h.below.size b.out) (b.out.block g h.at_lt)
theorem Cur.grow {w0 w w' : World} {g : Nat} {row : Option Nat} (h : Cur w0 w g) (k : w.grownBy w' row) (hr : ∀ j, row = some j → g < j) : Cur w0 w' g :=
 h.pass (h.below.grown k h.below.size (fun j e => Nat.le_of_lt (Nat.lt_of_le_of_lt h.lo (hr j e)))) (k.block g h.at_lt (fun e => by have := hr g e.symm; omega))
theorem Cur.set {w0 w : World} {g M : Nat} (h : Cur w0 w g) (hM : w0.heap.size ≤ M) (hne : M ≠ g) (i : Nat) (u : Value) : Cur w0 (w.setCell ⟨M, i, none⟩ u) g :=
 h.pass (h.below.setCell (p := ⟨M, i, none⟩) hM u) (Below.heap_setCell w ⟨M, i, none⟩ u g (fun e => hne (by simpa using e.symm)))
end Go.Proofs.Ytkhjkcefkampkaa.U
