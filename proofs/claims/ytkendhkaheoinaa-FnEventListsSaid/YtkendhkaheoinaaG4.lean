
/- Views: comparison of slices, copies. -/
import Derived.Test.YtkendhkaheoinaaVw
set_option linter.unusedVariables false
set_option linter.unusedSimpArgs false
namespace Go.Proofs.Ytkendhkaheoinaa.U
open Go.RowKit Go.Lib Go.Proofs.YtkendhkaheoinaaW.PrintWords
theorem Wi.set (w : World) (g i : Nat) (u : Value) : Wi w (w.setCell ⟨g, i, none⟩ u) g (g + 1) := ⟨rfl, rfl, rfl, by simp [World.setCell], fun k _ hn => Below.heap_setCell w ⟨g, i, none⟩ u k (fun e => hn (by simp at e; omega))⟩
end Go.Proofs.Ytkendhkaheoinaa.U
set_option linter.unusedVariables false
set_option linter.unusedSimpArgs false
namespace Go.Proofs.Ytkendhkaheoinaa.U
open Go.RowKit Go.Lib Go.Proofs.YtkendhkaheoinaaW.PrintWords
def Ap5 (vl vm vt vb vg : Value) : Prop := Apart vl vm ∧ Apart vl vt ∧ Apart vl vb ∧ Apart vl vg ∧ Apart vm vt ∧ Apart vm vb ∧ Apart vm vg ∧ Apart vt vb ∧ Apart vt vg ∧ Apart vb vg
def ViO (w : World) (lo hi : Nat) (x : Vf) (c : Nat → Option Value) : Prop := ∃ (vl vm vt vb vg : Value) (nl nm nt nb ng : Nat), c 0 = some (.int .i64 x.ro) ∧ c 1 = some (.int .i64 x.fr) ∧ c 2 = some vl ∧ c 3 = some vm ∧ c 4 = some vt ∧ c 5 = some vb ∧ c 6 = some vg ∧
  Rw w lo hi 72 3 vl nl x.lf ∧ Rw w lo hi 3 1 vm nm x.ms ∧ Rw w lo hi 3 1 vt nt x.ts ∧ Rw w lo hi 3 1 vb nb x.bd ∧ Rw w lo hi 3 1 vg ng x.gh ∧ Ap5 vl vm vt vb vg
theorem ViO.wi {w w' : World} {lo hi lo' hi' : Nat} {x : Vf} {c : Nat → Option Value} (h : ViO w lo hi x c) (k : Wi w w' lo' hi') (hd : hi ≤ lo' ∨ hi' ≤ lo) : ViO w' lo hi x c := by
 obtain ⟨vl, vm, vt, vb, vg, nl, nm, nt, nb, ng, c0, c1, c2, c3, c4, c5, c6, r1, r2, r3, r4, r5, ap⟩ := h
 exact ⟨vl, vm, vt, vb, vg, nl, nm, nt, nb, ng, c0, c1, c2, c3, c4, c5, c6, r1.wi k hd, r2.wi k hd, r3.wi k hd, r4.wi k hd, r5.wi k hd, ap⟩
theorem ViO.to {w w' : World} {lo hi : Nat} {x : Vf} {c : Nat → Option Value} (h : ViO w lo hi x c) (k : Bw w w') : ViO w' lo hi x c := by
 obtain ⟨vl, vm, vt, vb, vg, nl, nm, nt, nb, ng, c0, c1, c2, c3, c4, c5, c6, r1, r2, r3, r4, r5, ap⟩ := h
 exact ⟨vl, vm, vt, vb, vg, nl, nm, nt, nb, ng, c0, c1, c2, c3, c4, c5, c6, r1.to k, r2.to k, r3.to k, r4.to k, r5.to k, ap⟩
theorem ViO.cells {w : World} {lo hi : Nat} {x : Vf} {c c' : Nat → Option Value} (h : ViO w lo hi x c) (hc : ∀ f, f < 7 → c' f = c f) : ViO w lo hi x c' := by
 obtain ⟨vl, vm, vt, vb, vg, nl, nm, nt, nb, ng, c0, c1, c2, c3, c4, c5, c6, r⟩ := h
 exact ⟨vl, vm, vt, vb, vg, nl, nm, nt, nb, ng, (hc 0 (by omega)).trans c0, (hc 1 (by omega)).trans c1, (hc 2 (by omega)).trans c2, (hc 3 (by omega)).trans c3, (hc 4 (by omega)).trans c4, (hc 5 (by omega)).trans c5, (hc 6 (by omega)).trans c6, r⟩
end Go.Proofs.Ytkendhkaheoinaa.U
set_option linter.unusedVariables false
set_option linter.unusedSimpArgs false
namespace Go.Proofs.Ytkendhkaheoinaa.U
open Go.RowKit Go.Lib Go.Proofs.YtkendhkaheoinaaW.PrintWords
end Go.Proofs.Ytkendhkaheoinaa.U
set_option linter.unusedVariables false
set_option linter.unusedSimpArgs false
namespace Go.Proofs.Ytkendhkaheoinaa.U
open Go.RowKit Go.Lib Go.Proofs.YtkendhkaheoinaaW.PrintWords
end Go.Proofs.Ytkendhkaheoinaa.U
