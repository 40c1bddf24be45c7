
/- States in the laws: comparison, marks. -/
import Derived.Test.YtkhjkcefkampkaaJv
set_option linter.unusedVariables false
set_option linter.unusedSimpArgs false
namespace Go.Proofs.Ytkhjkcefkampkaa.U
open Go.RowKit Go.Lib Go.Proofs.YtkhjkcefkampkaaW.PrintWords
def StR (w : World) (x : Value) (s : Sta) : Prop := ∃ (A0 : Option Addr) (c0 : Nat) (A1 : Option Addr) (c1 : Nat) (A2 : Option Addr) (c2 : Nat) (A3 : Option Addr) (c3 : Nat), x = .agg #[.int .i64 s.ro, .slice A0 s.lv.length c0, .slice A1 s.ms.length c1, .slice A2 s.ts.length c2, .slice A3 s.bd.length c3] ∧ IdR w A0 s.lv.length s.lv ∧ RI w A1 s.ms.length s.ms ∧ RI w A2 s.ts.length s.ts ∧ RI w A3 s.bd.length s.bd
theorem StR.to {w w' : World} {x : Value} {s : Sta} (h : StR w x s) (b : Bw w w') : StR w' x s := by
 obtain ⟨A0, c0, A1, c1, A2, c2, A3, c3, rfl, r0, r1, r2, r3⟩ := h
 exact ⟨A0, c0, A1, c1, A2, c2, A3, c3, rfl, r0.to b, r1.to b, r2.to b, r3.to b⟩
theorem StO.r {w : World} {lo hi : Nat} {x : Value} {s : Sta} (h : StO w lo hi x s) : StR w x s := by
 obtain ⟨vl, vm, vt, vb, rfl, h1, h2, h3, h4, _⟩ := h
 obtain ⟨A0, c0, rfl, _, f0⟩ := h1.reads
 obtain ⟨A1, c1, rfl, _, f1⟩ := h2.reads
 obtain ⟨A2, c2, rfl, _, f2⟩ := h3.reads
 obtain ⟨A3, c3, rfl, _, f3⟩ := h4.reads
 exact ⟨A0, c0, A1, c1, A2, c2, A3, c3, rfl, f0.id, f1.ri, f2.ri, f3.ri⟩
end Go.Proofs.Ytkhjkcefkampkaa.U
