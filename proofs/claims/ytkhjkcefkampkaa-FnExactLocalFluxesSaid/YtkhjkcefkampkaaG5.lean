
/- The surface over a leaf, by the program and by the reference. -/
import Derived.Test.YtkhjkcefkampkaaLJoinViews
import Derived.Test.YtkhjkcefkampkaaKn
set_option linter.unusedVariables false
set_option linter.unusedSimpArgs false
namespace Go.Proofs.Ytkhjkcefkampkaa.U
open Go.RowKit Go.Lib Go.Proofs.YtkhjkcefkampkaaW.PrintWords
structure StF (s : Sta) : Prop where
 n : s.lv.length ≤ 128
 ms : s.ms.length = s.lv.length
 ts : s.ts.length = s.lv.length
 bd : s.bd.length ≤ 8
 lv : ∀ i, i < s.lv.length → (0 ≤ (gc s.lv i).l ∧ (gc s.lv i).l ≤ 4) ∧ 0 ≤ (gc s.lv i).r ∧ (gc s.lv i).r < s.bd.length
 mv : ∀ i : Nat, i < s.lv.length → 0 ≤ rd s.ms (i : Int) ∧ rd s.ms (i : Int) ≤ 10000000
 bv : ∀ k : Nat, k < s.bd.length → 0 ≤ rd s.bd (k : Int) ∧ rd s.bd (k : Int) ≤ 1000000
theorem meshEnd_mem : ∀ (l : List Ce) (a b : Int), meshEnd l a = some b → ∀ x ∈ l, ceEnd x ≤ b
 | [], a, b, h, x, hx => by simp at hx
 | y :: l, a, b, h, x, hx => by
  rw [meshEnd] at h
  split at h
  ·rcases List.mem_cons.1 hx with rfl | hx
   ·have := meshEnd_len l _ _ h
    omega
   ·exact meshEnd_mem l _ _ h x hx
  ·cases h
theorem StF.of {s : Sta} (h : staOk s.ro s.lv s.ms s.ts s.bd = true) : StF s := by
 have hl := staOk_len h
 simp only [staOk, isBal, hasC, Bool.and_eq_true, decide_eq_true_iff] at h
 obtain ⟨⟨h1, _⟩, ⟨⟨⟨⟨h2, h3⟩, h4⟩, h5⟩, h6⟩, _⟩ := h
 refine ⟨hl.1, h2, h3, by omega, fun i hi => ?_, fun i hi => ?_, fun k hk => ?_⟩
 ·have hm := gc_mem hi
  have hc := meshOk_all h1 _ hm
  have hf := ceOk_facts hc
  have he : ceEnd (gc s.lv i) ≤ s.ro * 16 := by
   unfold meshOk at h1
   cases he : meshEnd s.lv 0 with
   | none => rw [he] at h1; cases h1
   | some a =>
    rw [he, endIs, Bool.and_eq_true, inR_iff, decide_eq_true_iff] at h1
    have := meshEnd_mem s.lv 0 a he _ hm
    omega
  refine ⟨hf.2.1, hf.1.1, ?_⟩
  rw [ceEnd, ceAt, if_pos hc] at he
  have hw : 1 ≤ wid (gc s.lv i).l := by
   unfold wid
   have := hf.2.1
   (repeat' split) <;> omega
  have h0 : 0 ≤ (gc s.lv i).i * wid (gc s.lv i).l := Int.mul_nonneg hf.2.2.1.1 (by omega)
  omega
 ·exact (cellsOk_at s.ms s.ts _ 0 h6 i (by omega) (by omega)).1
 ·have := (List.all_eq_true.1 h5) s.bd[k] (List.getElem_mem hk)
  rw [inR_iff] at this
  rw [rd_nat, List.getD_eq_getElem?_getD, List.getElem?_eq_getElem hk]
  exact this
def surf (s : Sta) (i : Nat) : Int := rd s.bd (gc s.lv i).r + rd s.ms (i : Int) * pow2 (gc s.lv i).l
end Go.Proofs.Ytkhjkcefkampkaa.U
set_option linter.unusedVariables false
set_option linter.unusedSimpArgs false
namespace Go.Proofs.Ytkhjkcefkampkaa.U
open Go.RowKit Go.Lib Go.Proofs.YtkhjkcefkampkaaW.PrintWords
open Go.Proofs.YtkhjkcefkampkaaW.PrintLast Go.Proofs.YtkhjkcefkampkaaW.PrintMore
end Go.Proofs.Ytkhjkcefkampkaa.U
set_option linter.unusedVariables false
set_option linter.unusedSimpArgs false
namespace Go.Proofs.Ytkhjkcefkampkaa.U
open Go.RowKit Go.Lib Go.Proofs.YtkhjkcefkampkaaW.PrintWords
open Go.Proofs.YtkhjkcefkampkaaW.PrintLast Go.Proofs.YtkhjkcefkampkaaW.PrintMore
def StC (w : World) (x : Value) (s : Sta) : Prop := ∃ (A0 : Option Addr) (c0 : Nat) (A1 : Option Addr) (c1 : Nat) (A2 : Option Addr) (c2 : Nat) (A3 : Option Addr) (c3 : Nat), x = .agg #[.int .i64 s.ro, .slice A0 s.lv.length c0, .slice A1 s.ms.length c1, .slice A2 s.ts.length c2, .slice A3 s.bd.length c3] ∧ IdR w A0 s.lv.length s.lv ∧ RI w A1 s.ms.length s.ms ∧ RI w A2 s.ts.length s.ts ∧ RI w A3 s.bd.length s.bd ∧ s.lv.length ≤ c0 ∧ s.ms.length ≤ c1 ∧ s.ts.length ≤ c2 ∧ s.bd.length ≤ c3
theorem StC.to {w w' : World} {x : Value} {s : Sta} (h : StC w x s) (b : Bw w w') : StC w' x s := by
 obtain ⟨A0, c0, A1, c1, A2, c2, A3, c3, rfl, r0, r1, r2, r3, k⟩ := h
 exact ⟨A0, c0, A1, c1, A2, c2, A3, c3, rfl, r0.to b, r1.to b, r2.to b, r3.to b, k⟩
theorem StC.r {w : World} {x : Value} {s : Sta} (h : StC w x s) : StR w x s := by
 obtain ⟨A0, c0, A1, c1, A2, c2, A3, c3, rfl, r0, r1, r2, r3, k⟩ := h
 exact ⟨A0, c0, A1, c1, A2, c2, A3, c3, rfl, r0, r1, r2, r3⟩
theorem StO.c {w : World} {lo hi : Nat} {x : Value} {s : Sta} (h : StO w lo hi x s) : StC w x s := by
 obtain ⟨vl, vm, vt, vb, rfl, h1, h2, h3, h4, _⟩ := h
 obtain ⟨A0, c0, rfl, k0, f0⟩ := h1.reads
 obtain ⟨A1, c1, rfl, k1, f1⟩ := h2.reads
 obtain ⟨A2, c2, rfl, k2, f2⟩ := h3.reads
 obtain ⟨A3, c3, rfl, k3, f3⟩ := h4.reads
 exact ⟨A0, c0, A1, c1, A2, c2, A3, c3, rfl, f0.id, f1.ri, f2.ri, f3.ri, k0, k1, k2, k3⟩
end Go.Proofs.Ytkhjkcefkampkaa.U
