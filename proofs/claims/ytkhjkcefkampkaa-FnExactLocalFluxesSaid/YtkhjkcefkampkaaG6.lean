
/- The part of a state, by the reference. -/
import Derived.Test.YtkhjkcefkampkaaG5
import Derived.Test.YtkhjkcefkampkaaWInvWords
set_option linter.unusedVariables false
set_option linter.unusedSimpArgs false
namespace Go.Proofs.Ytkhjkcefkampkaa.U
open Go.RowKit Go.Lib Go.Proofs.YtkhjkcefkampkaaW.PrintWords
open Go.Proofs.YtkhjkcefkampkaaW.PrintLast Go.Proofs.YtkhjkcefkampkaaW.PrintMore
section
variable {P : Program} {ops : Array Oper} {o : Oper} {a : Act} {Q : Exit → Act → World → Prop} {Kc : Act → World → Prop}
end
end Go.Proofs.Ytkhjkcefkampkaa.U
set_option linter.unusedVariables false
set_option linter.unusedSimpArgs false
namespace Go.Proofs.Ytkhjkcefkampkaa.U
open Go.RowKit Go.Lib Go.Proofs.YtkhjkcefkampkaaW.PrintWords
structure VG (w : World) (lo : Nat) (v : Value) (n : Nat) (X : Nat → Vf) (xs : List Value) (b e : Nat → Nat) : Prop where
 row : w.ownsRow lo 38 7 v n xs
 iv : ∀ i, i < n → lo ≤ b i ∧ b i ≤ e i ∧ e i ≤ w.heap.size
 off : ∀ i, i < n → ∀ g, v.ownBlock = some g → ¬ (b i ≤ g ∧ g < e i)
 sep : ∀ i j, i < j → j < n → e i ≤ b j
 el : ∀ i, i < n → ViO w (b i) (e i) (X i) (fun f => xs[i * 7 + f]?)
section
variable {w w' : World} {lo n : Nat} {v v1 : Value} {X : Nat → Vf} {xs ys : List Value} {b e : Nat → Nat}
theorem VG.nil (w : World) (lo : Nat) (g : Nat) (X : Nat → Vf) (h : w.ownsRow lo 38 7 v 0 []) : VG w lo v 0 X [] (fun _ => 0) (fun _ => 0) := ⟨h, fun i h => by omega, fun i h => by omega, fun i j _ h => by omega, fun i h => by omega⟩
theorem VG.to (h : VG w lo v n X xs b e) (k : Bw w w') : VG w' lo v n X xs b e := ⟨pw_own_below h.row k.out, fun i hi => by have := h.iv i hi; have := k.size; omega, h.off, h.sep, fun i hi => (h.el i hi).to k⟩
theorem ViO.gr {lo' hi' : Nat} {x : Vf} {c : Nat → Option Value} (h : ViO w lo' hi' x c) (hg : w.grownBy w' v.ownBlock) (hoff : ∀ g, v.ownBlock = some g → ¬ (lo' ≤ g ∧ g < hi')) (hle : lo' ≤ hi') : ViO w' lo' hi' x c := by
 cases hv : v.ownBlock with
 | none => exact h.wi (Wi.of_grown hg (lo := 0) (hi := 0) (fun q hq => by rw [hv] at hq; cases hq)) (by omega)
 | some g => exact h.wi (Wi.of_grown hg (lo := g) (hi := g + 1) (fun q hq => by rw [hv] at hq; obtain rfl := Option.some.inj hq; omega)) (by have := hoff g hv; omega)
theorem VG.app (h : VG w lo v n X xs b e) (o : w'.ownsRow lo 38 7 v1 (n + 1) (xs ++ ys)) (hg : w.grownBy w' v.ownBlock) (ha : v1.ownBlock = v.ownBlock ∨ ∃ q, v1.ownBlock = some q ∧ w.heap.size ≤ q) {bn en : Nat} (hb : lo ≤ bn ∧ bn ≤ en ∧ en ≤ w.heap.size) (hs : ∀ i, i < n → e i ≤ bn) (hoff : ∀ g, v.ownBlock = some g → ¬ (bn ≤ g ∧ g < en)) (hel : ViO w bn en (X n) (fun f => ys[f]?)) : VG w' lo v1 (n + 1) X (xs ++ ys) (fun i => if i < n then b i else bn) (fun i => if i < n then e i else en) := by
 have hl : xs.length = n * 7 := h.row.1
 have hsz := hg.size
 refine ⟨o, fun i hi => ?_, fun i hi g hv => ?_, fun i j hij hj => ?_, fun i hi => ?_⟩
 ·have := h.iv i
  by_cases hc : i < n
  ·simp only [if_pos hc]; have := h.iv i hc; omega
  ·simp only [if_neg hc]; omega
 ·have key : ∀ lo' hi' : Nat, hi' ≤ w.heap.size → (∀ g, v.ownBlock = some g → ¬ (lo' ≤ g ∧ g < hi')) → ¬ (lo' ≤ g ∧ g < hi') := fun lo' hi' h1 h2 => by
   rcases ha with e1 | ⟨q, e1, hq⟩
   ·exact h2 g (by rw [← e1, hv])
   ·rw [hv] at e1
    obtain rfl := Option.some.inj e1
    omega
  by_cases hc : i < n
  ·simp only [if_pos hc]; exact key _ _ (h.iv i hc).2.2 (h.off i hc)
  ·simp only [if_neg hc]; exact key _ _ hb.2.2 hoff
 ·by_cases hc : j < n
  ·simp only [if_pos hc, if_pos (show i < n by omega)]; exact h.sep i j hij hc
  ·simp only [if_neg hc, if_pos (show i < n by omega)]; exact hs i (by omega)
 ·by_cases hc : i < n
  ·simp only [if_pos hc]
   exact ((h.el i hc).gr hg (h.off i hc) (h.iv i hc).2.1).cells (fun f hf => by show (_ ++ _)[_]? = _; rw [List.getElem?_append_left (by omega)])
  ·obtain rfl : i = n := by omega
   simp only [if_neg hc]
   exact (hel.gr hg hoff hb.2.1).cells (fun f hf => by show (_ ++ _)[_]? = _; rw [List.getElem?_append_right (by omega), show i * 7 + f - xs.length = f by omega])
end
end Go.Proofs.Ytkhjkcefkampkaa.U
