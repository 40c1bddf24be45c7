
/- Rows told apart by colours. -/
import Derived.Test.YtaidbdogolhnjaaG3
set_option linter.unusedVariables false
set_option linter.unusedSimpArgs false
namespace Go.Proofs.Ytaidbdogolhnjaa.U
open Go.RowKit Go.Lib Go.Proofs.YtaidbdogolhnjaaW.PrintWords

/-- new blocks are painted d -/
def paint (κ : Nat → Nat) (s d : Nat) : Nat → Nat := fun b => if s ≤ b then d else κ b
/-- a row of the call's own, its block painted c -/
structure Cn (w : World) (base : Nat) (κ : Nat → Nat) (c t k : Nat) (v : Value) (n : Nat) (F : List Int) : Prop where
  o : FO w base t k v n F
  col : ∀ b, v.ownBlock = some b → κ b = c
section
variable {w w' : World} {base : Nat} {κ : Nat → Nat} {c d t k t' k' n n' : Nat} {v u : Value} {F G : List Int}
theorem Cn.hd (h : Cn w base κ c t k v n F) : ∀ b, v.ownBlock = some b → b < w.heap.size := fun b hb => own_lt h.o.out b hb
theorem Cn.to (h : Cn w base κ c t k v n F) (b : Bw w w') (d : Nat) : Cn w' base (paint κ w.heap.size d) c t k v n F := ⟨h.o.to b, fun q hq => by
  rw [paint, if_neg (by have := h.hd q hq; omega)]
  exact h.col q hq⟩
theorem Cn.apart (h : Cn w base κ c t k v n F) (h' : Cn w base κ d t' k' u n' G) (hcd : c ≠ d) : Apart v u := by
  rcases own_base' h.o.out with e | ⟨b, e, _⟩
  · exact .inl e
  · refine .inr fun e2 => hcd ?_
    rw [← h.col b e, ← h'.col b (by rw [← e2, e])]
/-- a row of another colour grows -/
theorem Cn.grown (h : Cn w base κ c t k v n F) (h' : Cn w base κ d t' k' u n' G) (hcd : c ≠ d) (hg : w.grownBy w' u.ownBlock) (e : Nat) : Cn w' base (paint κ w.heap.size e) c t k v n F := ⟨h.o.grown hg (h.apart h' hcd), fun q hq => by
  rw [paint, if_neg (by have := h.hd q hq; omega)]
  exact h.col q hq⟩
/-- a row made now -/
theorem FO.cn (o : FO w' w.heap.size t k v n F) (hb : base ≤ w.heap.size) : Cn w' base (paint κ w.heap.size c) c t k v n F := ⟨o.less hb, fun q hq => by
  rw [paint, if_pos (own_base o.out q hq)]⟩
/-- the row that has grown -/
theorem Cn.app (h : Cn w base κ c t k u n' G) (o : FO w' base t k v n F) (ha : v.ownBlock = u.ownBlock ∨ ∃ b, v.ownBlock = some b ∧ w.heap.size ≤ b) : Cn w' base (paint κ w.heap.size c) c t k v n F := ⟨o, fun q hq => by
  rcases ha with e | ⟨b, e, hb⟩
  · rw [e] at hq
    have h1 := h.col q hq
    rw [paint]
    split
    · rfl
    · exact h1
  · rw [e] at hq
    obtain rfl := Option.some.inj hq
    rw [paint, if_pos hb]⟩
theorem Cn.bw (h : Cn w base κ c t k u n' G) (hg : w.grownBy w' u.ownBlock) {W : World} (b : Bw W w) (hb : W.heap.size ≤ base) : Bw W w' := ⟨b.out.grown hg b.size (fun q hq => Nat.le_trans hb (own_base h.o.out q hq))⟩
end
end Go.Proofs.Ytaidbdogolhnjaa.U
