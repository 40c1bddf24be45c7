
/- What is turned within an interval of blocks; rows of the call's own within one. -/
import Derived.Test.YtcgikbidgknkpaaIl
set_option linter.unusedVariables false
set_option linter.unusedSimpArgs false
namespace Go.Proofs.Ytcgikbidgknkpaa.U
open Go.RowKit Go.Lib Go.Proofs.YtcgikbidgknkpaaW.PrintWords

/-- w' is w with new blocks, turned at most in the blocks from lo up to hi -/
structure Wi (w w' : World) (lo hi : Nat) : Prop where
  os : w'.os = w.os
  tape : w'.tape = w.tape
  output : w'.output = w.output
  size : w.heap.size ≤ w'.heap.size
  block : ∀ k, k < w.heap.size → ¬ (lo ≤ k ∧ k < hi) → w'.heap[k]? = w.heap[k]?
theorem Wi.refl (w : World) (lo hi : Nat) : Wi w w lo hi := ⟨rfl, rfl, rfl, Nat.le_refl _, fun _ _ _ => rfl⟩
theorem Bw.wi {w w' : World} (b : Bw w w') (lo hi : Nat) : Wi w w' lo hi := ⟨b.out.os, b.out.tape, b.out.output, b.out.size, fun k hk _ => b.out.block k hk⟩
theorem Wi.trans {a b c : World} {lo hi : Nat} (h : Wi a b lo hi) (k : Wi b c lo hi) : Wi a c lo hi := ⟨k.os.trans h.os, k.tape.trans h.tape, k.output.trans h.output, Nat.le_trans h.size k.size, fun i hi hn => (k.block i (Nat.lt_of_lt_of_le hi h.size) hn).trans (h.block i hi hn)⟩
theorem Wi.mono {a b : World} {lo hi lo' hi' : Nat} (h : Wi a b lo hi) (h1 : lo' ≤ lo) (h2 : hi ≤ hi') : Wi a b lo' hi' := ⟨h.os, h.tape, h.output, h.size, fun i hi hn => h.block i hi (fun q => hn ⟨by omega, by omega⟩)⟩
theorem Wi.of_grown {w w' : World} {row : Option Nat} {lo hi : Nat} (g : w.grownBy w' row) (h : ∀ b, row = some b → lo ≤ b ∧ b < hi) : Wi w w' lo hi := ⟨g.os, g.tape, g.output, g.size, fun k hk hn => g.block k hk (fun e => hn (h k e.symm))⟩
theorem Bw.then_wi {w0 w w' : World} {lo hi : Nat} (b : Bw w0 w) (h : Wi w w' lo hi) (hl : w0.heap.size ≤ lo) : Bw w0 w' := ⟨⟨h.os.trans b.out.os, h.tape.trans b.out.tape, h.output.trans b.out.output, Nat.le_trans b.out.size h.size, fun k hk => (h.block k (Nat.lt_of_lt_of_le hk b.out.size) (fun q => by omega)).trans (b.out.block k hk)⟩⟩
/-- a row of structs of k ints (type t) of the call's own, its block between lo and hi -/
structure Rw (w : World) (lo hi t k : Nat) (v : Value) (n : Nat) (F : List Int) : Prop where
  o : FO w lo t k v n F
  b : ∀ b, v.ownBlock = some b → b < hi
section
variable {w w' : World} {lo hi lo' hi' t k n : Nat} {v u : Value} {F : List Int}
theorem FO.rw (h : FO w lo t k v n F) : Rw w lo w.heap.size t k v n F := ⟨h, fun b hb => own_lt h.out b hb⟩
theorem OI.rw (h : OI w lo v n F) : Rw w lo w.heap.size 3 1 v n F := FO.rw ⟨h.out⟩
theorem Rw.oi (h : Rw w lo hi 3 1 v n F) : OI w lo v n F := ⟨h.o.out⟩
theorem Rw.len (h : Rw w lo hi t k v n F) : F.length = n * k := h.o.len
theorem Rw.mono (h : Rw w lo hi t k v n F) (h1 : lo' ≤ lo) (h2 : hi ≤ hi') : Rw w lo' hi' t k v n F := ⟨h.o.less h1, fun b hb => Nat.lt_of_lt_of_le (h.b b hb) h2⟩
theorem Rw.to (h : Rw w lo hi t k v n F) (b : Bw w w') : Rw w' lo hi t k v n F := ⟨h.o.to b, h.b⟩
theorem Rw.in_ (h : Rw w lo hi t k v n F) : ∀ b, v.ownBlock = some b → lo ≤ b ∧ b < hi := fun b hb => ⟨own_base h.o.out b hb, h.b b hb⟩
theorem Rw.wi (h : Rw w lo hi t k v n F) (c : Wi w w' lo' hi') (hd : hi ≤ lo' ∨ hi' ≤ lo) : Rw w' lo hi t k v n F := ⟨⟨own_move h.o.out fun b hb => c.block b (own_lt h.o.out b hb) (fun q => by have := h.in_ b hb; omega)⟩, h.b⟩
theorem Rw.grown (h : Rw w lo hi t k v n F) (hg : w.grownBy w' u.ownBlock) (ha : Apart v u) : Rw w' lo hi t k v n F := ⟨h.o.grown hg ha, h.b⟩
theorem Rw.reads (h : Rw w lo hi t k v n F) : ∃ A c, v = .slice A n c ∧ n ≤ c ∧ FR w k A n F := h.o.reads
theorem Rw.chg (h : Rw w lo hi t k v n F) (hg : w.grownBy w' v.ownBlock) : Wi w w' lo hi := Wi.of_grown hg h.in_
theorem Rw.apart {w1 : World} {lo1 hi1 t1 k1 n1 : Nat} {F1 : List Int} (h : Rw w lo hi t k v n F) (h' : Rw w1 lo1 hi1 t1 k1 u n1 F1) (hd : hi ≤ lo1 ∨ hi1 ≤ lo) : Apart v u := by
  rcases own_base' h.o.out with e | ⟨b, e, _⟩
  · exact .inl e
  · refine .inr fun e2 => ?_
    have h1 := h.in_ b e
    have h2 := h'.in_ b (by rw [← e2, e])
    omega
theorem FR.ri {w : World} {A : Option Addr} {n : Nat} {l : List Int} (h : FR w 1 A n l) : RI w A n l := ⟨by rw [h.len, Nat.mul_one], h.max, fun hn => by
  obtain ⟨ad, e, hc⟩ := h.at_ hn
  exact ⟨ad, e, fun j hj => by
    have := hc j (by omega)
    rwa [rd_nat] at this⟩⟩
end
end Go.Proofs.Ytcgikbidgknkpaa.U
