
/- Trees of cells drawn: one row that grows. -/
import Derived.Test.YtkhjkcefkampkaaSk
import Derived.Test.YtkhjkcefkampkaaG7
import Derived.Test.YtkhjkcefkampkaaG3
import Derived.Test.YtkhjkcefkampkaaIa
import Derived.Test.YtkhjkcefkampkaaKn
set_option linter.unusedVariables false
set_option linter.unusedSimpArgs false
namespace Go.Proofs.Ytkhjkcefkampkaa.U
open Go.RowKit Go.Lib Go.Proofs.YtkhjkcefkampkaaW.PrintWords
open Go.Proofs.YtkhjkcefkampkaaW.PrintLast Go.Proofs.YtkhjkcefkampkaaW.PrintMore
theorem Wi.put (w : World) (g i : Nat) (u : Value) : Wi w (w.setCell ⟨g, i, none⟩ u) g (g + 1) := ⟨rfl, rfl, rfl, by simp [World.setCell], fun k _ hn => Below.heap_setCell w ⟨g, i, none⟩ u k (fun e => hn (by simp at e; omega))⟩
structure Keep (w w' : World) (g M : Nat) (v : Value) : Prop where
 size : w.heap.size ≤ w'.heap.size
 block : ∀ b, b < w.heap.size → b ≠ g → b ≠ M → v.ownBlock ≠ some b → w'.heap[b]? = w.heap[b]?
def OwnTo (w : World) (v v' : Value) : Prop := v'.ownBlock = v.ownBlock ∨ ∃ q, v'.ownBlock = some q ∧ w.heap.size ≤ q
structure Grew (w0 w w' : World) (g M : Nat) (ro : Int) (v v' : Value) (l l' : List Ce) : Prop where
 cur : Cur w0 w' g
 blk : w'.heap[M]? = some (.cells #[.int .i64 ro, v'] 48 (0, 0))
 row : FO w' (g + 1) 70 3 v' (l ++ l').length (idF (l ++ l'))
 own : OwnTo w v v'
 keep : Keep w w' g M v
section
variable {w0 w w1 w2 wd : World} {g M : Nat} {ro : Int} {v v1 v2 : Value} {l a b : List Ce} {x : Ce}
theorem Grew.trans (h : Grew w0 w w1 g M ro v v1 l a) (k : Grew w0 w1 w2 g M ro v1 v2 (l ++ a) b) : Grew w0 w w2 g M ro v v2 l (a ++ b) := by
 have hs := h.keep.size
 refine ⟨k.cur, k.blk, by rw [← List.append_assoc]; exact k.row, ?_, Nat.le_trans hs k.keep.size, fun q hq h1 h2 h3 => (k.keep.block q (by omega) h1 h2 fun e => ?_).trans (h.keep.block q hq h1 h2 h3)⟩
 ·rcases k.own with e | ⟨q, e, hq⟩
  ·rcases h.own with e2 | ⟨q, e2, hq⟩
   ·exact .inl (e.trans e2)
   ·exact .inr ⟨q, e.trans e2, hq⟩
  ·exact .inr ⟨q, e, by omega⟩
 ·rcases h.own with e2 | ⟨p, e2, hp⟩
  ·exact h3 (e2.symm.trans e)
  ·rw [e2] at e
   have := Option.some.inj e
   omega
theorem Grew.before (h : Grew w0 w1 w2 g M ro v v1 l a) (k : Bw w w1) (hv : ∀ q, v.ownBlock = some q → q < w.heap.size) : Grew w0 w w2 g M ro v v1 l a := by
 have hs := k.size
 refine ⟨h.cur, h.blk, h.row, ?_, Nat.le_trans hs h.keep.size, fun q hq h1 h2 h3 => (h.keep.block q (by omega) h1 h2 h3).trans (k.out.block q hq)⟩
 rcases h.own with e | ⟨q, e, hq⟩
 ·exact .inl e
 ·exact .inr ⟨q, e, by omega⟩
theorem Grew.none (hC : Cur w0 w g) (hk : w.heap[M]? = some (.cells #[.int .i64 ro, v] 48 (0, 0))) (o : FO w (g + 1) 70 3 v l.length (idF l)) : Grew w0 w w g M ro v v l [] :=
 ⟨hC, hk, by rw [List.append_nil]; exact o, .inl rfl, Nat.le_refl _, fun _ _ _ _ _ => rfl⟩
theorem Grew.draw (hC : Cur w0 w1 g) (hg : w.grownBy w1 (some g)) (hMg : M ≠ g) (hk : w.heap[M]? = some (.cells #[.int .i64 ro, v] 48 (0, 0))) (o : FO w (g + 1) 70 3 v l.length (idF l)) : Grew w0 w w1 g M ro v v l [] :=
 ⟨hC, blk_grown hk hg (fun e => hMg (Option.some.inj e)), by rw [List.append_nil]; exact ⟨own_other o.out hg (.inr fun e => by have := own_base o.out g e; omega)⟩, .inl rfl, hg.size, fun q hq h1 h2 h3 => hg.block q hq (fun e => h1 (Option.some.inj e))⟩
theorem Grew.app (hC : Cur w0 w g) (hk : w.heap[M]? = some (.cells #[.int .i64 ro, v] 48 (0, 0))) (o : FO w (g + 1) 70 3 v l.length (idF l)) (od : wd.ownsRow (g + 1) 70 3 v1 (l.length + 1) (nums .i64 (idF l) ++ [.int .i64 x.r, .int .i64 x.l, .int .i64 x.i])) (hgd : w.grownBy wd v.ownBlock) (had : v1.ownBlock = v.ownBlock ∨ ∃ q, v1.ownBlock = some q ∧ w.heap.size ≤ q) (hM : w0.heap.size ≤ M) (hMg : M ≠ g) :
  Grew w0 w (wd.setCell ⟨M, 1, Option.none⟩ v1) g M ro v v1 l [x] := by
 have hkD := blk_grown hk hgd (own_ne o.out hk (by decide))
 have hCd : Cur w0 wd g := hC.grow hgd (fun j e => by have := own_base o.out j e; omega)
 have oF : FO wd (g + 1) 70 3 v1 (l ++ [x]).length (idF (l ++ [x])) := ⟨by
  have e : nums .i64 (idF (l ++ [x])) = nums .i64 (idF l) ++ [.int .i64 x.r, .int .i64 x.l, .int .i64 x.i] := by simp [idF, nums]
  rw [e, List.length_append]
  exact od⟩
 have hs : wd.heap.size ≤ (wd.setCell ⟨M, 1, Option.none⟩ v1).heap.size := by simp [World.setCell]
 refine ⟨hCd.set hM hMg _ _, (blk_set hkD 1 v1).trans rfl, ⟨own_move oF.out fun q hq => Below.heap_setCell wd ⟨M, 1, Option.none⟩ v1 q (fun e2 => own_ne oF.out hkD (by decide) (by simp at e2; rw [hq, e2]))⟩, had, Nat.le_trans hgd.size hs, fun q hq h1 h2 h3 => ?_⟩
 exact (Below.heap_setCell wd ⟨M, 1, Option.none⟩ v1 q (fun e => h2 (by simpa using e))).trans (hgd.block q hq (fun e => h3 e.symm))
theorem Grew.at (h : Grew w0 w w1 g M ro v v1 l a) {q : Nat} {o : Obj} (hq : w.heap[q]? = some o) (h1 : q ≠ g) (h2 : q ≠ M) (h3 : v.ownBlock ≠ some q) : w1.heap[q]? = some o := (h.keep.block q (blk_lt hq) h1 h2 h3).trans hq
end
end Go.Proofs.Ytkhjkcefkampkaa.U
set_option linter.unusedVariables false
set_option linter.unusedSimpArgs false
namespace Go.Proofs.Ytkhjkcefkampkaa.U
open Go.RowKit Go.Lib Go.Proofs.YtkhjkcefkampkaaW.PrintWords
open Go.Proofs.YtkhjkcefkampkaaW.PrintLast Go.Proofs.YtkhjkcefkampkaaW.PrintMore
theorem grown_cur {w0 w w' : World} {g : Nat} (h : Cur w0 w g) (k : Cur w0 w' g) (hs : w.heap.size ≤ w'.heap.size) (hb : ∀ b, b < w.heap.size → b ≠ g → w'.heap[b]? = w.heap[b]?) : w.grownBy w' (some g) :=
 ⟨k.below.os.trans h.below.os.symm, k.below.tape.trans h.below.tape.symm, k.below.output.trans h.below.output.symm, hs, fun b hb1 hne => hb b hb1 (fun e => hne (by rw [e]))⟩
structure MeshD (ro : Int) (l : List Ce) : Prop where
 rng : 1 ≤ ro ∧ ro ≤ 3
 en : meshEnd l 0 = some (ro * 16)
theorem MeshD.ok {ro : Int} {l : List Ce} (h : MeshD ro l) : meshOk ro l = true := by
 rw [meshOk, h.en, endIs_some (inR_iff.2 (by have := h.rng; omega))]
 simp
end Go.Proofs.Ytkhjkcefkampkaa.U
set_option linter.unusedVariables false
set_option linter.unusedSimpArgs false
namespace Go.Proofs.Ytkhjkcefkampkaa.U
open Go.RowKit Go.Lib Go.Proofs.YtkhjkcefkampkaaW.PrintWords
open Go.Proofs.YtkhjkcefkampkaaW.PrintLast Go.Proofs.YtkhjkcefkampkaaW.PrintMore
theorem FO.put {w w' : World} {base t k n g : Nat} {v : Value} {F : List Int} {cs : Array Value} {e : TypeId} (h : FO w base t k v n F) (hg : w.heap[g]? = some (.cells cs e (0, 0))) (hne : t ≠ e) (c : Wi w w' g (g + 1)) : FO w' base t k v n F :=
 ⟨own_move h.out fun q hq => c.block q (own_lt h.out q hq) (fun e2 => own_ne h.out hg hne (by rw [hq, show q = g by omega]))⟩
theorem FO.room {w : World} {base n y : Nat} {X : Option Addr} {F : List Int} (h : FO w base 70 3 (.slice X n y) n F) : n ≤ y := by
 obtain ⟨A, c, e, hc, _⟩ := h.reads
 simp only [Value.slice.injEq] at e
 obtain ⟨_, _, rfl⟩ := e
 exact hc
end Go.Proofs.Ytkhjkcefkampkaa.U
set_option linter.unusedVariables false
set_option linter.unusedSimpArgs false
namespace Go.Proofs.Ytkhjkcefkampkaa.U
open Go.RowKit Go.Lib Go.Proofs.YtkhjkcefkampkaaW.PrintWords
theorem grown_bw {a b : World} {row : Option Nat} (h : Bw a b) : a.grownBy b row := grown_of_below h.out row
theorem Cn.put {w w' : World} {base : Nat} {κ : Nat → Nat} {c t k n g : Nat} {v : Value} {F : List Int} {cs : Array Value} {e : TypeId} (h : Cn w base κ c t k v n F) (hg : w.heap[g]? = some (.cells cs e (0, 0))) (hne : t ≠ e) (hw : Wi w w' g (g + 1)) : Cn w' base κ c t k v n F := ⟨FO.put h.o hg hne hw, h.col⟩
structure SK (w0 w : World) (g R Mb Sb base : Nat) (lv : Value) : Prop where
 hw0 : w0.heap.size ≤ w.heap.size
 hg : g < base
 wS : w.heap.size ≤ Sb
 wb : w.heap.size ≤ base
 Sg : Sb ≠ g
 Mg : Mb ≠ g
 Rg : R ≠ g
 SM : Sb ≠ Mb
 SR : Sb ≠ R
 hli : ∀ q, lv.ownBlock = some q → q < base
structure SD (w0 w W : World) (g R Mb Sb base : Nat) (κ : Nat → Nat) (ro : Int) (X : Option Addr) (n y : Nat) (l : List Ce) (mv tv bv : Value) (ms ts bd : List Int) : Prop where
 cur : Cur w0 W g
 st : W.heap[Sb]? = some (.cells #[.int .i64 ro, .slice X n y, mv, tv, bv] 50 (0, 0))
 me : W.heap[Mb]? = some (.cells #[.int .i64 ro, .slice X n y] 48 (0, 0))
 re : W.heap[R]? = some (.cells #[.int .i64 0, .slice none 0 0, .slice none 0 0, .slice none 0 0, .slice none 0 0] 50 (0, 0))
 li : FO W (g + 1) 70 3 (.slice X n y) n (idF l)
 m : Cn W base κ 1 3 1 mv ms.length ms
 t : Cn W base κ 2 3 1 tv ts.length ts
 b : Cn W base κ 3 3 1 bv bd.length bd
 gr : w.grownBy W (some g)
 sz : base ≤ W.heap.size
section
variable {w0 w W W' wd : World} {g R Mb Sb base : Nat} {κ : Nat → Nat} {ro : Int} {X : Option Addr} {n y : Nat} {l : List Ce} {mv tv bv v1 : Value} {ms ts bd : List Int}
theorem Cn.cur {c t k : Nat} {v : Value} {F : List Int} {m : Nat} (h : Cn W base κ c t k v m F) (hg : W.grownBy W' (some g)) (hb : g < base) : Cn W' base (paint κ W.heap.size 0) c t k v m F :=
 ⟨⟨own_other h.o.out hg (.inr fun e => by have := own_base h.o.out g e; omega)⟩, fun q hq => by
  rw [paint, if_neg (by have := h.hd q hq; omega)]
  exact h.col q hq⟩
theorem SD.draw (h : SD w0 w W g R Mb Sb base κ ro X n y l mv tv bv ms ts bd) (k : SK w0 w g R Mb Sb base (.slice X n y)) (hC0 : Cur w0 w g) (hC : Cur w0 W' g) (hg : W.grownBy W' (some g)) : SD w0 w W' g R Mb Sb base (paint κ W.heap.size 0) ro X n y l mv tv bv ms ts bd :=
 ⟨hC, blk_grown h.st hg (fun e => k.Sg (Option.some.inj e)), blk_grown h.me hg (fun e => k.Mg (Option.some.inj e)), blk_grown h.re hg (fun e => k.Rg (Option.some.inj e)), ⟨own_other h.li.out hg (.inr fun e => by have := own_base h.li.out g e; omega)⟩, h.m.cur hg k.hg, h.t.cur hg k.hg, h.b.cur hg k.hg,
  grown_cur hC0 hC (Nat.le_trans h.gr.size hg.size) (fun b hb hne => (hg.block b (by have := h.gr.size; omega) (fun e => hne (Option.some.inj e))).trans (h.gr.block b hb (fun e => hne (Option.some.inj e)))), Nat.le_trans h.sz hg.size⟩
theorem SD.bw (h : SD w0 w W g R Mb Sb base κ ro X n y l mv tv bv ms ts bd) (k : SK w0 w g R Mb Sb base (.slice X n y)) (hC0 : Cur w0 w g) (b : Bw W W') : SD w0 w W' g R Mb Sb base (paint κ W.heap.size 0) ro X n y l mv tv bv ms ts bd := h.draw k hC0 (h.cur.bw b) (grown_bw b)
end
end Go.Proofs.Ytkhjkcefkampkaa.U
