
/- A state in its box. -/
import Derived.Test.YtaidbdogolhnjaaYa
import Derived.Test.YtaidbdogolhnjaaG9
import Derived.Test.YtaidbdogolhnjaaG22
import Derived.Test.YtaidbdogolhnjaaG14
set_option linter.unusedVariables false
set_option linter.unusedSimpArgs false
namespace Go.Proofs.Ytaidbdogolhnjaa.U
open Go.RowKit Go.Lib Go.Proofs.YtaidbdogolhnjaaW.PrintWords

open Go.Proofs.YtaidbdogolhnjaaW.PrintLast Go.Proofs.YtaidbdogolhnjaaW.PrintMore
/-- the blocks of K stand -/
structure Fk (w w' : World) (K : Nat → Prop) : Prop where
  os : w'.os = w.os
  tape : w'.tape = w.tape
  output : w'.output = w.output
  size : w.heap.size ≤ w'.heap.size
  block : ∀ q, K q → w'.heap[q]? = w.heap[q]?
theorem Fk.refl (w : World) (K : Nat → Prop) : Fk w w K := ⟨rfl, rfl, rfl, Nat.le_refl _, fun _ _ => rfl⟩
theorem Fk.trans {a b c : World} {K : Nat → Prop} (h : Fk a b K) (k : Fk b c K) : Fk a c K := ⟨k.os.trans h.os, k.tape.trans h.tape, k.output.trans h.output, Nat.le_trans h.size k.size, fun q hq => (k.block q hq).trans (h.block q hq)⟩
theorem Fk.bw {w w' : World} {K : Nat → Prop} (b : Bw w w') (hK : ∀ q, K q → q < w.heap.size) : Fk w w' K := ⟨b.out.os, b.out.tape, b.out.output, b.out.size, fun q hq => b.out.block q (hK q hq)⟩
theorem Fk.wi {w w' : World} {K : Nat → Prop} {lo hi : Nat} (c : Wi w w' lo hi) (hK : ∀ q, K q → q < w.heap.size) (hn : ∀ q, K q → ¬ (lo ≤ q ∧ q < hi)) : Fk w w' K := ⟨c.os, c.tape, c.output, c.size, fun q hq => c.block q (hK q hq) (hn q hq)⟩
theorem Fk.below {w0 w w' : World} {K : Nat → Prop} (b : Bw w0 w) (f : Fk w w' K) (hK : ∀ q, q < w0.heap.size → K q) : Bw w0 w' := ⟨⟨f.os.trans b.out.os, f.tape.trans b.out.tape, f.output.trans b.out.output, Nat.le_trans b.out.size f.size, fun q hq => (f.block q (hK q hq)).trans (b.out.block q hq)⟩⟩
theorem Fk.less {w w' : World} {K L : Nat → Prop} (f : Fk w w' K) (h : ∀ q, L q → K q) : Fk w w' L := ⟨f.os, f.tape, f.output, f.size, fun q hq => f.block q (h q hq)⟩
/-- a state of the call's own in the box P; its rows lie outside of K -/
structure BS (w : World) (K : Nat → Prop) (P : Nat) (s : Sta) (vl vm vt vb : Value) : Prop where
  st : w.heap[P]? = some (.cells #[.int .i64 s.ro, vl, vm, vt, vb] 29 (0, 0))
  l : FO w 0 58 3 vl s.lv.length (idF s.lv)
  m : FO w 0 3 1 vm s.ms.length s.ms
  t : FO w 0 3 1 vt s.ts.length s.ts
  b : FO w 0 3 1 vb s.bd.length s.bd
  mt : Apart vm vt
  tm : Apart vt vm
  bm : Apart vb vm
  bt : Apart vb vt
  kP : ¬ K P
  kl : ∀ q, vl.ownBlock = some q → ¬ K q
  km : ∀ q, vm.ownBlock = some q → ¬ K q
  kt : ∀ q, vt.ownBlock = some q → ¬ K q
  kb : ∀ q, vb.ownBlock = some q → ¬ K q
  kw : ∀ q, K q → q < w.heap.size
section
variable {w w' : World} {K : Nat → Prop} {P : Nat} {s : Sta} {vl vm vt vb v' : Value}
theorem BS.to (h : BS w K P s vl vm vt vb) (b : Bw w w') : BS w' K P s vl vm vt vb := ⟨(b.out.block _ (blk_lt h.st)).trans h.st, h.l.to b, h.m.to b, h.t.to b, h.b.to b, h.mt, h.tm, h.bm, h.bt, h.kP, h.kl, h.km, h.kt, h.kb, fun q hq => Nat.lt_of_lt_of_le (h.kw q hq) b.size⟩
/-- what else is kept: blocks that are neither P's nor a row's -/
theorem BS.more {L : Nat → Prop} (h : BS w K P s vl vm vt vb) (hL : ∀ q, L q → K q ∨ (q < w.heap.size ∧ q ≠ P ∧ vl.ownBlock ≠ some q ∧ vm.ownBlock ≠ some q ∧ vt.ownBlock ≠ some q ∧ vb.ownBlock ≠ some q)) : BS w L P s vl vm vt vb := by
  refine ⟨h.st, h.l, h.m, h.t, h.b, h.mt, h.tm, h.bm, h.bt, fun e => ?_, fun q hq e => ?_, fun q hq e => ?_, fun q hq e => ?_, fun q hq e => ?_, fun q hq => ?_⟩
  · rcases hL _ e with h1 | h1
    · exact h.kP h1
    · exact h1.2.1 rfl
  · rcases hL _ e with h1 | h1
    · exact h.kl q hq h1
    · exact h1.2.2.1 hq
  · rcases hL _ e with h1 | h1
    · exact h.km q hq h1
    · exact h1.2.2.2.1 hq
  · rcases hL _ e with h1 | h1
    · exact h.kt q hq h1
    · exact h1.2.2.2.2.1 hq
  · rcases hL _ e with h1 | h1
    · exact h.kb q hq h1
    · exact h1.2.2.2.2.2 hq
  · rcases hL _ hq with h1 | h1
    · exact h.kw q h1
    · exact h1.1
theorem kgrown (hg : w.grownBy w' v'.ownBlock) (hk : ∀ q, v'.ownBlock = some q → ¬ K q) (hw : ∀ q, K q → q < w.heap.size) : Fk w w' K := ⟨hg.os, hg.tape, hg.output, hg.size, fun q hq => hg.block q (hw q hq) (fun e => hk q e.symm hq)⟩
theorem newk {v v' : Value} (hk : ∀ q, v.ownBlock = some q → ¬ K q) (hw : ∀ q, K q → q < w.heap.size) (ho : v'.ownBlock = v.ownBlock ∨ ∃ q, v'.ownBlock = some q ∧ w.heap.size ≤ q) : ∀ q, v'.ownBlock = some q → ¬ K q := fun q hq => by
  rcases ho with e | ⟨p, e, hp⟩
  · exact hk q (by rw [← e, hq])
  · intro h
    have := hw q h
    rw [hq] at e
    have := Option.some.inj e
    omega
theorem newApart {base e n : Nat} {F : List Int} {v v' u : Value} (hu : FO w base e 1 u n F) (ha : Apart u v) (ho : v'.ownBlock = v.ownBlock ∨ ∃ q, v'.ownBlock = some q ∧ w.heap.size ≤ q) : Apart u v' := by
  rcases ho with e | ⟨p, e, hp⟩
  · unfold Apart; rw [e]; exact ha
  · refine .inr fun e2 => ?_
    rw [e] at e2
    have := own_lt hu.out p e2
    omega
theorem newApart' {base e n : Nat} {F : List Int} {v v' u : Value} (hu : FO w base e 1 u n F) (ha : Apart v u) (ho : v'.ownBlock = v.ownBlock ∨ ∃ q, v'.ownBlock = some q ∧ w.heap.size ≤ q) : Apart v' u := by
  rcases ho with e | ⟨p, e, hp⟩
  · unfold Apart; rw [e]; exact ha
  · refine .inr fun e2 => ?_
    rw [e] at e2
    have := own_lt hu.out p e2.symm
    omega
/-- the row of leaves is another, stored into the box -/
theorem BS.put_l {l' : List Ce} (h : BS w K P s vl vm vt vb) (o : FO w' 0 58 3 v' l'.length (idF l')) (hg : w.grownBy w' vl.ownBlock) (ho : v'.ownBlock = vl.ownBlock ∨ ∃ q, v'.ownBlock = some q ∧ w.heap.size ≤ q) :
    BS (w'.setCell ⟨P, 1, none⟩ v') K P { s with lv := l' } v' vm vt vb ∧ Fk w (w'.setCell ⟨P, 1, none⟩ v') K := by
  have hst := blk_grown h.st hg (own_ne h.l.out h.st (by decide))
  have c := Wi.put w' P 1 v'
  have hf := kgrown hg h.kl h.kw
  have hw : ∀ q, K q → q < w'.heap.size := fun q hq => Nat.lt_of_lt_of_le (h.kw q hq) hg.size
  refine ⟨⟨(blk_set hst 1 v').trans rfl, FO.put o hst (by decide) c, FO.put (h.m.grown hg (own_type_ne h.m.out h.l.out (by decide))) hst (by decide) c, FO.put (h.t.grown hg (own_type_ne h.t.out h.l.out (by decide))) hst (by decide) c, FO.put (h.b.grown hg (own_type_ne h.b.out h.l.out (by decide))) hst (by decide) c, h.mt, h.tm, h.bm, h.bt, h.kP, newk h.kl h.kw ho, h.km, h.kt, h.kb, fun q hq => Nat.lt_of_lt_of_le (hw q hq) c.size⟩, hf.trans (Fk.wi c hw (fun q hq hn => h.kP (by rw [show P = q by omega]; exact hq)))⟩
theorem BS.put_m {l' : List Int} (h : BS w K P s vl vm vt vb) (o : FO w' 0 3 1 v' l'.length l') (hg : w.grownBy w' vm.ownBlock) (ho : v'.ownBlock = vm.ownBlock ∨ ∃ q, v'.ownBlock = some q ∧ w.heap.size ≤ q) :
    BS (w'.setCell ⟨P, 2, none⟩ v') K P { s with ms := l' } vl v' vt vb ∧ Fk w (w'.setCell ⟨P, 2, none⟩ v') K := by
  have hst := blk_grown h.st hg (own_ne h.m.out h.st (by decide))
  have c := Wi.put w' P 2 v'
  have hf := kgrown hg h.km h.kw
  have hw : ∀ q, K q → q < w'.heap.size := fun q hq => Nat.lt_of_lt_of_le (h.kw q hq) hg.size
  refine ⟨⟨(blk_set hst 2 v').trans rfl, FO.put (h.l.grown hg (own_type_ne h.l.out h.m.out (by decide))) hst (by decide) c, FO.put o hst (by decide) c, FO.put (h.t.grown hg h.tm) hst (by decide) c, FO.put (h.b.grown hg h.bm) hst (by decide) c, newApart' h.t h.mt ho, newApart h.t h.tm ho, newApart h.b h.bm ho, h.bt, h.kP, h.kl, newk h.km h.kw ho, h.kt, h.kb, fun q hq => Nat.lt_of_lt_of_le (hw q hq) c.size⟩, hf.trans (Fk.wi c hw (fun q hq hn => h.kP (by rw [show P = q by omega]; exact hq)))⟩
theorem BS.put_t {l' : List Int} (h : BS w K P s vl vm vt vb) (o : FO w' 0 3 1 v' l'.length l') (hg : w.grownBy w' vt.ownBlock) (ho : v'.ownBlock = vt.ownBlock ∨ ∃ q, v'.ownBlock = some q ∧ w.heap.size ≤ q) :
    BS (w'.setCell ⟨P, 3, none⟩ v') K P { s with ts := l' } vl vm v' vb ∧ Fk w (w'.setCell ⟨P, 3, none⟩ v') K := by
  have hst := blk_grown h.st hg (own_ne h.t.out h.st (by decide))
  have c := Wi.put w' P 3 v'
  have hf := kgrown hg h.kt h.kw
  have hw : ∀ q, K q → q < w'.heap.size := fun q hq => Nat.lt_of_lt_of_le (h.kw q hq) hg.size
  refine ⟨⟨(blk_set hst 3 v').trans rfl, FO.put (h.l.grown hg (own_type_ne h.l.out h.t.out (by decide))) hst (by decide) c, FO.put (h.m.grown hg h.mt) hst (by decide) c, FO.put o hst (by decide) c, FO.put (h.b.grown hg h.bt) hst (by decide) c, newApart h.m h.mt ho, newApart' h.m h.tm ho, h.bm, newApart h.b h.bt ho, h.kP, h.kl, h.km, newk h.kt h.kw ho, h.kb, fun q hq => Nat.lt_of_lt_of_le (hw q hq) c.size⟩, hf.trans (Fk.wi c hw (fun q hq hn => h.kP (by rw [show P = q by omega]; exact hq)))⟩
end
end Go.Proofs.Ytaidbdogolhnjaa.U
