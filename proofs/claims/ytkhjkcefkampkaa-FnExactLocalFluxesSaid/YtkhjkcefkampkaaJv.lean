
/- Joined views: what is answered. -/
import Derived.Test.YtkhjkcefkampkaaIa
import Derived.Test.YtkhjkcefkampkaaG4
import Derived.Test.YtkhjkcefkampkaaEq
import Derived.Test.YtkhjkcefkampkaaSs
set_option linter.unusedVariables false
set_option linter.unusedSimpArgs false
namespace Go.Proofs.Ytkhjkcefkampkaa.U
open Go.RowKit Go.Lib Go.Proofs.YtkhjkcefkampkaaW.PrintWords
structure Sta where
 ro : Int
 lv : List Ce
 ms : List Int
 ts : List Int
 bd : List Int
def sta0 : Sta := ⟨0, [], [], [], []⟩
def unC : List Int → List Ce
 | a :: b :: c :: r => ⟨a, b, c⟩ :: unC r
 | _ => []
def ceL (x : Vf) : List Ce := unC x.lf
def agree (L : List Vf) (ro : Int) (bd : List Int) : Nat → Nat → Bool
 | 0, _ => true
 | d + 1, j => (decide ((gv L j).ro = ro) && decide ((gv L j).bd = bd)) && agree L ro bd d (j + 1)
def lvTo (L : List Vf) (j : Nat) : List Ce := (L.take j).flatMap ceL
def msTo (L : List Vf) (j : Nat) : List Int := (L.take j).flatMap (·.ms)
def tsTo (L : List Vf) (j : Nat) : List Int := (L.take j).flatMap (·.ts)
def joinOk (L : List Vf) : Bool := decide (0 < L.length) && agree L (gv L 0).ro (gv L 0).bd L.length 0 && staOk (gv L 0).ro (lvTo L L.length) (msTo L L.length) (tsTo L L.length) (gv L 0).bd
def joinS (L : List Vf) : Sta := if joinOk L = true then ⟨(gv L 0).ro, lvTo L L.length, msTo L L.length, tsTo L L.length, (gv L 0).bd⟩ else sta0
def StO (w : World) (lo hi : Nat) (x : Value) (s : Sta) : Prop := ∃ (vl vm vt vb : Value), x = .agg #[.int .i64 s.ro, vl, vm, vt, vb] ∧ Rw w lo hi 70 3 vl s.lv.length (idF s.lv) ∧ Rw w lo hi 3 1 vm s.ms.length s.ms ∧ Rw w lo hi 3 1 vt s.ts.length s.ts ∧ Rw w lo hi 3 1 vb s.bd.length s.bd ∧ (Apart vl vm ∧ Apart vl vt ∧ Apart vl vb ∧ Apart vm vt ∧ Apart vm vb ∧ Apart vt vb)
theorem StO.zero (w : World) (lo hi : Nat) : StO w lo hi (.agg #[.int .i64 0, .slice none 0 0, .slice none 0 0, .slice none 0 0, .slice none 0 0]) sta0 := by
 have h : ∀ b, (Value.slice none 0 0).ownBlock = some b → b < hi := fun b e => by cases e
 exact ⟨_, _, _, _, rfl, ⟨FO.nil _ _ _ _, h⟩, ⟨FO.nil _ _ _ _, h⟩, ⟨FO.nil _ _ _ _, h⟩, ⟨FO.nil _ _ _ _, h⟩, .inl rfl, .inl rfl, .inl rfl, .inl rfl, .inl rfl, .inl rfl⟩
theorem StO.to {w w' : World} {lo hi : Nat} {x : Value} {s : Sta} (h : StO w lo hi x s) (b : Bw w w') : StO w' lo hi x s := by
 obtain ⟨vl, vm, vt, vb, rfl, h1, h2, h3, h4, ap⟩ := h
 exact ⟨vl, vm, vt, vb, rfl, h1.to b, h2.to b, h3.to b, h4.to b, ap⟩
theorem StO.wi {w w' : World} {lo hi lo' hi' : Nat} {x : Value} {s : Sta} (h : StO w lo hi x s) (k : Wi w w' lo' hi') (hd : hi ≤ lo' ∨ hi' ≤ lo) : StO w' lo hi x s := by
 obtain ⟨vl, vm, vt, vb, rfl, h1, h2, h3, h4, ap⟩ := h
 exact ⟨vl, vm, vt, vb, rfl, h1.wi k hd, h2.wi k hd, h3.wi k hd, h4.wi k hd, ap⟩
def Joined (L : List Vf) (w : World) (e : Ending) (w' : World) : Prop := ∃ x, e = .returned (.tuple #[x, .bool (joinOk L)]) ∧ StO w' w.heap.size w'.heap.size x (joinS L) ∧ Bw w w'
structure Bx (w wr : World) (G : Nat) (ro : Int) (vl : Value) (l : List Ce) (vm : Value) (m : List Int) (vt : Value) (t : List Int) (vb : Value) (b : List Int) : Prop where
 g : w.heap.size < G
 blk : wr.heap[G]? = some (.cells #[.int .i64 ro, vl, vm, vt, vb] 50 (0, 0))
 res : wr.heap[w.heap.size]? = some (.cells #[.int .i64 0, .slice none 0 0, .slice none 0 0, .slice none 0 0, .slice none 0 0] 50 (0, 0))
 hl : IdO wr w.heap.size vl l.length l
 hm : OI wr w.heap.size vm m.length m
 ht : OI wr w.heap.size vt t.length t
 hb : OI wr w.heap.size vb b.length b
 lm : Apart vl vm
 lt : Apart vl vt
 lb : Apart vl vb
 mt : Apart vm vt
 mb : Apart vm vb
 tb : Apart vt vb
 B : Bw w wr
section
variable {w wr w3 w4 : World} {G : Nat} {ro : Int} {vl : Value} {l : List Ce} {vm : Value} {m : List Int} {vt : Value} {t : List Int} {vb : Value} {b : List Int} {v1 : Value}
theorem Bx.to (h : Bx w wr G ro vl l vm m vt t vb b) (k : Bw wr w3) : Bx w w3 G ro vl l vm m vt t vb b := ⟨h.g, (k.out.block _ (blk_lt h.blk)).trans h.blk, (k.out.block _ (blk_lt h.res)).trans h.res, h.hl.to k, h.hm.to k, h.ht.to k, h.hb.to k, h.lm, h.lt, h.lb, h.mt, h.mb, h.tb, h.B.trans k⟩
theorem FO.blk {base e k n : Nat} {v : Value} {F : List Int} (h : FO w base e k v n F) (hne : e ≠ 50) {cs : Array Value} (hG : w.heap[G]? = some (.cells cs 50 (0, 0))) (i : Nat) (u : Value) : FO (w.setCell ⟨G, i, none⟩ u) base e k v n F := ⟨own_move h.out fun q hq => Below.heap_setCell w ⟨G, i, none⟩ u q (fun e2 => by
 have := own_ne h.out hG hne
 simp at e2
 exact this (by rw [hq, e2]))⟩
theorem OI.blk {base n : Nat} {v : Value} {F : List Int} (h : OI w base v n F) {cs : Array Value} (hG : w.heap[G]? = some (.cells cs 50 (0, 0))) (i : Nat) (u : Value) : OI (w.setCell ⟨G, i, none⟩ u) base v n F := ⟨(FO.blk (k := 1) ⟨h.out⟩ (by decide) hG i u).out⟩
theorem Apart.flip {u v : Value} (h : Apart u v) : Apart v u := by
 rcases h with h | h
 ·by_cases e : v.ownBlock = none
  ·exact .inl e
  ·exact .inr (by rw [h]; exact e)
 ·exact .inr (fun e => h e.symm)
def w5 (w : World) (g : Nat) (u0 u1 u2 u3 u4 : Value) : World := ((((w.setCell ⟨g, 0, none⟩ u0).setCell ⟨g, 1, none⟩ u1).setCell ⟨g, 2, none⟩ u2).setCell ⟨g, 3, none⟩ u3).setCell ⟨g, 4, none⟩ u4
theorem w5_blk {c0 c1 c2 c3 c4 u0 u1 u2 u3 u4 : Value} {e : TypeId} (h : w.heap[G]? = some (.cells #[c0, c1, c2, c3, c4] e (0, 0))) : (w5 w G u0 u1 u2 u3 u4).heap[G]? = some (.cells #[u0, u1, u2, u3, u4] e (0, 0)) := (blk_set (blk_set (blk_set (blk_set (blk_set h 0 u0) 1 u1) 2 u2) 3 u3) 4 u4).trans rfl
theorem w5_wi (w : World) (g : Nat) (u0 u1 u2 u3 u4 : Value) : Wi w (w5 w g u0 u1 u2 u3 u4) g (g + 1) := ((((Wi.set w g 0 u0).trans (Wi.set _ g 1 u1)).trans (Wi.set _ g 2 u2)).trans (Wi.set _ g 3 u3)).trans (Wi.set _ g 4 u4)
theorem OI.w5 {base n : Nat} {v : Value} {F : List Int} {cs : Array Value} (h : OI w base v n F) (hG : w.heap[G]? = some (.cells cs 50 (0, 0))) {base' : Nat} (hb : base' ≤ base) (u0 u1 u2 u3 u4 : Value) : OI (w5 w G u0 u1 u2 u3 u4) base' v n F := ⟨own_less (own_move h.out fun q hq => (w5_wi w G u0 u1 u2 u3 u4).block q (own_lt h.out q hq) (fun e2 => own_ne h.out hG (by decide) (by rw [hq, show q = G by omega]))) hb⟩
theorem Bx.start (hG : w.heap.size < G) (h1 : wr.heap[G]? = some (.cells #[.int .i64 ro, .slice none 0 0, .slice none 0 0, .slice none 0 0, vb] 50 (0, 0))) (h2 : wr.heap[w.heap.size]? = some (.cells #[.int .i64 0, .slice none 0 0, .slice none 0 0, .slice none 0 0, .slice none 0 0] 50 (0, 0))) (o : OI wr w.heap.size vb b.length b) (k : Bw w wr) : Bx w wr G ro (.slice none 0 0) [] (.slice none 0 0) [] (.slice none 0 0) [] vb b :=
 ⟨hG, h1, h2, FO.nil _ _ _ _, ⟨(FO.nil _ _ 3 1).out⟩, ⟨(FO.nil _ _ 3 1).out⟩, o, .inl rfl, .inl rfl, .inl rfl, .inl rfl, .inl rfl, .inl rfl, k⟩
theorem Bx.done (h : Bx w wr G ro vl l vm m vt t vb b) : StO (w5 wr w.heap.size (.int .i64 ro) vl vm vt vb) w.heap.size (w5 wr w.heap.size (.int .i64 ro) vl vm vt vb).heap.size (.agg #[.int .i64 ro, vl, vm, vt, vb]) ⟨ro, l, m, t, b⟩ ∧ (w5 wr w.heap.size (.int .i64 ro) vl vm vt vb).heap[w.heap.size]? = some (.cells #[.int .i64 ro, vl, vm, vt, vb] 50 (0, 0)) ∧ Bw w (w5 wr w.heap.size (.int .i64 ro) vl vm vt vb) := by
 have k := w5_wi wr w.heap.size (.int .i64 ro) vl vm vt vb
 have hs : (w5 wr w.heap.size (.int .i64 ro) vl vm vt vb).heap.size = wr.heap.size := by simp [w5, World.setCell]
 have far : ∀ {e k' n : Nat} {v : Value} {F : List Int}, FO wr w.heap.size e k' v n F → e ≠ 50 → Rw (w5 wr w.heap.size (.int .i64 ro) vl vm vt vb) w.heap.size (w5 wr w.heap.size (.int .i64 ro) vl vm vt vb).heap.size e k' v n F := fun o hne => by
  refine ⟨⟨own_move o.out fun q hq => ?_⟩, fun b hb => ?_⟩
  ·have h1 := own_ne o.out h.res hne
   exact k.block q (own_lt o.out q hq) (fun e2 => h1 (by rw [hq, show q = w.heap.size by omega]))
  ·rw [hs]; exact own_lt o.out b hb
 exact ⟨⟨vl, vm, vt, vb, rfl, far h.hl (by decide), far ⟨h.hm.out⟩ (by decide), far ⟨h.ht.out⟩ (by decide), far ⟨h.hb.out⟩ (by decide), h.lm, h.lt, h.lb, h.mt, h.mb, h.tb⟩, w5_blk h.res, h.B.then_wi k (Nat.le_refl _)⟩
end
theorem Joined.no {L : List Vf} {w w' : World} (hj : joinOk L = false) (b : Bw w w') : Joined L w (.returned (.tuple #[.agg #[.int .i64 0, .slice none 0 0, .slice none 0 0, .slice none 0 0, .slice none 0 0], .bool false])) w' :=
 ⟨_, by rw [hj], by rw [joinS, if_neg (by rw [hj]; decide)]; exact StO.zero _ _ _, b⟩
end Go.Proofs.Ytkhjkcefkampkaa.U
