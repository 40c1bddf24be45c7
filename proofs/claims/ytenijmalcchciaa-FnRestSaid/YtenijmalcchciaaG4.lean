
/- Views: comparison of slices, copies. -/
import Derived.Test.YtenijmalcchciaaVw
set_option linter.unusedVariables false
set_option linter.unusedSimpArgs false
namespace Go.Proofs.Ytenijmalcchciaa.U
open Go.RowKit Go.Lib Go.Proofs.YtenijmalcchciaaW.PrintWords
theorem Wi.set (w : World) (g i : Nat) (u : Value) : Wi w (w.setCell ⟨g, i, none⟩ u) g (g + 1) := ⟨rfl, rfl, rfl, by simp [World.setCell], fun k _ hn => Below.heap_setCell w ⟨g, i, none⟩ u k (fun e => hn (by simp at e; omega))⟩
theorem cell_wi {w w' : World} {lo hi : Nat} {p : Addr} {v : Value} (c : Wi w w' lo hi) (h : w.cell? p = some v) (hp : ¬ (lo ≤ p.block ∧ p.block < hi)) : w'.cell? p = some v := by
 have := c.block p.block (World.block_lt_of_cell? w p h) hp
 rw [World.cell?_of_block this]
 exact h
end Go.Proofs.Ytenijmalcchciaa.U
set_option linter.unusedVariables false
set_option linter.unusedSimpArgs false
namespace Go.Proofs.Ytenijmalcchciaa.U
open Go.RowKit Go.Lib Go.Proofs.YtenijmalcchciaaW.PrintWords
def Ap5 (vl vm vt vb vg : Value) : Prop := Apart vl vm ∧ Apart vl vt ∧ Apart vl vb ∧ Apart vl vg ∧ Apart vm vt ∧ Apart vm vb ∧ Apart vm vg ∧ Apart vt vb ∧ Apart vt vg ∧ Apart vb vg
def ViO (w : World) (lo hi : Nat) (x : Vf) (c : Nat → Option Value) : Prop := ∃ (vl vm vt vb vg : Value) (nl nm nt nb ng : Nat), c 0 = some (.int .i64 x.ro) ∧ c 1 = some (.int .i64 x.fr) ∧ c 2 = some vl ∧ c 3 = some vm ∧ c 4 = some vt ∧ c 5 = some vb ∧ c 6 = some vg ∧
  Rw w lo hi 70 3 vl nl x.lf ∧ Rw w lo hi 3 1 vm nm x.ms ∧ Rw w lo hi 3 1 vt nt x.ts ∧ Rw w lo hi 3 1 vb nb x.bd ∧ Rw w lo hi 3 1 vg ng x.gh ∧ Ap5 vl vm vt vb vg
theorem ViO.wi {w w' : World} {lo hi lo' hi' : Nat} {x : Vf} {c : Nat → Option Value} (h : ViO w lo hi x c) (k : Wi w w' lo' hi') (hd : hi ≤ lo' ∨ hi' ≤ lo) : ViO w' lo hi x c := by
 obtain ⟨vl, vm, vt, vb, vg, nl, nm, nt, nb, ng, c0, c1, c2, c3, c4, c5, c6, r1, r2, r3, r4, r5, ap⟩ := h
 exact ⟨vl, vm, vt, vb, vg, nl, nm, nt, nb, ng, c0, c1, c2, c3, c4, c5, c6, r1.wi k hd, r2.wi k hd, r3.wi k hd, r4.wi k hd, r5.wi k hd, ap⟩
theorem ViO.to {w w' : World} {lo hi : Nat} {x : Vf} {c : Nat → Option Value} (h : ViO w lo hi x c) (k : Bw w w') : ViO w' lo hi x c := by
 obtain ⟨vl, vm, vt, vb, vg, nl, nm, nt, nb, ng, c0, c1, c2, c3, c4, c5, c6, r1, r2, r3, r4, r5, ap⟩ := h
 exact ⟨vl, vm, vt, vb, vg, nl, nm, nt, nb, ng, c0, c1, c2, c3, c4, c5, c6, r1.to k, r2.to k, r3.to k, r4.to k, r5.to k, ap⟩
theorem ViO.cells {w : World} {lo hi : Nat} {x : Vf} {c c' : Nat → Option Value} (h : ViO w lo hi x c) (hc : ∀ f, f < 7 → c' f = c f) : ViO w lo hi x c' := by
 obtain ⟨vl, vm, vt, vb, vg, nl, nm, nt, nb, ng, c0, c1, c2, c3, c4, c5, c6, r⟩ := h
 exact ⟨vl, vm, vt, vb, vg, nl, nm, nt, nb, ng, (hc 0 (by omega)).trans c0, (hc 1 (by omega)).trans c1, (hc 2 (by omega)).trans c2, (hc 3 (by omega)).trans c3, (hc 4 (by omega)).trans c4, (hc 5 (by omega)).trans c5, (hc 6 (by omega)).trans c6, r⟩
structure VB (w : World) (lo hi g n : Nat) (X : Nat → Vf) (cs : Array Value) (b e : Nat → Nat) : Prop where
 blk : w.heap[g]? = some (.cells cs 38 (0, 0))
 ing : lo ≤ g ∧ g < hi
 size : n * 7 ≤ cs.size
 iv : ∀ i, i < n → lo ≤ b i ∧ b i ≤ e i ∧ e i ≤ hi ∧ ¬ (b i ≤ g ∧ g < e i)
 sep : ∀ i j, i < j → j < n → e i ≤ b j
 el : ∀ i, i < n → ViO w (b i) (e i) (X i) (fun f => cs[i * 7 + f]?)
def VwO (w : World) (lo hi : Nat) (v : Value) (n : Nat) (L : List Vf) : Prop := ∃ A c, v = .slice A n c ∧ L.length = n ∧ n ≤ 9223372036854775807 ∧ (0 < n → ∃ g cs b e, A = some ⟨g, 0, none⟩ ∧ VB w lo hi g n (gv L) cs b e)
theorem VB.wi {w w' : World} {lo hi lo' hi' g n : Nat} {X : Nat → Vf} {cs : Array Value} {b e : Nat → Nat} (h : VB w lo hi g n X cs b e) (k : Wi w w' lo' hi') (hd : hi ≤ lo' ∨ hi' ≤ lo) : VB w' lo hi g n X cs b e :=
 ⟨(k.block g (blk_lt h.blk) (by have := h.ing; omega)).trans h.blk, h.ing, h.size, h.iv, h.sep, fun i hi_ => (h.el i hi_).wi k (by have := h.iv i hi_; omega)⟩
theorem VB.to {w w' : World} {lo hi g n : Nat} {X : Nat → Vf} {cs : Array Value} {b e : Nat → Nat} (h : VB w lo hi g n X cs b e) (k : Bw w w') : VB w' lo hi g n X cs b e :=
 ⟨(k.out.block g (blk_lt h.blk)).trans h.blk, h.ing, h.size, h.iv, h.sep, fun i hi_ => (h.el i hi_).to k⟩
theorem VwO.wi {w w' : World} {lo hi lo' hi' n : Nat} {v : Value} {L : List Vf} (h : VwO w lo hi v n L) (k : Wi w w' lo' hi') (hd : hi ≤ lo' ∨ hi' ≤ lo) : VwO w' lo hi v n L := by
 obtain ⟨A, c, rfl, hl, hm, hn⟩ := h
 exact ⟨A, c, rfl, hl, hm, fun h0 => by
  obtain ⟨g, cs, b, e, ea, hv⟩ := hn h0
  exact ⟨g, cs, b, e, ea, hv.wi k hd⟩⟩
theorem VwO.to {w w' : World} {lo hi n : Nat} {v : Value} {L : List Vf} (h : VwO w lo hi v n L) (k : Bw w w') : VwO w' lo hi v n L := by
 obtain ⟨A, c, rfl, hl, hm, hn⟩ := h
 exact ⟨A, c, rfl, hl, hm, fun h0 => by
  obtain ⟨g, cs, b, e, ea, hv⟩ := hn h0
  exact ⟨g, cs, b, e, ea, hv.to k⟩⟩
theorem VB.vc {w : World} {lo hi g n : Nat} {X : Nat → Vf} {cs : Array Value} {b e : Nat → Nat} (h : VB w lo hi g n X cs b e) (i : Nat) (hi_ : i < n) : VC w ⟨g, i * 7, none⟩ (X i) := by
 obtain ⟨vl, vm, vt, vb, vg, nl, nm, nt, nb, ng, c0, c1, c2, c3, c4, c5, c6, r1, r2, r3, r4, r5, ap⟩ := h.el i hi_
 obtain ⟨Al, cl, rfl, k1, q1⟩ := r1.reads
 obtain ⟨Am, cm, rfl, k2, q2⟩ := r2.reads
 obtain ⟨At, ct, rfl, k3, q3⟩ := r3.reads
 obtain ⟨Ab, cb, rfl, k4, q4⟩ := r4.reads
 obtain ⟨Ag, cg, rfl, k5, q5⟩ := r5.reads
 exact ⟨Al, nl, cl, Am, nm, cm, At, nt, ct, Ab, nb, cb, Ag, ng, cg, (blk_cell h.blk _).trans c0, (blk_cell h.blk _).trans c1, (blk_cell h.blk _).trans c2, (blk_cell h.blk _).trans c3, (blk_cell h.blk _).trans c4, (blk_cell h.blk _).trans c5, (blk_cell h.blk _).trans c6, ⟨k1, k2, k3, k4, k5⟩, ⟨q1, q2.ri, q3.ri, q4.ri, q5.ri⟩⟩
theorem VwO.reads {w : World} {lo hi n : Nat} {v : Value} {L : List Vf} (h : VwO w lo hi v n L) : ∃ A c, v = .slice A n c ∧ VwR w A n L := by
 obtain ⟨A, c, rfl, hl, hm, hn⟩ := h
 refine ⟨A, c, rfl, hl, hm, fun h0 => ?_⟩
 obtain ⟨g, cs, b, e, ea, hv⟩ := hn h0
 exact ⟨⟨g, 0, none⟩, ea, fun j hj => by rw [add_plain]; exact hv.vc j hj⟩
def set7 (cs : Array Value) (p : Nat) (u0 u1 u2 u3 u4 u5 u6 : Value) : Array Value := ((((((cs.setIfInBounds p u0).setIfInBounds (p + 1) u1).setIfInBounds (p + 2) u2).setIfInBounds (p + 3) u3).setIfInBounds (p + 4) u4).setIfInBounds (p + 5) u5).setIfInBounds (p + 6) u6
theorem set7_far (cs : Array Value) (p : Nat) (u0 u1 u2 u3 u4 u5 u6 : Value) (q : Nat) (h : q < p ∨ p + 7 ≤ q) : (set7 cs p u0 u1 u2 u3 u4 u5 u6)[q]? = cs[q]? := by
 unfold set7
 simp only [Array.getElem?_setIfInBounds]
 rw [if_neg (by omega), if_neg (by omega), if_neg (by omega), if_neg (by omega), if_neg (by omega), if_neg (by omega), if_neg (by omega)]
theorem set7_at (cs : Array Value) (p : Nat) (u0 u1 u2 u3 u4 u5 u6 : Value) (h : p + 7 ≤ cs.size) : (set7 cs p u0 u1 u2 u3 u4 u5 u6)[p]? = some u0 ∧ (set7 cs p u0 u1 u2 u3 u4 u5 u6)[p + 1]? = some u1 ∧ (set7 cs p u0 u1 u2 u3 u4 u5 u6)[p + 2]? = some u2 ∧ (set7 cs p u0 u1 u2 u3 u4 u5 u6)[p + 3]? = some u3 ∧ (set7 cs p u0 u1 u2 u3 u4 u5 u6)[p + 4]? = some u4 ∧ (set7 cs p u0 u1 u2 u3 u4 u5 u6)[p + 5]? = some u5 ∧ (set7 cs p u0 u1 u2 u3 u4 u5 u6)[p + 6]? = some u6 := by
 unfold set7
 simp only [Array.getElem?_setIfInBounds, Array.size_setIfInBounds]
 refine ⟨?_, ?_, ?_, ?_, ?_, ?_, ?_⟩
 all_goals
  simp only [if_true]
  repeat (first | rw [if_pos (by omega)] | rw [if_neg (by omega)])
theorem set7_size (cs : Array Value) (p : Nat) (u0 u1 u2 u3 u4 u5 u6 : Value) : (set7 cs p u0 u1 u2 u3 u4 u5 u6).size = cs.size := by simp [set7]
def w7 (w : World) (g p : Nat) (u0 u1 u2 u3 u4 u5 u6 : Value) : World := ((((((w.setCell ⟨g, p, none⟩ u0).setCell ⟨g, p + 1, none⟩ u1).setCell ⟨g, p + 2, none⟩ u2).setCell ⟨g, p + 3, none⟩ u3).setCell ⟨g, p + 4, none⟩ u4).setCell ⟨g, p + 5, none⟩ u5).setCell ⟨g, p + 6, none⟩ u6
theorem w7_blk {w : World} {g : Nat} {t : TypeId} {cs : Array Value} (h : w.heap[g]? = some (.cells cs t (0, 0))) (p : Nat) (u0 u1 u2 u3 u4 u5 u6 : Value) : (w7 w g p u0 u1 u2 u3 u4 u5 u6).heap[g]? = some (.cells (set7 cs p u0 u1 u2 u3 u4 u5 u6) t (0, 0)) :=
 blk_set (blk_set (blk_set (blk_set (blk_set (blk_set (blk_set h p u0) (p + 1) u1) (p + 2) u2) (p + 3) u3) (p + 4) u4) (p + 5) u5) (p + 6) u6
theorem w7_wi (w : World) (g p : Nat) (u0 u1 u2 u3 u4 u5 u6 : Value) : Wi w (w7 w g p u0 u1 u2 u3 u4 u5 u6) g (g + 1) :=
 ((((((Wi.set w g p u0).trans (Wi.set _ g (p + 1) u1)).trans (Wi.set _ g (p + 2) u2)).trans (Wi.set _ g (p + 3) u3)).trans (Wi.set _ g (p + 4) u4)).trans (Wi.set _ g (p + 5) u5)).trans (Wi.set _ g (p + 6) u6)
def VTo (w : World) (lo g n j : Nat) (L : List Vf) : Prop := ∃ cs b e, w.heap[g]? = some (.cells cs 38 (0, 0)) ∧ cs.size = n * 7 ∧ VB w lo w.heap.size g j (gv L) cs b e
theorem VTo.start {w : World} {lo g n : Nat} {cs : Array Value} (L : List Vf) (h : w.heap[g]? = some (.cells cs 38 (0, 0))) (hs : cs.size = n * 7) (hl : lo ≤ g) : VTo w lo g n 0 L := ⟨cs, fun _ => 0, fun _ => 0, h, hs, h, ⟨hl, blk_lt h⟩, by omega, fun i hi => by omega, fun i j _ hj => by omega, fun i hi => by omega⟩
theorem VTo.step {w w1 : World} {lo g n j : Nat} {L : List Vf} (h : VTo w lo g n j L) (hj : j < n) (b1 : Bw w w1) {vl vm vt vb vg : Value} {nl nm nt nb ng : Nat} (h1 : w.heap.size ≤ w1.heap.size)
  (r1 : Rw w1 (w.heap.size + 3) w1.heap.size 70 3 vl nl (gv L j).lf) (r2 : Rw w1 (w.heap.size + 3) w1.heap.size 3 1 vm nm (gv L j).ms) (r3 : Rw w1 (w.heap.size + 3) w1.heap.size 3 1 vt nt (gv L j).ts) (r4 : Rw w1 (w.heap.size + 3) w1.heap.size 3 1 vb nb (gv L j).bd) (r5 : Rw w1 (w.heap.size + 3) w1.heap.size 3 1 vg ng (gv L j).gh) (ap : Ap5 vl vm vt vb vg) (h3 : w.heap.size + 3 ≤ w1.heap.size) :
  VTo (w7 w1 g (j * 7) (.int .i64 (gv L j).ro) (.int .i64 (gv L j).fr) vl vm vt vb vg) lo g n (j + 1) L := by
 obtain ⟨cs, b, e, hk, hs, hv⟩ := h
 have hk1 := (b1.out.block g (blk_lt hk)).trans hk
 have hg : g < w.heap.size := blk_lt hk
 have kw := w7_wi w1 g (j * 7) (.int .i64 (gv L j).ro) (.int .i64 (gv L j).fr) vl vm vt vb vg
 have hat := set7_at cs (j * 7) (.int .i64 (gv L j).ro) (.int .i64 (gv L j).fr) vl vm vt vb vg (by omega)
 refine ⟨_, fun i => if i = j then w.heap.size + 3 else b i, fun i => if i = j then w1.heap.size else e i, w7_blk hk1 _ _ _ _ _ _ _ _, by rw [set7_size]; exact hs, w7_blk hk1 _ _ _ _ _ _ _ _, ⟨hv.ing.1, Nat.lt_of_lt_of_le hg (Nat.le_trans h1 kw.size)⟩, by rw [set7_size]; omega, fun i hi => ?_, fun i k hik hk => ?_, fun i hi => ?_⟩
 ·have := kw.size
  have hl := hv.ing.1
  by_cases hij : i = j
  ·simp only [if_pos hij]; omega
  ·simp only [if_neg hij]
   have := hv.iv i (by omega)
   omega
 ·by_cases hkj : k = j
  ·simp only [if_pos hkj, if_neg (show ¬ i = j by omega)]
   have := hv.iv i (by omega)
   omega
  ·simp only [if_neg hkj, if_neg (show ¬ i = j by omega)]
   exact hv.sep i k hik (by omega)
 ·by_cases hij : i = j
  ·subst hij
   simp only [if_true]
   exact ⟨vl, vm, vt, vb, vg, nl, nm, nt, nb, ng, hat.1, hat.2.1, hat.2.2.1, hat.2.2.2.1, hat.2.2.2.2.1, hat.2.2.2.2.2.1, hat.2.2.2.2.2.2, r1.wi kw (.inr (by omega)), r2.wi kw (.inr (by omega)), r3.wi kw (.inr (by omega)), r4.wi kw (.inr (by omega)), r5.wi kw (.inr (by omega)), ap⟩
  ·simp only [if_neg hij]
   have hI := hv.iv i (by omega)
   refine ((((hv.el i (by omega)).to b1).wi kw (by omega))).cells fun f hf => set7_far _ _ _ _ _ _ _ _ _ _ (by omega)
theorem VTo.cells {w w1 : World} {lo g n j : Nat} {L : List Vf} (h : VTo w lo g n j L) (hj : j < n) (b1 : Bw w w1) (f : Nat) (hf : f < 7) : (∃ u, w1.cell? ⟨g, j * 7 + f, none⟩ = some u) ∧ w1.frozen? ⟨g, j * 7 + f, none⟩ = false := by
 obtain ⟨cs, b, e, hk, hs, hv⟩ := h
 have hk1 := (b1.out.block g (blk_lt hk)).trans hk
 exact ⟨⟨_, (blk_cell hk1 _).trans (Array.getElem?_eq_getElem (by omega))⟩, blk_frozen hk1 _⟩
end Go.Proofs.Ytenijmalcchciaa.U
set_option linter.unusedVariables false
set_option linter.unusedSimpArgs false
namespace Go.Proofs.Ytenijmalcchciaa.U
open Go.RowKit Go.Lib Go.Proofs.YtenijmalcchciaaW.PrintWords
end Go.Proofs.Ytenijmalcchciaa.U
set_option linter.unusedVariables false
set_option linter.unusedSimpArgs false
namespace Go.Proofs.Ytenijmalcchciaa.U
open Go.RowKit Go.Lib Go.Proofs.YtenijmalcchciaaW.PrintWords
end Go.Proofs.Ytenijmalcchciaa.U
