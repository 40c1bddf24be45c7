
/- Views: comparison of slices, copies. -/
import Derived.Test.YtaidbdogolhnjaaVw
set_option linter.unusedVariables false
set_option linter.unusedSimpArgs false
namespace Go.Proofs.Ytaidbdogolhnjaa.U
open Go.RowKit Go.Lib Go.Proofs.YtaidbdogolhnjaaW.PrintWords

theorem row_apart {w w' : World} {b b' t t' k k' n n' : Nat} {v v' : Value} {xs xs' : List Value} (h : w.ownsRow b t k v n xs) (h' : w'.ownsRow b' t' k' v' n' xs') (hb : w.heap.size ≤ b') : Apart v v' := by
  rcases own_base' h with e | ⟨q, e, _⟩
  · exact .inl e
  · refine .inr fun e2 => ?_
    have h1 := own_lt h q e
    have h2 := own_base h' q (by rw [← e2, e])
    omega
theorem Wi.set (w : World) (g i : Nat) (u : Value) : Wi w (w.setCell ⟨g, i, none⟩ u) g (g + 1) := ⟨rfl, rfl, rfl, by simp [World.setCell], fun k _ hn => Below.heap_setCell w ⟨g, i, none⟩ u k (fun e => hn (by simp at e; omega))⟩
theorem cell_wi {w w' : World} {lo hi : Nat} {p : Addr} {v : Value} (c : Wi w w' lo hi) (h : w.cell? p = some v) (hp : ¬ (lo ≤ p.block ∧ p.block < hi)) : w'.cell? p = some v := by
  have := c.block p.block (World.block_lt_of_cell? w p h) hp
  rw [World.cell?_of_block this]
  exact h
end Go.Proofs.Ytaidbdogolhnjaa.U
set_option linter.unusedVariables false
set_option linter.unusedSimpArgs false
namespace Go.Proofs.Ytaidbdogolhnjaa.U
open Go.RowKit Go.Lib Go.Proofs.YtaidbdogolhnjaaW.PrintWords

/-- the ten facts that five rows are apart -/
def Ap5 (vl vm vt vb vg : Value) : Prop := Apart vl vm ∧ Apart vl vt ∧ Apart vl vb ∧ Apart vl vg ∧ Apart vm vt ∧ Apart vm vb ∧ Apart vm vg ∧ Apart vt vb ∧ Apart vt vg ∧ Apart vb vg
/-- a view whose rows are the call's own, within blocks; c: its cells -/
def ViO (w : World) (lo hi : Nat) (x : Vf) (c : Nat → Option Value) : Prop := ∃ (vl vm vt vb vg : Value) (nl nm nt nb ng : Nat), c 0 = some (.int .i64 x.ro) ∧ c 1 = some (.int .i64 x.fr) ∧ c 2 = some vl ∧ c 3 = some vm ∧ c 4 = some vt ∧ c 5 = some vb ∧ c 6 = some vg ∧
    Rw w lo hi 58 3 vl nl x.lf ∧ Rw w lo hi 3 1 vm nm x.ms ∧ Rw w lo hi 3 1 vt nt x.ts ∧ Rw w lo hi 3 1 vb nb x.bd ∧ Rw w lo hi 3 1 vg ng x.gh ∧ Ap5 vl vm vt vb vg
theorem ViO.wi {w w' : World} {lo hi lo' hi' : Nat} {x : Vf} {c : Nat → Option Value} (h : ViO w lo hi x c) (k : Wi w w' lo' hi') (hd : hi ≤ lo' ∨ hi' ≤ lo) : ViO w' lo hi x c := by
  obtain ⟨vl, vm, vt, vb, vg, nl, nm, nt, nb, ng, c0, c1, c2, c3, c4, c5, c6, r1, r2, r3, r4, r5, ap⟩ := h
  exact ⟨vl, vm, vt, vb, vg, nl, nm, nt, nb, ng, c0, c1, c2, c3, c4, c5, c6, r1.wi k hd, r2.wi k hd, r3.wi k hd, r4.wi k hd, r5.wi k hd, ap⟩
theorem ViO.to {w w' : World} {lo hi : Nat} {x : Vf} {c : Nat → Option Value} (h : ViO w lo hi x c) (k : Bw w w') : ViO w' lo hi x c := by
  obtain ⟨vl, vm, vt, vb, vg, nl, nm, nt, nb, ng, c0, c1, c2, c3, c4, c5, c6, r1, r2, r3, r4, r5, ap⟩ := h
  exact ⟨vl, vm, vt, vb, vg, nl, nm, nt, nb, ng, c0, c1, c2, c3, c4, c5, c6, r1.to k, r2.to k, r3.to k, r4.to k, r5.to k, ap⟩
theorem ViO.cells {w : World} {lo hi : Nat} {x : Vf} {c c' : Nat → Option Value} (h : ViO w lo hi x c) (hc : ∀ f, f < 7 → c' f = c f) : ViO w lo hi x c' := by
  obtain ⟨vl, vm, vt, vb, vg, nl, nm, nt, nb, ng, c0, c1, c2, c3, c4, c5, c6, r⟩ := h
  exact ⟨vl, vm, vt, vb, vg, nl, nm, nt, nb, ng, (hc 0 (by omega)).trans c0, (hc 1 (by omega)).trans c1, (hc 2 (by omega)).trans c2, (hc 3 (by omega)).trans c3, (hc 4 (by omega)).trans c4, (hc 5 (by omega)).trans c5, (hc 6 (by omega)).trans c6, r⟩
/-- seven cells stored -/
def set7 (cs : Array Value) (p : Nat) (u0 u1 u2 u3 u4 u5 u6 : Value) : Array Value := ((((((cs.setIfInBounds p u0).setIfInBounds (p + 1) u1).setIfInBounds (p + 2) u2).setIfInBounds (p + 3) u3).setIfInBounds (p + 4) u4).setIfInBounds (p + 5) u5).setIfInBounds (p + 6) u6
theorem set7_far (cs : Array Value) (p : Nat) (u0 u1 u2 u3 u4 u5 u6 : Value) (q : Nat) (h : q < p ∨ p + 7 ≤ q) : (set7 cs p u0 u1 u2 u3 u4 u5 u6)[q]? = cs[q]? := by
  unfold set7
  simp only [Array.getElem?_setIfInBounds]
  rw [if_neg (by omega), if_neg (by omega), if_neg (by omega), if_neg (by omega), if_neg (by omega), if_neg (by omega), if_neg (by omega)]
theorem set7_at (cs : Array Value) (p : Nat) (u0 u1 u2 u3 u4 u5 u6 : Value) (h : p + 7 ≤ cs.size) : (set7 cs p u0 u1 u2 u3 u4 u5 u6)[p]? = some u0 ∧ (set7 cs p u0 u1 u2 u3 u4 u5 u6)[p + 1]? = some u1 ∧ (set7 cs p u0 u1 u2 u3 u4 u5 u6)[p + 2]? = some u2 ∧ (set7 cs p u0 u1 u2 u3 u4 u5 u6)[p + 3]? = some u3 ∧ (set7 cs p u0 u1 u2 u3 u4 u5 u6)[p + 4]? = some u4 ∧ (set7 cs p u0 u1 u2 u3 u4 u5 u6)[p + 5]? = some u5 ∧ (set7 cs p u0 u1 u2 u3 u4 u5 u6)[p + 6]? = some u6 := by
  unfold set7
  simp only [Array.getElem?_setIfInBounds, Array.size_setIfInBounds]
  refine ⟨?_, ?_, ?_, ?_, ?_, ?_, ?_⟩
  all_goals
    simp only [if_true]
    repeat (first | rw [if_pos (by omega)] | rw [if_neg (by omega)])
theorem set7_size (cs : Array Value) (p : Nat) (u0 u1 u2 u3 u4 u5 u6 : Value) : (set7 cs p u0 u1 u2 u3 u4 u5 u6).size = cs.size := by simp [set7]
def w7 (w : World) (g p : Nat) (u0 u1 u2 u3 u4 u5 u6 : Value) : World := ((((((w.setCell ⟨g, p, none⟩ u0).setCell ⟨g, p + 1, none⟩ u1).setCell ⟨g, p + 2, none⟩ u2).setCell ⟨g, p + 3, none⟩ u3).setCell ⟨g, p + 4, none⟩ u4).setCell ⟨g, p + 5, none⟩ u5).setCell ⟨g, p + 6, none⟩ u6
theorem w7_blk {w : World} {g : Nat} {t : TypeId} {cs : Array Value} (h : w.heap[g]? = some (.cells cs t (0, 0))) (p : Nat) (u0 u1 u2 u3 u4 u5 u6 : Value) : (w7 w g p u0 u1 u2 u3 u4 u5 u6).heap[g]? = some (.cells (set7 cs p u0 u1 u2 u3 u4 u5 u6) t (0, 0)) :=
  blk_set (blk_set (blk_set (blk_set (blk_set (blk_set (blk_set h p u0) (p + 1) u1) (p + 2) u2) (p + 3) u3) (p + 4) u4) (p + 5) u5) (p + 6) u6
theorem w7_wi (w : World) (g p : Nat) (u0 u1 u2 u3 u4 u5 u6 : Value) : Wi w (w7 w g p u0 u1 u2 u3 u4 u5 u6) g (g + 1) :=
  ((((((Wi.set w g p u0).trans (Wi.set _ g (p + 1) u1)).trans (Wi.set _ g (p + 2) u2)).trans (Wi.set _ g (p + 3) u3)).trans (Wi.set _ g (p + 4) u4)).trans (Wi.set _ g (p + 5) u5)).trans (Wi.set _ g (p + 6) u6)
theorem szTo_le (L : List Vf) : ∀ (n j : Nat), j < n → vsz (gv L j) ≤ szTo L n
  | n + 1, j, h => by
    rw [szTo]
    rcases Nat.lt_or_ge j n with h1 | h1
    · have := szTo_le L n j h1
      omega
    · obtain rfl : j = n := by omega
      omega
end Go.Proofs.Ytaidbdogolhnjaa.U
set_option linter.unusedVariables false
set_option linter.unusedSimpArgs false
namespace Go.Proofs.Ytaidbdogolhnjaa.U
open Go.RowKit Go.Lib Go.Proofs.YtaidbdogolhnjaaW.PrintWords

theorem Rw.chg' {w w' : World} {lo hi t k n : Nat} {v : Value} {F F' : List Int} (_ : Rw w' lo hi t k v n F') (h : Rw w lo hi t k v n F) (hg : w.grownBy w' v.ownBlock) : Wi w w' lo hi := h.chg hg
/-- a view's marks, from a on -/
def mkV (x : Vf) (a : Int) : Vf := ⟨a, a + 1, iota x.lf.length (a + 2), iota x.ms.length (a + 2 + x.lf.length), iota x.ts.length (a + 2 + x.lf.length + x.ms.length), iota x.bd.length (a + 2 + x.lf.length + x.ms.length + x.ts.length), iota x.gh.length (a + 2 + x.lf.length + x.ms.length + x.ts.length + x.bd.length)⟩
def msz (x : Vf) : Nat := 2 + x.lf.length + x.ms.length + x.ts.length + x.bd.length + x.gh.length
def offs (L : List Vf) : Nat → Nat
  | 0 => 0
  | j + 1 => offs L j + msz (gv L j)
/-- the views, marked -/
def mvL (L : List Vf) (a : Int) (i : Nat) : Vf := mkV (gv L i) (a + offs L i)
def markL (L : List Vf) (a : Int) : List Vf := (List.range L.length).map (mvL L a)
theorem markL_length (L : List Vf) (a : Int) : (markL L a).length = L.length := by simp [markL]
theorem markL_at (L : List Vf) (a : Int) (i : Nat) (h : i < L.length) : gv (markL L a) i = mvL L a i := by
  rw [gv_at (by rw [markL_length]; exact h)]
  simp [markL]
/-- no row is long -/
structure Short (L : List Vf) : Prop where mk :: (out : ∀ i, i < L.length → (gv L i).lf.length ≤ 3145728 ∧ (gv L i).ms.length ≤ 1048576 ∧ (gv L i).ts.length ≤ 1048576 ∧ (gv L i).bd.length ≤ 1048576 ∧ (gv L i).gh.length ≤ 1048576)
theorem offs_mono (L : List Vf) : ∀ (n j : Nat), j ≤ n → offs L j ≤ offs L n
  | 0, j, h => by rw [show j = 0 by omega]; exact Nat.le_refl _
  | n + 1, j, h => by
    rcases Nat.lt_or_ge j (n + 1) with h1 | h1
    · exact Nat.le_trans (offs_mono L n j (by omega)) (by rw [offs]; omega)
    · rw [show j = n + 1 by omega]; exact Nat.le_refl _
theorem set2_far (cs : Array Value) (p : Nat) (u0 u1 : Value) (f : Nat) (h : 2 ≤ f) : ((cs.setIfInBounds p u0).setIfInBounds (p + 1) u1)[p + f]? = cs[p + f]? := by
  simp only [Array.getElem?_setIfInBounds]
  rw [if_neg (by omega), if_neg (by omega)]
theorem set2_at (cs : Array Value) (p : Nat) (u0 u1 : Value) (h : p + 2 ≤ cs.size) : ((cs.setIfInBounds p u0).setIfInBounds (p + 1) u1)[p + 0]? = some u0 ∧ ((cs.setIfInBounds p u0).setIfInBounds (p + 1) u1)[p + 1]? = some u1 := by
  simp only [Array.getElem?_setIfInBounds, Array.size_setIfInBounds, Nat.add_zero]
  refine ⟨?_, ?_⟩
  · rw [if_neg (by omega), if_pos trivial, if_pos (by omega)]
  · rw [if_pos trivial, if_pos (by omega)]
end Go.Proofs.Ytaidbdogolhnjaa.U
set_option linter.unusedVariables false
set_option linter.unusedSimpArgs false
namespace Go.Proofs.Ytaidbdogolhnjaa.U
open Go.RowKit Go.Lib Go.Proofs.YtaidbdogolhnjaaW.PrintWords

end Go.Proofs.Ytaidbdogolhnjaa.U
