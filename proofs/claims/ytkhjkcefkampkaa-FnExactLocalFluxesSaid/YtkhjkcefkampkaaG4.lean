
/- Views: comparison of slices, copies. -/
import Derived.Test.YtkhjkcefkampkaaVw
set_option linter.unusedVariables false
set_option linter.unusedSimpArgs false
namespace Go.Proofs.Ytkhjkcefkampkaa.U
open Go.RowKit Go.Lib Go.Proofs.YtkhjkcefkampkaaW.PrintWords
theorem row_apart {w w' : World} {b b' t t' k k' n n' : Nat} {v v' : Value} {xs xs' : List Value} (h : w.ownsRow b t k v n xs) (h' : w'.ownsRow b' t' k' v' n' xs') (hb : w.heap.size ≤ b') : Apart v v' := by
 rcases own_base' h with e | ⟨q, e, _⟩
 ·exact .inl e
 ·refine .inr fun e2 => ?_
  have h1 := own_lt h q e
  have h2 := own_base h' q (by rw [← e2, e])
  omega
theorem Wi.set (w : World) (g i : Nat) (u : Value) : Wi w (w.setCell ⟨g, i, none⟩ u) g (g + 1) := ⟨rfl, rfl, rfl, by simp [World.setCell], fun k _ hn => Below.heap_setCell w ⟨g, i, none⟩ u k (fun e => hn (by simp at e; omega))⟩
theorem cell_wi {w w' : World} {lo hi : Nat} {p : Addr} {v : Value} (c : Wi w w' lo hi) (h : w.cell? p = some v) (hp : ¬ (lo ≤ p.block ∧ p.block < hi)) : w'.cell? p = some v := by
 have := c.block p.block (World.block_lt_of_cell? w p h) hp
 rw [World.cell?_of_block this]
 exact h
set_option maxHeartbeats 8000000 in
set_option maxRecDepth 100000 in
theorem toView (ro fr : Int) (Al : Option Addr) (nl cl : Nat) (Am : Option Addr) (nm cm : Nat) (At : Option Addr) (nt ct : Nat) (Ab : Option Addr) (nb cb : Nat) (Ag : Option Addr) (ng cg : Nat) (x : Vf) (w : World) (r : VA w Al nl Am nm At nt Ab nb Ag ng x) (hl : nl ≤ 1048576) (hm : nm ≤ 1048576) (ht : nt ≤ 1048576) (hb : nb ≤ 1048576) (hg : ng ≤ 1048576) :
  Calls Try.prog 17 #[.agg #[.int .i64 ro, .int .i64 fr, .slice Al nl cl, .slice Am nm cm, .slice At nt ct, .slice Ab nb cb, .slice Ag ng cg]] w fun e w' => ∃ vl vm vt vb vg, e = .returned (.agg #[.int .i64 ro, .int .i64 fr, vl, vm, vt, vb, vg]) ∧ Rw w' (w.heap.size + 3) w'.heap.size 70 3 vl nl x.lf ∧ Rw w' (w.heap.size + 3) w'.heap.size 3 1 vm nm x.ms ∧ Rw w' (w.heap.size + 3) w'.heap.size 3 1 vt nt x.ts ∧ Rw w' (w.heap.size + 3) w'.heap.size 3 1 vb nb x.bd ∧ Rw w' (w.heap.size + 3) w'.heap.size 3 1 vg ng x.gh ∧
   (Apart vl vm ∧ Apart vl vt ∧ Apart vl vb ∧ Apart vl vg ∧ Apart vm vt ∧ Apart vm vb ∧ Apart vm vg ∧ Apart vt vb ∧ Apart vt vg ∧ Apart vb vg) ∧ w.heap.size + 3 ≤ w'.heap.size ∧ Bw w w' := by
 obtain ⟨lv, hlv, _⟩ := unF nl x.lf r.l.len
 rw [← hlv]
 obtain r : VA w Al nl Am nm At nt Ab nb Ag ng ⟨x.ro, x.fr, idF lv, x.ms, x.ts, x.bd, x.gh⟩ := by rw [hlv]; exact ⟨r.l, r.m, r.t, r.b, r.g⟩
 clear hlv
 have b0 := (((Bw.refl w).alloc (.cells #[.int .i64 ro, .int .i64 fr, .slice Al nl cl, .slice Am nm cm, .slice At nt ct, .slice Ab nb cb, .slice Ag ng cg] 33)).alloc (.cells #[.int .i64 0, .int .i64 0, .slice none 0 0, .slice none 0 0, .slice none 0 0, .slice none 0 0, .slice none 0 0] 38)).alloc (.cells #[.int .i64 ro, .int .i64 fr, .slice none 0 0, .slice none 0 0, .slice none 0 0, .slice none 0 0, .slice none 0 0] 38)
 have g0 := box_cell ((((Bw.refl (w.alloc (.cells #[.int .i64 ro, .int .i64 fr, .slice Al nl cl, .slice Am nm cm, .slice At nt ct, .slice Ab nb cb, .slice Ag ng cg] 33))).alloc (.cells #[.int .i64 0, .int .i64 0, .slice none 0 0, .slice none 0 0, .slice none 0 0, .slice none 0 0, .slice none 0 0] 38))).alloc (.cells #[.int .i64 ro, .int .i64 fr, .slice none 0 0, .slice none 0 0, .slice none 0 0, .slice none 0 0, .slice none 0 0] 38)) 0
 have g1 := box_cell ((((Bw.refl (w.alloc (.cells #[.int .i64 ro, .int .i64 fr, .slice Al nl cl, .slice Am nm cm, .slice At nt ct, .slice Ab nb cb, .slice Ag ng cg] 33))).alloc (.cells #[.int .i64 0, .int .i64 0, .slice none 0 0, .slice none 0 0, .slice none 0 0, .slice none 0 0, .slice none 0 0] 38))).alloc (.cells #[.int .i64 ro, .int .i64 fr, .slice none 0 0, .slice none 0 0, .slice none 0 0, .slice none 0 0, .slice none 0 0] 38)) 1
 have g2 := box_cell ((((Bw.refl (w.alloc (.cells #[.int .i64 ro, .int .i64 fr, .slice Al nl cl, .slice Am nm cm, .slice At nt ct, .slice Ab nb cb, .slice Ag ng cg] 33))).alloc (.cells #[.int .i64 0, .int .i64 0, .slice none 0 0, .slice none 0 0, .slice none 0 0, .slice none 0 0, .slice none 0 0] 38))).alloc (.cells #[.int .i64 ro, .int .i64 fr, .slice none 0 0, .slice none 0 0, .slice none 0 0, .slice none 0 0, .slice none 0 0] 38)) 2
 have g3 := box_cell ((((Bw.refl (w.alloc (.cells #[.int .i64 ro, .int .i64 fr, .slice Al nl cl, .slice Am nm cm, .slice At nt ct, .slice Ab nb cb, .slice Ag ng cg] 33))).alloc (.cells #[.int .i64 0, .int .i64 0, .slice none 0 0, .slice none 0 0, .slice none 0 0, .slice none 0 0, .slice none 0 0] 38))).alloc (.cells #[.int .i64 ro, .int .i64 fr, .slice none 0 0, .slice none 0 0, .slice none 0 0, .slice none 0 0, .slice none 0 0] 38)) 3
 have g4 := box_cell ((((Bw.refl (w.alloc (.cells #[.int .i64 ro, .int .i64 fr, .slice Al nl cl, .slice Am nm cm, .slice At nt ct, .slice Ab nb cb, .slice Ag ng cg] 33))).alloc (.cells #[.int .i64 0, .int .i64 0, .slice none 0 0, .slice none 0 0, .slice none 0 0, .slice none 0 0, .slice none 0 0] 38))).alloc (.cells #[.int .i64 ro, .int .i64 fr, .slice none 0 0, .slice none 0 0, .slice none 0 0, .slice none 0 0, .slice none 0 0] 38)) 4
 have g5 := box_cell ((((Bw.refl (w.alloc (.cells #[.int .i64 ro, .int .i64 fr, .slice Al nl cl, .slice Am nm cm, .slice At nt ct, .slice Ab nb cb, .slice Ag ng cg] 33))).alloc (.cells #[.int .i64 0, .int .i64 0, .slice none 0 0, .slice none 0 0, .slice none 0 0, .slice none 0 0, .slice none 0 0] 38))).alloc (.cells #[.int .i64 ro, .int .i64 fr, .slice none 0 0, .slice none 0 0, .slice none 0 0, .slice none 0 0, .slice none 0 0] 38)) 5
 have g6 := box_cell ((((Bw.refl (w.alloc (.cells #[.int .i64 ro, .int .i64 fr, .slice Al nl cl, .slice Am nm cm, .slice At nt ct, .slice Ab nb cb, .slice Ag ng cg] 33))).alloc (.cells #[.int .i64 0, .int .i64 0, .slice none 0 0, .slice none 0 0, .slice none 0 0, .slice none 0 0, .slice none 0 0] 38))).alloc (.cells #[.int .i64 ro, .int .i64 fr, .slice none 0 0, .slice none 0 0, .slice none 0 0, .slice none 0 0, .slice none 0 0] 38)) 6
 simp only [List.getElem?_toArray, List.getElem?_cons_zero, List.getElem?_cons_succ] at g0 g1 g2 g3 g4 g5 g6
 have H2 : (((w.alloc (.cells #[.int .i64 ro, .int .i64 fr, .slice Al nl cl, .slice Am nm cm, .slice At nt ct, .slice Ab nb cb, .slice Ag ng cg] 33)).alloc (.cells #[.int .i64 0, .int .i64 0, .slice none 0 0, .slice none 0 0, .slice none 0 0, .slice none 0 0, .slice none 0 0] 38)).alloc (.cells #[.int .i64 ro, .int .i64 fr, .slice none 0 0, .slice none 0 0, .slice none 0 0, .slice none 0 0, .slice none 0 0] 38)).heap[w.heap.size + 1]? = some (.cells #[.int .i64 0, .int .i64 0, .slice none 0 0, .slice none 0 0, .slice none 0 0, .slice none 0 0, .slice none 0 0] 38 (0, 0)) := by
  have h := heap_alloc_new (w.alloc (.cells #[.int .i64 ro, .int .i64 fr, .slice Al nl cl, .slice Am nm cm, .slice At nt ct, .slice Ab nb cb, .slice Ag ng cg] 33)) (.cells #[.int .i64 0, .int .i64 0, .slice none 0 0, .slice none 0 0, .slice none 0 0, .slice none 0 0, .slice none 0 0] 38)
  rw [show (w.alloc (.cells #[.int .i64 ro, .int .i64 fr, .slice Al nl cl, .slice Am nm cm, .slice At nt ct, .slice Ab nb cb, .slice Ag ng cg] 33)).heap.size = w.heap.size + 1 by simp] at h
  exact (Below.heap_alloc _ _ _ (blk_lt h)).trans h
 have H3 : (((w.alloc (.cells #[.int .i64 ro, .int .i64 fr, .slice Al nl cl, .slice Am nm cm, .slice At nt ct, .slice Ab nb cb, .slice Ag ng cg] 33)).alloc (.cells #[.int .i64 0, .int .i64 0, .slice none 0 0, .slice none 0 0, .slice none 0 0, .slice none 0 0, .slice none 0 0] 38)).alloc (.cells #[.int .i64 ro, .int .i64 fr, .slice none 0 0, .slice none 0 0, .slice none 0 0, .slice none 0 0, .slice none 0 0] 38)).heap[w.heap.size + 1 + 1]? = some (.cells #[.int .i64 ro, .int .i64 fr, .slice none 0 0, .slice none 0 0, .slice none 0 0, .slice none 0 0, .slice none 0 0] 38 (0, 0)) := by
  have h := heap_alloc_new ((w.alloc (.cells #[.int .i64 ro, .int .i64 fr, .slice Al nl cl, .slice Am nm cm, .slice At nt ct, .slice Ab nb cb, .slice Ag ng cg] 33)).alloc (.cells #[.int .i64 0, .int .i64 0, .slice none 0 0, .slice none 0 0, .slice none 0 0, .slice none 0 0, .slice none 0 0] 38)) (.cells #[.int .i64 ro, .int .i64 fr, .slice none 0 0, .slice none 0 0, .slice none 0 0, .slice none 0 0, .slice none 0 0] 38)
  rwa [show ((w.alloc (.cells #[.int .i64 ro, .int .i64 fr, .slice Al nl cl, .slice Am nm cm, .slice At nt ct, .slice Ab nb cb, .slice Ag ng cg] 33)).alloc (.cells #[.int .i64 0, .int .i64 0, .slice none 0 0, .slice none 0 0, .slice none 0 0, .slice none 0 0, .slice none 0 0] 38)).heap.size = w.heap.size + 2 by simp] at h
 have z0 : w.heap.size + 3 ≤ (((w.alloc (.cells #[.int .i64 ro, .int .i64 fr, .slice Al nl cl, .slice Am nm cm, .slice At nt ct, .slice Ab nb cb, .slice Ag ng cg] 33)).alloc (.cells #[.int .i64 0, .int .i64 0, .slice none 0 0, .slice none 0 0, .slice none 0 0, .slice none 0 0, .slice none 0 0] 38)).alloc (.cells #[.int .i64 ro, .int .i64 fr, .slice none 0 0, .slice none 0 0, .slice none 0 0, .slice none 0 0, .slice none 0 0] 38)).heap.size := by simp
 go_enter Try.func17, Try.ntmps17
 go_wp2_with fail
 generalize hw2 : ((w.alloc (.cells #[.int .i64 ro, .int .i64 fr, .slice Al nl cl, .slice Am nm cm, .slice At nt ct, .slice Ab nb cb, .slice Ag ng cg] 33)).alloc (.cells #[.int .i64 0, .int .i64 0, .slice none 0 0, .slice none 0 0, .slice none 0 0, .slice none 0 0, .slice none 0 0] 38)).alloc (.cells #[.int .i64 ro, .int .i64 fr, .slice none 0 0, .slice none 0 0, .slice none 0 0, .slice none 0 0, .slice none 0 0] 38) = w2 at *
 refine (toIdS Al nl cl lv _ (r.l.id.to b0) hl).mono ?_
 rintro e w3 ⟨vl, rfl, ol, b1⟩
 have rw_l := FO.rw ol
 replace rw_l := rw_l.mono z0 (Nat.le_refl _)
 obtain ⟨Xl, yl, rfl, _, _⟩ := rw_l.reads
 replace g0 := pw_cell_below b1.out g0
 replace g1 := pw_cell_below b1.out g1
 replace g2 := pw_cell_below b1.out g2
 replace g3 := pw_cell_below b1.out g3
 replace g4 := pw_cell_below b1.out g4
 replace g5 := pw_cell_below b1.out g5
 replace g6 := pw_cell_below b1.out g6
 replace H2 := (b1.out.block _ (blk_lt H2)).trans H2
 replace H3 := (b1.out.block _ (blk_lt H3)).trans H3
 have z1 := b1.size
 replace b0 := b0.trans b1
 clear b1 ol
 have s0 : w3.cell? ⟨w.heap.size + 1 + 1, 2, none⟩ = some (.slice none 0 0) := blk_cell H3 2
 have s1 := blk_frozen H3 2
 have c1 : Wi w3 (w3.setCell ⟨w.heap.size + 1 + 1, 2, none⟩ (.slice Xl nl yl)) (w.heap.size + 1 + 1) (w.heap.size + 1 + 1 + 1) := Wi.set w3 _ _ _
 replace H3 : (w3.setCell ⟨w.heap.size + 1 + 1, 2, none⟩ (.slice Xl nl yl)).heap[w.heap.size + 1 + 1]? = some (.cells #[.int .i64 ro, .int .i64 fr, (.slice Xl nl yl), .slice none 0 0, .slice none 0 0, .slice none 0 0, .slice none 0 0] 38 (0, 0)) := blk_set H3 2 (.slice Xl nl yl)
 replace H2 := (c1.block _ (blk_lt H2) (by omega)).trans H2
 replace rw_l := (rw_l.wi c1 (.inr (by omega))).mono (Nat.le_refl _) c1.size
 replace b0 := bw_set b0 (show w.heap.size ≤ w.heap.size + 1 + 1 by omega) 2 (.slice Xl nl yl)
 replace g0 := (cell_wi c1 g0 (fun q => absurd q.1 (show ¬ (w.heap.size + 1 + 1 ≤ w.heap.size) by omega)))
 replace g1 := (cell_wi c1 g1 (fun q => absurd q.1 (show ¬ (w.heap.size + 1 + 1 ≤ w.heap.size) by omega)))
 replace g2 := (cell_wi c1 g2 (fun q => absurd q.1 (show ¬ (w.heap.size + 1 + 1 ≤ w.heap.size) by omega)))
 replace g3 := (cell_wi c1 g3 (fun q => absurd q.1 (show ¬ (w.heap.size + 1 + 1 ≤ w.heap.size) by omega)))
 replace g4 := (cell_wi c1 g4 (fun q => absurd q.1 (show ¬ (w.heap.size + 1 + 1 ≤ w.heap.size) by omega)))
 replace g5 := (cell_wi c1 g5 (fun q => absurd q.1 (show ¬ (w.heap.size + 1 + 1 ≤ w.heap.size) by omega)))
 replace g6 := (cell_wi c1 g6 (fun q => absurd q.1 (show ¬ (w.heap.size + 1 + 1 ≤ w.heap.size) by omega)))
 replace z0 : w.heap.size + 3 ≤ (w3.setCell ⟨w.heap.size + 1 + 1, 2, none⟩ (.slice Xl nl yl)).heap.size := Nat.le_trans z0 (Nat.le_trans z1 c1.size)
 clear c1 z1
 generalize hw3 : w3.setCell ⟨w.heap.size + 1 + 1, 2, none⟩ (.slice Xl nl yl) = w2 at *
 go_wp2_with fail
 refine (toIntS Am nm cm x.ms _ (r.m.to b0) hm).mono ?_
 rintro e w3 ⟨vm, rfl, om, b1⟩
 have rw_m := OI.rw om
 replace rw_m := rw_m.mono z0 (Nat.le_refl _)
 obtain ⟨Xm, ym, rfl, _, _⟩ := rw_m.reads
 have ap_lm := row_apart rw_l.o.out om.out (Nat.le_refl _)
 replace rw_l := (rw_l.to b1).mono (Nat.le_refl _) b1.size
 replace g0 := pw_cell_below b1.out g0
 replace g1 := pw_cell_below b1.out g1
 replace g2 := pw_cell_below b1.out g2
 replace g3 := pw_cell_below b1.out g3
 replace g4 := pw_cell_below b1.out g4
 replace g5 := pw_cell_below b1.out g5
 replace g6 := pw_cell_below b1.out g6
 replace H2 := (b1.out.block _ (blk_lt H2)).trans H2
 replace H3 := (b1.out.block _ (blk_lt H3)).trans H3
 have z1 := b1.size
 replace b0 := b0.trans b1
 clear b1 om
 have s0 : w3.cell? ⟨w.heap.size + 1 + 1, 3, none⟩ = some (.slice none 0 0) := blk_cell H3 3
 have s1 := blk_frozen H3 3
 have c1 : Wi w3 (w3.setCell ⟨w.heap.size + 1 + 1, 3, none⟩ (.slice Xm nm ym)) (w.heap.size + 1 + 1) (w.heap.size + 1 + 1 + 1) := Wi.set w3 _ _ _
 replace H3 : (w3.setCell ⟨w.heap.size + 1 + 1, 3, none⟩ (.slice Xm nm ym)).heap[w.heap.size + 1 + 1]? = some (.cells #[.int .i64 ro, .int .i64 fr, (.slice Xl nl yl), (.slice Xm nm ym), .slice none 0 0, .slice none 0 0, .slice none 0 0] 38 (0, 0)) := blk_set H3 3 (.slice Xm nm ym)
 replace H2 := (c1.block _ (blk_lt H2) (by omega)).trans H2
 replace rw_l := (rw_l.wi c1 (.inr (by omega))).mono (Nat.le_refl _) c1.size
 replace rw_m := (rw_m.wi c1 (.inr (by omega))).mono (Nat.le_refl _) c1.size
 replace b0 := bw_set b0 (show w.heap.size ≤ w.heap.size + 1 + 1 by omega) 3 (.slice Xm nm ym)
 replace g0 := (cell_wi c1 g0 (fun q => absurd q.1 (show ¬ (w.heap.size + 1 + 1 ≤ w.heap.size) by omega)))
 replace g1 := (cell_wi c1 g1 (fun q => absurd q.1 (show ¬ (w.heap.size + 1 + 1 ≤ w.heap.size) by omega)))
 replace g2 := (cell_wi c1 g2 (fun q => absurd q.1 (show ¬ (w.heap.size + 1 + 1 ≤ w.heap.size) by omega)))
 replace g3 := (cell_wi c1 g3 (fun q => absurd q.1 (show ¬ (w.heap.size + 1 + 1 ≤ w.heap.size) by omega)))
 replace g4 := (cell_wi c1 g4 (fun q => absurd q.1 (show ¬ (w.heap.size + 1 + 1 ≤ w.heap.size) by omega)))
 replace g5 := (cell_wi c1 g5 (fun q => absurd q.1 (show ¬ (w.heap.size + 1 + 1 ≤ w.heap.size) by omega)))
 replace g6 := (cell_wi c1 g6 (fun q => absurd q.1 (show ¬ (w.heap.size + 1 + 1 ≤ w.heap.size) by omega)))
 replace z0 : w.heap.size + 3 ≤ (w3.setCell ⟨w.heap.size + 1 + 1, 3, none⟩ (.slice Xm nm ym)).heap.size := Nat.le_trans z0 (Nat.le_trans z1 c1.size)
 clear c1 z1
 generalize hw3 : w3.setCell ⟨w.heap.size + 1 + 1, 3, none⟩ (.slice Xm nm ym) = w2 at *
 go_wp2_with fail
 refine (toIntS At nt ct x.ts _ (r.t.to b0) ht).mono ?_
 rintro e w3 ⟨vt, rfl, ot, b1⟩
 have rw_t := OI.rw ot
 replace rw_t := rw_t.mono z0 (Nat.le_refl _)
 obtain ⟨Xt, yt, rfl, _, _⟩ := rw_t.reads
 have ap_lt := row_apart rw_l.o.out ot.out (Nat.le_refl _)
 replace rw_l := (rw_l.to b1).mono (Nat.le_refl _) b1.size
 have ap_mt := row_apart rw_m.o.out ot.out (Nat.le_refl _)
 replace rw_m := (rw_m.to b1).mono (Nat.le_refl _) b1.size
 replace g0 := pw_cell_below b1.out g0
 replace g1 := pw_cell_below b1.out g1
 replace g2 := pw_cell_below b1.out g2
 replace g3 := pw_cell_below b1.out g3
 replace g4 := pw_cell_below b1.out g4
 replace g5 := pw_cell_below b1.out g5
 replace g6 := pw_cell_below b1.out g6
 replace H2 := (b1.out.block _ (blk_lt H2)).trans H2
 replace H3 := (b1.out.block _ (blk_lt H3)).trans H3
 have z1 := b1.size
 replace b0 := b0.trans b1
 clear b1 ot
 have s0 : w3.cell? ⟨w.heap.size + 1 + 1, 4, none⟩ = some (.slice none 0 0) := blk_cell H3 4
 have s1 := blk_frozen H3 4
 have c1 : Wi w3 (w3.setCell ⟨w.heap.size + 1 + 1, 4, none⟩ (.slice Xt nt yt)) (w.heap.size + 1 + 1) (w.heap.size + 1 + 1 + 1) := Wi.set w3 _ _ _
 replace H3 : (w3.setCell ⟨w.heap.size + 1 + 1, 4, none⟩ (.slice Xt nt yt)).heap[w.heap.size + 1 + 1]? = some (.cells #[.int .i64 ro, .int .i64 fr, (.slice Xl nl yl), (.slice Xm nm ym), (.slice Xt nt yt), .slice none 0 0, .slice none 0 0] 38 (0, 0)) := blk_set H3 4 (.slice Xt nt yt)
 replace H2 := (c1.block _ (blk_lt H2) (by omega)).trans H2
 replace rw_l := (rw_l.wi c1 (.inr (by omega))).mono (Nat.le_refl _) c1.size
 replace rw_m := (rw_m.wi c1 (.inr (by omega))).mono (Nat.le_refl _) c1.size
 replace rw_t := (rw_t.wi c1 (.inr (by omega))).mono (Nat.le_refl _) c1.size
 replace b0 := bw_set b0 (show w.heap.size ≤ w.heap.size + 1 + 1 by omega) 4 (.slice Xt nt yt)
 replace g0 := (cell_wi c1 g0 (fun q => absurd q.1 (show ¬ (w.heap.size + 1 + 1 ≤ w.heap.size) by omega)))
 replace g1 := (cell_wi c1 g1 (fun q => absurd q.1 (show ¬ (w.heap.size + 1 + 1 ≤ w.heap.size) by omega)))
 replace g2 := (cell_wi c1 g2 (fun q => absurd q.1 (show ¬ (w.heap.size + 1 + 1 ≤ w.heap.size) by omega)))
 replace g3 := (cell_wi c1 g3 (fun q => absurd q.1 (show ¬ (w.heap.size + 1 + 1 ≤ w.heap.size) by omega)))
 replace g4 := (cell_wi c1 g4 (fun q => absurd q.1 (show ¬ (w.heap.size + 1 + 1 ≤ w.heap.size) by omega)))
 replace g5 := (cell_wi c1 g5 (fun q => absurd q.1 (show ¬ (w.heap.size + 1 + 1 ≤ w.heap.size) by omega)))
 replace g6 := (cell_wi c1 g6 (fun q => absurd q.1 (show ¬ (w.heap.size + 1 + 1 ≤ w.heap.size) by omega)))
 replace z0 : w.heap.size + 3 ≤ (w3.setCell ⟨w.heap.size + 1 + 1, 4, none⟩ (.slice Xt nt yt)).heap.size := Nat.le_trans z0 (Nat.le_trans z1 c1.size)
 clear c1 z1
 generalize hw3 : w3.setCell ⟨w.heap.size + 1 + 1, 4, none⟩ (.slice Xt nt yt) = w2 at *
 go_wp2_with fail
 refine (toIntS Ab nb cb x.bd _ (r.b.to b0) hb).mono ?_
 rintro e w3 ⟨vb, rfl, ob, b1⟩
 have rw_b := OI.rw ob
 replace rw_b := rw_b.mono z0 (Nat.le_refl _)
 obtain ⟨Xb, yb, rfl, _, _⟩ := rw_b.reads
 have ap_lb := row_apart rw_l.o.out ob.out (Nat.le_refl _)
 replace rw_l := (rw_l.to b1).mono (Nat.le_refl _) b1.size
 have ap_mb := row_apart rw_m.o.out ob.out (Nat.le_refl _)
 replace rw_m := (rw_m.to b1).mono (Nat.le_refl _) b1.size
 have ap_tb := row_apart rw_t.o.out ob.out (Nat.le_refl _)
 replace rw_t := (rw_t.to b1).mono (Nat.le_refl _) b1.size
 replace g0 := pw_cell_below b1.out g0
 replace g1 := pw_cell_below b1.out g1
 replace g2 := pw_cell_below b1.out g2
 replace g3 := pw_cell_below b1.out g3
 replace g4 := pw_cell_below b1.out g4
 replace g5 := pw_cell_below b1.out g5
 replace g6 := pw_cell_below b1.out g6
 replace H2 := (b1.out.block _ (blk_lt H2)).trans H2
 replace H3 := (b1.out.block _ (blk_lt H3)).trans H3
 have z1 := b1.size
 replace b0 := b0.trans b1
 clear b1 ob
 have s0 : w3.cell? ⟨w.heap.size + 1 + 1, 5, none⟩ = some (.slice none 0 0) := blk_cell H3 5
 have s1 := blk_frozen H3 5
 have c1 : Wi w3 (w3.setCell ⟨w.heap.size + 1 + 1, 5, none⟩ (.slice Xb nb yb)) (w.heap.size + 1 + 1) (w.heap.size + 1 + 1 + 1) := Wi.set w3 _ _ _
 replace H3 : (w3.setCell ⟨w.heap.size + 1 + 1, 5, none⟩ (.slice Xb nb yb)).heap[w.heap.size + 1 + 1]? = some (.cells #[.int .i64 ro, .int .i64 fr, (.slice Xl nl yl), (.slice Xm nm ym), (.slice Xt nt yt), (.slice Xb nb yb), .slice none 0 0] 38 (0, 0)) := blk_set H3 5 (.slice Xb nb yb)
 replace H2 := (c1.block _ (blk_lt H2) (by omega)).trans H2
 replace rw_l := (rw_l.wi c1 (.inr (by omega))).mono (Nat.le_refl _) c1.size
 replace rw_m := (rw_m.wi c1 (.inr (by omega))).mono (Nat.le_refl _) c1.size
 replace rw_t := (rw_t.wi c1 (.inr (by omega))).mono (Nat.le_refl _) c1.size
 replace rw_b := (rw_b.wi c1 (.inr (by omega))).mono (Nat.le_refl _) c1.size
 replace b0 := bw_set b0 (show w.heap.size ≤ w.heap.size + 1 + 1 by omega) 5 (.slice Xb nb yb)
 replace g0 := (cell_wi c1 g0 (fun q => absurd q.1 (show ¬ (w.heap.size + 1 + 1 ≤ w.heap.size) by omega)))
 replace g1 := (cell_wi c1 g1 (fun q => absurd q.1 (show ¬ (w.heap.size + 1 + 1 ≤ w.heap.size) by omega)))
 replace g2 := (cell_wi c1 g2 (fun q => absurd q.1 (show ¬ (w.heap.size + 1 + 1 ≤ w.heap.size) by omega)))
 replace g3 := (cell_wi c1 g3 (fun q => absurd q.1 (show ¬ (w.heap.size + 1 + 1 ≤ w.heap.size) by omega)))
 replace g4 := (cell_wi c1 g4 (fun q => absurd q.1 (show ¬ (w.heap.size + 1 + 1 ≤ w.heap.size) by omega)))
 replace g5 := (cell_wi c1 g5 (fun q => absurd q.1 (show ¬ (w.heap.size + 1 + 1 ≤ w.heap.size) by omega)))
 replace g6 := (cell_wi c1 g6 (fun q => absurd q.1 (show ¬ (w.heap.size + 1 + 1 ≤ w.heap.size) by omega)))
 replace z0 : w.heap.size + 3 ≤ (w3.setCell ⟨w.heap.size + 1 + 1, 5, none⟩ (.slice Xb nb yb)).heap.size := Nat.le_trans z0 (Nat.le_trans z1 c1.size)
 clear c1 z1
 generalize hw3 : w3.setCell ⟨w.heap.size + 1 + 1, 5, none⟩ (.slice Xb nb yb) = w2 at *
 go_wp2_with fail
 refine (toIntS Ag ng cg x.gh _ (r.g.to b0) hg).mono ?_
 rintro e w3 ⟨vg, rfl, og, b1⟩
 have rw_g := OI.rw og
 replace rw_g := rw_g.mono z0 (Nat.le_refl _)
 obtain ⟨Xg, yg, rfl, _, _⟩ := rw_g.reads
 have ap_lg := row_apart rw_l.o.out og.out (Nat.le_refl _)
 replace rw_l := (rw_l.to b1).mono (Nat.le_refl _) b1.size
 have ap_mg := row_apart rw_m.o.out og.out (Nat.le_refl _)
 replace rw_m := (rw_m.to b1).mono (Nat.le_refl _) b1.size
 have ap_tg := row_apart rw_t.o.out og.out (Nat.le_refl _)
 replace rw_t := (rw_t.to b1).mono (Nat.le_refl _) b1.size
 have ap_bg := row_apart rw_b.o.out og.out (Nat.le_refl _)
 replace rw_b := (rw_b.to b1).mono (Nat.le_refl _) b1.size
 replace g0 := pw_cell_below b1.out g0
 replace g1 := pw_cell_below b1.out g1
 replace g2 := pw_cell_below b1.out g2
 replace g3 := pw_cell_below b1.out g3
 replace g4 := pw_cell_below b1.out g4
 replace g5 := pw_cell_below b1.out g5
 replace g6 := pw_cell_below b1.out g6
 replace H2 := (b1.out.block _ (blk_lt H2)).trans H2
 replace H3 := (b1.out.block _ (blk_lt H3)).trans H3
 have z1 := b1.size
 replace b0 := b0.trans b1
 clear b1 og
 have s0 : w3.cell? ⟨w.heap.size + 1 + 1, 6, none⟩ = some (.slice none 0 0) := blk_cell H3 6
 have s1 := blk_frozen H3 6
 have c1 : Wi w3 (w3.setCell ⟨w.heap.size + 1 + 1, 6, none⟩ (.slice Xg ng yg)) (w.heap.size + 1 + 1) (w.heap.size + 1 + 1 + 1) := Wi.set w3 _ _ _
 replace H3 : (w3.setCell ⟨w.heap.size + 1 + 1, 6, none⟩ (.slice Xg ng yg)).heap[w.heap.size + 1 + 1]? = some (.cells #[.int .i64 ro, .int .i64 fr, (.slice Xl nl yl), (.slice Xm nm ym), (.slice Xt nt yt), (.slice Xb nb yb), (.slice Xg ng yg)] 38 (0, 0)) := blk_set H3 6 (.slice Xg ng yg)
 replace H2 := (c1.block _ (blk_lt H2) (by omega)).trans H2
 replace rw_l := (rw_l.wi c1 (.inr (by omega))).mono (Nat.le_refl _) c1.size
 replace rw_m := (rw_m.wi c1 (.inr (by omega))).mono (Nat.le_refl _) c1.size
 replace rw_t := (rw_t.wi c1 (.inr (by omega))).mono (Nat.le_refl _) c1.size
 replace rw_b := (rw_b.wi c1 (.inr (by omega))).mono (Nat.le_refl _) c1.size
 replace rw_g := (rw_g.wi c1 (.inr (by omega))).mono (Nat.le_refl _) c1.size
 replace b0 := bw_set b0 (show w.heap.size ≤ w.heap.size + 1 + 1 by omega) 6 (.slice Xg ng yg)
 replace g0 := (cell_wi c1 g0 (fun q => absurd q.1 (show ¬ (w.heap.size + 1 + 1 ≤ w.heap.size) by omega)))
 replace g1 := (cell_wi c1 g1 (fun q => absurd q.1 (show ¬ (w.heap.size + 1 + 1 ≤ w.heap.size) by omega)))
 replace g2 := (cell_wi c1 g2 (fun q => absurd q.1 (show ¬ (w.heap.size + 1 + 1 ≤ w.heap.size) by omega)))
 replace g3 := (cell_wi c1 g3 (fun q => absurd q.1 (show ¬ (w.heap.size + 1 + 1 ≤ w.heap.size) by omega)))
 replace g4 := (cell_wi c1 g4 (fun q => absurd q.1 (show ¬ (w.heap.size + 1 + 1 ≤ w.heap.size) by omega)))
 replace g5 := (cell_wi c1 g5 (fun q => absurd q.1 (show ¬ (w.heap.size + 1 + 1 ≤ w.heap.size) by omega)))
 replace g6 := (cell_wi c1 g6 (fun q => absurd q.1 (show ¬ (w.heap.size + 1 + 1 ≤ w.heap.size) by omega)))
 replace z0 : w.heap.size + 3 ≤ (w3.setCell ⟨w.heap.size + 1 + 1, 6, none⟩ (.slice Xg ng yg)).heap.size := Nat.le_trans z0 (Nat.le_trans z1 c1.size)
 clear c1 z1
 generalize hw3 : w3.setCell ⟨w.heap.size + 1 + 1, 6, none⟩ (.slice Xg ng yg) = w2 at *
 have p0 := (blk_cell H2 0).trans (show _ = some (Value.int .i64 0) from rfl)
 have p1 := (blk_cell H2 1).trans (show _ = some (Value.int .i64 0) from rfl)
 have p2 := (blk_cell H2 2).trans (show _ = some (Value.slice none 0 0) from rfl)
 have p3 := (blk_cell H2 3).trans (show _ = some (Value.slice none 0 0) from rfl)
 have p4 := (blk_cell H2 4).trans (show _ = some (Value.slice none 0 0) from rfl)
 have p5 := (blk_cell H2 5).trans (show _ = some (Value.slice none 0 0) from rfl)
 have p6 := (blk_cell H2 6).trans (show _ = some (Value.slice none 0 0) from rfl)
 have l0 := (blk_cell H3 0).trans (show _ = some (Value.int .i64 ro) from rfl)
 have l1 := (blk_cell H3 1).trans (show _ = some (Value.int .i64 fr) from rfl)
 have l2 := (blk_cell H3 2).trans (show _ = some (Value.slice Xl nl yl) from rfl)
 have l3 := (blk_cell H3 3).trans (show _ = some (Value.slice Xm nm ym) from rfl)
 have l4 := (blk_cell H3 4).trans (show _ = some (Value.slice Xt nt yt) from rfl)
 have l5 := (blk_cell H3 5).trans (show _ = some (Value.slice Xb nb yb) from rfl)
 have l6 := (blk_cell H3 6).trans (show _ = some (Value.slice Xg ng yg) from rfl)
 have f0 := blk_frozen H2 0
 have f1 := blk_frozen H2 1
 have f2 := blk_frozen H2 2
 have f3 := blk_frozen H2 3
 have f4 := blk_frozen H2 4
 have f5 := blk_frozen H2 5
 have f6 := blk_frozen H2 6
 have HF : (((((((w2.setCell ⟨w.heap.size + 1, 0, none⟩ (.int .i64 ro)).setCell ⟨w.heap.size + 1, 1, none⟩ (.int .i64 fr)).setCell ⟨w.heap.size + 1, 2, none⟩ (.slice Xl nl yl)).setCell ⟨w.heap.size + 1, 3, none⟩ (.slice Xm nm ym)).setCell ⟨w.heap.size + 1, 4, none⟩ (.slice Xt nt yt)).setCell ⟨w.heap.size + 1, 5, none⟩ (.slice Xb nb yb)).setCell ⟨w.heap.size + 1, 6, none⟩ (.slice Xg ng yg)).heap[w.heap.size + 1]? = some (.cells #[.int .i64 ro, .int .i64 fr, .slice Xl nl yl, .slice Xm nm ym, .slice Xt nt yt, .slice Xb nb yb, .slice Xg ng yg] 38 (0, 0)) := blk_set (blk_set (blk_set (blk_set (blk_set (blk_set (blk_set (H2) 0 (.int .i64 ro)) 1 (.int .i64 fr)) 2 (.slice Xl nl yl)) 3 (.slice Xm nm ym)) 4 (.slice Xt nt yt)) 5 (.slice Xb nb yb)) 6 (.slice Xg ng yg)
 have CF : Wi w2 (((((((w2.setCell ⟨w.heap.size + 1, 0, none⟩ (.int .i64 ro)).setCell ⟨w.heap.size + 1, 1, none⟩ (.int .i64 fr)).setCell ⟨w.heap.size + 1, 2, none⟩ (.slice Xl nl yl)).setCell ⟨w.heap.size + 1, 3, none⟩ (.slice Xm nm ym)).setCell ⟨w.heap.size + 1, 4, none⟩ (.slice Xt nt yt)).setCell ⟨w.heap.size + 1, 5, none⟩ (.slice Xb nb yb)).setCell ⟨w.heap.size + 1, 6, none⟩ (.slice Xg ng yg)) (w.heap.size + 1) (w.heap.size + 1 + 1) := (((((((Wi.refl w2 (w.heap.size + 1) (w.heap.size + 1 + 1)).trans (Wi.set _ _ 0 (.int .i64 ro))).trans (Wi.set _ _ 1 (.int .i64 fr))).trans (Wi.set _ _ 2 (.slice Xl nl yl))).trans (Wi.set _ _ 3 (.slice Xm nm ym))).trans (Wi.set _ _ 4 (.slice Xt nt yt))).trans (Wi.set _ _ 5 (.slice Xb nb yb))).trans (Wi.set _ _ 6 (.slice Xg ng yg))
 have BF : Bw w (((((((w2.setCell ⟨w.heap.size + 1, 0, none⟩ (.int .i64 ro)).setCell ⟨w.heap.size + 1, 1, none⟩ (.int .i64 fr)).setCell ⟨w.heap.size + 1, 2, none⟩ (.slice Xl nl yl)).setCell ⟨w.heap.size + 1, 3, none⟩ (.slice Xm nm ym)).setCell ⟨w.heap.size + 1, 4, none⟩ (.slice Xt nt yt)).setCell ⟨w.heap.size + 1, 5, none⟩ (.slice Xb nb yb)).setCell ⟨w.heap.size + 1, 6, none⟩ (.slice Xg ng yg)) := bw_set (bw_set (bw_set (bw_set (bw_set (bw_set (bw_set (b0) (show w.heap.size ≤ w.heap.size + 1 by omega) 0 (.int .i64 ro)) (show w.heap.size ≤ w.heap.size + 1 by omega) 1 (.int .i64 fr)) (show w.heap.size ≤ w.heap.size + 1 by omega) 2 (.slice Xl nl yl)) (show w.heap.size ≤ w.heap.size + 1 by omega) 3 (.slice Xm nm ym)) (show w.heap.size ≤ w.heap.size + 1 by omega) 4 (.slice Xt nt yt)) (show w.heap.size ≤ w.heap.size + 1 by omega) 5 (.slice Xb nb yb)) (show w.heap.size ≤ w.heap.size + 1 by omega) 6 (.slice Xg ng yg)
 have q_l := (rw_l.wi CF (.inr (by omega))).mono (Nat.le_refl _) CF.size
 have q_m := (rw_m.wi CF (.inr (by omega))).mono (Nat.le_refl _) CF.size
 have q_t := (rw_t.wi CF (.inr (by omega))).mono (Nat.le_refl _) CF.size
 have q_b := (rw_b.wi CF (.inr (by omega))).mono (Nat.le_refl _) CF.size
 have q_g := (rw_g.wi CF (.inr (by omega))).mono (Nat.le_refl _) CF.size
 have HZF := hid (Nat.le_trans z0 CF.size)
 have HHF := hid HF
 have HBF := hid BF
 have Hq_l := hid q_l
 have Hq_m := hid q_m
 have Hq_t := hid q_t
 have Hq_b := hid q_b
 have Hq_g := hid q_g
 clear HF CF BF q_l q_m q_t q_b q_g H2 H3 rw_l rw_m rw_t rw_b rw_g
 go_wp2
 refine bodyPost_ret (results_cell_row rfl _ _ (w.heap.size + 1) 38 #[.int .i64 ro, .int .i64 fr, .slice Xl nl yl, .slice Xm nm ym, .slice Xt nt yt, .slice Xb nb yb, .slice Xg ng yg] (0, 0) _ rfl HHF.out Try.underlying38 rfl (by kernel_rfl)) rfl ?_
 exact ⟨_, _, _, _, _, rfl, Hq_l.out, Hq_m.out, Hq_t.out, Hq_b.out, Hq_g.out, ⟨ap_lm, ap_lt, ap_lb, ap_lg, ap_mt, ap_mb, ap_mg, ap_tb, ap_tg, ap_bg⟩, HZF.out, HBF.out⟩
end Go.Proofs.Ytkhjkcefkampkaa.U
set_option linter.unusedVariables false
set_option linter.unusedSimpArgs false
namespace Go.Proofs.Ytkhjkcefkampkaa.U
open Go.RowKit Go.Lib Go.Proofs.YtkhjkcefkampkaaW.PrintWords
def Ap5 (vl vm vt vb vg : Value) : Prop := Apart vl vm ∧ Apart vl vt ∧ Apart vl vb ∧ Apart vl vg ∧ Apart vm vt ∧ Apart vm vb ∧ Apart vm vg ∧ Apart vt vb ∧ Apart vt vg ∧ Apart vb vg
def ViO (w : World) (lo hi : Nat) (x : Vf) (c : Nat → Option Value) : Prop := ∃ (vl vm vt vb vg : Value) (nl nm nt nb ng : Nat), c 0 = some (.int .i64 x.ro) ∧ c 1 = some (.int .i64 x.fr) ∧ c 2 = some vl ∧ c 3 = some vm ∧ c 4 = some vt ∧ c 5 = some vb ∧ c 6 = some vg ∧
  Rw w lo hi 70 3 vl nl x.lf ∧ Rw w lo hi 3 1 vm nm x.ms ∧ Rw w lo hi 3 1 vt nt x.ts ∧ Rw w lo hi 3 1 vb nb x.bd ∧ Rw w lo hi 3 1 vg ng x.gh ∧ Ap5 vl vm vt vb vg
theorem ViO.wi {w w' : World} {lo hi lo' hi' : Nat} {x : Vf} {c : Nat → Option Value} (h : ViO w lo hi x c) (k : Wi w w' lo' hi') (hd : hi ≤ lo' ∨ hi' ≤ lo) : ViO w' lo hi x c := by
 obtain ⟨vl, vm, vt, vb, vg, nl, nm, nt, nb, ng, c0, c1, c2, c3, c4, c5, c6, r1, r2, r3, r4, r5, ap⟩ := h
 exact ⟨vl, vm, vt, vb, vg, nl, nm, nt, nb, ng, c0, c1, c2, c3, c4, c5, c6, r1.wi k hd, r2.wi k hd, r3.wi k hd, r4.wi k hd, r5.wi k hd, ap⟩
theorem ViO.to {w w' : World} {lo hi : Nat} {x : Vf} {c : Nat → Option Value} (h : ViO w lo hi x c) (k : Bw w w') : ViO w' lo hi x c := by
 obtain ⟨vl, vm, vt, vb, vg, nl, nm, nt, nb, ng, c0, c1, c2, c3, c4, c5, c6, r1, r2, r3, r4, r5, ap⟩ := h
 exact ⟨vl, vm, vt, vb, vg, nl, nm, nt, nb, ng, c0, c1, c2, c3, c4, c5, c6, r1.to k, r2.to k, r3.to k, r4.to k, r5.to k, ap⟩
theorem ViO.cells {w : World} {lo hi : Nat} {x : Vf} {c c' : Nat → Option Value} (h : ViO w lo hi x c) (hc : ∀ f, f < 7 → c' f = c f) : ViO w lo hi x c' := by
 obtain ⟨vl, vm, vt, vb, vg, nl, nm, nt, nb, ng, c0, c1, c2, c3, c4, c5, c6, r⟩ := h
 exact ⟨vl, vm, vt, vb, vg, nl, nm, nt, nb, ng, (hc 0 (by omega)).trans c0, (hc 1 (by omega)).trans c1, (hc 2 (by omega)).trans c2, (hc 3 (by omega)).trans c3, (hc 4 (by omega)).trans c4, (hc 5 (by omega)).trans c5, (hc 6 (by omega)).trans c6, r⟩
structure VB (w : World) (lo hi g n : Nat) (X : Nat → Vf) (cs : Array Value) (b e : Nat → Nat) : Prop where
 blk : w.heap[g]? = some (.cells cs 38 (0, 0))
 ing : lo ≤ g ∧ g < hi
 size : n * 7 ≤ cs.size
 iv : ∀ i, i < n → lo ≤ b i ∧ b i ≤ e i ∧ e i ≤ hi ∧ ¬ (b i ≤ g ∧ g < e i)
 sep : ∀ i j, i < j → j < n → e i ≤ b j
 el : ∀ i, i < n → ViO w (b i) (e i) (X i) (fun f => cs[i * 7 + f]?)
def VwO (w : World) (lo hi : Nat) (v : Value) (n : Nat) (L : List Vf) : Prop := ∃ A c, v = .slice A n c ∧ L.length = n ∧ n ≤ 9223372036854775807 ∧ (0 < n → ∃ g cs b e, A = some ⟨g, 0, none⟩ ∧ VB w lo hi g n (gv L) cs b e)
theorem VB.wi {w w' : World} {lo hi lo' hi' g n : Nat} {X : Nat → Vf} {cs : Array Value} {b e : Nat → Nat} (h : VB w lo hi g n X cs b e) (k : Wi w w' lo' hi') (hd : hi ≤ lo' ∨ hi' ≤ lo) : VB w' lo hi g n X cs b e :=
 ⟨(k.block g (blk_lt h.blk) (by have := h.ing; omega)).trans h.blk, h.ing, h.size, h.iv, h.sep, fun i hi_ => (h.el i hi_).wi k (by have := h.iv i hi_; omega)⟩
theorem VB.to {w w' : World} {lo hi g n : Nat} {X : Nat → Vf} {cs : Array Value} {b e : Nat → Nat} (h : VB w lo hi g n X cs b e) (k : Bw w w') : VB w' lo hi g n X cs b e :=
 ⟨(k.out.block g (blk_lt h.blk)).trans h.blk, h.ing, h.size, h.iv, h.sep, fun i hi_ => (h.el i hi_).to k⟩
theorem VwO.wi {w w' : World} {lo hi lo' hi' n : Nat} {v : Value} {L : List Vf} (h : VwO w lo hi v n L) (k : Wi w w' lo' hi') (hd : hi ≤ lo' ∨ hi' ≤ lo) : VwO w' lo hi v n L := by
 obtain ⟨A, c, rfl, hl, hm, hn⟩ := h
 exact ⟨A, c, rfl, hl, hm, fun h0 => by
  obtain ⟨g, cs, b, e, ea, hv⟩ := hn h0
  exact ⟨g, cs, b, e, ea, hv.wi k hd⟩⟩
theorem VwO.to {w w' : World} {lo hi n : Nat} {v : Value} {L : List Vf} (h : VwO w lo hi v n L) (k : Bw w w') : VwO w' lo hi v n L := by
 obtain ⟨A, c, rfl, hl, hm, hn⟩ := h
 exact ⟨A, c, rfl, hl, hm, fun h0 => by
  obtain ⟨g, cs, b, e, ea, hv⟩ := hn h0
  exact ⟨g, cs, b, e, ea, hv.to k⟩⟩
theorem VB.vc {w : World} {lo hi g n : Nat} {X : Nat → Vf} {cs : Array Value} {b e : Nat → Nat} (h : VB w lo hi g n X cs b e) (i : Nat) (hi_ : i < n) : VC w ⟨g, i * 7, none⟩ (X i) := by
 obtain ⟨vl, vm, vt, vb, vg, nl, nm, nt, nb, ng, c0, c1, c2, c3, c4, c5, c6, r1, r2, r3, r4, r5, ap⟩ := h.el i hi_
 obtain ⟨Al, cl, rfl, k1, q1⟩ := r1.reads
 obtain ⟨Am, cm, rfl, k2, q2⟩ := r2.reads
 obtain ⟨At, ct, rfl, k3, q3⟩ := r3.reads
 obtain ⟨Ab, cb, rfl, k4, q4⟩ := r4.reads
 obtain ⟨Ag, cg, rfl, k5, q5⟩ := r5.reads
 exact ⟨Al, nl, cl, Am, nm, cm, At, nt, ct, Ab, nb, cb, Ag, ng, cg, (blk_cell h.blk _).trans c0, (blk_cell h.blk _).trans c1, (blk_cell h.blk _).trans c2, (blk_cell h.blk _).trans c3, (blk_cell h.blk _).trans c4, (blk_cell h.blk _).trans c5, (blk_cell h.blk _).trans c6, ⟨k1, k2, k3, k4, k5⟩, ⟨q1, q2.ri, q3.ri, q4.ri, q5.ri⟩⟩
theorem VwO.reads {w : World} {lo hi n : Nat} {v : Value} {L : List Vf} (h : VwO w lo hi v n L) : ∃ A c, v = .slice A n c ∧ VwR w A n L := by
 obtain ⟨A, c, rfl, hl, hm, hn⟩ := h
 refine ⟨A, c, rfl, hl, hm, fun h0 => ?_⟩
 obtain ⟨g, cs, b, e, ea, hv⟩ := hn h0
 exact ⟨⟨g, 0, none⟩, ea, fun j hj => by rw [add_plain]; exact hv.vc j hj⟩
def set7 (cs : Array Value) (p : Nat) (u0 u1 u2 u3 u4 u5 u6 : Value) : Array Value := ((((((cs.setIfInBounds p u0).setIfInBounds (p + 1) u1).setIfInBounds (p + 2) u2).setIfInBounds (p + 3) u3).setIfInBounds (p + 4) u4).setIfInBounds (p + 5) u5).setIfInBounds (p + 6) u6
theorem set7_far (cs : Array Value) (p : Nat) (u0 u1 u2 u3 u4 u5 u6 : Value) (q : Nat) (h : q < p ∨ p + 7 ≤ q) : (set7 cs p u0 u1 u2 u3 u4 u5 u6)[q]? = cs[q]? := by
 unfold set7
 simp only [Array.getElem?_setIfInBounds]
 rw [if_neg (by omega), if_neg (by omega), if_neg (by omega), if_neg (by omega), if_neg (by omega), if_neg (by omega), if_neg (by omega)]
theorem set7_at (cs : Array Value) (p : Nat) (u0 u1 u2 u3 u4 u5 u6 : Value) (h : p + 7 ≤ cs.size) : (set7 cs p u0 u1 u2 u3 u4 u5 u6)[p]? = some u0 ∧ (set7 cs p u0 u1 u2 u3 u4 u5 u6)[p + 1]? = some u1 ∧ (set7 cs p u0 u1 u2 u3 u4 u5 u6)[p + 2]? = some u2 ∧ (set7 cs p u0 u1 u2 u3 u4 u5 u6)[p + 3]? = some u3 ∧ (set7 cs p u0 u1 u2 u3 u4 u5 u6)[p + 4]? = some u4 ∧ (set7 cs p u0 u1 u2 u3 u4 u5 u6)[p + 5]? = some u5 ∧ (set7 cs p u0 u1 u2 u3 u4 u5 u6)[p + 6]? = some u6 := by
 unfold set7
 simp only [Array.getElem?_setIfInBounds, Array.size_setIfInBounds]
 refine ⟨?_, ?_, ?_, ?_, ?_, ?_, ?_⟩
 all_goals
  simp only [if_true]
  repeat (first | rw [if_pos (by omega)] | rw [if_neg (by omega)])
theorem set7_size (cs : Array Value) (p : Nat) (u0 u1 u2 u3 u4 u5 u6 : Value) : (set7 cs p u0 u1 u2 u3 u4 u5 u6).size = cs.size := by simp [set7]
def w7 (w : World) (g p : Nat) (u0 u1 u2 u3 u4 u5 u6 : Value) : World := ((((((w.setCell ⟨g, p, none⟩ u0).setCell ⟨g, p + 1, none⟩ u1).setCell ⟨g, p + 2, none⟩ u2).setCell ⟨g, p + 3, none⟩ u3).setCell ⟨g, p + 4, none⟩ u4).setCell ⟨g, p + 5, none⟩ u5).setCell ⟨g, p + 6, none⟩ u6
theorem w7_blk {w : World} {g : Nat} {t : TypeId} {cs : Array Value} (h : w.heap[g]? = some (.cells cs t (0, 0))) (p : Nat) (u0 u1 u2 u3 u4 u5 u6 : Value) : (w7 w g p u0 u1 u2 u3 u4 u5 u6).heap[g]? = some (.cells (set7 cs p u0 u1 u2 u3 u4 u5 u6) t (0, 0)) :=
 blk_set (blk_set (blk_set (blk_set (blk_set (blk_set (blk_set h p u0) (p + 1) u1) (p + 2) u2) (p + 3) u3) (p + 4) u4) (p + 5) u5) (p + 6) u6
theorem w7_wi (w : World) (g p : Nat) (u0 u1 u2 u3 u4 u5 u6 : Value) : Wi w (w7 w g p u0 u1 u2 u3 u4 u5 u6) g (g + 1) :=
 ((((((Wi.set w g p u0).trans (Wi.set _ g (p + 1) u1)).trans (Wi.set _ g (p + 2) u2)).trans (Wi.set _ g (p + 3) u3)).trans (Wi.set _ g (p + 4) u4)).trans (Wi.set _ g (p + 5) u5)).trans (Wi.set _ g (p + 6) u6)
def VTo (w : World) (lo g n j : Nat) (L : List Vf) : Prop := ∃ cs b e, w.heap[g]? = some (.cells cs 38 (0, 0)) ∧ cs.size = n * 7 ∧ VB w lo w.heap.size g j (gv L) cs b e
theorem VTo.start {w : World} {lo g n : Nat} {cs : Array Value} (L : List Vf) (h : w.heap[g]? = some (.cells cs 38 (0, 0))) (hs : cs.size = n * 7) (hl : lo ≤ g) : VTo w lo g n 0 L := ⟨cs, fun _ => 0, fun _ => 0, h, hs, h, ⟨hl, blk_lt h⟩, by omega, fun i hi => by omega, fun i j _ hj => by omega, fun i hi => by omega⟩
theorem VTo.step {w w1 : World} {lo g n j : Nat} {L : List Vf} (h : VTo w lo g n j L) (hj : j < n) (b1 : Bw w w1) {vl vm vt vb vg : Value} {nl nm nt nb ng : Nat} (h1 : w.heap.size ≤ w1.heap.size)
  (r1 : Rw w1 (w.heap.size + 3) w1.heap.size 70 3 vl nl (gv L j).lf) (r2 : Rw w1 (w.heap.size + 3) w1.heap.size 3 1 vm nm (gv L j).ms) (r3 : Rw w1 (w.heap.size + 3) w1.heap.size 3 1 vt nt (gv L j).ts) (r4 : Rw w1 (w.heap.size + 3) w1.heap.size 3 1 vb nb (gv L j).bd) (r5 : Rw w1 (w.heap.size + 3) w1.heap.size 3 1 vg ng (gv L j).gh) (ap : Ap5 vl vm vt vb vg) (h3 : w.heap.size + 3 ≤ w1.heap.size) :
  VTo (w7 w1 g (j * 7) (.int .i64 (gv L j).ro) (.int .i64 (gv L j).fr) vl vm vt vb vg) lo g n (j + 1) L := by
 obtain ⟨cs, b, e, hk, hs, hv⟩ := h
 have hk1 := (b1.out.block g (blk_lt hk)).trans hk
 have hg : g < w.heap.size := blk_lt hk
 have kw := w7_wi w1 g (j * 7) (.int .i64 (gv L j).ro) (.int .i64 (gv L j).fr) vl vm vt vb vg
 have hat := set7_at cs (j * 7) (.int .i64 (gv L j).ro) (.int .i64 (gv L j).fr) vl vm vt vb vg (by omega)
 refine ⟨_, fun i => if i = j then w.heap.size + 3 else b i, fun i => if i = j then w1.heap.size else e i, w7_blk hk1 _ _ _ _ _ _ _ _, by rw [set7_size]; exact hs, w7_blk hk1 _ _ _ _ _ _ _ _, ⟨hv.ing.1, Nat.lt_of_lt_of_le hg (Nat.le_trans h1 kw.size)⟩, by rw [set7_size]; omega, fun i hi => ?_, fun i k hik hk => ?_, fun i hi => ?_⟩
 ·have := kw.size
  have hl := hv.ing.1
  by_cases hij : i = j
  ·simp only [if_pos hij]; omega
  ·simp only [if_neg hij]
   have := hv.iv i (by omega)
   omega
 ·by_cases hkj : k = j
  ·simp only [if_pos hkj, if_neg (show ¬ i = j by omega)]
   have := hv.iv i (by omega)
   omega
  ·simp only [if_neg hkj, if_neg (show ¬ i = j by omega)]
   exact hv.sep i k hik (by omega)
 ·by_cases hij : i = j
  ·subst hij
   simp only [if_true]
   exact ⟨vl, vm, vt, vb, vg, nl, nm, nt, nb, ng, hat.1, hat.2.1, hat.2.2.1, hat.2.2.2.1, hat.2.2.2.2.1, hat.2.2.2.2.2.1, hat.2.2.2.2.2.2, r1.wi kw (.inr (by omega)), r2.wi kw (.inr (by omega)), r3.wi kw (.inr (by omega)), r4.wi kw (.inr (by omega)), r5.wi kw (.inr (by omega)), ap⟩
  ·simp only [if_neg hij]
   have hI := hv.iv i (by omega)
   refine ((((hv.el i (by omega)).to b1).wi kw (by omega))).cells fun f hf => set7_far _ _ _ _ _ _ _ _ _ _ (by omega)
theorem VTo.cells {w w1 : World} {lo g n j : Nat} {L : List Vf} (h : VTo w lo g n j L) (hj : j < n) (b1 : Bw w w1) (f : Nat) (hf : f < 7) : (∃ u, w1.cell? ⟨g, j * 7 + f, none⟩ = some u) ∧ w1.frozen? ⟨g, j * 7 + f, none⟩ = false := by
 obtain ⟨cs, b, e, hk, hs, hv⟩ := h
 have hk1 := (b1.out.block g (blk_lt hk)).trans hk
 exact ⟨⟨_, (blk_cell hk1 _).trans (Array.getElem?_eq_getElem (by omega))⟩, blk_frozen hk1 _⟩
end Go.Proofs.Ytkhjkcefkampkaa.U
set_option linter.unusedVariables false
set_option linter.unusedSimpArgs false
namespace Go.Proofs.Ytkhjkcefkampkaa.U
open Go.RowKit Go.Lib Go.Proofs.YtkhjkcefkampkaaW.PrintWords
theorem markRowI (v : Value) (n : Nat) (F : List Int) (a r : Int) (w : World) (lo hi : Nat) (h : Rw w lo hi 70 3 v n F) (hn : n ≤ 1048576) (h0 : 0 ≤ a) (ha : a ≤ 1000000000000) (hr : a + (n * 3 : Nat) = r) :
  Calls Try.prog 43 #[v, .int .i64 a] w fun e w' => e = .returned (.int .i64 r) ∧ Rw w' lo hi 70 3 v n (iota (n * 3) a) ∧ w.grownBy w' v.ownBlock := by
 subst hr
 refine (markIdS v n F a w lo h.o hn h0 ha).mono ?_
 rintro e w' ⟨rfl, o, g⟩
 exact ⟨rfl, ⟨o, h.b⟩, g⟩
theorem markRowN (v : Value) (n : Nat) (F : List Int) (a r : Int) (w : World) (lo hi : Nat) (h : Rw w lo hi 3 1 v n F) (hn : n ≤ 1048576) (h0 : 0 ≤ a) (ha : a ≤ 1000000000000) (hr : a + (n : Nat) = r) :
  Calls Try.prog 22 #[v, .int .i64 a] w fun e w' => e = .returned (.int .i64 r) ∧ Rw w' lo hi 3 1 v n (iota n a) ∧ w.grownBy w' v.ownBlock := by
 subst hr
 refine (markIntS v n F a w lo h.oi hn h0 ha).mono ?_
 rintro e w' ⟨rfl, o, g⟩
 exact ⟨rfl, ⟨⟨o.out⟩, h.b⟩, g⟩
theorem Rw.chg' {w w' : World} {lo hi t k n : Nat} {v : Value} {F F' : List Int} (_ : Rw w' lo hi t k v n F') (h : Rw w lo hi t k v n F) (hg : w.grownBy w' v.ownBlock) : Wi w w' lo hi := h.chg hg
end Go.Proofs.Ytkhjkcefkampkaa.U
set_option linter.unusedVariables false
set_option linter.unusedSimpArgs false
namespace Go.Proofs.Ytkhjkcefkampkaa.U
open Go.RowKit Go.Lib Go.Proofs.YtkhjkcefkampkaaW.PrintWords
theorem heldRowN (A : Option Addr) (n c : Nat) (a r : Int) (w : World) (h : RI w A n (iota n a)) (hn : n ≤ 1048576) (h0 : 0 ≤ a) (ha : a ≤ 1000000000000) (hr : a + (n : Nat) = r) :
  Calls Try.prog 23 #[.slice A n c, .int .i64 a] w fun e w' => e = .returned (.int .i64 r) ∧ Drawn0 w w' := by
 subst hr
 exact heldIntS A n c a w h hn h0 ha
end Go.Proofs.Ytkhjkcefkampkaa.U
