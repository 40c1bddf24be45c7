
/- Views: comparison of slices, copies. -/
import Derived.Test.YtgdkffddcbjmmaaVw
set_option linter.unusedVariables false
set_option linter.unusedSimpArgs false
namespace Go.Proofs.Ytgdkffddcbjmmaa.U
open Go.RowKit Go.Lib Go.Proofs.YtgdkffddcbjmmaaW.PrintWords
theorem row_apart {w w' : World} {b b' t t' k k' n n' : Nat} {v v' : Value} {xs xs' : List Value} (h : w.ownsRow b t k v n xs) (h' : w'.ownsRow b' t' k' v' n' xs') (hb : w.heap.size ≤ b') : Apart v v' := by
 rcases own_base' h with e | ⟨q, e, _⟩
 ·exact .inl e
 ·refine .inr fun e2 => ?_
  have h1 := own_lt h q e
  have h2 := own_base h' q (by rw [← e2, e])
  omega
theorem Wi.set (w : World) (g i : Nat) (u : Value) : Wi w (w.setCell ⟨g, i, none⟩ u) g (g + 1) := ⟨rfl, rfl, rfl, by simp [World.setCell], fun k _ hn => Below.heap_setCell w ⟨g, i, none⟩ u k (fun e => hn (by simp at e; omega))⟩
theorem cell_wi {w w' : World} {lo hi : Nat} {p : Addr} {v : Value} (c : Wi w w' lo hi) (h : w.cell? p = some v) (hp : ¬ (lo ≤ p.block ∧ p.block < hi)) : w'.cell? p = some v := by
 have := c.block p.block (World.block_lt_of_cell? w p h) hp
 rw [World.cell?_of_block this]
 exact h
set_option maxHeartbeats 4000000 in
set_option maxRecDepth 100000 in
theorem eqViewS_yes (A : Option Addr) (n c : Nat) (B : Option Addr) (d : Nat) (L : List Vf) (w : World) (r : VwR w A n L) (q : VwR w B n L) :
  Calls Try.prog 8 #[.slice A n c, .slice B n d] w fun e w' => e = .returned (.bool true) ∧ Bw w w' := by
 have hmax := r.max
 have t0 : ((n : Int) != (n : Int)) = false := by simp
 go_enter Try.func8, Try.ntmps8
 go_wp2
 go_loopw [5] (fun v5 wr => ∃ j : Nat, j ≤ n ∧ v5 = .int .i64 j ∧ Hid (Bw w wr)) (fun v5 _ => n - (intOf v5).toNat)
 case atStart => exact ⟨0, by omega, rfl, hid (Bw.refl _)⟩
 case round =>
  obtain ⟨j, hj, rfl, hB⟩ := hrel
  by_cases hlt : j < n
  ·have t1 : decide ((j : Int) < (n : Int)) = true := decide_eq_true (by omega)
   obtain ⟨ad, rfl, Al, nl, cl, Am, nm, cm, At, nt, ct, Ab, nb, cb, Ag, ng, cg, x0, x1, x2, x3, x4, x5, x6, _, hv⟩ := (r.to hB.out).nat j hlt
   obtain ⟨ae, rfl, Bl, ml, dl, Bm, mm, dm, Bt, mt, dt, Bb, mb, db, Bg, mg, dg, y0, y1, y2, y3, y4, y5, y6, _, hu⟩ := (q.to hB.out).nat j hlt
   obtain rfl : nl = ml := by have h1 := hv.l.len; have h2 := hu.l.len; omega
   obtain rfl : nm = mm := hv.m.len.symm.trans hu.m.len
   obtain rfl : nt = mt := hv.t.len.symm.trans hu.t.len
   obtain rfl : nb = mb := hv.b.len.symm.trans hu.b.len
   obtain rfl : ng = mg := hv.g.len.symm.trans hu.g.len
   have HV := hid hv
   have HU := hid hu
   clear hv hu
   generalize gv L j = x at *
   generalize x.ro = ro at *
   generalize x.fr = fr at *
   have i4 : (0 : Int) ≤ (j : Int) := by omega
   have i5 : (j : Int) < (n : Int) := by omega
   go_wp2
   go_region_held3 (fun w' => w'.cell? (ad.add (j * 7)) = some (.int .i64 ro) ∧ w'.cell? ⟨(ad.add (j * 7)).block, (ad.add (j * 7)).off + 1, none⟩ = some (.int .i64 fr) ∧ w'.cell? ⟨(ad.add (j * 7)).block, (ad.add (j * 7)).off + 2, none⟩ = some (.slice Al nl cl) ∧ w'.cell? ⟨(ad.add (j * 7)).block, (ad.add (j * 7)).off + 3, none⟩ = some (.slice Am nm cm) ∧ w'.cell? ⟨(ad.add (j * 7)).block, (ad.add (j * 7)).off + 4, none⟩ = some (.slice At nt ct) ∧ w'.cell? ⟨(ad.add (j * 7)).block, (ad.add (j * 7)).off + 5, none⟩ = some (.slice Ab nb cb) ∧ w'.cell? ⟨(ad.add (j * 7)).block, (ad.add (j * 7)).off + 6, none⟩ = some (.slice Ag ng cg) ∧ w'.cell? (ae.add (j * 7)) = some (.int .i64 ro) ∧ w'.cell? ⟨(ae.add (j * 7)).block, (ae.add (j * 7)).off + 1, none⟩ = some (.int .i64 fr) ∧ w'.cell? ⟨(ae.add (j * 7)).block, (ae.add (j * 7)).off + 2, none⟩ = some (.slice Bl nl dl) ∧ w'.cell? ⟨(ae.add (j * 7)).block, (ae.add (j * 7)).off + 3, none⟩ = some (.slice Bm nm dm) ∧ w'.cell? ⟨(ae.add (j * 7)).block, (ae.add (j * 7)).off + 4, none⟩ = some (.slice Bt nt dt) ∧ w'.cell? ⟨(ae.add (j * 7)).block, (ae.add (j * 7)).off + 5, none⟩ = some (.slice Bb nb db) ∧ w'.cell? ⟨(ae.add (j * 7)).block, (ae.add (j * 7)).off + 6, none⟩ = some (.slice Bg ng dg)) (first | go_keep | (go_split_ands; exact ⟨pw_cell_below b.out (by assumption), pw_cell_below b.out (by assumption), pw_cell_below b.out (by assumption), pw_cell_below b.out (by assumption), pw_cell_below b.out (by assumption), pw_cell_below b.out (by assumption), pw_cell_below b.out (by assumption), pw_cell_below b.out (by assumption), pw_cell_below b.out (by assumption), pw_cell_below b.out (by assumption), pw_cell_below b.out (by assumption), pw_cell_below b.out (by assumption), pw_cell_below b.out (by assumption), pw_cell_below b.out (by assumption)⟩)) ((go_at_call 21; refine (eqView_yes ro fr Al nl cl Am nm cm At nt ct Ab nb cb Ag ng cg Bl dl Bm dm Bt dt Bb db Bg dg x _ (HV.out.to (Bw.drawn ⟨⟨1, rfl⟩⟩)) (HU.out.to (Bw.drawn ⟨⟨1, rfl⟩⟩))).mono ?_; rintro e w' ⟨rfl, b⟩))
   go_wp2
   go_roundw
   case rel => exact ⟨j + 1, by omega, by go_num, hid (hB.out.trans ((Bw.drawn ⟨⟨1, rfl⟩⟩).trans b))⟩
   case measure => simp [intOf]; omega
  ·obtain rfl : j = n := by omega
   have t1 : decide ((j : Int) < (j : Int)) = false := decide_eq_false (by omega)
   go_wp2
   go_ret
   exact ⟨rfl, hB.out⟩
set_option maxHeartbeats 8000000 in
set_option maxRecDepth 100000 in
theorem toView (ro fr : Int) (Al : Option Addr) (nl cl : Nat) (Am : Option Addr) (nm cm : Nat) (At : Option Addr) (nt ct : Nat) (Ab : Option Addr) (nb cb : Nat) (Ag : Option Addr) (ng cg : Nat) (x : Vf) (w : World) (r : VA w Al nl Am nm At nt Ab nb Ag ng x) (hl : nl ≤ 1048576) (hm : nm ≤ 1048576) (ht : nt ≤ 1048576) (hb : nb ≤ 1048576) (hg : ng ≤ 1048576) :
  Calls Try.prog 16 #[.agg #[.int .i64 ro, .int .i64 fr, .slice Al nl cl, .slice Am nm cm, .slice At nt ct, .slice Ab nb cb, .slice Ag ng cg]] w fun e w' => ∃ vl vm vt vb vg, e = .returned (.agg #[.int .i64 ro, .int .i64 fr, vl, vm, vt, vb, vg]) ∧ Rw w' (w.heap.size + 3) w'.heap.size 60 3 vl nl x.lf ∧ Rw w' (w.heap.size + 3) w'.heap.size 3 1 vm nm x.ms ∧ Rw w' (w.heap.size + 3) w'.heap.size 3 1 vt nt x.ts ∧ Rw w' (w.heap.size + 3) w'.heap.size 3 1 vb nb x.bd ∧ Rw w' (w.heap.size + 3) w'.heap.size 3 1 vg ng x.gh ∧
   (Apart vl vm ∧ Apart vl vt ∧ Apart vl vb ∧ Apart vl vg ∧ Apart vm vt ∧ Apart vm vb ∧ Apart vm vg ∧ Apart vt vb ∧ Apart vt vg ∧ Apart vb vg) ∧ w.heap.size + 3 ≤ w'.heap.size ∧ Bw w w' := by
 obtain ⟨lv, hlv, _⟩ := unF nl x.lf r.l.len
 rw [← hlv]
 obtain r : VA w Al nl Am nm At nt Ab nb Ag ng ⟨x.ro, x.fr, idF lv, x.ms, x.ts, x.bd, x.gh⟩ := by rw [hlv]; exact ⟨r.l, r.m, r.t, r.b, r.g⟩
 clear hlv
 have b0 := (((Bw.refl w).alloc (.cells #[.int .i64 ro, .int .i64 fr, .slice Al nl cl, .slice Am nm cm, .slice At nt ct, .slice Ab nb cb, .slice Ag ng cg] 34)).alloc (.cells #[.int .i64 0, .int .i64 0, .slice none 0 0, .slice none 0 0, .slice none 0 0, .slice none 0 0, .slice none 0 0] 46)).alloc (.cells #[.int .i64 ro, .int .i64 fr, .slice none 0 0, .slice none 0 0, .slice none 0 0, .slice none 0 0, .slice none 0 0] 46)
 have g0 := box_cell ((((Bw.refl (w.alloc (.cells #[.int .i64 ro, .int .i64 fr, .slice Al nl cl, .slice Am nm cm, .slice At nt ct, .slice Ab nb cb, .slice Ag ng cg] 34))).alloc (.cells #[.int .i64 0, .int .i64 0, .slice none 0 0, .slice none 0 0, .slice none 0 0, .slice none 0 0, .slice none 0 0] 46))).alloc (.cells #[.int .i64 ro, .int .i64 fr, .slice none 0 0, .slice none 0 0, .slice none 0 0, .slice none 0 0, .slice none 0 0] 46)) 0
 have g1 := box_cell ((((Bw.refl (w.alloc (.cells #[.int .i64 ro, .int .i64 fr, .slice Al nl cl, .slice Am nm cm, .slice At nt ct, .slice Ab nb cb, .slice Ag ng cg] 34))).alloc (.cells #[.int .i64 0, .int .i64 0, .slice none 0 0, .slice none 0 0, .slice none 0 0, .slice none 0 0, .slice none 0 0] 46))).alloc (.cells #[.int .i64 ro, .int .i64 fr, .slice none 0 0, .slice none 0 0, .slice none 0 0, .slice none 0 0, .slice none 0 0] 46)) 1
 have g2 := box_cell ((((Bw.refl (w.alloc (.cells #[.int .i64 ro, .int .i64 fr, .slice Al nl cl, .slice Am nm cm, .slice At nt ct, .slice Ab nb cb, .slice Ag ng cg] 34))).alloc (.cells #[.int .i64 0, .int .i64 0, .slice none 0 0, .slice none 0 0, .slice none 0 0, .slice none 0 0, .slice none 0 0] 46))).alloc (.cells #[.int .i64 ro, .int .i64 fr, .slice none 0 0, .slice none 0 0, .slice none 0 0, .slice none 0 0, .slice none 0 0] 46)) 2
 have g3 := box_cell ((((Bw.refl (w.alloc (.cells #[.int .i64 ro, .int .i64 fr, .slice Al nl cl, .slice Am nm cm, .slice At nt ct, .slice Ab nb cb, .slice Ag ng cg] 34))).alloc (.cells #[.int .i64 0, .int .i64 0, .slice none 0 0, .slice none 0 0, .slice none 0 0, .slice none 0 0, .slice none 0 0] 46))).alloc (.cells #[.int .i64 ro, .int .i64 fr, .slice none 0 0, .slice none 0 0, .slice none 0 0, .slice none 0 0, .slice none 0 0] 46)) 3
 have g4 := box_cell ((((Bw.refl (w.alloc (.cells #[.int .i64 ro, .int .i64 fr, .slice Al nl cl, .slice Am nm cm, .slice At nt ct, .slice Ab nb cb, .slice Ag ng cg] 34))).alloc (.cells #[.int .i64 0, .int .i64 0, .slice none 0 0, .slice none 0 0, .slice none 0 0, .slice none 0 0, .slice none 0 0] 46))).alloc (.cells #[.int .i64 ro, .int .i64 fr, .slice none 0 0, .slice none 0 0, .slice none 0 0, .slice none 0 0, .slice none 0 0] 46)) 4
 have g5 := box_cell ((((Bw.refl (w.alloc (.cells #[.int .i64 ro, .int .i64 fr, .slice Al nl cl, .slice Am nm cm, .slice At nt ct, .slice Ab nb cb, .slice Ag ng cg] 34))).alloc (.cells #[.int .i64 0, .int .i64 0, .slice none 0 0, .slice none 0 0, .slice none 0 0, .slice none 0 0, .slice none 0 0] 46))).alloc (.cells #[.int .i64 ro, .int .i64 fr, .slice none 0 0, .slice none 0 0, .slice none 0 0, .slice none 0 0, .slice none 0 0] 46)) 5
 have g6 := box_cell ((((Bw.refl (w.alloc (.cells #[.int .i64 ro, .int .i64 fr, .slice Al nl cl, .slice Am nm cm, .slice At nt ct, .slice Ab nb cb, .slice Ag ng cg] 34))).alloc (.cells #[.int .i64 0, .int .i64 0, .slice none 0 0, .slice none 0 0, .slice none 0 0, .slice none 0 0, .slice none 0 0] 46))).alloc (.cells #[.int .i64 ro, .int .i64 fr, .slice none 0 0, .slice none 0 0, .slice none 0 0, .slice none 0 0, .slice none 0 0] 46)) 6
 simp only [List.getElem?_toArray, List.getElem?_cons_zero, List.getElem?_cons_succ] at g0 g1 g2 g3 g4 g5 g6
 have H2 : (((w.alloc (.cells #[.int .i64 ro, .int .i64 fr, .slice Al nl cl, .slice Am nm cm, .slice At nt ct, .slice Ab nb cb, .slice Ag ng cg] 34)).alloc (.cells #[.int .i64 0, .int .i64 0, .slice none 0 0, .slice none 0 0, .slice none 0 0, .slice none 0 0, .slice none 0 0] 46)).alloc (.cells #[.int .i64 ro, .int .i64 fr, .slice none 0 0, .slice none 0 0, .slice none 0 0, .slice none 0 0, .slice none 0 0] 46)).heap[w.heap.size + 1]? = some (.cells #[.int .i64 0, .int .i64 0, .slice none 0 0, .slice none 0 0, .slice none 0 0, .slice none 0 0, .slice none 0 0] 46 (0, 0)) := by
  have h := heap_alloc_new (w.alloc (.cells #[.int .i64 ro, .int .i64 fr, .slice Al nl cl, .slice Am nm cm, .slice At nt ct, .slice Ab nb cb, .slice Ag ng cg] 34)) (.cells #[.int .i64 0, .int .i64 0, .slice none 0 0, .slice none 0 0, .slice none 0 0, .slice none 0 0, .slice none 0 0] 46)
  rw [show (w.alloc (.cells #[.int .i64 ro, .int .i64 fr, .slice Al nl cl, .slice Am nm cm, .slice At nt ct, .slice Ab nb cb, .slice Ag ng cg] 34)).heap.size = w.heap.size + 1 by simp] at h
  exact (Below.heap_alloc _ _ _ (blk_lt h)).trans h
 have H3 : (((w.alloc (.cells #[.int .i64 ro, .int .i64 fr, .slice Al nl cl, .slice Am nm cm, .slice At nt ct, .slice Ab nb cb, .slice Ag ng cg] 34)).alloc (.cells #[.int .i64 0, .int .i64 0, .slice none 0 0, .slice none 0 0, .slice none 0 0, .slice none 0 0, .slice none 0 0] 46)).alloc (.cells #[.int .i64 ro, .int .i64 fr, .slice none 0 0, .slice none 0 0, .slice none 0 0, .slice none 0 0, .slice none 0 0] 46)).heap[w.heap.size + 1 + 1]? = some (.cells #[.int .i64 ro, .int .i64 fr, .slice none 0 0, .slice none 0 0, .slice none 0 0, .slice none 0 0, .slice none 0 0] 46 (0, 0)) := by
  have h := heap_alloc_new ((w.alloc (.cells #[.int .i64 ro, .int .i64 fr, .slice Al nl cl, .slice Am nm cm, .slice At nt ct, .slice Ab nb cb, .slice Ag ng cg] 34)).alloc (.cells #[.int .i64 0, .int .i64 0, .slice none 0 0, .slice none 0 0, .slice none 0 0, .slice none 0 0, .slice none 0 0] 46)) (.cells #[.int .i64 ro, .int .i64 fr, .slice none 0 0, .slice none 0 0, .slice none 0 0, .slice none 0 0, .slice none 0 0] 46)
  rwa [show ((w.alloc (.cells #[.int .i64 ro, .int .i64 fr, .slice Al nl cl, .slice Am nm cm, .slice At nt ct, .slice Ab nb cb, .slice Ag ng cg] 34)).alloc (.cells #[.int .i64 0, .int .i64 0, .slice none 0 0, .slice none 0 0, .slice none 0 0, .slice none 0 0, .slice none 0 0] 46)).heap.size = w.heap.size + 2 by simp] at h
 have z0 : w.heap.size + 3 ≤ (((w.alloc (.cells #[.int .i64 ro, .int .i64 fr, .slice Al nl cl, .slice Am nm cm, .slice At nt ct, .slice Ab nb cb, .slice Ag ng cg] 34)).alloc (.cells #[.int .i64 0, .int .i64 0, .slice none 0 0, .slice none 0 0, .slice none 0 0, .slice none 0 0, .slice none 0 0] 46)).alloc (.cells #[.int .i64 ro, .int .i64 fr, .slice none 0 0, .slice none 0 0, .slice none 0 0, .slice none 0 0, .slice none 0 0] 46)).heap.size := by simp
 go_enter Try.func16, Try.ntmps16
 go_wp2_with fail
 generalize hw2 : ((w.alloc (.cells #[.int .i64 ro, .int .i64 fr, .slice Al nl cl, .slice Am nm cm, .slice At nt ct, .slice Ab nb cb, .slice Ag ng cg] 34)).alloc (.cells #[.int .i64 0, .int .i64 0, .slice none 0 0, .slice none 0 0, .slice none 0 0, .slice none 0 0, .slice none 0 0] 46)).alloc (.cells #[.int .i64 ro, .int .i64 fr, .slice none 0 0, .slice none 0 0, .slice none 0 0, .slice none 0 0, .slice none 0 0] 46) = w2 at *
 refine (toIdS Al nl cl lv _ (r.l.id.to b0) hl).mono ?_
 rintro e w3 ⟨vl, rfl, ol, b1⟩
 have rw_l := FO.rw ol
 replace rw_l := rw_l.mono z0 (Nat.le_refl _)
 obtain ⟨Xl, yl, rfl, _, _⟩ := rw_l.reads
 replace g0 := pw_cell_below b1.out g0
 replace g1 := pw_cell_below b1.out g1
 replace g2 := pw_cell_below b1.out g2
 replace g3 := pw_cell_below b1.out g3
 replace g4 := pw_cell_below b1.out g4
 replace g5 := pw_cell_below b1.out g5
 replace g6 := pw_cell_below b1.out g6
 replace H2 := (b1.out.block _ (blk_lt H2)).trans H2
 replace H3 := (b1.out.block _ (blk_lt H3)).trans H3
 have z1 := b1.size
 replace b0 := b0.trans b1
 clear b1 ol
 have s0 : w3.cell? ⟨w.heap.size + 1 + 1, 2, none⟩ = some (.slice none 0 0) := blk_cell H3 2
 have s1 := blk_frozen H3 2
 have c1 : Wi w3 (w3.setCell ⟨w.heap.size + 1 + 1, 2, none⟩ (.slice Xl nl yl)) (w.heap.size + 1 + 1) (w.heap.size + 1 + 1 + 1) := Wi.set w3 _ _ _
 replace H3 : (w3.setCell ⟨w.heap.size + 1 + 1, 2, none⟩ (.slice Xl nl yl)).heap[w.heap.size + 1 + 1]? = some (.cells #[.int .i64 ro, .int .i64 fr, (.slice Xl nl yl), .slice none 0 0, .slice none 0 0, .slice none 0 0, .slice none 0 0] 46 (0, 0)) := blk_set H3 2 (.slice Xl nl yl)
 replace H2 := (c1.block _ (blk_lt H2) (by omega)).trans H2
 replace rw_l := (rw_l.wi c1 (.inr (by omega))).mono (Nat.le_refl _) c1.size
 replace b0 := bw_set b0 (show w.heap.size ≤ w.heap.size + 1 + 1 by omega) 2 (.slice Xl nl yl)
 replace g0 := (cell_wi c1 g0 (fun q => absurd q.1 (show ¬ (w.heap.size + 1 + 1 ≤ w.heap.size) by omega)))
 replace g1 := (cell_wi c1 g1 (fun q => absurd q.1 (show ¬ (w.heap.size + 1 + 1 ≤ w.heap.size) by omega)))
 replace g2 := (cell_wi c1 g2 (fun q => absurd q.1 (show ¬ (w.heap.size + 1 + 1 ≤ w.heap.size) by omega)))
 replace g3 := (cell_wi c1 g3 (fun q => absurd q.1 (show ¬ (w.heap.size + 1 + 1 ≤ w.heap.size) by omega)))
 replace g4 := (cell_wi c1 g4 (fun q => absurd q.1 (show ¬ (w.heap.size + 1 + 1 ≤ w.heap.size) by omega)))
 replace g5 := (cell_wi c1 g5 (fun q => absurd q.1 (show ¬ (w.heap.size + 1 + 1 ≤ w.heap.size) by omega)))
 replace g6 := (cell_wi c1 g6 (fun q => absurd q.1 (show ¬ (w.heap.size + 1 + 1 ≤ w.heap.size) by omega)))
 replace z0 : w.heap.size + 3 ≤ (w3.setCell ⟨w.heap.size + 1 + 1, 2, none⟩ (.slice Xl nl yl)).heap.size := Nat.le_trans z0 (Nat.le_trans z1 c1.size)
 clear c1 z1
 generalize hw3 : w3.setCell ⟨w.heap.size + 1 + 1, 2, none⟩ (.slice Xl nl yl) = w2 at *
 go_wp2_with fail
 refine (toIntS Am nm cm x.ms _ (r.m.to b0) hm).mono ?_
 rintro e w3 ⟨vm, rfl, om, b1⟩
 have rw_m := OI.rw om
 replace rw_m := rw_m.mono z0 (Nat.le_refl _)
 obtain ⟨Xm, ym, rfl, _, _⟩ := rw_m.reads
 have ap_lm := row_apart rw_l.o.out om.out (Nat.le_refl _)
 replace rw_l := (rw_l.to b1).mono (Nat.le_refl _) b1.size
 replace g0 := pw_cell_below b1.out g0
 replace g1 := pw_cell_below b1.out g1
 replace g2 := pw_cell_below b1.out g2
 replace g3 := pw_cell_below b1.out g3
 replace g4 := pw_cell_below b1.out g4
 replace g5 := pw_cell_below b1.out g5
 replace g6 := pw_cell_below b1.out g6
 replace H2 := (b1.out.block _ (blk_lt H2)).trans H2
 replace H3 := (b1.out.block _ (blk_lt H3)).trans H3
 have z1 := b1.size
 replace b0 := b0.trans b1
 clear b1 om
 have s0 : w3.cell? ⟨w.heap.size + 1 + 1, 3, none⟩ = some (.slice none 0 0) := blk_cell H3 3
 have s1 := blk_frozen H3 3
 have c1 : Wi w3 (w3.setCell ⟨w.heap.size + 1 + 1, 3, none⟩ (.slice Xm nm ym)) (w.heap.size + 1 + 1) (w.heap.size + 1 + 1 + 1) := Wi.set w3 _ _ _
 replace H3 : (w3.setCell ⟨w.heap.size + 1 + 1, 3, none⟩ (.slice Xm nm ym)).heap[w.heap.size + 1 + 1]? = some (.cells #[.int .i64 ro, .int .i64 fr, (.slice Xl nl yl), (.slice Xm nm ym), .slice none 0 0, .slice none 0 0, .slice none 0 0] 46 (0, 0)) := blk_set H3 3 (.slice Xm nm ym)
 replace H2 := (c1.block _ (blk_lt H2) (by omega)).trans H2
 replace rw_l := (rw_l.wi c1 (.inr (by omega))).mono (Nat.le_refl _) c1.size
 replace rw_m := (rw_m.wi c1 (.inr (by omega))).mono (Nat.le_refl _) c1.size
 replace b0 := bw_set b0 (show w.heap.size ≤ w.heap.size + 1 + 1 by omega) 3 (.slice Xm nm ym)
 replace g0 := (cell_wi c1 g0 (fun q => absurd q.1 (show ¬ (w.heap.size + 1 + 1 ≤ w.heap.size) by omega)))
 replace g1 := (cell_wi c1 g1 (fun q => absurd q.1 (show ¬ (w.heap.size + 1 + 1 ≤ w.heap.size) by omega)))
 replace g2 := (cell_wi c1 g2 (fun q => absurd q.1 (show ¬ (w.heap.size + 1 + 1 ≤ w.heap.size) by omega)))
 replace g3 := (cell_wi c1 g3 (fun q => absurd q.1 (show ¬ (w.heap.size + 1 + 1 ≤ w.heap.size) by omega)))
 replace g4 := (cell_wi c1 g4 (fun q => absurd q.1 (show ¬ (w.heap.size + 1 + 1 ≤ w.heap.size) by omega)))
 replace g5 := (cell_wi c1 g5 (fun q => absurd q.1 (show ¬ (w.heap.size + 1 + 1 ≤ w.heap.size) by omega)))
 replace g6 := (cell_wi c1 g6 (fun q => absurd q.1 (show ¬ (w.heap.size + 1 + 1 ≤ w.heap.size) by omega)))
 replace z0 : w.heap.size + 3 ≤ (w3.setCell ⟨w.heap.size + 1 + 1, 3, none⟩ (.slice Xm nm ym)).heap.size := Nat.le_trans z0 (Nat.le_trans z1 c1.size)
 clear c1 z1
 generalize hw3 : w3.setCell ⟨w.heap.size + 1 + 1, 3, none⟩ (.slice Xm nm ym) = w2 at *
 go_wp2_with fail
 refine (toIntS At nt ct x.ts _ (r.t.to b0) ht).mono ?_
 rintro e w3 ⟨vt, rfl, ot, b1⟩
 have rw_t := OI.rw ot
 replace rw_t := rw_t.mono z0 (Nat.le_refl _)
 obtain ⟨Xt, yt, rfl, _, _⟩ := rw_t.reads
 have ap_lt := row_apart rw_l.o.out ot.out (Nat.le_refl _)
 replace rw_l := (rw_l.to b1).mono (Nat.le_refl _) b1.size
 have ap_mt := row_apart rw_m.o.out ot.out (Nat.le_refl _)
 replace rw_m := (rw_m.to b1).mono (Nat.le_refl _) b1.size
 replace g0 := pw_cell_below b1.out g0
 replace g1 := pw_cell_below b1.out g1
 replace g2 := pw_cell_below b1.out g2
 replace g3 := pw_cell_below b1.out g3
 replace g4 := pw_cell_below b1.out g4
 replace g5 := pw_cell_below b1.out g5
 replace g6 := pw_cell_below b1.out g6
 replace H2 := (b1.out.block _ (blk_lt H2)).trans H2
 replace H3 := (b1.out.block _ (blk_lt H3)).trans H3
 have z1 := b1.size
 replace b0 := b0.trans b1
 clear b1 ot
 have s0 : w3.cell? ⟨w.heap.size + 1 + 1, 4, none⟩ = some (.slice none 0 0) := blk_cell H3 4
 have s1 := blk_frozen H3 4
 have c1 : Wi w3 (w3.setCell ⟨w.heap.size + 1 + 1, 4, none⟩ (.slice Xt nt yt)) (w.heap.size + 1 + 1) (w.heap.size + 1 + 1 + 1) := Wi.set w3 _ _ _
 replace H3 : (w3.setCell ⟨w.heap.size + 1 + 1, 4, none⟩ (.slice Xt nt yt)).heap[w.heap.size + 1 + 1]? = some (.cells #[.int .i64 ro, .int .i64 fr, (.slice Xl nl yl), (.slice Xm nm ym), (.slice Xt nt yt), .slice none 0 0, .slice none 0 0] 46 (0, 0)) := blk_set H3 4 (.slice Xt nt yt)
 replace H2 := (c1.block _ (blk_lt H2) (by omega)).trans H2
 replace rw_l := (rw_l.wi c1 (.inr (by omega))).mono (Nat.le_refl _) c1.size
 replace rw_m := (rw_m.wi c1 (.inr (by omega))).mono (Nat.le_refl _) c1.size
 replace rw_t := (rw_t.wi c1 (.inr (by omega))).mono (Nat.le_refl _) c1.size
 replace b0 := bw_set b0 (show w.heap.size ≤ w.heap.size + 1 + 1 by omega) 4 (.slice Xt nt yt)
 replace g0 := (cell_wi c1 g0 (fun q => absurd q.1 (show ¬ (w.heap.size + 1 + 1 ≤ w.heap.size) by omega)))
 replace g1 := (cell_wi c1 g1 (fun q => absurd q.1 (show ¬ (w.heap.size + 1 + 1 ≤ w.heap.size) by omega)))
 replace g2 := (cell_wi c1 g2 (fun q => absurd q.1 (show ¬ (w.heap.size + 1 + 1 ≤ w.heap.size) by omega)))
 replace g3 := (cell_wi c1 g3 (fun q => absurd q.1 (show ¬ (w.heap.size + 1 + 1 ≤ w.heap.size) by omega)))
 replace g4 := (cell_wi c1 g4 (fun q => absurd q.1 (show ¬ (w.heap.size + 1 + 1 ≤ w.heap.size) by omega)))
 replace g5 := (cell_wi c1 g5 (fun q => absurd q.1 (show ¬ (w.heap.size + 1 + 1 ≤ w.heap.size) by omega)))
 replace g6 := (cell_wi c1 g6 (fun q => absurd q.1 (show ¬ (w.heap.size + 1 + 1 ≤ w.heap.size) by omega)))
 replace z0 : w.heap.size + 3 ≤ (w3.setCell ⟨w.heap.size + 1 + 1, 4, none⟩ (.slice Xt nt yt)).heap.size := Nat.le_trans z0 (Nat.le_trans z1 c1.size)
 clear c1 z1
 generalize hw3 : w3.setCell ⟨w.heap.size + 1 + 1, 4, none⟩ (.slice Xt nt yt) = w2 at *
 go_wp2_with fail
 refine (toIntS Ab nb cb x.bd _ (r.b.to b0) hb).mono ?_
 rintro e w3 ⟨vb, rfl, ob, b1⟩
 have rw_b := OI.rw ob
 replace rw_b := rw_b.mono z0 (Nat.le_refl _)
 obtain ⟨Xb, yb, rfl, _, _⟩ := rw_b.reads
 have ap_lb := row_apart rw_l.o.out ob.out (Nat.le_refl _)
 replace rw_l := (rw_l.to b1).mono (Nat.le_refl _) b1.size
 have ap_mb := row_apart rw_m.o.out ob.out (Nat.le_refl _)
 replace rw_m := (rw_m.to b1).mono (Nat.le_refl _) b1.size
 have ap_tb := row_apart rw_t.o.out ob.out (Nat.le_refl _)
 replace rw_t := (rw_t.to b1).mono (Nat.le_refl _) b1.size
 replace g0 := pw_cell_below b1.out g0
 replace g1 := pw_cell_below b1.out g1
 replace g2 := pw_cell_below b1.out g2
 replace g3 := pw_cell_below b1.out g3
 replace g4 := pw_cell_below b1.out g4
 replace g5 := pw_cell_below b1.out g5
 replace g6 := pw_cell_below b1.out g6
 replace H2 := (b1.out.block _ (blk_lt H2)).trans H2
 replace H3 := (b1.out.block _ (blk_lt H3)).trans H3
 have z1 := b1.size
 replace b0 := b0.trans b1
 clear b1 ob
 have s0 : w3.cell? ⟨w.heap.size + 1 + 1, 5, none⟩ = some (.slice none 0 0) := blk_cell H3 5
 have s1 := blk_frozen H3 5
 have c1 : Wi w3 (w3.setCell ⟨w.heap.size + 1 + 1, 5, none⟩ (.slice Xb nb yb)) (w.heap.size + 1 + 1) (w.heap.size + 1 + 1 + 1) := Wi.set w3 _ _ _
 replace H3 : (w3.setCell ⟨w.heap.size + 1 + 1, 5, none⟩ (.slice Xb nb yb)).heap[w.heap.size + 1 + 1]? = some (.cells #[.int .i64 ro, .int .i64 fr, (.slice Xl nl yl), (.slice Xm nm ym), (.slice Xt nt yt), (.slice Xb nb yb), .slice none 0 0] 46 (0, 0)) := blk_set H3 5 (.slice Xb nb yb)
 replace H2 := (c1.block _ (blk_lt H2) (by omega)).trans H2
 replace rw_l := (rw_l.wi c1 (.inr (by omega))).mono (Nat.le_refl _) c1.size
 replace rw_m := (rw_m.wi c1 (.inr (by omega))).mono (Nat.le_refl _) c1.size
 replace rw_t := (rw_t.wi c1 (.inr (by omega))).mono (Nat.le_refl _) c1.size
 replace rw_b := (rw_b.wi c1 (.inr (by omega))).mono (Nat.le_refl _) c1.size
 replace b0 := bw_set b0 (show w.heap.size ≤ w.heap.size + 1 + 1 by omega) 5 (.slice Xb nb yb)
 replace g0 := (cell_wi c1 g0 (fun q => absurd q.1 (show ¬ (w.heap.size + 1 + 1 ≤ w.heap.size) by omega)))
 replace g1 := (cell_wi c1 g1 (fun q => absurd q.1 (show ¬ (w.heap.size + 1 + 1 ≤ w.heap.size) by omega)))
 replace g2 := (cell_wi c1 g2 (fun q => absurd q.1 (show ¬ (w.heap.size + 1 + 1 ≤ w.heap.size) by omega)))
 replace g3 := (cell_wi c1 g3 (fun q => absurd q.1 (show ¬ (w.heap.size + 1 + 1 ≤ w.heap.size) by omega)))
 replace g4 := (cell_wi c1 g4 (fun q => absurd q.1 (show ¬ (w.heap.size + 1 + 1 ≤ w.heap.size) by omega)))
 replace g5 := (cell_wi c1 g5 (fun q => absurd q.1 (show ¬ (w.heap.size + 1 + 1 ≤ w.heap.size) by omega)))
 replace g6 := (cell_wi c1 g6 (fun q => absurd q.1 (show ¬ (w.heap.size + 1 + 1 ≤ w.heap.size) by omega)))
 replace z0 : w.heap.size + 3 ≤ (w3.setCell ⟨w.heap.size + 1 + 1, 5, none⟩ (.slice Xb nb yb)).heap.size := Nat.le_trans z0 (Nat.le_trans z1 c1.size)
 clear c1 z1
 generalize hw3 : w3.setCell ⟨w.heap.size + 1 + 1, 5, none⟩ (.slice Xb nb yb) = w2 at *
 go_wp2_with fail
 refine (toIntS Ag ng cg x.gh _ (r.g.to b0) hg).mono ?_
 rintro e w3 ⟨vg, rfl, og, b1⟩
 have rw_g := OI.rw og
 replace rw_g := rw_g.mono z0 (Nat.le_refl _)
 obtain ⟨Xg, yg, rfl, _, _⟩ := rw_g.reads
 have ap_lg := row_apart rw_l.o.out og.out (Nat.le_refl _)
 replace rw_l := (rw_l.to b1).mono (Nat.le_refl _) b1.size
 have ap_mg := row_apart rw_m.o.out og.out (Nat.le_refl _)
 replace rw_m := (rw_m.to b1).mono (Nat.le_refl _) b1.size
 have ap_tg := row_apart rw_t.o.out og.out (Nat.le_refl _)
 replace rw_t := (rw_t.to b1).mono (Nat.le_refl _) b1.size
 have ap_bg := row_apart rw_b.o.out og.out (Nat.le_refl _)
 replace rw_b := (rw_b.to b1).mono (Nat.le_refl _) b1.size
 replace g0 := pw_cell_below b1.out g0
 replace g1 := pw_cell_below b1.out g1
 replace g2 := pw_cell_below b1.out g2
 replace g3 := pw_cell_below b1.out g3
 replace g4 := pw_cell_below b1.out g4
 replace g5 := pw_cell_below b1.out g5
 replace g6 := pw_cell_below b1.out g6
 replace H2 := (b1.out.block _ (blk_lt H2)).trans H2
 replace H3 := (b1.out.block _ (blk_lt H3)).trans H3
 have z1 := b1.size
 replace b0 := b0.trans b1
 clear b1 og
 have s0 : w3.cell? ⟨w.heap.size + 1 + 1, 6, none⟩ = some (.slice none 0 0) := blk_cell H3 6
 have s1 := blk_frozen H3 6
 have c1 : Wi w3 (w3.setCell ⟨w.heap.size + 1 + 1, 6, none⟩ (.slice Xg ng yg)) (w.heap.size + 1 + 1) (w.heap.size + 1 + 1 + 1) := Wi.set w3 _ _ _
 replace H3 : (w3.setCell ⟨w.heap.size + 1 + 1, 6, none⟩ (.slice Xg ng yg)).heap[w.heap.size + 1 + 1]? = some (.cells #[.int .i64 ro, .int .i64 fr, (.slice Xl nl yl), (.slice Xm nm ym), (.slice Xt nt yt), (.slice Xb nb yb), (.slice Xg ng yg)] 46 (0, 0)) := blk_set H3 6 (.slice Xg ng yg)
 replace H2 := (c1.block _ (blk_lt H2) (by omega)).trans H2
 replace rw_l := (rw_l.wi c1 (.inr (by omega))).mono (Nat.le_refl _) c1.size
 replace rw_m := (rw_m.wi c1 (.inr (by omega))).mono (Nat.le_refl _) c1.size
 replace rw_t := (rw_t.wi c1 (.inr (by omega))).mono (Nat.le_refl _) c1.size
 replace rw_b := (rw_b.wi c1 (.inr (by omega))).mono (Nat.le_refl _) c1.size
 replace rw_g := (rw_g.wi c1 (.inr (by omega))).mono (Nat.le_refl _) c1.size
 replace b0 := bw_set b0 (show w.heap.size ≤ w.heap.size + 1 + 1 by omega) 6 (.slice Xg ng yg)
 replace g0 := (cell_wi c1 g0 (fun q => absurd q.1 (show ¬ (w.heap.size + 1 + 1 ≤ w.heap.size) by omega)))
 replace g1 := (cell_wi c1 g1 (fun q => absurd q.1 (show ¬ (w.heap.size + 1 + 1 ≤ w.heap.size) by omega)))
 replace g2 := (cell_wi c1 g2 (fun q => absurd q.1 (show ¬ (w.heap.size + 1 + 1 ≤ w.heap.size) by omega)))
 replace g3 := (cell_wi c1 g3 (fun q => absurd q.1 (show ¬ (w.heap.size + 1 + 1 ≤ w.heap.size) by omega)))
 replace g4 := (cell_wi c1 g4 (fun q => absurd q.1 (show ¬ (w.heap.size + 1 + 1 ≤ w.heap.size) by omega)))
 replace g5 := (cell_wi c1 g5 (fun q => absurd q.1 (show ¬ (w.heap.size + 1 + 1 ≤ w.heap.size) by omega)))
 replace g6 := (cell_wi c1 g6 (fun q => absurd q.1 (show ¬ (w.heap.size + 1 + 1 ≤ w.heap.size) by omega)))
 replace z0 : w.heap.size + 3 ≤ (w3.setCell ⟨w.heap.size + 1 + 1, 6, none⟩ (.slice Xg ng yg)).heap.size := Nat.le_trans z0 (Nat.le_trans z1 c1.size)
 clear c1 z1
 generalize hw3 : w3.setCell ⟨w.heap.size + 1 + 1, 6, none⟩ (.slice Xg ng yg) = w2 at *
 have p0 := (blk_cell H2 0).trans (show _ = some (Value.int .i64 0) from rfl)
 have p1 := (blk_cell H2 1).trans (show _ = some (Value.int .i64 0) from rfl)
 have p2 := (blk_cell H2 2).trans (show _ = some (Value.slice none 0 0) from rfl)
 have p3 := (blk_cell H2 3).trans (show _ = some (Value.slice none 0 0) from rfl)
 have p4 := (blk_cell H2 4).trans (show _ = some (Value.slice none 0 0) from rfl)
 have p5 := (blk_cell H2 5).trans (show _ = some (Value.slice none 0 0) from rfl)
 have p6 := (blk_cell H2 6).trans (show _ = some (Value.slice none 0 0) from rfl)
 have l0 := (blk_cell H3 0).trans (show _ = some (Value.int .i64 ro) from rfl)
 have l1 := (blk_cell H3 1).trans (show _ = some (Value.int .i64 fr) from rfl)
 have l2 := (blk_cell H3 2).trans (show _ = some (Value.slice Xl nl yl) from rfl)
 have l3 := (blk_cell H3 3).trans (show _ = some (Value.slice Xm nm ym) from rfl)
 have l4 := (blk_cell H3 4).trans (show _ = some (Value.slice Xt nt yt) from rfl)
 have l5 := (blk_cell H3 5).trans (show _ = some (Value.slice Xb nb yb) from rfl)
 have l6 := (blk_cell H3 6).trans (show _ = some (Value.slice Xg ng yg) from rfl)
 have f0 := blk_frozen H2 0
 have f1 := blk_frozen H2 1
 have f2 := blk_frozen H2 2
 have f3 := blk_frozen H2 3
 have f4 := blk_frozen H2 4
 have f5 := blk_frozen H2 5
 have f6 := blk_frozen H2 6
 have HF : (((((((w2.setCell ⟨w.heap.size + 1, 0, none⟩ (.int .i64 ro)).setCell ⟨w.heap.size + 1, 1, none⟩ (.int .i64 fr)).setCell ⟨w.heap.size + 1, 2, none⟩ (.slice Xl nl yl)).setCell ⟨w.heap.size + 1, 3, none⟩ (.slice Xm nm ym)).setCell ⟨w.heap.size + 1, 4, none⟩ (.slice Xt nt yt)).setCell ⟨w.heap.size + 1, 5, none⟩ (.slice Xb nb yb)).setCell ⟨w.heap.size + 1, 6, none⟩ (.slice Xg ng yg)).heap[w.heap.size + 1]? = some (.cells #[.int .i64 ro, .int .i64 fr, .slice Xl nl yl, .slice Xm nm ym, .slice Xt nt yt, .slice Xb nb yb, .slice Xg ng yg] 46 (0, 0)) := blk_set (blk_set (blk_set (blk_set (blk_set (blk_set (blk_set (H2) 0 (.int .i64 ro)) 1 (.int .i64 fr)) 2 (.slice Xl nl yl)) 3 (.slice Xm nm ym)) 4 (.slice Xt nt yt)) 5 (.slice Xb nb yb)) 6 (.slice Xg ng yg)
 have CF : Wi w2 (((((((w2.setCell ⟨w.heap.size + 1, 0, none⟩ (.int .i64 ro)).setCell ⟨w.heap.size + 1, 1, none⟩ (.int .i64 fr)).setCell ⟨w.heap.size + 1, 2, none⟩ (.slice Xl nl yl)).setCell ⟨w.heap.size + 1, 3, none⟩ (.slice Xm nm ym)).setCell ⟨w.heap.size + 1, 4, none⟩ (.slice Xt nt yt)).setCell ⟨w.heap.size + 1, 5, none⟩ (.slice Xb nb yb)).setCell ⟨w.heap.size + 1, 6, none⟩ (.slice Xg ng yg)) (w.heap.size + 1) (w.heap.size + 1 + 1) := (((((((Wi.refl w2 (w.heap.size + 1) (w.heap.size + 1 + 1)).trans (Wi.set _ _ 0 (.int .i64 ro))).trans (Wi.set _ _ 1 (.int .i64 fr))).trans (Wi.set _ _ 2 (.slice Xl nl yl))).trans (Wi.set _ _ 3 (.slice Xm nm ym))).trans (Wi.set _ _ 4 (.slice Xt nt yt))).trans (Wi.set _ _ 5 (.slice Xb nb yb))).trans (Wi.set _ _ 6 (.slice Xg ng yg))
 have BF : Bw w (((((((w2.setCell ⟨w.heap.size + 1, 0, none⟩ (.int .i64 ro)).setCell ⟨w.heap.size + 1, 1, none⟩ (.int .i64 fr)).setCell ⟨w.heap.size + 1, 2, none⟩ (.slice Xl nl yl)).setCell ⟨w.heap.size + 1, 3, none⟩ (.slice Xm nm ym)).setCell ⟨w.heap.size + 1, 4, none⟩ (.slice Xt nt yt)).setCell ⟨w.heap.size + 1, 5, none⟩ (.slice Xb nb yb)).setCell ⟨w.heap.size + 1, 6, none⟩ (.slice Xg ng yg)) := bw_set (bw_set (bw_set (bw_set (bw_set (bw_set (bw_set (b0) (show w.heap.size ≤ w.heap.size + 1 by omega) 0 (.int .i64 ro)) (show w.heap.size ≤ w.heap.size + 1 by omega) 1 (.int .i64 fr)) (show w.heap.size ≤ w.heap.size + 1 by omega) 2 (.slice Xl nl yl)) (show w.heap.size ≤ w.heap.size + 1 by omega) 3 (.slice Xm nm ym)) (show w.heap.size ≤ w.heap.size + 1 by omega) 4 (.slice Xt nt yt)) (show w.heap.size ≤ w.heap.size + 1 by omega) 5 (.slice Xb nb yb)) (show w.heap.size ≤ w.heap.size + 1 by omega) 6 (.slice Xg ng yg)
 have q_l := (rw_l.wi CF (.inr (by omega))).mono (Nat.le_refl _) CF.size
 have q_m := (rw_m.wi CF (.inr (by omega))).mono (Nat.le_refl _) CF.size
 have q_t := (rw_t.wi CF (.inr (by omega))).mono (Nat.le_refl _) CF.size
 have q_b := (rw_b.wi CF (.inr (by omega))).mono (Nat.le_refl _) CF.size
 have q_g := (rw_g.wi CF (.inr (by omega))).mono (Nat.le_refl _) CF.size
 have HZF := hid (Nat.le_trans z0 CF.size)
 have HHF := hid HF
 have HBF := hid BF
 have Hq_l := hid q_l
 have Hq_m := hid q_m
 have Hq_t := hid q_t
 have Hq_b := hid q_b
 have Hq_g := hid q_g
 clear HF CF BF q_l q_m q_t q_b q_g H2 H3 rw_l rw_m rw_t rw_b rw_g
 go_wp2
 refine bodyPost_ret (results_cell_row rfl _ _ (w.heap.size + 1) 46 #[.int .i64 ro, .int .i64 fr, .slice Xl nl yl, .slice Xm nm ym, .slice Xt nt yt, .slice Xb nb yb, .slice Xg ng yg] (0, 0) _ rfl HHF.out Try.underlying46 rfl (by kernel_rfl)) rfl ?_
 exact ⟨_, _, _, _, _, rfl, Hq_l.out, Hq_m.out, Hq_t.out, Hq_b.out, Hq_g.out, ⟨ap_lm, ap_lt, ap_lb, ap_lg, ap_mt, ap_mb, ap_mg, ap_tb, ap_tg, ap_bg⟩, HZF.out, HBF.out⟩
end Go.Proofs.Ytgdkffddcbjmmaa.U
set_option linter.unusedVariables false
set_option linter.unusedSimpArgs false
namespace Go.Proofs.Ytgdkffddcbjmmaa.U
open Go.RowKit Go.Lib Go.Proofs.YtgdkffddcbjmmaaW.PrintWords
def Ap5 (vl vm vt vb vg : Value) : Prop := Apart vl vm ∧ Apart vl vt ∧ Apart vl vb ∧ Apart vl vg ∧ Apart vm vt ∧ Apart vm vb ∧ Apart vm vg ∧ Apart vt vb ∧ Apart vt vg ∧ Apart vb vg
def ViO (w : World) (lo hi : Nat) (x : Vf) (c : Nat → Option Value) : Prop := ∃ (vl vm vt vb vg : Value) (nl nm nt nb ng : Nat), c 0 = some (.int .i64 x.ro) ∧ c 1 = some (.int .i64 x.fr) ∧ c 2 = some vl ∧ c 3 = some vm ∧ c 4 = some vt ∧ c 5 = some vb ∧ c 6 = some vg ∧
  Rw w lo hi 60 3 vl nl x.lf ∧ Rw w lo hi 3 1 vm nm x.ms ∧ Rw w lo hi 3 1 vt nt x.ts ∧ Rw w lo hi 3 1 vb nb x.bd ∧ Rw w lo hi 3 1 vg ng x.gh ∧ Ap5 vl vm vt vb vg
theorem ViO.wi {w w' : World} {lo hi lo' hi' : Nat} {x : Vf} {c : Nat → Option Value} (h : ViO w lo hi x c) (k : Wi w w' lo' hi') (hd : hi ≤ lo' ∨ hi' ≤ lo) : ViO w' lo hi x c := by
 obtain ⟨vl, vm, vt, vb, vg, nl, nm, nt, nb, ng, c0, c1, c2, c3, c4, c5, c6, r1, r2, r3, r4, r5, ap⟩ := h
 exact ⟨vl, vm, vt, vb, vg, nl, nm, nt, nb, ng, c0, c1, c2, c3, c4, c5, c6, r1.wi k hd, r2.wi k hd, r3.wi k hd, r4.wi k hd, r5.wi k hd, ap⟩
theorem ViO.to {w w' : World} {lo hi : Nat} {x : Vf} {c : Nat → Option Value} (h : ViO w lo hi x c) (k : Bw w w') : ViO w' lo hi x c := by
 obtain ⟨vl, vm, vt, vb, vg, nl, nm, nt, nb, ng, c0, c1, c2, c3, c4, c5, c6, r1, r2, r3, r4, r5, ap⟩ := h
 exact ⟨vl, vm, vt, vb, vg, nl, nm, nt, nb, ng, c0, c1, c2, c3, c4, c5, c6, r1.to k, r2.to k, r3.to k, r4.to k, r5.to k, ap⟩
theorem ViO.cells {w : World} {lo hi : Nat} {x : Vf} {c c' : Nat → Option Value} (h : ViO w lo hi x c) (hc : ∀ f, f < 7 → c' f = c f) : ViO w lo hi x c' := by
 obtain ⟨vl, vm, vt, vb, vg, nl, nm, nt, nb, ng, c0, c1, c2, c3, c4, c5, c6, r⟩ := h
 exact ⟨vl, vm, vt, vb, vg, nl, nm, nt, nb, ng, (hc 0 (by omega)).trans c0, (hc 1 (by omega)).trans c1, (hc 2 (by omega)).trans c2, (hc 3 (by omega)).trans c3, (hc 4 (by omega)).trans c4, (hc 5 (by omega)).trans c5, (hc 6 (by omega)).trans c6, r⟩
structure VB (w : World) (lo hi g n : Nat) (X : Nat → Vf) (cs : Array Value) (b e : Nat → Nat) : Prop where
 blk : w.heap[g]? = some (.cells cs 46 (0, 0))
 ing : lo ≤ g ∧ g < hi
 size : n * 7 ≤ cs.size
 iv : ∀ i, i < n → lo ≤ b i ∧ b i ≤ e i ∧ e i ≤ hi ∧ ¬ (b i ≤ g ∧ g < e i)
 sep : ∀ i j, i < j → j < n → e i ≤ b j
 el : ∀ i, i < n → ViO w (b i) (e i) (X i) (fun f => cs[i * 7 + f]?)
def VwO (w : World) (lo hi : Nat) (v : Value) (n : Nat) (L : List Vf) : Prop := ∃ A c, v = .slice A n c ∧ L.length = n ∧ n ≤ 9223372036854775807 ∧ (0 < n → ∃ g cs b e, A = some ⟨g, 0, none⟩ ∧ VB w lo hi g n (gv L) cs b e)
theorem VB.wi {w w' : World} {lo hi lo' hi' g n : Nat} {X : Nat → Vf} {cs : Array Value} {b e : Nat → Nat} (h : VB w lo hi g n X cs b e) (k : Wi w w' lo' hi') (hd : hi ≤ lo' ∨ hi' ≤ lo) : VB w' lo hi g n X cs b e :=
 ⟨(k.block g (blk_lt h.blk) (by have := h.ing; omega)).trans h.blk, h.ing, h.size, h.iv, h.sep, fun i hi_ => (h.el i hi_).wi k (by have := h.iv i hi_; omega)⟩
theorem VB.to {w w' : World} {lo hi g n : Nat} {X : Nat → Vf} {cs : Array Value} {b e : Nat → Nat} (h : VB w lo hi g n X cs b e) (k : Bw w w') : VB w' lo hi g n X cs b e :=
 ⟨(k.out.block g (blk_lt h.blk)).trans h.blk, h.ing, h.size, h.iv, h.sep, fun i hi_ => (h.el i hi_).to k⟩
theorem VwO.wi {w w' : World} {lo hi lo' hi' n : Nat} {v : Value} {L : List Vf} (h : VwO w lo hi v n L) (k : Wi w w' lo' hi') (hd : hi ≤ lo' ∨ hi' ≤ lo) : VwO w' lo hi v n L := by
 obtain ⟨A, c, rfl, hl, hm, hn⟩ := h
 exact ⟨A, c, rfl, hl, hm, fun h0 => by
  obtain ⟨g, cs, b, e, ea, hv⟩ := hn h0
  exact ⟨g, cs, b, e, ea, hv.wi k hd⟩⟩
theorem VwO.to {w w' : World} {lo hi n : Nat} {v : Value} {L : List Vf} (h : VwO w lo hi v n L) (k : Bw w w') : VwO w' lo hi v n L := by
 obtain ⟨A, c, rfl, hl, hm, hn⟩ := h
 exact ⟨A, c, rfl, hl, hm, fun h0 => by
  obtain ⟨g, cs, b, e, ea, hv⟩ := hn h0
  exact ⟨g, cs, b, e, ea, hv.to k⟩⟩
theorem VB.vc {w : World} {lo hi g n : Nat} {X : Nat → Vf} {cs : Array Value} {b e : Nat → Nat} (h : VB w lo hi g n X cs b e) (i : Nat) (hi_ : i < n) : VC w ⟨g, i * 7, none⟩ (X i) := by
 obtain ⟨vl, vm, vt, vb, vg, nl, nm, nt, nb, ng, c0, c1, c2, c3, c4, c5, c6, r1, r2, r3, r4, r5, ap⟩ := h.el i hi_
 obtain ⟨Al, cl, rfl, k1, q1⟩ := r1.reads
 obtain ⟨Am, cm, rfl, k2, q2⟩ := r2.reads
 obtain ⟨At, ct, rfl, k3, q3⟩ := r3.reads
 obtain ⟨Ab, cb, rfl, k4, q4⟩ := r4.reads
 obtain ⟨Ag, cg, rfl, k5, q5⟩ := r5.reads
 exact ⟨Al, nl, cl, Am, nm, cm, At, nt, ct, Ab, nb, cb, Ag, ng, cg, (blk_cell h.blk _).trans c0, (blk_cell h.blk _).trans c1, (blk_cell h.blk _).trans c2, (blk_cell h.blk _).trans c3, (blk_cell h.blk _).trans c4, (blk_cell h.blk _).trans c5, (blk_cell h.blk _).trans c6, ⟨k1, k2, k3, k4, k5⟩, ⟨q1, q2.ri, q3.ri, q4.ri, q5.ri⟩⟩
theorem VwO.reads {w : World} {lo hi n : Nat} {v : Value} {L : List Vf} (h : VwO w lo hi v n L) : ∃ A c, v = .slice A n c ∧ VwR w A n L := by
 obtain ⟨A, c, rfl, hl, hm, hn⟩ := h
 refine ⟨A, c, rfl, hl, hm, fun h0 => ?_⟩
 obtain ⟨g, cs, b, e, ea, hv⟩ := hn h0
 exact ⟨⟨g, 0, none⟩, ea, fun j hj => by rw [add_plain]; exact hv.vc j hj⟩
def set7 (cs : Array Value) (p : Nat) (u0 u1 u2 u3 u4 u5 u6 : Value) : Array Value := ((((((cs.setIfInBounds p u0).setIfInBounds (p + 1) u1).setIfInBounds (p + 2) u2).setIfInBounds (p + 3) u3).setIfInBounds (p + 4) u4).setIfInBounds (p + 5) u5).setIfInBounds (p + 6) u6
theorem set7_far (cs : Array Value) (p : Nat) (u0 u1 u2 u3 u4 u5 u6 : Value) (q : Nat) (h : q < p ∨ p + 7 ≤ q) : (set7 cs p u0 u1 u2 u3 u4 u5 u6)[q]? = cs[q]? := by
 unfold set7
 simp only [Array.getElem?_setIfInBounds]
 rw [if_neg (by omega), if_neg (by omega), if_neg (by omega), if_neg (by omega), if_neg (by omega), if_neg (by omega), if_neg (by omega)]
theorem set7_at (cs : Array Value) (p : Nat) (u0 u1 u2 u3 u4 u5 u6 : Value) (h : p + 7 ≤ cs.size) : (set7 cs p u0 u1 u2 u3 u4 u5 u6)[p]? = some u0 ∧ (set7 cs p u0 u1 u2 u3 u4 u5 u6)[p + 1]? = some u1 ∧ (set7 cs p u0 u1 u2 u3 u4 u5 u6)[p + 2]? = some u2 ∧ (set7 cs p u0 u1 u2 u3 u4 u5 u6)[p + 3]? = some u3 ∧ (set7 cs p u0 u1 u2 u3 u4 u5 u6)[p + 4]? = some u4 ∧ (set7 cs p u0 u1 u2 u3 u4 u5 u6)[p + 5]? = some u5 ∧ (set7 cs p u0 u1 u2 u3 u4 u5 u6)[p + 6]? = some u6 := by
 unfold set7
 simp only [Array.getElem?_setIfInBounds, Array.size_setIfInBounds]
 refine ⟨?_, ?_, ?_, ?_, ?_, ?_, ?_⟩
 all_goals
  simp only [if_true]
  repeat (first | rw [if_pos (by omega)] | rw [if_neg (by omega)])
theorem set7_size (cs : Array Value) (p : Nat) (u0 u1 u2 u3 u4 u5 u6 : Value) : (set7 cs p u0 u1 u2 u3 u4 u5 u6).size = cs.size := by simp [set7]
def w7 (w : World) (g p : Nat) (u0 u1 u2 u3 u4 u5 u6 : Value) : World := ((((((w.setCell ⟨g, p, none⟩ u0).setCell ⟨g, p + 1, none⟩ u1).setCell ⟨g, p + 2, none⟩ u2).setCell ⟨g, p + 3, none⟩ u3).setCell ⟨g, p + 4, none⟩ u4).setCell ⟨g, p + 5, none⟩ u5).setCell ⟨g, p + 6, none⟩ u6
theorem w7_blk {w : World} {g : Nat} {t : TypeId} {cs : Array Value} (h : w.heap[g]? = some (.cells cs t (0, 0))) (p : Nat) (u0 u1 u2 u3 u4 u5 u6 : Value) : (w7 w g p u0 u1 u2 u3 u4 u5 u6).heap[g]? = some (.cells (set7 cs p u0 u1 u2 u3 u4 u5 u6) t (0, 0)) :=
 blk_set (blk_set (blk_set (blk_set (blk_set (blk_set (blk_set h p u0) (p + 1) u1) (p + 2) u2) (p + 3) u3) (p + 4) u4) (p + 5) u5) (p + 6) u6
theorem w7_wi (w : World) (g p : Nat) (u0 u1 u2 u3 u4 u5 u6 : Value) : Wi w (w7 w g p u0 u1 u2 u3 u4 u5 u6) g (g + 1) :=
 ((((((Wi.set w g p u0).trans (Wi.set _ g (p + 1) u1)).trans (Wi.set _ g (p + 2) u2)).trans (Wi.set _ g (p + 3) u3)).trans (Wi.set _ g (p + 4) u4)).trans (Wi.set _ g (p + 5) u5)).trans (Wi.set _ g (p + 6) u6)
theorem info_view : (Try.prog.info? 46).map (fun i => (i.zero, i.size, i.bytes)) = some (some (.agg #[.int .i64 0, .int .i64 0, .slice none 0 0, .slice none 0 0, .slice none 0 0, .slice none 0 0, .slice none 0 0]), 7, 136) := by kernel_rfl
def VTo (w : World) (lo g n j : Nat) (L : List Vf) : Prop := ∃ cs b e, w.heap[g]? = some (.cells cs 46 (0, 0)) ∧ cs.size = n * 7 ∧ VB w lo w.heap.size g j (gv L) cs b e
theorem VTo.start {w : World} {lo g n : Nat} {cs : Array Value} (L : List Vf) (h : w.heap[g]? = some (.cells cs 46 (0, 0))) (hs : cs.size = n * 7) (hl : lo ≤ g) : VTo w lo g n 0 L := ⟨cs, fun _ => 0, fun _ => 0, h, hs, h, ⟨hl, blk_lt h⟩, by omega, fun i hi => by omega, fun i j _ hj => by omega, fun i hi => by omega⟩
theorem VTo.step {w w1 : World} {lo g n j : Nat} {L : List Vf} (h : VTo w lo g n j L) (hj : j < n) (b1 : Bw w w1) {vl vm vt vb vg : Value} {nl nm nt nb ng : Nat} (h1 : w.heap.size ≤ w1.heap.size)
  (r1 : Rw w1 (w.heap.size + 3) w1.heap.size 60 3 vl nl (gv L j).lf) (r2 : Rw w1 (w.heap.size + 3) w1.heap.size 3 1 vm nm (gv L j).ms) (r3 : Rw w1 (w.heap.size + 3) w1.heap.size 3 1 vt nt (gv L j).ts) (r4 : Rw w1 (w.heap.size + 3) w1.heap.size 3 1 vb nb (gv L j).bd) (r5 : Rw w1 (w.heap.size + 3) w1.heap.size 3 1 vg ng (gv L j).gh) (ap : Ap5 vl vm vt vb vg) (h3 : w.heap.size + 3 ≤ w1.heap.size) :
  VTo (w7 w1 g (j * 7) (.int .i64 (gv L j).ro) (.int .i64 (gv L j).fr) vl vm vt vb vg) lo g n (j + 1) L := by
 obtain ⟨cs, b, e, hk, hs, hv⟩ := h
 have hk1 := (b1.out.block g (blk_lt hk)).trans hk
 have hg : g < w.heap.size := blk_lt hk
 have kw := w7_wi w1 g (j * 7) (.int .i64 (gv L j).ro) (.int .i64 (gv L j).fr) vl vm vt vb vg
 have hat := set7_at cs (j * 7) (.int .i64 (gv L j).ro) (.int .i64 (gv L j).fr) vl vm vt vb vg (by omega)
 refine ⟨_, fun i => if i = j then w.heap.size + 3 else b i, fun i => if i = j then w1.heap.size else e i, w7_blk hk1 _ _ _ _ _ _ _ _, by rw [set7_size]; exact hs, w7_blk hk1 _ _ _ _ _ _ _ _, ⟨hv.ing.1, Nat.lt_of_lt_of_le hg (Nat.le_trans h1 kw.size)⟩, by rw [set7_size]; omega, fun i hi => ?_, fun i k hik hk => ?_, fun i hi => ?_⟩
 ·have := kw.size
  have hl := hv.ing.1
  by_cases hij : i = j
  ·simp only [if_pos hij]; omega
  ·simp only [if_neg hij]
   have := hv.iv i (by omega)
   omega
 ·by_cases hkj : k = j
  ·simp only [if_pos hkj, if_neg (show ¬ i = j by omega)]
   have := hv.iv i (by omega)
   omega
  ·simp only [if_neg hkj, if_neg (show ¬ i = j by omega)]
   exact hv.sep i k hik (by omega)
 ·by_cases hij : i = j
  ·subst hij
   simp only [if_true]
   exact ⟨vl, vm, vt, vb, vg, nl, nm, nt, nb, ng, hat.1, hat.2.1, hat.2.2.1, hat.2.2.2.1, hat.2.2.2.2.1, hat.2.2.2.2.2.1, hat.2.2.2.2.2.2, r1.wi kw (.inr (by omega)), r2.wi kw (.inr (by omega)), r3.wi kw (.inr (by omega)), r4.wi kw (.inr (by omega)), r5.wi kw (.inr (by omega)), ap⟩
  ·simp only [if_neg hij]
   have hI := hv.iv i (by omega)
   refine ((((hv.el i (by omega)).to b1).wi kw (by omega))).cells fun f hf => set7_far _ _ _ _ _ _ _ _ _ _ (by omega)
theorem VTo.cells {w w1 : World} {lo g n j : Nat} {L : List Vf} (h : VTo w lo g n j L) (hj : j < n) (b1 : Bw w w1) (f : Nat) (hf : f < 7) : (∃ u, w1.cell? ⟨g, j * 7 + f, none⟩ = some u) ∧ w1.frozen? ⟨g, j * 7 + f, none⟩ = false := by
 obtain ⟨cs, b, e, hk, hs, hv⟩ := h
 have hk1 := (b1.out.block g (blk_lt hk)).trans hk
 exact ⟨⟨_, (blk_cell hk1 _).trans (Array.getElem?_eq_getElem (by omega))⟩, blk_frozen hk1 _⟩
theorem szTo_le (L : List Vf) : ∀ (n j : Nat), j < n → vsz (gv L j) ≤ szTo L n
 | n + 1, j, h => by
  rw [szTo]
  rcases Nat.lt_or_ge j n with h1 | h1
  ·have := szTo_le L n j h1
   omega
  ·obtain rfl : j = n := by omega
   omega
set_option maxHeartbeats 8000000 in
set_option maxRecDepth 100000 in
theorem toViewS (A : Option Addr) (n c : Nat) (L : List Vf) (w : World) (r : VwR w A n L) (hn : n + szTo L n ≤ 1048576) :
  Calls Try.prog 6 #[.slice A n c] w fun e w' => ∃ v, e = .returned v ∧ VwO w' w.heap.size w'.heap.size v n L ∧ Bw w w' := by
 have hmk := make_st (P := Try.prog) 24 46 (.agg #[.int .i64 0, .int .i64 0, .slice none 0 0, .slice none 0 0, .slice none 0 0, .slice none 0 0, .slice none 0 0]) 7 136 Try.underlying24 info_view n (by omega) (by omega)
 have hn2 : n ≤ 1048576 := by omega
 have b0 := Bw.box1 w (.cells (madeCells #[.int .i64 0, .int .i64 0, .slice none 0 0, .slice none 0 0, .slice none 0 0, .slice none 0 0, .slice none 0 0] (n * 7)) 46)
 have o0 : VTo (w.alloc (.cells (madeCells #[.int .i64 0, .int .i64 0, .slice none 0 0, .slice none 0 0, .slice none 0 0, .slice none 0 0, .slice none 0 0] (n * 7)) 46)) w.heap.size w.heap.size n 0 L := VTo.start L (heap_alloc_new w _) (by simp [size_madeCells]) (Nat.le_refl _)
 have HN := hid hn
 have HL := hid r.len
 clear hn
 go_enter Try.func6, Try.ntmps6
 go_wp2
 clear hmk
 go_loopw [4] (fun v4 wr => ∃ j : Nat, j ≤ n ∧ v4 = .int .i64 j ∧ Hid (VTo wr w.heap.size w.heap.size n j L) ∧ Hid (Bw w wr)) (fun v4 _ => n - (intOf v4).toNat)
 case atStart => exact ⟨0, by omega, rfl, hid o0, hid b0⟩
 case round =>
  obtain ⟨j, hj, rfl, hO, hB⟩ := hrel
  by_cases hlt : j < n
  ·have t1 : decide ((j : Int) < (n : Int)) = true := decide_eq_true (by omega)
   have hsz : vsz (gv L j) ≤ 1048576 := by have h1 := szTo_le L n j hlt; have h2 := HN.out; omega
   obtain ⟨ad, rfl, Al, nl, cl, Am, nm, cm, At, nt, ct, Ab, nb, cb, Ag, ng, cg, x0, x1, x2, x3, x4, x5, x6, hcs, hv⟩ := (r.to hB.out).nat j hlt
   have HV := hid hv
   have hS : vsz (gv L j) = nl + nm + nt + nb + ng := by rw [vsz, hv.l.len, hv.m.len, hv.t.len, hv.b.len, hv.g.len]; omega
   have m0 : nl ≤ 1048576 := by omega
   have m1 : nm ≤ 1048576 := by omega
   have m2 : nt ≤ 1048576 := by omega
   have m3 : nb ≤ 1048576 := by omega
   have m4 : ng ≤ 1048576 := by omega
   clear hv hcs hS hsz
   obtain ⟨x, hx⟩ : ∃ x, gv L j = x := ⟨_, rfl⟩
   rw [hx] at HV x0 x1
   have HX := hid hx
   clear hx
   go_wp2_with fail
   refine (toView x.ro x.fr Al nl cl Am nm cm At nt ct Ab nb cb Ag ng cg x _ HV.out m0 m1 m2 m3 m4).mono ?_
   rintro e w1 ⟨vl, vm, vt, vb, vg, rfl, r1, r2, r3, r4, r5, ap, hz3, b1⟩
   have hB1 := hB.out.trans b1
   have hO1 := VTo.step hO.out hlt b1 b1.size (by rw [HX.out]; exact r1) (by rw [HX.out]; exact r2) (by rw [HX.out]; exact r3) (by rw [HX.out]; exact r4) (by rw [HX.out]; exact r5) ap hz3
   rw [HX.out] at hO1
   obtain ⟨Xl, yl, rfl, _, _⟩ := r1.reads
   obtain ⟨Xm, ym, rfl, _, _⟩ := r2.reads
   obtain ⟨Xt, yt, rfl, _, _⟩ := r3.reads
   obtain ⟨Xb, yb, rfl, _, _⟩ := r4.reads
   obtain ⟨Xg, yg, rfl, _, _⟩ := r5.reads
   have cl := fun f hf => VTo.cells hO.out hlt b1 f hf
   obtain ⟨⟨u0, k0⟩, f0⟩ := cl 0 (by omega)
   obtain ⟨⟨u1, k1⟩, f1⟩ := cl 1 (by omega)
   obtain ⟨⟨u2, k2⟩, f2⟩ := cl 2 (by omega)
   obtain ⟨⟨u3, k3⟩, f3⟩ := cl 3 (by omega)
   obtain ⟨⟨u4, k4⟩, f4⟩ := cl 4 (by omega)
   obtain ⟨⟨u5, k5⟩, f5⟩ := cl 5 (by omega)
   obtain ⟨⟨u6, k6⟩, f6⟩ := cl 6 (by omega)
   rw [Nat.add_zero] at k0 f0
   have HO1 := hid hO1
   have HB2 := hid (hB1.then_wi (w7_wi w1 w.heap.size (j * 7) (.int .i64 x.ro) (.int .i64 x.fr) (.slice Xl nl yl) (.slice Xm nm ym) (.slice Xt nt yt) (.slice Xb nb yb) (.slice Xg ng yg)) (Nat.le_refl _))
   have i4 : (0 : Int) ≤ (j : Int) := by omega
   have i5 : (j : Int) < (n : Int) := by omega
   clear hO1 cl hB1 r1 r2 r3 r4 r5 ap hz3 b1 hO hB HV x0 x1 x2 x3 x4 x5 x6 o0 b0
   go_wp2
   go_roundw
   case rel => exact ⟨j + 1, by omega, by go_num, HO1, HB2⟩
   case measure => simp [intOf]; omega
  ·obtain rfl : j = n := by omega
   have t1 : decide ((j : Int) < (j : Int)) = false := decide_eq_false (by omega)
   obtain ⟨cs, b, e, hk, hs, hv⟩ := hO.out
   go_wp2
   go_ret
   exact ⟨_, rfl, ⟨_, _, rfl, HL.out, by omega, fun _ => ⟨_, cs, b, e, rfl, hv⟩⟩, hB.out⟩
end Go.Proofs.Ytgdkffddcbjmmaa.U
set_option linter.unusedVariables false
set_option linter.unusedSimpArgs false
namespace Go.Proofs.Ytgdkffddcbjmmaa.U
open Go.RowKit Go.Lib Go.Proofs.YtgdkffddcbjmmaaW.PrintWords
theorem markRowI (v : Value) (n : Nat) (F : List Int) (a r : Int) (w : World) (lo hi : Nat) (h : Rw w lo hi 60 3 v n F) (hn : n ≤ 1048576) (h0 : 0 ≤ a) (ha : a ≤ 1000000000000) (hr : a + (n * 3 : Nat) = r) :
  Calls Try.prog 22 #[v, .int .i64 a] w fun e w' => e = .returned (.int .i64 r) ∧ Rw w' lo hi 60 3 v n (iota (n * 3) a) ∧ w.grownBy w' v.ownBlock := by
 subst hr
 refine (markIdS v n F a w lo h.o hn h0 ha).mono ?_
 rintro e w' ⟨rfl, o, g⟩
 exact ⟨rfl, ⟨o, h.b⟩, g⟩
theorem markRowN (v : Value) (n : Nat) (F : List Int) (a r : Int) (w : World) (lo hi : Nat) (h : Rw w lo hi 3 1 v n F) (hn : n ≤ 1048576) (h0 : 0 ≤ a) (ha : a ≤ 1000000000000) (hr : a + (n : Nat) = r) :
  Calls Try.prog 23 #[v, .int .i64 a] w fun e w' => e = .returned (.int .i64 r) ∧ Rw w' lo hi 3 1 v n (iota n a) ∧ w.grownBy w' v.ownBlock := by
 subst hr
 refine (markIntS v n F a w lo h.oi hn h0 ha).mono ?_
 rintro e w' ⟨rfl, o, g⟩
 exact ⟨rfl, ⟨⟨o.out⟩, h.b⟩, g⟩
theorem Rw.chg' {w w' : World} {lo hi t k n : Nat} {v : Value} {F F' : List Int} (_ : Rw w' lo hi t k v n F') (h : Rw w lo hi t k v n F) (hg : w.grownBy w' v.ownBlock) : Wi w w' lo hi := h.chg hg
def mkV (x : Vf) (a : Int) : Vf := ⟨a, a + 1, iota x.lf.length (a + 2), iota x.ms.length (a + 2 + x.lf.length), iota x.ts.length (a + 2 + x.lf.length + x.ms.length), iota x.bd.length (a + 2 + x.lf.length + x.ms.length + x.ts.length), iota x.gh.length (a + 2 + x.lf.length + x.ms.length + x.ts.length + x.bd.length)⟩
def msz (x : Vf) : Nat := 2 + x.lf.length + x.ms.length + x.ts.length + x.bd.length + x.gh.length
def offs (L : List Vf) : Nat → Nat
 | 0 => 0
 | j + 1 => offs L j + msz (gv L j)
def mvL (L : List Vf) (a : Int) (i : Nat) : Vf := mkV (gv L i) (a + offs L i)
def markL (L : List Vf) (a : Int) : List Vf := (List.range L.length).map (mvL L a)
theorem markL_length (L : List Vf) (a : Int) : (markL L a).length = L.length := by simp [markL]
theorem markL_at (L : List Vf) (a : Int) (i : Nat) (h : i < L.length) : gv (markL L a) i = mvL L a i := by
 rw [gv_at (by rw [markL_length]; exact h)]
 simp [markL]
structure Short (L : List Vf) : Prop where mk :: (out : ∀ i, i < L.length → (gv L i).lf.length ≤ 3145728 ∧ (gv L i).ms.length ≤ 1048576 ∧ (gv L i).ts.length ≤ 1048576 ∧ (gv L i).bd.length ≤ 1048576 ∧ (gv L i).gh.length ≤ 1048576)
theorem offs_mono (L : List Vf) : ∀ (n j : Nat), j ≤ n → offs L j ≤ offs L n
 | 0, j, h => by rw [show j = 0 by omega]; exact Nat.le_refl _
 | n + 1, j, h => by
  rcases Nat.lt_or_ge j (n + 1) with h1 | h1
  ·exact Nat.le_trans (offs_mono L n j (by omega)) (by rw [offs]; omega)
  ·rw [show j = n + 1 by omega]; exact Nat.le_refl _
theorem set2_far (cs : Array Value) (p : Nat) (u0 u1 : Value) (f : Nat) (h : 2 ≤ f) : ((cs.setIfInBounds p u0).setIfInBounds (p + 1) u1)[p + f]? = cs[p + f]? := by
 simp only [Array.getElem?_setIfInBounds]
 rw [if_neg (by omega), if_neg (by omega)]
theorem set2_at (cs : Array Value) (p : Nat) (u0 u1 : Value) (h : p + 2 ≤ cs.size) : ((cs.setIfInBounds p u0).setIfInBounds (p + 1) u1)[p + 0]? = some u0 ∧ ((cs.setIfInBounds p u0).setIfInBounds (p + 1) u1)[p + 1]? = some u1 := by
 simp only [Array.getElem?_setIfInBounds, Array.size_setIfInBounds, Nat.add_zero]
 refine ⟨?_, ?_⟩
 ·rw [if_neg (by omega), if_pos trivial, if_pos (by omega)]
 ·rw [if_pos trivial, if_pos (by omega)]
def VMk (w : World) (lo hi : Nat) (A : Option Addr) (n k : Nat) (L : List Vf) (a : Int) : Prop := 0 < n → ∃ g cs b e, A = some ⟨g, 0, none⟩ ∧ VB w lo hi g n (fun i => if i < k then mvL L a i else gv L i) cs b e
set_option maxHeartbeats 8000000 in
set_option maxRecDepth 100000 in
theorem markViewS (v : Value) (n : Nat) (L : List Vf) (a : Int) (w : World) (lo hi : Nat) (h : VwO w lo hi v n L) (hs : Short L) (h0 : 0 ≤ a) (ha : a ≤ 1000000000) (ho : offs L n ≤ 1000000000) :
  Calls Try.prog 9 #[v, .int .i64 a] w fun e w' => e = .returned (.int .i64 (a + offs L n)) ∧ VwO w' lo hi v n (markL L a) ∧ Wi w w' lo hi := by
 obtain ⟨A, c, rfl, hl, hm, hn⟩ := h
 have HL := hid hl
 have HS := hid hs
 have HO := hid ho
 have H0 : Hid (VMk w lo hi A n 0 L a) := hid fun h0 => by
  obtain ⟨g, cs, b, e, ea, hv⟩ := hn h0
  exact ⟨g, cs, b, e, ea, by simpa using hv⟩
 clear hn hl hs ho
 go_enter Try.func9, Try.ntmps9
 go_wp2
 go_loopw [1, 5] (fun v1 v5 wr => ∃ (k : Nat) (bb : Int), k ≤ n ∧ (0 ≤ bb ∧ bb ≤ 2000000000) ∧ v1 = .int .i64 bb ∧ v5 = .int .i64 k ∧ Hid (bb = a + offs L k) ∧ Hid (VMk wr lo hi A n k L a) ∧ Hid (Wi w wr lo hi)) (fun _ v5 _ => n - (intOf v5).toNat)
 case atStart => exact ⟨0, a, by omega, by omega, rfl, rfl, hid (by simp [offs]), H0, hid (Wi.refl _ _ _)⟩
 case round =>
  obtain ⟨k, bb, hk, hbb, rfl, rfl, hE, hV, hW⟩ := hrel
  by_cases hlt : k < n
  ·have t1 : decide ((k : Int) < (n : Int)) = true := decide_eq_true (by omega)
   obtain ⟨g, cs, b, e, rfl, hv⟩ := hV.out (by omega)
   have hiv := hv.iv k hlt
   have hgi : ¬ (b k ≤ g ∧ g < e k) := hiv.2.2.2
   obtain ⟨vl, vm, vt, vb, vg, nl, nm, nt, nb, ng, c0, c1, c2, c3, c4, c5, c6, R1, R2, R3, R4, R5, ap⟩ := hv.el k hlt
   rw [if_neg (by omega)] at c0 c1 R1 R2 R3 R4 R5
   obtain ⟨ap_lm, ap_lt, ap_lb, ap_lg, ap_mt, ap_mb, ap_mg, ap_tb, ap_tg, ap_bg⟩ := ap
   obtain ⟨x, hx⟩ : ∃ x, gv L k = x := ⟨_, rfl⟩
   rw [hx] at c0 c1 R1 R2 R3 R4 R5
   have hshort := HS.out.out k (by rw [HL.out]; exact hlt)
   rw [hx] at hshort
   have l1 := R1.len
   have l2 := R2.len
   have l3 := R3.len
   have l4 := R4.len
   have l5 := R5.len
   have hll : nl ≤ 1048576 := by omega
   have hlm : nm ≤ 1048576 := by omega
   have hlt' : nt ≤ 1048576 := by omega
   have hlb : nb ≤ 1048576 := by omega
   have hlg : ng ≤ 1048576 := by omega
   have hsz : msz x = 2 + nl * 3 + nm + nt + nb + ng := by rw [msz]; omega
   have hoff : offs L (k + 1) = offs L k + msz x := by rw [offs, hx]
   have hle := offs_mono L n (k + 1) (by omega)
   have hEE := hE.out
   have hHO := HO.out
   obtain ⟨p0, e0⟩ : ∃ p0, Hid (bb + 1 + 1 = p0) := ⟨_, hid rfl⟩
   obtain ⟨p1, e1⟩ : ∃ p1, Hid (p0 + (nl * 3 : Nat) = p1) := ⟨_, hid rfl⟩
   obtain ⟨p2, e2⟩ : ∃ p2, Hid (p1 + (nm : Nat) = p2) := ⟨_, hid rfl⟩
   obtain ⟨p3, e3⟩ : ∃ p3, Hid (p2 + (nt : Nat) = p3) := ⟨_, hid rfl⟩
   obtain ⟨p4, e4⟩ : ∃ p4, Hid (p3 + (nb : Nat) = p4) := ⟨_, hid rfl⟩
   obtain ⟨p5, e5⟩ : ∃ p5, Hid (p4 + (ng : Nat) = p5) := ⟨_, hid rfl⟩
   have hp : (0 ≤ p0 ∧ p0 ≤ 3000000000) ∧ (0 ≤ p1 ∧ p1 ≤ 3000000000) ∧ (0 ≤ p2 ∧ p2 ≤ 3000000000) ∧ (0 ≤ p3 ∧ p3 ≤ 3000000000) ∧ (0 ≤ p4 ∧ p4 ≤ 3000000000) ∧ (0 ≤ p5 ∧ p5 ≤ 2000000000) ∧ p5 = a + offs L (k + 1) := by
    have := e0.out; have := e1.out; have := e2.out; have := e3.out; have := e4.out; have := e5.out
    omega
   have hmv : Hid (mvL L a k = ⟨bb, bb + 1, iota (nl * 3) p0, iota nm p1, iota nt p2, iota nb p3, iota ng p4⟩) := hid (by
    have q0 := e0.out; have q1 := e1.out; have q2 := e2.out; have q3 := e3.out; have q4 := e4.out
    rw [mvL, hx, mkV, ← hEE]
    simp only [Vf.mk.injEq]
    rw [show x.lf.length = nl * 3 by omega, show x.ms.length = nm by omega, show x.ts.length = nt by omega, show x.bd.length = nb by omega, show x.gh.length = ng by omega]
    refine ⟨trivial, trivial, ?_, ?_, ?_, ?_, ?_⟩ <;> congr 1 <;> omega)
   have HP5 := hid hp.2.2.2.2.2.2
   have hq5 := hp.2.2.2.2.2.1
   have hpp := And.intro hp.1 (And.intro hp.2.1 (And.intro hp.2.2.1 (And.intro hp.2.2.2.1 hp.2.2.2.2.1)))
   clear hp hsz hoff hle hEE hHO l1 l2 l3 l4 l5 hshort hE
   obtain ⟨Xl, yl, rfl, _, _⟩ := R1.reads
   obtain ⟨Xm, ym, rfl, _, _⟩ := R2.reads
   obtain ⟨Xt, yt, rfl, _, _⟩ := R3.reads
   obtain ⟨Xb, yb, rfl, _, _⟩ := R4.reads
   obtain ⟨Xg, yg, rfl, _, _⟩ := R5.reads
   have k0 := (blk_cell hv.blk (k * 7)).trans c0
   have f0 := blk_frozen hv.blk (k * 7)
   have k1 := (blk_cell hv.blk (k * 7 + 1)).trans c1
   have f1 := blk_frozen hv.blk (k * 7 + 1)
   have hC2 := (blk_cell hv.blk (k * 7 + 2)).trans c2
   have hC3 := (blk_cell hv.blk (k * 7 + 3)).trans c3
   have hC4 := (blk_cell hv.blk (k * 7 + 4)).trans c4
   have hC5 := (blk_cell hv.blk (k * 7 + 5)).trans c5
   have hC6 := (blk_cell hv.blk (k * 7 + 6)).trans c6
   have cs1 := (Wi.set wr g (k * 7) (.int .i64 bb)).trans (Wi.set _ g (k * 7 + 1) (.int .i64 (bb + 1)))
   have CB := blk_set (blk_set hv.blk (k * 7) (.int .i64 bb)) (k * 7 + 1) (.int .i64 (bb + 1))
   have CW := hW.out.trans (cs1.mono (lo' := lo) (hi' := hi) hv.ing.1 (by have := hv.ing.2; omega))
   replace hC2 := (blk_cell CB (k * 7 + 2)).trans ((set2_far cs (k * 7) _ _ 2 (by omega)).trans c2)
   replace hC3 := (blk_cell CB (k * 7 + 3)).trans ((set2_far cs (k * 7) _ _ 3 (by omega)).trans c3)
   replace hC4 := (blk_cell CB (k * 7 + 4)).trans ((set2_far cs (k * 7) _ _ 4 (by omega)).trans c4)
   replace hC5 := (blk_cell CB (k * 7 + 5)).trans ((set2_far cs (k * 7) _ _ 5 (by omega)).trans c5)
   replace hC6 := (blk_cell CB (k * 7 + 6)).trans ((set2_far cs (k * 7) _ _ 6 (by omega)).trans c6)
   replace R1 := R1.wi cs1 (by omega)
   replace R2 := R2.wi cs1 (by omega)
   replace R3 := R3.wi cs1 (by omega)
   replace R4 := R4.wi cs1 (by omega)
   replace R5 := R5.wi cs1 (by omega)
   have E0 := e0.out
   have HVV := hid hv
   have HHV := hid (And.intro c2 (And.intro c3 (And.intro c4 (And.intro c5 c6))))
   clear hv c0 c1 c2 c3 c4 c5 c6 hV H0
   go_wp2_with fail
   obtain ⟨w2, hw2⟩ : ∃ w2, (wr.setCell ⟨g, k * 7, none⟩ (.int .i64 bb)).setCell ⟨g, k * 7 + 1, none⟩ (.int .i64 (bb + 1)) = w2 := ⟨_, rfl⟩
   rw [hw2] at R1 R2 R3 R4 R5 CW CB hC2 hC3 hC4 hC5 hC6 cs1
   simp only [hw2]
   have HC1 := hid cs1
   clear cs1
   refine (markRowI (.slice Xl nl yl) nl _ p0 p1 _ (b k) (e k) R1 hll (by omega) (by omega) e1.out).mono ?_
   rintro e_ w3 ⟨rfl, S1, hg⟩
   have cg := S1.chg' R1 hg
   replace R2 := R2.grown hg ap_lm.symm
   replace R3 := R3.grown hg ap_lt.symm
   replace R4 := R4.grown hg ap_lb.symm
   replace R5 := R5.grown hg ap_lg.symm
   replace hC3 := cell_wi cg hC3 hgi
   replace hC4 := cell_wi cg hC4 hgi
   replace hC5 := cell_wi cg hC5 hgi
   replace hC6 := cell_wi cg hC6 hgi
   replace CW := CW.trans (cg.mono hiv.1 hiv.2.2.1)
   replace CB := (cg.block g (blk_lt CB) hgi).trans CB
   have CK := cg
   clear hg cg R1
   go_wp2_with fail
   refine (markRowN (.slice Xm nm ym) nm _ p1 p2 _ (b k) (e k) R2 hlm (by omega) (by omega) e2.out).mono ?_
   rintro e_ w3 ⟨rfl, S2, hg⟩
   have cg := S2.chg' R2 hg
   replace S1 := S1.grown hg ap_lm
   replace R3 := R3.grown hg ap_mt.symm
   replace R4 := R4.grown hg ap_mb.symm
   replace R5 := R5.grown hg ap_mg.symm
   replace hC4 := cell_wi cg hC4 hgi
   replace hC5 := cell_wi cg hC5 hgi
   replace hC6 := cell_wi cg hC6 hgi
   replace CW := CW.trans (cg.mono hiv.1 hiv.2.2.1)
   replace CB := (cg.block g (blk_lt CB) hgi).trans CB
   replace CK := CK.trans cg
   clear hg cg R2
   go_wp2_with fail
   refine (markRowN (.slice Xt nt yt) nt _ p2 p3 _ (b k) (e k) R3 hlt' (by omega) (by omega) e3.out).mono ?_
   rintro e_ w3 ⟨rfl, S3, hg⟩
   have cg := S3.chg' R3 hg
   replace S1 := S1.grown hg ap_lt
   replace S2 := S2.grown hg ap_mt
   replace R4 := R4.grown hg ap_tb.symm
   replace R5 := R5.grown hg ap_tg.symm
   replace hC5 := cell_wi cg hC5 hgi
   replace hC6 := cell_wi cg hC6 hgi
   replace CW := CW.trans (cg.mono hiv.1 hiv.2.2.1)
   replace CB := (cg.block g (blk_lt CB) hgi).trans CB
   replace CK := CK.trans cg
   clear hg cg R3
   go_wp2_with fail
   refine (markRowN (.slice Xb nb yb) nb _ p3 p4 _ (b k) (e k) R4 hlb (by omega) (by omega) e4.out).mono ?_
   rintro e_ w3 ⟨rfl, S4, hg⟩
   have cg := S4.chg' R4 hg
   replace S1 := S1.grown hg ap_lb
   replace S2 := S2.grown hg ap_mb
   replace S3 := S3.grown hg ap_tb
   replace R5 := R5.grown hg ap_bg.symm
   replace hC6 := cell_wi cg hC6 hgi
   replace CW := CW.trans (cg.mono hiv.1 hiv.2.2.1)
   replace CB := (cg.block g (blk_lt CB) hgi).trans CB
   replace CK := CK.trans cg
   clear hg cg R4
   go_wp2_with fail
   refine (markRowN (.slice Xg ng yg) ng _ p4 p5 _ (b k) (e k) R5 hlg (by omega) (by omega) e5.out).mono ?_
   rintro e_ w3 ⟨rfl, S5, hg⟩
   have cg := S5.chg' R5 hg
   replace S1 := S1.grown hg ap_lg
   replace S2 := S2.grown hg ap_mg
   replace S3 := S3.grown hg ap_tg
   replace S4 := S4.grown hg ap_bg
   replace CW := CW.trans (cg.mono hiv.1 hiv.2.2.1)
   replace CB := (cg.block g (blk_lt CB) hgi).trans CB
   replace CK := CK.trans cg
   clear hg cg R5
   have hvv := HVV.out
   obtain ⟨c2, c3, c4, c5, c6⟩ := HHV.out
   have HNEW : Hid (VMk w3 lo hi (some ⟨g, 0, none⟩) n (k + 1) L a) := hid fun _ => by
    refine ⟨g, _, b, e, rfl, CB, hvv.ing, by simp only [Array.size_setIfInBounds]; exact hvv.size, hvv.iv, hvv.sep, fun i hi_ => ?_⟩
    by_cases hik : i = k
    ·subst hik
     rw [if_pos (by omega), hmv.out]
     exact ⟨_, _, _, _, _, nl, nm, nt, nb, ng, (set2_at cs (i * 7) _ _ (by have := hvv.size; omega)).1, (set2_at cs (i * 7) _ _ (by have := hvv.size; omega)).2, (set2_far cs (i * 7) _ _ 2 (by omega)).trans c2, (set2_far cs (i * 7) _ _ 3 (by omega)).trans c3, (set2_far cs (i * 7) _ _ 4 (by omega)).trans c4, (set2_far cs (i * 7) _ _ 5 (by omega)).trans c5, (set2_far cs (i * 7) _ _ 6 (by omega)).trans c6, S1, S2, S3, S4, S5, ap_lm, ap_lt, ap_lb, ap_lg, ap_mt, ap_mb, ap_mg, ap_tb, ap_tg, ap_bg⟩
    ·have hII := hvv.iv i hi_
     have hsep : e i ≤ b k ∨ e k ≤ b i := by
      rcases Nat.lt_or_ge i k with h | h
      ·exact .inl (hvv.sep i k h hlt)
      ·exact .inr (hvv.sep k i (by omega) hi_)
     have h1 := (((hvv.el i hi_).wi HC1.out (by omega)).wi CK hsep)
     rw [show (if i < k + 1 then mvL L a i else gv L i) = (if i < k then mvL L a i else gv L i) by by_cases h : i < k; rw [if_pos h, if_pos (by omega)]; rw [if_neg h, if_neg (by omega)]]
     refine h1.cells fun f hf => ?_
     simp only [Array.getElem?_setIfInBounds]
     rw [if_neg (by omega), if_neg (by omega)]
   have HCW := hid CW
   clear CW CB CK S1 S2 S3 S4 S5 HVV HC1 HHV hvv c2 c3 c4 c5 c6 hW
   go_wp2
   go_roundw
   case rel => exact ⟨k + 1, p5, by omega, hq5, rfl, by go_num, HP5, HNEW, HCW⟩
   case measure => simp [intOf]; omega
  ·obtain rfl : k = n := by omega
   have t1 : decide ((k : Int) < (k : Int)) = false := decide_eq_false (by omega)
   go_wp2
   go_ret
   refine ⟨ret_int hE.out, ⟨A, c, rfl, by rw [markL_length, HL.out], hm, fun h0 => ?_⟩, hW.out⟩
   obtain ⟨g, cs, b, e, ea, hv⟩ := hV.out h0
   refine ⟨g, cs, b, e, ea, hv.blk, hv.ing, hv.size, hv.iv, hv.sep, fun i hi_ => ?_⟩
   have := hv.el i hi_
   rw [if_pos hi_] at this
   rw [markL_at L a i (by rw [HL.out]; exact hi_)]
   exact this
end Go.Proofs.Ytgdkffddcbjmmaa.U
set_option linter.unusedVariables false
set_option linter.unusedSimpArgs false
namespace Go.Proofs.Ytgdkffddcbjmmaa.U
open Go.RowKit Go.Lib Go.Proofs.YtgdkffddcbjmmaaW.PrintWords
theorem heldRowI (A : Option Addr) (n c : Nat) (a r : Int) (w : World) (h : FR w 3 A n (iota (n * 3) a)) (hn : n ≤ 1048576) (h0 : 0 ≤ a) (ha : a ≤ 1000000000000) (hr : a + (n * 3 : Nat) = r) :
  Calls Try.prog 24 #[.slice A n c, .int .i64 a] w fun e w' => e = .returned (.int .i64 r) ∧ w = w' := by
 subst hr
 exact heldIdS A n c a w h hn h0 ha
theorem heldRowN (A : Option Addr) (n c : Nat) (a r : Int) (w : World) (h : RI w A n (iota n a)) (hn : n ≤ 1048576) (h0 : 0 ≤ a) (ha : a ≤ 1000000000000) (hr : a + (n : Nat) = r) :
  Calls Try.prog 25 #[.slice A n c, .int .i64 a] w fun e w' => e = .returned (.int .i64 r) ∧ Drawn0 w w' := by
 subst hr
 exact heldIntS A n c a w h hn h0 ha
set_option maxHeartbeats 8000000 in
set_option maxRecDepth 100000 in
theorem heldViewS (A : Option Addr) (n c : Nat) (L : List Vf) (a : Int) (w : World) (r : VwR w A n (markL L a)) (hl : L.length = n) (hs : Short L) (h0 : 0 ≤ a) (ha : a ≤ 1000000000) (ho : offs L n ≤ 1000000000) :
  Calls Try.prog 10 #[.slice A n c, .int .i64 a] w fun e w' => e = .returned (.int .i64 (a + offs L n)) ∧ Bw w w' := by
 have hmax := r.max
 have HL := hid hl
 have HS := hid hs
 have HO := hid ho
 clear hl hs ho
 go_enter Try.func10, Try.ntmps10
 go_wp2
 go_loopw [1, 5] (fun v1 v5 wr => ∃ (k : Nat) (bb : Int), k ≤ n ∧ (0 ≤ bb ∧ bb ≤ 2000000000) ∧ v1 = .int .i64 bb ∧ v5 = .int .i64 k ∧ Hid (bb = a + offs L k) ∧ Bw w wr) (fun _ v5 _ => n - (intOf v5).toNat)
 case atStart => exact ⟨0, a, by omega, by omega, rfl, rfl, hid (by simp [offs]), Bw.refl _⟩
 case round =>
  obtain ⟨k, bb, hk, hbb, rfl, rfl, hE, hB⟩ := hrel
  by_cases hlt : k < n
  ·have t1 : decide ((k : Int) < (n : Int)) = true := decide_eq_true (by omega)
   obtain ⟨ad, rfl, Al, nl, cl, Am, nm, cm, At, nt, ct, Ab, nb, cb, Ag, ng, cg, x0, x1, x2, x3, x4, x5, x6, _, hv⟩ := (r.to hB).nat k hlt
   rw [markL_at L a k (by rw [HL.out]; exact hlt)] at hv x0 x1
   obtain ⟨x, hx⟩ : ∃ x, gv L k = x := ⟨_, rfl⟩
   have hshort := HS.out.out k (by rw [HL.out]; exact hlt)
   rw [hx] at hshort
   have hm : mvL L a k = mkV x (a + offs L k) := by rw [mvL, hx]
   rw [hm] at hv x0 x1
   have l1 := hv.l.len
   have l2 := hv.m.len
   have l3 := hv.t.len
   have l4 := hv.b.len
   have l5 := hv.g.len
   simp only [mkV, iota_length] at l1 l2 l3 l4 l5
   have hll : nl ≤ 1048576 := by omega
   have hlm : nm ≤ 1048576 := by omega
   have hlt' : nt ≤ 1048576 := by omega
   have hlb : nb ≤ 1048576 := by omega
   have hlg : ng ≤ 1048576 := by omega
   have hsz : msz x = 2 + nl * 3 + nm + nt + nb + ng := by rw [msz]; omega
   have hoff : offs L (k + 1) = offs L k + msz x := by rw [offs, hx]
   have hle := offs_mono L n (k + 1) (by omega)
   have hEE := hE.out
   have hHO := HO.out
   obtain ⟨p0, e0⟩ : ∃ p0, Hid (bb + 1 + 1 = p0) := ⟨_, hid rfl⟩
   obtain ⟨p1, e1⟩ : ∃ p1, Hid (p0 + (nl * 3 : Nat) = p1) := ⟨_, hid rfl⟩
   obtain ⟨p2, e2⟩ : ∃ p2, Hid (p1 + (nm : Nat) = p2) := ⟨_, hid rfl⟩
   obtain ⟨p3, e3⟩ : ∃ p3, Hid (p2 + (nt : Nat) = p3) := ⟨_, hid rfl⟩
   obtain ⟨p4, e4⟩ : ∃ p4, Hid (p3 + (nb : Nat) = p4) := ⟨_, hid rfl⟩
   obtain ⟨p5, e5⟩ : ∃ p5, Hid (p4 + (ng : Nat) = p5) := ⟨_, hid rfl⟩
   have hp : (0 ≤ p0 ∧ p0 ≤ 3000000000) ∧ (0 ≤ p1 ∧ p1 ≤ 3000000000) ∧ (0 ≤ p2 ∧ p2 ≤ 3000000000) ∧ (0 ≤ p3 ∧ p3 ≤ 3000000000) ∧ (0 ≤ p4 ∧ p4 ≤ 3000000000) ∧ (0 ≤ p5 ∧ p5 ≤ 2000000000) ∧ p5 = a + offs L (k + 1) := by
    have := e0.out; have := e1.out; have := e2.out; have := e3.out; have := e4.out; have := e5.out
    omega
   have hmv : mkV x (a + offs L k) = ⟨bb, bb + 1, iota (nl * 3) p0, iota nm p1, iota nt p2, iota nb p3, iota ng p4⟩ := by
    have q0 := e0.out; have q1 := e1.out; have q2 := e2.out; have q3 := e3.out; have q4 := e4.out
    rw [mkV, ← hEE]
    simp only [Vf.mk.injEq]
    rw [show x.lf.length = nl * 3 by omega, show x.ms.length = nm by omega, show x.ts.length = nt by omega, show x.bd.length = nb by omega, show x.gh.length = ng by omega]
    refine ⟨trivial, trivial, ?_, ?_, ?_, ?_, ?_⟩ <;> congr 1 <;> omega
   rw [hmv] at hv x0 x1
   obtain ⟨q1, q2, q3, q4, q5⟩ := hv
   simp only at q1 q2 q3 q4 q5 x0 x1
   have HP5 := hid hp.2.2.2.2.2.2
   have hq5 := hp.2.2.2.2.2.1
   have hpp := And.intro hp.1 (And.intro hp.2.1 (And.intro hp.2.2.1 (And.intro hp.2.2.2.1 hp.2.2.2.2.1)))
   have E0 := e0.out
   have n0 : (bb != bb) = false := by simp
   have n1 : (bb + 1 != bb + 1) = false := by simp
   have n2 : decide (p1 < 0) = false := decide_eq_false (by omega)
   have n3 : decide (p2 < 0) = false := decide_eq_false (by omega)
   have n4 : decide (p3 < 0) = false := decide_eq_false (by omega)
   have n5 : decide (p4 < 0) = false := decide_eq_false (by omega)
   have n6 : decide (p5 < 0) = false := decide_eq_false (by omega)
   clear hp hsz hoff hle hEE hHO l1 l2 l3 l4 l5 hshort hE hm hmv hx
   go_wp2_with fail
   refine (heldRowI Al nl cl p0 p1 _ q1 hll (by omega) (by omega) e1.out).mono ?_
   rintro e_ w3 ⟨rfl, rfl⟩
   go_wp2_with fail
   refine (heldRowN Am nm cm p1 p2 _ q2 hlm (by omega) (by omega) e2.out).mono ?_
   rintro e_ w3 ⟨rfl, d1⟩
   have b1 := Bw.drawn d1
   replace q3 := q3.to b1
   replace q4 := q4.to b1
   replace q5 := q5.to b1
   replace x0 := pw_cell_below b1.out x0
   replace x1 := pw_cell_below b1.out x1
   replace x2 := pw_cell_below b1.out x2
   replace x3 := pw_cell_below b1.out x3
   replace x4 := pw_cell_below b1.out x4
   replace x5 := pw_cell_below b1.out x5
   replace x6 := pw_cell_below b1.out x6
   replace hB := hB.trans b1
   clear b1 d1
   go_wp2_with fail
   refine (heldRowN At nt ct p2 p3 _ q3 hlt' (by omega) (by omega) e3.out).mono ?_
   rintro e_ w3 ⟨rfl, d1⟩
   have b1 := Bw.drawn d1
   replace q4 := q4.to b1
   replace q5 := q5.to b1
   replace x0 := pw_cell_below b1.out x0
   replace x1 := pw_cell_below b1.out x1
   replace x2 := pw_cell_below b1.out x2
   replace x3 := pw_cell_below b1.out x3
   replace x4 := pw_cell_below b1.out x4
   replace x5 := pw_cell_below b1.out x5
   replace x6 := pw_cell_below b1.out x6
   replace hB := hB.trans b1
   clear b1 d1
   go_wp2_with fail
   refine (heldRowN Ab nb cb p3 p4 _ q4 hlb (by omega) (by omega) e4.out).mono ?_
   rintro e_ w3 ⟨rfl, d1⟩
   have b1 := Bw.drawn d1
   replace q5 := q5.to b1
   replace x0 := pw_cell_below b1.out x0
   replace x1 := pw_cell_below b1.out x1
   replace x2 := pw_cell_below b1.out x2
   replace x3 := pw_cell_below b1.out x3
   replace x4 := pw_cell_below b1.out x4
   replace x5 := pw_cell_below b1.out x5
   replace x6 := pw_cell_below b1.out x6
   replace hB := hB.trans b1
   clear b1 d1
   go_wp2_with fail
   refine (heldRowN Ag ng cg p4 p5 _ q5 hlg (by omega) (by omega) e5.out).mono ?_
   rintro e_ w3 ⟨rfl, d1⟩
   have b1 := Bw.drawn d1
   replace x0 := pw_cell_below b1.out x0
   replace x1 := pw_cell_below b1.out x1
   replace x2 := pw_cell_below b1.out x2
   replace x3 := pw_cell_below b1.out x3
   replace x4 := pw_cell_below b1.out x4
   replace x5 := pw_cell_below b1.out x5
   replace x6 := pw_cell_below b1.out x6
   replace hB := hB.trans b1
   clear b1 d1
   go_wp2
   go_roundw
   case rel => exact ⟨k + 1, p5, by omega, hq5, rfl, by go_num, HP5, hB⟩
   case measure => simp [intOf]; omega
  ·obtain rfl : k = n := by omega
   have t1 : decide ((k : Int) < (k : Int)) = false := decide_eq_false (by omega)
   go_wp2
   go_ret
   exact ⟨ret_int hE.out, hB⟩
end Go.Proofs.Ytgdkffddcbjmmaa.U
