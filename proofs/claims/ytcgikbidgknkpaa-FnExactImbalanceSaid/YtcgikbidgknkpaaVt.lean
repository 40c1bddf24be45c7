
/- Views: comparison of slices, copies. -/
import Derived.Test.YtcgikbidgknkpaaVw
set_option linter.unusedVariables false
set_option linter.unusedSimpArgs false
namespace Go.Proofs.Ytcgikbidgknkpaa.U
open Go.RowKit Go.Lib Go.Proofs.YtcgikbidgknkpaaW.PrintWords

theorem row_apart {w w' : World} {b b' t t' k k' n n' : Nat} {v v' : Value} {xs xs' : List Value} (h : w.ownsRow b t k v n xs) (h' : w'.ownsRow b' t' k' v' n' xs') (hb : w.heap.size ≤ b') : Apart v v' := by
  rcases own_base' h with e | ⟨q, e, _⟩
  · exact .inl e
  · refine .inr fun e2 => ?_
    have h1 := own_lt h q e
    have h2 := own_base h' q (by rw [← e2, e])
    omega
theorem Wi.set (w : World) (g i : Nat) (u : Value) : Wi w (w.setCell ⟨g, i, none⟩ u) g (g + 1) := ⟨rfl, rfl, rfl, by simp [World.setCell], fun k _ hn => Below.heap_setCell w ⟨g, i, none⟩ u k (fun e => hn (by simp at e; omega))⟩
theorem cell_wi {w w' : World} {lo hi : Nat} {p : Addr} {v : Value} (c : Wi w w' lo hi) (h : w.cell? p = some v) (hp : ¬ (lo ≤ p.block ∧ p.block < hi)) : w'.cell? p = some v := by
  have := c.block p.block (World.block_lt_of_cell? w p h) hp
  rw [World.cell?_of_block this]
  exact h
set_option maxHeartbeats 4000000 in
set_option maxRecDepth 100000 in
theorem eqViewS_yes (A : Option Addr) (n c : Nat) (B : Option Addr) (d : Nat) (L : List Vf) (w : World) (r : VwR w A n L) (q : VwR w B n L) :
    Calls Try.prog 13 #[.slice A n c, .slice B n d] w fun e w' => e = .returned (.bool true) ∧ Bw w w' := by
  have hmax := r.max
  have t0 : ((n : Int) != (n : Int)) = false := by simp
  go_enter Try.func13, Try.ntmps13
  go_wp2
  go_loopw [5] (fun v5 wr => ∃ j : Nat, j ≤ n ∧ v5 = .int .i64 j ∧ Hid (Bw w wr)) (fun v5 _ => n - (intOf v5).toNat)
  case atStart => exact ⟨0, by omega, rfl, hid (Bw.refl _)⟩
  case round =>
    obtain ⟨j, hj, rfl, hB⟩ := hrel
    by_cases hlt : j < n
    · have t1 : decide ((j : Int) < (n : Int)) = true := decide_eq_true (by omega)
      obtain ⟨ad, rfl, Al, nl, cl, Am, nm, cm, At, nt, ct, Ab, nb, cb, Ag, ng, cg, x0, x1, x2, x3, x4, x5, x6, _, hv⟩ := (r.to hB.out).nat j hlt
      obtain ⟨ae, rfl, Bl, ml, dl, Bm, mm, dm, Bt, mt, dt, Bb, mb, db, Bg, mg, dg, y0, y1, y2, y3, y4, y5, y6, _, hu⟩ := (q.to hB.out).nat j hlt
      obtain rfl : nl = ml := by have h1 := hv.l.len; have h2 := hu.l.len; omega
      obtain rfl : nm = mm := hv.m.len.symm.trans hu.m.len
      obtain rfl : nt = mt := hv.t.len.symm.trans hu.t.len
      obtain rfl : nb = mb := hv.b.len.symm.trans hu.b.len
      obtain rfl : ng = mg := hv.g.len.symm.trans hu.g.len
      have HV := hid hv
      have HU := hid hu
      clear hv hu
      generalize gv L j = x at *
      generalize x.ro = ro at *
      generalize x.fr = fr at *
      have i4 : (0 : Int) ≤ (j : Int) := by omega
      have i5 : (j : Int) < (n : Int) := by omega
      go_wp2
      go_region_held3 (fun w' => w'.cell? (ad.add (j * 7)) = some (.int .i64 ro) ∧ w'.cell? ⟨(ad.add (j * 7)).block, (ad.add (j * 7)).off + 1, none⟩ = some (.int .i64 fr) ∧ w'.cell? ⟨(ad.add (j * 7)).block, (ad.add (j * 7)).off + 2, none⟩ = some (.slice Al nl cl) ∧ w'.cell? ⟨(ad.add (j * 7)).block, (ad.add (j * 7)).off + 3, none⟩ = some (.slice Am nm cm) ∧ w'.cell? ⟨(ad.add (j * 7)).block, (ad.add (j * 7)).off + 4, none⟩ = some (.slice At nt ct) ∧ w'.cell? ⟨(ad.add (j * 7)).block, (ad.add (j * 7)).off + 5, none⟩ = some (.slice Ab nb cb) ∧ w'.cell? ⟨(ad.add (j * 7)).block, (ad.add (j * 7)).off + 6, none⟩ = some (.slice Ag ng cg) ∧ w'.cell? (ae.add (j * 7)) = some (.int .i64 ro) ∧ w'.cell? ⟨(ae.add (j * 7)).block, (ae.add (j * 7)).off + 1, none⟩ = some (.int .i64 fr) ∧ w'.cell? ⟨(ae.add (j * 7)).block, (ae.add (j * 7)).off + 2, none⟩ = some (.slice Bl nl dl) ∧ w'.cell? ⟨(ae.add (j * 7)).block, (ae.add (j * 7)).off + 3, none⟩ = some (.slice Bm nm dm) ∧ w'.cell? ⟨(ae.add (j * 7)).block, (ae.add (j * 7)).off + 4, none⟩ = some (.slice Bt nt dt) ∧ w'.cell? ⟨(ae.add (j * 7)).block, (ae.add (j * 7)).off + 5, none⟩ = some (.slice Bb nb db) ∧ w'.cell? ⟨(ae.add (j * 7)).block, (ae.add (j * 7)).off + 6, none⟩ = some (.slice Bg ng dg)) (first | go_keep | (go_split_ands; exact ⟨pw_cell_below b.out (by assumption), pw_cell_below b.out (by assumption), pw_cell_below b.out (by assumption), pw_cell_below b.out (by assumption), pw_cell_below b.out (by assumption), pw_cell_below b.out (by assumption), pw_cell_below b.out (by assumption), pw_cell_below b.out (by assumption), pw_cell_below b.out (by assumption), pw_cell_below b.out (by assumption), pw_cell_below b.out (by assumption), pw_cell_below b.out (by assumption), pw_cell_below b.out (by assumption), pw_cell_below b.out (by assumption)⟩)) ((go_at_call 40; refine (eqView_yes ro fr Al nl cl Am nm cm At nt ct Ab nb cb Ag ng cg Bl dl Bm dm Bt dt Bb db Bg dg x _ (HV.out.to (Bw.drawn ⟨⟨1, rfl⟩⟩)) (HU.out.to (Bw.drawn ⟨⟨1, rfl⟩⟩))).mono ?_; rintro e w' ⟨rfl, b⟩))
      go_wp2
      go_roundw
      case rel => exact ⟨j + 1, by omega, by go_num, hid (hB.out.trans ((Bw.drawn ⟨⟨1, rfl⟩⟩).trans b))⟩
      case measure => simp [intOf]; omega
    · obtain rfl : j = n := by omega
      have t1 : decide ((j : Int) < (j : Int)) = false := decide_eq_false (by omega)
      go_wp2
      go_ret
      exact ⟨rfl, hB.out⟩
set_option maxHeartbeats 8000000 in
set_option maxRecDepth 100000 in
theorem toView (ro fr : Int) (Al : Option Addr) (nl cl : Nat) (Am : Option Addr) (nm cm : Nat) (At : Option Addr) (nt ct : Nat) (Ab : Option Addr) (nb cb : Nat) (Ag : Option Addr) (ng cg : Nat) (x : Vf) (w : World) (r : VA w Al nl Am nm At nt Ab nb Ag ng x) (hl : nl ≤ 1048576) (hm : nm ≤ 1048576) (ht : nt ≤ 1048576) (hb : nb ≤ 1048576) (hg : ng ≤ 1048576) :
    Calls Try.prog 35 #[.agg #[.int .i64 ro, .int .i64 fr, .slice Al nl cl, .slice Am nm cm, .slice At nt ct, .slice Ab nb cb, .slice Ag ng cg]] w fun e w' => ∃ vl vm vt vb vg, e = .returned (.agg #[.int .i64 ro, .int .i64 fr, vl, vm, vt, vb, vg]) ∧ Rw w' (w.heap.size + 3) w'.heap.size 84 3 vl nl x.lf ∧ Rw w' (w.heap.size + 3) w'.heap.size 3 1 vm nm x.ms ∧ Rw w' (w.heap.size + 3) w'.heap.size 3 1 vt nt x.ts ∧ Rw w' (w.heap.size + 3) w'.heap.size 3 1 vb nb x.bd ∧ Rw w' (w.heap.size + 3) w'.heap.size 3 1 vg ng x.gh ∧
      (Apart vl vm ∧ Apart vl vt ∧ Apart vl vb ∧ Apart vl vg ∧ Apart vm vt ∧ Apart vm vb ∧ Apart vm vg ∧ Apart vt vb ∧ Apart vt vg ∧ Apart vb vg) ∧ w.heap.size + 3 ≤ w'.heap.size ∧ Bw w w' := by
  obtain ⟨lv, hlv, _⟩ := unF nl x.lf r.l.len
  rw [← hlv]
  obtain r : VA w Al nl Am nm At nt Ab nb Ag ng ⟨x.ro, x.fr, idF lv, x.ms, x.ts, x.bd, x.gh⟩ := by rw [hlv]; exact ⟨r.l, r.m, r.t, r.b, r.g⟩
  clear hlv
  have b0 := (((Bw.refl w).alloc (.cells #[.int .i64 ro, .int .i64 fr, .slice Al nl cl, .slice Am nm cm, .slice At nt ct, .slice Ab nb cb, .slice Ag ng cg] 59)).alloc (.cells #[.int .i64 0, .int .i64 0, .slice none 0 0, .slice none 0 0, .slice none 0 0, .slice none 0 0, .slice none 0 0] 61)).alloc (.cells #[.int .i64 ro, .int .i64 fr, .slice none 0 0, .slice none 0 0, .slice none 0 0, .slice none 0 0, .slice none 0 0] 61)
  have g0 := box_cell ((((Bw.refl (w.alloc (.cells #[.int .i64 ro, .int .i64 fr, .slice Al nl cl, .slice Am nm cm, .slice At nt ct, .slice Ab nb cb, .slice Ag ng cg] 59))).alloc (.cells #[.int .i64 0, .int .i64 0, .slice none 0 0, .slice none 0 0, .slice none 0 0, .slice none 0 0, .slice none 0 0] 61))).alloc (.cells #[.int .i64 ro, .int .i64 fr, .slice none 0 0, .slice none 0 0, .slice none 0 0, .slice none 0 0, .slice none 0 0] 61)) 0
  have g1 := box_cell ((((Bw.refl (w.alloc (.cells #[.int .i64 ro, .int .i64 fr, .slice Al nl cl, .slice Am nm cm, .slice At nt ct, .slice Ab nb cb, .slice Ag ng cg] 59))).alloc (.cells #[.int .i64 0, .int .i64 0, .slice none 0 0, .slice none 0 0, .slice none 0 0, .slice none 0 0, .slice none 0 0] 61))).alloc (.cells #[.int .i64 ro, .int .i64 fr, .slice none 0 0, .slice none 0 0, .slice none 0 0, .slice none 0 0, .slice none 0 0] 61)) 1
  have g2 := box_cell ((((Bw.refl (w.alloc (.cells #[.int .i64 ro, .int .i64 fr, .slice Al nl cl, .slice Am nm cm, .slice At nt ct, .slice Ab nb cb, .slice Ag ng cg] 59))).alloc (.cells #[.int .i64 0, .int .i64 0, .slice none 0 0, .slice none 0 0, .slice none 0 0, .slice none 0 0, .slice none 0 0] 61))).alloc (.cells #[.int .i64 ro, .int .i64 fr, .slice none 0 0, .slice none 0 0, .slice none 0 0, .slice none 0 0, .slice none 0 0] 61)) 2
  have g3 := box_cell ((((Bw.refl (w.alloc (.cells #[.int .i64 ro, .int .i64 fr, .slice Al nl cl, .slice Am nm cm, .slice At nt ct, .slice Ab nb cb, .slice Ag ng cg] 59))).alloc (.cells #[.int .i64 0, .int .i64 0, .slice none 0 0, .slice none 0 0, .slice none 0 0, .slice none 0 0, .slice none 0 0] 61))).alloc (.cells #[.int .i64 ro, .int .i64 fr, .slice none 0 0, .slice none 0 0, .slice none 0 0, .slice none 0 0, .slice none 0 0] 61)) 3
  have g4 := box_cell ((((Bw.refl (w.alloc (.cells #[.int .i64 ro, .int .i64 fr, .slice Al nl cl, .slice Am nm cm, .slice At nt ct, .slice Ab nb cb, .slice Ag ng cg] 59))).alloc (.cells #[.int .i64 0, .int .i64 0, .slice none 0 0, .slice none 0 0, .slice none 0 0, .slice none 0 0, .slice none 0 0] 61))).alloc (.cells #[.int .i64 ro, .int .i64 fr, .slice none 0 0, .slice none 0 0, .slice none 0 0, .slice none 0 0, .slice none 0 0] 61)) 4
  have g5 := box_cell ((((Bw.refl (w.alloc (.cells #[.int .i64 ro, .int .i64 fr, .slice Al nl cl, .slice Am nm cm, .slice At nt ct, .slice Ab nb cb, .slice Ag ng cg] 59))).alloc (.cells #[.int .i64 0, .int .i64 0, .slice none 0 0, .slice none 0 0, .slice none 0 0, .slice none 0 0, .slice none 0 0] 61))).alloc (.cells #[.int .i64 ro, .int .i64 fr, .slice none 0 0, .slice none 0 0, .slice none 0 0, .slice none 0 0, .slice none 0 0] 61)) 5
  have g6 := box_cell ((((Bw.refl (w.alloc (.cells #[.int .i64 ro, .int .i64 fr, .slice Al nl cl, .slice Am nm cm, .slice At nt ct, .slice Ab nb cb, .slice Ag ng cg] 59))).alloc (.cells #[.int .i64 0, .int .i64 0, .slice none 0 0, .slice none 0 0, .slice none 0 0, .slice none 0 0, .slice none 0 0] 61))).alloc (.cells #[.int .i64 ro, .int .i64 fr, .slice none 0 0, .slice none 0 0, .slice none 0 0, .slice none 0 0, .slice none 0 0] 61)) 6
  simp only [List.getElem?_toArray, List.getElem?_cons_zero, List.getElem?_cons_succ] at g0 g1 g2 g3 g4 g5 g6
  have H2 : (((w.alloc (.cells #[.int .i64 ro, .int .i64 fr, .slice Al nl cl, .slice Am nm cm, .slice At nt ct, .slice Ab nb cb, .slice Ag ng cg] 59)).alloc (.cells #[.int .i64 0, .int .i64 0, .slice none 0 0, .slice none 0 0, .slice none 0 0, .slice none 0 0, .slice none 0 0] 61)).alloc (.cells #[.int .i64 ro, .int .i64 fr, .slice none 0 0, .slice none 0 0, .slice none 0 0, .slice none 0 0, .slice none 0 0] 61)).heap[w.heap.size + 1]? = some (.cells #[.int .i64 0, .int .i64 0, .slice none 0 0, .slice none 0 0, .slice none 0 0, .slice none 0 0, .slice none 0 0] 61 (0, 0)) := by
    have h := heap_alloc_new (w.alloc (.cells #[.int .i64 ro, .int .i64 fr, .slice Al nl cl, .slice Am nm cm, .slice At nt ct, .slice Ab nb cb, .slice Ag ng cg] 59)) (.cells #[.int .i64 0, .int .i64 0, .slice none 0 0, .slice none 0 0, .slice none 0 0, .slice none 0 0, .slice none 0 0] 61)
    rw [show (w.alloc (.cells #[.int .i64 ro, .int .i64 fr, .slice Al nl cl, .slice Am nm cm, .slice At nt ct, .slice Ab nb cb, .slice Ag ng cg] 59)).heap.size = w.heap.size + 1 by simp] at h
    exact (Below.heap_alloc _ _ _ (blk_lt h)).trans h
  have H3 : (((w.alloc (.cells #[.int .i64 ro, .int .i64 fr, .slice Al nl cl, .slice Am nm cm, .slice At nt ct, .slice Ab nb cb, .slice Ag ng cg] 59)).alloc (.cells #[.int .i64 0, .int .i64 0, .slice none 0 0, .slice none 0 0, .slice none 0 0, .slice none 0 0, .slice none 0 0] 61)).alloc (.cells #[.int .i64 ro, .int .i64 fr, .slice none 0 0, .slice none 0 0, .slice none 0 0, .slice none 0 0, .slice none 0 0] 61)).heap[w.heap.size + 1 + 1]? = some (.cells #[.int .i64 ro, .int .i64 fr, .slice none 0 0, .slice none 0 0, .slice none 0 0, .slice none 0 0, .slice none 0 0] 61 (0, 0)) := by
    have h := heap_alloc_new ((w.alloc (.cells #[.int .i64 ro, .int .i64 fr, .slice Al nl cl, .slice Am nm cm, .slice At nt ct, .slice Ab nb cb, .slice Ag ng cg] 59)).alloc (.cells #[.int .i64 0, .int .i64 0, .slice none 0 0, .slice none 0 0, .slice none 0 0, .slice none 0 0, .slice none 0 0] 61)) (.cells #[.int .i64 ro, .int .i64 fr, .slice none 0 0, .slice none 0 0, .slice none 0 0, .slice none 0 0, .slice none 0 0] 61)
    rwa [show ((w.alloc (.cells #[.int .i64 ro, .int .i64 fr, .slice Al nl cl, .slice Am nm cm, .slice At nt ct, .slice Ab nb cb, .slice Ag ng cg] 59)).alloc (.cells #[.int .i64 0, .int .i64 0, .slice none 0 0, .slice none 0 0, .slice none 0 0, .slice none 0 0, .slice none 0 0] 61)).heap.size = w.heap.size + 2 by simp] at h
  have z0 : w.heap.size + 3 ≤ (((w.alloc (.cells #[.int .i64 ro, .int .i64 fr, .slice Al nl cl, .slice Am nm cm, .slice At nt ct, .slice Ab nb cb, .slice Ag ng cg] 59)).alloc (.cells #[.int .i64 0, .int .i64 0, .slice none 0 0, .slice none 0 0, .slice none 0 0, .slice none 0 0, .slice none 0 0] 61)).alloc (.cells #[.int .i64 ro, .int .i64 fr, .slice none 0 0, .slice none 0 0, .slice none 0 0, .slice none 0 0, .slice none 0 0] 61)).heap.size := by simp
  go_enter Try.func35, Try.ntmps35
  go_wp2_with fail
  generalize hw2 : ((w.alloc (.cells #[.int .i64 ro, .int .i64 fr, .slice Al nl cl, .slice Am nm cm, .slice At nt ct, .slice Ab nb cb, .slice Ag ng cg] 59)).alloc (.cells #[.int .i64 0, .int .i64 0, .slice none 0 0, .slice none 0 0, .slice none 0 0, .slice none 0 0, .slice none 0 0] 61)).alloc (.cells #[.int .i64 ro, .int .i64 fr, .slice none 0 0, .slice none 0 0, .slice none 0 0, .slice none 0 0, .slice none 0 0] 61) = w2 at *
  refine (toIdS Al nl cl lv _ (r.l.id.to b0) hl).mono ?_
  rintro e w3 ⟨vl, rfl, ol, b1⟩
  have rw_l := FO.rw ol
  replace rw_l := rw_l.mono z0 (Nat.le_refl _)
  obtain ⟨Xl, yl, rfl, _, _⟩ := rw_l.reads
  replace g0 := pw_cell_below b1.out g0
  replace g1 := pw_cell_below b1.out g1
  replace g2 := pw_cell_below b1.out g2
  replace g3 := pw_cell_below b1.out g3
  replace g4 := pw_cell_below b1.out g4
  replace g5 := pw_cell_below b1.out g5
  replace g6 := pw_cell_below b1.out g6
  replace H2 := (b1.out.block _ (blk_lt H2)).trans H2
  replace H3 := (b1.out.block _ (blk_lt H3)).trans H3
  have z1 := b1.size
  replace b0 := b0.trans b1
  clear b1 ol
  have s0 : w3.cell? ⟨w.heap.size + 1 + 1, 2, none⟩ = some (.slice none 0 0) := blk_cell H3 2
  have s1 := blk_frozen H3 2
  have c1 : Wi w3 (w3.setCell ⟨w.heap.size + 1 + 1, 2, none⟩ (.slice Xl nl yl)) (w.heap.size + 1 + 1) (w.heap.size + 1 + 1 + 1) := Wi.set w3 _ _ _
  replace H3 : (w3.setCell ⟨w.heap.size + 1 + 1, 2, none⟩ (.slice Xl nl yl)).heap[w.heap.size + 1 + 1]? = some (.cells #[.int .i64 ro, .int .i64 fr, (.slice Xl nl yl), .slice none 0 0, .slice none 0 0, .slice none 0 0, .slice none 0 0] 61 (0, 0)) := blk_set H3 2 (.slice Xl nl yl)
  replace H2 := (c1.block _ (blk_lt H2) (by omega)).trans H2
  replace rw_l := (rw_l.wi c1 (.inr (by omega))).mono (Nat.le_refl _) c1.size
  replace b0 := bw_set b0 (show w.heap.size ≤ w.heap.size + 1 + 1 by omega) 2 (.slice Xl nl yl)
  replace g0 := (cell_wi c1 g0 (fun q => absurd q.1 (show ¬ (w.heap.size + 1 + 1 ≤ w.heap.size) by omega)))
  replace g1 := (cell_wi c1 g1 (fun q => absurd q.1 (show ¬ (w.heap.size + 1 + 1 ≤ w.heap.size) by omega)))
  replace g2 := (cell_wi c1 g2 (fun q => absurd q.1 (show ¬ (w.heap.size + 1 + 1 ≤ w.heap.size) by omega)))
  replace g3 := (cell_wi c1 g3 (fun q => absurd q.1 (show ¬ (w.heap.size + 1 + 1 ≤ w.heap.size) by omega)))
  replace g4 := (cell_wi c1 g4 (fun q => absurd q.1 (show ¬ (w.heap.size + 1 + 1 ≤ w.heap.size) by omega)))
  replace g5 := (cell_wi c1 g5 (fun q => absurd q.1 (show ¬ (w.heap.size + 1 + 1 ≤ w.heap.size) by omega)))
  replace g6 := (cell_wi c1 g6 (fun q => absurd q.1 (show ¬ (w.heap.size + 1 + 1 ≤ w.heap.size) by omega)))
  replace z0 : w.heap.size + 3 ≤ (w3.setCell ⟨w.heap.size + 1 + 1, 2, none⟩ (.slice Xl nl yl)).heap.size := Nat.le_trans z0 (Nat.le_trans z1 c1.size)
  clear c1 z1
  generalize hw3 : w3.setCell ⟨w.heap.size + 1 + 1, 2, none⟩ (.slice Xl nl yl) = w2 at *
  go_wp2_with fail
  refine (toIntS Am nm cm x.ms _ (r.m.to b0) hm).mono ?_
  rintro e w3 ⟨vm, rfl, om, b1⟩
  have rw_m := OI.rw om
  replace rw_m := rw_m.mono z0 (Nat.le_refl _)
  obtain ⟨Xm, ym, rfl, _, _⟩ := rw_m.reads
  have ap_lm := row_apart rw_l.o.out om.out (Nat.le_refl _)
  replace rw_l := (rw_l.to b1).mono (Nat.le_refl _) b1.size
  replace g0 := pw_cell_below b1.out g0
  replace g1 := pw_cell_below b1.out g1
  replace g2 := pw_cell_below b1.out g2
  replace g3 := pw_cell_below b1.out g3
  replace g4 := pw_cell_below b1.out g4
  replace g5 := pw_cell_below b1.out g5
  replace g6 := pw_cell_below b1.out g6
  replace H2 := (b1.out.block _ (blk_lt H2)).trans H2
  replace H3 := (b1.out.block _ (blk_lt H3)).trans H3
  have z1 := b1.size
  replace b0 := b0.trans b1
  clear b1 om
  have s0 : w3.cell? ⟨w.heap.size + 1 + 1, 3, none⟩ = some (.slice none 0 0) := blk_cell H3 3
  have s1 := blk_frozen H3 3
  have c1 : Wi w3 (w3.setCell ⟨w.heap.size + 1 + 1, 3, none⟩ (.slice Xm nm ym)) (w.heap.size + 1 + 1) (w.heap.size + 1 + 1 + 1) := Wi.set w3 _ _ _
  replace H3 : (w3.setCell ⟨w.heap.size + 1 + 1, 3, none⟩ (.slice Xm nm ym)).heap[w.heap.size + 1 + 1]? = some (.cells #[.int .i64 ro, .int .i64 fr, (.slice Xl nl yl), (.slice Xm nm ym), .slice none 0 0, .slice none 0 0, .slice none 0 0] 61 (0, 0)) := blk_set H3 3 (.slice Xm nm ym)
  replace H2 := (c1.block _ (blk_lt H2) (by omega)).trans H2
  replace rw_l := (rw_l.wi c1 (.inr (by omega))).mono (Nat.le_refl _) c1.size
  replace rw_m := (rw_m.wi c1 (.inr (by omega))).mono (Nat.le_refl _) c1.size
  replace b0 := bw_set b0 (show w.heap.size ≤ w.heap.size + 1 + 1 by omega) 3 (.slice Xm nm ym)
  replace g0 := (cell_wi c1 g0 (fun q => absurd q.1 (show ¬ (w.heap.size + 1 + 1 ≤ w.heap.size) by omega)))
  replace g1 := (cell_wi c1 g1 (fun q => absurd q.1 (show ¬ (w.heap.size + 1 + 1 ≤ w.heap.size) by omega)))
  replace g2 := (cell_wi c1 g2 (fun q => absurd q.1 (show ¬ (w.heap.size + 1 + 1 ≤ w.heap.size) by omega)))
  replace g3 := (cell_wi c1 g3 (fun q => absurd q.1 (show ¬ (w.heap.size + 1 + 1 ≤ w.heap.size) by omega)))
  replace g4 := (cell_wi c1 g4 (fun q => absurd q.1 (show ¬ (w.heap.size + 1 + 1 ≤ w.heap.size) by omega)))
  replace g5 := (cell_wi c1 g5 (fun q => absurd q.1 (show ¬ (w.heap.size + 1 + 1 ≤ w.heap.size) by omega)))
  replace g6 := (cell_wi c1 g6 (fun q => absurd q.1 (show ¬ (w.heap.size + 1 + 1 ≤ w.heap.size) by omega)))
  replace z0 : w.heap.size + 3 ≤ (w3.setCell ⟨w.heap.size + 1 + 1, 3, none⟩ (.slice Xm nm ym)).heap.size := Nat.le_trans z0 (Nat.le_trans z1 c1.size)
  clear c1 z1
  generalize hw3 : w3.setCell ⟨w.heap.size + 1 + 1, 3, none⟩ (.slice Xm nm ym) = w2 at *
  go_wp2_with fail
  refine (toIntS At nt ct x.ts _ (r.t.to b0) ht).mono ?_
  rintro e w3 ⟨vt, rfl, ot, b1⟩
  have rw_t := OI.rw ot
  replace rw_t := rw_t.mono z0 (Nat.le_refl _)
  obtain ⟨Xt, yt, rfl, _, _⟩ := rw_t.reads
  have ap_lt := row_apart rw_l.o.out ot.out (Nat.le_refl _)
  replace rw_l := (rw_l.to b1).mono (Nat.le_refl _) b1.size
  have ap_mt := row_apart rw_m.o.out ot.out (Nat.le_refl _)
  replace rw_m := (rw_m.to b1).mono (Nat.le_refl _) b1.size
  replace g0 := pw_cell_below b1.out g0
  replace g1 := pw_cell_below b1.out g1
  replace g2 := pw_cell_below b1.out g2
  replace g3 := pw_cell_below b1.out g3
  replace g4 := pw_cell_below b1.out g4
  replace g5 := pw_cell_below b1.out g5
  replace g6 := pw_cell_below b1.out g6
  replace H2 := (b1.out.block _ (blk_lt H2)).trans H2
  replace H3 := (b1.out.block _ (blk_lt H3)).trans H3
  have z1 := b1.size
  replace b0 := b0.trans b1
  clear b1 ot
  have s0 : w3.cell? ⟨w.heap.size + 1 + 1, 4, none⟩ = some (.slice none 0 0) := blk_cell H3 4
  have s1 := blk_frozen H3 4
  have c1 : Wi w3 (w3.setCell ⟨w.heap.size + 1 + 1, 4, none⟩ (.slice Xt nt yt)) (w.heap.size + 1 + 1) (w.heap.size + 1 + 1 + 1) := Wi.set w3 _ _ _
  replace H3 : (w3.setCell ⟨w.heap.size + 1 + 1, 4, none⟩ (.slice Xt nt yt)).heap[w.heap.size + 1 + 1]? = some (.cells #[.int .i64 ro, .int .i64 fr, (.slice Xl nl yl), (.slice Xm nm ym), (.slice Xt nt yt), .slice none 0 0, .slice none 0 0] 61 (0, 0)) := blk_set H3 4 (.slice Xt nt yt)
  replace H2 := (c1.block _ (blk_lt H2) (by omega)).trans H2
  replace rw_l := (rw_l.wi c1 (.inr (by omega))).mono (Nat.le_refl _) c1.size
  replace rw_m := (rw_m.wi c1 (.inr (by omega))).mono (Nat.le_refl _) c1.size
  replace rw_t := (rw_t.wi c1 (.inr (by omega))).mono (Nat.le_refl _) c1.size
  replace b0 := bw_set b0 (show w.heap.size ≤ w.heap.size + 1 + 1 by omega) 4 (.slice Xt nt yt)
  replace g0 := (cell_wi c1 g0 (fun q => absurd q.1 (show ¬ (w.heap.size + 1 + 1 ≤ w.heap.size) by omega)))
  replace g1 := (cell_wi c1 g1 (fun q => absurd q.1 (show ¬ (w.heap.size + 1 + 1 ≤ w.heap.size) by omega)))
  replace g2 := (cell_wi c1 g2 (fun q => absurd q.1 (show ¬ (w.heap.size + 1 + 1 ≤ w.heap.size) by omega)))
  replace g3 := (cell_wi c1 g3 (fun q => absurd q.1 (show ¬ (w.heap.size + 1 + 1 ≤ w.heap.size) by omega)))
  replace g4 := (cell_wi c1 g4 (fun q => absurd q.1 (show ¬ (w.heap.size + 1 + 1 ≤ w.heap.size) by omega)))
  replace g5 := (cell_wi c1 g5 (fun q => absurd q.1 (show ¬ (w.heap.size + 1 + 1 ≤ w.heap.size) by omega)))
  replace g6 := (cell_wi c1 g6 (fun q => absurd q.1 (show ¬ (w.heap.size + 1 + 1 ≤ w.heap.size) by omega)))
  replace z0 : w.heap.size + 3 ≤ (w3.setCell ⟨w.heap.size + 1 + 1, 4, none⟩ (.slice Xt nt yt)).heap.size := Nat.le_trans z0 (Nat.le_trans z1 c1.size)
  clear c1 z1
  generalize hw3 : w3.setCell ⟨w.heap.size + 1 + 1, 4, none⟩ (.slice Xt nt yt) = w2 at *
  go_wp2_with fail
  refine (toIntS Ab nb cb x.bd _ (r.b.to b0) hb).mono ?_
  rintro e w3 ⟨vb, rfl, ob, b1⟩
  have rw_b := OI.rw ob
  replace rw_b := rw_b.mono z0 (Nat.le_refl _)
  obtain ⟨Xb, yb, rfl, _, _⟩ := rw_b.reads
  have ap_lb := row_apart rw_l.o.out ob.out (Nat.le_refl _)
  replace rw_l := (rw_l.to b1).mono (Nat.le_refl _) b1.size
  have ap_mb := row_apart rw_m.o.out ob.out (Nat.le_refl _)
  replace rw_m := (rw_m.to b1).mono (Nat.le_refl _) b1.size
  have ap_tb := row_apart rw_t.o.out ob.out (Nat.le_refl _)
  replace rw_t := (rw_t.to b1).mono (Nat.le_refl _) b1.size
  replace g0 := pw_cell_below b1.out g0
  replace g1 := pw_cell_below b1.out g1
  replace g2 := pw_cell_below b1.out g2
  replace g3 := pw_cell_below b1.out g3
  replace g4 := pw_cell_below b1.out g4
  replace g5 := pw_cell_below b1.out g5
  replace g6 := pw_cell_below b1.out g6
  replace H2 := (b1.out.block _ (blk_lt H2)).trans H2
  replace H3 := (b1.out.block _ (blk_lt H3)).trans H3
  have z1 := b1.size
  replace b0 := b0.trans b1
  clear b1 ob
  have s0 : w3.cell? ⟨w.heap.size + 1 + 1, 5, none⟩ = some (.slice none 0 0) := blk_cell H3 5
  have s1 := blk_frozen H3 5
  have c1 : Wi w3 (w3.setCell ⟨w.heap.size + 1 + 1, 5, none⟩ (.slice Xb nb yb)) (w.heap.size + 1 + 1) (w.heap.size + 1 + 1 + 1) := Wi.set w3 _ _ _
  replace H3 : (w3.setCell ⟨w.heap.size + 1 + 1, 5, none⟩ (.slice Xb nb yb)).heap[w.heap.size + 1 + 1]? = some (.cells #[.int .i64 ro, .int .i64 fr, (.slice Xl nl yl), (.slice Xm nm ym), (.slice Xt nt yt), (.slice Xb nb yb), .slice none 0 0] 61 (0, 0)) := blk_set H3 5 (.slice Xb nb yb)
  replace H2 := (c1.block _ (blk_lt H2) (by omega)).trans H2
  replace rw_l := (rw_l.wi c1 (.inr (by omega))).mono (Nat.le_refl _) c1.size
  replace rw_m := (rw_m.wi c1 (.inr (by omega))).mono (Nat.le_refl _) c1.size
  replace rw_t := (rw_t.wi c1 (.inr (by omega))).mono (Nat.le_refl _) c1.size
  replace rw_b := (rw_b.wi c1 (.inr (by omega))).mono (Nat.le_refl _) c1.size
  replace b0 := bw_set b0 (show w.heap.size ≤ w.heap.size + 1 + 1 by omega) 5 (.slice Xb nb yb)
  replace g0 := (cell_wi c1 g0 (fun q => absurd q.1 (show ¬ (w.heap.size + 1 + 1 ≤ w.heap.size) by omega)))
  replace g1 := (cell_wi c1 g1 (fun q => absurd q.1 (show ¬ (w.heap.size + 1 + 1 ≤ w.heap.size) by omega)))
  replace g2 := (cell_wi c1 g2 (fun q => absurd q.1 (show ¬ (w.heap.size + 1 + 1 ≤ w.heap.size) by omega)))
  replace g3 := (cell_wi c1 g3 (fun q => absurd q.1 (show ¬ (w.heap.size + 1 + 1 ≤ w.heap.size) by omega)))
  replace g4 := (cell_wi c1 g4 (fun q => absurd q.1 (show ¬ (w.heap.size + 1 + 1 ≤ w.heap.size) by omega)))
  replace g5 := (cell_wi c1 g5 (fun q => absurd q.1 (show ¬ (w.heap.size + 1 + 1 ≤ w.heap.size) by omega)))
  replace g6 := (cell_wi c1 g6 (fun q => absurd q.1 (show ¬ (w.heap.size + 1 + 1 ≤ w.heap.size) by omega)))
  replace z0 : w.heap.size + 3 ≤ (w3.setCell ⟨w.heap.size + 1 + 1, 5, none⟩ (.slice Xb nb yb)).heap.size := Nat.le_trans z0 (Nat.le_trans z1 c1.size)
  clear c1 z1
  generalize hw3 : w3.setCell ⟨w.heap.size + 1 + 1, 5, none⟩ (.slice Xb nb yb) = w2 at *
  go_wp2_with fail
  refine (toIntS Ag ng cg x.gh _ (r.g.to b0) hg).mono ?_
  rintro e w3 ⟨vg, rfl, og, b1⟩
  have rw_g := OI.rw og
  replace rw_g := rw_g.mono z0 (Nat.le_refl _)
  obtain ⟨Xg, yg, rfl, _, _⟩ := rw_g.reads
  have ap_lg := row_apart rw_l.o.out og.out (Nat.le_refl _)
  replace rw_l := (rw_l.to b1).mono (Nat.le_refl _) b1.size
  have ap_mg := row_apart rw_m.o.out og.out (Nat.le_refl _)
  replace rw_m := (rw_m.to b1).mono (Nat.le_refl _) b1.size
  have ap_tg := row_apart rw_t.o.out og.out (Nat.le_refl _)
  replace rw_t := (rw_t.to b1).mono (Nat.le_refl _) b1.size
  have ap_bg := row_apart rw_b.o.out og.out (Nat.le_refl _)
  replace rw_b := (rw_b.to b1).mono (Nat.le_refl _) b1.size
  replace g0 := pw_cell_below b1.out g0
  replace g1 := pw_cell_below b1.out g1
  replace g2 := pw_cell_below b1.out g2
  replace g3 := pw_cell_below b1.out g3
  replace g4 := pw_cell_below b1.out g4
  replace g5 := pw_cell_below b1.out g5
  replace g6 := pw_cell_below b1.out g6
  replace H2 := (b1.out.block _ (blk_lt H2)).trans H2
  replace H3 := (b1.out.block _ (blk_lt H3)).trans H3
  have z1 := b1.size
  replace b0 := b0.trans b1
  clear b1 og
  have s0 : w3.cell? ⟨w.heap.size + 1 + 1, 6, none⟩ = some (.slice none 0 0) := blk_cell H3 6
  have s1 := blk_frozen H3 6
  have c1 : Wi w3 (w3.setCell ⟨w.heap.size + 1 + 1, 6, none⟩ (.slice Xg ng yg)) (w.heap.size + 1 + 1) (w.heap.size + 1 + 1 + 1) := Wi.set w3 _ _ _
  replace H3 : (w3.setCell ⟨w.heap.size + 1 + 1, 6, none⟩ (.slice Xg ng yg)).heap[w.heap.size + 1 + 1]? = some (.cells #[.int .i64 ro, .int .i64 fr, (.slice Xl nl yl), (.slice Xm nm ym), (.slice Xt nt yt), (.slice Xb nb yb), (.slice Xg ng yg)] 61 (0, 0)) := blk_set H3 6 (.slice Xg ng yg)
  replace H2 := (c1.block _ (blk_lt H2) (by omega)).trans H2
  replace rw_l := (rw_l.wi c1 (.inr (by omega))).mono (Nat.le_refl _) c1.size
  replace rw_m := (rw_m.wi c1 (.inr (by omega))).mono (Nat.le_refl _) c1.size
  replace rw_t := (rw_t.wi c1 (.inr (by omega))).mono (Nat.le_refl _) c1.size
  replace rw_b := (rw_b.wi c1 (.inr (by omega))).mono (Nat.le_refl _) c1.size
  replace rw_g := (rw_g.wi c1 (.inr (by omega))).mono (Nat.le_refl _) c1.size
  replace b0 := bw_set b0 (show w.heap.size ≤ w.heap.size + 1 + 1 by omega) 6 (.slice Xg ng yg)
  replace g0 := (cell_wi c1 g0 (fun q => absurd q.1 (show ¬ (w.heap.size + 1 + 1 ≤ w.heap.size) by omega)))
  replace g1 := (cell_wi c1 g1 (fun q => absurd q.1 (show ¬ (w.heap.size + 1 + 1 ≤ w.heap.size) by omega)))
  replace g2 := (cell_wi c1 g2 (fun q => absurd q.1 (show ¬ (w.heap.size + 1 + 1 ≤ w.heap.size) by omega)))
  replace g3 := (cell_wi c1 g3 (fun q => absurd q.1 (show ¬ (w.heap.size + 1 + 1 ≤ w.heap.size) by omega)))
  replace g4 := (cell_wi c1 g4 (fun q => absurd q.1 (show ¬ (w.heap.size + 1 + 1 ≤ w.heap.size) by omega)))
  replace g5 := (cell_wi c1 g5 (fun q => absurd q.1 (show ¬ (w.heap.size + 1 + 1 ≤ w.heap.size) by omega)))
  replace g6 := (cell_wi c1 g6 (fun q => absurd q.1 (show ¬ (w.heap.size + 1 + 1 ≤ w.heap.size) by omega)))
  replace z0 : w.heap.size + 3 ≤ (w3.setCell ⟨w.heap.size + 1 + 1, 6, none⟩ (.slice Xg ng yg)).heap.size := Nat.le_trans z0 (Nat.le_trans z1 c1.size)
  clear c1 z1
  generalize hw3 : w3.setCell ⟨w.heap.size + 1 + 1, 6, none⟩ (.slice Xg ng yg) = w2 at *
  have p0 := (blk_cell H2 0).trans (show _ = some (Value.int .i64 0) from rfl)
  have p1 := (blk_cell H2 1).trans (show _ = some (Value.int .i64 0) from rfl)
  have p2 := (blk_cell H2 2).trans (show _ = some (Value.slice none 0 0) from rfl)
  have p3 := (blk_cell H2 3).trans (show _ = some (Value.slice none 0 0) from rfl)
  have p4 := (blk_cell H2 4).trans (show _ = some (Value.slice none 0 0) from rfl)
  have p5 := (blk_cell H2 5).trans (show _ = some (Value.slice none 0 0) from rfl)
  have p6 := (blk_cell H2 6).trans (show _ = some (Value.slice none 0 0) from rfl)
  have l0 := (blk_cell H3 0).trans (show _ = some (Value.int .i64 ro) from rfl)
  have l1 := (blk_cell H3 1).trans (show _ = some (Value.int .i64 fr) from rfl)
  have l2 := (blk_cell H3 2).trans (show _ = some (Value.slice Xl nl yl) from rfl)
  have l3 := (blk_cell H3 3).trans (show _ = some (Value.slice Xm nm ym) from rfl)
  have l4 := (blk_cell H3 4).trans (show _ = some (Value.slice Xt nt yt) from rfl)
  have l5 := (blk_cell H3 5).trans (show _ = some (Value.slice Xb nb yb) from rfl)
  have l6 := (blk_cell H3 6).trans (show _ = some (Value.slice Xg ng yg) from rfl)
  have f0 := blk_frozen H2 0
  have f1 := blk_frozen H2 1
  have f2 := blk_frozen H2 2
  have f3 := blk_frozen H2 3
  have f4 := blk_frozen H2 4
  have f5 := blk_frozen H2 5
  have f6 := blk_frozen H2 6
  have HF : (((((((w2.setCell ⟨w.heap.size + 1, 0, none⟩ (.int .i64 ro)).setCell ⟨w.heap.size + 1, 1, none⟩ (.int .i64 fr)).setCell ⟨w.heap.size + 1, 2, none⟩ (.slice Xl nl yl)).setCell ⟨w.heap.size + 1, 3, none⟩ (.slice Xm nm ym)).setCell ⟨w.heap.size + 1, 4, none⟩ (.slice Xt nt yt)).setCell ⟨w.heap.size + 1, 5, none⟩ (.slice Xb nb yb)).setCell ⟨w.heap.size + 1, 6, none⟩ (.slice Xg ng yg)).heap[w.heap.size + 1]? = some (.cells #[.int .i64 ro, .int .i64 fr, .slice Xl nl yl, .slice Xm nm ym, .slice Xt nt yt, .slice Xb nb yb, .slice Xg ng yg] 61 (0, 0)) := blk_set (blk_set (blk_set (blk_set (blk_set (blk_set (blk_set (H2) 0 (.int .i64 ro)) 1 (.int .i64 fr)) 2 (.slice Xl nl yl)) 3 (.slice Xm nm ym)) 4 (.slice Xt nt yt)) 5 (.slice Xb nb yb)) 6 (.slice Xg ng yg)
  have CF : Wi w2 (((((((w2.setCell ⟨w.heap.size + 1, 0, none⟩ (.int .i64 ro)).setCell ⟨w.heap.size + 1, 1, none⟩ (.int .i64 fr)).setCell ⟨w.heap.size + 1, 2, none⟩ (.slice Xl nl yl)).setCell ⟨w.heap.size + 1, 3, none⟩ (.slice Xm nm ym)).setCell ⟨w.heap.size + 1, 4, none⟩ (.slice Xt nt yt)).setCell ⟨w.heap.size + 1, 5, none⟩ (.slice Xb nb yb)).setCell ⟨w.heap.size + 1, 6, none⟩ (.slice Xg ng yg)) (w.heap.size + 1) (w.heap.size + 1 + 1) := (((((((Wi.refl w2 (w.heap.size + 1) (w.heap.size + 1 + 1)).trans (Wi.set _ _ 0 (.int .i64 ro))).trans (Wi.set _ _ 1 (.int .i64 fr))).trans (Wi.set _ _ 2 (.slice Xl nl yl))).trans (Wi.set _ _ 3 (.slice Xm nm ym))).trans (Wi.set _ _ 4 (.slice Xt nt yt))).trans (Wi.set _ _ 5 (.slice Xb nb yb))).trans (Wi.set _ _ 6 (.slice Xg ng yg))
  have BF : Bw w (((((((w2.setCell ⟨w.heap.size + 1, 0, none⟩ (.int .i64 ro)).setCell ⟨w.heap.size + 1, 1, none⟩ (.int .i64 fr)).setCell ⟨w.heap.size + 1, 2, none⟩ (.slice Xl nl yl)).setCell ⟨w.heap.size + 1, 3, none⟩ (.slice Xm nm ym)).setCell ⟨w.heap.size + 1, 4, none⟩ (.slice Xt nt yt)).setCell ⟨w.heap.size + 1, 5, none⟩ (.slice Xb nb yb)).setCell ⟨w.heap.size + 1, 6, none⟩ (.slice Xg ng yg)) := bw_set (bw_set (bw_set (bw_set (bw_set (bw_set (bw_set (b0) (show w.heap.size ≤ w.heap.size + 1 by omega) 0 (.int .i64 ro)) (show w.heap.size ≤ w.heap.size + 1 by omega) 1 (.int .i64 fr)) (show w.heap.size ≤ w.heap.size + 1 by omega) 2 (.slice Xl nl yl)) (show w.heap.size ≤ w.heap.size + 1 by omega) 3 (.slice Xm nm ym)) (show w.heap.size ≤ w.heap.size + 1 by omega) 4 (.slice Xt nt yt)) (show w.heap.size ≤ w.heap.size + 1 by omega) 5 (.slice Xb nb yb)) (show w.heap.size ≤ w.heap.size + 1 by omega) 6 (.slice Xg ng yg)
  have q_l := (rw_l.wi CF (.inr (by omega))).mono (Nat.le_refl _) CF.size
  have q_m := (rw_m.wi CF (.inr (by omega))).mono (Nat.le_refl _) CF.size
  have q_t := (rw_t.wi CF (.inr (by omega))).mono (Nat.le_refl _) CF.size
  have q_b := (rw_b.wi CF (.inr (by omega))).mono (Nat.le_refl _) CF.size
  have q_g := (rw_g.wi CF (.inr (by omega))).mono (Nat.le_refl _) CF.size
  have HZF := hid (Nat.le_trans z0 CF.size)
  have HHF := hid HF
  have HBF := hid BF
  have Hq_l := hid q_l
  have Hq_m := hid q_m
  have Hq_t := hid q_t
  have Hq_b := hid q_b
  have Hq_g := hid q_g
  clear HF CF BF q_l q_m q_t q_b q_g H2 H3 rw_l rw_m rw_t rw_b rw_g
  go_wp2
  refine bodyPost_ret (results_cell_row rfl _ _ (w.heap.size + 1) 61 #[.int .i64 ro, .int .i64 fr, .slice Xl nl yl, .slice Xm nm ym, .slice Xt nt yt, .slice Xb nb yb, .slice Xg ng yg] (0, 0) _ rfl HHF.out Try.underlying61 rfl (by kernel_rfl)) rfl ?_
  exact ⟨_, _, _, _, _, rfl, Hq_l.out, Hq_m.out, Hq_t.out, Hq_b.out, Hq_g.out, ⟨ap_lm, ap_lt, ap_lb, ap_lg, ap_mt, ap_mb, ap_mg, ap_tb, ap_tg, ap_bg⟩, HZF.out, HBF.out⟩
end Go.Proofs.Ytcgikbidgknkpaa.U
