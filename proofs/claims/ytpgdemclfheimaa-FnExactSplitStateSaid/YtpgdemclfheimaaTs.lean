
/- The laws' copy of a state. -/
import Derived.Test.YtpgdemclfheimaaSe
import Derived.Test.YtpgdemclfheimaaG4
set_option linter.unusedVariables false
set_option linter.unusedSimpArgs false
namespace Go.Proofs.Ytpgdemclfheimaa.U
open Go.RowKit Go.Lib Go.Proofs.YtpgdemclfheimaaW.PrintWords

set_option maxHeartbeats 8000000 in
set_option maxRecDepth 100000 in
theorem toMesh (ro : Int) (A : Option Addr) (n c : Nat) (l : List Ce) (w : World) (r : IdR w A n l) (hn : n ≤ 1048576) :
    Calls Try.prog 48 #[.agg #[.int .i64 ro, .slice A n c]] w fun e w' => ∃ X y, e = .returned (.agg #[.int .i64 ro, .slice X n y]) ∧ Rw w' (w.heap.size + 3) w'.heap.size 84 3 (.slice X n y) n (idF l) ∧ w.heap.size + 3 ≤ w'.heap.size ∧ Bw w w' := by
  have b0 := (((Bw.refl w).alloc (.cells #[.int .i64 ro, .slice A n c] 41)).alloc (.cells #[.int .i64 0, .slice none 0 0] 26)).alloc (.cells #[.int .i64 ro, .slice none 0 0] 26)
  have g0 := box_cell (((Bw.refl (w.alloc (.cells #[.int .i64 ro, .slice A n c] 41))).alloc (.cells #[.int .i64 0, .slice none 0 0] 26)).alloc (.cells #[.int .i64 ro, .slice none 0 0] 26)) 0
  have g1 := box_cell (((Bw.refl (w.alloc (.cells #[.int .i64 ro, .slice A n c] 41))).alloc (.cells #[.int .i64 0, .slice none 0 0] 26)).alloc (.cells #[.int .i64 ro, .slice none 0 0] 26)) 1
  simp only [List.getElem?_toArray, List.getElem?_cons_zero, List.getElem?_cons_succ] at g0 g1
  have H2 : (((w.alloc (.cells #[.int .i64 ro, .slice A n c] 41)).alloc (.cells #[.int .i64 0, .slice none 0 0] 26)).alloc (.cells #[.int .i64 ro, .slice none 0 0] 26)).heap[w.heap.size + 1]? = some (.cells #[.int .i64 0, .slice none 0 0] 26 (0, 0)) := by
    have h := heap_alloc_new (w.alloc (.cells #[.int .i64 ro, .slice A n c] 41)) (.cells #[.int .i64 0, .slice none 0 0] 26)
    rw [show (w.alloc (.cells #[.int .i64 ro, .slice A n c] 41)).heap.size = w.heap.size + 1 by simp] at h
    exact (Below.heap_alloc _ _ _ (blk_lt h)).trans h
  have H3 : (((w.alloc (.cells #[.int .i64 ro, .slice A n c] 41)).alloc (.cells #[.int .i64 0, .slice none 0 0] 26)).alloc (.cells #[.int .i64 ro, .slice none 0 0] 26)).heap[w.heap.size + 1 + 1]? = some (.cells #[.int .i64 ro, .slice none 0 0] 26 (0, 0)) := by
    have h := heap_alloc_new ((w.alloc (.cells #[.int .i64 ro, .slice A n c] 41)).alloc (.cells #[.int .i64 0, .slice none 0 0] 26)) (.cells #[.int .i64 ro, .slice none 0 0] 26)
    rwa [show ((w.alloc (.cells #[.int .i64 ro, .slice A n c] 41)).alloc (.cells #[.int .i64 0, .slice none 0 0] 26)).heap.size = w.heap.size + 2 by simp] at h
  have z0 : w.heap.size + 3 ≤ (((w.alloc (.cells #[.int .i64 ro, .slice A n c] 41)).alloc (.cells #[.int .i64 0, .slice none 0 0] 26)).alloc (.cells #[.int .i64 ro, .slice none 0 0] 26)).heap.size := by simp
  go_enter Try.func48, Try.ntmps48
  go_wp2_with fail
  generalize hw2 : (((w.alloc (.cells #[.int .i64 ro, .slice A n c] 41)).alloc (.cells #[.int .i64 0, .slice none 0 0] 26)).alloc (.cells #[.int .i64 ro, .slice none 0 0] 26)) = w2 at *
  refine (toIdS A n c l _ (r.to b0) hn).mono ?_
  rintro e w3 ⟨vl, rfl, ol, b1⟩
  have rw_l := FO.rw ol
  replace rw_l := rw_l.mono z0 (Nat.le_refl _)
  obtain ⟨Xl, yl, rfl, _, _⟩ := rw_l.reads
  replace g0 := pw_cell_below b1.out g0
  replace g1 := pw_cell_below b1.out g1
  replace H2 := (b1.out.block _ (blk_lt H2)).trans H2
  replace H3 := (b1.out.block _ (blk_lt H3)).trans H3
  have z1 := b1.size
  replace b0 := b0.trans b1
  clear b1
  have s0 : w3.cell? ⟨w.heap.size + 1 + 1, 1, none⟩ = some (.slice none 0 0) := blk_cell H3 1
  have v0 := blk_frozen H3 1
  have c1 : Wi w3 (w3.setCell ⟨w.heap.size + 1 + 1, 1, none⟩ (.slice Xl n yl)) (w.heap.size + 1 + 1) (w.heap.size + 1 + 1 + 1) := (Wi.refl w3 (w.heap.size + 1 + 1) (w.heap.size + 1 + 1 + 1)).trans (Wi.set w3 _ 1 (.slice Xl n yl))
  replace H3 : (w3.setCell ⟨w.heap.size + 1 + 1, 1, none⟩ (.slice Xl n yl)).heap[w.heap.size + 1 + 1]? = some (.cells #[.int .i64 ro, .slice Xl n yl] 26 (0, 0)) := blk_set (H3) 1 (.slice Xl n yl)
  replace H2 := (c1.block _ (blk_lt H2) (by omega)).trans H2
  replace rw_l := (rw_l.wi c1 (.inr (by omega))).mono (Nat.le_refl _) c1.size
  replace b0 := bw_set (b0) (show w.heap.size ≤ w.heap.size + 1 + 1 by omega) 1 (.slice Xl n yl)
  replace g0 := (cell_wi c1 g0 (fun q => absurd q.1 (show ¬ (w.heap.size + 1 + 1 ≤ w.heap.size) by omega)))
  replace g1 := (cell_wi c1 g1 (fun q => absurd q.1 (show ¬ (w.heap.size + 1 + 1 ≤ w.heap.size) by omega)))
  replace z0 : w.heap.size + 3 ≤ (w3.setCell ⟨w.heap.size + 1 + 1, 1, none⟩ (.slice Xl n yl)).heap.size := Nat.le_trans z0 (Nat.le_trans z1 c1.size)
  clear c1 z1
  generalize hw3 : (w3.setCell ⟨w.heap.size + 1 + 1, 1, none⟩ (.slice Xl n yl)) = w2 at *
  have p0 := (blk_cell H2 0).trans (show _ = some (Value.int .i64 0) from rfl)
  have l0 := (blk_cell H3 0).trans (show _ = some (Value.int .i64 ro) from rfl)
  have f0 := blk_frozen H2 0
  have p1 := (blk_cell H2 1).trans (show _ = some (Value.slice none 0 0) from rfl)
  have l1 := (blk_cell H3 1).trans (show _ = some (Value.slice Xl n yl) from rfl)
  have f1 := blk_frozen H2 1
  have HF := hid (show ((w2.setCell ⟨w.heap.size + 1, 0, none⟩ (.int .i64 ro)).setCell ⟨w.heap.size + 1, 1, none⟩ (.slice Xl n yl)).heap[w.heap.size + 1]? = some (.cells #[.int .i64 ro, .slice Xl n yl] 26 (0, 0)) from blk_set (blk_set (H2) 0 (.int .i64 ro)) 1 (.slice Xl n yl))
  have CF : Wi w2 ((w2.setCell ⟨w.heap.size + 1, 0, none⟩ (.int .i64 ro)).setCell ⟨w.heap.size + 1, 1, none⟩ (.slice Xl n yl)) (w.heap.size + 1) (w.heap.size + 1 + 1) := ((Wi.refl w2 (w.heap.size + 1) (w.heap.size + 1 + 1)).trans (Wi.set _ _ 0 (.int .i64 ro))).trans (Wi.set _ _ 1 (.slice Xl n yl))
  have HBF := hid (show Bw w ((w2.setCell ⟨w.heap.size + 1, 0, none⟩ (.int .i64 ro)).setCell ⟨w.heap.size + 1, 1, none⟩ (.slice Xl n yl)) from bw_set (bw_set (b0) (show w.heap.size ≤ w.heap.size + 1 by omega) 0 (.int .i64 ro)) (show w.heap.size ≤ w.heap.size + 1 by omega) 1 (.slice Xl n yl))
  have HQ_l := hid ((rw_l.wi CF (.inr (by omega))).mono (Nat.le_refl _) CF.size)
  have HZF := hid (Nat.le_trans z0 CF.size)
  clear CF H2 H3 b0 z0 rw_l
  go_wp2
  refine bodyPost_ret (results_cell_row rfl _ _ (w.heap.size + 1) 26 #[.int .i64 ro, .slice Xl n yl] (0, 0) _ rfl HF.out Try.underlying26 rfl (by kernel_rfl)) rfl ?_
  exact ⟨_, _, rfl, HQ_l.out, HZF.out, HBF.out⟩
set_option maxHeartbeats 8000000 in
set_option maxRecDepth 100000 in
theorem toState (x : Value) (s : Sta) (w : World) (hx : StR w x s) (h0 : s.lv.length ≤ 1048576) (h1 : s.ms.length ≤ 1048576) (h2 : s.ts.length ≤ 1048576) (h3 : s.bd.length ≤ 1048576) :
    Calls Try.prog 19 #[x] w fun e w' => ∃ v, e = .returned v ∧ StO w' w.heap.size w'.heap.size v s ∧ Bw w w' := by
  obtain ⟨A0, c0, A1, c1, A2, c2, A3, c3, rfl, r0, r1, r2, r3⟩ := hx
  have b0 := (((Bw.refl w).alloc (.cells #[.int .i64 s.ro, .slice A0 s.lv.length c0, .slice A1 s.ms.length c1, .slice A2 s.ts.length c2, .slice A3 s.bd.length c3] 43)).alloc (.cells #[.int .i64 0, .slice none 0 0, .slice none 0 0, .slice none 0 0, .slice none 0 0] 29)).alloc (.cells #[.int .i64 0, .slice none 0 0, .slice none 0 0, .slice none 0 0, .slice none 0 0] 29)
  have g0 := box_cell (((Bw.refl (w.alloc (.cells #[.int .i64 s.ro, .slice A0 s.lv.length c0, .slice A1 s.ms.length c1, .slice A2 s.ts.length c2, .slice A3 s.bd.length c3] 43))).alloc (.cells #[.int .i64 0, .slice none 0 0, .slice none 0 0, .slice none 0 0, .slice none 0 0] 29)).alloc (.cells #[.int .i64 0, .slice none 0 0, .slice none 0 0, .slice none 0 0, .slice none 0 0] 29)) 0
  have g1 := box_cell (((Bw.refl (w.alloc (.cells #[.int .i64 s.ro, .slice A0 s.lv.length c0, .slice A1 s.ms.length c1, .slice A2 s.ts.length c2, .slice A3 s.bd.length c3] 43))).alloc (.cells #[.int .i64 0, .slice none 0 0, .slice none 0 0, .slice none 0 0, .slice none 0 0] 29)).alloc (.cells #[.int .i64 0, .slice none 0 0, .slice none 0 0, .slice none 0 0, .slice none 0 0] 29)) 1
  have g2 := box_cell (((Bw.refl (w.alloc (.cells #[.int .i64 s.ro, .slice A0 s.lv.length c0, .slice A1 s.ms.length c1, .slice A2 s.ts.length c2, .slice A3 s.bd.length c3] 43))).alloc (.cells #[.int .i64 0, .slice none 0 0, .slice none 0 0, .slice none 0 0, .slice none 0 0] 29)).alloc (.cells #[.int .i64 0, .slice none 0 0, .slice none 0 0, .slice none 0 0, .slice none 0 0] 29)) 2
  have g3 := box_cell (((Bw.refl (w.alloc (.cells #[.int .i64 s.ro, .slice A0 s.lv.length c0, .slice A1 s.ms.length c1, .slice A2 s.ts.length c2, .slice A3 s.bd.length c3] 43))).alloc (.cells #[.int .i64 0, .slice none 0 0, .slice none 0 0, .slice none 0 0, .slice none 0 0] 29)).alloc (.cells #[.int .i64 0, .slice none 0 0, .slice none 0 0, .slice none 0 0, .slice none 0 0] 29)) 3
  have g4 := box_cell (((Bw.refl (w.alloc (.cells #[.int .i64 s.ro, .slice A0 s.lv.length c0, .slice A1 s.ms.length c1, .slice A2 s.ts.length c2, .slice A3 s.bd.length c3] 43))).alloc (.cells #[.int .i64 0, .slice none 0 0, .slice none 0 0, .slice none 0 0, .slice none 0 0] 29)).alloc (.cells #[.int .i64 0, .slice none 0 0, .slice none 0 0, .slice none 0 0, .slice none 0 0] 29)) 4
  simp only [List.getElem?_toArray, List.getElem?_cons_zero, List.getElem?_cons_succ] at g0 g1 g2 g3 g4
  have H2 : (((w.alloc (.cells #[.int .i64 s.ro, .slice A0 s.lv.length c0, .slice A1 s.ms.length c1, .slice A2 s.ts.length c2, .slice A3 s.bd.length c3] 43)).alloc (.cells #[.int .i64 0, .slice none 0 0, .slice none 0 0, .slice none 0 0, .slice none 0 0] 29)).alloc (.cells #[.int .i64 0, .slice none 0 0, .slice none 0 0, .slice none 0 0, .slice none 0 0] 29)).heap[w.heap.size + 1]? = some (.cells #[.int .i64 0, .slice none 0 0, .slice none 0 0, .slice none 0 0, .slice none 0 0] 29 (0, 0)) := by
    have h := heap_alloc_new (w.alloc (.cells #[.int .i64 s.ro, .slice A0 s.lv.length c0, .slice A1 s.ms.length c1, .slice A2 s.ts.length c2, .slice A3 s.bd.length c3] 43)) (.cells #[.int .i64 0, .slice none 0 0, .slice none 0 0, .slice none 0 0, .slice none 0 0] 29)
    rw [show (w.alloc (.cells #[.int .i64 s.ro, .slice A0 s.lv.length c0, .slice A1 s.ms.length c1, .slice A2 s.ts.length c2, .slice A3 s.bd.length c3] 43)).heap.size = w.heap.size + 1 by simp] at h
    exact (Below.heap_alloc _ _ _ (blk_lt h)).trans h
  have H3 : (((w.alloc (.cells #[.int .i64 s.ro, .slice A0 s.lv.length c0, .slice A1 s.ms.length c1, .slice A2 s.ts.length c2, .slice A3 s.bd.length c3] 43)).alloc (.cells #[.int .i64 0, .slice none 0 0, .slice none 0 0, .slice none 0 0, .slice none 0 0] 29)).alloc (.cells #[.int .i64 0, .slice none 0 0, .slice none 0 0, .slice none 0 0, .slice none 0 0] 29)).heap[w.heap.size + 1 + 1]? = some (.cells #[.int .i64 0, .slice none 0 0, .slice none 0 0, .slice none 0 0, .slice none 0 0] 29 (0, 0)) := by
    have h := heap_alloc_new ((w.alloc (.cells #[.int .i64 s.ro, .slice A0 s.lv.length c0, .slice A1 s.ms.length c1, .slice A2 s.ts.length c2, .slice A3 s.bd.length c3] 43)).alloc (.cells #[.int .i64 0, .slice none 0 0, .slice none 0 0, .slice none 0 0, .slice none 0 0] 29)) (.cells #[.int .i64 0, .slice none 0 0, .slice none 0 0, .slice none 0 0, .slice none 0 0] 29)
    rwa [show ((w.alloc (.cells #[.int .i64 s.ro, .slice A0 s.lv.length c0, .slice A1 s.ms.length c1, .slice A2 s.ts.length c2, .slice A3 s.bd.length c3] 43)).alloc (.cells #[.int .i64 0, .slice none 0 0, .slice none 0 0, .slice none 0 0, .slice none 0 0] 29)).heap.size = w.heap.size + 2 by simp] at h
  have z0 : w.heap.size + 3 ≤ (((w.alloc (.cells #[.int .i64 s.ro, .slice A0 s.lv.length c0, .slice A1 s.ms.length c1, .slice A2 s.ts.length c2, .slice A3 s.bd.length c3] 43)).alloc (.cells #[.int .i64 0, .slice none 0 0, .slice none 0 0, .slice none 0 0, .slice none 0 0] 29)).alloc (.cells #[.int .i64 0, .slice none 0 0, .slice none 0 0, .slice none 0 0, .slice none 0 0] 29)).heap.size := by simp
  go_enter Try.func19, Try.ntmps19
  go_wp2_with fail
  generalize hw2 : (((w.alloc (.cells #[.int .i64 s.ro, .slice A0 s.lv.length c0, .slice A1 s.ms.length c1, .slice A2 s.ts.length c2, .slice A3 s.bd.length c3] 43)).alloc (.cells #[.int .i64 0, .slice none 0 0, .slice none 0 0, .slice none 0 0, .slice none 0 0] 29)).alloc (.cells #[.int .i64 0, .slice none 0 0, .slice none 0 0, .slice none 0 0, .slice none 0 0] 29)) = w2 at *
  refine (toMesh s.ro A0 s.lv.length c0 s.lv _ (r0.to b0) h0).mono ?_
  rintro e w3 ⟨Xl, yl, rfl, ol, hz, b1⟩
  have rw_l := ol.mono (show _ ≤ _ from Nat.le_trans (Nat.le_refl _) (Nat.le_add_right _ 3)) (Nat.le_refl _)
  replace rw_l := rw_l.mono z0 (Nat.le_refl _)
  replace g0 := pw_cell_below b1.out g0
  replace g1 := pw_cell_below b1.out g1
  replace g2 := pw_cell_below b1.out g2
  replace g3 := pw_cell_below b1.out g3
  replace g4 := pw_cell_below b1.out g4
  replace H2 := (b1.out.block _ (blk_lt H2)).trans H2
  replace H3 := (b1.out.block _ (blk_lt H3)).trans H3
  have z1 := b1.size
  replace b0 := b0.trans b1
  clear b1
  have s0 : w3.cell? ⟨w.heap.size + 1 + 1, 0, none⟩ = some (.int .i64 0) := blk_cell H3 0
  have v0 := blk_frozen H3 0
  have s1 : w3.cell? ⟨w.heap.size + 1 + 1, 1, none⟩ = some (.slice none 0 0) := blk_cell H3 1
  have v1 := blk_frozen H3 1
  have c1 : Wi w3 ((w3.setCell ⟨w.heap.size + 1 + 1, 0, none⟩ (.int .i64 s.ro)).setCell ⟨w.heap.size + 1 + 1, 1, none⟩ (.slice Xl s.lv.length yl)) (w.heap.size + 1 + 1) (w.heap.size + 1 + 1 + 1) := ((Wi.refl w3 (w.heap.size + 1 + 1) (w.heap.size + 1 + 1 + 1)).trans (Wi.set w3 _ 0 (.int .i64 s.ro))).trans (Wi.set _ _ 1 (.slice Xl s.lv.length yl))
  replace H3 : ((w3.setCell ⟨w.heap.size + 1 + 1, 0, none⟩ (.int .i64 s.ro)).setCell ⟨w.heap.size + 1 + 1, 1, none⟩ (.slice Xl s.lv.length yl)).heap[w.heap.size + 1 + 1]? = some (.cells #[.int .i64 s.ro, .slice Xl s.lv.length yl, .slice none 0 0, .slice none 0 0, .slice none 0 0] 29 (0, 0)) := blk_set (blk_set (H3) 0 (.int .i64 s.ro)) 1 (.slice Xl s.lv.length yl)
  replace H2 := (c1.block _ (blk_lt H2) (by omega)).trans H2
  replace rw_l := (rw_l.wi c1 (.inr (by omega))).mono (Nat.le_refl _) c1.size
  replace b0 := bw_set (bw_set (b0) (show w.heap.size ≤ w.heap.size + 1 + 1 by omega) 0 (.int .i64 s.ro)) (show w.heap.size ≤ w.heap.size + 1 + 1 by omega) 1 (.slice Xl s.lv.length yl)
  replace g0 := (cell_wi c1 g0 (fun q => absurd q.1 (show ¬ (w.heap.size + 1 + 1 ≤ w.heap.size) by omega)))
  replace g1 := (cell_wi c1 g1 (fun q => absurd q.1 (show ¬ (w.heap.size + 1 + 1 ≤ w.heap.size) by omega)))
  replace g2 := (cell_wi c1 g2 (fun q => absurd q.1 (show ¬ (w.heap.size + 1 + 1 ≤ w.heap.size) by omega)))
  replace g3 := (cell_wi c1 g3 (fun q => absurd q.1 (show ¬ (w.heap.size + 1 + 1 ≤ w.heap.size) by omega)))
  replace g4 := (cell_wi c1 g4 (fun q => absurd q.1 (show ¬ (w.heap.size + 1 + 1 ≤ w.heap.size) by omega)))
  replace z0 : w.heap.size + 3 ≤ ((w3.setCell ⟨w.heap.size + 1 + 1, 0, none⟩ (.int .i64 s.ro)).setCell ⟨w.heap.size + 1 + 1, 1, none⟩ (.slice Xl s.lv.length yl)).heap.size := Nat.le_trans z0 (Nat.le_trans z1 c1.size)
  clear c1 z1
  generalize hw3 : ((w3.setCell ⟨w.heap.size + 1 + 1, 0, none⟩ (.int .i64 s.ro)).setCell ⟨w.heap.size + 1 + 1, 1, none⟩ (.slice Xl s.lv.length yl)) = w2 at *
  go_wp2_with fail
  refine (toIntS A1 s.ms.length c1 s.ms _ (r1.to b0) h1).mono ?_
  rintro e w3 ⟨v_, rfl, o_, b1⟩
  have rw_m := OI.rw o_
  replace rw_m := rw_m.mono z0 (Nat.le_refl _)
  obtain ⟨Xm, ym, rfl, _, _⟩ := rw_m.reads
  have ap_lm := row_apart rw_l.o.out o_.out (Nat.le_refl _)
  replace rw_l := (rw_l.to b1).mono (Nat.le_refl _) b1.size
  replace g0 := pw_cell_below b1.out g0
  replace g1 := pw_cell_below b1.out g1
  replace g2 := pw_cell_below b1.out g2
  replace g3 := pw_cell_below b1.out g3
  replace g4 := pw_cell_below b1.out g4
  replace H2 := (b1.out.block _ (blk_lt H2)).trans H2
  replace H3 := (b1.out.block _ (blk_lt H3)).trans H3
  have z1 := b1.size
  replace b0 := b0.trans b1
  clear b1
  have s0 : w3.cell? ⟨w.heap.size + 1 + 1, 2, none⟩ = some (.slice none 0 0) := blk_cell H3 2
  have v0 := blk_frozen H3 2
  have c1 : Wi w3 (w3.setCell ⟨w.heap.size + 1 + 1, 2, none⟩ (.slice Xm s.ms.length ym)) (w.heap.size + 1 + 1) (w.heap.size + 1 + 1 + 1) := (Wi.refl w3 (w.heap.size + 1 + 1) (w.heap.size + 1 + 1 + 1)).trans (Wi.set w3 _ 2 (.slice Xm s.ms.length ym))
  replace H3 : (w3.setCell ⟨w.heap.size + 1 + 1, 2, none⟩ (.slice Xm s.ms.length ym)).heap[w.heap.size + 1 + 1]? = some (.cells #[.int .i64 s.ro, .slice Xl s.lv.length yl, .slice Xm s.ms.length ym, .slice none 0 0, .slice none 0 0] 29 (0, 0)) := blk_set (H3) 2 (.slice Xm s.ms.length ym)
  replace H2 := (c1.block _ (blk_lt H2) (by omega)).trans H2
  replace rw_l := (rw_l.wi c1 (.inr (by omega))).mono (Nat.le_refl _) c1.size
  replace rw_m := (rw_m.wi c1 (.inr (by omega))).mono (Nat.le_refl _) c1.size
  replace b0 := bw_set (b0) (show w.heap.size ≤ w.heap.size + 1 + 1 by omega) 2 (.slice Xm s.ms.length ym)
  replace g0 := (cell_wi c1 g0 (fun q => absurd q.1 (show ¬ (w.heap.size + 1 + 1 ≤ w.heap.size) by omega)))
  replace g1 := (cell_wi c1 g1 (fun q => absurd q.1 (show ¬ (w.heap.size + 1 + 1 ≤ w.heap.size) by omega)))
  replace g2 := (cell_wi c1 g2 (fun q => absurd q.1 (show ¬ (w.heap.size + 1 + 1 ≤ w.heap.size) by omega)))
  replace g3 := (cell_wi c1 g3 (fun q => absurd q.1 (show ¬ (w.heap.size + 1 + 1 ≤ w.heap.size) by omega)))
  replace g4 := (cell_wi c1 g4 (fun q => absurd q.1 (show ¬ (w.heap.size + 1 + 1 ≤ w.heap.size) by omega)))
  replace z0 : w.heap.size + 3 ≤ (w3.setCell ⟨w.heap.size + 1 + 1, 2, none⟩ (.slice Xm s.ms.length ym)).heap.size := Nat.le_trans z0 (Nat.le_trans z1 c1.size)
  clear c1 z1
  generalize hw3 : (w3.setCell ⟨w.heap.size + 1 + 1, 2, none⟩ (.slice Xm s.ms.length ym)) = w2 at *
  go_wp2_with fail
  refine (toIntS A2 s.ts.length c2 s.ts _ (r2.to b0) h2).mono ?_
  rintro e w3 ⟨v_, rfl, o_, b1⟩
  have rw_t := OI.rw o_
  replace rw_t := rw_t.mono z0 (Nat.le_refl _)
  obtain ⟨Xt, yt, rfl, _, _⟩ := rw_t.reads
  have ap_lt := row_apart rw_l.o.out o_.out (Nat.le_refl _)
  replace rw_l := (rw_l.to b1).mono (Nat.le_refl _) b1.size
  have ap_mt := row_apart rw_m.o.out o_.out (Nat.le_refl _)
  replace rw_m := (rw_m.to b1).mono (Nat.le_refl _) b1.size
  replace g0 := pw_cell_below b1.out g0
  replace g1 := pw_cell_below b1.out g1
  replace g2 := pw_cell_below b1.out g2
  replace g3 := pw_cell_below b1.out g3
  replace g4 := pw_cell_below b1.out g4
  replace H2 := (b1.out.block _ (blk_lt H2)).trans H2
  replace H3 := (b1.out.block _ (blk_lt H3)).trans H3
  have z1 := b1.size
  replace b0 := b0.trans b1
  clear b1
  have s0 : w3.cell? ⟨w.heap.size + 1 + 1, 3, none⟩ = some (.slice none 0 0) := blk_cell H3 3
  have v0 := blk_frozen H3 3
  have c1 : Wi w3 (w3.setCell ⟨w.heap.size + 1 + 1, 3, none⟩ (.slice Xt s.ts.length yt)) (w.heap.size + 1 + 1) (w.heap.size + 1 + 1 + 1) := (Wi.refl w3 (w.heap.size + 1 + 1) (w.heap.size + 1 + 1 + 1)).trans (Wi.set w3 _ 3 (.slice Xt s.ts.length yt))
  replace H3 : (w3.setCell ⟨w.heap.size + 1 + 1, 3, none⟩ (.slice Xt s.ts.length yt)).heap[w.heap.size + 1 + 1]? = some (.cells #[.int .i64 s.ro, .slice Xl s.lv.length yl, .slice Xm s.ms.length ym, .slice Xt s.ts.length yt, .slice none 0 0] 29 (0, 0)) := blk_set (H3) 3 (.slice Xt s.ts.length yt)
  replace H2 := (c1.block _ (blk_lt H2) (by omega)).trans H2
  replace rw_l := (rw_l.wi c1 (.inr (by omega))).mono (Nat.le_refl _) c1.size
  replace rw_m := (rw_m.wi c1 (.inr (by omega))).mono (Nat.le_refl _) c1.size
  replace rw_t := (rw_t.wi c1 (.inr (by omega))).mono (Nat.le_refl _) c1.size
  replace b0 := bw_set (b0) (show w.heap.size ≤ w.heap.size + 1 + 1 by omega) 3 (.slice Xt s.ts.length yt)
  replace g0 := (cell_wi c1 g0 (fun q => absurd q.1 (show ¬ (w.heap.size + 1 + 1 ≤ w.heap.size) by omega)))
  replace g1 := (cell_wi c1 g1 (fun q => absurd q.1 (show ¬ (w.heap.size + 1 + 1 ≤ w.heap.size) by omega)))
  replace g2 := (cell_wi c1 g2 (fun q => absurd q.1 (show ¬ (w.heap.size + 1 + 1 ≤ w.heap.size) by omega)))
  replace g3 := (cell_wi c1 g3 (fun q => absurd q.1 (show ¬ (w.heap.size + 1 + 1 ≤ w.heap.size) by omega)))
  replace g4 := (cell_wi c1 g4 (fun q => absurd q.1 (show ¬ (w.heap.size + 1 + 1 ≤ w.heap.size) by omega)))
  replace z0 : w.heap.size + 3 ≤ (w3.setCell ⟨w.heap.size + 1 + 1, 3, none⟩ (.slice Xt s.ts.length yt)).heap.size := Nat.le_trans z0 (Nat.le_trans z1 c1.size)
  clear c1 z1
  generalize hw3 : (w3.setCell ⟨w.heap.size + 1 + 1, 3, none⟩ (.slice Xt s.ts.length yt)) = w2 at *
  go_wp2_with fail
  refine (toIntS A3 s.bd.length c3 s.bd _ (r3.to b0) h3).mono ?_
  rintro e w3 ⟨v_, rfl, o_, b1⟩
  have rw_b := OI.rw o_
  replace rw_b := rw_b.mono z0 (Nat.le_refl _)
  obtain ⟨Xb, yb, rfl, _, _⟩ := rw_b.reads
  have ap_lb := row_apart rw_l.o.out o_.out (Nat.le_refl _)
  replace rw_l := (rw_l.to b1).mono (Nat.le_refl _) b1.size
  have ap_mb := row_apart rw_m.o.out o_.out (Nat.le_refl _)
  replace rw_m := (rw_m.to b1).mono (Nat.le_refl _) b1.size
  have ap_tb := row_apart rw_t.o.out o_.out (Nat.le_refl _)
  replace rw_t := (rw_t.to b1).mono (Nat.le_refl _) b1.size
  replace g0 := pw_cell_below b1.out g0
  replace g1 := pw_cell_below b1.out g1
  replace g2 := pw_cell_below b1.out g2
  replace g3 := pw_cell_below b1.out g3
  replace g4 := pw_cell_below b1.out g4
  replace H2 := (b1.out.block _ (blk_lt H2)).trans H2
  replace H3 := (b1.out.block _ (blk_lt H3)).trans H3
  have z1 := b1.size
  replace b0 := b0.trans b1
  clear b1
  have s0 : w3.cell? ⟨w.heap.size + 1 + 1, 4, none⟩ = some (.slice none 0 0) := blk_cell H3 4
  have v0 := blk_frozen H3 4
  have c1 : Wi w3 (w3.setCell ⟨w.heap.size + 1 + 1, 4, none⟩ (.slice Xb s.bd.length yb)) (w.heap.size + 1 + 1) (w.heap.size + 1 + 1 + 1) := (Wi.refl w3 (w.heap.size + 1 + 1) (w.heap.size + 1 + 1 + 1)).trans (Wi.set w3 _ 4 (.slice Xb s.bd.length yb))
  replace H3 : (w3.setCell ⟨w.heap.size + 1 + 1, 4, none⟩ (.slice Xb s.bd.length yb)).heap[w.heap.size + 1 + 1]? = some (.cells #[.int .i64 s.ro, .slice Xl s.lv.length yl, .slice Xm s.ms.length ym, .slice Xt s.ts.length yt, .slice Xb s.bd.length yb] 29 (0, 0)) := blk_set (H3) 4 (.slice Xb s.bd.length yb)
  replace H2 := (c1.block _ (blk_lt H2) (by omega)).trans H2
  replace rw_l := (rw_l.wi c1 (.inr (by omega))).mono (Nat.le_refl _) c1.size
  replace rw_m := (rw_m.wi c1 (.inr (by omega))).mono (Nat.le_refl _) c1.size
  replace rw_t := (rw_t.wi c1 (.inr (by omega))).mono (Nat.le_refl _) c1.size
  replace rw_b := (rw_b.wi c1 (.inr (by omega))).mono (Nat.le_refl _) c1.size
  replace b0 := bw_set (b0) (show w.heap.size ≤ w.heap.size + 1 + 1 by omega) 4 (.slice Xb s.bd.length yb)
  replace g0 := (cell_wi c1 g0 (fun q => absurd q.1 (show ¬ (w.heap.size + 1 + 1 ≤ w.heap.size) by omega)))
  replace g1 := (cell_wi c1 g1 (fun q => absurd q.1 (show ¬ (w.heap.size + 1 + 1 ≤ w.heap.size) by omega)))
  replace g2 := (cell_wi c1 g2 (fun q => absurd q.1 (show ¬ (w.heap.size + 1 + 1 ≤ w.heap.size) by omega)))
  replace g3 := (cell_wi c1 g3 (fun q => absurd q.1 (show ¬ (w.heap.size + 1 + 1 ≤ w.heap.size) by omega)))
  replace g4 := (cell_wi c1 g4 (fun q => absurd q.1 (show ¬ (w.heap.size + 1 + 1 ≤ w.heap.size) by omega)))
  replace z0 : w.heap.size + 3 ≤ (w3.setCell ⟨w.heap.size + 1 + 1, 4, none⟩ (.slice Xb s.bd.length yb)).heap.size := Nat.le_trans z0 (Nat.le_trans z1 c1.size)
  clear c1 z1
  generalize hw3 : (w3.setCell ⟨w.heap.size + 1 + 1, 4, none⟩ (.slice Xb s.bd.length yb)) = w2 at *
  have p0 := (blk_cell H2 0).trans (show _ = some (Value.int .i64 0) from rfl)
  have l0 := (blk_cell H3 0).trans (show _ = some (Value.int .i64 s.ro) from rfl)
  have f0 := blk_frozen H2 0
  have p1 := (blk_cell H2 1).trans (show _ = some (Value.slice none 0 0) from rfl)
  have l1 := (blk_cell H3 1).trans (show _ = some (Value.slice Xl s.lv.length yl) from rfl)
  have f1 := blk_frozen H2 1
  have p2 := (blk_cell H2 2).trans (show _ = some (Value.slice none 0 0) from rfl)
  have l2 := (blk_cell H3 2).trans (show _ = some (Value.slice Xm s.ms.length ym) from rfl)
  have f2 := blk_frozen H2 2
  have p3 := (blk_cell H2 3).trans (show _ = some (Value.slice none 0 0) from rfl)
  have l3 := (blk_cell H3 3).trans (show _ = some (Value.slice Xt s.ts.length yt) from rfl)
  have f3 := blk_frozen H2 3
  have p4 := (blk_cell H2 4).trans (show _ = some (Value.slice none 0 0) from rfl)
  have l4 := (blk_cell H3 4).trans (show _ = some (Value.slice Xb s.bd.length yb) from rfl)
  have f4 := blk_frozen H2 4
  have HF := hid (show (((((w2.setCell ⟨w.heap.size + 1, 0, none⟩ (.int .i64 s.ro)).setCell ⟨w.heap.size + 1, 1, none⟩ (.slice Xl s.lv.length yl)).setCell ⟨w.heap.size + 1, 2, none⟩ (.slice Xm s.ms.length ym)).setCell ⟨w.heap.size + 1, 3, none⟩ (.slice Xt s.ts.length yt)).setCell ⟨w.heap.size + 1, 4, none⟩ (.slice Xb s.bd.length yb)).heap[w.heap.size + 1]? = some (.cells #[.int .i64 s.ro, .slice Xl s.lv.length yl, .slice Xm s.ms.length ym, .slice Xt s.ts.length yt, .slice Xb s.bd.length yb] 29 (0, 0)) from blk_set (blk_set (blk_set (blk_set (blk_set (H2) 0 (.int .i64 s.ro)) 1 (.slice Xl s.lv.length yl)) 2 (.slice Xm s.ms.length ym)) 3 (.slice Xt s.ts.length yt)) 4 (.slice Xb s.bd.length yb))
  have CF : Wi w2 (((((w2.setCell ⟨w.heap.size + 1, 0, none⟩ (.int .i64 s.ro)).setCell ⟨w.heap.size + 1, 1, none⟩ (.slice Xl s.lv.length yl)).setCell ⟨w.heap.size + 1, 2, none⟩ (.slice Xm s.ms.length ym)).setCell ⟨w.heap.size + 1, 3, none⟩ (.slice Xt s.ts.length yt)).setCell ⟨w.heap.size + 1, 4, none⟩ (.slice Xb s.bd.length yb)) (w.heap.size + 1) (w.heap.size + 1 + 1) := (((((Wi.refl w2 (w.heap.size + 1) (w.heap.size + 1 + 1)).trans (Wi.set _ _ 0 (.int .i64 s.ro))).trans (Wi.set _ _ 1 (.slice Xl s.lv.length yl))).trans (Wi.set _ _ 2 (.slice Xm s.ms.length ym))).trans (Wi.set _ _ 3 (.slice Xt s.ts.length yt))).trans (Wi.set _ _ 4 (.slice Xb s.bd.length yb))
  have HBF := hid (show Bw w (((((w2.setCell ⟨w.heap.size + 1, 0, none⟩ (.int .i64 s.ro)).setCell ⟨w.heap.size + 1, 1, none⟩ (.slice Xl s.lv.length yl)).setCell ⟨w.heap.size + 1, 2, none⟩ (.slice Xm s.ms.length ym)).setCell ⟨w.heap.size + 1, 3, none⟩ (.slice Xt s.ts.length yt)).setCell ⟨w.heap.size + 1, 4, none⟩ (.slice Xb s.bd.length yb)) from bw_set (bw_set (bw_set (bw_set (bw_set (b0) (show w.heap.size ≤ w.heap.size + 1 by omega) 0 (.int .i64 s.ro)) (show w.heap.size ≤ w.heap.size + 1 by omega) 1 (.slice Xl s.lv.length yl)) (show w.heap.size ≤ w.heap.size + 1 by omega) 2 (.slice Xm s.ms.length ym)) (show w.heap.size ≤ w.heap.size + 1 by omega) 3 (.slice Xt s.ts.length yt)) (show w.heap.size ≤ w.heap.size + 1 by omega) 4 (.slice Xb s.bd.length yb))
  have HQ_l := hid ((rw_l.wi CF (.inr (by omega))).mono (Nat.le_refl _) CF.size)
  have HQ_m := hid ((rw_m.wi CF (.inr (by omega))).mono (Nat.le_refl _) CF.size)
  have HQ_t := hid ((rw_t.wi CF (.inr (by omega))).mono (Nat.le_refl _) CF.size)
  have HQ_b := hid ((rw_b.wi CF (.inr (by omega))).mono (Nat.le_refl _) CF.size)
  have HZF := hid (Nat.le_trans z0 CF.size)
  clear CF H2 H3 b0 z0 rw_l rw_m rw_t rw_b
  go_wp2
  refine bodyPost_ret (results_cell_row rfl _ _ (w.heap.size + 1) 29 #[.int .i64 s.ro, .slice Xl s.lv.length yl, .slice Xm s.ms.length ym, .slice Xt s.ts.length yt, .slice Xb s.bd.length yb] (0, 0) _ rfl HF.out Try.underlying29 rfl (by kernel_rfl)) rfl ?_
  exact ⟨_, rfl, ⟨_, _, _, _, rfl, HQ_l.out.mono (by omega) (Nat.le_refl _), HQ_m.out.mono (by omega) (Nat.le_refl _), HQ_t.out.mono (by omega) (Nat.le_refl _), HQ_b.out.mono (by omega) (Nat.le_refl _), ap_lm, ap_lt, ap_lb, ap_mt, ap_mb, ap_tb⟩, HBF.out⟩

theorem szMesh (ro : Int) (A : Option Addr) (n c : Nat) (left : Int) (w : World) (hm : n ≤ 9223372036854775807) (h : 0 ≤ left ∧ left ≤ 1048576) :
    Calls Try.prog 44 #[.agg #[.int .i64 ro, .slice A n c], .int .i64 left] w fun e w' => e = .returned (.int .i64 (if left - n < 0 then -1 else left - n)) ∧ Bw w w' := by
  have b0 := Bw.box1 w (.cells #[.int .i64 ro, .slice A n c] 41)
  by_cases hd : left - (n : Int) < 0
  · rw [if_pos hd]
    go_enter Try.func44, Try.ntmps44
    go_wp2_with fail
    refine (szIdS A n c left _ hm h).mono ?_
    rintro e_ w1 ⟨rfl, rfl⟩
    rw [if_pos hd]
    go_wp2
    go_ret
    exact ⟨rfl, b0⟩
  · rw [if_neg hd]
    have t1 : decide (left - (n : Int) < 0) = false := decide_eq_false hd
    go_enter Try.func44, Try.ntmps44
    go_wp2_with fail
    refine (szIdS A n c left _ hm h).mono ?_
    rintro e_ w1 ⟨rfl, rfl⟩
    rw [if_neg (show ¬ left - (n : Int) < 0 by omega)]
    go_wp2
    go_ret
    exact ⟨rfl, b0⟩
theorem szState (x : Value) (s : Sta) (w : World) (hx : StR w x s) :
    Calls Try.prog 17 #[x, .int .i64 1048576] w fun e w' => ∃ r : Int, e = .returned (.int .i64 r) ∧ r ≤ 1048576 ∧ (0 ≤ r → s.lv.length + s.ms.length + s.ts.length + s.bd.length ≤ 1048576) ∧ Bw w w' := by
  obtain ⟨A0, c0, A1, c1, A2, c2, A3, c3, rfl, r0, r1, r2, r3⟩ := hx
  have m0 := r0.max
  have m1 := r1.max
  have m2 := r2.max
  have m3 := r3.max
  have g0 := box_cell (Bw.refl (w.alloc (.cells #[.int .i64 s.ro, .slice A0 s.lv.length c0, .slice A1 s.ms.length c1, .slice A2 s.ts.length c2, .slice A3 s.bd.length c3] 43))) 0
  have g1 := box_cell (Bw.refl (w.alloc (.cells #[.int .i64 s.ro, .slice A0 s.lv.length c0, .slice A1 s.ms.length c1, .slice A2 s.ts.length c2, .slice A3 s.bd.length c3] 43))) 1
  have g2 := box_cell (Bw.refl (w.alloc (.cells #[.int .i64 s.ro, .slice A0 s.lv.length c0, .slice A1 s.ms.length c1, .slice A2 s.ts.length c2, .slice A3 s.bd.length c3] 43))) 2
  have g3 := box_cell (Bw.refl (w.alloc (.cells #[.int .i64 s.ro, .slice A0 s.lv.length c0, .slice A1 s.ms.length c1, .slice A2 s.ts.length c2, .slice A3 s.bd.length c3] 43))) 3
  have g4 := box_cell (Bw.refl (w.alloc (.cells #[.int .i64 s.ro, .slice A0 s.lv.length c0, .slice A1 s.ms.length c1, .slice A2 s.ts.length c2, .slice A3 s.bd.length c3] 43))) 4
  simp only [List.getElem?_toArray, List.getElem?_cons_zero, List.getElem?_cons_succ] at g0 g1 g2 g3 g4
  have b0 := Bw.box1 w (.cells #[.int .i64 s.ro, .slice A0 s.lv.length c0, .slice A1 s.ms.length c1, .slice A2 s.ts.length c2, .slice A3 s.bd.length c3] 43)
  go_enter Try.func17, Try.ntmps17
  go_wp2_with fail
  generalize (w.alloc (.cells #[.int .i64 s.ro, .slice A0 s.lv.length c0, .slice A1 s.ms.length c1, .slice A2 s.ts.length c2, .slice A3 s.bd.length c3] 43)) = w1 at *
  refine (szMesh s.ro A0 s.lv.length c0 1048576 _ m0 ⟨by omega, by omega⟩).mono ?_
  rintro e w1 ⟨rfl, b1⟩
  replace g0 := pw_cell_below b1.out g0
  replace g1 := pw_cell_below b1.out g1
  replace g2 := pw_cell_below b1.out g2
  replace g3 := pw_cell_below b1.out g3
  replace g4 := pw_cell_below b1.out g4
  replace b0 := b0.trans b1
  clear b1
  by_cases hd0 : 1048576 - (s.lv.length : Int) < 0
  · rw [if_pos hd0]
    go_wp2
    go_ret
    exact ⟨_, rfl, by omega, fun h => absurd h (by omega), b0⟩
  rw [if_neg hd0]
  obtain ⟨q1, hq1⟩ : ∃ q : Int, 1048576 - (s.lv.length : Int) = q := ⟨_, rfl⟩
  rw [hq1] at hd0
  rw [hq1]
  have t1 : decide (q1 < 0) = false := decide_eq_false hd0
  replace hq1 := hid hq1
  have hle1 : q1 ≤ 1048576 := by have := hq1.out; omega
  go_wp2_with fail
  refine (szIntS A1 s.ms.length c1 q1 _ m1 ⟨by omega, by omega⟩).mono ?_
  rintro e_ w1 ⟨rfl, rfl⟩
  by_cases hd1 : q1 - (s.ms.length : Int) < 0
  · rw [if_pos hd1]
    go_wp2
    go_ret
    exact ⟨_, rfl, by omega, fun h => absurd h (by omega), b0⟩
  rw [if_neg hd1]
  obtain ⟨q2, hq2⟩ : ∃ q : Int, q1 - (s.ms.length : Int) = q := ⟨_, rfl⟩
  rw [hq2] at hd1
  rw [hq2]
  have t2 : decide (q2 < 0) = false := decide_eq_false hd1
  replace hq2 := hid hq2
  have hle2 : q2 ≤ 1048576 := by have := hq2.out; omega
  go_wp2_with fail
  refine (szIntS A2 s.ts.length c2 q2 _ m2 ⟨by omega, by omega⟩).mono ?_
  rintro e_ w1 ⟨rfl, rfl⟩
  by_cases hd2 : q2 - (s.ts.length : Int) < 0
  · rw [if_pos hd2]
    go_wp2
    go_ret
    exact ⟨_, rfl, by omega, fun h => absurd h (by omega), b0⟩
  rw [if_neg hd2]
  obtain ⟨q3, hq3⟩ : ∃ q : Int, q2 - (s.ts.length : Int) = q := ⟨_, rfl⟩
  rw [hq3] at hd2
  rw [hq3]
  have t3 : decide (q3 < 0) = false := decide_eq_false hd2
  replace hq3 := hid hq3
  have hle3 : q3 ≤ 1048576 := by have := hq3.out; omega
  go_wp2_with fail
  refine (szIntS A3 s.bd.length c3 q3 _ m3 ⟨by omega, by omega⟩).mono ?_
  rintro e_ w1 ⟨rfl, rfl⟩
  by_cases hd3 : q3 - (s.bd.length : Int) < 0
  · rw [if_pos hd3]
    go_wp2
    go_ret
    exact ⟨_, rfl, by omega, fun h => absurd h (by omega), b0⟩
  rw [if_neg hd3]
  obtain ⟨q4, hq4⟩ : ∃ q : Int, q3 - (s.bd.length : Int) = q := ⟨_, rfl⟩
  rw [hq4] at hd3
  rw [hq4]
  have t4 : decide (q4 < 0) = false := decide_eq_false hd3
  replace hq4 := hid hq4
  have hle4 : q4 ≤ 1048576 := by have := hq4.out; omega
  go_wp2
  go_ret
  exact ⟨_, rfl, hle4, fun _ => by have := hq1.out; have := hq2.out; have := hq3.out; have := hq4.out; omega, b0⟩
end Go.Proofs.Ytpgdemclfheimaa.U
