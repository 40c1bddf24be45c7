
/- The reference's Deliver. -/
import Derived.Test.YtcdibjneoemidaaKj
set_option linter.unusedVariables false
set_option linter.unusedSimpArgs false
namespace Go.Proofs.Ytcdibjneoemidaa.U
open Go.RowKit Go.Lib Go.Proofs.YtcdibjneoemidaaW.PrintWords

open Go.Proofs.YtcdibjneoemidaaW.PrintLast Go.Proofs.YtcdibjneoemidaaW.PrintMore

theorem PkR.tl {w : World} {ad : Addr} {n : Nat} {p : Pk} {e : List Pk} (h : PkR w (some ad) n (p :: e)) : PkR w (some ⟨ad.block, ad.off + 2, none⟩) e.length e := ⟨⟨pkF_length e, by have := h.max; have := h.len; rw [List.length_cons] at this; omega, fun hn => by
  have hl := h.len
  rw [List.length_cons] at hl
  obtain ⟨_, e1, hc⟩ := h.out.at_ (by omega)
  obtain rfl := Option.some.inj e1
  refine ⟨_, rfl, fun j hj => ?_⟩
  have h1 := hc (2 + j) (by omega)
  rw [← add_pos ad 2 (by omega), Addr.add_add, h1, rd_nat, rd_nat, pkF_cons, show 2 + j = j + 2 by omega, List.getD_cons_succ, List.getD_cons_succ]⟩⟩
theorem delS_ins {s : Ib} {p : Pk} (h1 : ibOk s = true) (h2 : s.g.length < 1000) (h3 : (s.g.length : Int) < p.q) (h4 : hasP s.e p.q = false ∧ s.e.length < 16) : (⟨s.g, insS s.e p⟩ : Ib) = delS s p := by
  rw [delS, if_pos ⟨h1, h2⟩, if_neg (by omega), if_pos ⟨h3, h4.2, h4.1⟩]
theorem delS_no {s : Ib} {p : Pk} (h1 : ibOk s = true) (h2 : s.g.length < 1000) (h3 : (s.g.length : Int) < p.q) (h4 : hasP s.e p.q = true ∨ ¬ s.e.length < 16) : s = delS s p := by
  rw [delS, if_pos ⟨h1, h2⟩, if_neg (by omega), if_neg (fun h => by
    rcases h4 with h4 | h4
    · rw [h4] at h; exact absurd h.2.2 (by decide)
    · exact h4 h.2.1)]
theorem delS_old {s : Ib} {p : Pk} (h3 : p.q < (s.g.length : Int)) : s = delS s p := by
  rw [delS]
  split
  · rw [if_neg (by omega), if_neg (by omega)]
  · rfl
theorem IbO.less {w : World} {lo hi lo' : Nat} {x : Value} {s : Ib} (h : IbO w lo hi x s) (hl : lo' ≤ lo) : IbO w lo' hi x s := h.mono hl (Nat.le_refl _)

theorem ins_ib {w W1 w3 w4 w9 : World} {P RB : Nat} {vg ve ve' : Value} {s : Ib} {e' : List Pk} {cs : Array Value} (h : DlS W1 w4 P vg ve s) (b0 : Bw w W1) (b34 : Bw w3 w4) (o : PkO w4 w3.heap.size ve' e'.length e') (hg : ∀ q, vg.ownBlock = some q → q < w3.heap.size) (hR : w4.heap[RB]? = some (.cells cs 31 (0, 0))) (hw : Wi w4 w9 RB (RB + 1)) (h3 : w.heap.size ≤ w3.heap.size) : IbO w9 w.heap.size w9.heap.size (.agg #[vg, ve']) ⟨s.g, e'⟩ := by
  refine ⟨_, _, rfl, FO.rw (FO.putK (FO.less h.og b0.size) hR (by decide) hw), FO.rw (FO.putK (FO.less o h3) hR (by decide) hw), ?_⟩
  rcases own_base' h.og.out with e1 | ⟨q, e1, _⟩
  · exact .inl e1
  · refine .inr fun e2 => ?_
    have h4 := hg q e1
    have h5 := own_base o.out q (by rw [← e2, e1])
    omega

set_option maxHeartbeats 8000000 in
set_option maxRecDepth 100000 in
theorem spec_Deliver (x : Value) (s : Ib) (p : Pk) (w : World) (hx : IbR w x s) (h0 : s.g.length ≤ 1048576) (h1 : s.e.length ≤ 1048576) :
    Calls Try.prog 8 #[x, .agg #[.int .i64 p.q, .int .i64 p.v]] w fun e w' => ∃ vg ve, e = .returned (.agg #[vg, ve]) ∧ IbO w' w.heap.size w'.heap.size (.agg #[vg, ve]) (delS s p) ∧ Bw w w' := by
  obtain ⟨pq, pv⟩ := p
  have HX := hid hx
  obtain ⟨A, c, B, d, rfl, r, q, _, _⟩ := hx
  have b0 := ((Bw.box1 w (.cells #[.slice A s.g.length c, .slice B s.e.length d] 31)).alloc (.cells #[.int .i64 pq, .int .i64 pv] 34)).alloc (.cells #[.slice none 0 0, .slice none 0 0] 31)
  have g0 := box_cell (((Bw.refl (w.alloc (.cells #[.slice A s.g.length c, .slice B s.e.length d] 31))).alloc (.cells #[.int .i64 pq, .int .i64 pv] 34)).alloc (.cells #[.slice none 0 0, .slice none 0 0] 31)) 0
  have g1 := box_cell (((Bw.refl (w.alloc (.cells #[.slice A s.g.length c, .slice B s.e.length d] 31))).alloc (.cells #[.int .i64 pq, .int .i64 pv] 34)).alloc (.cells #[.slice none 0 0, .slice none 0 0] 31)) 1
  simp only [List.getElem?_toArray, List.getElem?_cons_zero, List.getElem?_cons_succ] at g0 g1
  have hX : (((w.alloc (.cells #[.slice A s.g.length c, .slice B s.e.length d] 31)).alloc (.cells #[.int .i64 pq, .int .i64 pv] 34)).alloc (.cells #[.slice none 0 0, .slice none 0 0] 31)).heap[w.heap.size]? = some (.cells #[.slice A s.g.length c, .slice B s.e.length d] 31 (0, 0)) := by
    have h := heap_alloc_new w (.cells #[.slice A s.g.length c, .slice B s.e.length d] 31 (0, 0))
    exact ((Bw.refl (w.alloc (.cells #[.slice A s.g.length c, .slice B s.e.length d] 31))).alloc (.cells #[.int .i64 pq, .int .i64 pv] 34) |>.alloc (.cells #[.slice none 0 0, .slice none 0 0] 31) |>.out.block _ (blk_lt h)).trans h
  have hP : (((w.alloc (.cells #[.slice A s.g.length c, .slice B s.e.length d] 31)).alloc (.cells #[.int .i64 pq, .int .i64 pv] 34)).alloc (.cells #[.slice none 0 0, .slice none 0 0] 31)).heap[w.heap.size + 1]? = some (.cells #[.int .i64 pq, .int .i64 pv] 34 (0, 0)) := by
    have h := heap_alloc_new (w.alloc (.cells #[.slice A s.g.length c, .slice B s.e.length d] 31)) (.cells #[.int .i64 pq, .int .i64 pv] 34 (0, 0))
    rw [show (w.alloc (.cells #[.slice A s.g.length c, .slice B s.e.length d] 31)).heap.size = w.heap.size + 1 by simp] at h
    exact ((Bw.box1 ((w.alloc (.cells #[.slice A s.g.length c, .slice B s.e.length d] 31)).alloc (.cells #[.int .i64 pq, .int .i64 pv] 34)) (.cells #[.slice none 0 0, .slice none 0 0] 31)).out.block _ (blk_lt h)).trans h
  have hR : (((w.alloc (.cells #[.slice A s.g.length c, .slice B s.e.length d] 31)).alloc (.cells #[.int .i64 pq, .int .i64 pv] 34)).alloc (.cells #[.slice none 0 0, .slice none 0 0] 31)).heap[w.heap.size + 1 + 1]? = some (.cells #[.slice none 0 0, .slice none 0 0] 31 (0, 0)) := by
    have h := heap_alloc_new ((w.alloc (.cells #[.slice A s.g.length c, .slice B s.e.length d] 31)).alloc (.cells #[.int .i64 pq, .int .i64 pv] 34)) (.cells #[.slice none 0 0, .slice none 0 0] 31 (0, 0))
    rwa [show ((w.alloc (.cells #[.slice A s.g.length c, .slice B s.e.length d] 31)).alloc (.cells #[.int .i64 pq, .int .i64 pv] 34)).heap.size = w.heap.size + 1 + 1 by simp] at h
  have hz3 : (((w.alloc (.cells #[.slice A s.g.length c, .slice B s.e.length d] 31)).alloc (.cells #[.int .i64 pq, .int .i64 pv] 34)).alloc (.cells #[.slice none 0 0, .slice none 0 0] 31)).heap.size = w.heap.size + 3 := by simp
  have HB01 := hid b0
  have HR1 := hid hR
  have HP1 := hid hP
  have HX1 := hid hX
  go_enter Try.func8, Try.ntmps8
  go_upto_region 1 with fail
  generalize (((w.alloc (.cells #[.slice A s.g.length c, .slice B s.e.length d] 31)).alloc (.cells #[.int .i64 pq, .int .i64 pv] 34)).alloc (.cells #[.slice none 0 0, .slice none 0 0] 31)) = W1 at *
  go_wp2_with fail
  clear g0 g1 b0 hX hP hR hz3
  refine (spec_l23Copy _ s _ (HX.out.to HB01.out) (by omega) (by omega)).mono ?_
  rintro e w2 ⟨vg, ve, rfl, o2, b2⟩
  obtain ⟨_, _, ee, og, oe, ap⟩ := o2
  cases ee
  obtain ⟨X0, y0, rfl, hy0, _⟩ := og.o.reads
  obtain ⟨X1, y1, rfl, hy1, _⟩ := oe.o.reads
  have bP := Bw.box1 w2 (.cells #[.slice X0 s.g.length y0, .slice X1 s.e.length y1] 31)
  have HD := hid (show DlS W1 (w2.alloc (.cells #[.slice X0 s.g.length y0, .slice X1 s.e.length y1] 31)) w2.heap.size (.slice X0 s.g.length y0) (.slice X1 s.e.length y1) s from ⟨heap_alloc_new w2 (.cells #[.slice X0 s.g.length y0, .slice X1 s.e.length y1] 31 (0, 0)), og.o.to bP, oe.o.to bP, ap, b2.trans bP, b2.size⟩)
  have hsz := b2.size
  have hRl := blk_lt HR1.out
  have HLT := hid (show w.heap.size + 1 + 1 < w2.heap.size by omega)
  clear og oe ap bP b2 hy0 hy1 hsz hRl
  go_upto_region 2 with fail
  generalize (w2.alloc (.cells #[.slice X0 s.g.length y0, .slice X1 s.e.length y1] 31)) = W2 at *
  generalize w2.heap.size = gB at *
  have hX_ := (HD.out.bw.out.block _ (blk_lt HX1.out)).trans HX1.out
  have hP_ := (HD.out.bw.out.block _ (blk_lt HP1.out)).trans HP1.out
  have g0 := (blk_cell hX_ 0).trans (show _ = some (Value.slice A s.g.length c) from rfl)
  have g1 := (blk_cell hX_ 1).trans (show _ = some (Value.slice B s.e.length d) from rfl)
  have p0 := (blk_cell hP_ 0).trans (show _ = some (Value.int .i64 pq) from rfl)
  have p1 := (blk_cell hP_ 1).trans (show _ = some (Value.int .i64 pv) from rfl)
  clear hX_ hP_
  go_wp2_with fail
  refine (spec_InboxOk _ s _ (HX.out.to (HB01.out.trans HD.out.bw))).mono ?_
  rintro e w3 ⟨rfl, b3⟩
  replace HD := hid (HD.out.to b3)
  clear g0 g1 p0 p1 b3
  have hX_ := (HD.out.bw.out.block _ (blk_lt HX1.out)).trans HX1.out
  have hP_ := (HD.out.bw.out.block _ (blk_lt HP1.out)).trans HP1.out
  have g0 := (blk_cell hX_ 0).trans (show _ = some (Value.slice A s.g.length c) from rfl)
  have g1 := (blk_cell hX_ 1).trans (show _ = some (Value.slice B s.e.length d) from rfl)
  have p0 := (blk_cell hP_ 0).trans (show _ = some (Value.int .i64 pq) from rfl)
  have p1 := (blk_cell hP_ 1).trans (show _ = some (Value.int .i64 pv) from rfl)
  clear hX_ hP_
  by_cases hok : ibOk s = true
  case neg =>
    have HZ := hid (show s = delS s ⟨pq, pv⟩ from (delS_same fun h => hok h.1).symm)
    have hof : ibOk s = false := by simpa using hok
    rw [hof]
    clear hok hof
    have HDE := hid (HD.out.less HB01.out)
    have HRB := hid ((HD.out.bw.out.block _ (blk_lt HR1.out)).trans HR1.out)
    have k0 := (blk_cell HDE.out.bx 0).trans (show _ = some (Value.slice X0 s.g.length y0) from rfl)
    have k1 := (blk_cell HDE.out.bx 1).trans (show _ = some (Value.slice X1 s.e.length y1) from rfl)
    have s0 := (blk_cell HRB.out 0).trans (show _ = some (Value.slice none 0 0) from rfl)
    have s1 := (blk_cell HRB.out 1).trans (show _ = some (Value.slice none 0 0) from rfl)
    have f0 := blk_frozen HRB.out 0
    have f1 := blk_frozen HRB.out 1
    have HF := hid (show ((w3.setCell ⟨(w.heap.size + 1 + 1), 0, none⟩ (.slice X0 s.g.length y0)).setCell ⟨(w.heap.size + 1 + 1), 1, none⟩ (.slice X1 s.e.length y1)).heap[(w.heap.size + 1 + 1)]? = some (.cells #[(.slice X0 s.g.length y0), (.slice X1 s.e.length y1)] 31 (0, 0)) from blk_set (blk_set HRB.out 0 _) 1 _)
    have HO := hid (DlS.out HDE.out HRB.out (by have := HLT.out; omega) (show Wi w3 ((w3.setCell ⟨(w.heap.size + 1 + 1), 0, none⟩ (.slice X0 s.g.length y0)).setCell ⟨(w.heap.size + 1 + 1), 1, none⟩ (.slice X1 s.e.length y1)) (w.heap.size + 1 + 1) ((w.heap.size + 1 + 1) + 1) from ((Wi.refl w3 _ _).trans (Wi.set1 _ _ 0 _)).trans (Wi.set1 _ _ 1 _)) (by omega))
    go_wp2
    refine bodyPost_ret (results_cell_row rfl _ _ (w.heap.size + 1 + 1) 31 #[(.slice X0 s.g.length y0), (.slice X1 s.e.length y1)] (0, 0) _ rfl HF.out Try.underlying31 rfl (by kernel_rfl)) rfl ?_
    exact ⟨_, _, rfl, by rw [← HZ.out]; exact HO.out.ib, HO.out.bw⟩
  have hol := ibOk_len hok
  rw [hok]
  by_cases hg : s.g.length < 1000
  case neg =>
    have HZ := hid (show s = delS s ⟨pq, pv⟩ from (delS_same fun h => hg h.2).symm)
    have t1 : ((s.g.length : Int) == 1000) = true := by simp; omega
    have HOK := hid hok
    clear hok hol hg
    have HDE := hid (HD.out.less HB01.out)
    have HRB := hid ((HD.out.bw.out.block _ (blk_lt HR1.out)).trans HR1.out)
    have k0 := (blk_cell HDE.out.bx 0).trans (show _ = some (Value.slice X0 s.g.length y0) from rfl)
    have k1 := (blk_cell HDE.out.bx 1).trans (show _ = some (Value.slice X1 s.e.length y1) from rfl)
    have s0 := (blk_cell HRB.out 0).trans (show _ = some (Value.slice none 0 0) from rfl)
    have s1 := (blk_cell HRB.out 1).trans (show _ = some (Value.slice none 0 0) from rfl)
    have f0 := blk_frozen HRB.out 0
    have f1 := blk_frozen HRB.out 1
    have HF := hid (show ((w3.setCell ⟨(w.heap.size + 1 + 1), 0, none⟩ (.slice X0 s.g.length y0)).setCell ⟨(w.heap.size + 1 + 1), 1, none⟩ (.slice X1 s.e.length y1)).heap[(w.heap.size + 1 + 1)]? = some (.cells #[(.slice X0 s.g.length y0), (.slice X1 s.e.length y1)] 31 (0, 0)) from blk_set (blk_set HRB.out 0 _) 1 _)
    have HO := hid (DlS.out HDE.out HRB.out (by have := HLT.out; omega) (show Wi w3 ((w3.setCell ⟨(w.heap.size + 1 + 1), 0, none⟩ (.slice X0 s.g.length y0)).setCell ⟨(w.heap.size + 1 + 1), 1, none⟩ (.slice X1 s.e.length y1)) (w.heap.size + 1 + 1) ((w.heap.size + 1 + 1) + 1) from ((Wi.refl w3 _ _).trans (Wi.set1 _ _ 0 _)).trans (Wi.set1 _ _ 1 _)) (by omega))
    go_wp2
    refine bodyPost_ret (results_cell_row rfl _ _ (w.heap.size + 1 + 1) 31 #[(.slice X0 s.g.length y0), (.slice X1 s.e.length y1)] (0, 0) _ rfl HF.out Try.underlying31 rfl (by kernel_rfl)) rfl ?_
    exact ⟨_, _, rfl, by rw [← HZ.out]; exact HO.out.ib, HO.out.bw⟩
  have t1 : ((s.g.length : Int) == 1000) = false := by simp; omega
  have HOK := hid hok
  have HGL := hid hg
  have HOL := hid hol
  clear hol hok
  by_cases hlo : pq < (s.g.length : Int)
  case pos =>
    have HZ := hid (show s = delS s ⟨pq, pv⟩ from delS_old hlo)
    have t2 : decide (pq < (s.g.length : Int)) = true := decide_eq_true hlo
    clear hg hlo
    have HDE := hid (HD.out.less HB01.out)
    have HRB := hid ((HD.out.bw.out.block _ (blk_lt HR1.out)).trans HR1.out)
    have k0 := (blk_cell HDE.out.bx 0).trans (show _ = some (Value.slice X0 s.g.length y0) from rfl)
    have k1 := (blk_cell HDE.out.bx 1).trans (show _ = some (Value.slice X1 s.e.length y1) from rfl)
    have s0 := (blk_cell HRB.out 0).trans (show _ = some (Value.slice none 0 0) from rfl)
    have s1 := (blk_cell HRB.out 1).trans (show _ = some (Value.slice none 0 0) from rfl)
    have f0 := blk_frozen HRB.out 0
    have f1 := blk_frozen HRB.out 1
    have HF := hid (show ((w3.setCell ⟨(w.heap.size + 1 + 1), 0, none⟩ (.slice X0 s.g.length y0)).setCell ⟨(w.heap.size + 1 + 1), 1, none⟩ (.slice X1 s.e.length y1)).heap[(w.heap.size + 1 + 1)]? = some (.cells #[(.slice X0 s.g.length y0), (.slice X1 s.e.length y1)] 31 (0, 0)) from blk_set (blk_set HRB.out 0 _) 1 _)
    have HO := hid (DlS.out HDE.out HRB.out (by have := HLT.out; omega) (show Wi w3 ((w3.setCell ⟨(w.heap.size + 1 + 1), 0, none⟩ (.slice X0 s.g.length y0)).setCell ⟨(w.heap.size + 1 + 1), 1, none⟩ (.slice X1 s.e.length y1)) (w.heap.size + 1 + 1) ((w.heap.size + 1 + 1) + 1) from ((Wi.refl w3 _ _).trans (Wi.set1 _ _ 0 _)).trans (Wi.set1 _ _ 1 _)) (by omega))
    go_wp2
    refine bodyPost_ret (results_cell_row rfl _ _ (w.heap.size + 1 + 1) 31 #[(.slice X0 s.g.length y0), (.slice X1 s.e.length y1)] (0, 0) _ rfl HF.out Try.underlying31 rfl (by kernel_rfl)) rfl ?_
    exact ⟨_, _, rfl, by rw [← HZ.out]; exact HO.out.ib, HO.out.bw⟩
  have t2 : decide (pq < (s.g.length : Int)) = false := decide_eq_false hlo
  by_cases hlt : (s.g.length : Int) < pq
  case pos =>
    have t3 : decide (pq > (s.g.length : Int)) = true := decide_eq_true hlt
    have t3' : decide ((s.g.length : Int) < pq) = true := decide_eq_true hlt
    have HLT2 := hid hlt
    have k0 := (blk_cell HD.out.bx 0).trans (show _ = some (Value.slice X0 s.g.length y0) from rfl)
    have k1 := (blk_cell HD.out.bx 1).trans (show _ = some (Value.slice X1 s.e.length y1) from rfl)
    clear hg hlo hlt
    go_wp2_with fail
    refine (spec_l23Insert X0 X1 y0 y1 W1.heap.size s.e.length s.g s.e ⟨pq, pv⟩ _ HD.out.oe (by have := HOL.out; omega)).mono ?_
    rintro e w4 ⟨h4, b4⟩
    have HB3 := hid b4
    have HD3 := HD
    replace HD := hid (HD.out.to b4)
    clear k0 k1 t1 t2 t3 t3' g0 g1 p0 p1
    rcases h4 with ⟨hno, rfl⟩ | ⟨hyes, Y, y, rfl, o4⟩
    · have HZ := hid (delS_no (p := ⟨pq, pv⟩) HOK.out HGL.out HLT2.out hno)
      clear hno
      have HRB := hid ((HD.out.bw.out.block _ (blk_lt HR1.out)).trans HR1.out)
      have s0 := (blk_cell HRB.out 0).trans (show _ = some (Value.slice none 0 0) from rfl)
      have s1 := (blk_cell HRB.out 1).trans (show _ = some (Value.slice none 0 0) from rfl)
      have f0 := blk_frozen HRB.out 0
      have f1 := blk_frozen HRB.out 1
      have HF := hid (show ((w4.setCell ⟨(w.heap.size + 1 + 1), 0, none⟩ (.slice X0 s.g.length y0)).setCell ⟨(w.heap.size + 1 + 1), 1, none⟩ (.slice X1 s.e.length y1)).heap[(w.heap.size + 1 + 1)]? = some (.cells #[(.slice X0 s.g.length y0), (.slice X1 s.e.length y1)] 31 (0, 0)) from blk_set (blk_set HRB.out 0 _) 1 _)
      have HW9 := hid (show Wi w4 ((w4.setCell ⟨(w.heap.size + 1 + 1), 0, none⟩ (.slice X0 s.g.length y0)).setCell ⟨(w.heap.size + 1 + 1), 1, none⟩ (.slice X1 s.e.length y1)) (w.heap.size + 1 + 1) ((w.heap.size + 1 + 1) + 1) from ((Wi.refl w4 _ _).trans (Wi.set1 _ _ 0 _)).trans (Wi.set1 _ _ 1 _))
      have HDL := hid (DlS.out (HD.out.less HB01.out) HRB.out (by have := HLT.out; omega) HW9.out (by omega))
      have HO9 := hid HDL.out.ib
      have HBF := hid HDL.out.bw
      go_wp2
      refine bodyPost_ret (results_cell_row rfl _ _ (w.heap.size + 1 + 1) 31 #[(.slice X0 s.g.length y0), (.slice X1 s.e.length y1)] (0, 0) _ rfl HF.out Try.underlying31 rfl (by kernel_rfl)) rfl ?_
      exact ⟨_, _, rfl, by rw [← HZ.out]; exact HO9.out, HBF.out⟩
    · have HZ := hid (delS_ins (p := ⟨pq, pv⟩) HOK.out HGL.out HLT2.out hyes)
      clear hyes
      have HRB := hid ((HD.out.bw.out.block _ (blk_lt HR1.out)).trans HR1.out)
      have s0 := (blk_cell HRB.out 0).trans (show _ = some (Value.slice none 0 0) from rfl)
      have s1 := (blk_cell HRB.out 1).trans (show _ = some (Value.slice none 0 0) from rfl)
      have f0 := blk_frozen HRB.out 0
      have f1 := blk_frozen HRB.out 1
      have HF := hid (show ((w4.setCell ⟨(w.heap.size + 1 + 1), 0, none⟩ (.slice X0 s.g.length y0)).setCell ⟨(w.heap.size + 1 + 1), 1, none⟩ (.slice Y (insS s.e ⟨pq, pv⟩).length y)).heap[(w.heap.size + 1 + 1)]? = some (.cells #[(.slice X0 s.g.length y0), (.slice Y (insS s.e ⟨pq, pv⟩).length y)] 31 (0, 0)) from blk_set (blk_set HRB.out 0 _) 1 _)
      have HW9 := hid (show Wi w4 ((w4.setCell ⟨(w.heap.size + 1 + 1), 0, none⟩ (.slice X0 s.g.length y0)).setCell ⟨(w.heap.size + 1 + 1), 1, none⟩ (.slice Y (insS s.e ⟨pq, pv⟩).length y)) (w.heap.size + 1 + 1) ((w.heap.size + 1 + 1) + 1) from ((Wi.refl w4 _ _).trans (Wi.set1 _ _ 0 _)).trans (Wi.set1 _ _ 1 _))
      have HBF := hid ((HB01.out.trans HD.out.bw).then_wi HW9.out (by omega))
      have HO9 := hid (show IbO ((w4.setCell ⟨(w.heap.size + 1 + 1), 0, none⟩ (.slice X0 s.g.length y0)).setCell ⟨(w.heap.size + 1 + 1), 1, none⟩ (.slice Y (insS s.e ⟨pq, pv⟩).length y)) w.heap.size ((w4.setCell ⟨(w.heap.size + 1 + 1), 0, none⟩ (.slice X0 s.g.length y0)).setCell ⟨(w.heap.size + 1 + 1), 1, none⟩ (.slice Y (insS s.e ⟨pq, pv⟩).length y)).heap.size (.agg #[(.slice X0 s.g.length y0), .slice Y (insS s.e ⟨pq, pv⟩).length y]) ⟨s.g, insS s.e ⟨pq, pv⟩⟩ from ins_ib HD.out HB01.out HB3.out o4 (fun q hq => own_lt HD3.out.og.out q hq) HRB.out HW9.out (HB01.out.trans HD3.out.bw).size)
      clear o4
      go_wp2
      refine bodyPost_ret (results_cell_row rfl _ _ (w.heap.size + 1 + 1) 31 #[(.slice X0 s.g.length y0), (.slice Y (insS s.e ⟨pq, pv⟩).length y)] (0, 0) _ rfl HF.out Try.underlying31 rfl (by kernel_rfl)) rfl ?_
      exact ⟨_, _, rfl, by rw [← HZ.out]; exact HO9.out, HBF.out⟩
  have t3 : decide (pq > (s.g.length : Int)) = false := decide_eq_false hlt
  have t3' : decide ((s.g.length : Int) < pq) = false := decide_eq_false hlt
  have HZ := hid (show drain (s.g ++ [pv]) s.e = delS s ⟨pq, pv⟩ by rw [delS, if_pos ⟨HOK.out, HGL.out⟩, if_pos (show pq = (s.g.length : Int) by omega)])
  clear hg hlo hlt
  have k0 := (blk_cell HD.out.bx 0).trans (show _ = some (Value.slice X0 s.g.length y0) from rfl)
  have kf := blk_frozen HD.out.bx 0
  have hdtk := hid (show TkS W1 w3 gB (.slice X0 s.g.length y0) X1 y1 s.g s.e from by
    obtain ⟨B9, d9, e9, hd9, re9⟩ := (show PkO _ _ _ _ _ from HD.out.oe).reads
    cases e9
    exact HD.out.tk hd9 ⟨re9⟩)
  have bL := Bw.box1 w3 (.cells #[.int .i64 pv] 3)
  have HL := hid (hdtk.out.to bL)
  have hlr := hid (show RI (w3.alloc (.cells #[.int .i64 pv] 3)) (some ⟨w3.heap.size, 0, none⟩) 1 [pv] from (show OI (w3.alloc (.cells #[.int .i64 pv] 3)) w3.heap.size (.slice (some ⟨w3.heap.size, 0, none⟩) 1 1) 1 [pv] from ⟨own_lit w3 w3.heap.size 3 .i64 [pv] (Nat.le_refl _) (by simp)⟩).ri)
  clear bL
  go_upto_region 6 with fail
  go_wp2_with (at_builtin; refine appendInts (w0 := W1) W1.heap.size rfl _ _ rfl (.slice X0 s.g.length y0) s.g [pv] (some ⟨w3.heap.size, 0, none⟩) 1 1 rfl rfl HL.out.og hlr.out HL.out.bw.out HL.out.bw.size (by simp; have := HOL.out; omega) ?_; intro v1 w5 ho hB hg had; obtain ⟨X, y, rfl, _, _⟩ := FO.reads (t := 3) (k := 1) ⟨ho.out⟩; have hT4 := hid (len_put (HL.out.put ho hB hg had)); have hs0 := (blk_cell (blk_grown HL.out.bx hg (own_ne HL.out.og.out HL.out.bx (by decide))) 0).trans (show _ = some (Value.slice X0 s.g.length y0) from rfl); have hf0 := blk_frozen (blk_grown HL.out.bx hg (own_ne HL.out.og.out HL.out.bx (by decide))) 0)
  generalize (w5.setCell ⟨gB, 0, none⟩ (.slice X (s.g.length + 1) y)) = W5 at *
  have HGL2 := hid (show (s.g ++ [pv]).length + s.e.length ≤ 1001001 by have := HOL.out; simp; omega)
  have HRR := hid (show ∃ R, Hid (drain (s.g ++ [pv]) s.e = R) ∧ Hid (R = delS s ⟨pq, pv⟩) from ⟨_, hid rfl, HZ⟩)
  obtain ⟨R, HR, HZR⟩ := HRR.out
  clear k0 kf HL hlr ho hB hg had hs0 hf0 hdtk HZ HRR HD
  generalize s.g ++ [pv] = g0 at *
  generalize s.e = e0 at *
  go_loopw [42] (fun v42 wr => ∃ (vg : Value) (B : Option Addr) (d : Nat) (g : List Int) (e : List Pk), Hid (TkS W1 wr gB vg B d g e) ∧ Hid (g.length + e.length ≤ 1001001) ∧ Hid (drain g e = R)) (fun _ wr => sliceLen1 (wr.cell? ⟨gB, 1, none⟩))
  case atStart => exact ⟨_, _, _, _, _, hT4, HGL2, HR⟩
  case round =>
    clear hT4 HGL2 HR
    obtain ⟨vg, B, d, g, e, hT, HGL, HR⟩ := hrel
    have k0 := (blk_cell hT.out.bx 0).trans (show _ = some vg from rfl)
    have k1 := (blk_cell hT.out.bx 1).trans (show _ = some (Value.slice B e.length d) from rfl)
    obtain ⟨Ag, cg, rfl, hgc, hrg⟩ := FO.reads (t := 3) (k := 1) ⟨hT.out.og.out⟩
    have HRG := hid (hrg.ri)
    have HGC := hid hgc
    clear hrg hgc
    cases e with
    | nil =>
      have hz := hid (show R = ⟨g, []⟩ from HR.out.symm)
      have hel := hid (show (⟨g, []⟩ : Ib).e = [] from rfl)
      have t1 : decide ((0 : Int) < 0) = false := by decide
      have t2 : decide (0 < 0) = false := by decide
      go_upto_region 7 with fail
      go_quiet (fail)
      replace hT := hid (hT.out.to (Bw.drawn ⟨⟨nq, rfl⟩⟩) : TkS W1 (wr.drewN nq) gB _ _ d g _)
      replace HRG := hid (HRG.out.to (Bw.drawn (b := wr.drewN nq) ⟨⟨nq, rfl⟩⟩))
      replace k0 : (wr.drewN nq).cell? ⟨gB, 0, none⟩ = _ := k0
      replace k1 : (wr.drewN nq).cell? ⟨gB, 1, none⟩ = _ := k1
      generalize wr.drewN nq = W9 at *
      go_wp2_with fail
      refine (spec_l23Copy _ ⟨g, []⟩ _ ⟨_, _, _, _, rfl, HRG.out, hT.out.re, HGC.out, hT.out.cap⟩ (by have := HGL.out; simp at this ⊢; omega) (by have := HGL.out; simp at this ⊢; try omega)).mono ?_
      rintro e9 w6 ⟨vg6, ve6, rfl, o6, b6⟩
      obtain ⟨_, _, ee, og6, oe6, ap6⟩ := o6
      cases ee
      obtain ⟨X6, y6, rfl, _, _⟩ := og6.o.reads
      obtain ⟨X7, y7, rfl, _, _⟩ := oe6.o.reads
      have hR9 := (hT.out.bw.out.block _ (blk_lt HR1.out)).trans HR1.out
      have HRL := hid (blk_lt hR9)
      have HRB := hid ((b6.out.block _ (blk_lt hR9)).trans hR9)
      have HI6 := hid (show IbO w6 W9.heap.size w6.heap.size (.agg #[(.slice X6 g.length y6), (.slice X7 0 y7)]) ⟨g, []⟩ from ⟨_, _, rfl, og6, oe6, ap6⟩)
      have HB6 := hid b6
      clear hR9 og6 oe6 ap6 b6 k0 k1
      have s0 := (blk_cell HRB.out 0).trans (show _ = some (Value.slice none 0 0) from rfl)
      have s1 := (blk_cell HRB.out 1).trans (show _ = some (Value.slice none 0 0) from rfl)
      have f0 := blk_frozen HRB.out 0
      have f1 := blk_frozen HRB.out 1
      have HF := hid (show ((w6.setCell ⟨(w.heap.size + 1 + 1), 0, none⟩ (.slice X6 g.length y6)).setCell ⟨(w.heap.size + 1 + 1), 1, none⟩ (.slice X7 0 y7)).heap[(w.heap.size + 1 + 1)]? = some (.cells #[(.slice X6 g.length y6), (.slice X7 0 y7)] 31 (0, 0)) from blk_set (blk_set HRB.out 0 _) 1 _)
      have HW9 := hid (show Wi w6 ((w6.setCell ⟨(w.heap.size + 1 + 1), 0, none⟩ (.slice X6 g.length y6)).setCell ⟨(w.heap.size + 1 + 1), 1, none⟩ (.slice X7 0 y7)) (w.heap.size + 1 + 1) ((w.heap.size + 1 + 1) + 1) from ((Wi.refl w6 _ _).trans (Wi.set1 _ _ 0 _)).trans (Wi.set1 _ _ 1 _))
      have HO9 := hid ((HI6.out.wi HW9.out (.inr (by have := HRL.out; omega))).mono (HB01.out.trans hT.out.bw).size HW9.out.size)
      have HBF := hid (((HB01.out.trans hT.out.bw).trans HB6.out).then_wi HW9.out (by omega))
      go_wp2
      refine bodyPost_ret (results_cell_row rfl _ _ (w.heap.size + 1 + 1) 31 #[(.slice X6 g.length y6), (.slice X7 0 y7)] (0, 0) _ rfl HF.out Try.underlying31 rfl (by kernel_rfl)) rfl ?_
      exact ⟨_, _, rfl, by rw [← HZR.out, hz.out]; exact HO9.out, HBF.out⟩
      | cons p e =>
      obtain ⟨pq2, pv⟩ := p
      obtain ⟨ad, rfl, x0, x1⟩ := hT.out.re.at 0 (by simp)
      have ha : ad.add (0 * 2) = ad := by rw [Nat.zero_mul]; rfl
      rw [ha] at x0 x1
      replace x0 : wr.cell? ad = some (.int .i64 pq2) := x0
      replace x1 : wr.cell? ⟨ad.block, ad.off + 1, none⟩ = some (.int .i64 pv) := x1
      have hlen : (Pk.mk pq2 pv :: e).length = e.length + 1 := rfl
      rw [hlen] at k1
      have hd : e.length + 1 ≤ d := hT.out.cap
      have t1 : decide (((e.length : Int) + 1) > 0) = true := decide_eq_true (by omega)
      have t1' : decide ((0 : Int) < (e.length : Int) + 1) = true := decide_eq_true (by omega)
      have t2 : decide (0 < e.length + 1) = true := decide_eq_true (by omega)
      have t0 : 0 < e.length + 1 := by omega
      have i1 : (0 : Int) < (e.length : Int) + 1 := by omega
      have hme : sliceLen1 (wr.cell? ⟨gB, 1, none⟩) = e.length + 1 := by rw [k1]; rfl
      have HM := hid hme
      clear ha hlen hme
      by_cases hq : pq2 = (g.length : Int) ∧ g.length < 1000
      case neg =>
        have hz := hid (show R = ⟨g, ⟨pq2, pv⟩ :: e⟩ from HR.out.symm.trans (by rw [drain, if_neg hq]))
        by_cases hq1 : pq2 = (g.length : Int)
        · have hq2 : ¬ g.length < 1000 := fun h => hq ⟨hq1, h⟩
          have t3 : (pq2 == (g.length : Int)) = true := by simp [hq1]
          have t4 : decide ((g.length : Int) < 1000) = false := decide_eq_false (by omega)
          have t5 : decide (g.length < 1000) = false := decide_eq_false (by omega)
          clear hq hq1 hq2
          go_upto_region 7 with fail
          go_quiet (fail)
          replace hT := hid (hT.out.to (Bw.drawn ⟨⟨nq, rfl⟩⟩) : TkS W1 (wr.drewN nq) gB _ _ d g _)
          replace HRG := hid (HRG.out.to (Bw.drawn (b := wr.drewN nq) ⟨⟨nq, rfl⟩⟩))
          replace k0 : (wr.drewN nq).cell? ⟨gB, 0, none⟩ = _ := k0
          replace k1 : (wr.drewN nq).cell? ⟨gB, 1, none⟩ = _ := k1
          generalize wr.drewN nq = W9 at *
          go_wp2_with fail
          refine (spec_l23Copy _ ⟨g, (⟨pq2, pv⟩ :: e)⟩ _ ⟨_, _, _, _, rfl, HRG.out, hT.out.re, HGC.out, hT.out.cap⟩ (by have := HGL.out; simp at this ⊢; omega) (by have := HGL.out; simp at this ⊢; try omega)).mono ?_
          rintro e9 w6 ⟨vg6, ve6, rfl, o6, b6⟩
          obtain ⟨_, _, ee, og6, oe6, ap6⟩ := o6
          cases ee
          obtain ⟨X6, y6, rfl, _, _⟩ := og6.o.reads
          obtain ⟨X7, y7, rfl, _, _⟩ := oe6.o.reads
          have hR9 := (hT.out.bw.out.block _ (blk_lt HR1.out)).trans HR1.out
          have HRL := hid (blk_lt hR9)
          have HRB := hid ((b6.out.block _ (blk_lt hR9)).trans hR9)
          have HI6 := hid (show IbO w6 W9.heap.size w6.heap.size (.agg #[(.slice X6 g.length y6), (.slice X7 (e.length + 1) y7)]) ⟨g, (⟨pq2, pv⟩ :: e)⟩ from ⟨_, _, rfl, og6, oe6, ap6⟩)
          have HB6 := hid b6
          clear hR9 og6 oe6 ap6 b6 k0 k1
          have s0 := (blk_cell HRB.out 0).trans (show _ = some (Value.slice none 0 0) from rfl)
          have s1 := (blk_cell HRB.out 1).trans (show _ = some (Value.slice none 0 0) from rfl)
          have f0 := blk_frozen HRB.out 0
          have f1 := blk_frozen HRB.out 1
          have HF := hid (show ((w6.setCell ⟨(w.heap.size + 1 + 1), 0, none⟩ (.slice X6 g.length y6)).setCell ⟨(w.heap.size + 1 + 1), 1, none⟩ (.slice X7 (e.length + 1) y7)).heap[(w.heap.size + 1 + 1)]? = some (.cells #[(.slice X6 g.length y6), (.slice X7 (e.length + 1) y7)] 31 (0, 0)) from blk_set (blk_set HRB.out 0 _) 1 _)
          have HW9 := hid (show Wi w6 ((w6.setCell ⟨(w.heap.size + 1 + 1), 0, none⟩ (.slice X6 g.length y6)).setCell ⟨(w.heap.size + 1 + 1), 1, none⟩ (.slice X7 (e.length + 1) y7)) (w.heap.size + 1 + 1) ((w.heap.size + 1 + 1) + 1) from ((Wi.refl w6 _ _).trans (Wi.set1 _ _ 0 _)).trans (Wi.set1 _ _ 1 _))
          have HO9 := hid ((HI6.out.wi HW9.out (.inr (by have := HRL.out; omega))).mono (HB01.out.trans hT.out.bw).size HW9.out.size)
          have HBF := hid (((HB01.out.trans hT.out.bw).trans HB6.out).then_wi HW9.out (by omega))
          go_wp2
          refine bodyPost_ret (results_cell_row rfl _ _ (w.heap.size + 1 + 1) 31 #[(.slice X6 g.length y6), (.slice X7 (e.length + 1) y7)] (0, 0) _ rfl HF.out Try.underlying31 rfl (by kernel_rfl)) rfl ?_
          exact ⟨_, _, rfl, by rw [← HZR.out, hz.out]; exact HO9.out, HBF.out⟩
        · have t3 : (pq2 == (g.length : Int)) = false := by simp [hq1]
          clear hq hq1
          go_upto_region 7 with fail
          go_quiet (fail)
          replace hT := hid (hT.out.to (Bw.drawn ⟨⟨nq, rfl⟩⟩) : TkS W1 (wr.drewN nq) gB _ _ d g _)
          replace HRG := hid (HRG.out.to (Bw.drawn (b := wr.drewN nq) ⟨⟨nq, rfl⟩⟩))
          replace k0 : (wr.drewN nq).cell? ⟨gB, 0, none⟩ = _ := k0
          replace k1 : (wr.drewN nq).cell? ⟨gB, 1, none⟩ = _ := k1
          generalize wr.drewN nq = W9 at *
          go_wp2_with fail
          refine (spec_l23Copy _ ⟨g, (⟨pq2, pv⟩ :: e)⟩ _ ⟨_, _, _, _, rfl, HRG.out, hT.out.re, HGC.out, hT.out.cap⟩ (by have := HGL.out; simp at this ⊢; omega) (by have := HGL.out; simp at this ⊢; try omega)).mono ?_
          rintro e9 w6 ⟨vg6, ve6, rfl, o6, b6⟩
          obtain ⟨_, _, ee, og6, oe6, ap6⟩ := o6
          cases ee
          obtain ⟨X6, y6, rfl, _, _⟩ := og6.o.reads
          obtain ⟨X7, y7, rfl, _, _⟩ := oe6.o.reads
          have hR9 := (hT.out.bw.out.block _ (blk_lt HR1.out)).trans HR1.out
          have HRL := hid (blk_lt hR9)
          have HRB := hid ((b6.out.block _ (blk_lt hR9)).trans hR9)
          have HI6 := hid (show IbO w6 W9.heap.size w6.heap.size (.agg #[(.slice X6 g.length y6), (.slice X7 (e.length + 1) y7)]) ⟨g, (⟨pq2, pv⟩ :: e)⟩ from ⟨_, _, rfl, og6, oe6, ap6⟩)
          have HB6 := hid b6
          clear hR9 og6 oe6 ap6 b6 k0 k1
          have s0 := (blk_cell HRB.out 0).trans (show _ = some (Value.slice none 0 0) from rfl)
          have s1 := (blk_cell HRB.out 1).trans (show _ = some (Value.slice none 0 0) from rfl)
          have f0 := blk_frozen HRB.out 0
          have f1 := blk_frozen HRB.out 1
          have HF := hid (show ((w6.setCell ⟨(w.heap.size + 1 + 1), 0, none⟩ (.slice X6 g.length y6)).setCell ⟨(w.heap.size + 1 + 1), 1, none⟩ (.slice X7 (e.length + 1) y7)).heap[(w.heap.size + 1 + 1)]? = some (.cells #[(.slice X6 g.length y6), (.slice X7 (e.length + 1) y7)] 31 (0, 0)) from blk_set (blk_set HRB.out 0 _) 1 _)
          have HW9 := hid (show Wi w6 ((w6.setCell ⟨(w.heap.size + 1 + 1), 0, none⟩ (.slice X6 g.length y6)).setCell ⟨(w.heap.size + 1 + 1), 1, none⟩ (.slice X7 (e.length + 1) y7)) (w.heap.size + 1 + 1) ((w.heap.size + 1 + 1) + 1) from ((Wi.refl w6 _ _).trans (Wi.set1 _ _ 0 _)).trans (Wi.set1 _ _ 1 _))
          have HO9 := hid ((HI6.out.wi HW9.out (.inr (by have := HRL.out; omega))).mono (HB01.out.trans hT.out.bw).size HW9.out.size)
          have HBF := hid (((HB01.out.trans hT.out.bw).trans HB6.out).then_wi HW9.out (by omega))
          go_wp2
          refine bodyPost_ret (results_cell_row rfl _ _ (w.heap.size + 1 + 1) 31 #[(.slice X6 g.length y6), (.slice X7 (e.length + 1) y7)] (0, 0) _ rfl HF.out Try.underlying31 rfl (by kernel_rfl)) rfl ?_
          exact ⟨_, _, rfl, by rw [← HZR.out, hz.out]; exact HO9.out, HBF.out⟩
      case pos =>
        have hz := hid (show drain (g ++ [pv]) e = R by rw [← HR.out, drain, if_pos hq])
        have t3 : (pq2 == (g.length : Int)) = true := by simp [hq.1]
        have t4 : decide ((g.length : Int) < 1000) = true := decide_eq_true (by omega)
        have t5 : decide (g.length < 1000) = true := decide_eq_true hq.2
        clear hq
        go_upto_region 7 with fail
        go_quiet (fail)
        go_upto_region 8 with fail
        replace hT := hid (hT.out.to (Bw.drawn ⟨⟨_, rfl⟩⟩) : TkS W1 (wr.drewN nq) gB _ _ d g _)
        replace k0 : (wr.drewN nq).cell? ⟨gB, 0, none⟩ = some (.slice Ag g.length cg) := k0
        replace k1 : (wr.drewN nq).cell? ⟨gB, 1, none⟩ = some (.slice (some ad) (e.length + 1) d) := k1
        replace x1 : (wr.drewN nq).cell? ⟨ad.block, ad.off + 1, none⟩ = some (.int .i64 pv) := x1
        clear x0 t1 t1' t2 t3 t4 t5
        generalize wr.drewN nq = W2 at *
        refine start_ (n := 11) (S := fun w' => w'.cell? ⟨gB, 0, none⟩ = some (.slice Ag (g.length) cg) ∧ w'.cell? ⟨gB, 1, none⟩ = some (.slice (some ad) (e.length + 1) d) ∧ w'.cell? ⟨ad.block, ad.off + 1, none⟩ = some (.int .i64 pv)) (ds := [10]) #[false, false, false, false, false, false, false, false, false, false, false] (by kernel_rfl) rfl rfl ⟨k0, k1, x1⟩ (fun hHeld => ?_)
        refine pure_ (i := 0) (N := (some 63)) (v := ?_) (a' := ?_) #[true, false, false, false, false, false, false, false, false, false, false] rfl rfl (by kernel_rfl) (fun _ _ _ h => h) (Or.inl ⟨by rfl, ?_⟩) ?_ ?_
        rotate_left
        · intro w'
          go_simp
          with_reducible rfl
        rotate_left
        · simp only [Act.put, List.setIfInBounds_toArray, List.set_cons_zero, List.set_cons_succ, i64_w, i32_w]
          rfl
        refine take_ (i := 1) (N := (some 64)) (v := ?_) (a' := ?_) #[true, true, false, false, false, false, false, false, false, false, false] rfl rfl (by kernel_rfl) (fun _ _ _ h => h) (Or.inl ⟨by rfl, ?_⟩) hHeld ?_ ?_
        rotate_left
        · rintro w' ⟨s0, s1, s2⟩
          go_simp
          with_reducible rfl
        rotate_left
        · simp only [Act.put, List.setIfInBounds_toArray, List.set_cons_zero, List.set_cons_succ, i64_w, i32_w]
          rfl
        refine pure_ (i := 2) (N := (some 65)) (v := ?_) (a' := ?_) #[true, true, true, false, false, false, false, false, false, false, false] rfl rfl (by kernel_rfl) (fun _ _ _ h => h) (Or.inl ⟨by rfl, ?_⟩) ?_ ?_
        rotate_left
        · intro w'
          go_simp
          with_reducible rfl
        rotate_left
        · simp only [Act.put, List.setIfInBounds_toArray, List.set_cons_zero, List.set_cons_succ, i64_w, i32_w]
          rfl
        refine take_ (i := 3) (N := (some 66)) (v := ?_) (a' := ?_) #[true, true, true, true, false, false, false, false, false, false, false] rfl rfl (by kernel_rfl) (fun _ _ _ h => h) (Or.inl ⟨by rfl, ?_⟩) hHeld ?_ ?_
        rotate_left
        · rintro w' ⟨s0, s1, s2⟩
          go_simp
          with_reducible rfl
        rotate_left
        · simp only [Act.put, List.setIfInBounds_toArray, List.set_cons_zero, List.set_cons_succ, i64_w, i32_w]
          rfl
        refine pure_ (i := 4) (N := (some 67)) (v := ?_) (a' := ?_) #[true, true, true, true, true, false, false, false, false, false, false] rfl rfl (by kernel_rfl) (fun _ _ _ h => h) (Or.inl ⟨by rfl, ?_⟩) ?_ ?_
        rotate_left
        · intro w'
          go_simp
          with_reducible rfl
        rotate_left
        · simp only [Act.put, List.setIfInBounds_toArray, List.set_cons_zero, List.set_cons_succ, i64_w, i32_w]
          rfl
        refine pure_ (i := 5) (N := (some 68)) (v := ?_) (a' := ?_) #[true, true, true, true, true, true, false, false, false, false, false] rfl rfl (by kernel_rfl) (fun _ _ _ h => h) (Or.inl ⟨by rfl, ?_⟩) ?_ ?_
        rotate_left
        · intro w'
          go_simp
          with_reducible rfl
        rotate_left
        · simp only [Act.put, List.setIfInBounds_toArray, List.set_cons_zero, List.set_cons_succ, i64_w, i32_w]
          rfl
        refine take_ (i := 6) (N := (some 69)) (v := ?_) (a' := ?_) #[true, true, true, true, true, true, true, false, false, false, false] rfl rfl (by kernel_rfl) (fun _ _ _ h => h) (Or.inl ⟨by rfl, ?_⟩) hHeld ?_ ?_
        rotate_left
        · rintro w' ⟨s0, s1, s2⟩
          go_simp
          with_reducible rfl
        rotate_left
        · simp only [Act.put, List.setIfInBounds_toArray, List.set_cons_zero, List.set_cons_succ, i64_w, i32_w]
          rfl
        have hT2 := hT.out.to (Bw.drawn ⟨⟨1, rfl⟩⟩)
        have bL := Bw.box1 W2.drew (.cells #[.int .i64 pv] 3)
        have hT3 := hid (hT2.to bL)
        have hLR := hid (show RI (W2.drew.alloc (.cells #[.int .i64 pv] 3)) (some ⟨W2.drew.heap.size, 0, none⟩) 1 [pv] from (show OI (W2.drew.alloc (.cells #[.int .i64 pv] 3)) W2.drew.heap.size (.slice (some ⟨W2.drew.heap.size, 0, none⟩) 1 1) 1 [pv] from ⟨own_lit W2.drew W2.drew.heap.size 3 .i64 [pv] (Nat.le_refl _) (by simp)⟩).ri)
        refine one_ (i := 7) (N := (some 70)) #[true, true, true, true, true, true, true, true, false, false, false] rfl rfl (by kernel_rfl) (by decide) (fun K hK => ?_)
        refine value_ (w1 := ?_) (v := ?_) (by rfl) rfl ?_ ?_
        rotate_left 2
        · go_simp
          constructor
          · rfl
          · rfl
        refine hK.out _ _ ⟨pw_cell_below bL.out hHeld.1, pw_cell_below bL.out hHeld.2.1, pw_cell_below bL.out hHeld.2.2⟩ (fun _ => ?_)
        clear hK K
        refine norm_ (a' := ?_) ?_ ?_
        rotate_left
        · show Act.put _ (some 70) _ = _
          simp only [Act.put, List.setIfInBounds_toArray, List.set_cons_zero, List.set_cons_succ, i64_w, i32_w]
          rfl
        have hx3 := hid (pw_cell_below bL.out hHeld.2.2)
        clear hHeld hT2 bL
        refine one_ (i := 8) (N := (some 71)) #[true, true, true, true, true, true, true, true, true, false, false] rfl rfl (by kernel_rfl) (by decide) (fun K hK => ?_)
        refine appendInts_step (w0 := W1) W1.heap.size (by rfl) (.tmp 64) (.tmp 70) rfl (.slice Ag g.length cg) g [pv] (some ⟨W2.drew.heap.size, 0, none⟩) 1 1 rfl rfl hT3.out.og hLR.out hT3.out.bw.out hT3.out.bw.size (by simp; have := HGL.out; omega) ?_
        intro v1 w5 ho hB hg had
        obtain ⟨X, y, rfl, _, _⟩ := FO.reads (t := 3) (k := 1) ⟨ho.out⟩
        have hT4 := hid (len_put (hT3.out.put ho hB hg had))
        have hb5 := blk_grown hT3.out.bx hg (own_ne hT3.out.og.out hT3.out.bx (by decide))
        have hs0 := hid (show w5.cell? ⟨gB, 0, none⟩ = some (.slice Ag g.length cg) from (blk_cell hb5 0).trans rfl)
        have hs5 := hid (show w5.cell? ⟨gB, 1, none⟩ = some (.slice (some ad) (e.length + 1) d) from (blk_cell hb5 1).trans rfl)
        have hx5 := hid ((show w5.cell? ⟨ad.block, ad.off + 1, none⟩ = _ from World.cell?_of_block (hg.block ad.block (hT3.out.lt ad rfl) (hT3.out.ap ad rfl))).trans hx3.out)
        have hf0 := hid (show w5.frozen? ⟨gB, 0, none⟩ = false from blk_frozen hb5 0)
        clear hT3 hLR hg hB ho had hT hb5 hx3
        refine hK.out _ _ ⟨hs0.out, hs5.out, hx5.out⟩ (fun _ => ?_)
        clear hs5 hx5
        clear hK K
        refine norm_ (a' := ?_) ?_ ?_
        rotate_left
        · show Act.put _ (some 71) _ = _
          simp only [Act.put, List.setIfInBounds_toArray, List.set_cons_zero, List.set_cons_succ, i64_w, i32_w]
          rfl
        refine pure_ (i := 9) (N := (some 72)) (v := ?_) (a' := ?_) #[true, true, true, true, true, true, true, true, true, true, false] rfl rfl (by kernel_rfl) (fun _ _ _ h => h) (Or.inl ⟨by rfl, ?_⟩) ?_ ?_
        rotate_left
        · intro w'
          go_simp
          with_reducible rfl
        rotate_left
        · simp only [Act.put, List.setIfInBounds_toArray, List.set_cons_zero, List.set_cons_succ, i64_w, i32_w]
          rfl
        refine last_ (i := 10) (N := none) #[true, true, true, true, true, true, true, true, true, true, true] rfl rfl (by kernel_rfl) (by decide) (fun K hK => ?_)
        have hs1 := hs0.out
        have hf1 := hf0.out
        refine skip_ (w1 := ?_) (by rfl) rfl ?_ ?_
        rotate_left
        · go_simp
          rfl
        refine hK.out _ _ ?_
        clear hK K hs1 hf1 hs0 hf0
        refine done_ (by kernel_rfl) ?_
        generalize (w5.setCell ⟨gB, 0, none⟩ (.slice X (g.length + 1) y)) = W6 at *
        have m1 := (blk_cell hT4.out.bx 1).trans (show _ = some (Value.slice (some ad) (e.length + 1) d) from rfl)
        have HGL2 := hid (show (g ++ [pv]).length + e.length ≤ 1001001 by have := HGL.out; simp at this ⊢; omega)
        clear k0 k1 x1
        have bL := Bw.box1 W6 (.cells #[] 34)
        have HBL := hid bL
        have HL0 := hid (PkO.lit0 W6)
        have HTL := hid ((hT4.out.re.tl).to bL)
        replace m1 := pw_cell_below bL.out m1
        clear bL
        by_cases hd1 : d = 1
        · subst hd1
          cases e with
          | nil =>
            have HE0 := hid (PkR.none' (W6.alloc (.cells #[] 34)) (some ad))
            go_upto_region 9 with fail
            go_wp2_with (at_builtin; refine appendPks (w0 := W6) W6.heap.size rfl _ _ rfl (.slice (some ⟨W6.heap.size, 0, none⟩) 0 0) [] [] (some ad) 0 (1 - 1) rfl rfl HL0.out HE0.out HBL.out.out HBL.out.size (by have := HGL2.out; first | (simp; done) | (simp; omega)) ?_; intro v7 w7 o7 B7 g7 a7; have o8 : PkO w7 W6.heap.size v7 0 [] := o7; obtain ⟨Y, y7, rfl, _, _⟩ := o8.reads; have HO8 := hid o8; have hB7 := hid (show Bw W6 w7 from ⟨B7⟩); have hX7 := (B7.block _ (blk_lt hT4.out.bx)).trans hT4.out.bx; have kk := (blk_cell hX7 1).trans (show _ = some (Value.slice (some ad) 1 1) from rfl); have kf := blk_frozen hX7 1; clear o7 o8 B7 g7 a7 hX7 m1)
            have HD9 := hid (hT4.out.dl (e' := []) hB7.out HO8.out)
            have hT5 := hid (show ∃ B9 d9, TkS W1 (w7.setCell ⟨gB, 1, none⟩ (.slice Y 0 y7)) gB _ B9 d9 (g ++ [pv]) [] from by
              obtain ⟨B9, d9, e9, hd9, re9⟩ := (show PkO _ _ _ _ _ from HD9.out.oe).reads
              cases e9
              exact ⟨_, _, HD9.out.tk hd9 ⟨re9⟩⟩)
            have HZ5 := hid (show sliceLen1 ((w7.setCell ⟨gB, 1, none⟩ (.slice Y 0 y7)).cell? ⟨gB, 1, none⟩) < 0 + 1 by rw [(blk_cell HD9.out.bx 1).trans rfl]; exact Nat.lt_succ_self _)
            clear kk kf HD9 HO8 hB7
            go_roundw
            case rel =>
              obtain ⟨B9, d9, h9⟩ := hT5.out
              exact ⟨_, _, _, _, _, hid h9, HGL2, hz⟩
            case measure => rw [HM.out]; exact HZ5.out          | cons p2 e2 => rw [List.length_cons] at hd; omega
        · go_upto_region 9 with fail
          go_wp2_with (at_builtin; refine appendPks (w0 := W6) W6.heap.size rfl _ _ rfl (.slice (some ⟨W6.heap.size, 0, none⟩) 0 0) [] e (some ⟨ad.block, ad.off + 2, none⟩) e.length (d - 1) rfl rfl HL0.out HTL.out HBL.out.out HBL.out.size (by have := HGL2.out; first | (simp; done) | (simp; omega)) ?_; intro v7 w7 o7 B7 g7 a7; have o8 : PkO w7 W6.heap.size v7 e.length e := o7; obtain ⟨Y, y7, rfl, _, _⟩ := o8.reads; have HO8 := hid o8; have hB7 := hid (show Bw W6 w7 from ⟨B7⟩); have hX7 := (B7.block _ (blk_lt hT4.out.bx)).trans hT4.out.bx; have kk := (blk_cell hX7 1).trans (show _ = some (Value.slice (some ad) (e.length + 1) d) from rfl); have kf := blk_frozen hX7 1; clear o7 o8 B7 g7 a7 hX7 m1)
          have HD9 := hid (hT4.out.dl (e' := e) hB7.out HO8.out)
          have hT5 := hid (show ∃ B9 d9, TkS W1 (w7.setCell ⟨gB, 1, none⟩ (.slice Y e.length y7)) gB _ B9 d9 (g ++ [pv]) e from by
            obtain ⟨B9, d9, e9, hd9, re9⟩ := (show PkO _ _ _ _ _ from HD9.out.oe).reads
            cases e9
            exact ⟨_, _, HD9.out.tk hd9 ⟨re9⟩⟩)
          have HZ5 := hid (show sliceLen1 ((w7.setCell ⟨gB, 1, none⟩ (.slice Y e.length y7)).cell? ⟨gB, 1, none⟩) < e.length + 1 by rw [(blk_cell HD9.out.bx 1).trans rfl]; exact Nat.lt_succ_self _)
          clear kk kf HD9 HO8 hB7
          go_roundw
          case rel =>
            obtain ⟨B9, d9, h9⟩ := hT5.out
            exact ⟨_, _, _, _, _, hid h9, HGL2, hz⟩
          case measure => rw [HM.out]; exact HZ5.out
end Go.Proofs.Ytcdibjneoemidaa.U
