
/- The law FnExactDeliver, walked. -/
import Derived.Test.YtcdibjneoemidaaKk
import Derived.Test.YtcdibjneoemidaaOp
set_option linter.unusedVariables false
set_option linter.unusedSimpArgs false
namespace Go.Proofs.Ytcdibjneoemidaa.U
open Go.RowKit Go.Lib Go.Proofs.YtcdibjneoemidaaW.PrintWords

open Go.Proofs.YtcdibjneoemidaaW.PrintLast Go.Proofs.YtcdibjneoemidaaW.PrintMore
def lawdel5T : Bool × List (List Nat × List Nat) := (true, [([], []), ([0], [0]), ([], []), ([2, 1], [2]), ([1, 3, 3], [1, 3]), ([], []), ([5, 4, 4, 0, 1, 2, 3, 4, 5], [4, 5])])
def lawdel5B : List Nat := [0, 1, 0, 7, 15, 0, 63]
theorem lawdel5tab : rtab .any (opsOf Try.f3 5) = lawdel5T := by kernel_rfl
theorem lawdel5bits : waitsOk lawdel5T.2 lawdel5B = true := by kernel_rfl
def lawdel7T : Bool × List (List Nat × List Nat) := (true, [([], []), ([], []), ([1], [1]), ([0, 2, 2], [0, 2]), ([], []), ([4, 3, 3, 0, 1, 2, 3, 4], [3, 4])])
def lawdel7B : List Nat := [0, 0, 2, 7, 0, 31]
theorem lawdel7tab : rtab .any (opsOf Try.f3 7) = lawdel7T := by kernel_rfl
theorem lawdel7bits : waitsOk lawdel7T.2 lawdel7B = true := by kernel_rfl
def lawdel24T : Bool × List (List Nat × List Nat) := (true, [([], []), ([0], [0]), ([], []), ([2, 1], [2]), ([1, 3, 3], [1, 3]), ([], []), ([5, 4, 4, 0, 1, 2, 3, 4, 5], [4, 5])])
def lawdel24B : List Nat := [0, 1, 0, 7, 15, 0, 63]
theorem lawdel24tab : rtab .any (opsOf Try.f3 24) = lawdel24T := by kernel_rfl
theorem lawdel24bits : waitsOk lawdel24T.2 lawdel24B = true := by kernel_rfl
theorem delS_ibz (s : Ib) (p : Pk) (h : ibz s ≤ 1048576) : ibz (delS s p) ≤ 1048576 := by
  rw [delS]
  split
  · rename_i hc
    have hl := ibOk_len hc.1
    split
    · have := drain_len s.e (s.g ++ [p.v])
      rw [ibz, this]
      simp
      omega
    · split
      · rw [ibz, insS_len]
        simp only
        omega
      · exact h
  · exact h
theorem Rw.rdI' {w : World} {lo hi n c : Nat} {A : Option Addr} {F : List Int} (h : Rw w lo hi 3 1 (.slice A n c) n F) : RI w A n F := by
  obtain ⟨B, d, e, _, f⟩ := h.reads
  cases e
  exact f.ri
theorem Rw.rdF {w : World} {lo hi t k n c : Nat} {A : Option Addr} {F : List Int} (h : Rw w lo hi t k (.slice A n c) n F) : FR w k A n F := by
  obtain ⟨B, d, e, _, f⟩ := h.reads
  cases e
  exact f
theorem impl_Deliver' (x : Value) (s : Ib) (pq pv : Int) (R : Ib) (w : World) (hx : IbR w x s) (hn : ibz s ≤ 1048576) (hR : delS s ⟨pq, pv⟩ = R) :
    Calls Try.prog 11 #[x, .agg #[.int .i64 pq, .int .i64 pv]] w fun e w' => ∃ X y U v, e = .returned (.agg #[.slice X R.g.length y, .slice U R.e.length v]) ∧ IbO w' w.heap.size w'.heap.size (.agg #[.slice X R.g.length y, .slice U R.e.length v]) R ∧ Bw w w' := by
  rw [ibz] at hn
  refine (impl_Deliver x s ⟨pq, pv⟩ w hx (by omega) (by omega)).mono ?_
  rw [hR]
  rintro e w' ⟨vg, ve, rfl, o, b⟩
  obtain ⟨_, _, ee, og, oe, ap⟩ := o
  cases ee
  obtain ⟨X, y, rfl, _, _⟩ := og.reads
  obtain ⟨U, v, rfl, _, _⟩ := oe.reads
  exact ⟨X, y, U, v, rfl, ⟨_, _, rfl, og, oe, ap⟩, b⟩
theorem spec_Deliver' (x : Value) (s : Ib) (pq pv : Int) (R : Ib) (w : World) (hx : IbR w x s) (hn : ibz s ≤ 1048576) (hR : delS s ⟨pq, pv⟩ = R) :
    Calls Try.prog 8 #[x, .agg #[.int .i64 pq, .int .i64 pv]] w fun e w' => ∃ X y U v, e = .returned (.agg #[.slice X R.g.length y, .slice U R.e.length v]) ∧ IbO w' w.heap.size w'.heap.size (.agg #[.slice X R.g.length y, .slice U R.e.length v]) R ∧ Bw w w' := by
  rw [ibz] at hn
  refine (spec_Deliver x s ⟨pq, pv⟩ w hx (by omega) (by omega)).mono ?_
  rw [hR]
  rintro e w' ⟨vg, ve, rfl, o, b⟩
  obtain ⟨_, _, ee, og, oe, ap⟩ := o
  cases ee
  obtain ⟨X, y, rfl, _, _⟩ := og.reads
  obtain ⟨U, v, rfl, _, _⟩ := oe.reads
  exact ⟨X, y, U, v, rfl, ⟨_, _, rfl, og, oe, ap⟩, b⟩
set_option maxHeartbeats 8000000 in
set_option maxRecDepth 100000 in
theorem laws_FnExactDeliver (s : Ib) (A : Option Addr) (c : Nat) (B : Option Addr) (d : Nat) (pq pv : Int) (w : World) (hx0 : IbR w (.agg #[.slice A s.g.length c, .slice B s.e.length d]) s) :
    Calls Try.prog 3 #[.agg #[.slice A s.g.length c, .slice B s.e.length d], .agg #[.int .i64 pq, .int .i64 pv]] w fun e w' => e = .returned (.bool true) ∧ Bw w w' := by
  have hB := (Bw.box1 w (.cells #[.slice A s.g.length c, .slice B s.e.length d] 25)).alloc (.cells #[.int .i64 pq, .int .i64 pv] 27)
  have k0 := box_cell ((Bw.refl (w.alloc (.cells #[.slice A s.g.length c, .slice B s.e.length d] 25))).alloc (.cells #[.int .i64 pq, .int .i64 pv] 27)) 0
  have k1 := box_cell ((Bw.refl (w.alloc (.cells #[.slice A s.g.length c, .slice B s.e.length d] 25))).alloc (.cells #[.int .i64 pq, .int .i64 pv] 27)) 1
  have p0 := box_cell (Bw.refl ((w.alloc (.cells #[.slice A s.g.length c, .slice B s.e.length d] 25)).alloc (.cells #[.int .i64 pq, .int .i64 pv] 27))) 0
  have p1 := box_cell (Bw.refl ((w.alloc (.cells #[.slice A s.g.length c, .slice B s.e.length d] 25)).alloc (.cells #[.int .i64 pq, .int .i64 pv] 27))) 1
  simp only [List.getElem?_toArray, List.getElem?_cons_zero, List.getElem?_cons_succ] at k0 k1 p0 p1
  rw [show (w.alloc (.cells #[.slice A s.g.length c, .slice B s.e.length d] 25)).heap.size = w.heap.size + 1 by simp] at p0 p1
  have hz0 : ((w.alloc (.cells #[.slice A s.g.length c, .slice B s.e.length d] 25)).alloc (.cells #[.int .i64 pq, .int .i64 pv] 27)).heap.size = w.heap.size + 2 := by simp
  have hx := IbR.to hx0 hB
  go_enter Try.func3, Try.ntmps3
  go_wp2_with fail
  generalize ((w.alloc (.cells #[.slice A s.g.length c, .slice B s.e.length d] 25)).alloc (.cells #[.int .i64 pq, .int .i64 pv] 27)) = w1 at *
  refine (szInbox _ s _ hx).mono ?_
  rintro e_ w2 ⟨lf, rfl, hsz, b1⟩
  replace k0 := pw_cell_below b1.out k0
  replace k1 := pw_cell_below b1.out k1
  replace p0 := pw_cell_below b1.out p0
  replace p1 := pw_cell_below b1.out p1
  replace hB := hB.trans b1
  have hb2 := b1.size
  clear b1
  by_cases hneg : lf < 0
  · have hd : decide (lf < 0) = true := decide_eq_true hneg
    clear hsz
    go_wp2
    go_ret
    exact ⟨rfl, hB⟩
  have hd : decide (lf < 0) = false := decide_eq_false hneg
  have hN := hsz (by omega)
  clear hsz hneg hx
  obtain ⟨R, hR⟩ : ∃ R, delS s ⟨pq, pv⟩ = R := ⟨_, rfl⟩
  have hRz : ibz R ≤ 1048576 := by rw [← hR]; exact delS_ibz s _ hN
  have hRz2 : R.g.length + R.e.length ≤ 1048576 := hRz
  have HR := hid hR
  clear hR
  go_upto_region 5 with fail
  have BW := Aside0.mk (Bw.refl w2)
  have HT_ := Aside0.mk lawdel5tab
  have HW_ := Aside0.mk lawdel5bits
  refine start_ (n := 7) (S := fun w' => True) (ds := []) #[false, false, false, false, false, false, false] (by kernel_rfl) rfl rfl trivial (fun hHeld => ?_)
  refine inv_at [0, 1, 2, 3, 4, 5, 6] (fun a0_ b a w' => ∃ (X5 : Option Addr) (y5 : Nat) (U5 : Option Addr) (v5 : Nat) (l5 : Nat) (h5 : Nat) (gB5 : Nat) (P5 : Option Addr) (p5 : Nat) (Q5 : Option Addr) (q5 : Nat) (m1_ : Value) (m4_ : Value) (m5_ : Value), a = putSel a0_ b [(0, 18, .agg #[.slice A s.g.length c, .slice B s.e.length d]), (1, 19, m1_), (2, 20, .agg #[.int .i64 pq, .int .i64 pv]), (3, 21, .agg #[.int .i64 pq, .int .i64 pv]), (4, 22, m4_), (5, 6, m5_)] ∧ (Bw w2 w') ∧ (b 4 = true → IbO w' l5 h5 (.agg #[.slice X5 R.g.length y5, .slice U5 R.e.length v5]) R) ∧ (b 4 = true → w2.heap.size ≤ l5 ∧ h5 ≤ w'.heap.size) ∧ (b 5 = true → w2.heap.size ≤ gB5 ∧ gB5 < w'.heap.size) ∧ (b 4 = true → b 5 = true → gB5 < l5 ∨ h5 ≤ gB5) ∧ (b 5 = true → b 6 = false → w'.heap[gB5]? = some (.cells #[.slice none 0 0, .slice none 0 0] 31 (0, 0))) ∧ (b 6 = true → w'.heap[gB5]? = some (.cells #[.slice X5 R.g.length y5, .slice U5 R.e.length v5] 31 (0, 0))) ∧ (b 1 = true → b 4 = false → IbR w' (.agg #[.slice P5 s.g.length p5, .slice Q5 s.e.length q5]) s) ∧ (b 1 = true → (m1_ : Value) = .agg #[.slice P5 s.g.length p5, .slice Q5 s.e.length q5]) ∧ (b 4 = true → (m4_ : Value) = .agg #[.slice X5 R.g.length y5, .slice U5 R.e.length v5]) ∧ (b 5 = true → (m5_ : Value) = .pointer (some ⟨gB5, 0, none⟩))) HT_.out HW_.out (by kernel_rfl) (by kernel_rfl) ?_ ?_ ?_
  · exact ⟨none, 0, none, 0, 0, 0, 0, none, 0, none, 0, .bool false, .bool false, .bool false, by simp only [putSel, Bool.false_eq_true, if_false], BW.out.trans (Bw.drawn ⟨⟨1, rfl⟩⟩), fun h_ => absurd h_ (by decide), fun h_ => absurd h_ (by decide), fun h_ => absurd h_ (by decide), fun h_ => absurd h_ (by decide), fun h_ => absurd h_ (by decide), fun h_ => absurd h_ (by decide), fun h_ => absurd h_ (by decide), fun h_ => absurd h_ (by decide), fun h_ => absurd h_ (by decide), fun h_ => absurd h_ (by decide)⟩
  · skip
    clear BW
    refine steps_cons ?_ ?_
    · rintro b a w' ⟨X5, y5, U5, v5, l5, h5, gB5, P5, p5, Q5, q5, m1_, m4_, m5_, ha, Q_BW, Q_IO, Q_IL, Q_GE, Q_NG, Q_BX, Q_BY, Q_IX, Q_X1_, Q_X4_, Q_X5_⟩ hb_ hon hoff
      refine ⟨_, rfl, fun K hK => ?_⟩
      have e2 : a.tmps[2]? = some (.pointer (some ⟨w.heap.size, 0, none⟩)) := by rw [ha]; exact (putSel_off rfl).trans rfl
      replace ha := Aside0.mk ha
      have BW := Aside0.mk Q_BW
      have hc0_ := pw_cell_below BW.out.out k0
      have hc1_ := pw_cell_below BW.out.out k1
      refine value_ (w1 := w') (v := .agg #[.slice A s.g.length c, .slice B s.e.length d]) (by rfl) rfl ?_ ?_
      · go_simp
        (try simp only [i64_w])
        try rfl
      refine hK.out _ _ ⟨X5, y5, U5, v5, l5, h5, gB5, P5, p5, Q5, q5, m1_, m4_, m5_, (by rw [ha.out]; exact putSel_upk 0 hb_ rfl rfl rfl), Q_BW, fun h0_ => absurd ((hoff 4 (by kernel_rfl)).symm.trans h0_) (by decide), fun h0_ => absurd ((hoff 4 (by kernel_rfl)).symm.trans h0_) (by decide), Q_GE, fun h0_ _ => absurd ((hoff 4 (by kernel_rfl)).symm.trans h0_) (by decide), Q_BX, fun h0_ => absurd ((hoff 6 (by kernel_rfl)).symm.trans h0_) (by decide), fun h0_ _ => absurd ((hoff 1 (by kernel_rfl)).symm.trans h0_) (by decide), fun h0_ => absurd ((hoff 1 (by kernel_rfl)).symm.trans h0_) (by decide), fun h0_ => absurd ((hoff 4 (by kernel_rfl)).symm.trans h0_) (by decide), Q_X5_⟩
    refine steps_cons ?_ ?_
    · rintro b a w' ⟨X5, y5, U5, v5, l5, h5, gB5, P5, p5, Q5, q5, m1_, m4_, m5_, ha, Q_BW, Q_IO, Q_IL, Q_GE, Q_NG, Q_BX, Q_BY, Q_IX, Q_X1_, Q_X4_, Q_X5_⟩ hb_ hon hoff
      refine ⟨_, rfl, fun K hK => ?_⟩
      have e18 : a.tmps[18]? = some (.agg #[.slice A s.g.length c, .slice B s.e.length d]) := by rw [ha]; exact putSel_on (e := (0, 18, .agg #[.slice A s.g.length c, .slice B s.e.length d])) 0 rfl rfl (hon 0 (by kernel_rfl)) rfl
      replace ha := Aside0.mk ha
      have BW := Aside0.mk Q_BW
      refine goes_ Try.func9 (by kernel_rfl) rfl #[.agg #[.slice A s.g.length c, .slice B s.e.length d]] (by rfl) rfl rfl (by first | (simp only [List.map_toArray, List.map_cons, List.map_nil, Act.eval, Array.getD_eq_getD_getElem?, Option.getD_some, e18]; done) | (simp only [List.map_toArray, List.map_cons, List.map_nil, Act.eval, Array.getD_eq_getD_getElem?, Option.getD_some, e18]; rfl)) ?_
      refine (toInbox _ s _ (IbR.to hx0 (hB.trans BW.out)) hN).mono ?_
      rintro e wL ⟨zL, PL, pL, QL, qL, _, rfl, oL, bL⟩
      refine ⟨_, rfl, ?_⟩
      refine hK.out _ _ ⟨X5, y5, U5, v5, l5, h5, gB5, PL, pL, QL, qL, (.agg #[.slice PL s.g.length pL, .slice QL s.e.length qL]), m4_, m5_, (by rw [ha.out]; exact putSel_upk 1 hb_ rfl rfl rfl), BW.out.trans bL, fun h0_ => absurd ((hoff 4 (by kernel_rfl)).symm.trans h0_) (by decide), fun h0_ => absurd ((hoff 4 (by kernel_rfl)).symm.trans h0_) (by decide), fun h0_ => ⟨(Q_GE h0_).1, Nat.lt_of_lt_of_le (Q_GE h0_).2 (Bw.size bL)⟩, fun h0_ _ => absurd ((hoff 4 (by kernel_rfl)).symm.trans h0_) (by decide), fun h0_ h1_ => (bL.out.block _ (blk_lt (Q_BX h0_ h1_))).trans (Q_BX h0_ h1_), fun h0_ => absurd ((hoff 6 (by kernel_rfl)).symm.trans h0_) (by decide), fun _ _ => oL.r, fun _ => rfl, fun h0_ => absurd ((hoff 4 (by kernel_rfl)).symm.trans h0_) (by decide), Q_X5_⟩
    refine steps_cons ?_ ?_
    · rintro b a w' ⟨X5, y5, U5, v5, l5, h5, gB5, P5, p5, Q5, q5, m1_, m4_, m5_, ha, Q_BW, Q_IO, Q_IL, Q_GE, Q_NG, Q_BX, Q_BY, Q_IX, Q_X1_, Q_X4_, Q_X5_⟩ hb_ hon hoff
      refine ⟨_, rfl, fun K hK => ?_⟩
      have e3 : a.tmps[3]? = some (.pointer (some ⟨(w.heap.size + 1), 0, none⟩)) := by rw [ha]; exact (putSel_off rfl).trans rfl
      replace ha := Aside0.mk ha
      have BW := Aside0.mk Q_BW
      have hc0_ := pw_cell_below BW.out.out p0
      have hc1_ := pw_cell_below BW.out.out p1
      refine value_ (w1 := w') (v := .agg #[.int .i64 pq, .int .i64 pv]) (by rfl) rfl ?_ ?_
      · go_simp
        (try simp only [i64_w])
        try rfl
      refine hK.out _ _ ⟨X5, y5, U5, v5, l5, h5, gB5, P5, p5, Q5, q5, m1_, m4_, m5_, (by rw [ha.out]; exact putSel_upk 2 hb_ rfl rfl rfl), Q_BW, fun h0_ => absurd ((hoff 4 (by kernel_rfl)).symm.trans h0_) (by decide), fun h0_ => absurd ((hoff 4 (by kernel_rfl)).symm.trans h0_) (by decide), Q_GE, fun h0_ _ => absurd ((hoff 4 (by kernel_rfl)).symm.trans h0_) (by decide), Q_BX, fun h0_ => absurd ((hoff 6 (by kernel_rfl)).symm.trans h0_) (by decide), Q_IX, Q_X1_, fun h0_ => absurd ((hoff 4 (by kernel_rfl)).symm.trans h0_) (by decide), Q_X5_⟩
    refine steps_cons ?_ ?_
    · rintro b a w' ⟨X5, y5, U5, v5, l5, h5, gB5, P5, p5, Q5, q5, m1_, m4_, m5_, ha, Q_BW, Q_IO, Q_IL, Q_GE, Q_NG, Q_BX, Q_BY, Q_IX, Q_X1_, Q_X4_, Q_X5_⟩ hb_ hon hoff
      refine ⟨_, rfl, fun K hK => ?_⟩
      have e20 : a.tmps[20]? = some (.agg #[.int .i64 pq, .int .i64 pv]) := by rw [ha]; exact putSel_on (e := (2, 20, .agg #[.int .i64 pq, .int .i64 pv])) 2 rfl rfl (hon 2 (by kernel_rfl)) rfl
      replace ha := Aside0.mk ha
      have BW := Aside0.mk Q_BW
      have IX := Aside0.mk (Q_IX (hon 1 (by kernel_rfl)) (hoff 4 (by kernel_rfl)))
      refine goes_ Try.func10 (by kernel_rfl) rfl #[.agg #[.int .i64 pq, .int .i64 pv]] (by rfl) rfl rfl (by first | (simp only [List.map_toArray, List.map_cons, List.map_nil, Act.eval, Array.getD_eq_getD_getElem?, Option.getD_some, e20]; done) | (simp only [List.map_toArray, List.map_cons, List.map_nil, Act.eval, Array.getD_eq_getD_getElem?, Option.getD_some, e20]; rfl)) ?_
      refine (toPacket pq pv _).mono ?_
      rintro e wL ⟨rfl, bL⟩
      refine ⟨_, rfl, ?_⟩
      refine hK.out _ _ ⟨X5, y5, U5, v5, l5, h5, gB5, P5, p5, Q5, q5, m1_, m4_, m5_, (by rw [ha.out]; exact putSel_upk 3 hb_ rfl rfl rfl), BW.out.trans bL, fun h0_ => absurd ((hoff 4 (by kernel_rfl)).symm.trans h0_) (by decide), fun h0_ => absurd ((hoff 4 (by kernel_rfl)).symm.trans h0_) (by decide), fun h0_ => ⟨(Q_GE h0_).1, Nat.lt_of_lt_of_le (Q_GE h0_).2 (Bw.size bL)⟩, fun h0_ _ => absurd ((hoff 4 (by kernel_rfl)).symm.trans h0_) (by decide), fun h0_ h1_ => (bL.out.block _ (blk_lt (Q_BX h0_ h1_))).trans (Q_BX h0_ h1_), fun h0_ => absurd ((hoff 6 (by kernel_rfl)).symm.trans h0_) (by decide), fun _ _ => IX.out.to bL, Q_X1_, fun h0_ => absurd ((hoff 4 (by kernel_rfl)).symm.trans h0_) (by decide), Q_X5_⟩
    refine steps_cons ?_ ?_
    · rintro b a w' ⟨X5, y5, U5, v5, l5, h5, gB5, P5, p5, Q5, q5, m1_, m4_, m5_, ha, Q_BW, Q_IO, Q_IL, Q_GE, Q_NG, Q_BX, Q_BY, Q_IX, Q_X1_, Q_X4_, Q_X5_⟩ hb_ hon hoff
      refine ⟨_, rfl, fun K hK => ?_⟩
      have e19 : a.tmps[19]? = some (m1_) := by rw [ha]; exact putSel_on (e := (1, 19, m1_)) 1 rfl rfl (hon 1 (by kernel_rfl)) rfl
      rw [Q_X1_ (hon 1 (by kernel_rfl))] at e19
      have e21 : a.tmps[21]? = some (.agg #[.int .i64 pq, .int .i64 pv]) := by rw [ha]; exact putSel_on (e := (3, 21, .agg #[.int .i64 pq, .int .i64 pv])) 3 rfl rfl (hon 3 (by kernel_rfl)) rfl
      replace ha := Aside0.mk ha
      have BW := Aside0.mk Q_BW
      have IX := Aside0.mk (Q_IX (hon 1 (by kernel_rfl)) hb_)
      refine goes_ Try.func8 (by kernel_rfl) rfl #[.agg #[.slice P5 s.g.length p5, .slice Q5 s.e.length q5], .agg #[.int .i64 pq, .int .i64 pv]] (by rfl) rfl rfl (by first | (simp only [List.map_toArray, List.map_cons, List.map_nil, Act.eval, Array.getD_eq_getD_getElem?, Option.getD_some, e19, e21]; done) | (simp only [List.map_toArray, List.map_cons, List.map_nil, Act.eval, Array.getD_eq_getD_getElem?, Option.getD_some, e19, e21]; rfl)) ?_
      refine (spec_Deliver' _ s pq pv R _ IX.out hN HR.out).mono ?_
      rintro e wL ⟨XL, yL, UL, vL, rfl, oL, bL⟩
      refine ⟨_, rfl, ?_⟩
      refine hK.out _ _ ⟨XL, yL, UL, vL, w'.heap.size, wL.heap.size, gB5, P5, p5, Q5, q5, m1_, (.agg #[.slice XL R.g.length yL, .slice UL R.e.length vL]), m5_, (by rw [ha.out]; exact putSel_upk 4 hb_ rfl rfl rfl), BW.out.trans bL, fun _ => oL, fun _ => ⟨BW.out.size, Nat.le_refl _⟩, fun h0_ => ⟨(Q_GE h0_).1, Nat.lt_of_lt_of_le (Q_GE h0_).2 (Bw.size bL)⟩, fun _ _ => (by rename_i h1_ h2_; exact .inl (Q_GE h2_).2), fun h0_ h1_ => (bL.out.block _ (blk_lt (Q_BX h0_ h1_))).trans (Q_BX h0_ h1_), fun h0_ => absurd ((hoff 6 (by kernel_rfl)).symm.trans h0_) (by decide), fun _ h1_ => absurd ((up_self b 4).symm.trans h1_) (by decide), Q_X1_, fun _ => rfl, Q_X5_⟩
    refine steps_cons ?_ ?_
    · rintro b a w' ⟨X5, y5, U5, v5, l5, h5, gB5, P5, p5, Q5, q5, m1_, m4_, m5_, ha, Q_BW, Q_IO, Q_IL, Q_GE, Q_NG, Q_BX, Q_BY, Q_IX, Q_X1_, Q_X4_, Q_X5_⟩ hb_ hon hoff
      refine ⟨_, rfl, fun K hK => ?_⟩
      replace ha := Aside0.mk ha
      have BW := Aside0.mk Q_BW
      refine box_step ?hg (N := 6) ?hd (cs := #[.slice none 0 0, .slice none 0 0]) (t := 31) ?hr ?_; (case hd => rfl); (case hg => rfl); (case hr => first | (go_simp; done) | (go_simp; rfl))
      intro gN hgN wN hbox hb5
      refine hK.out _ _ ⟨X5, y5, U5, v5, l5, h5, gN, P5, p5, Q5, q5, m1_, m4_, (.pointer (some ⟨gN, 0, none⟩)), (by rw [ha.out]; exact putSel_upk 5 hb_ rfl rfl rfl), BW.out.trans (⟨hb5⟩ : Bw w' wN), fun h0_ => (Q_IO h0_).to (⟨hb5⟩ : Bw w' wN), fun h0_ => ⟨(Q_IL h0_).1, Nat.le_trans (Q_IL h0_).2 (Bw.size (⟨hb5⟩ : Bw w' wN))⟩, fun _ => by rw [hgN]; exact ⟨BW.out.size, by have := blk_lt hbox; rw [hgN] at this; exact this⟩, fun _ _ => (by rename_i h1_ h2_; exact .inr (by rw [hgN]; exact (Q_IL h1_).2)), fun _ _ => hbox, fun h0_ => absurd ((hoff 6 (by kernel_rfl)).symm.trans h0_) (by decide), fun h0_ h1_ => (Q_IX h0_ h1_).to (⟨hb5⟩ : Bw w' wN), Q_X1_, Q_X4_, fun _ => rfl⟩
    refine steps_cons ?_ ?_
    · rintro b a w' ⟨X5, y5, U5, v5, l5, h5, gB5, P5, p5, Q5, q5, m1_, m4_, m5_, ha, Q_BW, Q_IO, Q_IL, Q_GE, Q_NG, Q_BX, Q_BY, Q_IX, Q_X1_, Q_X4_, Q_X5_⟩ hb_ hon hoff
      refine ⟨_, rfl, fun K hK => ?_⟩
      have e6 : a.tmps[6]? = some (m5_) := by rw [ha]; exact putSel_on (e := (5, 6, m5_)) 5 rfl rfl (hon 5 (by kernel_rfl)) rfl
      rw [Q_X5_ (hon 5 (by kernel_rfl))] at e6
      have e22 : a.tmps[22]? = some (m4_) := by rw [ha]; exact putSel_on (e := (4, 22, m4_)) 4 rfl rfl (hon 4 (by kernel_rfl)) rfl
      rw [Q_X4_ (hon 4 (by kernel_rfl))] at e22
      replace ha := Aside0.mk ha
      have BW := Aside0.mk Q_BW
      have IO := Aside0.mk (Q_IO (hon 4 (by kernel_rfl)))
      have IL := Aside0.mk (Q_IL (hon 4 (by kernel_rfl)))
      have GE := Aside0.mk (Q_GE (hon 5 (by kernel_rfl)))
      have NG := Aside0.mk (Q_NG (hon 4 (by kernel_rfl)) (hon 5 (by kernel_rfl)))
      have BX := Aside0.mk (Q_BX (hon 5 (by kernel_rfl)) hb_)
      have hs0_ := (blk_cell BX.out 0).trans (show _ = some (Value.slice none 0 0) from rfl)
      have hf0_ := blk_frozen BX.out 0
      have hs1_ := (blk_cell BX.out 1).trans (show _ = some (Value.slice none 0 0) from rfl)
      have hf1_ := blk_frozen BX.out 1
      have hwi : Wi w' ((w'.setCell ⟨gB5, 0, none⟩ (.slice X5 R.g.length y5)).setCell ⟨gB5, 1, none⟩ (.slice U5 R.e.length v5)) gB5 (gB5 + 1) := ((Wi.refl w' gB5 (gB5 + 1)).trans (Wi.set1 _ _ 0 (.slice X5 R.g.length y5))).trans (Wi.set1 _ _ 1 (.slice U5 R.e.length v5))
      have hFF : ((w'.setCell ⟨gB5, 0, none⟩ (.slice X5 R.g.length y5)).setCell ⟨gB5, 1, none⟩ (.slice U5 R.e.length v5)).heap[gB5]? = some (.cells #[.slice X5 R.g.length y5, .slice U5 R.e.length v5] 31 (0, 0)) := (blk_set (blk_set BX.out 0 (.slice X5 R.g.length y5)) 1 (.slice U5 R.e.length v5))
      have hwi2 := Aside0.mk hwi
      have hFF2 := Aside0.mk hFF
      clear hwi hFF
      refine skip_ (w1 := ?_) (by rfl) rfl ?_ ?_
      rotate_left
      · go_simp
        rfl
      have hwi := hwi2.out
      refine hK.out _ _ ⟨X5, y5, U5, v5, l5, h5, gB5, P5, p5, Q5, q5, m1_, m4_, m5_, (by rw [ha.out]; exact putSel_none (v := undef) rfl), BW.out.then_wi hwi GE.out.1, fun _ => IO.out.wi hwi (by have := NG.out; omega), fun _ => ⟨IL.out.1, Nat.le_trans IL.out.2 hwi.size⟩, fun _ => ⟨GE.out.1, Nat.lt_of_lt_of_le GE.out.2 hwi.size⟩, fun _ _ => NG.out, fun _ h1_ => absurd ((up_self b 6).symm.trans h1_) (by decide), fun _ => hFF2.out, fun _ h1_ => absurd ((hon 4 (by kernel_rfl)).symm.trans h1_) (by decide), Q_X1_, Q_X4_, Q_X5_⟩
    exact steps_nil
  rintro b a w' hall ⟨X5, y5, U5, v5, l5, h5, gB5, P5, p5, Q5, q5, m1_, m4_, m5_, ha, Q_BW, Q_IO, Q_IL, Q_GE, Q_NG, Q_BX, Q_BY, Q_IX, Q_X1_, Q_X4_, Q_X5_⟩
  clear BW
  have hb0_ := hall 0 (by kernel_rfl)
  have hb1_ := hall 1 (by kernel_rfl)
  have hb2_ := hall 2 (by kernel_rfl)
  have hb3_ := hall 3 (by kernel_rfl)
  have hb4_ := hall 4 (by kernel_rfl)
  have hb5_ := hall 5 (by kernel_rfl)
  have hb6_ := hall 6 (by kernel_rfl)
  subst ha
  obtain rfl := Q_X1_ hb1_
  obtain rfl := Q_X4_ hb4_
  obtain rfl := Q_X5_ hb5_
  simp only [putSel, hb0_, hb1_, hb2_, hb3_, hb4_, hb5_, hb6_, if_true, Act.put, List.setIfInBounds_toArray, List.set_cons_zero, List.set_cons_succ]
  have BW := Aside0.mk Q_BW
  clear Q_BW
  have IO := Aside0.mk (Q_IO hb4_)
  clear Q_IO
  have IL := Aside0.mk (Q_IL hb4_)
  clear Q_IL
  have GE := Aside0.mk (Q_GE hb5_)
  clear Q_GE
  have NG := Aside0.mk (Q_NG hb4_ hb5_)
  clear Q_NG
  clear Q_BX
  have BY := Aside0.mk (Q_BY hb6_)
  clear Q_BY
  clear Q_IX
  clear hall hb0_ hb1_ hb2_ hb3_ hb4_ hb5_ hb6_
  clear HT_ HW_
  generalize w' = w5 at *
  have b1 := BW.out
  replace k0 := pw_cell_below b1.out k0
  replace k1 := pw_cell_below b1.out k1
  replace p0 := pw_cell_below b1.out p0
  replace p1 := pw_cell_below b1.out p1
  replace hB := hB.trans b1
  have hb5 := b1.size
  clear b1 BW
  have hO5 := IO.out
  have hIL5 := IL.out
  have hGE5 := GE.out
  have hNG5 := NG.out
  have e5_0 := (blk_cell BY.out 0).trans (show _ = some (Value.slice X5 R.g.length y5) from rfl)
  have e5_1 := (blk_cell BY.out 1).trans (show _ = some (Value.slice U5 R.e.length v5) from rfl)
  clear IO IL GE NG BY
  go_wp2_with fail
  refine (toInbox _ s _ (IbR.to hx0 hB) hN).mono ?_
  rintro e_ w6 ⟨z6, F0, f0, F1, f1, hz6, rfl, x0, b1⟩
  have hy6 : w.heap.size + 2 ≤ z6 := by rw [hz6]; omega
  replace k0 := pw_cell_below b1.out k0
  replace k1 := pw_cell_below b1.out k1
  replace p0 := pw_cell_below b1.out p0
  replace p1 := pw_cell_below b1.out p1
  replace e5_0 := pw_cell_below b1.out e5_0
  replace e5_1 := pw_cell_below b1.out e5_1
  replace hO5 := hO5.to b1
  replace hB := hB.trans b1
  have hb6 := b1.size
  clear b1
  have g0 := box_cell (Bw.refl (w6.alloc (.cells #[.slice F0 s.g.length f0, .slice F1 s.e.length f1] 31))) 0
  have g1 := box_cell (Bw.refl (w6.alloc (.cells #[.slice F0 s.g.length f0, .slice F1 s.e.length f1] 31))) 1
  simp only [List.getElem?_toArray, List.getElem?_cons_zero, List.getElem?_cons_succ] at g0 g1
  have b1 := Bw.box1 w6 (.cells #[.slice F0 s.g.length f0, .slice F1 s.e.length f1] 31)
  replace k0 := pw_cell_below b1.out k0
  replace k1 := pw_cell_below b1.out k1
  replace p0 := pw_cell_below b1.out p0
  replace p1 := pw_cell_below b1.out p1
  replace e5_0 := pw_cell_below b1.out e5_0
  replace e5_1 := pw_cell_below b1.out e5_1
  replace hO5 := hO5.to b1
  replace x0 := x0.to b1
  replace hB := hB.trans b1
  have hb7 : (w6.alloc (.cells #[.slice F0 s.g.length f0, .slice F1 s.e.length f1] 31)).heap.size = w6.heap.size + 1 := by simp
  clear b1
  go_upto_region 7 with fail
  generalize (w6.alloc (.cells #[.slice F0 s.g.length f0, .slice F1 s.e.length f1] 31)) = w7 at *
  have BW := Aside0.mk (Bw.refl w7)
  have HT_ := Aside0.mk lawdel7tab
  have HW_ := Aside0.mk lawdel7bits
  refine start_ (n := 6) (S := fun w' => True) (ds := []) #[false, false, false, false, false, false] (by kernel_rfl) rfl rfl trivial (fun hHeld => ?_)
  refine inv_at [0, 1, 2, 3, 4, 5] (fun a0_ b a w' => ∃ (X7 : Option Addr) (y7 : Nat) (U7 : Option Addr) (v7 : Nat) (l7 : Nat) (h7 : Nat) (gB7 : Nat) (m3_ : Value) (m4_ : Value), a = putSel a0_ b [(0, 25, .agg #[.slice F0 s.g.length f0, .slice F1 s.e.length f1]), (1, 26, .agg #[.int .i64 pq, .int .i64 pv]), (2, 27, .agg #[.int .i64 pq, .int .i64 pv]), (3, 28, m3_), (4, 8, m4_)] ∧ (Bw w7 w') ∧ (b 3 = true → IbO w' l7 h7 (.agg #[.slice X7 R.g.length y7, .slice U7 R.e.length v7]) R) ∧ (b 3 = true → w7.heap.size ≤ l7 ∧ h7 ≤ w'.heap.size) ∧ (b 4 = true → w7.heap.size ≤ gB7 ∧ gB7 < w'.heap.size) ∧ (b 3 = true → b 4 = true → gB7 < l7 ∨ h7 ≤ gB7) ∧ (b 4 = true → b 5 = false → w'.heap[gB7]? = some (.cells #[.slice none 0 0, .slice none 0 0] 31 (0, 0))) ∧ (b 5 = true → w'.heap[gB7]? = some (.cells #[.slice X7 R.g.length y7, .slice U7 R.e.length v7] 31 (0, 0))) ∧ (b 3 = true → (m3_ : Value) = .agg #[.slice X7 R.g.length y7, .slice U7 R.e.length v7]) ∧ (b 4 = true → (m4_ : Value) = .pointer (some ⟨gB7, 0, none⟩))) HT_.out HW_.out (by kernel_rfl) (by kernel_rfl) ?_ ?_ ?_
  · exact ⟨none, 0, none, 0, 0, 0, 0, .bool false, .bool false, by simp only [putSel, Bool.false_eq_true, if_false], BW.out.trans (Bw.drawn ⟨⟨1, rfl⟩⟩), fun h_ => absurd h_ (by decide), fun h_ => absurd h_ (by decide), fun h_ => absurd h_ (by decide), fun h_ => absurd h_ (by decide), fun h_ => absurd h_ (by decide), fun h_ => absurd h_ (by decide), fun h_ => absurd h_ (by decide), fun h_ => absurd h_ (by decide)⟩
  · skip
    clear BW
    refine steps_cons ?_ ?_
    · rintro b a w' ⟨X7, y7, U7, v7, l7, h7, gB7, m3_, m4_, ha, Q_BW, Q_IO, Q_IL, Q_GE, Q_NG, Q_BX, Q_BY, Q_X3_, Q_X4_⟩ hb_ hon hoff
      refine ⟨_, rfl, fun K hK => ?_⟩
      have e7 : a.tmps[7]? = some (.pointer (some ⟨w6.heap.size, 0, none⟩)) := by rw [ha]; exact (putSel_off rfl).trans rfl
      replace ha := Aside0.mk ha
      have BW := Aside0.mk Q_BW
      have hc0_ := pw_cell_below BW.out.out g0
      have hc1_ := pw_cell_below BW.out.out g1
      refine value_ (w1 := w') (v := .agg #[.slice F0 s.g.length f0, .slice F1 s.e.length f1]) (by rfl) rfl ?_ ?_
      · go_simp
        (try simp only [i64_w])
        try rfl
      refine hK.out _ _ ⟨X7, y7, U7, v7, l7, h7, gB7, m3_, m4_, (by rw [ha.out]; exact putSel_upk 0 hb_ rfl rfl rfl), Q_BW, fun h0_ => absurd ((hoff 3 (by kernel_rfl)).symm.trans h0_) (by decide), fun h0_ => absurd ((hoff 3 (by kernel_rfl)).symm.trans h0_) (by decide), Q_GE, fun h0_ _ => absurd ((hoff 3 (by kernel_rfl)).symm.trans h0_) (by decide), Q_BX, fun h0_ => absurd ((hoff 5 (by kernel_rfl)).symm.trans h0_) (by decide), fun h0_ => absurd ((hoff 3 (by kernel_rfl)).symm.trans h0_) (by decide), Q_X4_⟩
    refine steps_cons ?_ ?_
    · rintro b a w' ⟨X7, y7, U7, v7, l7, h7, gB7, m3_, m4_, ha, Q_BW, Q_IO, Q_IL, Q_GE, Q_NG, Q_BX, Q_BY, Q_X3_, Q_X4_⟩ hb_ hon hoff
      refine ⟨_, rfl, fun K hK => ?_⟩
      have e3 : a.tmps[3]? = some (.pointer (some ⟨(w.heap.size + 1), 0, none⟩)) := by rw [ha]; exact (putSel_off rfl).trans rfl
      replace ha := Aside0.mk ha
      have BW := Aside0.mk Q_BW
      have hc0_ := pw_cell_below BW.out.out p0
      have hc1_ := pw_cell_below BW.out.out p1
      refine value_ (w1 := w') (v := .agg #[.int .i64 pq, .int .i64 pv]) (by rfl) rfl ?_ ?_
      · go_simp
        (try simp only [i64_w])
        try rfl
      refine hK.out _ _ ⟨X7, y7, U7, v7, l7, h7, gB7, m3_, m4_, (by rw [ha.out]; exact putSel_upk 1 hb_ rfl rfl rfl), Q_BW, fun h0_ => absurd ((hoff 3 (by kernel_rfl)).symm.trans h0_) (by decide), fun h0_ => absurd ((hoff 3 (by kernel_rfl)).symm.trans h0_) (by decide), Q_GE, fun h0_ _ => absurd ((hoff 3 (by kernel_rfl)).symm.trans h0_) (by decide), Q_BX, fun h0_ => absurd ((hoff 5 (by kernel_rfl)).symm.trans h0_) (by decide), fun h0_ => absurd ((hoff 3 (by kernel_rfl)).symm.trans h0_) (by decide), Q_X4_⟩
    refine steps_cons ?_ ?_
    · rintro b a w' ⟨X7, y7, U7, v7, l7, h7, gB7, m3_, m4_, ha, Q_BW, Q_IO, Q_IL, Q_GE, Q_NG, Q_BX, Q_BY, Q_X3_, Q_X4_⟩ hb_ hon hoff
      refine ⟨_, rfl, fun K hK => ?_⟩
      have e26 : a.tmps[26]? = some (.agg #[.int .i64 pq, .int .i64 pv]) := by rw [ha]; exact putSel_on (e := (1, 26, .agg #[.int .i64 pq, .int .i64 pv])) 1 rfl rfl (hon 1 (by kernel_rfl)) rfl
      replace ha := Aside0.mk ha
      have BW := Aside0.mk Q_BW
      refine goes_ Try.func10 (by kernel_rfl) rfl #[.agg #[.int .i64 pq, .int .i64 pv]] (by rfl) rfl rfl (by first | (simp only [List.map_toArray, List.map_cons, List.map_nil, Act.eval, Array.getD_eq_getD_getElem?, Option.getD_some, e26]; done) | (simp only [List.map_toArray, List.map_cons, List.map_nil, Act.eval, Array.getD_eq_getD_getElem?, Option.getD_some, e26]; rfl)) ?_
      refine (toPacket pq pv _).mono ?_
      rintro e wL ⟨rfl, bL⟩
      refine ⟨_, rfl, ?_⟩
      refine hK.out _ _ ⟨X7, y7, U7, v7, l7, h7, gB7, m3_, m4_, (by rw [ha.out]; exact putSel_upk 2 hb_ rfl rfl rfl), BW.out.trans bL, fun h0_ => absurd ((hoff 3 (by kernel_rfl)).symm.trans h0_) (by decide), fun h0_ => absurd ((hoff 3 (by kernel_rfl)).symm.trans h0_) (by decide), fun h0_ => ⟨(Q_GE h0_).1, Nat.lt_of_lt_of_le (Q_GE h0_).2 (Bw.size bL)⟩, fun h0_ _ => absurd ((hoff 3 (by kernel_rfl)).symm.trans h0_) (by decide), fun h0_ h1_ => (bL.out.block _ (blk_lt (Q_BX h0_ h1_))).trans (Q_BX h0_ h1_), fun h0_ => absurd ((hoff 5 (by kernel_rfl)).symm.trans h0_) (by decide), fun h0_ => absurd ((hoff 3 (by kernel_rfl)).symm.trans h0_) (by decide), Q_X4_⟩
    refine steps_cons ?_ ?_
    · rintro b a w' ⟨X7, y7, U7, v7, l7, h7, gB7, m3_, m4_, ha, Q_BW, Q_IO, Q_IL, Q_GE, Q_NG, Q_BX, Q_BY, Q_X3_, Q_X4_⟩ hb_ hon hoff
      refine ⟨_, rfl, fun K hK => ?_⟩
      have e25 : a.tmps[25]? = some (.agg #[.slice F0 s.g.length f0, .slice F1 s.e.length f1]) := by rw [ha]; exact putSel_on (e := (0, 25, .agg #[.slice F0 s.g.length f0, .slice F1 s.e.length f1])) 0 rfl rfl (hon 0 (by kernel_rfl)) rfl
      have e27 : a.tmps[27]? = some (.agg #[.int .i64 pq, .int .i64 pv]) := by rw [ha]; exact putSel_on (e := (2, 27, .agg #[.int .i64 pq, .int .i64 pv])) 2 rfl rfl (hon 2 (by kernel_rfl)) rfl
      replace ha := Aside0.mk ha
      have BW := Aside0.mk Q_BW
      refine goes_ Try.func11 (by kernel_rfl) rfl #[.agg #[.slice F0 s.g.length f0, .slice F1 s.e.length f1], .agg #[.int .i64 pq, .int .i64 pv]] (by rfl) rfl rfl (by first | (simp only [List.map_toArray, List.map_cons, List.map_nil, Act.eval, Array.getD_eq_getD_getElem?, Option.getD_some, e25, e27]; done) | (simp only [List.map_toArray, List.map_cons, List.map_nil, Act.eval, Array.getD_eq_getD_getElem?, Option.getD_some, e25, e27]; rfl)) ?_
      refine (impl_Deliver' _ s pq pv R _ (IbR.to x0.r BW.out) hN HR.out).mono ?_
      rintro e wL ⟨XL, yL, UL, vL, rfl, oL, bL⟩
      refine ⟨_, rfl, ?_⟩
      refine hK.out _ _ ⟨XL, yL, UL, vL, w'.heap.size, wL.heap.size, gB7, (.agg #[.slice XL R.g.length yL, .slice UL R.e.length vL]), m4_, (by rw [ha.out]; exact putSel_upk 3 hb_ rfl rfl rfl), BW.out.trans bL, fun _ => oL, fun _ => ⟨BW.out.size, Nat.le_refl _⟩, fun h0_ => ⟨(Q_GE h0_).1, Nat.lt_of_lt_of_le (Q_GE h0_).2 (Bw.size bL)⟩, fun _ _ => (by rename_i h1_ h2_; exact .inl (Q_GE h2_).2), fun h0_ h1_ => (bL.out.block _ (blk_lt (Q_BX h0_ h1_))).trans (Q_BX h0_ h1_), fun h0_ => absurd ((hoff 5 (by kernel_rfl)).symm.trans h0_) (by decide), fun _ => rfl, Q_X4_⟩
    refine steps_cons ?_ ?_
    · rintro b a w' ⟨X7, y7, U7, v7, l7, h7, gB7, m3_, m4_, ha, Q_BW, Q_IO, Q_IL, Q_GE, Q_NG, Q_BX, Q_BY, Q_X3_, Q_X4_⟩ hb_ hon hoff
      refine ⟨_, rfl, fun K hK => ?_⟩
      replace ha := Aside0.mk ha
      have BW := Aside0.mk Q_BW
      refine box_step ?hg (N := 8) ?hd (cs := #[.slice none 0 0, .slice none 0 0]) (t := 31) ?hr ?_; (case hd => rfl); (case hg => rfl); (case hr => first | (go_simp; done) | (go_simp; rfl))
      intro gN hgN wN hbox hb5
      refine hK.out _ _ ⟨X7, y7, U7, v7, l7, h7, gN, m3_, (.pointer (some ⟨gN, 0, none⟩)), (by rw [ha.out]; exact putSel_upk 4 hb_ rfl rfl rfl), BW.out.trans (⟨hb5⟩ : Bw w' wN), fun h0_ => (Q_IO h0_).to (⟨hb5⟩ : Bw w' wN), fun h0_ => ⟨(Q_IL h0_).1, Nat.le_trans (Q_IL h0_).2 (Bw.size (⟨hb5⟩ : Bw w' wN))⟩, fun _ => by rw [hgN]; exact ⟨BW.out.size, by have := blk_lt hbox; rw [hgN] at this; exact this⟩, fun _ _ => (by rename_i h1_ h2_; exact .inr (by rw [hgN]; exact (Q_IL h1_).2)), fun _ _ => hbox, fun h0_ => absurd ((hoff 5 (by kernel_rfl)).symm.trans h0_) (by decide), Q_X3_, fun _ => rfl⟩
    refine steps_cons ?_ ?_
    · rintro b a w' ⟨X7, y7, U7, v7, l7, h7, gB7, m3_, m4_, ha, Q_BW, Q_IO, Q_IL, Q_GE, Q_NG, Q_BX, Q_BY, Q_X3_, Q_X4_⟩ hb_ hon hoff
      refine ⟨_, rfl, fun K hK => ?_⟩
      have e8 : a.tmps[8]? = some (m4_) := by rw [ha]; exact putSel_on (e := (4, 8, m4_)) 4 rfl rfl (hon 4 (by kernel_rfl)) rfl
      rw [Q_X4_ (hon 4 (by kernel_rfl))] at e8
      have e28 : a.tmps[28]? = some (m3_) := by rw [ha]; exact putSel_on (e := (3, 28, m3_)) 3 rfl rfl (hon 3 (by kernel_rfl)) rfl
      rw [Q_X3_ (hon 3 (by kernel_rfl))] at e28
      replace ha := Aside0.mk ha
      have BW := Aside0.mk Q_BW
      have IO := Aside0.mk (Q_IO (hon 3 (by kernel_rfl)))
      have IL := Aside0.mk (Q_IL (hon 3 (by kernel_rfl)))
      have GE := Aside0.mk (Q_GE (hon 4 (by kernel_rfl)))
      have NG := Aside0.mk (Q_NG (hon 3 (by kernel_rfl)) (hon 4 (by kernel_rfl)))
      have BX := Aside0.mk (Q_BX (hon 4 (by kernel_rfl)) hb_)
      have hs0_ := (blk_cell BX.out 0).trans (show _ = some (Value.slice none 0 0) from rfl)
      have hf0_ := blk_frozen BX.out 0
      have hs1_ := (blk_cell BX.out 1).trans (show _ = some (Value.slice none 0 0) from rfl)
      have hf1_ := blk_frozen BX.out 1
      have hwi : Wi w' ((w'.setCell ⟨gB7, 0, none⟩ (.slice X7 R.g.length y7)).setCell ⟨gB7, 1, none⟩ (.slice U7 R.e.length v7)) gB7 (gB7 + 1) := ((Wi.refl w' gB7 (gB7 + 1)).trans (Wi.set1 _ _ 0 (.slice X7 R.g.length y7))).trans (Wi.set1 _ _ 1 (.slice U7 R.e.length v7))
      have hFF : ((w'.setCell ⟨gB7, 0, none⟩ (.slice X7 R.g.length y7)).setCell ⟨gB7, 1, none⟩ (.slice U7 R.e.length v7)).heap[gB7]? = some (.cells #[.slice X7 R.g.length y7, .slice U7 R.e.length v7] 31 (0, 0)) := (blk_set (blk_set BX.out 0 (.slice X7 R.g.length y7)) 1 (.slice U7 R.e.length v7))
      have hwi2 := Aside0.mk hwi
      have hFF2 := Aside0.mk hFF
      clear hwi hFF
      refine skip_ (w1 := ?_) (by rfl) rfl ?_ ?_
      rotate_left
      · go_simp
        rfl
      have hwi := hwi2.out
      refine hK.out _ _ ⟨X7, y7, U7, v7, l7, h7, gB7, m3_, m4_, (by rw [ha.out]; exact putSel_none (v := undef) rfl), BW.out.then_wi hwi GE.out.1, fun _ => IO.out.wi hwi (by have := NG.out; omega), fun _ => ⟨IL.out.1, Nat.le_trans IL.out.2 hwi.size⟩, fun _ => ⟨GE.out.1, Nat.lt_of_lt_of_le GE.out.2 hwi.size⟩, fun _ _ => NG.out, fun _ h1_ => absurd ((up_self b 5).symm.trans h1_) (by decide), fun _ => hFF2.out, Q_X3_, Q_X4_⟩
    exact steps_nil
  rintro b a w' hall ⟨X7, y7, U7, v7, l7, h7, gB7, m3_, m4_, ha, Q_BW, Q_IO, Q_IL, Q_GE, Q_NG, Q_BX, Q_BY, Q_X3_, Q_X4_⟩
  clear BW
  have hb0_ := hall 0 (by kernel_rfl)
  have hb1_ := hall 1 (by kernel_rfl)
  have hb2_ := hall 2 (by kernel_rfl)
  have hb3_ := hall 3 (by kernel_rfl)
  have hb4_ := hall 4 (by kernel_rfl)
  have hb5_ := hall 5 (by kernel_rfl)
  subst ha
  obtain rfl := Q_X3_ hb3_
  obtain rfl := Q_X4_ hb4_
  simp only [putSel, hb0_, hb1_, hb2_, hb3_, hb4_, hb5_, if_true, Act.put, List.setIfInBounds_toArray, List.set_cons_zero, List.set_cons_succ]
  have BW := Aside0.mk Q_BW
  clear Q_BW
  have IO := Aside0.mk (Q_IO hb3_)
  clear Q_IO
  have IL := Aside0.mk (Q_IL hb3_)
  clear Q_IL
  have GE := Aside0.mk (Q_GE hb4_)
  clear Q_GE
  have NG := Aside0.mk (Q_NG hb3_ hb4_)
  clear Q_NG
  clear Q_BX
  have BY := Aside0.mk (Q_BY hb5_)
  clear Q_BY
  clear hall hb0_ hb1_ hb2_ hb3_ hb4_ hb5_
  clear HT_ HW_
  generalize w' = w8 at *
  have b1 := BW.out
  replace k0 := pw_cell_below b1.out k0
  replace k1 := pw_cell_below b1.out k1
  replace p0 := pw_cell_below b1.out p0
  replace p1 := pw_cell_below b1.out p1
  replace e5_0 := pw_cell_below b1.out e5_0
  replace e5_1 := pw_cell_below b1.out e5_1
  replace g0 := pw_cell_below b1.out g0
  replace g1 := pw_cell_below b1.out g1
  replace hO5 := hO5.to b1
  replace x0 := x0.to b1
  replace hB := hB.trans b1
  have hb7 := b1.size
  clear b1 BW
  have hO7 := IO.out
  have hIL7 := IL.out
  have hGE7 := GE.out
  have hNG7 := NG.out
  have e7_0 := (blk_cell BY.out 0).trans (show _ = some (Value.slice X7 R.g.length y7) from rfl)
  have e7_1 := (blk_cell BY.out 1).trans (show _ = some (Value.slice U7 R.e.length v7) from rfl)
  clear IO IL GE NG BY
  go_wp2_with fail
  refine (eqInbox_yes _ _ R _ hO7.r hO5.r).mono ?_
  rintro e_ w9 ⟨rfl, b1⟩
  replace k0 := pw_cell_below b1.out k0
  replace k1 := pw_cell_below b1.out k1
  replace p0 := pw_cell_below b1.out p0
  replace p1 := pw_cell_below b1.out p1
  replace e5_0 := pw_cell_below b1.out e5_0
  replace e5_1 := pw_cell_below b1.out e5_1
  replace g0 := pw_cell_below b1.out g0
  replace g1 := pw_cell_below b1.out g1
  replace e7_0 := pw_cell_below b1.out e7_0
  replace e7_1 := pw_cell_below b1.out e7_1
  replace hO5 := hO5.to b1
  replace x0 := x0.to b1
  replace hO7 := hO7.to b1
  replace hB := hB.trans b1
  have hb9 := b1.size
  clear b1
  go_upto_region 10 with fail
  refine start_ (n := 5) (S := fun w' => w'.cell? ⟨w.heap.size, 0, none⟩ = some (.slice A s.g.length c) ∧ w'.cell? ⟨w.heap.size, 1, none⟩ = some (.slice B s.e.length d) ∧ w'.cell? ⟨w6.heap.size, 0, none⟩ = some (.slice F0 s.g.length f0) ∧ w'.cell? ⟨w6.heap.size, 1, none⟩ = some (.slice F1 s.e.length f1)) (ds := [4]) #[false, false, false, false, false] (by kernel_rfl) rfl rfl ⟨k0, k1, g0, g1⟩ (fun hHeld => ?_)
  refine take_ (i := 0) (N := (some 33)) (v := ?_) (a' := ?_) #[true, false, false, false, false] rfl rfl (by kernel_rfl) (fun _ _ _ h => h) (Or.inl ⟨by rfl, ?_⟩) hHeld ?_ ?_
  rotate_left
  · rintro w' ⟨s0, s1, s2, s3⟩
    go_simp
    with_reducible rfl
  rotate_left
  · simp only [Act.put, List.setIfInBounds_toArray, List.set_cons_zero, List.set_cons_succ, i64_w, i32_w]
    rfl
  refine take_ (i := 1) (N := (some 34)) (v := ?_) (a' := ?_) #[true, true, false, false, false] rfl rfl (by kernel_rfl) (fun _ _ _ h => h) (Or.inl ⟨by rfl, ?_⟩) hHeld ?_ ?_
  rotate_left
  · rintro w' ⟨s0, s1, s2, s3⟩
    go_simp
    with_reducible rfl
  rotate_left
  · simp only [Act.put, List.setIfInBounds_toArray, List.set_cons_zero, List.set_cons_succ, i64_w, i32_w]
    rfl
  clear hHeld
  refine one_ (i := 2) (N := (some 35)) #[true, true, true, false, false] rfl rfl (by kernel_rfl) (by decide) (fun K hK => ?_)
  refine goes_ Try.func9 (by kernel_rfl) rfl #[.agg #[.slice A s.g.length c, .slice B s.e.length d]] (by rfl) rfl rfl (by (try simp only [List.map_toArray, List.map_cons, List.map_nil]); first | done | rfl) ?_
  refine (toInbox _ s _ (IbR.to hx0 (hB.trans (Bw.drawn ⟨⟨1, rfl⟩⟩))) hN).mono ?_
  rintro e wa ⟨z11, V0, v0, V1, v1, hz11, rfl, y0, ba⟩
  refine ⟨_, rfl, ?_⟩
  have b1 := (Bw.drawn (a := w9) ⟨⟨1, rfl⟩⟩).trans ba
  clear ba
  have hy11 : w.heap.size + 2 ≤ z11 := by rw [hz11]; have := hB.size; have := (Bw.drawn (a := w9) ⟨⟨1, rfl⟩⟩).size; omega
  replace k0 := pw_cell_below b1.out k0
  replace k1 := pw_cell_below b1.out k1
  replace p0 := pw_cell_below b1.out p0
  replace p1 := pw_cell_below b1.out p1
  replace e5_0 := pw_cell_below b1.out e5_0
  replace e5_1 := pw_cell_below b1.out e5_1
  replace g0 := pw_cell_below b1.out g0
  replace g1 := pw_cell_below b1.out g1
  replace e7_0 := pw_cell_below b1.out e7_0
  replace e7_1 := pw_cell_below b1.out e7_1
  replace hO5 := hO5.to b1
  replace x0 := x0.to b1
  replace hO7 := hO7.to b1
  replace hB := hB.trans b1
  have hb11 := b1.size
  clear b1
  refine hK.out _ _ ⟨k0, k1, g0, g1⟩ (fun _ => ?_)
  rename_i hJ_
  clear hJ_
  clear hK K
  refine norm_ (a' := ?_) ?_ ?_
  rotate_left
  · show Act.put _ (some 35) _ = _
    simp only [Act.put, List.setIfInBounds_toArray, List.set_cons_zero, List.set_cons_succ, i64_w, i32_w]
    rfl
  refine one_ (i := 3) (N := (some 36)) #[true, true, true, true, false] rfl rfl (by kernel_rfl) (by decide) (fun K hK => ?_)
  refine goes_ Try.func12 (by kernel_rfl) rfl #[.agg #[.slice F0 s.g.length f0, .slice F1 s.e.length f1], .agg #[.slice V0 s.g.length v0, .slice V1 s.e.length v1]] (by rfl) rfl rfl (by (try simp only [List.map_toArray, List.map_cons, List.map_nil]); first | done | rfl) ?_
  refine (eqInbox_yes _ _ s _ x0.r y0.r).mono ?_
  rintro e wb ⟨rfl, b1⟩
  refine ⟨_, rfl, ?_⟩
  replace k0 := pw_cell_below b1.out k0
  replace k1 := pw_cell_below b1.out k1
  replace p0 := pw_cell_below b1.out p0
  replace p1 := pw_cell_below b1.out p1
  replace e5_0 := pw_cell_below b1.out e5_0
  replace e5_1 := pw_cell_below b1.out e5_1
  replace g0 := pw_cell_below b1.out g0
  replace g1 := pw_cell_below b1.out g1
  replace e7_0 := pw_cell_below b1.out e7_0
  replace e7_1 := pw_cell_below b1.out e7_1
  replace hO5 := hO5.to b1
  replace x0 := x0.to b1
  replace hO7 := hO7.to b1
  replace y0 := y0.to b1
  replace hB := hB.trans b1
  have hb12 := b1.size
  clear b1
  refine hK.out _ _ ⟨k0, k1, g0, g1⟩ (fun _ => ?_)
  rename_i hJ_
  clear hJ_
  clear hK K
  refine norm_ (a' := ?_) ?_ ?_
  rotate_left
  · show Act.put _ (some 36) _ = _
    simp only [Act.put, List.setIfInBounds_toArray, List.set_cons_zero, List.set_cons_succ, i64_w, i32_w]
    rfl
  refine last_ (i := 4) (N := (some 37)) #[true, true, true, true, true] rfl rfl (by kernel_rfl) (by decide) (fun K hK => ?_)
  refine value_ (w1 := ?_) (v := ?_) (by rfl) rfl ?_ ?_
  rotate_left 2
  · go_simp
    constructor
    · rfl
    · rfl
  refine hK.out _ _ ?_
  clear hK K
  refine norm_ (a' := ?_) ?_ ?_
  rotate_left
  · show Act.put _ (some 37) _ = _
    simp only [Act.put, List.setIfInBounds_toArray, List.set_cons_zero, List.set_cons_succ, i64_w, i32_w]
    rfl
  refine done_ (by kernel_rfl) ?_
  clear y0
  have hm1 : ibm s ≤ 4000000 := by rw [ibm]; rw [ibz] at hN; omega
  have hm2 : ibm R ≤ 4000000 := by rw [ibm]; omega
  go_wp2_with fail
  refine (markInbox (.agg #[.slice F0 s.g.length f0, .slice F1 s.e.length f1]) s 1 (1 + (ibm s : Nat)) _ z6 w6.heap.size x0 (by omega) hN (by omega) (by omega) rfl).mono ?_
  rintro e_ w15 ⟨rfl, c1, _⟩
  clear x0
  replace k0 := cellWi c1 k0 (by show ¬ (z6 ≤ w.heap.size ∧ w.heap.size < w6.heap.size); omega)
  replace k1 := cellWi c1 k1 (by show ¬ (z6 ≤ w.heap.size ∧ w.heap.size < w6.heap.size); omega)
  replace p0 := cellWi c1 p0 (by show ¬ (z6 ≤ (w.heap.size + 1) ∧ (w.heap.size + 1) < w6.heap.size); omega)
  replace p1 := cellWi c1 p1 (by show ¬ (z6 ≤ (w.heap.size + 1) ∧ (w.heap.size + 1) < w6.heap.size); omega)
  replace e5_0 := cellWi c1 e5_0 (by show ¬ (z6 ≤ gB5 ∧ gB5 < w6.heap.size); omega)
  replace e5_1 := cellWi c1 e5_1 (by show ¬ (z6 ≤ gB5 ∧ gB5 < w6.heap.size); omega)
  replace g0 := cellWi c1 g0 (by show ¬ (z6 ≤ w6.heap.size ∧ w6.heap.size < w6.heap.size); omega)
  replace g1 := cellWi c1 g1 (by show ¬ (z6 ≤ w6.heap.size ∧ w6.heap.size < w6.heap.size); omega)
  replace e7_0 := cellWi c1 e7_0 (by show ¬ (z6 ≤ gB7 ∧ gB7 < w6.heap.size); omega)
  replace e7_1 := cellWi c1 e7_1 (by show ¬ (z6 ≤ gB7 ∧ gB7 < w6.heap.size); omega)
  replace hO5 := hO5.wi c1 (by omega)
  replace hO7 := hO7.wi c1 (by omega)
  replace hB := hB.then_wi c1 (by omega)
  have hb15 := c1.size
  clear c1
  have hk0 : decide ((1 : Int) + (ibm s : Nat) < 0) = false := decide_eq_false (by omega)
  go_wp2_with fail
  refine (eqInbox_yes _ _ R _ hO7.r hO5.r).mono ?_
  rintro e_ w17 ⟨rfl, b1⟩
  replace k0 := pw_cell_below b1.out k0
  replace k1 := pw_cell_below b1.out k1
  replace p0 := pw_cell_below b1.out p0
  replace p1 := pw_cell_below b1.out p1
  replace e5_0 := pw_cell_below b1.out e5_0
  replace e5_1 := pw_cell_below b1.out e5_1
  replace g0 := pw_cell_below b1.out g0
  replace g1 := pw_cell_below b1.out g1
  replace e7_0 := pw_cell_below b1.out e7_0
  replace e7_1 := pw_cell_below b1.out e7_1
  replace hO5 := hO5.to b1
  replace hO7 := hO7.to b1
  replace hB := hB.trans b1
  have hb17 := b1.size
  clear b1
  go_wp2_with fail
  refine (markInbox (.agg #[.slice X7 R.g.length y7, .slice U7 R.e.length v7]) R 1 (1 + (ibm R : Nat)) _ l7 h7 hO7 (by omega) hRz (by omega) (by omega) rfl).mono ?_
  rintro e_ w18 ⟨rfl, c1, B9, d9, A9, c9, hag, hmg, hme⟩
  cases hag
  clear hO7
  replace k0 := cellWi c1 k0 (by show ¬ (l7 ≤ w.heap.size ∧ w.heap.size < h7); omega)
  replace k1 := cellWi c1 k1 (by show ¬ (l7 ≤ w.heap.size ∧ w.heap.size < h7); omega)
  replace p0 := cellWi c1 p0 (by show ¬ (l7 ≤ (w.heap.size + 1) ∧ (w.heap.size + 1) < h7); omega)
  replace p1 := cellWi c1 p1 (by show ¬ (l7 ≤ (w.heap.size + 1) ∧ (w.heap.size + 1) < h7); omega)
  replace e5_0 := cellWi c1 e5_0 (by show ¬ (l7 ≤ gB5 ∧ gB5 < h7); omega)
  replace e5_1 := cellWi c1 e5_1 (by show ¬ (l7 ≤ gB5 ∧ gB5 < h7); omega)
  replace g0 := cellWi c1 g0 (by show ¬ (l7 ≤ w6.heap.size ∧ w6.heap.size < h7); omega)
  replace g1 := cellWi c1 g1 (by show ¬ (l7 ≤ w6.heap.size ∧ w6.heap.size < h7); omega)
  replace e7_0 := cellWi c1 e7_0 (by show ¬ (l7 ≤ gB7 ∧ gB7 < h7); omega)
  replace e7_1 := cellWi c1 e7_1 (by show ¬ (l7 ≤ gB7 ∧ gB7 < h7); omega)
  replace hO5 := hO5.wi c1 (by omega)
  replace hB := hB.then_wi c1 (by omega)
  have hb18 := c1.size
  clear c1
  have hk1 : decide ((1 : Int) + (ibm R : Nat) < 0) = false := decide_eq_false (by omega)
  have hk2 : ((1 : Int) + (ibm R : Nat) != 1 + (ibm R : Nat)) = false := by simp
  go_wp2_with fail
  refine (heldInbox X7 U7 R.g.length R.e.length y7 v7 1 (1 + (ibm R : Nat)) _ hmg.rdI' (Rw.rdF hme) hRz2 (by omega) (by omega) (by rw [ibm])).mono ?_
  rintro e_ w19 ⟨rfl, b1⟩
  replace k0 := pw_cell_below b1.out k0
  replace k1 := pw_cell_below b1.out k1
  replace p0 := pw_cell_below b1.out p0
  replace p1 := pw_cell_below b1.out p1
  replace e5_0 := pw_cell_below b1.out e5_0
  replace e5_1 := pw_cell_below b1.out e5_1
  replace g0 := pw_cell_below b1.out g0
  replace g1 := pw_cell_below b1.out g1
  replace e7_0 := pw_cell_below b1.out e7_0
  replace e7_1 := pw_cell_below b1.out e7_1
  replace hO5 := hO5.to b1
  replace hmg := hmg.to b1
  replace hme := hme.to b1
  replace hB := hB.trans b1
  have hb19 := b1.size
  clear b1
  go_upto_region 24 with fail
  have BW := Aside0.mk (Bw.refl w19)
  have HT_ := Aside0.mk lawdel24tab
  have HW_ := Aside0.mk lawdel24bits
  refine start_ (n := 7) (S := fun w' => True) (ds := []) #[false, false, false, false, false, false, false] (by kernel_rfl) rfl rfl trivial (fun hHeld => ?_)
  refine inv_at [0, 1, 2, 3, 4, 5, 6] (fun a0_ b a w' => ∃ (X24 : Option Addr) (y24 : Nat) (U24 : Option Addr) (v24 : Nat) (l24 : Nat) (h24 : Nat) (gB24 : Nat) (P24 : Option Addr) (p24 : Nat) (Q24 : Option Addr) (q24 : Nat) (m1_ : Value) (m4_ : Value) (m5_ : Value), a = putSel a0_ b [(0, 60, .agg #[.slice A s.g.length c, .slice B s.e.length d]), (1, 61, m1_), (2, 62, .agg #[.int .i64 pq, .int .i64 pv]), (3, 63, .agg #[.int .i64 pq, .int .i64 pv]), (4, 64, m4_), (5, 12, m5_)] ∧ (Bw w19 w') ∧ (b 4 = true → IbO w' l24 h24 (.agg #[.slice X24 R.g.length y24, .slice U24 R.e.length v24]) R) ∧ (b 4 = true → w19.heap.size ≤ l24 ∧ h24 ≤ w'.heap.size) ∧ (b 5 = true → w19.heap.size ≤ gB24 ∧ gB24 < w'.heap.size) ∧ (b 4 = true → b 5 = true → gB24 < l24 ∨ h24 ≤ gB24) ∧ (b 5 = true → b 6 = false → w'.heap[gB24]? = some (.cells #[.slice none 0 0, .slice none 0 0] 31 (0, 0))) ∧ (b 6 = true → w'.heap[gB24]? = some (.cells #[.slice X24 R.g.length y24, .slice U24 R.e.length v24] 31 (0, 0))) ∧ (b 1 = true → b 4 = false → IbR w' (.agg #[.slice P24 s.g.length p24, .slice Q24 s.e.length q24]) s) ∧ (b 1 = true → (m1_ : Value) = .agg #[.slice P24 s.g.length p24, .slice Q24 s.e.length q24]) ∧ (b 4 = true → (m4_ : Value) = .agg #[.slice X24 R.g.length y24, .slice U24 R.e.length v24]) ∧ (b 5 = true → (m5_ : Value) = .pointer (some ⟨gB24, 0, none⟩))) HT_.out HW_.out (by kernel_rfl) (by kernel_rfl) ?_ ?_ ?_
  · exact ⟨none, 0, none, 0, 0, 0, 0, none, 0, none, 0, .bool false, .bool false, .bool false, by simp only [putSel, Bool.false_eq_true, if_false], BW.out.trans (Bw.drawn ⟨⟨1, rfl⟩⟩), fun h_ => absurd h_ (by decide), fun h_ => absurd h_ (by decide), fun h_ => absurd h_ (by decide), fun h_ => absurd h_ (by decide), fun h_ => absurd h_ (by decide), fun h_ => absurd h_ (by decide), fun h_ => absurd h_ (by decide), fun h_ => absurd h_ (by decide), fun h_ => absurd h_ (by decide), fun h_ => absurd h_ (by decide)⟩
  · skip
    clear BW
    refine steps_cons ?_ ?_
    · rintro b a w' ⟨X24, y24, U24, v24, l24, h24, gB24, P24, p24, Q24, q24, m1_, m4_, m5_, ha, Q_BW, Q_IO, Q_IL, Q_GE, Q_NG, Q_BX, Q_BY, Q_IX, Q_X1_, Q_X4_, Q_X5_⟩ hb_ hon hoff
      refine ⟨_, rfl, fun K hK => ?_⟩
      have e2 : a.tmps[2]? = some (.pointer (some ⟨w.heap.size, 0, none⟩)) := by rw [ha]; exact (putSel_off rfl).trans rfl
      replace ha := Aside0.mk ha
      have BW := Aside0.mk Q_BW
      have hc0_ := pw_cell_below BW.out.out k0
      have hc1_ := pw_cell_below BW.out.out k1
      refine value_ (w1 := w') (v := .agg #[.slice A s.g.length c, .slice B s.e.length d]) (by rfl) rfl ?_ ?_
      · go_simp
        (try simp only [i64_w])
        try rfl
      refine hK.out _ _ ⟨X24, y24, U24, v24, l24, h24, gB24, P24, p24, Q24, q24, m1_, m4_, m5_, (by rw [ha.out]; exact putSel_upk 0 hb_ rfl rfl rfl), Q_BW, fun h0_ => absurd ((hoff 4 (by kernel_rfl)).symm.trans h0_) (by decide), fun h0_ => absurd ((hoff 4 (by kernel_rfl)).symm.trans h0_) (by decide), Q_GE, fun h0_ _ => absurd ((hoff 4 (by kernel_rfl)).symm.trans h0_) (by decide), Q_BX, fun h0_ => absurd ((hoff 6 (by kernel_rfl)).symm.trans h0_) (by decide), fun h0_ _ => absurd ((hoff 1 (by kernel_rfl)).symm.trans h0_) (by decide), fun h0_ => absurd ((hoff 1 (by kernel_rfl)).symm.trans h0_) (by decide), fun h0_ => absurd ((hoff 4 (by kernel_rfl)).symm.trans h0_) (by decide), Q_X5_⟩
    refine steps_cons ?_ ?_
    · rintro b a w' ⟨X24, y24, U24, v24, l24, h24, gB24, P24, p24, Q24, q24, m1_, m4_, m5_, ha, Q_BW, Q_IO, Q_IL, Q_GE, Q_NG, Q_BX, Q_BY, Q_IX, Q_X1_, Q_X4_, Q_X5_⟩ hb_ hon hoff
      refine ⟨_, rfl, fun K hK => ?_⟩
      have e60 : a.tmps[60]? = some (.agg #[.slice A s.g.length c, .slice B s.e.length d]) := by rw [ha]; exact putSel_on (e := (0, 60, .agg #[.slice A s.g.length c, .slice B s.e.length d])) 0 rfl rfl (hon 0 (by kernel_rfl)) rfl
      replace ha := Aside0.mk ha
      have BW := Aside0.mk Q_BW
      refine goes_ Try.func9 (by kernel_rfl) rfl #[.agg #[.slice A s.g.length c, .slice B s.e.length d]] (by rfl) rfl rfl (by first | (simp only [List.map_toArray, List.map_cons, List.map_nil, Act.eval, Array.getD_eq_getD_getElem?, Option.getD_some, e60]; done) | (simp only [List.map_toArray, List.map_cons, List.map_nil, Act.eval, Array.getD_eq_getD_getElem?, Option.getD_some, e60]; rfl)) ?_
      refine (toInbox _ s _ (IbR.to hx0 (hB.trans BW.out)) hN).mono ?_
      rintro e wL ⟨zL, PL, pL, QL, qL, _, rfl, oL, bL⟩
      refine ⟨_, rfl, ?_⟩
      refine hK.out _ _ ⟨X24, y24, U24, v24, l24, h24, gB24, PL, pL, QL, qL, (.agg #[.slice PL s.g.length pL, .slice QL s.e.length qL]), m4_, m5_, (by rw [ha.out]; exact putSel_upk 1 hb_ rfl rfl rfl), BW.out.trans bL, fun h0_ => absurd ((hoff 4 (by kernel_rfl)).symm.trans h0_) (by decide), fun h0_ => absurd ((hoff 4 (by kernel_rfl)).symm.trans h0_) (by decide), fun h0_ => ⟨(Q_GE h0_).1, Nat.lt_of_lt_of_le (Q_GE h0_).2 (Bw.size bL)⟩, fun h0_ _ => absurd ((hoff 4 (by kernel_rfl)).symm.trans h0_) (by decide), fun h0_ h1_ => (bL.out.block _ (blk_lt (Q_BX h0_ h1_))).trans (Q_BX h0_ h1_), fun h0_ => absurd ((hoff 6 (by kernel_rfl)).symm.trans h0_) (by decide), fun _ _ => oL.r, fun _ => rfl, fun h0_ => absurd ((hoff 4 (by kernel_rfl)).symm.trans h0_) (by decide), Q_X5_⟩
    refine steps_cons ?_ ?_
    · rintro b a w' ⟨X24, y24, U24, v24, l24, h24, gB24, P24, p24, Q24, q24, m1_, m4_, m5_, ha, Q_BW, Q_IO, Q_IL, Q_GE, Q_NG, Q_BX, Q_BY, Q_IX, Q_X1_, Q_X4_, Q_X5_⟩ hb_ hon hoff
      refine ⟨_, rfl, fun K hK => ?_⟩
      have e3 : a.tmps[3]? = some (.pointer (some ⟨(w.heap.size + 1), 0, none⟩)) := by rw [ha]; exact (putSel_off rfl).trans rfl
      replace ha := Aside0.mk ha
      have BW := Aside0.mk Q_BW
      have hc0_ := pw_cell_below BW.out.out p0
      have hc1_ := pw_cell_below BW.out.out p1
      refine value_ (w1 := w') (v := .agg #[.int .i64 pq, .int .i64 pv]) (by rfl) rfl ?_ ?_
      · go_simp
        (try simp only [i64_w])
        try rfl
      refine hK.out _ _ ⟨X24, y24, U24, v24, l24, h24, gB24, P24, p24, Q24, q24, m1_, m4_, m5_, (by rw [ha.out]; exact putSel_upk 2 hb_ rfl rfl rfl), Q_BW, fun h0_ => absurd ((hoff 4 (by kernel_rfl)).symm.trans h0_) (by decide), fun h0_ => absurd ((hoff 4 (by kernel_rfl)).symm.trans h0_) (by decide), Q_GE, fun h0_ _ => absurd ((hoff 4 (by kernel_rfl)).symm.trans h0_) (by decide), Q_BX, fun h0_ => absurd ((hoff 6 (by kernel_rfl)).symm.trans h0_) (by decide), Q_IX, Q_X1_, fun h0_ => absurd ((hoff 4 (by kernel_rfl)).symm.trans h0_) (by decide), Q_X5_⟩
    refine steps_cons ?_ ?_
    · rintro b a w' ⟨X24, y24, U24, v24, l24, h24, gB24, P24, p24, Q24, q24, m1_, m4_, m5_, ha, Q_BW, Q_IO, Q_IL, Q_GE, Q_NG, Q_BX, Q_BY, Q_IX, Q_X1_, Q_X4_, Q_X5_⟩ hb_ hon hoff
      refine ⟨_, rfl, fun K hK => ?_⟩
      have e62 : a.tmps[62]? = some (.agg #[.int .i64 pq, .int .i64 pv]) := by rw [ha]; exact putSel_on (e := (2, 62, .agg #[.int .i64 pq, .int .i64 pv])) 2 rfl rfl (hon 2 (by kernel_rfl)) rfl
      replace ha := Aside0.mk ha
      have BW := Aside0.mk Q_BW
      have IX := Aside0.mk (Q_IX (hon 1 (by kernel_rfl)) (hoff 4 (by kernel_rfl)))
      refine goes_ Try.func10 (by kernel_rfl) rfl #[.agg #[.int .i64 pq, .int .i64 pv]] (by rfl) rfl rfl (by first | (simp only [List.map_toArray, List.map_cons, List.map_nil, Act.eval, Array.getD_eq_getD_getElem?, Option.getD_some, e62]; done) | (simp only [List.map_toArray, List.map_cons, List.map_nil, Act.eval, Array.getD_eq_getD_getElem?, Option.getD_some, e62]; rfl)) ?_
      refine (toPacket pq pv _).mono ?_
      rintro e wL ⟨rfl, bL⟩
      refine ⟨_, rfl, ?_⟩
      refine hK.out _ _ ⟨X24, y24, U24, v24, l24, h24, gB24, P24, p24, Q24, q24, m1_, m4_, m5_, (by rw [ha.out]; exact putSel_upk 3 hb_ rfl rfl rfl), BW.out.trans bL, fun h0_ => absurd ((hoff 4 (by kernel_rfl)).symm.trans h0_) (by decide), fun h0_ => absurd ((hoff 4 (by kernel_rfl)).symm.trans h0_) (by decide), fun h0_ => ⟨(Q_GE h0_).1, Nat.lt_of_lt_of_le (Q_GE h0_).2 (Bw.size bL)⟩, fun h0_ _ => absurd ((hoff 4 (by kernel_rfl)).symm.trans h0_) (by decide), fun h0_ h1_ => (bL.out.block _ (blk_lt (Q_BX h0_ h1_))).trans (Q_BX h0_ h1_), fun h0_ => absurd ((hoff 6 (by kernel_rfl)).symm.trans h0_) (by decide), fun _ _ => IX.out.to bL, Q_X1_, fun h0_ => absurd ((hoff 4 (by kernel_rfl)).symm.trans h0_) (by decide), Q_X5_⟩
    refine steps_cons ?_ ?_
    · rintro b a w' ⟨X24, y24, U24, v24, l24, h24, gB24, P24, p24, Q24, q24, m1_, m4_, m5_, ha, Q_BW, Q_IO, Q_IL, Q_GE, Q_NG, Q_BX, Q_BY, Q_IX, Q_X1_, Q_X4_, Q_X5_⟩ hb_ hon hoff
      refine ⟨_, rfl, fun K hK => ?_⟩
      have e61 : a.tmps[61]? = some (m1_) := by rw [ha]; exact putSel_on (e := (1, 61, m1_)) 1 rfl rfl (hon 1 (by kernel_rfl)) rfl
      rw [Q_X1_ (hon 1 (by kernel_rfl))] at e61
      have e63 : a.tmps[63]? = some (.agg #[.int .i64 pq, .int .i64 pv]) := by rw [ha]; exact putSel_on (e := (3, 63, .agg #[.int .i64 pq, .int .i64 pv])) 3 rfl rfl (hon 3 (by kernel_rfl)) rfl
      replace ha := Aside0.mk ha
      have BW := Aside0.mk Q_BW
      have IX := Aside0.mk (Q_IX (hon 1 (by kernel_rfl)) hb_)
      refine goes_ Try.func11 (by kernel_rfl) rfl #[.agg #[.slice P24 s.g.length p24, .slice Q24 s.e.length q24], .agg #[.int .i64 pq, .int .i64 pv]] (by rfl) rfl rfl (by first | (simp only [List.map_toArray, List.map_cons, List.map_nil, Act.eval, Array.getD_eq_getD_getElem?, Option.getD_some, e61, e63]; done) | (simp only [List.map_toArray, List.map_cons, List.map_nil, Act.eval, Array.getD_eq_getD_getElem?, Option.getD_some, e61, e63]; rfl)) ?_
      refine (impl_Deliver' _ s pq pv R _ IX.out hN HR.out).mono ?_
      rintro e wL ⟨XL, yL, UL, vL, rfl, oL, bL⟩
      refine ⟨_, rfl, ?_⟩
      refine hK.out _ _ ⟨XL, yL, UL, vL, w'.heap.size, wL.heap.size, gB24, P24, p24, Q24, q24, m1_, (.agg #[.slice XL R.g.length yL, .slice UL R.e.length vL]), m5_, (by rw [ha.out]; exact putSel_upk 4 hb_ rfl rfl rfl), BW.out.trans bL, fun _ => oL, fun _ => ⟨BW.out.size, Nat.le_refl _⟩, fun h0_ => ⟨(Q_GE h0_).1, Nat.lt_of_lt_of_le (Q_GE h0_).2 (Bw.size bL)⟩, fun _ _ => (by rename_i h1_ h2_; exact .inl (Q_GE h2_).2), fun h0_ h1_ => (bL.out.block _ (blk_lt (Q_BX h0_ h1_))).trans (Q_BX h0_ h1_), fun h0_ => absurd ((hoff 6 (by kernel_rfl)).symm.trans h0_) (by decide), fun _ h1_ => absurd ((up_self b 4).symm.trans h1_) (by decide), Q_X1_, fun _ => rfl, Q_X5_⟩
    refine steps_cons ?_ ?_
    · rintro b a w' ⟨X24, y24, U24, v24, l24, h24, gB24, P24, p24, Q24, q24, m1_, m4_, m5_, ha, Q_BW, Q_IO, Q_IL, Q_GE, Q_NG, Q_BX, Q_BY, Q_IX, Q_X1_, Q_X4_, Q_X5_⟩ hb_ hon hoff
      refine ⟨_, rfl, fun K hK => ?_⟩
      replace ha := Aside0.mk ha
      have BW := Aside0.mk Q_BW
      refine box_step ?hg (N := 12) ?hd (cs := #[.slice none 0 0, .slice none 0 0]) (t := 31) ?hr ?_; (case hd => rfl); (case hg => rfl); (case hr => first | (go_simp; done) | (go_simp; rfl))
      intro gN hgN wN hbox hb5
      refine hK.out _ _ ⟨X24, y24, U24, v24, l24, h24, gN, P24, p24, Q24, q24, m1_, m4_, (.pointer (some ⟨gN, 0, none⟩)), (by rw [ha.out]; exact putSel_upk 5 hb_ rfl rfl rfl), BW.out.trans (⟨hb5⟩ : Bw w' wN), fun h0_ => (Q_IO h0_).to (⟨hb5⟩ : Bw w' wN), fun h0_ => ⟨(Q_IL h0_).1, Nat.le_trans (Q_IL h0_).2 (Bw.size (⟨hb5⟩ : Bw w' wN))⟩, fun _ => by rw [hgN]; exact ⟨BW.out.size, by have := blk_lt hbox; rw [hgN] at this; exact this⟩, fun _ _ => (by rename_i h1_ h2_; exact .inr (by rw [hgN]; exact (Q_IL h1_).2)), fun _ _ => hbox, fun h0_ => absurd ((hoff 6 (by kernel_rfl)).symm.trans h0_) (by decide), fun h0_ h1_ => (Q_IX h0_ h1_).to (⟨hb5⟩ : Bw w' wN), Q_X1_, Q_X4_, fun _ => rfl⟩
    refine steps_cons ?_ ?_
    · rintro b a w' ⟨X24, y24, U24, v24, l24, h24, gB24, P24, p24, Q24, q24, m1_, m4_, m5_, ha, Q_BW, Q_IO, Q_IL, Q_GE, Q_NG, Q_BX, Q_BY, Q_IX, Q_X1_, Q_X4_, Q_X5_⟩ hb_ hon hoff
      refine ⟨_, rfl, fun K hK => ?_⟩
      have e12 : a.tmps[12]? = some (m5_) := by rw [ha]; exact putSel_on (e := (5, 12, m5_)) 5 rfl rfl (hon 5 (by kernel_rfl)) rfl
      rw [Q_X5_ (hon 5 (by kernel_rfl))] at e12
      have e64 : a.tmps[64]? = some (m4_) := by rw [ha]; exact putSel_on (e := (4, 64, m4_)) 4 rfl rfl (hon 4 (by kernel_rfl)) rfl
      rw [Q_X4_ (hon 4 (by kernel_rfl))] at e64
      replace ha := Aside0.mk ha
      have BW := Aside0.mk Q_BW
      have IO := Aside0.mk (Q_IO (hon 4 (by kernel_rfl)))
      have IL := Aside0.mk (Q_IL (hon 4 (by kernel_rfl)))
      have GE := Aside0.mk (Q_GE (hon 5 (by kernel_rfl)))
      have NG := Aside0.mk (Q_NG (hon 4 (by kernel_rfl)) (hon 5 (by kernel_rfl)))
      have BX := Aside0.mk (Q_BX (hon 5 (by kernel_rfl)) hb_)
      have hs0_ := (blk_cell BX.out 0).trans (show _ = some (Value.slice none 0 0) from rfl)
      have hf0_ := blk_frozen BX.out 0
      have hs1_ := (blk_cell BX.out 1).trans (show _ = some (Value.slice none 0 0) from rfl)
      have hf1_ := blk_frozen BX.out 1
      have hwi : Wi w' ((w'.setCell ⟨gB24, 0, none⟩ (.slice X24 R.g.length y24)).setCell ⟨gB24, 1, none⟩ (.slice U24 R.e.length v24)) gB24 (gB24 + 1) := ((Wi.refl w' gB24 (gB24 + 1)).trans (Wi.set1 _ _ 0 (.slice X24 R.g.length y24))).trans (Wi.set1 _ _ 1 (.slice U24 R.e.length v24))
      have hFF : ((w'.setCell ⟨gB24, 0, none⟩ (.slice X24 R.g.length y24)).setCell ⟨gB24, 1, none⟩ (.slice U24 R.e.length v24)).heap[gB24]? = some (.cells #[.slice X24 R.g.length y24, .slice U24 R.e.length v24] 31 (0, 0)) := (blk_set (blk_set BX.out 0 (.slice X24 R.g.length y24)) 1 (.slice U24 R.e.length v24))
      have hwi2 := Aside0.mk hwi
      have hFF2 := Aside0.mk hFF
      clear hwi hFF
      refine skip_ (w1 := ?_) (by rfl) rfl ?_ ?_
      rotate_left
      · go_simp
        rfl
      have hwi := hwi2.out
      refine hK.out _ _ ⟨X24, y24, U24, v24, l24, h24, gB24, P24, p24, Q24, q24, m1_, m4_, m5_, (by rw [ha.out]; exact putSel_none (v := undef) rfl), BW.out.then_wi hwi GE.out.1, fun _ => IO.out.wi hwi (by have := NG.out; omega), fun _ => ⟨IL.out.1, Nat.le_trans IL.out.2 hwi.size⟩, fun _ => ⟨GE.out.1, Nat.lt_of_lt_of_le GE.out.2 hwi.size⟩, fun _ _ => NG.out, fun _ h1_ => absurd ((up_self b 6).symm.trans h1_) (by decide), fun _ => hFF2.out, fun _ h1_ => absurd ((hon 4 (by kernel_rfl)).symm.trans h1_) (by decide), Q_X1_, Q_X4_, Q_X5_⟩
    exact steps_nil
  rintro b a w' hall ⟨X24, y24, U24, v24, l24, h24, gB24, P24, p24, Q24, q24, m1_, m4_, m5_, ha, Q_BW, Q_IO, Q_IL, Q_GE, Q_NG, Q_BX, Q_BY, Q_IX, Q_X1_, Q_X4_, Q_X5_⟩
  clear BW
  have hb0_ := hall 0 (by kernel_rfl)
  have hb1_ := hall 1 (by kernel_rfl)
  have hb2_ := hall 2 (by kernel_rfl)
  have hb3_ := hall 3 (by kernel_rfl)
  have hb4_ := hall 4 (by kernel_rfl)
  have hb5_ := hall 5 (by kernel_rfl)
  have hb6_ := hall 6 (by kernel_rfl)
  subst ha
  obtain rfl := Q_X1_ hb1_
  obtain rfl := Q_X4_ hb4_
  obtain rfl := Q_X5_ hb5_
  simp only [putSel, hb0_, hb1_, hb2_, hb3_, hb4_, hb5_, hb6_, if_true, Act.put, List.setIfInBounds_toArray, List.set_cons_zero, List.set_cons_succ]
  have BW := Aside0.mk Q_BW
  clear Q_BW
  have IO := Aside0.mk (Q_IO hb4_)
  clear Q_IO
  have IL := Aside0.mk (Q_IL hb4_)
  clear Q_IL
  have GE := Aside0.mk (Q_GE hb5_)
  clear Q_GE
  have NG := Aside0.mk (Q_NG hb4_ hb5_)
  clear Q_NG
  clear Q_BX
  have BY := Aside0.mk (Q_BY hb6_)
  clear Q_BY
  clear Q_IX
  clear hall hb0_ hb1_ hb2_ hb3_ hb4_ hb5_ hb6_
  clear HT_ HW_
  generalize w' = w24 at *
  have b1 := BW.out
  replace k0 := pw_cell_below b1.out k0
  replace k1 := pw_cell_below b1.out k1
  replace p0 := pw_cell_below b1.out p0
  replace p1 := pw_cell_below b1.out p1
  replace e5_0 := pw_cell_below b1.out e5_0
  replace e5_1 := pw_cell_below b1.out e5_1
  replace g0 := pw_cell_below b1.out g0
  replace g1 := pw_cell_below b1.out g1
  replace e7_0 := pw_cell_below b1.out e7_0
  replace e7_1 := pw_cell_below b1.out e7_1
  replace hO5 := hO5.to b1
  replace hmg := hmg.to b1
  replace hme := hme.to b1
  replace hB := hB.trans b1
  have hb24 := b1.size
  clear b1 BW
  have hO24 := IO.out
  have hIL24 := IL.out
  have hGE24 := GE.out
  have hNG24 := NG.out
  have e24_0 := (blk_cell BY.out 0).trans (show _ = some (Value.slice X24 R.g.length y24) from rfl)
  have e24_1 := (blk_cell BY.out 1).trans (show _ = some (Value.slice U24 R.e.length v24) from rfl)
  clear IO IL GE NG BY
  go_wp2_with fail
  refine (eqInbox_yes _ _ R _ hO24.r hO5.r).mono ?_
  rintro e_ w25 ⟨rfl, b1⟩
  replace k0 := pw_cell_below b1.out k0
  replace k1 := pw_cell_below b1.out k1
  replace p0 := pw_cell_below b1.out p0
  replace p1 := pw_cell_below b1.out p1
  replace e5_0 := pw_cell_below b1.out e5_0
  replace e5_1 := pw_cell_below b1.out e5_1
  replace g0 := pw_cell_below b1.out g0
  replace g1 := pw_cell_below b1.out g1
  replace e7_0 := pw_cell_below b1.out e7_0
  replace e7_1 := pw_cell_below b1.out e7_1
  replace e24_0 := pw_cell_below b1.out e24_0
  replace e24_1 := pw_cell_below b1.out e24_1
  replace hO5 := hO5.to b1
  replace hmg := hmg.to b1
  replace hme := hme.to b1
  replace hO24 := hO24.to b1
  replace hB := hB.trans b1
  have hb25 := b1.size
  clear b1
  go_wp2_with fail
  refine (heldInbox X7 U7 R.g.length R.e.length y7 v7 1 (1 + (ibm R : Nat)) _ hmg.rdI' (Rw.rdF hme) hRz2 (by omega) (by omega) (by rw [ibm])).mono ?_
  rintro e_ w26 ⟨rfl, b1⟩
  replace hB := hB.trans b1
  go_wp2
  go_ret
  exact ⟨rfl, hB⟩

abbrev kQI : Kd Int := Kd.int .i64
abbrev kQP : Kd (Int × Int) := Kd.pair kQI kQI
def pkOf (p : Int × Int) : Pk := ⟨p.1, p.2⟩
theorem RI.of_Q {w : World} {A : Option Addr} {n : Nat} {l : List Int} (h : Kd.C kQI w A n l) : RI w A n l := ⟨⟨h.1, h.2.1, fun hn => by
  obtain ⟨ad, e, hc⟩ := h.2.2 hn
  refine ⟨ad, e, fun j hj => ?_⟩
  have hl := h.1
  obtain ⟨cs, _, hk, hu⟩ := hc j (l.getD j 0) (by rw [List.getD_eq_getElem?_getD, List.getElem?_eq_getElem (by omega)]; rfl)
  have hk2 : cs = [.int .i64 (l.getD j 0)] := hk
  subst hk2
  have h0 : w.cell? (ad.add (j * 1 + 0)) = _ := hu 0 _ rfl
  rwa [Nat.mul_one, Nat.add_zero] at h0⟩⟩
theorem PkR.of_Q {w : World} {A : Option Addr} {n : Nat} {l : List (Int × Int)} (h : Kd.C kQP w A n l) : PkR w A n (l.map pkOf) := by
  have hl := h.1
  refine ⟨⟨by rw [pkF_length, List.length_map, hl], h.2.1, fun hn => ?_⟩⟩
  obtain ⟨ad, e, hc⟩ := h.2.2 (by omega)
  refine ⟨ad, e, fun j hj => ?_⟩
  have hi : j / 2 < l.length := by omega
  have hq : l[j / 2]? = some l[j / 2] := List.getElem?_eq_getElem hi
  have hg : gp (l.map pkOf) (j / 2) = pkOf l[j / 2] := by rw [gp_at (by rw [List.length_map]; exact hi), List.getElem_map]
  have hf := pkF_rd (l.map pkOf) (j / 2) (by rw [List.length_map]; exact hi)
  rw [hg] at hf
  obtain ⟨cs, _, hk, hu⟩ := hc (j / 2) _ hq
  generalize l[j / 2] = q at *
  obtain ⟨c0, c1, rfl, hk0, hk1⟩ := hk
  have e0 : c0 = [.int .i64 q.1] := hk0
  have e1 : c1 = [.int .i64 q.2] := hk1
  subst e0 e1
  have h0 : w.cell? (ad.add (j / 2 * 2 + 0)) = _ := hu 0 _ rfl
  have h1 : w.cell? (ad.add (j / 2 * 2 + 1)) = _ := hu 1 _ rfl
  rcases Nat.mod_two_eq_zero_or_one j with hm | hm
  · have ej : j = j / 2 * 2 + 0 := by omega
    rw [ej, h0, Nat.add_zero, hf.1]
    rfl
  · have ej : j = j / 2 * 2 + 1 := by omega
    rw [ej, h1, hf.2]
    rfl
theorem law_Deliver (A0 : Option Addr) (c0 : Nat) (l0 : List Int) (A1 : Option Addr) (c1 : Nat) (l1 : List (Int × Int)) (i j : Int) (W : World)
    (h0 : Kd.C kQI W A0 l0.length l0) (hc0 : l0.length ≤ c0) (_ : l0.length ≤ 9223372036854775807) {P0 : Prop} (_ : P0) (h1 : Kd.C kQP W A1 l1.length l1) (hc1 : l1.length ≤ c1) (_ : l1.length ≤ 9223372036854775807) {P1 : Prop} (_ : P1) {P2 : Prop} (_ : P2) {P3 : Prop} (_ : P3) :
    Calls Try.prog 3 #[.agg #[.slice A0 l0.length c0, .slice A1 l1.length c1], .agg #[.int .i64 i, .int .i64 j]] W fun e w' => e = .returned (.bool true) ∧ Bw W w' := by
  have hl : (l1.map pkOf).length = l1.length := List.length_map _
  have h := laws_FnExactDeliver ⟨l0, l1.map pkOf⟩ A0 c0 A1 c1 i j W ⟨A0, c0, A1, c1, rfl, RI.of_Q h0, by show PkR W A1 (l1.map pkOf).length _; rw [hl]; exact PkR.of_Q h1, hc0, by show (l1.map pkOf).length ≤ c1; rw [hl]; exact hc1⟩
  simp only [hl] at h
  exact h
end Go.Proofs.Ytcdibjneoemidaa.U
