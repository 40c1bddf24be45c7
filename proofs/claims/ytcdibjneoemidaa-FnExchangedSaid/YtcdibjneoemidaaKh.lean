
/- The program's Deliver. -/
import Derived.Test.YtcdibjneoemidaaKg
set_option linter.unusedVariables false
set_option linter.unusedSimpArgs false
namespace Go.Proofs.Ytcdibjneoemidaa.U
open Go.RowKit Go.Lib Go.Proofs.YtcdibjneoemidaaW.PrintWords

open Go.Proofs.YtcdibjneoemidaaW.PrintLast Go.Proofs.YtcdibjneoemidaaW.PrintMore

theorem TkS.dl {w0 W W2 : World} {P : Nat} {vg ve : Value} {B : Option Addr} {d : Nat} {g : List Int} {e e' : List Pk} (h : TkS w0 W P vg B d g e) (b : Bw W W2) (o : PkO W2 W.heap.size ve e'.length e') : DlS w0 (W2.setCell ⟨P, 1, none⟩ ve) P vg ve ⟨g, e'⟩ := by
  have h2 := h.to b
  have hw : Wi W2 (W2.setCell ⟨P, 1, none⟩ ve) P (P + 1) := Wi.set1 _ _ 1 _
  refine ⟨blk_set h2.bx 1 ve, FO.putK (show FO W2 w0.heap.size 3 1 vg g.length g from ⟨h2.og.out⟩) h2.bx (by decide) hw, FO.putK (FO.less o h.bw.size) h2.bx (by decide) hw, ?_, ⟨(bw_set h2.bw h2.lo 1 ve).out⟩, h2.lo⟩
  rcases own_base' h.og.out with e1 | ⟨q, e1, _⟩
  · exact .inl e1
  · refine .inr fun e2 => ?_
    have h3 := own_lt h.og.out q e1
    have h4 := own_base o.out q (by rw [← e2, e1])
    omega
theorem DlS.ins {w0 W W2 : World} {P : Nat} {vg ve ve' : Value} {s : Ib} {e' : List Pk} (h : DlS w0 W P vg ve s) (o : PkO W2 w0.heap.size ve' e'.length e') (hg : W.grownBy W2 ve.ownBlock) (had : ve'.ownBlock = ve.ownBlock ∨ ∃ b, ve'.ownBlock = some b ∧ W.heap.size ≤ b) :
    DlS w0 (W2.setCell ⟨P, 1, none⟩ ve') P vg ve' ⟨s.g, e'⟩ := by
  have hb := blk_grown h.bx hg (own_ne h.oe.out h.bx (by decide))
  have hw : Wi W2 (W2.setCell ⟨P, 1, none⟩ ve') P (P + 1) := Wi.set1 _ _ 1 _
  have b2 : Bw w0 W2 := ⟨h.bw.out.grown hg h.bw.size (fun k hk => own_base h.oe.out k hk)⟩
  refine ⟨blk_set hb 1 ve', FO.putK (FO.grown h.og hg h.ap) hb (by decide) hw, FO.putK o hb (by decide) hw, ?_, b2.then_wi hw h.lo, h.lo⟩
  rcases had with e1 | ⟨b, e1, hb2⟩
  · rcases h.ap with h1 | h1
    · exact .inl h1
    · exact .inr (by rw [e1]; exact h1)
  · refine .inr fun e2 => ?_
    have := own_lt h.og.out b (e2.trans e1)
    omega
theorem DlS.less {w0 w1 w : World} {P : Nat} {vg ve : Value} {s : Ib} (h : DlS w1 w P vg ve s) (b : Bw w0 w1) : DlS w0 w P vg ve s := ⟨h.bx, FO.less h.og b.size, FO.less h.oe b.size, h.ap, b.trans h.bw, Nat.le_trans b.size h.lo⟩
theorem delS_same {s : Ib} {p : Pk} (h : ¬ (ibOk s = true ∧ s.g.length < 1000)) : delS s p = s := by rw [delS, if_neg h]
theorem ibOk_len {s : Ib} (h : ibOk s = true) : s.g.length ≤ 1000 ∧ s.e.length ≤ 16 := by
  simp only [ibOk, Bool.and_eq_true, decide_eq_true_eq] at h
  exact ⟨h.1, h.2.1⟩
theorem insS_len (e : List Pk) (p : Pk) : (insS e p).length = e.length + 1 := by
  have := posP_le e p.q
  rw [insS]
  simp
  omega

set_option maxHeartbeats 8000000 in
set_option maxRecDepth 100000 in
theorem impl_Deliver (x : Value) (s : Ib) (p : Pk) (w : World) (hx : IbR w x s) (h0 : s.g.length ≤ 1048576) (h1 : s.e.length ≤ 1048576) :
    Calls Try.prog 11 #[x, .agg #[.int .i64 p.q, .int .i64 p.v]] w fun e w' => ∃ vg ve, e = .returned (.agg #[vg, ve]) ∧ IbO w' w.heap.size w'.heap.size (.agg #[vg, ve]) (delS s p) ∧ Bw w w' := by
  obtain ⟨pq, pv⟩ := p
  have HX := hid hx
  obtain ⟨A, c, B, d, rfl, r, q, _, _⟩ := hx
  have b0 := ((Bw.box1 w (.cells #[.slice A s.g.length c, .slice B s.e.length d] 31)).alloc (.cells #[.int .i64 pq, .int .i64 pv] 34)).alloc (.cells #[.slice none 0 0, .slice none 0 0] 31)
  have g0 := box_cell (((Bw.refl (w.alloc (.cells #[.slice A s.g.length c, .slice B s.e.length d] 31))).alloc (.cells #[.int .i64 pq, .int .i64 pv] 34)).alloc (.cells #[.slice none 0 0, .slice none 0 0] 31)) 0
  have g1 := box_cell (((Bw.refl (w.alloc (.cells #[.slice A s.g.length c, .slice B s.e.length d] 31))).alloc (.cells #[.int .i64 pq, .int .i64 pv] 34)).alloc (.cells #[.slice none 0 0, .slice none 0 0] 31)) 1
  simp only [List.getElem?_toArray, List.getElem?_cons_zero, List.getElem?_cons_succ] at g0 g1
  have hX : (((w.alloc (.cells #[.slice A s.g.length c, .slice B s.e.length d] 31)).alloc (.cells #[.int .i64 pq, .int .i64 pv] 34)).alloc (.cells #[.slice none 0 0, .slice none 0 0] 31)).heap[w.heap.size]? = some (.cells #[.slice A s.g.length c, .slice B s.e.length d] 31 (0, 0)) := by
    have h := heap_alloc_new w (.cells #[.slice A s.g.length c, .slice B s.e.length d] 31 (0, 0))
    exact ((Bw.refl (w.alloc (.cells #[.slice A s.g.length c, .slice B s.e.length d] 31))).alloc (.cells #[.int .i64 pq, .int .i64 pv] 34) |>.alloc (.cells #[.slice none 0 0, .slice none 0 0] 31) |>.out.block _ (blk_lt h)).trans h
  have hP : (((w.alloc (.cells #[.slice A s.g.length c, .slice B s.e.length d] 31)).alloc (.cells #[.int .i64 pq, .int .i64 pv] 34)).alloc (.cells #[.slice none 0 0, .slice none 0 0] 31)).heap[w.heap.size + 1]? = some (.cells #[.int .i64 pq, .int .i64 pv] 34 (0, 0)) := by
    have h := heap_alloc_new (w.alloc (.cells #[.slice A s.g.length c, .slice B s.e.length d] 31)) (.cells #[.int .i64 pq, .int .i64 pv] 34 (0, 0))
    rw [show (w.alloc (.cells #[.slice A s.g.length c, .slice B s.e.length d] 31)).heap.size = w.heap.size + 1 by simp] at h
    exact ((Bw.box1 ((w.alloc (.cells #[.slice A s.g.length c, .slice B s.e.length d] 31)).alloc (.cells #[.int .i64 pq, .int .i64 pv] 34)) (.cells #[.slice none 0 0, .slice none 0 0] 31)).out.block _ (blk_lt h)).trans h
  have hR : (((w.alloc (.cells #[.slice A s.g.length c, .slice B s.e.length d] 31)).alloc (.cells #[.int .i64 pq, .int .i64 pv] 34)).alloc (.cells #[.slice none 0 0, .slice none 0 0] 31)).heap[w.heap.size + 1 + 1]? = some (.cells #[.slice none 0 0, .slice none 0 0] 31 (0, 0)) := by
    have h := heap_alloc_new ((w.alloc (.cells #[.slice A s.g.length c, .slice B s.e.length d] 31)).alloc (.cells #[.int .i64 pq, .int .i64 pv] 34)) (.cells #[.slice none 0 0, .slice none 0 0] 31 (0, 0))
    rwa [show ((w.alloc (.cells #[.slice A s.g.length c, .slice B s.e.length d] 31)).alloc (.cells #[.int .i64 pq, .int .i64 pv] 34)).heap.size = w.heap.size + 1 + 1 by simp] at h
  have hz3 : (((w.alloc (.cells #[.slice A s.g.length c, .slice B s.e.length d] 31)).alloc (.cells #[.int .i64 pq, .int .i64 pv] 34)).alloc (.cells #[.slice none 0 0, .slice none 0 0] 31)).heap.size = w.heap.size + 3 := by simp
  go_enter Try.func11, Try.ntmps11
  go_upto_region 1 with fail
  generalize (((w.alloc (.cells #[.slice A s.g.length c, .slice B s.e.length d] 31)).alloc (.cells #[.int .i64 pq, .int .i64 pv] 34)).alloc (.cells #[.slice none 0 0, .slice none 0 0] 31)) = W1 at *
  have BW := Aside0.mk (Bw.refl W1)
  have HT_ := Aside0.mk deliver1tab
  have HW_ := Aside0.mk deliver1bits
  refine start_ (n := 9) (S := fun w' => True) (ds := []) #[false, false, false, false, false, false, false, false, false] (by kernel_rfl) rfl rfl trivial (fun hHeld => ?_)
  refine pure_ (i := 0) (N := some 8) (v := ?_) (a' := ?_) #[true, false, false, false, false, false, false, false, false] rfl rfl (by kernel_rfl) (fun _ _ _ h => h) (Or.inl ⟨by rfl, ?_⟩) ?_ ?_
  rotate_left
  · intro w'
    go_simp
    with_reducible rfl
  rotate_left
  · simp only [Act.put, List.setIfInBounds_toArray, List.set_cons_zero, List.set_cons_succ, i64_w, i32_w]
    rfl
  refine pure_ (i := 3) (N := some 11) (v := ?_) (a' := ?_) #[true, false, false, true, false, false, false, false, false] rfl rfl (by kernel_rfl) (fun _ _ _ h => h) (Or.inl ⟨by rfl, ?_⟩) ?_ ?_
  rotate_left
  · intro w'
    go_simp
    with_reducible rfl
  rotate_left
  · simp only [Act.put, List.setIfInBounds_toArray, List.set_cons_zero, List.set_cons_succ, i64_w, i32_w]
    rfl
  refine inv_at [1, 2, 4, 5, 6, 7, 8] (fun a0_ b a w' => ∃ (κ : Nat → Nat) (z2 : Value) (z5 : Value) (gB : Nat) (m6_ : Value) (m7_ : Value), a = putSel a0_ b [(1, 9, .slice A s.g.length c), (2, 10, z2), (4, 12, .slice B s.e.length d), (5, 13, z5), (6, 14, m6_), (7, 5, m7_)] ∧ (Bw W1 w') ∧ (b 2 = true → Cn w' W1.heap.size κ 0 3 1 z2 s.g.length s.g) ∧ (b 5 = true → Cn w' W1.heap.size κ 1 34 2 z5 s.e.length (pkF s.e)) ∧ (b 7 = true → W1.heap.size ≤ gB) ∧ (b 7 = true → b 8 = false → w'.heap[gB]? = some (.cells #[.slice none 0 0, .slice none 0 0] 31 (0, 0))) ∧ (b 8 = true → w'.heap[gB]? = some (.cells #[z2, z5] 31 (0, 0))) ∧ (b 6 = true → (m6_ : Value) = .agg #[z2, z5]) ∧ (b 7 = true → (m7_ : Value) = .pointer (some ⟨gB, 0, none⟩))) HT_.out HW_.out (by kernel_rfl) (by kernel_rfl) ?_ ?_ ?_
  · exact ⟨fun _ => 0, .slice none 0 0, .slice none 0 0, 0, .bool false, .bool false, by simp only [putSel, Bool.false_eq_true, if_false], BW.out.trans (Bw.drawn ⟨⟨1, rfl⟩⟩), fun h_ => absurd h_ (by decide), fun h_ => absurd h_ (by decide), fun h_ => absurd h_ (by decide), fun h_ => absurd h_ (by decide), fun h_ => absurd h_ (by decide), fun h_ => absurd h_ (by decide), fun h_ => absurd h_ (by decide)⟩
  · skip
    clear BW
    refine steps_cons ?_ ?_
    · rintro b a w' ⟨κ, z2, z5, gB, m6_, m7_, ha, Q_BW, Q_R2, Q_R5, Q_GE, Q_BX, Q_BY, Q_X6_, Q_X7_⟩ hb_ hon hoff
      refine ⟨_, rfl, fun K hK => ?_⟩
      have e8 : a.tmps[8]? = some (.pointer (some ⟨w.heap.size, 0, none⟩)) := by rw [ha]; exact (putSel_off rfl).trans rfl
      replace ha := Aside0.mk ha
      have BW := Aside0.mk Q_BW
      have hc_ := pw_cell_below BW.out.out g0
      refine value_ (w1 := w') (v := .slice A s.g.length c) (by rfl) rfl ?_ ?_
      · go_simp
        (try simp only [i64_w])
        try rfl
      refine hK.out _ _ ⟨κ, z2, z5, gB, m6_, m7_, (by rw [ha.out]; exact putSel_upk 0 hb_ rfl rfl rfl), Q_BW, fun h0_ => absurd ((hoff 2 (by kernel_rfl)).symm.trans h0_) (by decide), fun h0_ => absurd ((hoff 5 (by kernel_rfl)).symm.trans h0_) (by decide), Q_GE, Q_BX, fun h0_ => absurd ((hoff 8 (by kernel_rfl)).symm.trans h0_) (by decide), fun h0_ => absurd ((hoff 6 (by kernel_rfl)).symm.trans h0_) (by decide), Q_X7_⟩
    refine steps_cons ?_ ?_
    · rintro b a w' ⟨κ, z2, z5, gB, m6_, m7_, ha, Q_BW, Q_R2, Q_R5, Q_GE, Q_BX, Q_BY, Q_X6_, Q_X7_⟩ hb_ hon hoff
      refine ⟨_, rfl, fun K hK => ?_⟩
      have e9 : a.tmps[9]? = some (.slice A s.g.length c) := by rw [ha]; exact putSel_on (e := (1, 9, .slice A s.g.length c)) 0 rfl rfl (hon 1 (by kernel_rfl)) rfl
      replace ha := Aside0.mk ha
      have BW := Aside0.mk Q_BW
      have hsz : W1.heap.size ≤ w'.heap.size := BW.out.size
      refine goes_ Try.func33 (by kernel_rfl) rfl #[.slice A s.g.length c] (by rfl) rfl rfl (by first | (simp only [List.map_toArray, List.map_cons, List.map_nil, Act.eval, Array.getD_eq_getD_getElem?, Option.getD_some, e9]; done) | (simp only [List.map_toArray, List.map_cons, List.map_nil, Act.eval, Array.getD_eq_getD_getElem?, Option.getD_some, e9]; rfl)) ?_
      refine (cloneInts A s.g.length c s.g _ ((r.to b0).to BW.out) (by omega)).mono ?_
      rintro e wL ⟨vL, rfl, oL, bL⟩
      refine ⟨_, rfl, ?_⟩
      refine hK.out _ _ ⟨(paint κ w'.heap.size 0), vL, z5, gB, m6_, m7_, (by rw [ha.out]; exact putSel_upk 1 hb_ rfl rfl rfl), BW.out.trans bL, fun _ => FO.cn (show FO _ _ 3 1 _ _ _ from ⟨oL.out⟩) hsz, fun h0_ => absurd ((hoff 5 (by kernel_rfl)).symm.trans h0_) (by decide), fun h0_ => (Q_GE h0_), fun h0_ h1_ => (bL.out.block _ (blk_lt (Q_BX h0_ h1_))).trans (Q_BX h0_ h1_), fun h0_ => absurd ((hoff 8 (by kernel_rfl)).symm.trans h0_) (by decide), fun h0_ => absurd ((hoff 6 (by kernel_rfl)).symm.trans h0_) (by decide), Q_X7_⟩
    refine steps_cons ?_ ?_
    · rintro b a w' ⟨κ, z2, z5, gB, m6_, m7_, ha, Q_BW, Q_R2, Q_R5, Q_GE, Q_BX, Q_BY, Q_X6_, Q_X7_⟩ hb_ hon hoff
      refine ⟨_, rfl, fun K hK => ?_⟩
      have e11 : a.tmps[11]? = some (.pointer (some ⟨w.heap.size, 1, none⟩)) := by rw [ha]; exact (putSel_off rfl).trans rfl
      replace ha := Aside0.mk ha
      have BW := Aside0.mk Q_BW
      have hc_ := pw_cell_below BW.out.out g1
      refine value_ (w1 := w') (v := .slice B s.e.length d) (by rfl) rfl ?_ ?_
      · go_simp
        (try simp only [i64_w])
        try rfl
      refine hK.out _ _ ⟨κ, z2, z5, gB, m6_, m7_, (by rw [ha.out]; exact putSel_upk 2 hb_ rfl rfl rfl), Q_BW, Q_R2, fun h0_ => absurd ((hoff 5 (by kernel_rfl)).symm.trans h0_) (by decide), Q_GE, Q_BX, fun h0_ => absurd ((hoff 8 (by kernel_rfl)).symm.trans h0_) (by decide), fun h0_ => absurd ((hoff 6 (by kernel_rfl)).symm.trans h0_) (by decide), Q_X7_⟩
    refine steps_cons ?_ ?_
    · rintro b a w' ⟨κ, z2, z5, gB, m6_, m7_, ha, Q_BW, Q_R2, Q_R5, Q_GE, Q_BX, Q_BY, Q_X6_, Q_X7_⟩ hb_ hon hoff
      refine ⟨_, rfl, fun K hK => ?_⟩
      have e12 : a.tmps[12]? = some (.slice B s.e.length d) := by rw [ha]; exact putSel_on (e := (4, 12, .slice B s.e.length d)) 2 rfl rfl (hon 4 (by kernel_rfl)) rfl
      replace ha := Aside0.mk ha
      have BW := Aside0.mk Q_BW
      have R2 := Aside0.mk (Q_R2 (hon 2 (by kernel_rfl)))
      have hsz : W1.heap.size ≤ w'.heap.size := BW.out.size
      refine goes_ Try.func34 (by kernel_rfl) rfl #[.slice B s.e.length d] (by rfl) rfl rfl (by first | (simp only [List.map_toArray, List.map_cons, List.map_nil, Act.eval, Array.getD_eq_getD_getElem?, Option.getD_some, e12]; done) | (simp only [List.map_toArray, List.map_cons, List.map_nil, Act.eval, Array.getD_eq_getD_getElem?, Option.getD_some, e12]; rfl)) ?_
      refine (clonePks B s.e.length d s.e _ ((q.to b0).to BW.out) (by omega)).mono ?_
      rintro e wL ⟨vL, rfl, oL, bL⟩
      refine ⟨_, rfl, ?_⟩
      refine hK.out _ _ ⟨(paint κ w'.heap.size 1), z2, vL, gB, m6_, m7_, (by rw [ha.out]; exact putSel_upk 3 hb_ rfl rfl rfl), BW.out.trans bL, fun _ => R2.out.to bL 1, fun _ => FO.cn oL hsz, fun h0_ => (Q_GE h0_), fun h0_ h1_ => (bL.out.block _ (blk_lt (Q_BX h0_ h1_))).trans (Q_BX h0_ h1_), fun h0_ => absurd ((hoff 8 (by kernel_rfl)).symm.trans h0_) (by decide), fun h0_ => absurd ((hoff 6 (by kernel_rfl)).symm.trans h0_) (by decide), Q_X7_⟩
    refine steps_cons ?_ ?_
    · rintro b a w' ⟨κ, z2, z5, gB, m6_, m7_, ha, Q_BW, Q_R2, Q_R5, Q_GE, Q_BX, Q_BY, Q_X6_, Q_X7_⟩ hb_ hon hoff
      refine ⟨_, rfl, fun K hK => ?_⟩
      have e10 : a.tmps[10]? = some (z2) := by rw [ha]; exact putSel_on (e := (2, 10, z2)) 1 rfl rfl (hon 2 (by kernel_rfl)) rfl
      have e13 : a.tmps[13]? = some (z5) := by rw [ha]; exact putSel_on (e := (5, 13, z5)) 3 rfl rfl (hon 5 (by kernel_rfl)) rfl
      replace ha := Aside0.mk ha
      have BW := Aside0.mk Q_BW
      have R2 := Aside0.mk (Q_R2 (hon 2 (by kernel_rfl)))
      have R5 := Aside0.mk (Q_R5 (hon 5 (by kernel_rfl)))
      obtain ⟨Xz2_, yz2_, e_, _, _⟩ := R2.out.o.reads
      subst e_
      obtain ⟨Xz5_, yz5_, e_, _, _⟩ := R5.out.o.reads
      subst e_
      refine value_ (w1 := w') (v := .agg #[(.slice Xz2_ s.g.length yz2_), (.slice Xz5_ s.e.length yz5_)]) (by rfl) rfl ?_ ?_
      · go_simp
        (try simp only [i64_w])
        try rfl
      refine hK.out _ _ ⟨κ, (.slice Xz2_ s.g.length yz2_), (.slice Xz5_ s.e.length yz5_), gB, (.agg #[(.slice Xz2_ s.g.length yz2_), (.slice Xz5_ s.e.length yz5_)]), m7_, (by rw [ha.out]; exact putSel_upk 4 hb_ rfl rfl rfl), Q_BW, Q_R2, Q_R5, Q_GE, Q_BX, fun h0_ => absurd ((hoff 8 (by kernel_rfl)).symm.trans h0_) (by decide), fun _ => rfl, Q_X7_⟩
    refine steps_cons ?_ ?_
    · rintro b a w' ⟨κ, z2, z5, gB, m6_, m7_, ha, Q_BW, Q_R2, Q_R5, Q_GE, Q_BX, Q_BY, Q_X6_, Q_X7_⟩ hb_ hon hoff
      refine ⟨_, rfl, fun K hK => ?_⟩
      replace ha := Aside0.mk ha
      have BW := Aside0.mk Q_BW
      refine box_step ?hg (N := 5) ?hd (cs := #[.slice none 0 0, .slice none 0 0]) (t := 31) ?hr ?_; (case hd => rfl); (case hg => rfl); (case hr => first | (go_simp; done) | (go_simp; rfl))
      intro gN hgN wN hbox hb5
      refine hK.out _ _ ⟨(paint κ w'.heap.size 5), z2, z5, gN, m6_, (.pointer (some ⟨gN, 0, none⟩)), (by rw [ha.out]; exact putSel_upk 5 hb_ rfl rfl rfl), BW.out.trans (⟨hb5⟩ : Bw w' wN), fun h0_ => (Q_R2 h0_).to (⟨hb5⟩ : Bw w' wN) 5, fun h0_ => (Q_R5 h0_).to (⟨hb5⟩ : Bw w' wN) 5, fun _ => by rw [hgN]; exact BW.out.size, fun _ _ => hbox, fun h0_ => absurd ((hoff 8 (by kernel_rfl)).symm.trans h0_) (by decide), Q_X6_, fun _ => rfl⟩
    refine steps_cons ?_ ?_
    · rintro b a w' ⟨κ, z2, z5, gB, m6_, m7_, ha, Q_BW, Q_R2, Q_R5, Q_GE, Q_BX, Q_BY, Q_X6_, Q_X7_⟩ hb_ hon hoff
      refine ⟨_, rfl, fun K hK => ?_⟩
      have e5 : a.tmps[5]? = some (m7_) := by rw [ha]; exact putSel_on (e := (7, 5, m7_)) 5 rfl rfl (hon 7 (by kernel_rfl)) rfl
      rw [Q_X7_ (hon 7 (by kernel_rfl))] at e5
      have e14 : a.tmps[14]? = some (m6_) := by rw [ha]; exact putSel_on (e := (6, 14, m6_)) 4 rfl rfl (hon 6 (by kernel_rfl)) rfl
      rw [Q_X6_ (hon 6 (by kernel_rfl))] at e14
      replace ha := Aside0.mk ha
      have BW := Aside0.mk Q_BW
      have R2 := Aside0.mk (Q_R2 (hon 2 (by kernel_rfl)))
      have R5 := Aside0.mk (Q_R5 (hon 5 (by kernel_rfl)))
      have GE := Aside0.mk (Q_GE (hon 7 (by kernel_rfl)))
      have BX := Aside0.mk (Q_BX (hon 7 (by kernel_rfl)) hb_)
      obtain ⟨Xz2_, yz2_, e_, _, _⟩ := R2.out.o.reads
      subst e_
      obtain ⟨Xz5_, yz5_, e_, _, _⟩ := R5.out.o.reads
      subst e_
      have hRk := BX.out
      have hs0_ := (blk_cell hRk 0).trans (show _ = some (Value.slice none 0 0) from rfl)
      have hf0_ := blk_frozen hRk 0
      have hs1_ := (blk_cell hRk 1).trans (show _ = some (Value.slice none 0 0) from rfl)
      have hf1_ := blk_frozen hRk 1
      have hwi : Wi w' ((w'.setCell ⟨gB, 0, none⟩ ((.slice Xz2_ s.g.length yz2_))).setCell ⟨gB, 1, none⟩ ((.slice Xz5_ s.e.length yz5_))) (gB) (gB + 1) := ((Wi.refl w' (gB) (gB + 1)).trans (Wi.set1 _ _ 0 ((.slice Xz2_ s.g.length yz2_)))).trans (Wi.set1 _ _ 1 ((.slice Xz5_ s.e.length yz5_)))
      have hFF : ((w'.setCell ⟨gB, 0, none⟩ ((.slice Xz2_ s.g.length yz2_))).setCell ⟨gB, 1, none⟩ ((.slice Xz5_ s.e.length yz5_))).heap[gB]? = some (.cells #[(.slice Xz2_ s.g.length yz2_), (.slice Xz5_ s.e.length yz5_)] 31 (0, 0)) := (blk_set (blk_set hRk 0 ((.slice Xz2_ s.g.length yz2_))) 1 ((.slice Xz5_ s.e.length yz5_)))
      have hwi2 := Aside0.mk hwi
      have hFF2 := Aside0.mk hFF
      clear hwi hFF
      refine skip_ (w1 := ?_) (by rfl) rfl ?_ ?_
      rotate_left
      · go_simp
        rfl
      have hwi := hwi2.out
      refine hK.out _ _ ⟨κ, (.slice Xz2_ s.g.length yz2_), (.slice Xz5_ s.e.length yz5_), gB, m6_, m7_, (by rw [ha.out]; exact putSel_none (v := undef) rfl), BW.out.then_wi hwi GE.out, fun _ => R2.out.putK BX.out (by decide) hwi, fun _ => R5.out.putK BX.out (by decide) hwi, fun _ => GE.out, fun _ h1_ => absurd ((up_self b 8).symm.trans h1_) (by decide), fun _ => hFF2.out, Q_X6_, Q_X7_⟩
    exact steps_nil
  rintro b a w' hall ⟨κ, z2, z5, gB, m6_, m7_, ha, Q_BW, Q_R2, Q_R5, Q_GE, Q_BX, Q_BY, Q_X6_, Q_X7_⟩
  clear BW
  have hb1_ := hall 1 (by kernel_rfl)
  have hb2_ := hall 2 (by kernel_rfl)
  have hb4_ := hall 4 (by kernel_rfl)
  have hb5_ := hall 5 (by kernel_rfl)
  have hb6_ := hall 6 (by kernel_rfl)
  have hb7_ := hall 7 (by kernel_rfl)
  have hb8_ := hall 8 (by kernel_rfl)
  subst ha
  obtain rfl := Q_X6_ hb6_
  obtain rfl := Q_X7_ hb7_
  simp only [putSel, hb1_, hb2_, hb4_, hb5_, hb6_, hb7_, hb8_, if_true, Act.put, List.setIfInBounds_toArray, List.set_cons_zero, List.set_cons_succ]
  have BW := Aside0.mk Q_BW
  clear Q_BW
  have R2 := Aside0.mk (Q_R2 hb2_)
  clear Q_R2
  have R5 := Aside0.mk (Q_R5 hb5_)
  clear Q_R5
  have GE := Aside0.mk (Q_GE hb7_)
  clear Q_GE
  clear Q_BX
  have BY := Aside0.mk (Q_BY hb8_)
  clear Q_BY
  clear hall hb1_ hb2_ hb4_ hb5_ hb6_ hb7_ hb8_
  obtain ⟨X0, y0, rfl, hy0, _⟩ := R2.out.o.reads
  obtain ⟨X1, y1, rfl, hy1, re1⟩ := R5.out.o.reads
  have HD := hid (show DlS W1 w' gB (.slice X0 s.g.length y0) (.slice X1 s.e.length y1) s from ⟨BY.out, R2.out.o, R5.out.o, R2.out.apart R5.out (by decide), BW.out, GE.out⟩)
  have HLT := hid (show w.heap.size + 1 + 1 < gB by have := GE.out; omega)
  have HB01 := hid b0
  have HR1 := hid hR
  have HP1 := hid hP
  have HX1 := hid hX
  have HY1 := hid hy1
  clear BW R2 R5 GE BY hR hP hX hz3 b0 hy0 hy1 re1 g0 g1 HT_ HW_
  generalize w' = W2 at *
  have hX_ := (HD.out.bw.out.block _ (blk_lt HX1.out)).trans HX1.out
  have hP_ := (HD.out.bw.out.block _ (blk_lt HP1.out)).trans HP1.out
  have g0 := (blk_cell hX_ 0).trans (show _ = some (Value.slice A s.g.length c) from rfl)
  have g1 := (blk_cell hX_ 1).trans (show _ = some (Value.slice B s.e.length d) from rfl)
  have p0 := (blk_cell hP_ 0).trans (show _ = some (Value.int .i64 pq) from rfl)
  have p1 := (blk_cell hP_ 1).trans (show _ = some (Value.int .i64 pv) from rfl)
  clear hX_ hP_
  go_upto_region 2 with fail
  go_wp2_with fail
  refine (impl_InboxOk _ s _ (HX.out.to (HB01.out.trans HD.out.bw))).mono ?_
  rintro e w3 ⟨rfl, b3⟩
  replace HD := hid (HD.out.to b3)
  clear g0 g1 p0 p1 b3
  have hX_ := (HD.out.bw.out.block _ (blk_lt HX1.out)).trans HX1.out
  have hP_ := (HD.out.bw.out.block _ (blk_lt HP1.out)).trans HP1.out
  have g0 := (blk_cell hX_ 0).trans (show _ = some (Value.slice A s.g.length c) from rfl)
  have g1 := (blk_cell hX_ 1).trans (show _ = some (Value.slice B s.e.length d) from rfl)
  have p0 := (blk_cell hP_ 0).trans (show _ = some (Value.int .i64 pq) from rfl)
  have p1 := (blk_cell hP_ 1).trans (show _ = some (Value.int .i64 pv) from rfl)
  clear hX_ hP_
  by_cases hok : ibOk s = true
  case neg =>
    have HZ := hid (show s = delS s ⟨pq, pv⟩ from (delS_same fun h => hok h.1).symm)
    have hof : ibOk s = false := by simpa using hok
    rw [hof]
    clear hok hof
    have HDE := hid (HD.out.less HB01.out)
    have HRB := hid ((HD.out.bw.out.block _ (blk_lt HR1.out)).trans HR1.out)
    have k0 := (blk_cell HDE.out.bx 0).trans (show _ = some (Value.slice X0 s.g.length y0) from rfl)
    have k1 := (blk_cell HDE.out.bx 1).trans (show _ = some (Value.slice X1 s.e.length y1) from rfl)
    have s0 := (blk_cell HRB.out 0).trans (show _ = some (Value.slice none 0 0) from rfl)
    have s1 := (blk_cell HRB.out 1).trans (show _ = some (Value.slice none 0 0) from rfl)
    have f0 := blk_frozen HRB.out 0
    have f1 := blk_frozen HRB.out 1
    have HF := hid (show ((w3.setCell ⟨(w.heap.size + 1 + 1), 0, none⟩ (.slice X0 s.g.length y0)).setCell ⟨(w.heap.size + 1 + 1), 1, none⟩ (.slice X1 s.e.length y1)).heap[(w.heap.size + 1 + 1)]? = some (.cells #[(.slice X0 s.g.length y0), (.slice X1 s.e.length y1)] 31 (0, 0)) from blk_set (blk_set HRB.out 0 _) 1 _)
    have HO := hid (DlS.out HDE.out HRB.out (by have := HLT.out; omega) (show Wi w3 ((w3.setCell ⟨(w.heap.size + 1 + 1), 0, none⟩ (.slice X0 s.g.length y0)).setCell ⟨(w.heap.size + 1 + 1), 1, none⟩ (.slice X1 s.e.length y1)) (w.heap.size + 1 + 1) ((w.heap.size + 1 + 1) + 1) from ((Wi.refl w3 _ _).trans (Wi.set1 _ _ 0 _)).trans (Wi.set1 _ _ 1 _)) (by omega))
    go_wp2
    refine bodyPost_ret (results_cell_row rfl _ _ (w.heap.size + 1 + 1) 31 #[(.slice X0 s.g.length y0), (.slice X1 s.e.length y1)] (0, 0) _ rfl HF.out Try.underlying31 rfl (by kernel_rfl)) rfl ?_
    exact ⟨_, _, rfl, by rw [← HZ.out]; exact HO.out.ib, HO.out.bw⟩
  have hol := ibOk_len hok
  rw [hok]
  by_cases hg : s.g.length < 1000
  case neg =>
    have HZ := hid (show s = delS s ⟨pq, pv⟩ from (delS_same fun h => hg h.2).symm)
    have t1 : ((s.g.length : Int) == 1000) = true := by simp; omega
    have HOK := hid hok
    clear hok hol hg
    have HDE := hid (HD.out.less HB01.out)
    have HRB := hid ((HD.out.bw.out.block _ (blk_lt HR1.out)).trans HR1.out)
    have k0 := (blk_cell HDE.out.bx 0).trans (show _ = some (Value.slice X0 s.g.length y0) from rfl)
    have k1 := (blk_cell HDE.out.bx 1).trans (show _ = some (Value.slice X1 s.e.length y1) from rfl)
    have s0 := (blk_cell HRB.out 0).trans (show _ = some (Value.slice none 0 0) from rfl)
    have s1 := (blk_cell HRB.out 1).trans (show _ = some (Value.slice none 0 0) from rfl)
    have f0 := blk_frozen HRB.out 0
    have f1 := blk_frozen HRB.out 1
    have HF := hid (show ((w3.setCell ⟨(w.heap.size + 1 + 1), 0, none⟩ (.slice X0 s.g.length y0)).setCell ⟨(w.heap.size + 1 + 1), 1, none⟩ (.slice X1 s.e.length y1)).heap[(w.heap.size + 1 + 1)]? = some (.cells #[(.slice X0 s.g.length y0), (.slice X1 s.e.length y1)] 31 (0, 0)) from blk_set (blk_set HRB.out 0 _) 1 _)
    have HO := hid (DlS.out HDE.out HRB.out (by have := HLT.out; omega) (show Wi w3 ((w3.setCell ⟨(w.heap.size + 1 + 1), 0, none⟩ (.slice X0 s.g.length y0)).setCell ⟨(w.heap.size + 1 + 1), 1, none⟩ (.slice X1 s.e.length y1)) (w.heap.size + 1 + 1) ((w.heap.size + 1 + 1) + 1) from ((Wi.refl w3 _ _).trans (Wi.set1 _ _ 0 _)).trans (Wi.set1 _ _ 1 _)) (by omega))
    go_wp2
    refine bodyPost_ret (results_cell_row rfl _ _ (w.heap.size + 1 + 1) 31 #[(.slice X0 s.g.length y0), (.slice X1 s.e.length y1)] (0, 0) _ rfl HF.out Try.underlying31 rfl (by kernel_rfl)) rfl ?_
    exact ⟨_, _, rfl, by rw [← HZ.out]; exact HO.out.ib, HO.out.bw⟩
  have t1 : ((s.g.length : Int) == 1000) = false := by simp; omega
  have HOK := hid hok
  have HGL := hid hg
  have HEL := hid hol.2
  have HOL := hid hol
  clear hol
  by_cases heq : pq = (s.g.length : Int)
  case pos =>
    have HZ := hid (show drain (s.g ++ [pv]) s.e = delS s ⟨pq, pv⟩ by rw [delS, if_pos ⟨HOK.out, HGL.out⟩, if_pos heq])
    have t2 : (pq == (s.g.length : Int)) = true := by simp [heq]
    clear hok hg heq
    obtain ⟨R, HR⟩ : ∃ R, Hid (drain (s.g ++ [pv]) s.e = R) := ⟨_, hid rfl⟩
    rw [HR.out] at HZ
    go_wp2_with fail
    obtain ⟨B9, d9, e9, hd9, re9⟩ := (show PkO _ _ _ _ _ from HD.out.oe).reads
    cases e9
    refine (impl_take W1 gB (.slice X0 s.g.length y0) X1 y1 s.g s.e pv _ (HD.out.tk hd9 ⟨re9⟩) (by have := HOL.out; omega)).mono ?_
    rw [HR.out]
    rintro e w4 ⟨u, rfl, vg', B', d', T4⟩
    have HT4 := hid T4
    obtain ⟨X3, y3, rfl, _, _⟩ := FO.reads (t := 3) (k := 1) ⟨HT4.out.og.out⟩
    have k1 := (blk_cell HT4.out.bx 1).trans (show _ = some (Value.slice B' R.e.length d') from rfl)
    clear T4 t1 t2 g0 g1 p0 p1
    go_wp2_with fail
    refine (clonePks B' R.e.length d' R.e _ HT4.out.re (by have := HOL.out; have := drain_len s.e (s.g ++ [pv]); rw [HR.out] at this; simp at this; omega)).mono ?_
    rintro e w5 ⟨ve, rfl, oe, b5⟩
    obtain ⟨X2, y2, rfl, _, _⟩ := oe.reads
    have HD5 := hid (HT4.out.dl b5 oe)
    replace k1 := pw_cell_below b5.out k1
    have kf := blk_frozen (HT4.out.to b5).bx 1
    clear b5 oe
    go_upto_region 11 with fail
    clear k1 kf
    generalize (w5.setCell ⟨gB, 1, none⟩ (.slice X2 R.e.length y2)) = w6 at *
    have HDE := hid (HD5.out.less HB01.out)
    have HRB := hid ((HD5.out.bw.out.block _ (blk_lt HR1.out)).trans HR1.out)
    have k0 := (blk_cell HDE.out.bx 0).trans (show _ = some (Value.slice X3 R.g.length y3) from rfl)
    have k1 := (blk_cell HDE.out.bx 1).trans (show _ = some (Value.slice X2 R.e.length y2) from rfl)
    have s0 := (blk_cell HRB.out 0).trans (show _ = some (Value.slice none 0 0) from rfl)
    have s1 := (blk_cell HRB.out 1).trans (show _ = some (Value.slice none 0 0) from rfl)
    have f0 := blk_frozen HRB.out 0
    have f1 := blk_frozen HRB.out 1
    have HF := hid (show ((w6.setCell ⟨(w.heap.size + 1 + 1), 0, none⟩ (.slice X3 R.g.length y3)).setCell ⟨(w.heap.size + 1 + 1), 1, none⟩ (.slice X2 R.e.length y2)).heap[(w.heap.size + 1 + 1)]? = some (.cells #[(.slice X3 R.g.length y3), (.slice X2 R.e.length y2)] 31 (0, 0)) from blk_set (blk_set HRB.out 0 _) 1 _)
    have HO := hid (DlS.out HDE.out HRB.out (by have := HLT.out; omega) (show Wi w6 ((w6.setCell ⟨(w.heap.size + 1 + 1), 0, none⟩ (.slice X3 R.g.length y3)).setCell ⟨(w.heap.size + 1 + 1), 1, none⟩ (.slice X2 R.e.length y2)) (w.heap.size + 1 + 1) ((w.heap.size + 1 + 1) + 1) from ((Wi.refl w6 _ _).trans (Wi.set1 _ _ 0 _)).trans (Wi.set1 _ _ 1 _)) (by omega))
    go_wp2
    refine bodyPost_ret (results_cell_row rfl _ _ (w.heap.size + 1 + 1) 31 #[(.slice X3 R.g.length y3), (.slice X2 R.e.length y2)] (0, 0) _ rfl HF.out Try.underlying31 rfl (by kernel_rfl)) rfl ?_
    exact ⟨_, _, rfl, by rw [← HZ.out]; exact HO.out.ib, HO.out.bw⟩
  have t2 : (pq == (s.g.length : Int)) = false := by simp [heq]
  by_cases hlt : (s.g.length : Int) < pq
  case neg =>
    have hin : ¬ ((s.g.length : Int) < pq ∧ s.e.length < 16 ∧ hasP s.e pq = false) := fun h => hlt h.1
    have HZ := hid (show s = delS s ⟨pq, pv⟩ by rw [delS, if_pos ⟨HOK.out, HGL.out⟩, if_neg heq, if_neg hin])
    have t3 : decide (pq > (s.g.length : Int)) = false := decide_eq_false hlt
    have t3' : decide ((s.g.length : Int) < pq) = false := decide_eq_false hlt
    clear hok hg heq hin
    clear hlt
    have HDE := hid (HD.out.less HB01.out)
    have HRB := hid ((HD.out.bw.out.block _ (blk_lt HR1.out)).trans HR1.out)
    have k0 := (blk_cell HDE.out.bx 0).trans (show _ = some (Value.slice X0 s.g.length y0) from rfl)
    have k1 := (blk_cell HDE.out.bx 1).trans (show _ = some (Value.slice X1 s.e.length y1) from rfl)
    have s0 := (blk_cell HRB.out 0).trans (show _ = some (Value.slice none 0 0) from rfl)
    have s1 := (blk_cell HRB.out 1).trans (show _ = some (Value.slice none 0 0) from rfl)
    have f0 := blk_frozen HRB.out 0
    have f1 := blk_frozen HRB.out 1
    have HF := hid (show ((w3.setCell ⟨(w.heap.size + 1 + 1), 0, none⟩ (.slice X0 s.g.length y0)).setCell ⟨(w.heap.size + 1 + 1), 1, none⟩ (.slice X1 s.e.length y1)).heap[(w.heap.size + 1 + 1)]? = some (.cells #[(.slice X0 s.g.length y0), (.slice X1 s.e.length y1)] 31 (0, 0)) from blk_set (blk_set HRB.out 0 _) 1 _)
    have HO := hid (DlS.out HDE.out HRB.out (by have := HLT.out; omega) (show Wi w3 ((w3.setCell ⟨(w.heap.size + 1 + 1), 0, none⟩ (.slice X0 s.g.length y0)).setCell ⟨(w.heap.size + 1 + 1), 1, none⟩ (.slice X1 s.e.length y1)) (w.heap.size + 1 + 1) ((w.heap.size + 1 + 1) + 1) from ((Wi.refl w3 _ _).trans (Wi.set1 _ _ 0 _)).trans (Wi.set1 _ _ 1 _)) (by omega))
    go_wp2
    refine bodyPost_ret (results_cell_row rfl _ _ (w.heap.size + 1 + 1) 31 #[(.slice X0 s.g.length y0), (.slice X1 s.e.length y1)] (0, 0) _ rfl HF.out Try.underlying31 rfl (by kernel_rfl)) rfl ?_
    exact ⟨_, _, rfl, by rw [← HZ.out]; exact HO.out.ib, HO.out.bw⟩
  have t3 : decide (pq > (s.g.length : Int)) = true := decide_eq_true hlt
  have t3' : decide ((s.g.length : Int) < pq) = true := decide_eq_true hlt
  by_cases hle : s.e.length < 16
  case neg =>
    have hin : ¬ ((s.g.length : Int) < pq ∧ s.e.length < 16 ∧ hasP s.e pq = false) := fun h => hle h.2.1
    have HZ := hid (show s = delS s ⟨pq, pv⟩ by rw [delS, if_pos ⟨HOK.out, HGL.out⟩, if_neg heq, if_neg hin])
    have t4 : decide ((s.e.length : Int) < 16) = false := decide_eq_false (by omega)
    have t4' : decide (s.e.length < 16) = false := decide_eq_false (by omega)
    clear hok hg heq hin
    clear hlt hle
    have HDE := hid (HD.out.less HB01.out)
    have HRB := hid ((HD.out.bw.out.block _ (blk_lt HR1.out)).trans HR1.out)
    have k0 := (blk_cell HDE.out.bx 0).trans (show _ = some (Value.slice X0 s.g.length y0) from rfl)
    have k1 := (blk_cell HDE.out.bx 1).trans (show _ = some (Value.slice X1 s.e.length y1) from rfl)
    have s0 := (blk_cell HRB.out 0).trans (show _ = some (Value.slice none 0 0) from rfl)
    have s1 := (blk_cell HRB.out 1).trans (show _ = some (Value.slice none 0 0) from rfl)
    have f0 := blk_frozen HRB.out 0
    have f1 := blk_frozen HRB.out 1
    have HF := hid (show ((w3.setCell ⟨(w.heap.size + 1 + 1), 0, none⟩ (.slice X0 s.g.length y0)).setCell ⟨(w.heap.size + 1 + 1), 1, none⟩ (.slice X1 s.e.length y1)).heap[(w.heap.size + 1 + 1)]? = some (.cells #[(.slice X0 s.g.length y0), (.slice X1 s.e.length y1)] 31 (0, 0)) from blk_set (blk_set HRB.out 0 _) 1 _)
    have HO := hid (DlS.out HDE.out HRB.out (by have := HLT.out; omega) (show Wi w3 ((w3.setCell ⟨(w.heap.size + 1 + 1), 0, none⟩ (.slice X0 s.g.length y0)).setCell ⟨(w.heap.size + 1 + 1), 1, none⟩ (.slice X1 s.e.length y1)) (w.heap.size + 1 + 1) ((w.heap.size + 1 + 1) + 1) from ((Wi.refl w3 _ _).trans (Wi.set1 _ _ 0 _)).trans (Wi.set1 _ _ 1 _)) (by omega))
    go_wp2
    refine bodyPost_ret (results_cell_row rfl _ _ (w.heap.size + 1 + 1) 31 #[(.slice X0 s.g.length y0), (.slice X1 s.e.length y1)] (0, 0) _ rfl HF.out Try.underlying31 rfl (by kernel_rfl)) rfl ?_
    exact ⟨_, _, rfl, by rw [← HZ.out]; exact HO.out.ib, HO.out.bw⟩
  have t4 : decide ((s.e.length : Int) < 16) = true := decide_eq_true (by omega)
  have t4' : decide (s.e.length < 16) = true := decide_eq_true hle
  go_wp2_with fail
  refine (impl_early _ s pq _ (HX.out.to (HB01.out.trans HD.out.bw)) HOK.out).mono ?_
  rintro e w4 ⟨rfl, b4⟩
  replace HD := hid (HD.out.to b4)
  clear g0 g1 p0 p1 b4
  have hX_ := (HD.out.bw.out.block _ (blk_lt HX1.out)).trans HX1.out
  have hP_ := (HD.out.bw.out.block _ (blk_lt HP1.out)).trans HP1.out
  have g0 := (blk_cell hX_ 0).trans (show _ = some (Value.slice A s.g.length c) from rfl)
  have g1 := (blk_cell hX_ 1).trans (show _ = some (Value.slice B s.e.length d) from rfl)
  have p0 := (blk_cell hP_ 0).trans (show _ = some (Value.int .i64 pq) from rfl)
  have p1 := (blk_cell hP_ 1).trans (show _ = some (Value.int .i64 pv) from rfl)
  clear hX_ hP_
  obtain ⟨i, hi⟩ : ∃ i, posP s.e pq = i := ⟨_, rfl⟩
  have hil : i ≤ s.e.length := by rw [← hi]; exact posP_le _ _
  obtain ⟨b, hb⟩ : ∃ b, hasP s.e pq = b := ⟨_, rfl⟩
  have hb2 : (decide (posP s.e pq < s.e.length) && ((gp s.e (posP s.e pq)).q == pq)) = b := hb
  rw [hb2, hi]
  clear hb2
  cases b
  case true =>
    have hin : ¬ ((s.g.length : Int) < pq ∧ s.e.length < 16 ∧ hasP s.e pq = false) := fun h => by rw [hb] at h; exact absurd h.2.2 (by decide)
    have HZ := hid (show s = delS s ⟨pq, pv⟩ by rw [delS, if_pos ⟨HOK.out, HGL.out⟩, if_neg heq, if_neg hin])
    clear hok hg heq hin
    clear hlt hle hb hi t1 t2 t3 t3' t4 t4'
    have HDE := hid (HD.out.less HB01.out)
    have HRB := hid ((HD.out.bw.out.block _ (blk_lt HR1.out)).trans HR1.out)
    have k0 := (blk_cell HDE.out.bx 0).trans (show _ = some (Value.slice X0 s.g.length y0) from rfl)
    have k1 := (blk_cell HDE.out.bx 1).trans (show _ = some (Value.slice X1 s.e.length y1) from rfl)
    have s0 := (blk_cell HRB.out 0).trans (show _ = some (Value.slice none 0 0) from rfl)
    have s1 := (blk_cell HRB.out 1).trans (show _ = some (Value.slice none 0 0) from rfl)
    have f0 := blk_frozen HRB.out 0
    have f1 := blk_frozen HRB.out 1
    have HF := hid (show ((w4.setCell ⟨(w.heap.size + 1 + 1), 0, none⟩ (.slice X0 s.g.length y0)).setCell ⟨(w.heap.size + 1 + 1), 1, none⟩ (.slice X1 s.e.length y1)).heap[(w.heap.size + 1 + 1)]? = some (.cells #[(.slice X0 s.g.length y0), (.slice X1 s.e.length y1)] 31 (0, 0)) from blk_set (blk_set HRB.out 0 _) 1 _)
    have HO := hid (DlS.out HDE.out HRB.out (by have := HLT.out; omega) (show Wi w4 ((w4.setCell ⟨(w.heap.size + 1 + 1), 0, none⟩ (.slice X0 s.g.length y0)).setCell ⟨(w.heap.size + 1 + 1), 1, none⟩ (.slice X1 s.e.length y1)) (w.heap.size + 1 + 1) ((w.heap.size + 1 + 1) + 1) from ((Wi.refl w4 _ _).trans (Wi.set1 _ _ 0 _)).trans (Wi.set1 _ _ 1 _)) (by omega))
    go_wp2
    refine bodyPost_ret (results_cell_row rfl _ _ (w.heap.size + 1 + 1) 31 #[(.slice X0 s.g.length y0), (.slice X1 s.e.length y1)] (0, 0) _ rfl HF.out Try.underlying31 rfl (by kernel_rfl)) rfl ?_
    exact ⟨_, _, rfl, by rw [← HZ.out]; exact HO.out.ib, HO.out.bw⟩
  have HZ := hid (show (⟨s.g, insS s.e ⟨pq, pv⟩⟩ : Ib) = delS s ⟨pq, pv⟩ by rw [delS, if_pos ⟨HOK.out, HGL.out⟩, if_neg heq, if_pos ⟨hlt, hle, hb⟩])
  have HI := hid hi
  have HIL := hid hil
  have HLE := hid hle
  clear hok hg heq hlt hle hb hi hil t1 t2 t3 t3' t4 t4'
  have k1 := (blk_cell HD.out.bx 1).trans (show _ = some (Value.slice X1 s.e.length y1) from rfl)
  go_upto_region 10 with fail
  go_wp2_with fail
  have bL := Bw.box1 w4 (.cells #[.int .i64 pq, .int .i64 pv] 34)
  have hgv := heap_alloc_new w4 (.cells #[.int .i64 pq, .int .i64 pv] 34 (0, 0))
  have HDL := hid (HD.out.to bL)
  refine (insertPk W1.heap.size s.e.length i w4.heap.size (.slice X1 s.e.length y1) s.e ⟨pq, pv⟩ _ HDL.out.oe HDL.out.bw.size HIL.out (by have := HLE.out; omega) hgv (fun q hq e => by have := own_lt HD.out.oe.out q hq; omega)).mono ?_
  rintro e w5 ⟨v5, rfl, o5, g5, a5⟩
  have o6 : PkO w5 W1.heap.size v5 (insS s.e ⟨pq, pv⟩).length (insS s.e ⟨pq, pv⟩) := by
    rw [insS_len]
    have h := o5
    rw [← HI.out] at h
    exact h
  obtain ⟨X2, y2, rfl, _, _⟩ := o6.reads
  have HD5 := hid (HDL.out.ins o6 g5 a5)
  have kb := blk_grown HDL.out.bx g5 (own_ne HDL.out.oe.out HDL.out.bx (by decide))
  have kk := (blk_cell kb 1).trans (show _ = some (Value.slice X1 s.e.length y1) from rfl)
  have kf := blk_frozen kb 1
  clear bL hgv HDL o5 o6 g5 a5 kb k1 g0 g1 p0 p1
  go_upto_region 11 with fail
  clear kk kf
  generalize (w5.setCell ⟨gB, 1, none⟩ (.slice X2 (insS s.e ⟨pq, pv⟩).length y2)) = w6 at *
  have HDE := hid (HD5.out.less HB01.out)
  have HRB := hid ((HD5.out.bw.out.block _ (blk_lt HR1.out)).trans HR1.out)
  have k0 := (blk_cell HDE.out.bx 0).trans (show _ = some (Value.slice X0 s.g.length y0) from rfl)
  have k1 := (blk_cell HDE.out.bx 1).trans (show _ = some (Value.slice X2 (insS s.e ⟨pq, pv⟩).length y2) from rfl)
  have s0 := (blk_cell HRB.out 0).trans (show _ = some (Value.slice none 0 0) from rfl)
  have s1 := (blk_cell HRB.out 1).trans (show _ = some (Value.slice none 0 0) from rfl)
  have f0 := blk_frozen HRB.out 0
  have f1 := blk_frozen HRB.out 1
  have HF := hid (show ((w6.setCell ⟨(w.heap.size + 1 + 1), 0, none⟩ (.slice X0 s.g.length y0)).setCell ⟨(w.heap.size + 1 + 1), 1, none⟩ (.slice X2 (insS s.e ⟨pq, pv⟩).length y2)).heap[(w.heap.size + 1 + 1)]? = some (.cells #[(.slice X0 s.g.length y0), (.slice X2 (insS s.e ⟨pq, pv⟩).length y2)] 31 (0, 0)) from blk_set (blk_set HRB.out 0 _) 1 _)
  have HO := hid (DlS.out HDE.out HRB.out (by have := HLT.out; omega) (show Wi w6 ((w6.setCell ⟨(w.heap.size + 1 + 1), 0, none⟩ (.slice X0 s.g.length y0)).setCell ⟨(w.heap.size + 1 + 1), 1, none⟩ (.slice X2 (insS s.e ⟨pq, pv⟩).length y2)) (w.heap.size + 1 + 1) ((w.heap.size + 1 + 1) + 1) from ((Wi.refl w6 _ _).trans (Wi.set1 _ _ 0 _)).trans (Wi.set1 _ _ 1 _)) (by omega))
  go_wp2
  refine bodyPost_ret (results_cell_row rfl _ _ (w.heap.size + 1 + 1) 31 #[(.slice X0 s.g.length y0), (.slice X2 (insS s.e ⟨pq, pv⟩).length y2)] (0, 0) _ rfl HF.out Try.underlying31 rfl (by kernel_rfl)) rfl ?_
  exact ⟨_, _, rfl, by rw [← HZ.out]; exact HO.out.ib, HO.out.bw⟩
end Go.Proofs.Ytcdibjneoemidaa.U
