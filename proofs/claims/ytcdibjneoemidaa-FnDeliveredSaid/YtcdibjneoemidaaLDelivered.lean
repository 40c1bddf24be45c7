
/- The law FnDelivered. -/
import Derived.Test.YtcdibjneoemidaaKm
import Derived.Test.YtcdibjneoemidaaKq
set_option linter.unusedVariables false
set_option linter.unusedSimpArgs false
namespace Go.Proofs.Ytcdibjneoemidaa.U
open Go.RowKit Go.Lib Go.Proofs.YtcdibjneoemidaaW.PrintWords

theorem lawbigD (A : Option Addr) (n c : Nat) (w : World) : Calls Try.prog 15 #[.slice A n c] w fun e w' => e = .returned (.bool (decide (1048576 < (n : Int)))) ∧ w = w' := by
  go_enter Try.func15, Try.ntmps15
  go_wp2
  go_ret
  exact ⟨rfl, rfl⟩
set_option maxHeartbeats 2000000 in
theorem sameInts_yesD (A : Option Addr) (n c : Nat) (B : Option Addr) (d : Nat) (l : List Int) (w : World) (r : RI w A n l) (q : RI w B n l) :
    Calls Try.prog 18 #[.slice A n c, .slice B n d] w fun e w' => e = .returned (.bool true) ∧ Drawn0 w w' := by
  have hmax := r.max
  have HL := hid r.len
  go_enter Try.func18, Try.ntmps18
  go_wp2
  go_loopw [5] (fun v5 wr => ∃ j : Nat, j ≤ n ∧ v5 = .int .i64 j ∧ Hid (Drawn0 w wr)) (fun v5 _ => n - (RowKit.intOf v5).toNat)
  case atStart => exact ⟨0, by omega, rfl, hid (Drawn0.refl _)⟩
  case round =>
    obtain ⟨j, hj, rfl, hD⟩ := hrel
    by_cases hlt : j < n
    · have t1 : decide ((j : Int) < (n : Int)) = true := decide_eq_true (by omega)
      obtain ⟨ad, rfl, hc0⟩ := (r.dr hD.out).nat j hlt
      obtain ⟨ae, rfl, hc1⟩ := (q.dr hD.out).nat j hlt
      generalize rd l (j : Int) = x at *
      have i4 : (0 : Int) ≤ (j : Int) := by omega
      have i5 : (j : Int) < (n : Int) := by omega
      go_wp2
      go_quiet (fail)
      go_wp2
      go_roundw
      case rel => exact ⟨j + 1, by omega, by go_num, hid (hD.out.step _)⟩
      case measure => simp [RowKit.intOf]; omega
    · obtain rfl : j = n := by omega
      have t1 : decide ((j : Int) < (j : Int)) = false := decide_eq_false (by omega)
      go_wp2
      go_ret
      exact ⟨rfl, hD.out⟩

theorem ibR_g {w : World} {A B : Option Addr} {n m c d : Nat} {s : Ib} (h : IbR w (.agg #[.slice A n c, .slice B m d]) s) : RI w A n s.g := by
  obtain ⟨A2, c2, B2, d2, e, r, q, _, _⟩ := h
  cases e
  exact r
theorem ibR_e {w : World} {A B : Option Addr} {n m c d : Nat} {s : Ib} (h : IbR w (.agg #[.slice A n c, .slice B m d]) s) : PkR w B m s.e := by
  obtain ⟨A2, c2, B2, d2, e, r, q, _, _⟩ := h
  cases e
  exact q
open Go.Proofs.YtcdibjneoemidaaW.PrintLast Go.Proofs.YtcdibjneoemidaaW.PrintMore
set_option maxHeartbeats 1000000 in
theorem samePackets_yes (A : Option Addr) (n c : Nat) (B : Option Addr) (d : Nat) (l : List Pk) (w : World) (r : PkR w A n l) (q : PkR w B n l) :
    Calls Try.prog 19 #[.slice A n c, .slice B n d] w fun e w' => e = .returned (.bool true) ∧ Bw w w' := by
  have hmax := r.max
  go_enter Try.func19, Try.ntmps19
  go_wp2
  go_loopw [5] (fun v5 wr => ∃ j : Nat, j ≤ n ∧ v5 = .int .i64 j ∧ Hid (Drawn0 w wr)) (fun v5 _ => n - (RowKit.intOf v5).toNat)
  case atStart => exact ⟨0, by omega, rfl, hid (Drawn0.refl _)⟩
  case round =>
    obtain ⟨j, hj, rfl, hD⟩ := hrel
    by_cases hlt : j < n
    · have t1 : decide ((j : Int) < (n : Int)) = true := decide_eq_true (by omega)
      obtain ⟨ad, rfl, x0, x1⟩ := (r.to (Bw.drawn hD.out)).at j hlt
      obtain ⟨ae, rfl, y0, y1⟩ := (q.to (Bw.drawn hD.out)).at j hlt
      generalize (gp l j).q = x at *
      generalize (gp l j).v = y at *
      have i4 : (0 : Int) ≤ (j : Int) := by omega
      have i5 : (j : Int) < (n : Int) := by omega
      go_wp2
      go_quiet (fail)
      go_wp2
      go_roundw
      case rel => exact ⟨j + 1, by omega, by go_num, hid (hD.out.step _)⟩
      case measure => simp [RowKit.intOf]; omega
    · obtain rfl : j = n := by omega
      have t1 : decide ((j : Int) < (j : Int)) = false := decide_eq_false (by omega)
      go_wp2
      go_ret
      exact ⟨rfl, Bw.drawn hD.out⟩
theorem impl_Del (x : Value) (s : Ib) (pq pv : Int) (R : Ib) (w : World) (hx : IbR w x s) (hn : s.g.length ≤ 1048576 ∧ s.e.length ≤ 1048576) (hR : delS s ⟨pq, pv⟩ = R) :
    Calls Try.prog 11 #[x, .agg #[.int .i64 pq, .int .i64 pv]] w fun e w' => ∃ X y U v, e = .returned (.agg #[.slice X R.g.length y, .slice U R.e.length v]) ∧ IbO w' w.heap.size w'.heap.size (.agg #[.slice X R.g.length y, .slice U R.e.length v]) R ∧ Bw w w' := by
  refine (impl_Deliver x s ⟨pq, pv⟩ w hx hn.1 hn.2).mono ?_
  rw [hR]
  rintro e w' ⟨vg, ve, rfl, o, b⟩
  obtain ⟨_, _, ee, og, oe, ap⟩ := o
  cases ee
  obtain ⟨X, y, rfl, _, _⟩ := og.reads
  obtain ⟨U, v, rfl, _, _⟩ := oe.reads
  exact ⟨X, y, U, v, rfl, ⟨_, _, rfl, og, oe, ap⟩, b⟩
theorem DlS.next {w0 W w' : World} {P lo hi : Nat} {vg ve vg' ve' : Value} {s R : Ib} (h : DlS w0 W P vg ve s) (b : Bw W w') (o : IbO w' lo hi (.agg #[vg', ve']) R) (hlo : w0.heap.size ≤ lo) : DlS w0 ((w'.setCell ⟨P, 0, none⟩ vg').setCell ⟨P, 1, none⟩ ve') P vg' ve' R := by
  obtain ⟨_, _, ee, og, oe, ap⟩ := o
  cases ee
  have hb := (b.out.block _ (blk_lt h.bx)).trans h.bx
  have hw : Wi w' ((w'.setCell ⟨P, 0, none⟩ vg').setCell ⟨P, 1, none⟩ ve') P (P + 1) := ((Wi.refl w' _ _).trans (Wi.set1 _ _ 0 _)).trans (Wi.set1 _ _ 1 _)
  exact ⟨blk_set (blk_set hb 0 _) 1 _, FO.putK (FO.less og.o hlo) hb (by decide) hw, FO.putK (FO.less oe.o hlo) hb (by decide) hw, ap, (h.bw.trans b).then_wi hw h.lo, h.lo⟩
theorem DlS.zero (W : World) : DlS W (W.alloc (.cells #[.slice none 0 0, .slice none 0 0] 31)) W.heap.size (.slice none 0 0) (.slice none 0 0) ⟨[], []⟩ :=
  ⟨heap_alloc_new W (.cells #[.slice none 0 0, .slice none 0 0] 31 (0, 0)), FO.nil _ _ _ _, FO.nil _ _ _ _, .inl rfl, Bw.box1 _ _, Nat.le_refl _⟩
theorem rd_mem {l : List Int} {j : Nat} (h : j < l.length) : rd l (j : Int) ∈ l := by
  rw [rd_nat, List.getD_eq_getElem?_getD, List.getElem?_eq_getElem h]
  exact List.getElem_mem h

set_option maxHeartbeats 8000000 in
set_option maxRecDepth 100000 in
theorem law_Delivered (A0 : Option Addr) (n0 c0 : Nat) (l0 : List Int) (w : World) (r : ReadsInt w .u8 A0 n0 l0) (wf : ∀ x ∈ l0, 0 ≤ x ∧ x ≤ 255) :
    Calls Try.prog 4 #[.slice A0 n0 c0] w fun e w' => e = .returned (.bool true) ∧ Bw w w' := by
  have WF := hid wf
  clear wf
  by_cases hb : n0 ≤ 1048576
  case neg =>
    have t1 : decide (1048576 < (n0 : Int)) = true := decide_eq_true (by omega)
    have T1 := hid t1
    clear t1
    go_enter Try.func4, Try.ntmps4
    go_wp2_with fail
    refine (toBool (lawbigD _ _ _ _) T1.out).mono ?_
    rintro e w1 ⟨rfl, rfl⟩
    go_wp2
    go_ret
    exact ⟨rfl, Bw.refl _⟩
  have t1 : decide (1048576 < (n0 : Int)) = false := decide_eq_false (by omega)
  have T1 := hid t1
  clear t1
  go_enter Try.func4, Try.ntmps4
  go_wp2_with fail
  refine (toBool (lawbigD _ _ _ _) T1.out).mono ?_
  rintro e w1 ⟨rfl, rfl⟩
  go_wp2_with fail
  refine (DrawScript A0 n0 c0 l0 _ r WF.out hb).mono ?_
  rintro e w1 ⟨A, n, c, l, Bs, m, ds, sc, rfl, hl, hsc, ⟨hn, hm, hsb⟩, b1⟩
  have HL := hid hl.ri
  have HS := hid hsc.ri
  have HLN := hid hl.len
  have HSN := hid hsc.len
  have HSB := hid hsb
  have HB1 := hid b1
  clear hl hsc hsb b1 r
  have HD0 := hid (DlS.zero w1)
  go_upto_region 5 with fail
  generalize (w1.alloc (.cells #[.slice none 0 0, .slice none 0 0] 31)) = W1 at *
  obtain ⟨XB, hXB⟩ : ∃ XB, w1.heap.size = XB := ⟨_, rfl⟩
  rw [hXB] at HD0 ⊢
  have HXB := hid hXB
  clear hXB
  go_wp2
  go_loopw [6] (fun v6 wr => ∃ (j : Nat) (vg ve : Value) (s : Ib), j ≤ m ∧ v6 = .int .i64 j ∧ Hid (DlS w1 wr XB vg ve s) ∧ Hid (Good l s)) (fun v6 _ => m - (RowKit.intOf v6).toNat)
  case atStart => exact ⟨0, _, _, _, by omega, rfl, HD0, hid (Good.zero l)⟩
  case round =>
    clear HD0
    obtain ⟨j, vg, ve, s, hj, rfl, HD, HG⟩ := hrel
    obtain ⟨Ag, cg, rfl, hgc, hgr⟩ := HD.out.og.reads
    obtain ⟨Be, de, rfl, hec, her⟩ := (show PkO _ _ _ _ _ from HD.out.oe).reads
    have HOK := hid (HG.out.ibOk (by rw [HLN.out]; omega))
    have HIB := hid (show IbR wr (.agg #[.slice Ag s.g.length cg, .slice Be s.e.length de]) s from HD.out.ib.r)
    clear hgc hgr hec her
    by_cases hlt : j < m
    · have t1 : decide ((j : Int) < (m : Int)) = true := decide_eq_true (by omega)
      obtain ⟨ascr, rfl, hsj⟩ := (HS.out.to HD.out.bw).nat j hlt
      obtain ⟨x, hx⟩ : ∃ x, rd sc (j : Int) = x := ⟨_, rfl⟩
      rw [hx] at hsj
      have hx0 := HSB.out x (by rw [← hx]; exact rd_mem (by rw [HSN.out]; exact hlt))
      obtain ⟨xn, rfl⟩ := Int.eq_ofNat_of_zero_le hx0.1
      clear hx
      have i1 : (0 : Int) ≤ (j : Int) := by omega
      have i2 : (j : Int) < (m : Int) := by omega
      have e1 : IntKind.i64.wrap ((j : Int) + 1) = (j : Int) + 1 := i64w (by omega) (by omega)
      have hkk := hid (show j + 1 ≤ m ∧ m - (j + 1) < m - j by clear e1; omega)
      go_upto_region 9 with fail
      obtain ⟨q, hq⟩ : ∃ q : Nat, (xn : Int) / 2 = (q : Int) := ⟨xn / 2, by omega⟩
      rw [hq]
      clear hq hsj hx0
      by_cases hqn : q < n
      case neg =>
        have t2 : decide ((q : Int) ≥ (n : Int)) = true := decide_eq_true (by omega)
        have t2' : decide ((n : Int) ≤ (q : Int)) = true := decide_eq_true (by omega)
        go_wp2
        go_roundw
        case rel => exact ⟨j + 1, _, _, _, hkk.out.1, by go_num, HD, HG⟩
        case measure => simp [RowKit.intOf]; have := hkk.out; clear e1; omega
      have t2 : decide ((q : Int) ≥ (n : Int)) = false := decide_eq_false (by omega)
      have t2' : decide ((n : Int) ≤ (q : Int)) = false := decide_eq_false (by omega)
      obtain ⟨al, rfl, hlq⟩ := (HL.out.to HD.out.bw).nat q hqn
      obtain ⟨R, hR⟩ : ∃ R, delS s ⟨q, rd l (q : Int)⟩ = R := ⟨_, rfl⟩
      have hgd := good_del HG.out (by rw [HLN.out]; omega) q (by rw [HLN.out]; exact hqn)
      have htw := del_twice HG.out (by rw [HLN.out]; omega) q (by rw [HLN.out]; exact hqn)
      rw [hR] at hgd htw
      have HR := hid hR
      have HTW := hid htw
      have HGR := hid hgd.1
      have HLE := hid hgd.2.1
      have HOKR := hid (hgd.1.ibOk (by rw [HLN.out]; omega))
      have HSL := hid (show s.g.length ≤ 1048576 ∧ s.e.length ≤ 1048576 by have := ibOk_len HOK.out; omega)
      have HRL := hid (show R.g.length ≤ 1048576 ∧ R.e.length ≤ 1048576 by have := ibOk_len HOKR.out; omega)
      clear hR hgd htw
      generalize rd l (q : Int) = y at *
      have j1 : (0 : Int) ≤ (q : Int) := by omega
      have j2 : (q : Int) < (n : Int) := by clear e1; omega
      have bp := Bw.box1 wr (.cells #[.int .i64 (q : Int), .int .i64 y] 34)
      have HP := hid (heap_alloc_new wr (.cells #[.int .i64 (q : Int), .int .i64 y] 34 (0, 0)))
      have HBP := hid bp
      have k0 := (blk_cell (HD.out.to bp).bx 0).trans (show _ = some (Value.slice Ag s.g.length cg) from rfl)
      have k1 := (blk_cell (HD.out.to bp).bx 1).trans (show _ = some (Value.slice Be s.e.length de) from rfl)
      have p0 := (blk_cell HP.out 0).trans (show _ = some (Value.int .i64 (q : Int)) from rfl)
      have p1 := (blk_cell HP.out 1).trans (show _ = some (Value.int .i64 y) from rfl)
      clear bp
      go_upto_region 11 with fail
      generalize (wr.alloc (.cells #[.int .i64 (q : Int), .int .i64 y] 34)) = W2 at *
      go_wp2_with fail
      refine (impl_Del _ s (q : Int) y R _ (HIB.out.to HBP.out) HSL.out HR.out).mono ?_
      rintro e w3 ⟨X, yX, U, vU, rfl, o3, b3⟩
      have bY := Bw.box1 w3 (.cells #[.slice X R.g.length yX, .slice U R.e.length vU] 31)
      have HY := hid (heap_alloc_new w3 (.cells #[.slice X R.g.length yX, .slice U R.e.length vU] 31 (0, 0)))
      have HO3 := hid (o3.to bY)
      have HB3 := hid (HBP.out.trans (b3.trans bY))
      have HLO := hid (show w1.heap.size ≤ W2.heap.size from (HD.out.bw.trans HBP.out).size)
      replace p0 := pw_cell_below (b3.trans bY).out p0
      replace p1 := pw_cell_below (b3.trans bY).out p1
      have y0 := (blk_cell HY.out 0).trans (show _ = some (Value.slice X R.g.length yX) from rfl)
      have y1 := (blk_cell HY.out 1).trans (show _ = some (Value.slice U R.e.length vU) from rfl)
      clear o3 b3 bY k0 k1
      go_upto_region 12 with fail
      generalize (w3.alloc (.cells #[.slice X R.g.length yX, .slice U R.e.length vU] 31)) = W4 at *
      go_wp2_with fail
      refine (impl_Del _ R (q : Int) y R _ HO3.out.r HRL.out HTW.out).mono ?_
      rintro e w5 ⟨X2, yX2, U2, vU2, rfl, o5, b5⟩
      have bZ := Bw.box1 w5 (.cells #[.slice X2 R.g.length yX2, .slice U2 R.e.length vU2] 31)
      have HZ := hid (heap_alloc_new w5 (.cells #[.slice X2 R.g.length yX2, .slice U2 R.e.length vU2] 31 (0, 0)))
      have HO5 := hid (o5.to bZ)
      have HB5 := hid (HB3.out.trans (b5.trans bZ))
      replace HO3 := hid (HO3.out.to (b5.trans bZ))
      replace y0 := pw_cell_below (b5.trans bZ).out y0
      replace y1 := pw_cell_below (b5.trans bZ).out y1
      have z0 := (blk_cell HZ.out 0).trans (show _ = some (Value.slice X2 R.g.length yX2) from rfl)
      have z1 := (blk_cell HZ.out 1).trans (show _ = some (Value.slice U2 R.e.length vU2) from rfl)
      clear o5 b5 bZ p0 p1
      go_upto_region 13 with fail
      generalize (w5.alloc (.cells #[.slice X2 R.g.length yX2, .slice U2 R.e.length vU2] 31)) = W6 at *
      go_wp2_with fail
      refine (impl_InboxOk _ R _ HO3.out.r).mono ?_
      rintro e w7 ⟨rfl, b7⟩
      rw [HOKR.out]
      replace HO3 := hid (HO3.out.to b7)
      replace HO5 := hid (HO5.out.to b7)
      replace HB5 := hid (HB5.out.trans b7)
      replace y0 := pw_cell_below b7.out y0
      replace y1 := pw_cell_below b7.out y1
      replace z0 := pw_cell_below b7.out z0
      replace z1 := pw_cell_below b7.out z1
      clear b7
      go_wp2_with fail
      refine (sameInts_yesD X2 R.g.length yX2 X yX R.g _ (ibR_g HO5.out.r) (ibR_g HO3.out.r)).mono ?_
      rintro e w8 ⟨rfl, d8⟩
      have b8 := Bw.drawn d8
      replace HO3 := hid (HO3.out.to b8)
      replace HO5 := hid (HO5.out.to b8)
      replace HB5 := hid (HB5.out.trans b8)
      replace y0 := pw_cell_below b8.out y0
      replace y1 := pw_cell_below b8.out y1
      replace z0 := pw_cell_below b8.out z0
      replace z1 := pw_cell_below b8.out z1
      clear b8
      go_wp2_with fail
      refine (samePackets_yes U2 R.e.length vU2 U vU R.e _ (ibR_e HO5.out.r) (ibR_e HO3.out.r)).mono ?_
      rintro e w9 ⟨rfl, b9⟩
      replace HO3 := hid (HO3.out.to b9)
      replace HO5 := hid (HO5.out.to b9)
      replace HB5 := hid (HB5.out.trans b9)
      replace y0 := pw_cell_below b9.out y0
      replace y1 := pw_cell_below b9.out y1
      replace z0 := pw_cell_below b9.out z0
      replace z1 := pw_cell_below b9.out z1
      clear b9
      have k0 := (blk_cell (HD.out.to HB5.out).bx 0).trans (show _ = some (Value.slice Ag s.g.length cg) from rfl)
      have k1 := (blk_cell (HD.out.to HB5.out).bx 1).trans (show _ = some (Value.slice Be s.e.length de) from rfl)
      have f0 := blk_frozen (HD.out.to HB5.out).bx 0
      have f1 := blk_frozen (HD.out.to HB5.out).bx 1
      have t3 : decide ((R.g.length : Int) < (s.g.length : Int)) = false := decide_eq_false (by have := HLE.out; omega)
      have t3' : decide (R.g.length < s.g.length) = false := decide_eq_false (by have := HLE.out; omega)
      have HDN := hid (HD.out.next HB5.out HO3.out HLO.out)
      clear HY HZ z0 z1 t1 t2 t2' hlq
      go_wp2
      go_roundw
      case rel => exact ⟨j + 1, _, _, R, hkk.out.1, by go_num, HDN, HGR⟩
      case measure => simp [RowKit.intOf]; have := hkk.out; clear e1; omega
    · obtain rfl : m = j := by omega
      have t1 : decide ((m : Int) < (m : Int)) = false := decide_eq_false (by omega)
      go_upto_region 16 with fail
      go_wp2
      clear t1
      go_loopw [11] (fun v11 wx => ∃ q : Nat, q ≤ s.g.length ∧ v11 = .int .i64 q ∧ Hid (Bw wr wx)) (fun v11 _ => s.g.length - (RowKit.intOf v11).toNat)
      case atStart => exact ⟨0, by omega, rfl, hid (Bw.refl _)⟩
      case round =>
        obtain ⟨q, hq, rfl, hB⟩ := hrel
        have k0 := (blk_cell (HD.out.to hB.out).bx 0).trans (show _ = some (Value.slice Ag s.g.length cg) from rfl)
        have k1 := (blk_cell (HD.out.to hB.out).bx 1).trans (show _ = some (Value.slice Be s.e.length de) from rfl)
        replace HIB := hid (HIB.out.to hB.out)
        have hgl : s.g.length ≤ n := by rw [← HLN.out]; exact HG.out.gl
        by_cases hlt2 : q < s.g.length
        · have t1 : decide ((q : Int) < (s.g.length : Int)) = true := decide_eq_true (by omega)
          have t1' : decide (q < s.g.length) = true := decide_eq_true hlt2
          have t2 : decide ((q : Int) ≥ (n : Int)) = false := decide_eq_false (by omega)
          have t2' : decide ((n : Int) ≤ (q : Int)) = false := decide_eq_false (by omega)
          have t2n : decide (n ≤ q) = false := decide_eq_false (by omega)
          obtain ⟨ag, rfl, hgq⟩ := (ibR_g HIB.out).nat q hlt2
          obtain ⟨al, rfl, hlq⟩ := ((HL.out.to HD.out.bw).to hB.out).nat q (by omega)
          rw [HG.out.gv q hlt2] at hgq
          generalize rd l (q : Int) = z at *
          have t3 : (z != z) = false := by simp
          have i1 : (0 : Int) ≤ (q : Int) := by omega
          have i2 : (q : Int) < (s.g.length : Int) := by omega
          have i3 : (q : Int) < (n : Int) := by omega
          have e1 : IntKind.i64.wrap ((q : Int) + 1) = (q : Int) + 1 := i64w (by omega) (by omega)
          have hkk := hid (show q + 1 ≤ s.g.length ∧ s.g.length - (q + 1) < s.g.length - q by clear e1; omega)
          go_wp2
          go_quiet (fail)
          go_wp2
          go_roundw
          case rel => exact ⟨q + 1, hkk.out.1, by go_num, hid (hB.out.trans (Bw.drawn ⟨⟨_, rfl⟩⟩))⟩
          case measure => simp [RowKit.intOf]; have := hkk.out; clear e1; omega
        · obtain rfl : q = s.g.length := by omega
          have t1 : decide ((s.g.length : Int) < (s.g.length : Int)) = false := decide_eq_false (by omega)
          have hcnt := HG.out.count
          rw [HLN.out, ← misS_nat] at hcnt
          obtain ⟨K, hK⟩ : ∃ K, (misS s (n : Int)).length = K := ⟨_, rfl⟩
          rw [hK] at hcnt
          have HMK := hid hK
          have e1 : IntKind.i64.wrap ((K : Int) + (s.g.length : Int)) = (K : Int) + (s.g.length : Int) := i64w (by omega) (by omega)
          have e2 : IntKind.i64.wrap ((K : Int) + (s.g.length : Int) + (s.e.length : Int)) = (K : Int) + (s.g.length : Int) + (s.e.length : Int) := i64w (by clear e1; omega) (by clear e1; omega)
          have t3 : ((K : Int) + (s.g.length : Int) + (s.e.length : Int) == (n : Int)) = true := by clear e1 e2; simp; omega
          have HBF := hid ((HB1.out.trans HD.out.bw).trans hB.out)
          clear hK hcnt hgl hlt2
          go_upto_region 21 with fail
          refine start_ (n := 17) (S := fun w' => w'.cell? ⟨XB, 0, none⟩ = some (.slice Ag s.g.length cg) ∧ w'.cell? ⟨XB, 1, none⟩ = some (.slice Be s.e.length de)) (ds := [16]) #[false, false, false, false, false, false, false, false, false, false, false, false, false, false, false, false, false] (by kernel_rfl) rfl rfl ⟨k0, k1⟩ (fun hHeld => ?_)
          refine take_ (i := 0) (N := (some 99)) (v := ?_) (a' := ?_) #[true, false, false, false, false, false, false, false, false, false, false, false, false, false, false, false, false] rfl rfl (by kernel_rfl) (fun _ _ _ h => h) (Or.inl ⟨by rfl, ?_⟩) hHeld ?_ ?_
          rotate_left
          · rintro w' ⟨s0, s1⟩
            go_simp
            with_reducible rfl
          rotate_left
          · simp only [Act.put, List.setIfInBounds_toArray, List.set_cons_zero, List.set_cons_succ, i64_w, i32_w]
            rfl
          refine pure_ (i := 1) (N := (some 100)) (v := ?_) (a' := ?_) #[true, true, false, false, false, false, false, false, false, false, false, false, false, false, false, false, false] rfl rfl (by kernel_rfl) (fun _ _ _ h => h) (Or.inl ⟨by rfl, ?_⟩) ?_ ?_
          rotate_left
          · intro w'
            go_simp
            with_reducible rfl
          rotate_left
          · simp only [Act.put, List.setIfInBounds_toArray, List.set_cons_zero, List.set_cons_succ, i64_w, i32_w]
            rfl
          refine pure_ (i := 2) (N := (some 101)) (v := ?_) (a' := ?_) #[true, true, true, false, false, false, false, false, false, false, false, false, false, false, false, false, false] rfl rfl (by kernel_rfl) (fun _ _ _ h => h) (Or.inl ⟨by rfl, ?_⟩) ?_ ?_
          rotate_left
          · intro w'
            go_simp
            with_reducible rfl
          rotate_left
          · simp only [Act.put, List.setIfInBounds_toArray, List.set_cons_zero, List.set_cons_succ, i64_w, i32_w]
            rfl
          refine pure_ (i := 5) (N := (some 104)) (v := ?_) (a' := ?_) #[true, true, true, false, false, true, false, false, false, false, false, false, false, false, false, false, false] rfl rfl (by kernel_rfl) (fun _ _ _ h => h) (Or.inl ⟨by rfl, ?_⟩) ?_ ?_
          rotate_left
          · intro w'
            go_simp
            with_reducible rfl
          rotate_left
          · simp only [Act.put, List.setIfInBounds_toArray, List.set_cons_zero, List.set_cons_succ, i64_w, i32_w]
            rfl
          refine take_ (i := 6) (N := (some 105)) (v := ?_) (a' := ?_) #[true, true, true, false, false, true, true, false, false, false, false, false, false, false, false, false, false] rfl rfl (by kernel_rfl) (fun _ _ _ h => h) (Or.inl ⟨by rfl, ?_⟩) hHeld ?_ ?_
          rotate_left
          · rintro w' ⟨s0, s1⟩
            go_simp
            with_reducible rfl
          rotate_left
          · simp only [Act.put, List.setIfInBounds_toArray, List.set_cons_zero, List.set_cons_succ, i64_w, i32_w]
            rfl
          refine pure_ (i := 7) (N := (some 106)) (v := ?_) (a' := ?_) #[true, true, true, false, false, true, true, true, false, false, false, false, false, false, false, false, false] rfl rfl (by kernel_rfl) (fun _ _ _ h => h) (Or.inl ⟨by rfl, ?_⟩) ?_ ?_
          rotate_left
          · intro w'
            go_simp
            with_reducible rfl
          rotate_left
          · simp only [Act.put, List.setIfInBounds_toArray, List.set_cons_zero, List.set_cons_succ, i64_w, i32_w]
            rfl
          refine pure_ (i := 9) (N := (some 108)) (v := ?_) (a' := ?_) #[true, true, true, false, false, true, true, true, false, true, false, false, false, false, false, false, false] rfl rfl (by kernel_rfl) (fun _ _ _ h => h) (Or.inl ⟨by rfl, ?_⟩) ?_ ?_
          rotate_left
          · intro w'
            go_simp
            with_reducible rfl
          rotate_left
          · simp only [Act.put, List.setIfInBounds_toArray, List.set_cons_zero, List.set_cons_succ, i64_w, i32_w]
            rfl
          refine take_ (i := 10) (N := (some 109)) (v := ?_) (a' := ?_) #[true, true, true, false, false, true, true, true, false, true, true, false, false, false, false, false, false] rfl rfl (by kernel_rfl) (fun _ _ _ h => h) (Or.inl ⟨by rfl, ?_⟩) hHeld ?_ ?_
          rotate_left
          · rintro w' ⟨s0, s1⟩
            go_simp
            with_reducible rfl
          rotate_left
          · simp only [Act.put, List.setIfInBounds_toArray, List.set_cons_zero, List.set_cons_succ, i64_w, i32_w]
            rfl
          refine pure_ (i := 11) (N := (some 110)) (v := ?_) (a' := ?_) #[true, true, true, false, false, true, true, true, false, true, true, true, false, false, false, false, false] rfl rfl (by kernel_rfl) (fun _ _ _ h => h) (Or.inl ⟨by rfl, ?_⟩) ?_ ?_
          rotate_left
          · intro w'
            go_simp
            with_reducible rfl
          rotate_left
          · simp only [Act.put, List.setIfInBounds_toArray, List.set_cons_zero, List.set_cons_succ, i64_w, i32_w]
            rfl
          refine pure_ (i := 13) (N := (some 112)) (v := ?_) (a' := ?_) #[true, true, true, false, false, true, true, true, false, true, true, true, false, true, false, false, false] rfl rfl (by kernel_rfl) (fun _ _ _ h => h) (Or.inl ⟨by rfl, ?_⟩) ?_ ?_
          rotate_left
          · intro w'
            go_simp
            with_reducible rfl
          rotate_left
          · simp only [Act.put, List.setIfInBounds_toArray, List.set_cons_zero, List.set_cons_succ, i64_w, i32_w]
            rfl
          refine pure_ (i := 14) (N := (some 113)) (v := ?_) (a' := ?_) #[true, true, true, false, false, true, true, true, false, true, true, true, false, true, true, false, false] rfl rfl (by kernel_rfl) (fun _ _ _ h => h) (Or.inl ⟨by rfl, ?_⟩) ?_ ?_
          rotate_left
          · intro w'
            go_simp
            with_reducible rfl
          rotate_left
          · simp only [Act.put, List.setIfInBounds_toArray, List.set_cons_zero, List.set_cons_succ, i64_w, i32_w]
            rfl
          clear hHeld
          refine one_ (i := 3) (N := (some 102)) #[true, true, true, true, false, true, true, true, false, true, true, true, false, true, true, false, false] rfl rfl (by kernel_rfl) (by decide) (fun K hK => ?_)
          refine goes_ Try.func20 (by kernel_rfl) rfl #[.agg #[.slice Ag s.g.length cg, .slice Be s.e.length de], .int .i64 (n : Int)] (by rfl) rfl rfl (by (try simp only [List.map_toArray, List.map_cons, List.map_nil]); first | done | rfl) ?_
          refine (impl_Missing _ s (n : Int) _ (IbR.to HIB.out (Bw.drawn ⟨⟨1, rfl⟩⟩)) HOK.out (by omega)).mono ?_
          rintro e wa ⟨vm, rfl, om, bm⟩
          rw [HMK.out] at om
          obtain ⟨Xm, ym, rfl, _⟩ := om.reads
          have bA := (Bw.drawn (a := wr) ⟨⟨1, rfl⟩⟩).trans bm
          clear om bm
          refine ⟨_, rfl, ?_⟩
          refine hK.out _ _ ⟨pw_cell_below bA.out k0, pw_cell_below bA.out k1⟩ (fun _ => ?_)
          clear hK K
          refine norm_ (a' := ?_) ?_ ?_
          rotate_left
          · show Act.put _ (some 102) _ = _
            simp only [Act.put, List.setIfInBounds_toArray, List.set_cons_zero, List.set_cons_succ, i64_w, i32_w]
            rfl
          refine pure_ (i := 4) (N := (some 103)) (v := ?_) (a' := ?_) #[true, true, true, true, true, true, true, true, false, true, true, true, false, true, true, false, false] rfl rfl (by kernel_rfl) (fun _ _ _ h => h) (Or.inl ⟨by rfl, ?_⟩) ?_ ?_
          rotate_left
          · intro w'
            go_simp
            with_reducible rfl
          rotate_left
          · simp only [Act.put, List.setIfInBounds_toArray, List.set_cons_zero, List.set_cons_succ, i64_w, i32_w]
            rfl
          refine pure_ (i := 8) (N := (some 107)) (v := ?_) (a' := ?_) #[true, true, true, true, true, true, true, true, true, true, true, true, false, true, true, false, false] rfl rfl (by kernel_rfl) (fun _ _ _ h => h) (Or.inl ⟨by rfl, ?_⟩) ?_ ?_
          rotate_left
          · intro w'
            go_simp
            with_reducible rfl
          rotate_left
          · simp only [Act.put, List.setIfInBounds_toArray, List.set_cons_zero, List.set_cons_succ, i64_w, i32_w]
            rfl
          refine pure_ (i := 12) (N := (some 111)) (v := ?_) (a' := ?_) #[true, true, true, true, true, true, true, true, true, true, true, true, true, true, true, false, false] rfl rfl (by kernel_rfl) (fun _ _ _ h => h) (Or.inl ⟨by rfl, ?_⟩) ?_ ?_
          rotate_left
          · intro w'
            go_simp
            with_reducible rfl
          rotate_left
          · simp only [Act.put, List.setIfInBounds_toArray, List.set_cons_zero, List.set_cons_succ, i64_w, i32_w]
            rfl
          refine pure_ (i := 15) (N := (some 114)) (v := ?_) (a' := ?_) #[true, true, true, true, true, true, true, true, true, true, true, true, true, true, true, true, false] rfl rfl (by kernel_rfl) (fun _ _ _ h => h) (Or.inl ⟨by rfl, ?_⟩) ?_ ?_
          rotate_left
          · intro w'
            go_simp
            with_reducible rfl
          rotate_left
          · simp only [Act.put, List.setIfInBounds_toArray, List.set_cons_zero, List.set_cons_succ, i64_w, i32_w]
            rfl
          refine last_ (i := 16) (N := (some 2)) #[true, true, true, true, true, true, true, true, true, true, true, true, true, true, true, true, true] rfl rfl (by kernel_rfl) (by decide) (fun K hK => ?_)
          refine value_ (w1 := ?_) (v := ?_) (by rfl) rfl ?_ ?_
          rotate_left 2
          · go_simp
            constructor
            · rfl
            · rfl
          refine hK.out _ _ ?_
          clear hK K
          refine norm_ (a' := ?_) ?_ ?_
          rotate_left
          · show Act.put _ (some 2) _ = _
            simp only [Act.put, List.setIfInBounds_toArray, List.set_cons_zero, List.set_cons_succ, i64_w, i32_w]
            rfl
          refine done_ (by kernel_rfl) ?_
          go_wp2
          go_ret
          exact ⟨rfl, HBF.out.trans bA⟩
end Go.Proofs.Ytcdibjneoemidaa.U
