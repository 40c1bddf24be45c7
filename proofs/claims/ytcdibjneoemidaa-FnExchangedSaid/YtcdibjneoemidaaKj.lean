
/- The reference's l23Insert. -/
import Derived.Test.YtcdibjneoemidaaKh
set_option linter.unusedVariables false
set_option linter.unusedSimpArgs false
namespace Go.Proofs.Ytcdibjneoemidaa.U
open Go.RowKit Go.Lib Go.Proofs.YtcdibjneoemidaaW.PrintWords

open Go.Proofs.YtcdibjneoemidaaW.PrintLast Go.Proofs.YtcdibjneoemidaaW.PrintMore

theorem PkR.lit (w : World) (p : Pk) : PkR (w.alloc (.cells #[.int .i64 p.q, .int .i64 p.v] 34)) (some ⟨w.heap.size, 0, none⟩) 1 [p] := ⟨⟨rfl, by omega, fun _ => ⟨_, rfl, fun j hj => by
  have hv := heap_alloc_new w (.cells #[.int .i64 p.q, .int .i64 p.v] 34 (0, 0))
  rw [add_off ⟨w.heap.size, 0, none⟩ w.heap.size 0 j rfl, Nat.zero_add, blk_cell hv j]
  match j, hj with
  | 0, _ => rfl
  | 1, _ => rfl⟩⟩⟩
theorem PkR.none' (w : World) (A : Option Addr) : PkR w A 0 [] := ⟨⟨rfl, by omega, fun h => absurd h (by omega)⟩⟩
theorem pkF_take (l : List Pk) (k : Nat) (h : k ≤ l.length) : pkF (l.take k) = (pkF l).take (k * 2) := by
  conv => rhs; rw [← List.take_append_drop k l, pkF_append]
  rw [List.take_left' (by rw [pkF_length, List.length_take]; omega)]
theorem pkF_drop (l : List Pk) (k : Nat) (h : k ≤ l.length) : pkF (l.drop k) = (pkF l).drop (k * 2) := by
  conv => rhs; rw [← List.take_append_drop k l, pkF_append]
  rw [List.drop_left' (by rw [pkF_length, List.length_take]; omega)]
theorem cat3 {w : World} {base k : Nat} {v : Value} {es : List Pk} {p : Pk} (h : insS es p = es.take k ++ p :: es.drop k) (o : PkO w base v (es.take k ++ [p] ++ es.drop k).length (es.take k ++ [p] ++ es.drop k)) : PkO w base v (insS es p).length (insS es p) := by
  rw [h, show es.take k ++ p :: es.drop k = es.take k ++ [p] ++ es.drop k by simp]
  exact o
theorem PkR.upto {w : World} {A : Option Addr} {n : Nat} {l : List Pk} (h : PkR w A n l) (k : Nat) (hk : k ≤ n) : PkR w A k (l.take k) := by
  have hl := h.len
  refine ⟨⟨by rw [pkF_length, List.length_take]; omega, by have := h.max; omega, fun hn => ?_⟩⟩
  obtain ⟨ad, e, hc⟩ := h.out.at_ (by omega)
  refine ⟨ad, e, fun j hj => ?_⟩
  rw [hc j (by omega), pkF_take l k (by omega), rd_nat, rd_nat, List.getD_eq_getElem?_getD, List.getD_eq_getElem?_getD, List.getElem?_take, if_pos hj]
theorem PkR.from' {w : World} {g n : Nat} {l : List Pk} (h : PkR w (some ⟨g, 0, none⟩) n l) (k : Nat) (hk : k < n) : PkR w (some ⟨g, k * 2, none⟩) (n - k) (l.drop k) := by
  have hl := h.len
  refine ⟨⟨by rw [pkF_length, List.length_drop]; omega, by have := h.max; omega, fun hn => ⟨_, rfl, fun j hj => ?_⟩⟩⟩
  obtain ⟨ad, e, hc⟩ := h.out.at_ (by omega)
  obtain rfl := Option.some.inj e
  have h1 := hc (k * 2 + j) (by omega)
  rw [add_off ⟨g, 0, none⟩ g 0 _ rfl, Nat.zero_add] at h1
  rw [add_off ⟨g, k * 2, none⟩ g (k * 2) j rfl, h1, pkF_drop l k (by omega), rd_nat, rd_nat, List.getD_eq_getElem?_getD, List.getD_eq_getElem?_getD, List.getElem?_drop]

set_option maxHeartbeats 8000000 in
set_option maxRecDepth 100000 in
theorem spec_l23Insert (A B : Option Addr) (c d lo m : Nat) (gs : List Int) (es : List Pk) (p : Pk) (w : World) (o : PkO w lo (.slice B m d) m es) (h1 : m ≤ 16) :
    Calls Try.prog 31 #[.agg #[.slice A gs.length c, .slice B m d], .agg #[.int .i64 p.q, .int .i64 p.v]] w fun e w' =>
      ((hasP es p.q = true ∨ ¬ m < 16) ∧ e = .returned (.agg #[.slice A gs.length c, .slice B m d]) ∨
       ((hasP es p.q = false ∧ m < 16) ∧ ∃ Y y, e = .returned (.agg #[.slice A gs.length c, .slice Y (insS es p).length y]) ∧ PkO w' w.heap.size (.slice Y (insS es p).length y) (insS es p).length (insS es p))) ∧ Bw w w' := by
  obtain ⟨pq, pv⟩ := p
  obtain ⟨_, _, ee, hmd, q0⟩ := o.reads
  cases ee
  have q : PkR w B m es := ⟨q0⟩
  have b0 := ((Bw.box1 w (.cells #[.slice A gs.length c, .slice B m d] 31)).alloc (.cells #[.int .i64 pq, .int .i64 pv] 34)).alloc (.cells #[.slice none 0 0, .slice none 0 0] 31)
  have g0 := box_cell (((Bw.refl (w.alloc (.cells #[.slice A gs.length c, .slice B m d] 31))).alloc (.cells #[.int .i64 pq, .int .i64 pv] 34)).alloc (.cells #[.slice none 0 0, .slice none 0 0] 31)) 0
  have g1 := box_cell (((Bw.refl (w.alloc (.cells #[.slice A gs.length c, .slice B m d] 31))).alloc (.cells #[.int .i64 pq, .int .i64 pv] 34)).alloc (.cells #[.slice none 0 0, .slice none 0 0] 31)) 1
  simp only [List.getElem?_toArray, List.getElem?_cons_zero, List.getElem?_cons_succ] at g0 g1
  have hX : (((w.alloc (.cells #[.slice A gs.length c, .slice B m d] 31)).alloc (.cells #[.int .i64 pq, .int .i64 pv] 34)).alloc (.cells #[.slice none 0 0, .slice none 0 0] 31)).heap[w.heap.size]? = some (.cells #[.slice A gs.length c, .slice B m d] 31 (0, 0)) := by
    have h := heap_alloc_new w (.cells #[.slice A gs.length c, .slice B m d] 31 (0, 0))
    exact ((Bw.refl (w.alloc (.cells #[.slice A gs.length c, .slice B m d] 31))).alloc (.cells #[.int .i64 pq, .int .i64 pv] 34) |>.alloc (.cells #[.slice none 0 0, .slice none 0 0] 31) |>.out.block _ (blk_lt h)).trans h
  have hP : (((w.alloc (.cells #[.slice A gs.length c, .slice B m d] 31)).alloc (.cells #[.int .i64 pq, .int .i64 pv] 34)).alloc (.cells #[.slice none 0 0, .slice none 0 0] 31)).heap[w.heap.size + 1]? = some (.cells #[.int .i64 pq, .int .i64 pv] 34 (0, 0)) := by
    have h := heap_alloc_new (w.alloc (.cells #[.slice A gs.length c, .slice B m d] 31)) (.cells #[.int .i64 pq, .int .i64 pv] 34 (0, 0))
    rw [show (w.alloc (.cells #[.slice A gs.length c, .slice B m d] 31)).heap.size = w.heap.size + 1 by simp] at h
    exact ((Bw.box1 ((w.alloc (.cells #[.slice A gs.length c, .slice B m d] 31)).alloc (.cells #[.int .i64 pq, .int .i64 pv] 34)) (.cells #[.slice none 0 0, .slice none 0 0] 31)).out.block _ (blk_lt h)).trans h
  have hR : (((w.alloc (.cells #[.slice A gs.length c, .slice B m d] 31)).alloc (.cells #[.int .i64 pq, .int .i64 pv] 34)).alloc (.cells #[.slice none 0 0, .slice none 0 0] 31)).heap[w.heap.size + 1 + 1]? = some (.cells #[.slice none 0 0, .slice none 0 0] 31 (0, 0)) := by
    have h := heap_alloc_new ((w.alloc (.cells #[.slice A gs.length c, .slice B m d] 31)).alloc (.cells #[.int .i64 pq, .int .i64 pv] 34)) (.cells #[.slice none 0 0, .slice none 0 0] 31 (0, 0))
    rwa [show ((w.alloc (.cells #[.slice A gs.length c, .slice B m d] 31)).alloc (.cells #[.int .i64 pq, .int .i64 pv] 34)).heap.size = w.heap.size + 1 + 1 by simp] at h
  have hz3 : (((w.alloc (.cells #[.slice A gs.length c, .slice B m d] 31)).alloc (.cells #[.int .i64 pq, .int .i64 pv] 34)).alloc (.cells #[.slice none 0 0, .slice none 0 0] 31)).heap.size = w.heap.size + 3 := by simp
  have HX1 := hid hX
  have HP1 := hid hP
  have HR1 := hid hR
  have HB0 := hid b0
  have HO := hid o
  have HQ := hid q
  have HMD := hid hmd
  have hpl := posP_le es pq
  have hm := q.len
  rw [hm] at hpl
  have HM := hid hm
  clear g0 g1 hX hP hR b0 q q0 hmd hz3 o hm
  go_enter Try.func31, Try.ntmps31
  go_upto_region 1 with fail
  generalize (((w.alloc (.cells #[.slice A gs.length c, .slice B m d] 31)).alloc (.cells #[.int .i64 pq, .int .i64 pv] 34)).alloc (.cells #[.slice none 0 0, .slice none 0 0] 31)) = W1 at *
  go_wp2
  go_loopw [5] (fun v5 wr => ∃ k : Nat, k ≤ posP es pq ∧ v5 = .int .i64 k ∧ Hid (Bw W1 wr)) (fun v5 _ => m - (RowKit.intOf v5).toNat)
  case atStart => exact ⟨0, by omega, rfl, hid (Bw.refl _)⟩
  case round =>
    obtain ⟨k, hk, rfl, hB⟩ := hrel
    have g1 := (blk_cell ((hB.out.out.block _ (blk_lt HX1.out)).trans HX1.out) 1).trans (show _ = some (Value.slice B m d) from rfl)
    have p0 := (blk_cell ((hB.out.out.block _ (blk_lt HP1.out)).trans HP1.out) 0).trans (show _ = some (Value.int .i64 pq) from rfl)
    by_cases hkp : k < posP es pq
    case pos =>
      have hq := posP_lt es pq k hkp
      obtain ⟨ad, rfl, x0, _⟩ := (HQ.out.to (HB0.out.trans hB.out)).at k (by omega)
      obtain ⟨y, hy⟩ : ∃ y, (gp es k).q = y := ⟨_, rfl⟩
      rw [hy] at x0 hq
      have t1 : decide ((k : Int) < (m : Int)) = true := decide_eq_true (by omega)
      have t1' : decide (k < m) = true := decide_eq_true (by omega)
      have t2 : decide (y < pq) = true := decide_eq_true hq
      have i0 : (0 : Int) ≤ (k : Int) := by omega
      have i1 : (k : Int) < (m : Int) := by omega
      have i1' : k < m := by omega
      have e1 : IntKind.i64.wrap ((k : Int) + 1) = (k : Int) + 1 := i64w (by omega) (by omega)
      have hkk := hid (show k + 1 ≤ posP es pq ∧ m - (k + 1) < m - k by clear e1; omega)
      clear hy hq hkp
      go_wp2
      go_quiet (fail)
      go_wp2
      go_roundw
      case rel => exact ⟨k + 1, hkk.out.1, by go_num, hid (hB.out.trans (Bw.drawn ⟨⟨_, rfl⟩⟩))⟩
      case measure => simp [RowKit.intOf]; clear e1; omega
    case neg =>
      obtain rfl : posP es pq = k := by omega
      obtain ⟨k, hkd⟩ : ∃ k, posP es pq = k := ⟨_, rfl⟩
      have hat := posP_at es pq
      rw [HM.out] at hat
      have HHP := hid (show hasP es pq = (decide (k < m) && ((gp es k).q == pq)) by rw [hasP, hkd, HM.out])
      have HIS := hid (show insS es ⟨pq, pv⟩ = es.take k ++ ⟨pq, pv⟩ :: es.drop k by rw [insS, hkd])
      have HIL := hid (show (insS es ⟨pq, pv⟩).length = m + 1 by rw [insS_len, HM.out])
      rw [hkd] at hat hk hpl
      rw [hkd]
      clear hkp hkd hk
      have hk := hpl
      have i0 : (0 : Int) ≤ (k : Int) := by omega
      have hkm' : (k : Int) ≤ (m : Int) := by omega
      by_cases hkl : k < m
      case neg =>
        obtain rfl : m = k := by omega
        have t1 : decide ((m : Int) < (m : Int)) = false := decide_eq_false (by omega)
        have HF0 := hid (show hasP es pq = false by rw [HHP.out, decide_eq_false (by omega)]; rfl)
        clear hat hkl
        go_upto_region 2 with fail
        go_quiet (fail)
        go_wp2
        replace hB := hid (hB.out.trans (Bw.drawn ⟨⟨nq, rfl⟩⟩))
        replace g1 : (wr.drewN nq).cell? ⟨w.heap.size, 1, none⟩ = _ := g1
        generalize wr.drewN nq = W2 at *
        by_cases h16 : m < 16
        case neg =>
          have t3 : ((m : Int) == 16) = true := by simp; omega
          go_quiet (fail)
          replace hB := hid (hB.out.trans (Bw.drawn ⟨⟨nq, rfl⟩⟩))
          generalize W2.drewN nq = W3 at *
          clear g1 p0
          have hX := (hB.out.out.block _ (blk_lt HX1.out)).trans HX1.out
          have hR := (hB.out.out.block _ (blk_lt HR1.out)).trans HR1.out
          have g0 := (blk_cell hX 0).trans (show _ = some (Value.slice A gs.length c) from rfl)
          have g1 := (blk_cell hX 1).trans (show _ = some (Value.slice B m d) from rfl)
          have s0 := (blk_cell hR 0).trans (show _ = some (Value.slice none 0 0) from rfl)
          have s1 := (blk_cell hR 1).trans (show _ = some (Value.slice none 0 0) from rfl)
          have f0 := blk_frozen hR 0
          have f1 := blk_frozen hR 1
          have HF := hid (show ((W3.setCell ⟨w.heap.size + 1 + 1, 0, none⟩ (.slice A gs.length c)).setCell ⟨w.heap.size + 1 + 1, 1, none⟩ (.slice B m d)).heap[w.heap.size + 1 + 1]? = some (.cells #[.slice A gs.length c, .slice B m d] 31 (0, 0)) from blk_set (blk_set hR 0 _) 1 _)
          have HBF := hid (show Bw w ((W3.setCell ⟨w.heap.size + 1 + 1, 0, none⟩ (.slice A gs.length c)).setCell ⟨w.heap.size + 1 + 1, 1, none⟩ (.slice B m d)) from (HB0.out.trans hB.out).then_wi (show Wi W3 ((W3.setCell ⟨w.heap.size + 1 + 1, 0, none⟩ (.slice A gs.length c)).setCell ⟨w.heap.size + 1 + 1, 1, none⟩ (.slice B m d)) (w.heap.size + 1 + 1) (w.heap.size + 1 + 1 + 1) from ((Wi.refl W3 _ _).trans (Wi.set1 _ _ 0 _)).trans (Wi.set1 _ _ 1 _)) (by omega))
          clear hX hR
          go_wp2
          refine bodyPost_ret (results_cell_row rfl _ _ (w.heap.size + 1 + 1) 31 #[.slice A gs.length c, .slice B m d] (0, 0) _ rfl HF.out Try.underlying31 rfl (by kernel_rfl)) rfl ?_
          exact ⟨.inl ⟨.inr h16, rfl⟩, HBF.out⟩
        case pos =>
          have t3 : ((m : Int) == 16) = false := by simp; omega
          go_quiet (fail)
          have HNO := hid (show hasP es pq = false ∧ m < 16 from ⟨HF0.out, h16⟩)
          replace hB := hid (hB.out.trans (Bw.drawn ⟨⟨nq, rfl⟩⟩))
          generalize W2.drewN nq = W3 at *
          clear g1 p0
          have hX := (hB.out.out.block _ (blk_lt HX1.out)).trans HX1.out
          have hR := (hB.out.out.block _ (blk_lt HR1.out)).trans HR1.out
          have hP := (hB.out.out.block _ (blk_lt HP1.out)).trans HP1.out
          have g1 := (blk_cell hX 1).trans (show _ = some (Value.slice B m d) from rfl)
          have HXW := hid hX
          have HRW := hid hR
          have HPW := hid hP
          clear hX hR hP
          have HO3 := hid (HO.out.to (HB0.out.trans hB.out))
          have HQ3 := hid (HQ.out.to (HB0.out.trans hB.out))
          have HBW := hid (HB0.out.trans hB.out)
          have hh := HO3.out.out.2
          have bL := Bw.box1 W3 (.cells #[] 34)
          have HBL := hid bL
          have HL0 := hid (PkO.lit0 W3)
          have HT := hid ((HQ3.out.upto m (by omega)).to bL)
          replace g1 := pw_cell_below bL.out g1
          clear bL
          clear HO HQ HO3 t1 t3
          rcases hh with ⟨ee, h0⟩ | ⟨g, cap, cur, ee, _, _, hnc, hcm, _, _⟩
          · obtain ⟨rfl, rfl, rfl⟩ : B = none ∧ m = 0 ∧ d = 0 := by simpa using ee
            clear ee
            go_upto_region 7 with (at_builtin; refine appendPks (w0 := W3) W3.heap.size rfl _ _ rfl (.slice (some ⟨W3.heap.size, 0, none⟩) 0 0) [] (es.take 0) (none) 0 0 rfl rfl HL0.out HT.out HBL.out.out HBL.out.size (by first | (simp; done) | (simp; omega)) ?_; intro v1 w4 o4 B4 g4 a4)
            have HV4 := hid (show PkO w4 W3.heap.size v1 (es.take 0).length (es.take 0) from o4)
            have hB4 := hid (show Bw W3 w4 from ⟨B4⟩)
            clear o4 B4 g4 a4 g1
            have p0 := (blk_cell ((hB4.out.out.block _ (blk_lt HPW.out)).trans HPW.out) 0).trans (show _ = some (Value.int .i64 pq) from rfl)
            have p1 := (blk_cell ((hB4.out.out.block _ (blk_lt HPW.out)).trans HPW.out) 1).trans (show _ = some (Value.int .i64 pv) from rfl)
            have bx := Bw.box1 w4 (.cells #[.int .i64 pq, .int .i64 pv] 34)
            have HV5 := hid (HV4.out.to bx)
            have HB5 := hid (hB4.out.trans bx)
            have HLI := hid (PkR.lit w4 ⟨pq, pv⟩)
            clear bx
            go_upto_region 8 with (at_builtin; refine appendPks (w0 := W3) W3.heap.size rfl _ _ rfl v1 (es.take 0) [⟨pq, pv⟩] (some ⟨w4.heap.size, 0, none⟩) 1 1 rfl rfl HV5.out HLI.out HB5.out.out HB5.out.size (by have := HM.out; first | (simp; done) | (simp; omega)) ?_; intro v2 w6 o6 B6 g6 a6)
            have HV6 := hid o6
            have hB6 := hid (show Bw W3 w6 from ⟨B6⟩)
            clear o6 B6 g6 a6 p0 p1 HV5 HB5 HLI HV4 hB4
            have g1 := (blk_cell ((hB6.out.out.block _ (blk_lt HXW.out)).trans HXW.out) 1).trans (show _ = some (Value.slice none 0 0) from rfl)
            have HD6 := hid (show PkR w6 (none) 0 (es.drop 0) from by rw [List.drop_of_length_le (by have := HM.out; omega)]; exact PkR.none' _ _)
            go_upto_region 9 with (at_builtin; refine appendPks (w0 := W3) W3.heap.size rfl _ _ rfl v2 (es.take 0 ++ [⟨pq, pv⟩]) (es.drop 0) (none) 0 0 rfl rfl HV6.out HD6.out hB6.out.out hB6.out.size (by have := HM.out; first | (simp; done) | (simp; omega)) ?_; intro v3 w7 o7 B7 g7 a7; have o8 : PkO w7 W3.heap.size v3 (insS es ⟨pq, pv⟩).length (insS es ⟨pq, pv⟩) := cat3 HIS.out o7; obtain ⟨Y, y, rfl, _, _⟩ := o8.reads; have HO8 := hid o8; have hB7 := hid (show Bw W3 w7 from ⟨B7⟩); have hX7 := (hB7.out.out.block _ (blk_lt HXW.out)).trans HXW.out; have kk := (blk_cell hX7 1).trans (show _ = some (Value.slice none 0 0) from rfl); have kf := blk_frozen hX7 1; clear o7 o8 B7 g7 a7 hX7 g1)
            clear kk kf
            have hX7 := (hB7.out.out.block _ (blk_lt HXW.out)).trans HXW.out
            have hw8 : Wi w7 (w7.setCell ⟨w.heap.size, 1, none⟩ (.slice Y (insS es ⟨pq, pv⟩).length y)) w.heap.size (w.heap.size + 1) := Wi.set1 _ _ 1 _
            have HX8 := hid (show (w7.setCell ⟨w.heap.size, 1, none⟩ (.slice Y (insS es ⟨pq, pv⟩).length y)).heap[w.heap.size]? = some (.cells #[.slice A gs.length c, .slice Y (insS es ⟨pq, pv⟩).length y] 31 (0, 0)) from blk_set hX7 1 _)
            have HR8 := hid ((hw8.block _ (blk_lt ((hB7.out.out.block _ (blk_lt HRW.out)).trans HRW.out)) (by omega)).trans ((hB7.out.out.block _ (blk_lt HRW.out)).trans HRW.out))
            have HOF8 := hid (FO.putK (FO.less HO8.out HBW.out.size) hX7 (by decide) hw8)
            have HB8 := hid ((HBW.out.trans hB7.out).then_wi hw8 (Nat.le_refl _))
            clear hX7 hw8 HO8 hB7 HXW HRW HPW
            generalize (w7.setCell ⟨w.heap.size, 1, none⟩ (.slice Y (insS es ⟨pq, pv⟩).length y)) = W8 at *
            have g0 := (blk_cell HX8.out 0).trans (show _ = some (Value.slice A gs.length c) from rfl)
            have g1 := (blk_cell HX8.out 1).trans (show _ = some (Value.slice Y (insS es ⟨pq, pv⟩).length y) from rfl)
            have s0 := (blk_cell HR8.out 0).trans (show _ = some (Value.slice none 0 0) from rfl)
            have s1 := (blk_cell HR8.out 1).trans (show _ = some (Value.slice none 0 0) from rfl)
            have f0 := blk_frozen HR8.out 0
            have f1 := blk_frozen HR8.out 1
            have HF := hid (show ((W8.setCell ⟨w.heap.size + 1 + 1, 0, none⟩ (.slice A gs.length c)).setCell ⟨w.heap.size + 1 + 1, 1, none⟩ (.slice Y (insS es ⟨pq, pv⟩).length y)).heap[w.heap.size + 1 + 1]? = some (.cells #[.slice A gs.length c, .slice Y (insS es ⟨pq, pv⟩).length y] 31 (0, 0)) from blk_set (blk_set HR8.out 0 _) 1 _)
            have hw9 : Wi W8 ((W8.setCell ⟨w.heap.size + 1 + 1, 0, none⟩ (.slice A gs.length c)).setCell ⟨w.heap.size + 1 + 1, 1, none⟩ (.slice Y (insS es ⟨pq, pv⟩).length y)) (w.heap.size + 1 + 1) (w.heap.size + 1 + 1 + 1) := ((Wi.refl W8 _ _).trans (Wi.set1 _ _ 0 _)).trans (Wi.set1 _ _ 1 _)
            have HBF := hid (HB8.out.then_wi hw9 (by omega))
            have HOF := hid (FO.putK HOF8.out HR8.out (by decide) hw9)
            clear hw9
            go_wp2
            refine bodyPost_ret (results_cell_row rfl _ _ (w.heap.size + 1 + 1) 31 #[.slice A gs.length c, .slice Y (insS es ⟨pq, pv⟩).length y] (0, 0) _ rfl HF.out Try.underlying31 rfl (by kernel_rfl)) rfl ?_
            exact ⟨.inr ⟨HNO.out.1, _, _, rfl, HOF.out⟩, HBF.out⟩
          · obtain ⟨rfl, rfl⟩ : B = some ⟨g, 0, none⟩ ∧ d = cap := by simpa using ee
            clear ee
            by_cases hdm : d = m
            · subst hdm
              go_upto_region 7 with (at_builtin; refine appendPks (w0 := W3) W3.heap.size rfl _ _ rfl (.slice (some ⟨W3.heap.size, 0, none⟩) 0 0) [] (es.take d) (some ⟨g, 0, none⟩) d d rfl rfl HL0.out HT.out HBL.out.out HBL.out.size (by first | (simp; done) | (simp; omega)) ?_; intro v1 w4 o4 B4 g4 a4)
              have HV4 := hid (show PkO w4 W3.heap.size v1 (es.take d).length (es.take d) from o4)
              have hB4 := hid (show Bw W3 w4 from ⟨B4⟩)
              clear o4 B4 g4 a4 g1
              have p0 := (blk_cell ((hB4.out.out.block _ (blk_lt HPW.out)).trans HPW.out) 0).trans (show _ = some (Value.int .i64 pq) from rfl)
              have p1 := (blk_cell ((hB4.out.out.block _ (blk_lt HPW.out)).trans HPW.out) 1).trans (show _ = some (Value.int .i64 pv) from rfl)
              have bx := Bw.box1 w4 (.cells #[.int .i64 pq, .int .i64 pv] 34)
              have HV5 := hid (HV4.out.to bx)
              have HB5 := hid (hB4.out.trans bx)
              have HLI := hid (PkR.lit w4 ⟨pq, pv⟩)
              clear bx
              go_upto_region 8 with (at_builtin; refine appendPks (w0 := W3) W3.heap.size rfl _ _ rfl v1 (es.take d) [⟨pq, pv⟩] (some ⟨w4.heap.size, 0, none⟩) 1 1 rfl rfl HV5.out HLI.out HB5.out.out HB5.out.size (by have := HM.out; first | (simp; done) | (simp; omega)) ?_; intro v2 w6 o6 B6 g6 a6)
              have HV6 := hid o6
              have hB6 := hid (show Bw W3 w6 from ⟨B6⟩)
              clear o6 B6 g6 a6 p0 p1 HV5 HB5 HLI HV4 hB4
              have g1 := (blk_cell ((hB6.out.out.block _ (blk_lt HXW.out)).trans HXW.out) 1).trans (show _ = some (Value.slice (some ⟨g, 0, none⟩) d d) from rfl)
              have HD6 := hid (show PkR w6 (some ⟨g, 0, none⟩) 0 (es.drop d) from by rw [List.drop_of_length_le (by have := HM.out; omega)]; exact PkR.none' _ _)
              go_upto_region 9 with (at_builtin; refine appendPks (w0 := W3) W3.heap.size rfl _ _ rfl v2 (es.take d ++ [⟨pq, pv⟩]) (es.drop d) (some ⟨g, 0, none⟩) 0 0 rfl rfl HV6.out HD6.out hB6.out.out hB6.out.size (by have := HM.out; first | (simp; done) | (simp; omega)) ?_; intro v3 w7 o7 B7 g7 a7; have o8 : PkO w7 W3.heap.size v3 (insS es ⟨pq, pv⟩).length (insS es ⟨pq, pv⟩) := cat3 HIS.out o7; obtain ⟨Y, y, rfl, _, _⟩ := o8.reads; have HO8 := hid o8; have hB7 := hid (show Bw W3 w7 from ⟨B7⟩); have hX7 := (hB7.out.out.block _ (blk_lt HXW.out)).trans HXW.out; have kk := (blk_cell hX7 1).trans (show _ = some (Value.slice (some ⟨g, 0, none⟩) d d) from rfl); have kf := blk_frozen hX7 1; clear o7 o8 B7 g7 a7 hX7 g1)
              clear kk kf
              have hX7 := (hB7.out.out.block _ (blk_lt HXW.out)).trans HXW.out
              have hw8 : Wi w7 (w7.setCell ⟨w.heap.size, 1, none⟩ (.slice Y (insS es ⟨pq, pv⟩).length y)) w.heap.size (w.heap.size + 1) := Wi.set1 _ _ 1 _
              have HX8 := hid (show (w7.setCell ⟨w.heap.size, 1, none⟩ (.slice Y (insS es ⟨pq, pv⟩).length y)).heap[w.heap.size]? = some (.cells #[.slice A gs.length c, .slice Y (insS es ⟨pq, pv⟩).length y] 31 (0, 0)) from blk_set hX7 1 _)
              have HR8 := hid ((hw8.block _ (blk_lt ((hB7.out.out.block _ (blk_lt HRW.out)).trans HRW.out)) (by omega)).trans ((hB7.out.out.block _ (blk_lt HRW.out)).trans HRW.out))
              have HOF8 := hid (FO.putK (FO.less HO8.out HBW.out.size) hX7 (by decide) hw8)
              have HB8 := hid ((HBW.out.trans hB7.out).then_wi hw8 (Nat.le_refl _))
              clear hX7 hw8 HO8 hB7 HXW HRW HPW
              generalize (w7.setCell ⟨w.heap.size, 1, none⟩ (.slice Y (insS es ⟨pq, pv⟩).length y)) = W8 at *
              have g0 := (blk_cell HX8.out 0).trans (show _ = some (Value.slice A gs.length c) from rfl)
              have g1 := (blk_cell HX8.out 1).trans (show _ = some (Value.slice Y (insS es ⟨pq, pv⟩).length y) from rfl)
              have s0 := (blk_cell HR8.out 0).trans (show _ = some (Value.slice none 0 0) from rfl)
              have s1 := (blk_cell HR8.out 1).trans (show _ = some (Value.slice none 0 0) from rfl)
              have f0 := blk_frozen HR8.out 0
              have f1 := blk_frozen HR8.out 1
              have HF := hid (show ((W8.setCell ⟨w.heap.size + 1 + 1, 0, none⟩ (.slice A gs.length c)).setCell ⟨w.heap.size + 1 + 1, 1, none⟩ (.slice Y (insS es ⟨pq, pv⟩).length y)).heap[w.heap.size + 1 + 1]? = some (.cells #[.slice A gs.length c, .slice Y (insS es ⟨pq, pv⟩).length y] 31 (0, 0)) from blk_set (blk_set HR8.out 0 _) 1 _)
              have hw9 : Wi W8 ((W8.setCell ⟨w.heap.size + 1 + 1, 0, none⟩ (.slice A gs.length c)).setCell ⟨w.heap.size + 1 + 1, 1, none⟩ (.slice Y (insS es ⟨pq, pv⟩).length y)) (w.heap.size + 1 + 1) (w.heap.size + 1 + 1 + 1) := ((Wi.refl W8 _ _).trans (Wi.set1 _ _ 0 _)).trans (Wi.set1 _ _ 1 _)
              have HBF := hid (HB8.out.then_wi hw9 (by omega))
              have HOF := hid (FO.putK HOF8.out HR8.out (by decide) hw9)
              clear hw9
              go_wp2
              refine bodyPost_ret (results_cell_row rfl _ _ (w.heap.size + 1 + 1) 31 #[.slice A gs.length c, .slice Y (insS es ⟨pq, pv⟩).length y] (0, 0) _ rfl HF.out Try.underlying31 rfl (by kernel_rfl)) rfl ?_
              exact ⟨.inr ⟨HNO.out, _, _, rfl, HOF.out⟩, HBF.out⟩
            · have hdm2 : ¬ d = m := hdm
              go_upto_region 7 with (at_builtin; refine appendPks (w0 := W3) W3.heap.size rfl _ _ rfl (.slice (some ⟨W3.heap.size, 0, none⟩) 0 0) [] (es.take m) (some ⟨g, 0, none⟩) m d rfl rfl HL0.out HT.out HBL.out.out HBL.out.size (by first | (simp; done) | (simp; omega)) ?_; intro v1 w4 o4 B4 g4 a4)
              have HV4 := hid (show PkO w4 W3.heap.size v1 (es.take m).length (es.take m) from o4)
              have hB4 := hid (show Bw W3 w4 from ⟨B4⟩)
              clear o4 B4 g4 a4 g1
              have p0 := (blk_cell ((hB4.out.out.block _ (blk_lt HPW.out)).trans HPW.out) 0).trans (show _ = some (Value.int .i64 pq) from rfl)
              have p1 := (blk_cell ((hB4.out.out.block _ (blk_lt HPW.out)).trans HPW.out) 1).trans (show _ = some (Value.int .i64 pv) from rfl)
              have bx := Bw.box1 w4 (.cells #[.int .i64 pq, .int .i64 pv] 34)
              have HV5 := hid (HV4.out.to bx)
              have HB5 := hid (hB4.out.trans bx)
              have HLI := hid (PkR.lit w4 ⟨pq, pv⟩)
              clear bx
              go_upto_region 8 with (at_builtin; refine appendPks (w0 := W3) W3.heap.size rfl _ _ rfl v1 (es.take m) [⟨pq, pv⟩] (some ⟨w4.heap.size, 0, none⟩) 1 1 rfl rfl HV5.out HLI.out HB5.out.out HB5.out.size (by have := HM.out; first | (simp; done) | (simp; omega)) ?_; intro v2 w6 o6 B6 g6 a6)
              have HV6 := hid o6
              have hB6 := hid (show Bw W3 w6 from ⟨B6⟩)
              clear o6 B6 g6 a6 p0 p1 HV5 HB5 HLI HV4 hB4
              have g1 := (blk_cell ((hB6.out.out.block _ (blk_lt HXW.out)).trans HXW.out) 1).trans (show _ = some (Value.slice (some ⟨g, 0, none⟩) m d) from rfl)
              have HD6 := hid (show PkR w6 (some ⟨g, m * 2, none⟩) 0 (es.drop m) from by rw [List.drop_of_length_le (by have := HM.out; omega)]; exact PkR.none' _ _)
              go_upto_region 9 with (at_builtin; refine appendPks (w0 := W3) W3.heap.size rfl _ _ rfl v2 (es.take m ++ [⟨pq, pv⟩]) (es.drop m) (some ⟨g, m * 2, none⟩) 0 (d - m) rfl rfl HV6.out HD6.out hB6.out.out hB6.out.size (by have := HM.out; first | (simp; done) | (simp; omega)) ?_; intro v3 w7 o7 B7 g7 a7; have o8 : PkO w7 W3.heap.size v3 (insS es ⟨pq, pv⟩).length (insS es ⟨pq, pv⟩) := cat3 HIS.out o7; obtain ⟨Y, y, rfl, _, _⟩ := o8.reads; have HO8 := hid o8; have hB7 := hid (show Bw W3 w7 from ⟨B7⟩); have hX7 := (hB7.out.out.block _ (blk_lt HXW.out)).trans HXW.out; have kk := (blk_cell hX7 1).trans (show _ = some (Value.slice (some ⟨g, 0, none⟩) m d) from rfl); have kf := blk_frozen hX7 1; clear o7 o8 B7 g7 a7 hX7 g1)
              clear kk kf
              have hX7 := (hB7.out.out.block _ (blk_lt HXW.out)).trans HXW.out
              have hw8 : Wi w7 (w7.setCell ⟨w.heap.size, 1, none⟩ (.slice Y (insS es ⟨pq, pv⟩).length y)) w.heap.size (w.heap.size + 1) := Wi.set1 _ _ 1 _
              have HX8 := hid (show (w7.setCell ⟨w.heap.size, 1, none⟩ (.slice Y (insS es ⟨pq, pv⟩).length y)).heap[w.heap.size]? = some (.cells #[.slice A gs.length c, .slice Y (insS es ⟨pq, pv⟩).length y] 31 (0, 0)) from blk_set hX7 1 _)
              have HR8 := hid ((hw8.block _ (blk_lt ((hB7.out.out.block _ (blk_lt HRW.out)).trans HRW.out)) (by omega)).trans ((hB7.out.out.block _ (blk_lt HRW.out)).trans HRW.out))
              have HOF8 := hid (FO.putK (FO.less HO8.out HBW.out.size) hX7 (by decide) hw8)
              have HB8 := hid ((HBW.out.trans hB7.out).then_wi hw8 (Nat.le_refl _))
              clear hX7 hw8 HO8 hB7 HXW HRW HPW
              generalize (w7.setCell ⟨w.heap.size, 1, none⟩ (.slice Y (insS es ⟨pq, pv⟩).length y)) = W8 at *
              have g0 := (blk_cell HX8.out 0).trans (show _ = some (Value.slice A gs.length c) from rfl)
              have g1 := (blk_cell HX8.out 1).trans (show _ = some (Value.slice Y (insS es ⟨pq, pv⟩).length y) from rfl)
              have s0 := (blk_cell HR8.out 0).trans (show _ = some (Value.slice none 0 0) from rfl)
              have s1 := (blk_cell HR8.out 1).trans (show _ = some (Value.slice none 0 0) from rfl)
              have f0 := blk_frozen HR8.out 0
              have f1 := blk_frozen HR8.out 1
              have HF := hid (show ((W8.setCell ⟨w.heap.size + 1 + 1, 0, none⟩ (.slice A gs.length c)).setCell ⟨w.heap.size + 1 + 1, 1, none⟩ (.slice Y (insS es ⟨pq, pv⟩).length y)).heap[w.heap.size + 1 + 1]? = some (.cells #[.slice A gs.length c, .slice Y (insS es ⟨pq, pv⟩).length y] 31 (0, 0)) from blk_set (blk_set HR8.out 0 _) 1 _)
              have hw9 : Wi W8 ((W8.setCell ⟨w.heap.size + 1 + 1, 0, none⟩ (.slice A gs.length c)).setCell ⟨w.heap.size + 1 + 1, 1, none⟩ (.slice Y (insS es ⟨pq, pv⟩).length y)) (w.heap.size + 1 + 1) (w.heap.size + 1 + 1 + 1) := ((Wi.refl W8 _ _).trans (Wi.set1 _ _ 0 _)).trans (Wi.set1 _ _ 1 _)
              have HBF := hid (HB8.out.then_wi hw9 (by omega))
              have HOF := hid (FO.putK HOF8.out HR8.out (by decide) hw9)
              clear hw9
              go_wp2
              refine bodyPost_ret (results_cell_row rfl _ _ (w.heap.size + 1 + 1) 31 #[.slice A gs.length c, .slice Y (insS es ⟨pq, pv⟩).length y] (0, 0) _ rfl HF.out Try.underlying31 rfl (by kernel_rfl)) rfl ?_
              exact ⟨.inr ⟨HNO.out, _, _, rfl, HOF.out⟩, HBF.out⟩
      case pos =>
        have hat2 := hat (by omega)
        obtain ⟨ad, hBad, x0, _⟩ := (HQ.out.to (HB0.out.trans hB.out)).at k hkl
        obtain ⟨y, hy⟩ : ∃ y, (gp es k).q = y := ⟨_, rfl⟩
        have HHY := hid (show hasP es pq = (y == pq) by rw [HHP.out, decide_eq_true hkl, Bool.true_and, hy])
        rw [hy] at x0 hat2
        subst hBad
        have t1 : decide ((k : Int) < (m : Int)) = true := decide_eq_true (by omega)
        have t1' : decide (k < m) = true := decide_eq_true hkl
        have t2 : decide (y < pq) = false := decide_eq_false hat2
        have i1 : (k : Int) < (m : Int) := by omega
        have HAT := hid hat2
        clear hat hat2 hy
        go_upto_region 2 with fail
        go_quiet (fail)
        go_wp2
        replace hB := hid (hB.out.trans (Bw.drawn ⟨⟨nq, rfl⟩⟩))
        replace g1 : (wr.drewN nq).cell? ⟨w.heap.size, 1, none⟩ = _ := g1
        replace p0 : (wr.drewN nq).cell? ⟨w.heap.size + 1, 0, none⟩ = _ := p0
        replace x0 : (wr.drewN nq).cell? (ad.add (k * 2)) = _ := x0
        generalize wr.drewN nq = W2 at *
        by_cases heq : y = pq
        case pos =>
          have t3 : (y == pq) = true := by simp [heq]
          have hwhy : hasP es pq = true := by rw [HHY.out]; exact t3
          have HWHY := hid hwhy
          clear hwhy heq
          go_quiet (fail)
          clear x0 t1 t1' t2 t3
          replace hB := hid (hB.out.trans (Bw.drawn ⟨⟨nq, rfl⟩⟩))
          generalize W2.drewN nq = W3 at *
          clear g1 p0
          have hX := (hB.out.out.block _ (blk_lt HX1.out)).trans HX1.out
          have hR := (hB.out.out.block _ (blk_lt HR1.out)).trans HR1.out
          have g0 := (blk_cell hX 0).trans (show _ = some (Value.slice A gs.length c) from rfl)
          have g1 := (blk_cell hX 1).trans (show _ = some (Value.slice (some ad) m d) from rfl)
          have s0 := (blk_cell hR 0).trans (show _ = some (Value.slice none 0 0) from rfl)
          have s1 := (blk_cell hR 1).trans (show _ = some (Value.slice none 0 0) from rfl)
          have f0 := blk_frozen hR 0
          have f1 := blk_frozen hR 1
          have HF := hid (show ((W3.setCell ⟨w.heap.size + 1 + 1, 0, none⟩ (.slice A gs.length c)).setCell ⟨w.heap.size + 1 + 1, 1, none⟩ (.slice (some ad) m d)).heap[w.heap.size + 1 + 1]? = some (.cells #[.slice A gs.length c, .slice (some ad) m d] 31 (0, 0)) from blk_set (blk_set hR 0 _) 1 _)
          have HBF := hid (show Bw w ((W3.setCell ⟨w.heap.size + 1 + 1, 0, none⟩ (.slice A gs.length c)).setCell ⟨w.heap.size + 1 + 1, 1, none⟩ (.slice (some ad) m d)) from (HB0.out.trans hB.out).then_wi (show Wi W3 ((W3.setCell ⟨w.heap.size + 1 + 1, 0, none⟩ (.slice A gs.length c)).setCell ⟨w.heap.size + 1 + 1, 1, none⟩ (.slice (some ad) m d)) (w.heap.size + 1 + 1) (w.heap.size + 1 + 1 + 1) from ((Wi.refl W3 _ _).trans (Wi.set1 _ _ 0 _)).trans (Wi.set1 _ _ 1 _)) (by omega))
          clear hX hR
          go_wp2
          refine bodyPost_ret (results_cell_row rfl _ _ (w.heap.size + 1 + 1) 31 #[.slice A gs.length c, .slice (some ad) m d] (0, 0) _ rfl HF.out Try.underlying31 rfl (by kernel_rfl)) rfl ?_
          exact ⟨.inl ⟨.inl HWHY.out, rfl⟩, HBF.out⟩
        case neg =>
          have t4 : (y == pq) = false := by simp [heq]
          have HF0 := hid (show hasP es pq = false by rw [HHY.out]; exact t4)
          clear heq
          by_cases h16 : m < 16
          case neg =>
            have t3 : ((m : Int) == 16) = true := by simp; omega
            go_quiet (fail)
            clear x0 t1 t1' t2 t3
            replace hB := hid (hB.out.trans (Bw.drawn ⟨⟨nq, rfl⟩⟩))
            generalize W2.drewN nq = W3 at *
            clear g1 p0
            have hX := (hB.out.out.block _ (blk_lt HX1.out)).trans HX1.out
            have hR := (hB.out.out.block _ (blk_lt HR1.out)).trans HR1.out
            have g0 := (blk_cell hX 0).trans (show _ = some (Value.slice A gs.length c) from rfl)
            have g1 := (blk_cell hX 1).trans (show _ = some (Value.slice (some ad) m d) from rfl)
            have s0 := (blk_cell hR 0).trans (show _ = some (Value.slice none 0 0) from rfl)
            have s1 := (blk_cell hR 1).trans (show _ = some (Value.slice none 0 0) from rfl)
            have f0 := blk_frozen hR 0
            have f1 := blk_frozen hR 1
            have HF := hid (show ((W3.setCell ⟨w.heap.size + 1 + 1, 0, none⟩ (.slice A gs.length c)).setCell ⟨w.heap.size + 1 + 1, 1, none⟩ (.slice (some ad) m d)).heap[w.heap.size + 1 + 1]? = some (.cells #[.slice A gs.length c, .slice (some ad) m d] 31 (0, 0)) from blk_set (blk_set hR 0 _) 1 _)
            have HBF := hid (show Bw w ((W3.setCell ⟨w.heap.size + 1 + 1, 0, none⟩ (.slice A gs.length c)).setCell ⟨w.heap.size + 1 + 1, 1, none⟩ (.slice (some ad) m d)) from (HB0.out.trans hB.out).then_wi (show Wi W3 ((W3.setCell ⟨w.heap.size + 1 + 1, 0, none⟩ (.slice A gs.length c)).setCell ⟨w.heap.size + 1 + 1, 1, none⟩ (.slice (some ad) m d)) (w.heap.size + 1 + 1) (w.heap.size + 1 + 1 + 1) from ((Wi.refl W3 _ _).trans (Wi.set1 _ _ 0 _)).trans (Wi.set1 _ _ 1 _)) (by omega))
            clear hX hR
            go_wp2
            refine bodyPost_ret (results_cell_row rfl _ _ (w.heap.size + 1 + 1) 31 #[.slice A gs.length c, .slice (some ad) m d] (0, 0) _ rfl HF.out Try.underlying31 rfl (by kernel_rfl)) rfl ?_
            exact ⟨.inl ⟨.inr h16, rfl⟩, HBF.out⟩
          case pos =>
            have t3 : ((m : Int) == 16) = false := by simp; omega
            go_quiet (fail)
            clear x0 t1' t2 t4
            have HNO := hid (show hasP es pq = false ∧ m < 16 from ⟨HF0.out, h16⟩)
            replace hB := hid (hB.out.trans (Bw.drawn ⟨⟨nq, rfl⟩⟩))
            generalize W2.drewN nq = W3 at *
            clear g1 p0
            have hX := (hB.out.out.block _ (blk_lt HX1.out)).trans HX1.out
            have hR := (hB.out.out.block _ (blk_lt HR1.out)).trans HR1.out
            have hP := (hB.out.out.block _ (blk_lt HP1.out)).trans HP1.out
            have g1 := (blk_cell hX 1).trans (show _ = some (Value.slice (some ad) m d) from rfl)
            have HXW := hid hX
            have HRW := hid hR
            have HPW := hid hP
            clear hX hR hP
            have HO3 := hid (HO.out.to (HB0.out.trans hB.out))
            have HQ3 := hid (HQ.out.to (HB0.out.trans hB.out))
            have HBW := hid (HB0.out.trans hB.out)
            have hh := HO3.out.out.2
            have bL := Bw.box1 W3 (.cells #[] 34)
            have HBL := hid bL
            have HL0 := hid (PkO.lit0 W3)
            have HT := hid ((HQ3.out.upto k (by omega)).to bL)
            replace g1 := pw_cell_below bL.out g1
            clear bL
            clear HO HQ HO3 t1 t3
            rcases hh with ⟨ee, h0⟩ | ⟨g, cap, cur, ee, _, _, hnc, hcm, _, _⟩
            · omega
            · obtain ⟨rfl, rfl⟩ : ad = ⟨g, 0, none⟩ ∧ d = cap := by simpa using ee
              clear ee
              have hdk : ¬ d = k := by omega
              have hkd2 : k ≤ d := by omega
              go_upto_region 7 with (at_builtin; refine appendPks (w0 := W3) W3.heap.size rfl _ _ rfl (.slice (some ⟨W3.heap.size, 0, none⟩) 0 0) [] (es.take k) (some ⟨g, 0, none⟩) k d rfl rfl HL0.out HT.out HBL.out.out HBL.out.size (by first | (simp; done) | (simp; omega)) ?_; intro v1 w4 o4 B4 g4 a4)
              have HV4 := hid (show PkO w4 W3.heap.size v1 (es.take k).length (es.take k) from o4)
              have hB4 := hid (show Bw W3 w4 from ⟨B4⟩)
              clear o4 B4 g4 a4 g1
              have p0 := (blk_cell ((hB4.out.out.block _ (blk_lt HPW.out)).trans HPW.out) 0).trans (show _ = some (Value.int .i64 pq) from rfl)
              have p1 := (blk_cell ((hB4.out.out.block _ (blk_lt HPW.out)).trans HPW.out) 1).trans (show _ = some (Value.int .i64 pv) from rfl)
              have bx := Bw.box1 w4 (.cells #[.int .i64 pq, .int .i64 pv] 34)
              have HV5 := hid (HV4.out.to bx)
              have HB5 := hid (hB4.out.trans bx)
              have HLI := hid (PkR.lit w4 ⟨pq, pv⟩)
              clear bx
              go_upto_region 8 with (at_builtin; refine appendPks (w0 := W3) W3.heap.size rfl _ _ rfl v1 (es.take k) [⟨pq, pv⟩] (some ⟨w4.heap.size, 0, none⟩) 1 1 rfl rfl HV5.out HLI.out HB5.out.out HB5.out.size (by have := HM.out; first | (simp; done) | (simp; omega)) ?_; intro v2 w6 o6 B6 g6 a6)
              have HV6 := hid o6
              have hB6 := hid (show Bw W3 w6 from ⟨B6⟩)
              clear o6 B6 g6 a6 p0 p1 HV5 HB5 HLI HV4 hB4
              have g1 := (blk_cell ((hB6.out.out.block _ (blk_lt HXW.out)).trans HXW.out) 1).trans (show _ = some (Value.slice (some ⟨g, 0, none⟩) m d) from rfl)
              have HD6 := hid (show PkR w6 (some ⟨g, k * 2, none⟩) (m - k) (es.drop k) from (HQ3.out.to hB6.out).from' k hkl)
              go_upto_region 9 with (at_builtin; refine appendPks (w0 := W3) W3.heap.size rfl _ _ rfl v2 (es.take k ++ [⟨pq, pv⟩]) (es.drop k) (some ⟨g, k * 2, none⟩) (m - k) (d - k) rfl rfl HV6.out HD6.out hB6.out.out hB6.out.size (by have := HM.out; first | (simp; done) | (simp; omega)) ?_; intro v3 w7 o7 B7 g7 a7; have o8 : PkO w7 W3.heap.size v3 (insS es ⟨pq, pv⟩).length (insS es ⟨pq, pv⟩) := cat3 HIS.out o7; obtain ⟨Y, y, rfl, _, _⟩ := o8.reads; have HO8 := hid o8; have hB7 := hid (show Bw W3 w7 from ⟨B7⟩); have hX7 := (hB7.out.out.block _ (blk_lt HXW.out)).trans HXW.out; have kk := (blk_cell hX7 1).trans (show _ = some (Value.slice (some ⟨g, 0, none⟩) m d) from rfl); have kf := blk_frozen hX7 1; clear o7 o8 B7 g7 a7 hX7 g1)
              clear kk kf
              have hX7 := (hB7.out.out.block _ (blk_lt HXW.out)).trans HXW.out
              have hw8 : Wi w7 (w7.setCell ⟨w.heap.size, 1, none⟩ (.slice Y (insS es ⟨pq, pv⟩).length y)) w.heap.size (w.heap.size + 1) := Wi.set1 _ _ 1 _
              have HX8 := hid (show (w7.setCell ⟨w.heap.size, 1, none⟩ (.slice Y (insS es ⟨pq, pv⟩).length y)).heap[w.heap.size]? = some (.cells #[.slice A gs.length c, .slice Y (insS es ⟨pq, pv⟩).length y] 31 (0, 0)) from blk_set hX7 1 _)
              have HR8 := hid ((hw8.block _ (blk_lt ((hB7.out.out.block _ (blk_lt HRW.out)).trans HRW.out)) (by omega)).trans ((hB7.out.out.block _ (blk_lt HRW.out)).trans HRW.out))
              have HOF8 := hid (FO.putK (FO.less HO8.out HBW.out.size) hX7 (by decide) hw8)
              have HB8 := hid ((HBW.out.trans hB7.out).then_wi hw8 (Nat.le_refl _))
              clear hX7 hw8 HO8 hB7 HXW HRW HPW
              generalize (w7.setCell ⟨w.heap.size, 1, none⟩ (.slice Y (insS es ⟨pq, pv⟩).length y)) = W8 at *
              have g0 := (blk_cell HX8.out 0).trans (show _ = some (Value.slice A gs.length c) from rfl)
              have g1 := (blk_cell HX8.out 1).trans (show _ = some (Value.slice Y (insS es ⟨pq, pv⟩).length y) from rfl)
              have s0 := (blk_cell HR8.out 0).trans (show _ = some (Value.slice none 0 0) from rfl)
              have s1 := (blk_cell HR8.out 1).trans (show _ = some (Value.slice none 0 0) from rfl)
              have f0 := blk_frozen HR8.out 0
              have f1 := blk_frozen HR8.out 1
              have HF := hid (show ((W8.setCell ⟨w.heap.size + 1 + 1, 0, none⟩ (.slice A gs.length c)).setCell ⟨w.heap.size + 1 + 1, 1, none⟩ (.slice Y (insS es ⟨pq, pv⟩).length y)).heap[w.heap.size + 1 + 1]? = some (.cells #[.slice A gs.length c, .slice Y (insS es ⟨pq, pv⟩).length y] 31 (0, 0)) from blk_set (blk_set HR8.out 0 _) 1 _)
              have hw9 : Wi W8 ((W8.setCell ⟨w.heap.size + 1 + 1, 0, none⟩ (.slice A gs.length c)).setCell ⟨w.heap.size + 1 + 1, 1, none⟩ (.slice Y (insS es ⟨pq, pv⟩).length y)) (w.heap.size + 1 + 1) (w.heap.size + 1 + 1 + 1) := ((Wi.refl W8 _ _).trans (Wi.set1 _ _ 0 _)).trans (Wi.set1 _ _ 1 _)
              have HBF := hid (HB8.out.then_wi hw9 (by omega))
              have HOF := hid (FO.putK HOF8.out HR8.out (by decide) hw9)
              clear hw9
              go_wp2
              refine bodyPost_ret (results_cell_row rfl _ _ (w.heap.size + 1 + 1) 31 #[.slice A gs.length c, .slice Y (insS es ⟨pq, pv⟩).length y] (0, 0) _ rfl HF.out Try.underlying31 rfl (by kernel_rfl)) rfl ?_
              exact ⟨.inr ⟨HNO.out, _, _, rfl, HOF.out⟩, HBF.out⟩
end Go.Proofs.Ytcdibjneoemidaa.U
