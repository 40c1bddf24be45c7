
/- Imbalance, by the program and by the reference; its law, walked. -/
import Derived.Test.YtcgikbidgknkpaaLBestCuts
set_option linter.unusedVariables false
set_option linter.unusedSimpArgs false
namespace Go.Proofs.Ytcgikbidgknkpaa.U
open Go.RowKit Go.Lib Go.Proofs.YtcgikbidgknkpaaW.PrintWords

noncomputable def imbal (L : List Vf) : Int := if bestOk L = true then maxPart (wts (joinS L).lv) (cutL L L.length) - maxPart (wts (joinS L).lv) (bestL L) else -1
theorem maxPart_range (l cuts : List Int) : -1 ≤ maxPart l cuts ∧ maxPart l cuts ≤ 1000000000 := by
  rw [maxPart]
  split
  · rename_i h
    have := mostTo_range (cuts := cuts) h.2 (cuts.length - 1)
    omega
  · omega
set_option maxHeartbeats 8000000 in
set_option maxRecDepth 100000 in
theorem impl_Imbalance (A : Option Addr) (n c : Nat) (L : List Vf) (w : World) (r : VwR w A n L) (hn : n + szTo L n ≤ 1048576) :
    Calls Try.prog 31 #[.slice A n c] w fun e w' => e = .returned (.int .i64 (imbal L)) ∧ Bw w w' := by
  have hlen := r.len
  have hmax := r.max
  obtain ⟨s, hs⟩ : ∃ s, joinS L = s := ⟨_, rfl⟩
  obtain ⟨q, hq⟩ : ∃ q, bestOk L = q := ⟨_, rfl⟩
  obtain ⟨F, hF⟩ : ∃ F, bestL L = F := ⟨_, rfl⟩
  obtain ⟨m, hm⟩ : ∃ m, F.length = m := ⟨_, rfl⟩
  have HF := hid hF
  have HM := hid hm
  have hB := Bw.refl w
  cases q with
  | false =>
    have HI : Hid (imbal L = -1) := hid (by rw [imbal, if_neg (by rw [hq]; decide)])
    have HQ := hid hq
    clear hq hm hF hs
    go_enter Try.func31, Try.ntmps31
    go_wp2_with fail
    refine (impl_BestCuts' A n c L F m false _ r hn HF.out HM.out HQ.out).mono ?_
    rintro e_ w1 ⟨z1, XF, yF, hz1, rfl, hf, b1⟩
    go_wp2
    go_ret
    exact ⟨ret_int HI.out.symm, b1⟩
  | true =>
    have hj : joinOk L = true := by simp only [bestOk, Bool.and_eq_true] at hq; exact hq.1
    have HI : Hid (imbal L = maxPart (wts s.lv) (cutL L n) - maxPart (wts s.lv) F) := hid (by rw [imbal, if_pos hq, hs, hF, hlen])
    have HQ := hid hq
    have HS := hid hs
    have HJ := hid hj
    have HK : Hid (meshOk s.ro s.lv = true) := hid (by rw [← hs]; exact joinS_mesh hj)
    clear hq hm hF hs hj
    go_enter Try.func31, Try.ntmps31
    go_wp2_with fail
    refine (impl_BestCuts' A n c L F m true _ r hn HF.out HM.out HQ.out).mono ?_
    rintro e_ w1 ⟨z1, XF, yF, hz1, rfl, hf, b1⟩
    replace hB := hB.trans b1
    clear b1
    go_wp2_with fail
    refine (impl_JoinViews' A n c L s true _ (r.to hB) hn HS.out HJ.out).mono ?_
    rintro e_ w2 ⟨z2, A0, a0, A1, a1, A2, a2, A3, a3, hz2, rfl, hw, b1⟩
    replace hf := hf.to b1
    replace hB := hB.trans b1
    clear b1
    have g0 := box_cell (Bw.refl (w2.alloc (.cells #[.int .i64 s.ro, .slice A0 s.lv.length a0, .slice A1 s.ms.length a1, .slice A2 s.ts.length a2, .slice A3 s.bd.length a3] 29))) 0
    have g1 := box_cell (Bw.refl (w2.alloc (.cells #[.int .i64 s.ro, .slice A0 s.lv.length a0, .slice A1 s.ms.length a1, .slice A2 s.ts.length a2, .slice A3 s.bd.length a3] 29))) 1
    have g2 := box_cell (Bw.refl (w2.alloc (.cells #[.int .i64 s.ro, .slice A0 s.lv.length a0, .slice A1 s.ms.length a1, .slice A2 s.ts.length a2, .slice A3 s.bd.length a3] 29))) 2
    have g3 := box_cell (Bw.refl (w2.alloc (.cells #[.int .i64 s.ro, .slice A0 s.lv.length a0, .slice A1 s.ms.length a1, .slice A2 s.ts.length a2, .slice A3 s.bd.length a3] 29))) 3
    have g4 := box_cell (Bw.refl (w2.alloc (.cells #[.int .i64 s.ro, .slice A0 s.lv.length a0, .slice A1 s.ms.length a1, .slice A2 s.ts.length a2, .slice A3 s.bd.length a3] 29))) 4
    simp only [List.getElem?_toArray, List.getElem?_cons_zero, List.getElem?_cons_succ] at g0 g1 g2 g3 g4
    have b1 := Bw.box1 w2 (.cells #[.int .i64 s.ro, .slice A0 s.lv.length a0, .slice A1 s.ms.length a1, .slice A2 s.ts.length a2, .slice A3 s.bd.length a3] 29)
    replace hf := hf.to b1
    replace hw := hw.to b1
    replace hB := hB.trans b1
    clear b1
    obtain ⟨A0', a0', A1', a1', A2', a2', A3', a3', e0, rI, _⟩ := hw.r
    obtain ⟨rfl, rfl⟩ : A0 = A0' ∧ a0 = a0' := by simp at e0; exact ⟨e0.1.1, e0.1.2⟩
    clear e0
    go_wp2_with fail
    generalize (w2.alloc (.cells #[.int .i64 s.ro, .slice A0 s.lv.length a0, .slice A1 s.ms.length a1, .slice A2 s.ts.length a2, .slice A3 s.bd.length a3] 29)) = w3 at *
    refine (impl_WeightsOf s.ro A0 s.lv.length a0 s.lv _ rI HK.out).mono ?_
    rintro e_ w4 ⟨v4, rfl, hO, b1⟩
    replace g0 := pw_cell_below b1.out g0
    replace g1 := pw_cell_below b1.out g1
    replace g2 := pw_cell_below b1.out g2
    replace g3 := pw_cell_below b1.out g3
    replace g4 := pw_cell_below b1.out g4
    replace hf := hf.to b1
    replace hw := hw.to b1
    replace rI := rI.to b1
    replace hB := hB.trans b1
    obtain ⟨XW, yW, rfl, hcap, _⟩ := FO.reads (t := 3) (k := 1) ⟨hO.out⟩
    clear b1
    have rW := (FO.fr (t := 3) (k := 1) ⟨hO.out⟩).ri
    clear hO
    go_wp2_with fail
    refine (impl_cutsOf A n c L _ (r.to hB) hn).mono ?_
    rintro e_ w5 ⟨v5, rfl, hO, b1⟩
    replace g0 := pw_cell_below b1.out g0
    replace g1 := pw_cell_below b1.out g1
    replace g2 := pw_cell_below b1.out g2
    replace g3 := pw_cell_below b1.out g3
    replace g4 := pw_cell_below b1.out g4
    replace hf := hf.to b1
    replace hw := hw.to b1
    replace rI := rI.to b1
    replace rW := rW.to b1
    replace hB := hB.trans b1
    obtain ⟨XC, yC, rfl, _, _⟩ := FO.reads (t := 3) (k := 1) ⟨hO.out⟩
    clear b1
    have rC := (FO.fr (t := 3) (k := 1) ⟨hO.out⟩).ri
    clear hO
    go_wp2_with fail
    refine (impl_MaxPart XW _ yW (wts s.lv) XC (n + 1) yC (cutL L n) _ rW rC hcap).mono ?_
    rintro e_ w6 ⟨rfl, d1⟩
    have b1 := Bw.drawn d1
    replace g0 := pw_cell_below b1.out g0
    replace g1 := pw_cell_below b1.out g1
    replace g2 := pw_cell_below b1.out g2
    replace g3 := pw_cell_below b1.out g3
    replace g4 := pw_cell_below b1.out g4
    replace hf := hf.to b1
    replace hw := hw.to b1
    replace rI := rI.to b1
    replace rW := rW.to b1
    replace rC := rC.to b1
    replace hB := hB.trans b1
    clear b1 d1
    go_wp2_with fail
    refine (impl_MaxPart XW _ yW (wts s.lv) XF m yF F _ rW hf.rdI hcap).mono ?_
    rintro e_ w7 ⟨rfl, d1⟩
    have b1 := Bw.drawn d1
    replace hB := hB.trans b1
    have hx := maxPart_range (wts s.lv) (cutL L n)
    have hy := maxPart_range (wts s.lv) F
    obtain ⟨x, ex⟩ : ∃ x, maxPart (wts s.lv) (cutL L n) = x := ⟨_, rfl⟩
    obtain ⟨y, ey⟩ : ∃ y, maxPart (wts s.lv) F = y := ⟨_, rfl⟩
    rw [ex] at hx HI
    rw [ey] at hy HI
    rw [ex, ey]
    have e1 : wrap64 (x - y) = x - y := w64 (by omega) (by omega)
    have e2 : IntKind.i64.wrap (x - y) = x - y := i64w (by omega) (by omega)
    clear hx hy ex ey
    go_wp2
    go_ret
    exact ⟨ret_int HI.out.symm, hB⟩
set_option maxHeartbeats 8000000 in
set_option maxRecDepth 100000 in
theorem spec_Imbalance (A : Option Addr) (n c : Nat) (L : List Vf) (w : World) (r : VwR w A n L) (hn : n + szTo L n ≤ 1048576) :
    Calls Try.prog 30 #[.slice A n c] w fun e w' => e = .returned (.int .i64 (imbal L)) ∧ Bw w w' := by
  have hlen := r.len
  have hmax := r.max
  obtain ⟨s, hs⟩ : ∃ s, joinS L = s := ⟨_, rfl⟩
  obtain ⟨q, hq⟩ : ∃ q, bestOk L = q := ⟨_, rfl⟩
  obtain ⟨F, hF⟩ : ∃ F, bestL L = F := ⟨_, rfl⟩
  obtain ⟨m, hm⟩ : ∃ m, F.length = m := ⟨_, rfl⟩
  have HF := hid hF
  have HM := hid hm
  have hB := Bw.refl w
  cases q with
  | false =>
    have HI : Hid (imbal L = -1) := hid (by rw [imbal, if_neg (by rw [hq]; decide)])
    have HQ := hid hq
    clear hq hm hF hs
    go_enter Try.func30, Try.ntmps30
    go_wp2_with fail
    refine (spec_BestCuts' A n c L F m false _ r hn HF.out HM.out HQ.out).mono ?_
    rintro e_ w1 ⟨z1, XF, yF, hz1, rfl, hf, b1⟩
    go_wp2
    go_ret
    exact ⟨ret_int HI.out.symm, b1⟩
  | true =>
    have hj : joinOk L = true := by simp only [bestOk, Bool.and_eq_true] at hq; exact hq.1
    have HI : Hid (imbal L = maxPart (wts s.lv) (cutL L n) - maxPart (wts s.lv) F) := hid (by rw [imbal, if_pos hq, hs, hF, hlen])
    have HQ := hid hq
    have HS := hid hs
    have HJ := hid hj
    have HK : Hid (meshOk s.ro s.lv = true) := hid (by rw [← hs]; exact joinS_mesh hj)
    clear hq hm hF hs hj
    go_enter Try.func30, Try.ntmps30
    go_wp2_with fail
    refine (spec_BestCuts' A n c L F m true _ r hn HF.out HM.out HQ.out).mono ?_
    rintro e_ w1 ⟨z1, XF, yF, hz1, rfl, hf, b1⟩
    replace hB := hB.trans b1
    clear b1
    go_wp2_with fail
    refine (spec_JoinViews' A n c L s true _ (r.to hB) hn HS.out HJ.out).mono ?_
    rintro e_ w2 ⟨z2, A0, a0, A1, a1, A2, a2, A3, a3, hz2, rfl, hw, b1⟩
    replace hf := hf.to b1
    replace hB := hB.trans b1
    clear b1
    have g0 := box_cell (Bw.refl (w2.alloc (.cells #[.int .i64 s.ro, .slice A0 s.lv.length a0, .slice A1 s.ms.length a1, .slice A2 s.ts.length a2, .slice A3 s.bd.length a3] 29))) 0
    have g1 := box_cell (Bw.refl (w2.alloc (.cells #[.int .i64 s.ro, .slice A0 s.lv.length a0, .slice A1 s.ms.length a1, .slice A2 s.ts.length a2, .slice A3 s.bd.length a3] 29))) 1
    have g2 := box_cell (Bw.refl (w2.alloc (.cells #[.int .i64 s.ro, .slice A0 s.lv.length a0, .slice A1 s.ms.length a1, .slice A2 s.ts.length a2, .slice A3 s.bd.length a3] 29))) 2
    have g3 := box_cell (Bw.refl (w2.alloc (.cells #[.int .i64 s.ro, .slice A0 s.lv.length a0, .slice A1 s.ms.length a1, .slice A2 s.ts.length a2, .slice A3 s.bd.length a3] 29))) 3
    have g4 := box_cell (Bw.refl (w2.alloc (.cells #[.int .i64 s.ro, .slice A0 s.lv.length a0, .slice A1 s.ms.length a1, .slice A2 s.ts.length a2, .slice A3 s.bd.length a3] 29))) 4
    simp only [List.getElem?_toArray, List.getElem?_cons_zero, List.getElem?_cons_succ] at g0 g1 g2 g3 g4
    have b1 := Bw.box1 w2 (.cells #[.int .i64 s.ro, .slice A0 s.lv.length a0, .slice A1 s.ms.length a1, .slice A2 s.ts.length a2, .slice A3 s.bd.length a3] 29)
    replace hf := hf.to b1
    replace hw := hw.to b1
    replace hB := hB.trans b1
    clear b1
    obtain ⟨A0', a0', A1', a1', A2', a2', A3', a3', e0, rI, _⟩ := hw.r
    obtain ⟨rfl, rfl⟩ : A0 = A0' ∧ a0 = a0' := by simp at e0; exact ⟨e0.1.1, e0.1.2⟩
    clear e0
    go_wp2_with fail
    generalize (w2.alloc (.cells #[.int .i64 s.ro, .slice A0 s.lv.length a0, .slice A1 s.ms.length a1, .slice A2 s.ts.length a2, .slice A3 s.bd.length a3] 29)) = w3 at *
    refine (spec_WeightsOf s.ro A0 s.lv.length a0 s.lv _ rI HK.out).mono ?_
    rintro e_ w4 ⟨v4, rfl, hO, b1⟩
    replace g0 := pw_cell_below b1.out g0
    replace g1 := pw_cell_below b1.out g1
    replace g2 := pw_cell_below b1.out g2
    replace g3 := pw_cell_below b1.out g3
    replace g4 := pw_cell_below b1.out g4
    replace hf := hf.to b1
    replace hw := hw.to b1
    replace rI := rI.to b1
    replace hB := hB.trans b1
    obtain ⟨XW, yW, rfl, hcap, _⟩ := FO.reads (t := 3) (k := 1) ⟨hO.out⟩
    clear b1
    have rW := (FO.fr (t := 3) (k := 1) ⟨hO.out⟩).ri
    clear hO
    go_wp2_with fail
    refine (spec_l24Cuts A n c L _ (r.to hB) hn).mono ?_
    rintro e_ w5 ⟨v5, rfl, hO, b1⟩
    replace g0 := pw_cell_below b1.out g0
    replace g1 := pw_cell_below b1.out g1
    replace g2 := pw_cell_below b1.out g2
    replace g3 := pw_cell_below b1.out g3
    replace g4 := pw_cell_below b1.out g4
    replace hf := hf.to b1
    replace hw := hw.to b1
    replace rI := rI.to b1
    replace rW := rW.to b1
    replace hB := hB.trans b1
    obtain ⟨XC, yC, rfl, _, _⟩ := FO.reads (t := 3) (k := 1) ⟨hO.out⟩
    clear b1
    have rC := (FO.fr (t := 3) (k := 1) ⟨hO.out⟩).ri
    clear hO
    go_wp2_with fail
    refine (spec_MaxPart XW _ yW (wts s.lv) XC (n + 1) yC (cutL L n) _ rW rC hcap).mono ?_
    rintro e_ w6 ⟨rfl, d1⟩
    have b1 := Bw.drawn d1
    replace g0 := pw_cell_below b1.out g0
    replace g1 := pw_cell_below b1.out g1
    replace g2 := pw_cell_below b1.out g2
    replace g3 := pw_cell_below b1.out g3
    replace g4 := pw_cell_below b1.out g4
    replace hf := hf.to b1
    replace hw := hw.to b1
    replace rI := rI.to b1
    replace rW := rW.to b1
    replace rC := rC.to b1
    replace hB := hB.trans b1
    clear b1 d1
    go_wp2_with fail
    refine (spec_MaxPart XW _ yW (wts s.lv) XF m yF F _ rW hf.rdI hcap).mono ?_
    rintro e_ w7 ⟨rfl, d1⟩
    have b1 := Bw.drawn d1
    replace hB := hB.trans b1
    have hx := maxPart_range (wts s.lv) (cutL L n)
    have hy := maxPart_range (wts s.lv) F
    obtain ⟨x, ex⟩ : ∃ x, maxPart (wts s.lv) (cutL L n) = x := ⟨_, rfl⟩
    obtain ⟨y, ey⟩ : ∃ y, maxPart (wts s.lv) F = y := ⟨_, rfl⟩
    rw [ex] at hx HI
    rw [ey] at hy HI
    rw [ex, ey]
    have e1 : wrap64 (x - y) = x - y := w64 (by omega) (by omega)
    have e2 : IntKind.i64.wrap (x - y) = x - y := i64w (by omega) (by omega)
    clear hx hy ex ey
    go_wp2
    go_ret
    exact ⟨ret_int HI.out.symm, hB⟩
set_option maxHeartbeats 8000000 in
set_option maxRecDepth 100000 in
theorem laws_FnExactImbalance (A : Option Addr) (n c : Nat) (L : List Vf) (w : World) (r : VwR w A n L) :
    Calls Try.prog 7 #[.slice A n c] w fun e w' => e = .returned (.bool true) ∧ Bw w w' := by
  have hlen := r.len
  have hB := Bw.refl w
  go_enter Try.func7, Try.ntmps7
  go_wp2_with fail
  refine (szViewS A n c L _ r).mono ?_
  rintro e_ w1 ⟨lf, rfl, hlf, hsz, b1⟩
  replace hB := hB.trans b1
  clear b1
  by_cases hneg : lf < 0
  · have hd : decide (lf < 0) = true := decide_eq_true hneg
    clear hsz
    go_wp2
    go_ret
    exact ⟨rfl, hB⟩
  have hd : decide (lf < 0) = false := decide_eq_false hneg
  have hN := hsz (by omega)
  clear hsz hneg
  obtain ⟨F, hF⟩ : ∃ F, imbal L = F := ⟨_, rfl⟩
  have hqq : (F != F) = false := by simp
  have HF := hid hF
  clear hF
  have hsh := short_of hlen hN
  have hof := offs_of r hN
  have HSH := hid hsh
  have HOF := hid hof
  clear hsh hof
  go_wp2_with fail
  refine (toViewS' A n c L _ (r.to hB) hN).mono ?_
  rintro e_ w2 ⟨z2, AV1, cV1, hz2, rfl, V1, b1⟩
  have hy2 : w.heap.size ≤ z2 := by rw [hz2]; exact hB.size
  replace hB := hB.trans b1
  have hb2 := b1.size
  clear b1
  go_wp2_with fail
  refine (spec_Imbalance AV1 n cV1 L _ V1.rd hN).mono ?_
  rintro e_ w3 ⟨rfl, b1⟩
  rw [HF.out]
  replace hB := hB.trans b1
  clear b1 V1
  go_wp2_with fail
  refine (toViewS' A n c L _ (r.to hB) hN).mono ?_
  rintro e_ w5 ⟨z5, AX, cX, hz5, rfl, x0, b1⟩
  have hy5 : w.heap.size ≤ z5 := by rw [hz5]; exact hB.size
  replace hB := hB.trans b1
  have hb5 := b1.size
  clear b1
  go_wp2_with fail
  refine (impl_Imbalance AX n cX L _ x0.rd hN).mono ?_
  rintro e_ w6 ⟨rfl, b1⟩
  rw [HF.out]
  replace x0 := x0.to b1
  replace hB := hB.trans b1
  clear b1
  go_wp2_with fail
  refine (toViewS' A n c L _ (r.to hB) hN).mono ?_
  rintro e_ w9 ⟨z9, AY, cY, hz9, rfl, y0, b1⟩
  have hy9 : w.heap.size ≤ z9 := by rw [hz9]; exact hB.size
  replace x0 := x0.to b1
  replace hB := hB.trans b1
  have hb9 := b1.size
  clear b1
  go_wp2_with fail
  refine (eqViewS_yes AX n cX AY cY L _ x0.rd y0.rd).mono ?_
  rintro e_ w10 ⟨rfl, b1⟩
  replace hB := hB.trans b1
  go_wp2
  go_ret
  exact ⟨rfl, hB⟩
theorem law_Imbalance (A : Option Addr) (c : Nat) (l : List TV) (w : World) (h : Kd.C kV w A l.length l) (_ : l.length ≤ c) (_ : l.length ≤ 9223372036854775807) {P : Prop} (_ : P) :
    Calls Try.prog 7 #[.slice A l.length c] w fun e w' => e = .returned (.bool true) ∧ Bw w w' :=
  laws_FnExactImbalance A l.length c (l.map vfOf) w (VwR.of_C h)
end Go.Proofs.Ytcgikbidgknkpaa.U
