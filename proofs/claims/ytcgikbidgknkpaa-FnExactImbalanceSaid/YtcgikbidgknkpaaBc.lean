
/- BestCuts, by the program and by the reference. -/
import Derived.Test.YtcgikbidgknkpaaLJoinViews
import Derived.Test.YtcgikbidgknkpaaWo
import Derived.Test.YtcgikbidgknkpaaCw
import Derived.Test.YtcgikbidgknkpaaPq
import Derived.Test.YtcgikbidgknkpaaMp
set_option linter.unusedVariables false
set_option linter.unusedSimpArgs false
namespace Go.Proofs.Ytcgikbidgknkpaa.U
open Go.RowKit Go.Lib Go.Proofs.YtcgikbidgknkpaaW.PrintWords

def bestOk (L : List Vf) : Bool := joinOk L && decide (L.length ≤ 16)
noncomputable def bestL (L : List Vf) : List Int := if bestOk L = true then (partL (wts (joinS L).lv) (L.length : Nat)).1 else []
theorem joinS_mesh {L : List Vf} (h : joinOk L = true) : meshOk (joinS L).ro (joinS L).lv = true := by
  rw [joinS, if_pos h]
  simp only [joinOk, staOk, isBal, Bool.and_eq_true] at h
  exact h.2.1.1
theorem OI.less' {w : World} {base base' n : Nat} {v : Value} {l : List Int} (h : OI w base v n l) (hb : base' ≤ base) : OI w base' v n l := ⟨own_less h.out hb⟩
set_option maxHeartbeats 8000000 in
set_option maxRecDepth 100000 in
theorem impl_BestCuts (A : Option Addr) (n c : Nat) (L : List Vf) (w : World) (r : VwR w A n L) (hn : n + szTo L n ≤ 1048576) :
    Calls Try.prog 28 #[.slice A n c] w fun e w' => ∃ v, e = .returned (.tuple #[v, .bool (bestOk L)]) ∧ OI w' w.heap.size v (bestL L).length (bestL L) ∧ Bw w w' := by
  have hlen := r.len
  have hmax := r.max
  obtain ⟨s, hs⟩ : ∃ s, joinS L = s := ⟨_, rfl⟩
  obtain ⟨q, hq⟩ : ∃ q, joinOk L = q := ⟨_, rfl⟩
  cases q with
  | false =>
    have hb : bestOk L = false := by simp [bestOk, hq]
    have HB_ := hid hb
    have HL_ : Hid (bestL L = []) := hid (by rw [bestL, if_neg (by rw [hb]; decide)])
    have HQ := hid hq
    clear hb hq
    go_enter Try.func28, Try.ntmps28
    go_wp2_with fail
    refine (impl_JoinViews' A n c L s false _ r hn hs HQ.out).mono ?_
    rintro e_ w1 ⟨z1, A0, a0, A1, a1, A2, a2, A3, a3, hz1, rfl, hw, b1⟩
    have b2 := b1.trans (Bw.box1 w1 (.cells #[.int .i64 s.ro, .slice A0 s.lv.length a0, .slice A1 s.ms.length a1, .slice A2 s.ts.length a2, .slice A3 s.bd.length a3] 29))
    clear b1 hw
    go_wp2
    go_ret2
    exact ⟨_, by rw [HB_.out]; rfl, by rw [HL_.out]; exact ⟨(FO.nil _ _ 3 1).out⟩, b2⟩
  | true =>
    by_cases h16 : n ≤ 16
    case neg =>
      have hb : bestOk L = false := by simp [bestOk, hq, hlen]; omega
      have HB_ := hid hb
      have HL_ : Hid (bestL L = []) := hid (by rw [bestL, if_neg (by rw [hb]; decide)])
      have HQ := hid hq
      have t1 : decide ((16 : Int) < (n : Int)) = true := decide_eq_true (by omega)
      clear hb hq h16 hlen
      go_enter Try.func28, Try.ntmps28
      go_wp2_with fail
      refine (impl_JoinViews' A n c L s true _ r hn hs HQ.out).mono ?_
      rintro e_ w1 ⟨z1, A0, a0, A1, a1, A2, a2, A3, a3, hz1, rfl, hw, b1⟩
      have b2 := b1.trans (Bw.box1 w1 (.cells #[.int .i64 s.ro, .slice A0 s.lv.length a0, .slice A1 s.ms.length a1, .slice A2 s.ts.length a2, .slice A3 s.bd.length a3] 29))
      clear b1 hw
      go_wp2
      go_ret2
      exact ⟨_, by rw [HB_.out]; rfl, by rw [HL_.out]; exact ⟨(FO.nil _ _ 3 1).out⟩, b2⟩
    have hb : bestOk L = true := by simp [bestOk, hq, hlen]; omega
    have HB_ := hid hb
    have HL_ : Hid (bestL L = (partL (wts s.lv) n).1) := hid (by rw [bestL, if_pos hb, hs, hlen])
    have HQ := hid hq
    have HM : Hid (meshOk s.ro s.lv = true) := hid (by rw [← hs]; exact joinS_mesh hq)
    have t1 : decide ((16 : Int) < (n : Int)) = false := decide_eq_false (by omega)
    clear hb hq h16 hlen
    go_enter Try.func28, Try.ntmps28
    go_wp2_with fail
    refine (impl_JoinViews' A n c L s true _ r hn hs HQ.out).mono ?_
    rintro e_ w1 ⟨z1, A0, a0, A1, a1, A2, a2, A3, a3, hz1, rfl, hw, hB⟩
    have g0 := box_cell (Bw.refl (w1.alloc (.cells #[.int .i64 s.ro, .slice A0 s.lv.length a0, .slice A1 s.ms.length a1, .slice A2 s.ts.length a2, .slice A3 s.bd.length a3] 29))) 0
    have g1 := box_cell (Bw.refl (w1.alloc (.cells #[.int .i64 s.ro, .slice A0 s.lv.length a0, .slice A1 s.ms.length a1, .slice A2 s.ts.length a2, .slice A3 s.bd.length a3] 29))) 1
    have g2 := box_cell (Bw.refl (w1.alloc (.cells #[.int .i64 s.ro, .slice A0 s.lv.length a0, .slice A1 s.ms.length a1, .slice A2 s.ts.length a2, .slice A3 s.bd.length a3] 29))) 2
    have g3 := box_cell (Bw.refl (w1.alloc (.cells #[.int .i64 s.ro, .slice A0 s.lv.length a0, .slice A1 s.ms.length a1, .slice A2 s.ts.length a2, .slice A3 s.bd.length a3] 29))) 3
    have g4 := box_cell (Bw.refl (w1.alloc (.cells #[.int .i64 s.ro, .slice A0 s.lv.length a0, .slice A1 s.ms.length a1, .slice A2 s.ts.length a2, .slice A3 s.bd.length a3] 29))) 4
    simp only [List.getElem?_toArray, List.getElem?_cons_zero, List.getElem?_cons_succ] at g0 g1 g2 g3 g4
    have b1 := Bw.box1 w1 (.cells #[.int .i64 s.ro, .slice A0 s.lv.length a0, .slice A1 s.ms.length a1, .slice A2 s.ts.length a2, .slice A3 s.bd.length a3] 29)
    replace hw := hw.to b1
    replace hB := hB.trans b1
    clear b1
    obtain ⟨A0', a0', A1', a1', A2', a2', A3', a3', e0, rI, _⟩ := hw.r
    obtain ⟨rfl, rfl⟩ : A0 = A0' ∧ a0 = a0' := by simp at e0; exact ⟨e0.1.1, e0.1.2⟩
    clear e0
    go_wp2_with fail
    generalize (w1.alloc (.cells #[.int .i64 s.ro, .slice A0 s.lv.length a0, .slice A1 s.ms.length a1, .slice A2 s.ts.length a2, .slice A3 s.bd.length a3] 29)) = w2 at *
    refine (impl_WeightsOf s.ro A0 s.lv.length a0 s.lv _ rI HM.out).mono ?_
    rintro e_ w3 ⟨v3, rfl, hO, b1⟩
    replace g0 := pw_cell_below b1.out g0
    replace g1 := pw_cell_below b1.out g1
    replace g2 := pw_cell_below b1.out g2
    replace g3 := pw_cell_below b1.out g3
    replace g4 := pw_cell_below b1.out g4
    replace hw := hw.to b1
    replace rI := rI.to b1
    replace hB := hB.trans b1
    obtain ⟨XW, yW, rfl, hcap, fW⟩ := FO.reads (t := 3) (k := 1) ⟨hO.out⟩
    clear b1
    have rW := fW.ri
    go_wp2_with fail
    refine (impl_PartitionOf XW _ yW (wts s.lv) n _ rW hcap).mono ?_
    rintro e_ w4 ⟨v4, rfl, hP, b1⟩
    replace hO := hP.less' hB.size
    replace hB := hB.trans b1
    clear b1 hP
    have HO := hid hO
    clear hO
    go_wp2
    go_ret2
    exact ⟨_, by rw [HB_.out]; rfl, by rw [HL_.out]; exact HO.out, hB⟩
set_option maxHeartbeats 8000000 in
set_option maxRecDepth 100000 in
theorem spec_BestCuts (A : Option Addr) (n c : Nat) (L : List Vf) (w : World) (r : VwR w A n L) (hn : n + szTo L n ≤ 1048576) :
    Calls Try.prog 27 #[.slice A n c] w fun e w' => ∃ v, e = .returned (.tuple #[v, .bool (bestOk L)]) ∧ OI w' w.heap.size v (bestL L).length (bestL L) ∧ Bw w w' := by
  have hlen := r.len
  have hmax := r.max
  obtain ⟨s, hs⟩ : ∃ s, joinS L = s := ⟨_, rfl⟩
  obtain ⟨q, hq⟩ : ∃ q, joinOk L = q := ⟨_, rfl⟩
  cases q with
  | false =>
    have hb : bestOk L = false := by simp [bestOk, hq]
    have HB_ := hid hb
    have HL_ : Hid (bestL L = []) := hid (by rw [bestL, if_neg (by rw [hb]; decide)])
    have HQ := hid hq
    clear hb hq
    go_enter Try.func27, Try.ntmps27
    go_wp2_with fail
    refine (spec_JoinViews' A n c L s false _ r hn hs HQ.out).mono ?_
    rintro e_ w1 ⟨z1, A0, a0, A1, a1, A2, a2, A3, a3, hz1, rfl, hw, b1⟩
    have b2 := b1.trans (Bw.box1 w1 (.cells #[.int .i64 s.ro, .slice A0 s.lv.length a0, .slice A1 s.ms.length a1, .slice A2 s.ts.length a2, .slice A3 s.bd.length a3] 29))
    clear b1 hw
    go_wp2
    go_ret2
    exact ⟨_, by rw [HB_.out]; rfl, by rw [HL_.out]; exact (by have h := OI.lit0 (w1.alloc (.cells #[.int .i64 s.ro, .slice A0 s.lv.length a0, .slice A1 s.ms.length a1, .slice A2 s.ts.length a2, .slice A3 s.bd.length a3] 29)) w.heap.size b2.size; rwa [show (w1.alloc (.cells #[.int .i64 s.ro, .slice A0 s.lv.length a0, .slice A1 s.ms.length a1, .slice A2 s.ts.length a2, .slice A3 s.bd.length a3] 29)).heap.size = w1.heap.size + 1 by simp] at h), b2.trans (Bw.box1 _ _)⟩
  | true =>
    by_cases h16 : n ≤ 16
    case neg =>
      have hb : bestOk L = false := by simp [bestOk, hq, hlen]; omega
      have HB_ := hid hb
      have HL_ : Hid (bestL L = []) := hid (by rw [bestL, if_neg (by rw [hb]; decide)])
      have HQ := hid hq
      have t1 : decide ((16 : Int) < (n : Int)) = true := decide_eq_true (by omega)
      clear hb hq h16 hlen
      go_enter Try.func27, Try.ntmps27
      go_wp2_with fail
      refine (spec_JoinViews' A n c L s true _ r hn hs HQ.out).mono ?_
      rintro e_ w1 ⟨z1, A0, a0, A1, a1, A2, a2, A3, a3, hz1, rfl, hw, b1⟩
      have b2 := b1.trans (Bw.box1 w1 (.cells #[.int .i64 s.ro, .slice A0 s.lv.length a0, .slice A1 s.ms.length a1, .slice A2 s.ts.length a2, .slice A3 s.bd.length a3] 29))
      clear b1 hw
      go_wp2
      go_ret2
      exact ⟨_, by rw [HB_.out]; rfl, by rw [HL_.out]; exact (by have h := OI.lit0 (w1.alloc (.cells #[.int .i64 s.ro, .slice A0 s.lv.length a0, .slice A1 s.ms.length a1, .slice A2 s.ts.length a2, .slice A3 s.bd.length a3] 29)) w.heap.size b2.size; rwa [show (w1.alloc (.cells #[.int .i64 s.ro, .slice A0 s.lv.length a0, .slice A1 s.ms.length a1, .slice A2 s.ts.length a2, .slice A3 s.bd.length a3] 29)).heap.size = w1.heap.size + 1 by simp] at h), b2.trans (Bw.box1 _ _)⟩
    have hb : bestOk L = true := by simp [bestOk, hq, hlen]; omega
    have HB_ := hid hb
    have HL_ : Hid (bestL L = (partL (wts s.lv) n).1) := hid (by rw [bestL, if_pos hb, hs, hlen])
    have HQ := hid hq
    have HM : Hid (meshOk s.ro s.lv = true) := hid (by rw [← hs]; exact joinS_mesh hq)
    have t1 : decide ((16 : Int) < (n : Int)) = false := decide_eq_false (by omega)
    clear hb hq h16 hlen
    go_enter Try.func27, Try.ntmps27
    go_wp2_with fail
    refine (spec_JoinViews' A n c L s true _ r hn hs HQ.out).mono ?_
    rintro e_ w1 ⟨z1, A0, a0, A1, a1, A2, a2, A3, a3, hz1, rfl, hw, hB⟩
    have g0 := box_cell (Bw.refl (w1.alloc (.cells #[.int .i64 s.ro, .slice A0 s.lv.length a0, .slice A1 s.ms.length a1, .slice A2 s.ts.length a2, .slice A3 s.bd.length a3] 29))) 0
    have g1 := box_cell (Bw.refl (w1.alloc (.cells #[.int .i64 s.ro, .slice A0 s.lv.length a0, .slice A1 s.ms.length a1, .slice A2 s.ts.length a2, .slice A3 s.bd.length a3] 29))) 1
    have g2 := box_cell (Bw.refl (w1.alloc (.cells #[.int .i64 s.ro, .slice A0 s.lv.length a0, .slice A1 s.ms.length a1, .slice A2 s.ts.length a2, .slice A3 s.bd.length a3] 29))) 2
    have g3 := box_cell (Bw.refl (w1.alloc (.cells #[.int .i64 s.ro, .slice A0 s.lv.length a0, .slice A1 s.ms.length a1, .slice A2 s.ts.length a2, .slice A3 s.bd.length a3] 29))) 3
    have g4 := box_cell (Bw.refl (w1.alloc (.cells #[.int .i64 s.ro, .slice A0 s.lv.length a0, .slice A1 s.ms.length a1, .slice A2 s.ts.length a2, .slice A3 s.bd.length a3] 29))) 4
    simp only [List.getElem?_toArray, List.getElem?_cons_zero, List.getElem?_cons_succ] at g0 g1 g2 g3 g4
    have b1 := Bw.box1 w1 (.cells #[.int .i64 s.ro, .slice A0 s.lv.length a0, .slice A1 s.ms.length a1, .slice A2 s.ts.length a2, .slice A3 s.bd.length a3] 29)
    replace hw := hw.to b1
    replace hB := hB.trans b1
    clear b1
    obtain ⟨A0', a0', A1', a1', A2', a2', A3', a3', e0, rI, _⟩ := hw.r
    obtain ⟨rfl, rfl⟩ : A0 = A0' ∧ a0 = a0' := by simp at e0; exact ⟨e0.1.1, e0.1.2⟩
    clear e0
    go_wp2_with fail
    generalize (w1.alloc (.cells #[.int .i64 s.ro, .slice A0 s.lv.length a0, .slice A1 s.ms.length a1, .slice A2 s.ts.length a2, .slice A3 s.bd.length a3] 29)) = w2 at *
    refine (spec_WeightsOf s.ro A0 s.lv.length a0 s.lv _ rI HM.out).mono ?_
    rintro e_ w3 ⟨v3, rfl, hO, b1⟩
    replace g0 := pw_cell_below b1.out g0
    replace g1 := pw_cell_below b1.out g1
    replace g2 := pw_cell_below b1.out g2
    replace g3 := pw_cell_below b1.out g3
    replace g4 := pw_cell_below b1.out g4
    replace hw := hw.to b1
    replace rI := rI.to b1
    replace hB := hB.trans b1
    obtain ⟨XW, yW, rfl, hcap, fW⟩ := FO.reads (t := 3) (k := 1) ⟨hO.out⟩
    clear b1
    have rW := fW.ri
    go_wp2_with fail
    refine (spec_PartitionOf XW _ yW (wts s.lv) n _ rW hcap).mono ?_
    rintro e_ w4 ⟨v4, rfl, hP, b1⟩
    replace hO := hP.less' hB.size
    replace hB := hB.trans b1
    clear b1 hP
    have HO := hid hO
    clear hO
    go_wp2
    go_ret2
    exact ⟨_, by rw [HB_.out]; rfl, by rw [HL_.out]; exact HO.out, hB⟩
end Go.Proofs.Ytcgikbidgknkpaa.U
