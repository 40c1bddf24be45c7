
/- Recut of the program and of the reference. -/
import Derived.Test.YtpgdemclfheimaaSx
import Derived.Test.YtpgdemclfheimaaLJoinViews
set_option linter.unusedVariables false
set_option linter.unusedSimpArgs false
namespace Go.Proofs.Ytpgdemclfheimaa.U
open Go.RowKit Go.Lib Go.Proofs.YtpgdemclfheimaaW.PrintWords

theorem joinS_ok {L : List Vf} (h : joinOk L = true) : StF (joinS L) := by
  rw [joinS, if_pos h]
  simp only [joinOk, Bool.and_eq_true] at h
  exact StF.of h.2
/-- the views cut anew -/
noncomputable def recOk (L : List Vf) (cuts : List Int) : Bool := joinOk L && cutsOk (joinS L).lv.length cuts
noncomputable def recL (L : List Vf) (cuts : List Int) : List Vf := if recOk L cuts = true then parts (joinS L) cuts else []
set_option maxHeartbeats 4000000 in
theorem impl_Recut (A : Option Addr) (n c : Nat) (L : List Vf) (C : Option Addr) (m d : Nat) (cuts : List Int) (w : World) (r : VwR w A n L) (hn : n + szTo L n ≤ 1048576) (rc : RI w C m cuts) :
    Calls Try.prog 26 #[.slice A n c, .slice C m d] w fun e w' => ∃ v, e = .returned (.tuple #[v, .bool (recOk L cuts)]) ∧ VwO w' w.heap.size w'.heap.size v (recL L cuts).length (recL L cuts) ∧ Bw w w' := by
  obtain ⟨s, hs⟩ : ∃ s, joinS L = s := ⟨_, rfl⟩
  obtain ⟨q, hq⟩ : ∃ q, joinOk L = q := ⟨_, rfl⟩
  have hlen := rc.len
  cases q with
  | false =>
    have hR := hid (show recL L cuts = [] ∧ recOk L cuts = false by simp [recL, recOk, hq])
    go_enter Try.func26, Try.ntmps26
    go_wp2_with fail
    refine (impl_JoinViews' A n c L s false _ r hn hs hq).mono ?_
    rintro e_ w1 ⟨z1, A0, a0, A1, a1, A2, a2, A3, a3, hz1, rfl, hO, b1⟩
    have b2 := Bw.box1 w1 (.cells #[.int .i64 s.ro, .slice A0 s.lv.length a0, .slice A1 s.ms.length a1, .slice A2 s.ts.length a2, .slice A3 s.bd.length a3] 29)
    go_wp2
    exact bodyPost_ret (v := .tuple #[.slice none 0 0, .bool false]) (by simp [results, Try.results26, go_sem]) rfl ⟨_, by rw [hR.out.2], by rw [hR.out.1]; exact VwO.emp _ _ _, (b1.trans b2)⟩
  | true =>
    have hF : StF s := by rw [← hs]; exact joinS_ok hq
    have hl := hF.n
    have HF := hid hF
    cases hc : cutsOk s.lv.length cuts with
    | false =>
      have hR := hid (show recL L cuts = [] ∧ recOk L cuts = false by simp [recL, recOk, hq, hs, hc])
      have HC := hid hc
      clear hc hF
      go_enter Try.func26, Try.ntmps26
      go_wp2_with fail
      refine (impl_JoinViews' A n c L s true _ r hn hs hq).mono ?_
      rintro e_ w1 ⟨z1, A0, a0, A1, a1, A2, a2, A3, a3, hz1, rfl, hO, b1⟩
      have b2 := Bw.box1 w1 (.cells #[.int .i64 s.ro, .slice A0 s.lv.length a0, .slice A1 s.ms.length a1, .slice A2 s.ts.length a2, .slice A3 s.bd.length a3] 29)
      have g0 := box_cell (Bw.refl (w1.alloc (.cells #[.int .i64 s.ro, .slice A0 s.lv.length a0, .slice A1 s.ms.length a1, .slice A2 s.ts.length a2, .slice A3 s.bd.length a3] 29))) 0
      have g1 := box_cell (Bw.refl (w1.alloc (.cells #[.int .i64 s.ro, .slice A0 s.lv.length a0, .slice A1 s.ms.length a1, .slice A2 s.ts.length a2, .slice A3 s.bd.length a3] 29))) 1
      have g2 := box_cell (Bw.refl (w1.alloc (.cells #[.int .i64 s.ro, .slice A0 s.lv.length a0, .slice A1 s.ms.length a1, .slice A2 s.ts.length a2, .slice A3 s.bd.length a3] 29))) 2
      have g3 := box_cell (Bw.refl (w1.alloc (.cells #[.int .i64 s.ro, .slice A0 s.lv.length a0, .slice A1 s.ms.length a1, .slice A2 s.ts.length a2, .slice A3 s.bd.length a3] 29))) 3
      have g4 := box_cell (Bw.refl (w1.alloc (.cells #[.int .i64 s.ro, .slice A0 s.lv.length a0, .slice A1 s.ms.length a1, .slice A2 s.ts.length a2, .slice A3 s.bd.length a3] 29))) 4
      simp only [List.getElem?_toArray, List.getElem?_cons_zero, List.getElem?_cons_succ] at g0 g1 g2 g3 g4
      go_wp2_with fail
      refine (impl_CutsOk (s.lv.length : Int) C m d cuts _ ((rc.to b1).to b2)).mono ?_
      rintro e_ w3 ⟨rfl, d3⟩
      skip
      rw [HC.out]
      have b3 := Bw.drawn d3
      go_wp2
      exact bodyPost_ret (v := .tuple #[.slice none 0 0, .bool false]) (by simp [results, Try.results26, go_sem]) rfl ⟨_, by rw [hR.out.2], by rw [hR.out.1]; exact VwO.emp _ _ _, ((b1.trans b2).trans b3)⟩
    | true =>
      have hR := hid (show recL L cuts = parts s cuts ∧ recOk L cuts = true by simp [recL, recOk, hq, hs, hc])
      have HC := hid hc
      clear hc hF
      go_enter Try.func26, Try.ntmps26
      go_wp2_with fail
      refine (impl_JoinViews' A n c L s true _ r hn hs hq).mono ?_
      rintro e_ w1 ⟨z1, A0, a0, A1, a1, A2, a2, A3, a3, hz1, rfl, hO, b1⟩
      have b2 := Bw.box1 w1 (.cells #[.int .i64 s.ro, .slice A0 s.lv.length a0, .slice A1 s.ms.length a1, .slice A2 s.ts.length a2, .slice A3 s.bd.length a3] 29)
      have g0 := box_cell (Bw.refl (w1.alloc (.cells #[.int .i64 s.ro, .slice A0 s.lv.length a0, .slice A1 s.ms.length a1, .slice A2 s.ts.length a2, .slice A3 s.bd.length a3] 29))) 0
      have g1 := box_cell (Bw.refl (w1.alloc (.cells #[.int .i64 s.ro, .slice A0 s.lv.length a0, .slice A1 s.ms.length a1, .slice A2 s.ts.length a2, .slice A3 s.bd.length a3] 29))) 1
      have g2 := box_cell (Bw.refl (w1.alloc (.cells #[.int .i64 s.ro, .slice A0 s.lv.length a0, .slice A1 s.ms.length a1, .slice A2 s.ts.length a2, .slice A3 s.bd.length a3] 29))) 2
      have g3 := box_cell (Bw.refl (w1.alloc (.cells #[.int .i64 s.ro, .slice A0 s.lv.length a0, .slice A1 s.ms.length a1, .slice A2 s.ts.length a2, .slice A3 s.bd.length a3] 29))) 3
      have g4 := box_cell (Bw.refl (w1.alloc (.cells #[.int .i64 s.ro, .slice A0 s.lv.length a0, .slice A1 s.ms.length a1, .slice A2 s.ts.length a2, .slice A3 s.bd.length a3] 29))) 4
      simp only [List.getElem?_toArray, List.getElem?_cons_zero, List.getElem?_cons_succ] at g0 g1 g2 g3 g4
      go_wp2_with fail
      refine (impl_CutsOk (s.lv.length : Int) C m d cuts _ ((rc.to b1).to b2)).mono ?_
      rintro e_ w3 ⟨rfl, d3⟩
      skip
      rw [HC.out]
      have b3 := Bw.drawn d3
      replace g0 := pw_cell_below b3.out g0
      replace g1 := pw_cell_below b3.out g1
      replace g2 := pw_cell_below b3.out g2
      replace g3 := pw_cell_below b3.out g3
      replace g4 := pw_cell_below b3.out g4
      go_wp2_with fail
      have bb := (b1.trans b2).trans b3
      refine (impl_splitState _ s C m d cuts _ ((hO.c.to b2).to b3) HF.out (rc.to bb) HC.out).mono ?_
      rintro e_ w4 ⟨v, rfl, hV, b4⟩
      have hP : (parts s cuts).length = m - 1 := by rw [parts_length, hlen]
      have HV := hid hV
      clear hV
      go_wp2
      exact bodyPost_ret (v := .tuple #[v, .bool true]) (by simp [results, Try.results26, go_sem]) rfl ⟨v, by rw [hR.out.2], by rw [hR.out.1, hP]; exact HV.out.less bb.size, bb.trans b4⟩
set_option maxHeartbeats 4000000 in
theorem spec_Recut (A : Option Addr) (n c : Nat) (L : List Vf) (C : Option Addr) (m d : Nat) (cuts : List Int) (w : World) (r : VwR w A n L) (hn : n + szTo L n ≤ 1048576) (rc : RI w C m cuts) :
    Calls Try.prog 25 #[.slice A n c, .slice C m d] w fun e w' => ∃ v, e = .returned (.tuple #[v, .bool (recOk L cuts)]) ∧ VwO w' w.heap.size w'.heap.size v (recL L cuts).length (recL L cuts) ∧ Bw w w' := by
  obtain ⟨s, hs⟩ : ∃ s, joinS L = s := ⟨_, rfl⟩
  obtain ⟨q, hq⟩ : ∃ q, joinOk L = q := ⟨_, rfl⟩
  have hlen := rc.len
  cases q with
  | false =>
    have hR := hid (show recL L cuts = [] ∧ recOk L cuts = false by simp [recL, recOk, hq])
    go_enter Try.func25, Try.ntmps25
    go_wp2_with fail
    refine (spec_JoinViews' A n c L s false _ r hn hs hq).mono ?_
    rintro e_ w1 ⟨z1, A0, a0, A1, a1, A2, a2, A3, a3, hz1, rfl, hO, b1⟩
    have b2 := Bw.box1 w1 (.cells #[.int .i64 s.ro, .slice A0 s.lv.length a0, .slice A1 s.ms.length a1, .slice A2 s.ts.length a2, .slice A3 s.bd.length a3] 29)
    go_wp2
    exact bodyPost_ret (v := .tuple #[.slice (some ⟨(w1.alloc (.cells #[.int .i64 s.ro, .slice A0 s.lv.length a0, .slice A1 s.ms.length a1, .slice A2 s.ts.length a2, .slice A3 s.bd.length a3] 29)).heap.size, 0, none⟩) 0 0, .bool false]) (by simp [results, Try.results25, go_sem]) rfl ⟨_, by rw [hR.out.2], by rw [hR.out.1]; exact VwO.lit0 (w1.alloc (.cells #[.int .i64 s.ro, .slice A0 s.lv.length a0, .slice A1 s.ms.length a1, .slice A2 s.ts.length a2, .slice A3 s.bd.length a3] 29)) w.heap.size (b1.trans b2).size, (b1.trans b2).trans (Bw.box1 (w1.alloc (.cells #[.int .i64 s.ro, .slice A0 s.lv.length a0, .slice A1 s.ms.length a1, .slice A2 s.ts.length a2, .slice A3 s.bd.length a3] 29)) (.cells #[] 61))⟩
  | true =>
    have hF : StF s := by rw [← hs]; exact joinS_ok hq
    have hl := hF.n
    have HF := hid hF
    cases hc : cutsOk s.lv.length cuts with
    | false =>
      have hR := hid (show recL L cuts = [] ∧ recOk L cuts = false by simp [recL, recOk, hq, hs, hc])
      have HC := hid hc
      clear hc hF
      go_enter Try.func25, Try.ntmps25
      go_wp2_with fail
      refine (spec_JoinViews' A n c L s true _ r hn hs hq).mono ?_
      rintro e_ w1 ⟨z1, A0, a0, A1, a1, A2, a2, A3, a3, hz1, rfl, hO, b1⟩
      have b2 := Bw.box1 w1 (.cells #[.int .i64 s.ro, .slice A0 s.lv.length a0, .slice A1 s.ms.length a1, .slice A2 s.ts.length a2, .slice A3 s.bd.length a3] 29)
      have g0 := box_cell (Bw.refl (w1.alloc (.cells #[.int .i64 s.ro, .slice A0 s.lv.length a0, .slice A1 s.ms.length a1, .slice A2 s.ts.length a2, .slice A3 s.bd.length a3] 29))) 0
      have g1 := box_cell (Bw.refl (w1.alloc (.cells #[.int .i64 s.ro, .slice A0 s.lv.length a0, .slice A1 s.ms.length a1, .slice A2 s.ts.length a2, .slice A3 s.bd.length a3] 29))) 1
      have g2 := box_cell (Bw.refl (w1.alloc (.cells #[.int .i64 s.ro, .slice A0 s.lv.length a0, .slice A1 s.ms.length a1, .slice A2 s.ts.length a2, .slice A3 s.bd.length a3] 29))) 2
      have g3 := box_cell (Bw.refl (w1.alloc (.cells #[.int .i64 s.ro, .slice A0 s.lv.length a0, .slice A1 s.ms.length a1, .slice A2 s.ts.length a2, .slice A3 s.bd.length a3] 29))) 3
      have g4 := box_cell (Bw.refl (w1.alloc (.cells #[.int .i64 s.ro, .slice A0 s.lv.length a0, .slice A1 s.ms.length a1, .slice A2 s.ts.length a2, .slice A3 s.bd.length a3] 29))) 4
      simp only [List.getElem?_toArray, List.getElem?_cons_zero, List.getElem?_cons_succ] at g0 g1 g2 g3 g4
      go_wp2_with fail
      refine (spec_CutsOk (s.ms.length : Int) C m d cuts _ ((rc.to b1).to b2)).mono ?_
      rintro e_ w3 ⟨rfl, d3⟩
      skip
      rw [show (s.ms.length : Int) = (s.lv.length : Int) by have := HF.out.ms; omega, HC.out]
      have b3 := Bw.drawn d3
      go_wp2
      exact bodyPost_ret (v := .tuple #[.slice (some ⟨w3.heap.size, 0, none⟩) 0 0, .bool false]) (by simp [results, Try.results25, go_sem]) rfl ⟨_, by rw [hR.out.2], by rw [hR.out.1]; exact VwO.lit0 w3 w.heap.size ((b1.trans b2).trans b3).size, ((b1.trans b2).trans b3).trans (Bw.box1 w3 (.cells #[] 61))⟩
    | true =>
      have hR := hid (show recL L cuts = parts s cuts ∧ recOk L cuts = true by simp [recL, recOk, hq, hs, hc])
      have HC := hid hc
      clear hc hF
      go_enter Try.func25, Try.ntmps25
      go_wp2_with fail
      refine (spec_JoinViews' A n c L s true _ r hn hs hq).mono ?_
      rintro e_ w1 ⟨z1, A0, a0, A1, a1, A2, a2, A3, a3, hz1, rfl, hO, b1⟩
      have b2 := Bw.box1 w1 (.cells #[.int .i64 s.ro, .slice A0 s.lv.length a0, .slice A1 s.ms.length a1, .slice A2 s.ts.length a2, .slice A3 s.bd.length a3] 29)
      have g0 := box_cell (Bw.refl (w1.alloc (.cells #[.int .i64 s.ro, .slice A0 s.lv.length a0, .slice A1 s.ms.length a1, .slice A2 s.ts.length a2, .slice A3 s.bd.length a3] 29))) 0
      have g1 := box_cell (Bw.refl (w1.alloc (.cells #[.int .i64 s.ro, .slice A0 s.lv.length a0, .slice A1 s.ms.length a1, .slice A2 s.ts.length a2, .slice A3 s.bd.length a3] 29))) 1
      have g2 := box_cell (Bw.refl (w1.alloc (.cells #[.int .i64 s.ro, .slice A0 s.lv.length a0, .slice A1 s.ms.length a1, .slice A2 s.ts.length a2, .slice A3 s.bd.length a3] 29))) 2
      have g3 := box_cell (Bw.refl (w1.alloc (.cells #[.int .i64 s.ro, .slice A0 s.lv.length a0, .slice A1 s.ms.length a1, .slice A2 s.ts.length a2, .slice A3 s.bd.length a3] 29))) 3
      have g4 := box_cell (Bw.refl (w1.alloc (.cells #[.int .i64 s.ro, .slice A0 s.lv.length a0, .slice A1 s.ms.length a1, .slice A2 s.ts.length a2, .slice A3 s.bd.length a3] 29))) 4
      simp only [List.getElem?_toArray, List.getElem?_cons_zero, List.getElem?_cons_succ] at g0 g1 g2 g3 g4
      go_wp2_with fail
      refine (spec_CutsOk (s.ms.length : Int) C m d cuts _ ((rc.to b1).to b2)).mono ?_
      rintro e_ w3 ⟨rfl, d3⟩
      skip
      rw [show (s.ms.length : Int) = (s.lv.length : Int) by have := HF.out.ms; omega, HC.out]
      have b3 := Bw.drawn d3
      replace g0 := pw_cell_below b3.out g0
      replace g1 := pw_cell_below b3.out g1
      replace g2 := pw_cell_below b3.out g2
      replace g3 := pw_cell_below b3.out g3
      replace g4 := pw_cell_below b3.out g4
      go_wp2_with fail
      have bb := (b1.trans b2).trans b3
      refine (spec_l24Split _ s C m d cuts _ ((hO.c.to b2).to b3) HF.out (rc.to bb) HC.out).mono ?_
      rintro e_ w4 ⟨v, rfl, hV, b4⟩
      have hP : (parts s cuts).length = m - 1 := by rw [parts_length, hlen]
      have HV := hid hV
      clear hV
      go_wp2
      exact bodyPost_ret (v := .tuple #[v, .bool true]) (by simp [results, Try.results25, go_sem]) rfl ⟨v, by rw [hR.out.2], by rw [hR.out.1, hP]; exact HV.out.less bb.size, bb.trans b4⟩
end Go.Proofs.Ytpgdemclfheimaa.U
