
/- SplitState of the program and of the reference. -/
import Derived.Test.YtaemkneppphkmaaSw
import Derived.Test.YtaemkneppphkmaaSs
import Derived.Test.YtaemkneppphkmaaLJoinViews
set_option linter.unusedVariables false
set_option linter.unusedSimpArgs false
namespace Go.Proofs.Ytaemkneppphkmaa.U
open Go.RowKit Go.Lib Go.Proofs.YtaemkneppphkmaaW.PrintWords

theorem VwO.emp (w : World) (lo hi : Nat) : VwO w lo hi (.slice none 0 0) 0 [] := ⟨_, _, rfl, rfl, by omega, fun h0 => by omega⟩
theorem VwO.lit0 (w : World) (lo : Nat) (h : lo ≤ w.heap.size) : VwO (w.alloc (.cells #[] 45)) lo (w.alloc (.cells #[] 45)).heap.size (.slice (some ⟨w.heap.size, 0, none⟩) 0 0) 0 [] :=
  (VG.nil _ lo w.heap.size (fun _ => partV sta0 0 0) (World.ownsRow_lit (base := lo) (e := 45) (size := 7) w #[] 0 h (by simp [maxLen]) (by simp))).vwo (L := []) rfl (fun i hi => by omega)
theorem VwO.less {w : World} {lo lo' hi n : Nat} {v : Value} {L : List Vf} (h : VwO w lo hi v n L) (hl : lo' ≤ lo) : VwO w lo' hi v n L := by
  obtain ⟨A, c, rfl, h1, h2, h3⟩ := h
  refine ⟨_, _, rfl, h1, h2, fun h0 => ?_⟩
  obtain ⟨g, cs, b, e, rfl, hb⟩ := h3 h0
  exact ⟨g, cs, b, e, rfl, ⟨hb.blk, ⟨Nat.le_trans hl hb.ing.1, hb.ing.2⟩, hb.size, fun i hi => ⟨Nat.le_trans hl (hb.iv i hi).1, (hb.iv i hi).2⟩, hb.sep, hb.el⟩⟩
/-- the views into which a state is cut -/
noncomputable def splitS (s : Sta) (cuts : List Int) : List Vf := if (staOk s.ro s.lv s.ms s.ts s.bd && cutsOk s.lv.length cuts) = true then parts s cuts else []
set_option maxHeartbeats 4000000 in
theorem impl_SplitState (x : Value) (s : Sta) (C : Option Addr) (n c : Nat) (cuts : List Int) (w : World) (hx : StC w x s) (r : RI w C n cuts) :
    Calls Try.prog 20 #[x, .slice C n c] w fun e w' => ∃ v, e = .returned v ∧ VwO w' w.heap.size w'.heap.size v (splitS s cuts).length (splitS s cuts) ∧ Bw w w' := by
  have hx0 := hx
  obtain ⟨A0, c0, A1, c1, A2, c2, A3, c3, rfl, r0, r1, r2, r3, k0, k1, k2, k3⟩ := hx
  have hlen := r.len
  have b0 := Bw.box1 w (.cells #[.int .i64 s.ro, .slice A0 s.lv.length c0, .slice A1 s.ms.length c1, .slice A2 s.ts.length c2, .slice A3 s.bd.length c3] 36)
  have g0 := box_cell (Bw.refl (w.alloc (.cells #[.int .i64 s.ro, .slice A0 s.lv.length c0, .slice A1 s.ms.length c1, .slice A2 s.ts.length c2, .slice A3 s.bd.length c3] 36))) 0
  have g1 := box_cell (Bw.refl (w.alloc (.cells #[.int .i64 s.ro, .slice A0 s.lv.length c0, .slice A1 s.ms.length c1, .slice A2 s.ts.length c2, .slice A3 s.bd.length c3] 36))) 1
  have g2 := box_cell (Bw.refl (w.alloc (.cells #[.int .i64 s.ro, .slice A0 s.lv.length c0, .slice A1 s.ms.length c1, .slice A2 s.ts.length c2, .slice A3 s.bd.length c3] 36))) 2
  have g3 := box_cell (Bw.refl (w.alloc (.cells #[.int .i64 s.ro, .slice A0 s.lv.length c0, .slice A1 s.ms.length c1, .slice A2 s.ts.length c2, .slice A3 s.bd.length c3] 36))) 3
  have g4 := box_cell (Bw.refl (w.alloc (.cells #[.int .i64 s.ro, .slice A0 s.lv.length c0, .slice A1 s.ms.length c1, .slice A2 s.ts.length c2, .slice A3 s.bd.length c3] 36))) 4
  simp only [List.getElem?_toArray, List.getElem?_cons_zero, List.getElem?_cons_succ] at g0 g1 g2 g3 g4
  have HSZ := hid (show w.heap.size ≤ (w.alloc (.cells #[.int .i64 s.ro, .slice A0 s.lv.length c0, .slice A1 s.ms.length c1, .slice A2 s.ts.length c2, .slice A3 s.bd.length c3] 36)).heap.size from b0.size)
  have HX0 := hid hx0
  cases ho : staOk s.ro s.lv s.ms s.ts s.bd with
  | false =>
    have hS := hid (show splitS s cuts = [] by simp [splitS, ho])
    have HO := hid ho
    clear ho
    go_enter Try.func20, Try.ntmps20
    go_wp2_with fail
    refine (impl_StateOk _ A0 _ c0 s.lv A1 _ c1 s.ms A2 _ c2 s.ts A3 _ c3 s.bd _ (r0.to b0) (r1.to b0) (r2.to b0) (r3.to b0)).mono ?_
    rintro e_ w1 ⟨rfl, b1⟩
    rw [HO.out]
    go_wp2
    exact bodyPost_ret (v := .slice none 0 0) (by simp [results, Try.results20, go_sem]) rfl ⟨_, rfl, by rw [hS.out]; exact VwO.emp _ _ _, b0.trans b1⟩
  | true =>
    have hF := StF.of ho
    have hl := hF.n
    have HO := hid ho
    have HF := hid hF
    clear ho hF
    cases hc : cutsOk s.lv.length cuts with
    | false =>
      have hS := hid (show splitS s cuts = [] by simp [splitS, HO.out, hc])
      have HC := hid hc
      clear hc
      go_enter Try.func20, Try.ntmps20
      go_wp2_with fail
      refine (impl_StateOk _ A0 _ c0 s.lv A1 _ c1 s.ms A2 _ c2 s.ts A3 _ c3 s.bd _ (r0.to b0) (r1.to b0) (r2.to b0) (r3.to b0)).mono ?_
      rintro e_ w1 ⟨rfl, b1⟩
      rw [HO.out]
      replace g0 := pw_cell_below b1.out g0
      replace g1 := pw_cell_below b1.out g1
      replace g2 := pw_cell_below b1.out g2
      replace g3 := pw_cell_below b1.out g3
      replace g4 := pw_cell_below b1.out g4
      go_wp2_with fail
      refine (impl_CutsOk (s.lv.length : Int) C n c cuts _ ((r.to b0).to b1)).mono ?_
      rintro e_ w2 ⟨rfl, d2⟩
      skip
      rw [HC.out]
      have b2 := Bw.drawn d2
      go_wp2
      exact bodyPost_ret (v := .slice none 0 0) (by simp [results, Try.results20, go_sem]) rfl ⟨_, rfl, by rw [hS.out]; exact VwO.emp _ _ _, (b0.trans b1).trans b2⟩
    | true =>
      have hS := hid (show splitS s cuts = parts s cuts by simp [splitS, HO.out, hc])
      have HC := hid hc
      clear hc
      go_enter Try.func20, Try.ntmps20
      go_wp2_with fail
      refine (impl_StateOk _ A0 _ c0 s.lv A1 _ c1 s.ms A2 _ c2 s.ts A3 _ c3 s.bd _ (r0.to b0) (r1.to b0) (r2.to b0) (r3.to b0)).mono ?_
      rintro e_ w1 ⟨rfl, b1⟩
      rw [HO.out]
      replace g0 := pw_cell_below b1.out g0
      replace g1 := pw_cell_below b1.out g1
      replace g2 := pw_cell_below b1.out g2
      replace g3 := pw_cell_below b1.out g3
      replace g4 := pw_cell_below b1.out g4
      go_wp2_with fail
      refine (impl_CutsOk (s.lv.length : Int) C n c cuts _ ((r.to b0).to b1)).mono ?_
      rintro e_ w2 ⟨rfl, d2⟩
      skip
      rw [HC.out]
      have b2 := Bw.drawn d2
      replace g0 := pw_cell_below b2.out g0
      replace g1 := pw_cell_below b2.out g1
      replace g2 := pw_cell_below b2.out g2
      replace g3 := pw_cell_below b2.out g3
      replace g4 := pw_cell_below b2.out g4
      go_wp2_with fail
      have bb := (b0.trans b1).trans b2
      refine (impl_splitState _ s C n c cuts _ (HX0.out.to bb) HF.out (r.to bb) HC.out).mono ?_
      rintro e_ w3 ⟨v, rfl, hV, b3⟩
      have hP : (parts s cuts).length = n - 1 := by rw [parts_length, hlen]
      have HV := hid hV
      clear hV
      go_wp2
      exact bodyPost_ret (v := v) (by simp [results, Try.results20, go_sem]) rfl ⟨_, rfl, by rw [hS.out, hP]; exact HV.out.less bb.size, bb.trans b3⟩
end Go.Proofs.Ytaemkneppphkmaa.U
set_option linter.unusedVariables false
set_option linter.unusedSimpArgs false
namespace Go.Proofs.Ytaemkneppphkmaa.U
open Go.RowKit Go.Lib Go.Proofs.YtaemkneppphkmaaW.PrintWords

theorem joinS_ok {L : List Vf} (h : joinOk L = true) : StF (joinS L) := by
  rw [joinS, if_pos h]
  simp only [joinOk, Bool.and_eq_true] at h
  exact StF.of h.2
/-- the views cut anew -/
noncomputable def recOk (L : List Vf) (cuts : List Int) : Bool := joinOk L && cutsOk (joinS L).lv.length cuts
noncomputable def recL (L : List Vf) (cuts : List Int) : List Vf := if recOk L cuts = true then parts (joinS L) cuts else []
set_option maxHeartbeats 4000000 in
theorem impl_Recut (A : Option Addr) (n c : Nat) (L : List Vf) (C : Option Addr) (m d : Nat) (cuts : List Int) (w : World) (r : VwR w A n L) (hn : n + szTo L n ≤ 1048576) (rc : RI w C m cuts) :
    Calls Try.prog 26 #[.slice A n c, .slice C m d] w fun e w' => ∃ v, e = .returned (.tuple #[v, .bool (recOk L cuts)]) ∧ VwO w' w.heap.size w'.heap.size v (recL L cuts).length (recL L cuts) ∧ Bw w w' := by
  obtain ⟨s, hs⟩ : ∃ s, joinS L = s := ⟨_, rfl⟩
  obtain ⟨q, hq⟩ : ∃ q, joinOk L = q := ⟨_, rfl⟩
  have hlen := rc.len
  cases q with
  | false =>
    have hR := hid (show recL L cuts = [] ∧ recOk L cuts = false by simp [recL, recOk, hq])
    go_enter Try.func26, Try.ntmps26
    go_wp2_with fail
    refine (impl_JoinViews' A n c L s false _ r hn hs hq).mono ?_
    rintro e_ w1 ⟨z1, A0, a0, A1, a1, A2, a2, A3, a3, hz1, rfl, hO, b1⟩
    have b2 := Bw.box1 w1 (.cells #[.int .i64 s.ro, .slice A0 s.lv.length a0, .slice A1 s.ms.length a1, .slice A2 s.ts.length a2, .slice A3 s.bd.length a3] 36)
    go_wp2
    exact bodyPost_ret (v := .tuple #[.slice none 0 0, .bool false]) (by simp [results, Try.results26, go_sem]) rfl ⟨_, by rw [hR.out.2], by rw [hR.out.1]; exact VwO.emp _ _ _, (b1.trans b2)⟩
  | true =>
    have hF : StF s := by rw [← hs]; exact joinS_ok hq
    have hl := hF.n
    have HF := hid hF
    cases hc : cutsOk s.lv.length cuts with
    | false =>
      have hR := hid (show recL L cuts = [] ∧ recOk L cuts = false by simp [recL, recOk, hq, hs, hc])
      have HC := hid hc
      clear hc hF
      go_enter Try.func26, Try.ntmps26
      go_wp2_with fail
      refine (impl_JoinViews' A n c L s true _ r hn hs hq).mono ?_
      rintro e_ w1 ⟨z1, A0, a0, A1, a1, A2, a2, A3, a3, hz1, rfl, hO, b1⟩
      have b2 := Bw.box1 w1 (.cells #[.int .i64 s.ro, .slice A0 s.lv.length a0, .slice A1 s.ms.length a1, .slice A2 s.ts.length a2, .slice A3 s.bd.length a3] 36)
      have g0 := box_cell (Bw.refl (w1.alloc (.cells #[.int .i64 s.ro, .slice A0 s.lv.length a0, .slice A1 s.ms.length a1, .slice A2 s.ts.length a2, .slice A3 s.bd.length a3] 36))) 0
      have g1 := box_cell (Bw.refl (w1.alloc (.cells #[.int .i64 s.ro, .slice A0 s.lv.length a0, .slice A1 s.ms.length a1, .slice A2 s.ts.length a2, .slice A3 s.bd.length a3] 36))) 1
      have g2 := box_cell (Bw.refl (w1.alloc (.cells #[.int .i64 s.ro, .slice A0 s.lv.length a0, .slice A1 s.ms.length a1, .slice A2 s.ts.length a2, .slice A3 s.bd.length a3] 36))) 2
      have g3 := box_cell (Bw.refl (w1.alloc (.cells #[.int .i64 s.ro, .slice A0 s.lv.length a0, .slice A1 s.ms.length a1, .slice A2 s.ts.length a2, .slice A3 s.bd.length a3] 36))) 3
      have g4 := box_cell (Bw.refl (w1.alloc (.cells #[.int .i64 s.ro, .slice A0 s.lv.length a0, .slice A1 s.ms.length a1, .slice A2 s.ts.length a2, .slice A3 s.bd.length a3] 36))) 4
      simp only [List.getElem?_toArray, List.getElem?_cons_zero, List.getElem?_cons_succ] at g0 g1 g2 g3 g4
      go_wp2_with fail
      refine (impl_CutsOk (s.lv.length : Int) C m d cuts _ ((rc.to b1).to b2)).mono ?_
      rintro e_ w3 ⟨rfl, d3⟩
      skip
      rw [HC.out]
      have b3 := Bw.drawn d3
      go_wp2
      exact bodyPost_ret (v := .tuple #[.slice none 0 0, .bool false]) (by simp [results, Try.results26, go_sem]) rfl ⟨_, by rw [hR.out.2], by rw [hR.out.1]; exact VwO.emp _ _ _, ((b1.trans b2).trans b3)⟩
    | true =>
      have hR := hid (show recL L cuts = parts s cuts ∧ recOk L cuts = true by simp [recL, recOk, hq, hs, hc])
      have HC := hid hc
      clear hc hF
      go_enter Try.func26, Try.ntmps26
      go_wp2_with fail
      refine (impl_JoinViews' A n c L s true _ r hn hs hq).mono ?_
      rintro e_ w1 ⟨z1, A0, a0, A1, a1, A2, a2, A3, a3, hz1, rfl, hO, b1⟩
      have b2 := Bw.box1 w1 (.cells #[.int .i64 s.ro, .slice A0 s.lv.length a0, .slice A1 s.ms.length a1, .slice A2 s.ts.length a2, .slice A3 s.bd.length a3] 36)
      have g0 := box_cell (Bw.refl (w1.alloc (.cells #[.int .i64 s.ro, .slice A0 s.lv.length a0, .slice A1 s.ms.length a1, .slice A2 s.ts.length a2, .slice A3 s.bd.length a3] 36))) 0
      have g1 := box_cell (Bw.refl (w1.alloc (.cells #[.int .i64 s.ro, .slice A0 s.lv.length a0, .slice A1 s.ms.length a1, .slice A2 s.ts.length a2, .slice A3 s.bd.length a3] 36))) 1
      have g2 := box_cell (Bw.refl (w1.alloc (.cells #[.int .i64 s.ro, .slice A0 s.lv.length a0, .slice A1 s.ms.length a1, .slice A2 s.ts.length a2, .slice A3 s.bd.length a3] 36))) 2
      have g3 := box_cell (Bw.refl (w1.alloc (.cells #[.int .i64 s.ro, .slice A0 s.lv.length a0, .slice A1 s.ms.length a1, .slice A2 s.ts.length a2, .slice A3 s.bd.length a3] 36))) 3
      have g4 := box_cell (Bw.refl (w1.alloc (.cells #[.int .i64 s.ro, .slice A0 s.lv.length a0, .slice A1 s.ms.length a1, .slice A2 s.ts.length a2, .slice A3 s.bd.length a3] 36))) 4
      simp only [List.getElem?_toArray, List.getElem?_cons_zero, List.getElem?_cons_succ] at g0 g1 g2 g3 g4
      go_wp2_with fail
      refine (impl_CutsOk (s.lv.length : Int) C m d cuts _ ((rc.to b1).to b2)).mono ?_
      rintro e_ w3 ⟨rfl, d3⟩
      skip
      rw [HC.out]
      have b3 := Bw.drawn d3
      replace g0 := pw_cell_below b3.out g0
      replace g1 := pw_cell_below b3.out g1
      replace g2 := pw_cell_below b3.out g2
      replace g3 := pw_cell_below b3.out g3
      replace g4 := pw_cell_below b3.out g4
      go_wp2_with fail
      have bb := (b1.trans b2).trans b3
      refine (impl_splitState _ s C m d cuts _ ((hO.c.to b2).to b3) HF.out (rc.to bb) HC.out).mono ?_
      rintro e_ w4 ⟨v, rfl, hV, b4⟩
      have hP : (parts s cuts).length = m - 1 := by rw [parts_length, hlen]
      have HV := hid hV
      clear hV
      go_wp2
      exact bodyPost_ret (v := .tuple #[v, .bool true]) (by simp [results, Try.results26, go_sem]) rfl ⟨v, by rw [hR.out.2], by rw [hR.out.1, hP]; exact HV.out.less bb.size, bb.trans b4⟩
end Go.Proofs.Ytaemkneppphkmaa.U
