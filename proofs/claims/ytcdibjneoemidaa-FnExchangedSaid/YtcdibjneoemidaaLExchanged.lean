
/- The law FnExchanged. -/
import Derived.Test.YtcdibjneoemidaaKv
import Derived.Test.YtcdibjneoemidaaKq
set_option linter.unusedVariables false
set_option linter.unusedSimpArgs false
namespace Go.Proofs.Ytcdibjneoemidaa.U
open Go.RowKit Go.Lib Go.Proofs.YtcdibjneoemidaaW.PrintWords

theorem lawbigE (A : Option Addr) (n c : Nat) (w : World) : Calls Try.prog 15 #[.slice A n c] w fun e w' => e = .returned (.bool (decide (1048576 < (n : Int)))) ∧ w = w' := by
  go_enter Try.func15, Try.ntmps15
  go_wp2
  go_ret
  exact ⟨rfl, rfl⟩
set_option maxHeartbeats 2000000 in
theorem sameInts_yesE (A : Option Addr) (n c : Nat) (B : Option Addr) (d : Nat) (l : List Int) (w : World) (r : RI w A n l) (q : RI w B n l) :
    Calls Try.prog 18 #[.slice A n c, .slice B n d] w fun e w' => e = .returned (.bool true) ∧ Drawn0 w w' := by
  have hmax := r.max
  have HL := hid r.len
  go_enter Try.func18, Try.ntmps18
  go_wp2
  go_loopw [5] (fun v5 wr => ∃ j : Nat, j ≤ n ∧ v5 = .int .i64 j ∧ Hid (Drawn0 w wr)) (fun v5 _ => n - (RowKit.intOf v5).toNat)
  case atStart => exact ⟨0, by omega, rfl, hid (Drawn0.refl _)⟩
  case round =>
    obtain ⟨j, hj, rfl, hD⟩ := hrel
    by_cases hlt : j < n
    · have t1 : decide ((j : Int) < (n : Int)) = true := decide_eq_true (by omega)
      obtain ⟨ad, rfl, hc0⟩ := (r.dr hD.out).nat j hlt
      obtain ⟨ae, rfl, hc1⟩ := (q.dr hD.out).nat j hlt
      generalize rd l (j : Int) = x at *
      have i4 : (0 : Int) ≤ (j : Int) := by omega
      have i5 : (j : Int) < (n : Int) := by omega
      go_wp2
      go_quiet (fail)
      go_wp2
      go_roundw
      case rel => exact ⟨j + 1, by omega, by go_num, hid (hD.out.step _)⟩
      case measure => simp [RowKit.intOf]; omega
    · obtain rfl : j = n := by omega
      have t1 : decide ((j : Int) < (j : Int)) = false := decide_eq_false (by omega)
      go_wp2
      go_ret
      exact ⟨rfl, hD.out⟩

open Go.Proofs.YtcdibjneoemidaaW.PrintLast Go.Proofs.YtcdibjneoemidaaW.PrintMore
theorem good_full {vs : List Int} {s : Ib} (h : Good vs s) (hl : ¬ s.g.length < vs.length) : s.g = vs := by
  have h1 := h.gl
  refine List.ext_getElem (by omega) fun i h2 h3 => ?_
  have h4 := h.gv i h2
  rw [rd_nat, rd_nat, List.getD_eq_getElem?_getD, List.getD_eq_getElem?_getD, List.getElem?_eq_getElem h2, List.getElem?_eq_getElem h3] at h4
  exact h4
theorem exS_good {vs sc : List Int} (h : exOk vs sc = true) : (exS vs sc).1 = vs ∧ 0 ≤ (exS vs sc).2 ∧ (exS vs sc).2 ≤ (vs.length : Int) ∧ (sc = [] → ((exS vs sc).2 == 0) = ((vs.length : Int) == 0)) := by
  have hn : vs.length ≤ 1000 := by
    simp only [exOk, Bool.and_eq_true, decide_eq_true_eq] at h
    omega
  have hf := exR_facts hn vs.length (sentS vs sc sc.length) 0 (good_sent vs sc hn _) (by omega)
  rw [exS, if_pos h]
  refine ⟨good_full hf.1 hf.2.1, by simp only; omega, by simp only; omega, fun hs => ?_⟩
  subst hs
  simp only [List.length_nil, sentS]
  obtain ⟨k, hk⟩ : ∃ k, vs.length = k := ⟨_, rfl⟩
  cases k with
  | zero => rw [hk]; rfl
  | succ k =>
    have h0 : (⟨[], []⟩ : Ib).g.length < vs.length := by rw [hk]; exact Nat.succ_pos k
    have hr := round_up (Good.zero vs) hn h0
    have hf2 := exR_facts hn k (roundS vs ⟨[], []⟩) 1 hr.1 (by have := hr.2; omega)
    rw [hk, exR, if_pos h0]
    have e1 : (((exR vs k (roundS vs ⟨[], []⟩) (0 + 1)).2 : Int) == 0) = false := by
      have := hf2.2.2.1
      simp only [Nat.zero_add]
      simp
      omega
    rw [e1]
    symm
    simp
    omega
theorem impl_Ex' (A : Option Addr) (n c : Nat) (l : List Int) (Bs : Option Addr) (m ds : Nat) (sc : List Int) (w : World) (r : RI w A n l) (q : RI w Bs m sc) (hn : n ≤ 100) (hm : m ≤ 1000) (hw : ∀ x ∈ sc, 0 ≤ x ∧ x ≤ 1000) :
    Calls Try.prog 21 #[.slice A n c, .slice Bs m ds] w fun e w' => ∃ X y k, e = .returned (.tuple #[.slice X n y, .int .i64 k]) ∧ OI w' w.heap.size (.slice X n y) n l ∧ Bw w w' ∧ 0 ≤ k ∧ k ≤ (n : Int) ∧ (sc = [] → (k == 0) = ((n : Int) == 0)) := by
  have hln := r.len
  have hsn := q.len
  have hok : exOk l sc = true := exOk_all (by omega) (by omega) (fun j hj => (hw _ (rd_mem hj)).1)
  have hg := exS_good hok
  refine (impl_Exchange A n c l Bs m ds sc w r q (fun x hx => by have := hw x hx; omega)).mono ?_
  rintro e w' ⟨v, rfl, o, b⟩
  rw [hg.1, hln] at o
  rw [hln] at hg
  obtain ⟨X, y, rfl, _⟩ := o.reads
  exact ⟨X, y, _, rfl, o, b, hg.2.1, hg.2.2.1, hg.2.2.2⟩
set_option maxHeartbeats 4000000 in
set_option maxRecDepth 100000 in
theorem law_Exchanged (A0 : Option Addr) (n0 c0 : Nat) (l0 : List Int) (w : World) (r : ReadsInt w .u8 A0 n0 l0) (wf : ∀ x ∈ l0, 0 ≤ x ∧ x ≤ 255) :
    Calls Try.prog 5 #[.slice A0 n0 c0] w fun e w' => e = .returned (.bool true) ∧ Bw w w' := by
  have WF := hid wf
  clear wf
  by_cases hb : n0 ≤ 1048576
  case neg =>
    have t1 : decide (1048576 < (n0 : Int)) = true := decide_eq_true (by omega)
    have T1 := hid t1
    clear t1
    go_enter Try.func5, Try.ntmps5
    go_wp2_with fail
    refine (toBool (lawbigE _ _ _ _) T1.out).mono ?_
    rintro e w1 ⟨rfl, rfl⟩
    go_wp2
    go_ret
    exact ⟨rfl, Bw.refl _⟩
  have t1 : decide (1048576 < (n0 : Int)) = false := decide_eq_false (by omega)
  have T1 := hid t1
  clear t1
  go_enter Try.func5, Try.ntmps5
  go_wp2_with fail
  refine (toBool (lawbigE _ _ _ _) T1.out).mono ?_
  rintro e w1 ⟨rfl, rfl⟩
  go_wp2_with fail
  refine (DrawScript A0 n0 c0 l0 _ r WF.out hb).mono ?_
  rintro e w1 ⟨A, n, c, l, Bs, m, ds, sc, rfl, hl, hsc, ⟨hn, hm, hsb⟩, b1⟩
  have HL := hid hl.ri
  have HS := hid hsc.ri
  have HSB := hid hsb
  have HB1 := hid b1
  clear hl hsc hsb b1 r
  go_wp2_with fail
  refine (impl_Ex' A n c l Bs m ds sc _ HL.out HS.out (by omega) (by omega) HSB.out).mono ?_
  rintro e w2 ⟨X, y, k, rfl, o2, b2, hk0, hk1, _⟩
  have bL := Bw.box1 w2 (.cells #[] 3)
  have hz := OI.lit0 w2 w2.heap.size (Nat.le_refl _)
  have HZ := hid hz.ri
  replace HL := hid (HL.out.to (b2.trans bL))
  have HO := hid (o2.to bL)
  replace HB1 := hid (HB1.out.trans (b2.trans bL))
  clear b2 bL hz o2
  go_wp2_with fail
  generalize (w2.alloc (.cells #[] 3)) = W3 at *
  refine (impl_Ex' A n c l _ 0 0 [] _ HL.out HZ.out (by omega) (by omega) (fun x hx => by cases hx)).mono ?_
  rintro e w4 ⟨X2, y2, k2, rfl, o4, b4, _, _, hz4⟩
  have hk2 := hz4 rfl
  replace HL := hid (HL.out.to b4)
  replace HO := hid (HO.out.to b4)
  have HO4 := hid o4
  replace HB1 := hid (HB1.out.trans b4)
  clear b4 o4 hz4
  obtain ⟨b, hb1⟩ : ∃ b, ((n : Int) == 0) = b := ⟨_, rfl⟩
  rw [hb1] at hk2
  have hb2 : (n == 0) = b := by
    rw [← hb1]
    by_cases h : n = 0
    · rw [h]; rfl
    · rw [beq_eq_false_iff_ne.2 h, beq_eq_false_iff_ne.2 (show (n : Int) ≠ 0 by omega)]
  have t3 : decide (k ≥ 0) = true := decide_eq_true hk0
  have t3' : decide (0 ≤ k) = true := decide_eq_true hk0
  have t4 : decide (k ≤ (n : Int)) = true := decide_eq_true hk1
  clear hk0 hk1
  go_wp2_with fail
  refine (sameInts_yesE X n y A c l _ HO.out.ri HL.out).mono ?_
  rintro e w5 ⟨rfl, d5⟩
  have b5 := Bw.drawn d5
  replace HL := hid (HL.out.to b5)
  replace HO4 := hid (HO4.out.to b5)
  replace HB1 := hid (HB1.out.trans b5)
  clear b5 d5
  go_wp2_with fail
  refine (sameInts_yesE X2 n y2 A c l _ HO4.out.ri HL.out).mono ?_
  rintro e w6 ⟨rfl, d6⟩
  have HBF := hid (HB1.out.trans (Bw.drawn d6))
  clear d6
  cases b with
  | true =>
    go_wp2
    go_ret
    exact ⟨rfl, HBF.out⟩
  | false =>
    go_wp2
    go_ret
    exact ⟨rfl, HBF.out⟩
end Go.Proofs.Ytcdibjneoemidaa.U
