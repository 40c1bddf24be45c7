
/- The law FnUndone returns true at all codes. -/
import Derived.Test.YtaidbdogolhnjaaYj
import Derived.Test.YtaidbdogolhnjaaYk
import Derived.Test.YtaidbdogolhnjaaG13
import Derived.Test.YtaidbdogolhnjaaG10
import Derived.Test.YtaidbdogolhnjaaG8
set_option linter.unusedVariables false
set_option linter.unusedSimpArgs false
namespace Go.Proofs.Ytaidbdogolhnjaa.U
open Go.RowKit Go.Lib Go.Proofs.YtaidbdogolhnjaaW.PrintWords

open Go.Proofs.YtaidbdogolhnjaaW.PrintLast Go.Proofs.YtaidbdogolhnjaaW.PrintMore
theorem StR_mUndone {w : World} {x : Value} {s z : Sta} {m : Nat} (h : StR w x z) (e : z.ro = s.ro ∧ z.lv.length = m ∧ z.ms.length = m ∧ z.ts.length = m ∧ z.bd.length = s.bd.length) :
    ∃ (A0 : Option Addr) (c0 : Nat) (A1 : Option Addr) (c1 : Nat) (A2 : Option Addr) (c2 : Nat) (A3 : Option Addr) (c3 : Nat), x = .agg #[.int .i64 s.ro, .slice A0 m c0, .slice A1 m c1, .slice A2 m c2, .slice A3 s.bd.length c3] ∧ RI w A1 m z.ms := by
  obtain ⟨A0, c0, A1, c1, A2, c2, A3, c3, rfl, r0, r1, r2, r3⟩ := h
  obtain ⟨e0, e1, e2, e3, e4⟩ := e
  rw [e0, e1, e2, e3, e4]
  rw [e2] at r1
  exact ⟨_, _, _, _, _, _, _, _, rfl, r1⟩
set_option maxHeartbeats 8000000 in
set_option maxRecDepth 100000 in
theorem law_Undone (A : Option Addr) (n c : Nat) (l : List Int) (w : World) (r : ReadsInt w .u8 A n l) (wf : ∀ x ∈ l, 0 ≤ x ∧ x ≤ 255) :
    Calls Try.prog 3 #[.slice A n c] w fun e w' => e = .returned (.bool true) ∧ Bw w w' := by
  have WF := hid wf
  clear wf
  by_cases hb : n ≤ 1048576
  · have t1 : decide (1048576 < (n : Int)) = false := decide_eq_false (by omega)
    have T1 := hid t1
    clear t1
    go_enter Try.func3, Try.ntmps3
    go_wp2_with fail
    refine (toBool (lawbig _ _ _ _) T1.out).mono ?_
    rintro e w1 ⟨rfl, rfl⟩
    go_wp2_with fail
    refine (DrawState A n c l _ r WF.out hb).mono ?_
    rintro e w1 ⟨x, s, rfl, hs, hO, b1⟩
    obtain ⟨m, hm⟩ : ∃ m, s.lv.length = m := ⟨_, rfl⟩
    have hms : s.ms.length = m := by rw [hs.cs.lm, hm]
    have hts : s.ts.length = m := by rw [hs.cs.lt, hm]
    have hm1 : 1 ≤ m ∧ m ≤ 48 := by
      have h1 := hs.ok
      simp only [staOk, isBal, Bool.and_eq_true] at h1
      have := meshOk_len h1.1.1
      have := hs.n
      omega
    have HOK := hid hs.ok
    have HLEN := hid (show s.ro = s.ro ∧ s.lv.length = m ∧ s.ms.length = m ∧ s.ts.length = m ∧ s.bd.length = s.bd.length from ⟨rfl, hm, hms, hts, rfl⟩)
    have HM := hid (show s.lv.length = m ∧ s.ms.length = m ∧ s.ts.length = m from ⟨hm, hms, hts⟩)
    obtain ⟨X0, y0, X1, y1, X2, y2, X3, y3, rfl, q1⟩ := StR_mUndone hO.r HLEN.out
    clear hs hm hms hts
    have b2 := Bw.box1 w1 (.cells #[.int .i64 s.ro, .slice X0 m y0, .slice X1 m y1, .slice X2 m y2, .slice X3 s.bd.length y3] 29)
    have g0 := box_cell (Bw.refl (w1.alloc (.cells #[.int .i64 s.ro, .slice X0 m y0, .slice X1 m y1, .slice X2 m y2, .slice X3 s.bd.length y3] 29))) 0
    have g1 := box_cell (Bw.refl (w1.alloc (.cells #[.int .i64 s.ro, .slice X0 m y0, .slice X1 m y1, .slice X2 m y2, .slice X3 s.bd.length y3] 29))) 1
    have g2 := box_cell (Bw.refl (w1.alloc (.cells #[.int .i64 s.ro, .slice X0 m y0, .slice X1 m y1, .slice X2 m y2, .slice X3 s.bd.length y3] 29))) 2
    have g3 := box_cell (Bw.refl (w1.alloc (.cells #[.int .i64 s.ro, .slice X0 m y0, .slice X1 m y1, .slice X2 m y2, .slice X3 s.bd.length y3] 29))) 3
    have g4 := box_cell (Bw.refl (w1.alloc (.cells #[.int .i64 s.ro, .slice X0 m y0, .slice X1 m y1, .slice X2 m y2, .slice X3 s.bd.length y3] 29))) 4
    simp only [List.getElem?_toArray, List.getElem?_cons_zero, List.getElem?_cons_succ] at g0 g1 g2 g3 g4
    have hB := b1.trans b2
    have hs1 : w.heap.size ≤ w1.heap.size := b1.size
    have hz1 : (w1.alloc (.cells #[.int .i64 s.ro, .slice X0 m y0, .slice X1 m y1, .slice X2 m y2, .slice X3 s.bd.length y3] 29)).heap.size = w1.heap.size + 1 := by simp
    have HZ1 := hid hz1
    replace hO := hO.to b2
    clear b1 b2 hz1
    go_wp2_with fail
    generalize (w1.alloc (.cells #[.int .i64 s.ro, .slice X0 m y0, .slice X1 m y1, .slice X2 m y2, .slice X3 s.bd.length y3] 29)) = w2 at *
    refine (DrawPlaces A n c l _ (r.below hB.out) WF.out hb).mono ?_
    rintro e w3 ⟨P, m2, pc, ps, rfl, hp, ⟨rfl, hpb⟩, b3⟩
    have hpl := hp.len
    have hp0 : ∀ i : Nat, i < 12 → 0 ≤ rd ps (i : Int) ∧ rd ps (i : Int) < 10000 := fun i hi => hpb _ (by
      rw [rd_nat, List.getD_eq_getElem?_getD, List.getElem?_eq_getElem (by omega)]
      exact List.getElem_mem (by omega))
    have hq0 : 0 ≤ rd ps 0 ∧ rd ps 0 < 10000 := hp0 0 (by omega)
    have hq1 : 0 ≤ rd ps 1 ∧ rd ps 1 < 10000 := hp0 1 (by omega)
    obtain ⟨ap, rfl, hcp⟩ := hp.ri.nat 0 (by omega)
    obtain ⟨_, ea, hcp1⟩ := hp.ri.nat 1 (by omega)
    obtain rfl := Option.some.inj ea
    have hcp0 : w3.cell? ap = some (.int .i64 (rd ps 0)) := hcp
    replace hcp1 : w3.cell? ⟨ap.block, ap.off + 1, none⟩ = some (.int .i64 (rd ps 1)) := by rw [add_pos _ _ (by omega)] at hcp1; exact hcp1
    clear hcp hp0 hpb hp ea hpl
    obtain ⟨p0, hp0⟩ : ∃ p, rd ps 0 = p := ⟨_, rfl⟩
    obtain ⟨p1, hp1⟩ : ∃ p, rd ps 1 = p := ⟨_, rfl⟩
    rw [hp0] at hcp0 hq0
    rw [hp1] at hcp1 hq1
    clear hp0 hp1
    replace g0 := pw_cell_below b3.out g0
    replace g1 := pw_cell_below b3.out g1
    replace g2 := pw_cell_below b3.out g2
    replace g3 := pw_cell_below b3.out g3
    replace g4 := pw_cell_below b3.out g4
    replace hB := hB.trans b3
    replace hO := hO.to b3
    clear b3 q1
    obtain ⟨i, hi0, hi1⟩ : ∃ i : Nat, Int.tmod p0 (m : Int) = (i : Int) ∧ i < m := by
      refine ⟨(Int.tmod p0 (m : Int)).toNat, ?_, ?_⟩
      · rw [Int.tmod_eq_emod_of_nonneg hq0.1]
        have := Int.emod_nonneg p0 (show (m : Int) ≠ 0 by omega)
        omega
      · rw [Int.tmod_eq_emod_of_nonneg hq0.1]
        have h1 := Int.emod_nonneg p0 (show (m : Int) ≠ 0 by omega)
        have h2 := Int.emod_lt_of_pos p0 (show (0 : Int) < m by omega)
        omega
    have em0 : ((m : Int) == 0) = false := by simp; omega
    have em1 : ¬ ((m : Int) = 0) := by omega
    have HI := hid hi1
    clear hi1
    go_upto_region 5 with fail
    go_quiet (fail)
    have bq : Bw w3 (w3.drewN nq) := Bw.drawn ⟨⟨nq, rfl⟩⟩
    replace g0 := pw_cell_below bq.out g0
    replace g1 := pw_cell_below bq.out g1
    replace g2 := pw_cell_below bq.out g2
    replace g3 := pw_cell_below bq.out g3
    replace g4 := pw_cell_below bq.out g4
    replace hB := hB.trans bq
    replace hO := hO.to bq
    clear bq hcp0 hcp1
    generalize w3.drewN nq = w4 at *
    go_wp2_with fail
    refine (impl_RefineState _ s i _ hO.r HOK.out (by rw [HM.out.1]; exact HI.out)).mono ?_
    rintro e w5 ⟨v, rfl, hX, b5⟩
    have HREF := hid (show refOk s i = refOk s i from rfl)
    cases hrf : refOk s i with
    | false =>
      rw [hrf] at hX
      have hX' : StO w5 w4.heap.size w5.heap.size v s := hX
      obtain ⟨Y0, u0, Y1, u1, Y2, u2, Y3, u3, rfl, _⟩ := StR_mUndone (s := s) (m := m) hX'.r ⟨rfl, HM.out.1, HM.out.2.1, HM.out.2.2, rfl⟩
      have b6 := Bw.box1 w5 (.cells #[.int .i64 s.ro, .slice Y0 m u0, .slice Y1 m u1, .slice Y2 m u2, .slice Y3 s.bd.length u3] 29)
      have h0 := box_cell (Bw.refl (w5.alloc (.cells #[.int .i64 s.ro, .slice Y0 m u0, .slice Y1 m u1, .slice Y2 m u2, .slice Y3 s.bd.length u3] 29))) 0
      have h1 := box_cell (Bw.refl (w5.alloc (.cells #[.int .i64 s.ro, .slice Y0 m u0, .slice Y1 m u1, .slice Y2 m u2, .slice Y3 s.bd.length u3] 29))) 1
      have h2 := box_cell (Bw.refl (w5.alloc (.cells #[.int .i64 s.ro, .slice Y0 m u0, .slice Y1 m u1, .slice Y2 m u2, .slice Y3 s.bd.length u3] 29))) 2
      have h3 := box_cell (Bw.refl (w5.alloc (.cells #[.int .i64 s.ro, .slice Y0 m u0, .slice Y1 m u1, .slice Y2 m u2, .slice Y3 s.bd.length u3] 29))) 3
      have h4 := box_cell (Bw.refl (w5.alloc (.cells #[.int .i64 s.ro, .slice Y0 m u0, .slice Y1 m u1, .slice Y2 m u2, .slice Y3 s.bd.length u3] 29))) 4
      simp only [List.getElem?_toArray, List.getElem?_cons_zero, List.getElem?_cons_succ] at h0 h1 h2 h3 h4
      have bb := b5.trans b6
      replace g0 := pw_cell_below bb.out g0
      replace g1 := pw_cell_below bb.out g1
      replace g2 := pw_cell_below bb.out g2
      replace g3 := pw_cell_below bb.out g3
      replace g4 := pw_cell_below bb.out g4
      have HB6 := hid (hB.trans bb)
      have HX6 := hid (hX'.to b6)
      have HO6 := hid (hO.to bb)
      clear hX hX' hB hO b5 b6 bb hrf HREF
      go_wp2_with fail
      refine (spec_SameState_yes _ _ s _ HX6.out.r HO6.out.r).mono ?_
      rintro e w6 ⟨rfl, b6⟩
      have hBF := HB6.out.trans b6
      go_wp2
      go_ret
      exact ⟨rfl, hBF⟩
    | true =>
      have HRF := hid hrf
      rw [hrf] at hX
      have hX' : StO w5 w4.heap.size w5.heap.size v (refS s i) := hX
      have hil : i < s.lv.length := by rw [HM.out.1]; exact HI.out
      have hrr := hrf
      rw [refOk, Bool.and_eq_true, decide_eq_true_iff] at hrr
      have hx1 : staOk (refS s i).ro (refS s i).lv (refS s i).ms (refS s i).ts (refS s i).bd = true := staOk_iff.2 ⟨hrr.2, refS_has (staOk_iff.1 HOK.out).2 hil⟩
      have HXOK := hid hx1
      have HMAY := hid (show mayB (refS s i).lv i = true from may_split (staOk_iff.1 HOK.out).1 hil hrr.1)
      have HMER := hid (mer_ref HOK.out hil hrr.1)
      have hlen : (refS s i).lv.length = m + 1 ∧ (refS s i).ms.length = m + 1 ∧ (refS s i).ts.length = m + 1 := by
        have h1 : (refS s i).lv.length = s.lv.length + 1 := splitC_length hil
        have h2 : (refS s i).ms.length = s.ms.length + 1 := refM_length (by rw [HM.out.2.1]; exact HI.out)
        have h3 : (refS s i).ts.length = s.ts.length + 1 := refM_length (by rw [HM.out.2.2]; exact HI.out)
        rw [h1, h2, h3, HM.out.1, HM.out.2.1, HM.out.2.2]
        exact ⟨rfl, rfl, rfl⟩
      have HRL := hid hlen
      obtain ⟨Z0, z0, Z1, z1, Z2, z2, Z3, z3, rfl, _⟩ := StR_mUndone (s := s) hX'.r (show (refS s i).ro = s.ro ∧ (refS s i).lv.length = m + 1 ∧ (refS s i).ms.length = m + 1 ∧ (refS s i).ts.length = m + 1 ∧ (refS s i).bd.length = s.bd.length from ⟨rfl, hlen.1, hlen.2.1, hlen.2.2, rfl⟩)
      have b6 := Bw.box1 w5 (.cells #[.int .i64 s.ro, .slice Z0 (m + 1) z0, .slice Z1 (m + 1) z1, .slice Z2 (m + 1) z2, .slice Z3 s.bd.length z3] 29)
      have h0 := box_cell (Bw.refl (w5.alloc (.cells #[.int .i64 s.ro, .slice Z0 (m + 1) z0, .slice Z1 (m + 1) z1, .slice Z2 (m + 1) z2, .slice Z3 s.bd.length z3] 29))) 0
      have h1 := box_cell (Bw.refl (w5.alloc (.cells #[.int .i64 s.ro, .slice Z0 (m + 1) z0, .slice Z1 (m + 1) z1, .slice Z2 (m + 1) z2, .slice Z3 s.bd.length z3] 29))) 1
      have h2 := box_cell (Bw.refl (w5.alloc (.cells #[.int .i64 s.ro, .slice Z0 (m + 1) z0, .slice Z1 (m + 1) z1, .slice Z2 (m + 1) z2, .slice Z3 s.bd.length z3] 29))) 2
      have h3 := box_cell (Bw.refl (w5.alloc (.cells #[.int .i64 s.ro, .slice Z0 (m + 1) z0, .slice Z1 (m + 1) z1, .slice Z2 (m + 1) z2, .slice Z3 s.bd.length z3] 29))) 3
      have h4 := box_cell (Bw.refl (w5.alloc (.cells #[.int .i64 s.ro, .slice Z0 (m + 1) z0, .slice Z1 (m + 1) z1, .slice Z2 (m + 1) z2, .slice Z3 s.bd.length z3] 29))) 4
      simp only [List.getElem?_toArray, List.getElem?_cons_zero, List.getElem?_cons_succ] at h0 h1 h2 h3 h4
      have bb := b5.trans b6
      replace g0 := pw_cell_below bb.out g0
      replace g1 := pw_cell_below bb.out g1
      replace g2 := pw_cell_below bb.out g2
      replace g3 := pw_cell_below bb.out g3
      replace g4 := pw_cell_below bb.out g4
      have HB6 := hid (hB.trans bb)
      have HX6 := hid (hX'.to b6)
      have HO6 := hid (hO.to bb)
      clear hX hX' hB hO b5 b6 bb hrf HREF hrr hx1 hlen hil
      go_wp2_with fail
      generalize (w5.alloc (.cells #[.int .i64 s.ro, .slice Z0 (m + 1) z0, .slice Z1 (m + 1) z1, .slice Z2 (m + 1) z2, .slice Z3 s.bd.length z3] 29)) = w6 at *
      generalize w5.heap.size = PX at *
      refine (impl_CoarsenState _ (refS s i) i _ HX6.out.r HXOK.out (by rw [HRL.out.1]; have := HI.out; omega)).mono ?_
      rintro e w7 ⟨v, rfl, hY, b7⟩
      rw [HMAY.out]
      have hY' : StO w7 w6.heap.size w7.heap.size v s := by
        rw [HMAY.out] at hY
        have hY2 : StO w7 w6.heap.size w7.heap.size v (merS (refS s i) i) := hY
        rw [HMER.out] at hY2
        exact hY2
      obtain ⟨Y0, u0, Y1, u1, Y2, u2, Y3, u3, rfl, _⟩ := StR_mUndone (s := s) (m := m) hY'.r ⟨rfl, HM.out.1, HM.out.2.1, HM.out.2.2, rfl⟩
      have b8 := Bw.box1 w7 (.cells #[.int .i64 s.ro, .slice Y0 m u0, .slice Y1 m u1, .slice Y2 m u2, .slice Y3 s.bd.length u3] 29)
      have k0 := box_cell (Bw.refl (w7.alloc (.cells #[.int .i64 s.ro, .slice Y0 m u0, .slice Y1 m u1, .slice Y2 m u2, .slice Y3 s.bd.length u3] 29))) 0
      have k1 := box_cell (Bw.refl (w7.alloc (.cells #[.int .i64 s.ro, .slice Y0 m u0, .slice Y1 m u1, .slice Y2 m u2, .slice Y3 s.bd.length u3] 29))) 1
      have k2 := box_cell (Bw.refl (w7.alloc (.cells #[.int .i64 s.ro, .slice Y0 m u0, .slice Y1 m u1, .slice Y2 m u2, .slice Y3 s.bd.length u3] 29))) 2
      have k3 := box_cell (Bw.refl (w7.alloc (.cells #[.int .i64 s.ro, .slice Y0 m u0, .slice Y1 m u1, .slice Y2 m u2, .slice Y3 s.bd.length u3] 29))) 3
      have k4 := box_cell (Bw.refl (w7.alloc (.cells #[.int .i64 s.ro, .slice Y0 m u0, .slice Y1 m u1, .slice Y2 m u2, .slice Y3 s.bd.length u3] 29))) 4
      simp only [List.getElem?_toArray, List.getElem?_cons_zero, List.getElem?_cons_succ] at k0 k1 k2 k3 k4
      have bb := b7.trans b8
      replace g0 := pw_cell_below bb.out g0
      replace g1 := pw_cell_below bb.out g1
      replace g2 := pw_cell_below bb.out g2
      replace g3 := pw_cell_below bb.out g3
      replace g4 := pw_cell_below bb.out g4
      replace h0 := pw_cell_below bb.out h0
      replace h1 := pw_cell_below bb.out h1
      replace h2 := pw_cell_below bb.out h2
      replace h3 := pw_cell_below bb.out h3
      replace h4 := pw_cell_below bb.out h4
      have HB8 := hid (HB6.out.trans bb)
      have HY8 := hid (hY'.to b8)
      have HO8 := hid (HO6.out.to bb)
      have e1 : IntKind.i64.wrap ((m : Int) + 1) = (m : Int) + 1 := i64w (by omega) (by omega)
      have u1_ : (((m + 1 : Nat) : Int) == (m : Int) + 1) = true := by simp
      have u2_ : ((m : Int) + 1 == (m : Int) + 1) = true := by simp
      clear hY hY' b7 b8 bb HB6 HX6 HO6
      go_wp2_with fail
      refine (spec_SameState_yes _ _ s _ HY8.out.r HO8.out.r).mono ?_
      rintro e w9 ⟨rfl, b9⟩
      replace g0 := pw_cell_below b9.out g0
      replace g1 := pw_cell_below b9.out g1
      replace g2 := pw_cell_below b9.out g2
      replace g3 := pw_cell_below b9.out g3
      replace g4 := pw_cell_below b9.out g4
      replace h0 := pw_cell_below b9.out h0
      replace h1 := pw_cell_below b9.out h1
      replace h2 := pw_cell_below b9.out h2
      replace h3 := pw_cell_below b9.out h3
      replace h4 := pw_cell_below b9.out h4
      replace k0 := pw_cell_below b9.out k0
      replace k1 := pw_cell_below b9.out k1
      replace k2 := pw_cell_below b9.out k2
      replace k3 := pw_cell_below b9.out k3
      replace k4 := pw_cell_below b9.out k4
      have hBF := HB8.out.trans b9
      clear b9 HB8
      go_wp2
      go_ret
      exact ⟨rfl, hBF⟩
  · have t1 : decide (1048576 < (n : Int)) = true := decide_eq_true (by omega)
    have T1 := hid t1
    clear t1
    go_enter Try.func3, Try.ntmps3
    go_wp2_with fail
    refine (toBool (lawbig _ _ _ _) T1.out).mono ?_
    rintro e w1 ⟨rfl, rfl⟩
    go_wp2
    go_ret
    exact ⟨rfl, Bw.refl _⟩
end Go.Proofs.Ytaidbdogolhnjaa.U
