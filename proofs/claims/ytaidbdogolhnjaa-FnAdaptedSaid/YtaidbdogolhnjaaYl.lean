
/- (*State).balance. -/
import Derived.Test.YtaidbdogolhnjaaYi
set_option linter.unusedVariables false
set_option linter.unusedSimpArgs false
namespace Go.Proofs.Ytaidbdogolhnjaa.U
open Go.RowKit Go.Lib Go.Proofs.YtaidbdogolhnjaaW.PrintWords

open Go.Proofs.YtaidbdogolhnjaaW.PrintLast Go.Proofs.YtaidbdogolhnjaaW.PrintMore
def cwN (l : List Ce) (i : Nat) : Nat := if (gc l i).l > (gc l (i + 1)).l then i + 1 else i
def tor (l : List Ce) : Int := if 0 ≤ unbal l then ((cwN l (unbal l).toNat : Nat) : Int) else unbal l
theorem unbal_facts {l : List Ce} (h : 0 ≤ unbal l) (hv : Lvs l) : ∃ i : Nat, unbal l = (i : Int) ∧ i + 1 < l.length ∧ tor l = ((cwN l i : Nat) : Int) ∧ cwN l i < l.length ∧ (gc l (cwN l i)).l < 4 := by
  obtain ⟨i, e, hi, hd⟩ := firstUn_some l l.length 0 h
  have e' : unbal l = (i : Int) := e
  refine ⟨i, e', hi, ?_, ?_, ?_⟩
  · rw [tor, if_pos h, e', Int.toNat_natCast]
  · unfold cwN; split <;> omega
  · have h1 := hv.out i (by omega)
    have h2 := hv.out (i + 1) hi
    unfold cwN
    split <;> omega
set_option maxHeartbeats 4000000 in
set_option maxRecDepth 100000 in
theorem impl_toRefine (ro : Int) (A : Option Addr) (n c : Nat) (l : List Ce) (w : World) (r : IdR w A n l) (hv : Lvs l) (hn : n ≤ 1000) :
    Calls Try.prog 94 #[.agg #[.int .i64 ro, .slice A n c]] w fun e w' => e = .returned (.int .i64 (tor l)) ∧ Bw w w' := by
  have HL := hid r.len
  have b0 := Bw.box1 w (.cells #[.int .i64 ro, .slice A n c] 26)
  have g0 := box_cell (Bw.refl (w.alloc (.cells #[.int .i64 ro, .slice A n c] 26))) 0
  have g1 := box_cell (Bw.refl (w.alloc (.cells #[.int .i64 ro, .slice A n c] 26))) 1
  simp only [List.getElem?_toArray, List.getElem?_cons_zero, List.getElem?_cons_succ] at g0 g1
  have HV := hid hv
  clear hv
  go_enter Try.func94, Try.ntmps94
  go_wp2_with fail
  refine (impl_unbalanced ro A n c l _ (r.to b0) HV.out).mono ?_
  rintro e w2 ⟨rfl, b2⟩
  replace g0 := pw_cell_below b2.out g0
  replace g1 := pw_cell_below b2.out g1
  have HB := hid (b0.trans b2)
  have HR := hid (r.to (b0.trans b2))
  clear b0 b2
  by_cases hu : 0 ≤ unbal l
  · obtain ⟨i, e', hi, ht, _, _⟩ := unbal_facts hu HV.out
    have HT := hid ht
    rw [HL.out] at hi
    rw [e']
    obtain ⟨ad, rfl, _, x1, _⟩ := HR.out.at i (by omega)
    obtain ⟨_, ea, _, y1, _⟩ := HR.out.at (i + 1) hi
    obtain rfl := Option.some.inj ea
    obtain ⟨p, hp⟩ : ∃ p, (gc l i).l = p := ⟨_, rfl⟩
    obtain ⟨q, hq⟩ : ∃ q, (gc l (i + 1)).l = q := ⟨_, rfl⟩
    rw [hp] at x1
    rw [hq] at y1
    have HCW := hid (show cwN l i = if p > q then i + 1 else i by rw [cwN, hp, hq])
    have i4 : (0 : Int) ≤ (i : Int) := by omega
    have i5 : (i : Int) < (n : Int) := by omega
    have i6 : (0 : Int) ≤ (i : Int) + 1 := by omega
    have i7 : (i : Int) + 1 < (n : Int) := by omega
    have t1 : decide ((i : Int) ≥ 0) = true := decide_eq_true (by omega)
    have t2 : decide (0 ≤ (i : Int)) = true := decide_eq_true (by omega)
    have t3 : decide (0 ≤ i) = true := decide_eq_true (Nat.zero_le _)
    have htn : ((i : Int) + 1).toNat = i + 1 := by omega
    have e1 : IntKind.i64.wrap ((i : Int) + 1) = (i : Int) + 1 := i64w (by omega) (by omega)
    clear ea hp hq hu ht e' hi
    by_cases hpq : p > q
    · have u1 : decide (p > q) = true := decide_eq_true hpq
      have u2 : decide (q < p) = true := decide_eq_true hpq
      have HF := hid (show tor l = (i : Int) + 1 by rw [HT.out, HCW.out, if_pos hpq]; clear e1; omega)
      go_upto_region 2 with fail
      go_quiet (fail)
      have bq : Bw w2 (w2.drewN nq) := Bw.drawn ⟨⟨nq, rfl⟩⟩
      have hBF := HB.out.trans bq
      clear bq
      go_wp2
      go_ret
      exact ⟨by rw [HF.out]; rfl, hBF⟩
    · have u1 : decide (p > q) = false := decide_eq_false hpq
      have u2 : decide (q < p) = false := decide_eq_false hpq
      have HF := hid (show tor l = (i : Int) by rw [HT.out, HCW.out, if_neg hpq])
      go_upto_region 2 with fail
      go_quiet (fail)
      have bq : Bw w2 (w2.drewN nq) := Bw.drawn ⟨⟨nq, rfl⟩⟩
      have hBF := HB.out.trans bq
      clear bq
      go_wp2
      go_ret
      exact ⟨by rw [HF.out]; rfl, hBF⟩
  · have HF := hid (show tor l = unbal l from if_neg hu)
    obtain ⟨u, hue⟩ : ∃ u, unbal l = u := ⟨_, rfl⟩
    rw [hue]
    rw [hue] at hu
    have HU := hid hue
    have t1 : decide (u ≥ 0) = false := decide_eq_false hu
    have t2 : decide (0 ≤ u) = false := decide_eq_false hu
    clear hue hu
    go_upto_region 2 with fail
    go_quiet (fail)
    have bq : Bw w2 (w2.drewN nq) := Bw.drawn ⟨⟨nq, rfl⟩⟩
    have hBF := HB.out.trans bq
    clear bq
    go_wp2
    go_ret
    exact ⟨by rw [HF.out, HU.out]; rfl, hBF⟩
/-- a state that is valid but for its balance -/
structure Vs (s : Sta) : Prop where
  m : meshOk s.ro s.lv = true
  c : hasC s.ro s.lv.length s.ms s.ts s.bd = true
theorem Vs.ref {s : Sta} {i : Nat} (h : Vs s) (hi : i < s.lv.length) (hl : (gc s.lv i).l < 4) : Vs (refS s i) := ⟨split_ok h.m hi hl, refS_has h.c hi⟩
def balS : Nat → Sta → Sta
  | 0, s => s
  | d + 1, s => if 0 ≤ unbal s.lv then balS d (refS s (cwN s.lv (unbal s.lv).toNat)) else s

set_option maxHeartbeats 8000000 in
set_option maxRecDepth 100000 in
theorem impl_balance (Kp : Nat → Prop) (P : Nat) (s : Sta) (w : World) (h : BX w Kp P s) (hv : Vs s) :
    Calls Try.prog 65 #[.pointer (some ⟨P, 0, none⟩)] w fun e w' => (∃ u, e = .returned u) ∧ BX w' Kp P (balS (128 - s.lv.length) s) ∧ Fk w w' Kp := by
  obtain ⟨R, hR⟩ : ∃ R, balS (128 - s.lv.length) s = R := ⟨_, rfl⟩
  rw [hR]
  have HR0 := hid hR
  have HV0 := hid hv
  have HX0 := hid h
  clear hR hv h
  obtain ⟨vl, vm, vt, vb, hB⟩ := HX0.out
  have k0 : w.cell? ⟨P, 0, none⟩ = some (.int .i64 s.ro) := (blk_cell hB.st 0).trans rfl
  obtain ⟨A0, c0, rfl, _, _⟩ := hB.l.reads
  have k1 : w.cell? ⟨P, 1, none⟩ = some (.slice A0 s.lv.length c0) := (blk_cell hB.st 1).trans rfl
  have HB0 := hid hB
  clear hB
  go_enter Try.func65, Try.ntmps65
  go_wp2_with fail
  refine (impl_toRefine s.ro A0 _ c0 s.lv _ (FO.idR HB0.out.l) (meshOk_lvs HV0.out.m) (by have := (meshOk_len HV0.out.m).1; omega)).mono ?_
  rintro e w1 ⟨rfl, b1⟩
  have HX1 := hid (show BX w1 Kp P s from ⟨_, _, _, _, HB0.out.to b1⟩)
  have HF1 := hid (Fk.bw b1 HB0.out.kw)
  clear b1 k0 k1 HB0 HX0
  go_wp2
  go_loopw [2] (fun v2 wr => ∃ s' : Sta, v2 = .int .i64 (tor s'.lv) ∧ Hid (balS (128 - s'.lv.length) s' = R) ∧ Hid (Vs s') ∧ Hid (BX wr Kp P s') ∧ Hid (Fk w wr Kp)) (fun _ wr => 129 - sliceLen (wr.cell? ⟨P, 1, none⟩))
  case atStart => exact ⟨s, rfl, HR0, HV0, HX1, HF1⟩
  case round =>
    obtain ⟨s', rfl, hR, hV, hX, hF⟩ := hrel
    obtain ⟨vl, vm, vt, vb, hB⟩ := hX.out
    have hmx := (meshOk_len hV.out.m).1
    have k1 : wr.cell? ⟨P, 1, none⟩ = some vl := (blk_cell hB.st 1).trans rfl
    obtain ⟨A1, c1, rfl, _, _⟩ := hB.l.reads
    by_cases hu : 0 ≤ unbal s'.lv
    · obtain ⟨i, e', hi, ht, hcw, hl4⟩ := unbal_facts hu (meshOk_lvs hV.out.m)
      obtain ⟨j, hj⟩ : ∃ j, cwN s'.lv i = j := ⟨_, rfl⟩
      rw [hj] at ht hcw hl4
      have hnext : balS (128 - (refS s' j).lv.length) (refS s' j) = R := by
        have h1 : (refS s' j).lv.length = s'.lv.length + 1 := splitC_length hcw
        have h2 := (meshOk_len (hV.out.ref hcw hl4).m).1
        have h3 := hR.out
        rw [show 128 - s'.lv.length = (128 - (refS s' j).lv.length) + 1 by omega, balS, if_pos hu, e', Int.toNat_natCast, hj] at h3
        exact h3
      obtain ⟨n, hn⟩ : ∃ n, s'.lv.length = n := ⟨_, rfl⟩
      have HN := hid hn
      have hV2 := hid (hV.out.ref hcw hl4)
      have HNX := hid hnext
      have HCW := hid hcw
      have hlen := hid (show (refS s' j).lv.length = n + 1 by rw [← hn]; exact splitC_length hcw)
      obtain ⟨hc1, hc2, _, _, hc5, _⟩ := hasC_iff.1 hV.out.c
      have hcell := hid (hc5 j hcw)
      have hcx := hid (meshOk_all hV.out.m _ (gc_mem hcw))
      have hls := hid (And.intro hc1 hc2)
      have t1 : decide ((j : Int) ≥ 0) = true := decide_eq_true (by omega)
      have t2 : decide (0 ≤ (j : Int)) = true := decide_eq_true (by omega)
      have t3 : decide (0 ≤ j) = true := decide_eq_true (Nat.zero_le _)
      have HM := hid (show sliceLen (wr.cell? ⟨P, 1, none⟩) = n by rw [k1, ← hn]; rfl)
      have HB := hid hB
      have HMX := hid hmx
      rw [ht]
      clear hnext hc1 hc2 hc5 hB k1 hu e' hi ht hl4 hj hcw hn hmx hX
      go_wp2_with fail
      refine (impl_Srefine Kp P s' _ _ _ _ j _ HB.out HCW.out hls.out.1 hls.out.2 (by have := HMX.out; omega) hcx.out hcell.out.1 hcell.out.2).mono ?_
      rintro e w2 ⟨u, vl2, vm2, vt2, rfl, h2, f2⟩
      have k0 : w2.cell? ⟨P, 0, none⟩ = some (.int .i64 s'.ro) := (blk_cell h2.st 0).trans rfl
      obtain ⟨A2, c2, rfl, _, _⟩ := h2.l.reads
      have hl2 := h2.l
      rw [hlen.out] at hl2
      have k1 : w2.cell? ⟨P, 1, none⟩ = some (.slice A2 (n + 1) c2) := by rw [← hlen.out]; exact (blk_cell h2.st 1).trans rfl
      have HB2 := hid h2
      have HF2 := hid (hF.out.trans f2)
      have HL2 := hid hl2
      clear h2 f2 hl2 hF HB
      go_wp2_with fail
      refine (impl_toRefine s'.ro A2 (n + 1) c2 (refS s' j).lv _ (FO.idR HL2.out) (meshOk_lvs hV2.out.m) (by have := HMX.out; have := HN.out; omega)).mono ?_
      rintro e w3 ⟨rfl, b3⟩
      have HX3 := hid (show BX w3 Kp P (refS s' j) from ⟨_, _, _, _, HB2.out.to b3⟩)
      have HF3 := hid (HF2.out.trans (Fk.bw b3 HB2.out.kw))
      have k3 : w3.cell? ⟨P, 1, none⟩ = some (.slice A2 (n + 1) c2) := pw_cell_below b3.out k1
      have HM3 := hid (show sliceLen (w3.cell? ⟨P, 1, none⟩) = n + 1 by rw [k3]; rfl)
      clear b3 k0 k1 k3 HB2 HF2 HL2
      go_wp2
      go_roundw
      case rel => exact ⟨refS s' j, rfl, HNX, hV2, HX3, HF3⟩
      case measure => rw [HM.out, HM3.out]; have := HMX.out; have := HN.out; omega
    · have HFN := hid (show balS (128 - s'.lv.length) s' = s' by
        cases 128 - s'.lv.length with
        | zero => rfl
        | succ d => rw [balS, if_neg hu])
      have ht : tor s'.lv = unbal s'.lv := if_neg hu
      obtain ⟨u, hue⟩ : ∃ u, unbal s'.lv = u := ⟨_, rfl⟩
      rw [ht, hue]
      rw [hue] at hu
      have t1 : decide (u ≥ 0) = false := decide_eq_false hu
      have t2 : decide (0 ≤ u) = false := decide_eq_false hu
      have HRX := hid (show BX wr Kp P R by rw [← hR.out, HFN.out]; exact hX.out)
      clear hue ht hu k1 hB hX
      go_wp2
      exact bodyPost_end (v := .tuple #[]) (by simp [results, Try.results65, go_sem]) rfl ⟨⟨_, rfl⟩, HRX.out, hF.out⟩
end Go.Proofs.Ytaidbdogolhnjaa.U
