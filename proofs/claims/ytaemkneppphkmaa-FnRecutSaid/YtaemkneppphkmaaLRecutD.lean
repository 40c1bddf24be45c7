
/- The law FnRecut returns true at all codes. -/
import Derived.Test.YtaemkneppphkmaaG10
import Derived.Test.YtaemkneppphkmaaG13
import Derived.Test.YtaemkneppphkmaaG12
import Derived.Test.YtaemkneppphkmaaG8
set_option linter.unusedVariables false
set_option linter.unusedSimpArgs false
namespace Go.Proofs.Ytaemkneppphkmaa.U
open Go.RowKit Go.Lib Go.Proofs.YtaemkneppphkmaaW.PrintWords

open Go.Proofs.YtaemkneppphkmaaW.PrintLast Go.Proofs.YtaemkneppphkmaaW.PrintMore
theorem Rw.rdI' {w : World} {lo hi n c : Nat} {A : Option Addr} {F : List Int} (h : Rw w lo hi 3 1 (.slice A n c) n F) : RI w A n F := (FO.fr h.o).ri
theorem partV_small (s : Sta) (p q : Nat) (hs : StF s) : (partV s p q).lf.length ≤ 400 ∧ (partV s p q).ms.length ≤ 128 ∧ (partV s p q).ts.length ≤ 128 ∧ (partV s p q).bd.length ≤ 8 ∧ (partV s p q).gh.length ≤ 8 := by
  have h1 := hs.n
  have h2 := hs.ms
  have h3 := hs.ts
  have h4 := hs.bd
  have e1 : (partV s p q).lf.length = ((s.lv.take q).drop p).length * 3 := idF_length _
  have e2 : (partV s p q).gh.length = 8 := ghosts_len s p q
  simp only [partV, List.length_drop, List.length_take] at *
  omega
theorem parts_all (s : Sta) (cuts : List Int) (hs : StF s) (i : Nat) (hi : i < (parts s cuts).length) : (gv (parts s cuts) i).lf.length ≤ 400 ∧ (gv (parts s cuts) i).ms.length ≤ 128 ∧ (gv (parts s cuts) i).ts.length ≤ 128 ∧ (gv (parts s cuts) i).bd.length ≤ 8 ∧ (gv (parts s cuts) i).gh.length ≤ 8 := by
  rw [parts_at s cuts i (by rwa [parts_length] at hi)]
  exact partV_small s _ _ hs
theorem parts_short (s : Sta) (cuts : List Int) (hs : StF s) : Short (parts s cuts) := ⟨fun i hi => by
  have := parts_all s cuts hs i hi
  omega⟩
theorem parts_offs (s : Sta) (cuts : List Int) (hs : StF s) : ∀ n, n ≤ (parts s cuts).length → offs (parts s cuts) n ≤ 1000 * n
  | 0, _ => by simp [offs]
  | n + 1, h => by
    have ih := parts_offs s cuts hs n (by omega)
    have := parts_all s cuts hs n (by omega)
    rw [offs, msz]
    omega
theorem parts_most (s : Sta) (cuts : List Int) {n : Int} (hc : cutsOk n cuts = true) : (parts s cuts).length ≤ 16 := by
  have := (cutsOk_facts hc).1
  rw [parts_length]
  omega
theorem parts_szTo (s : Sta) (cuts : List Int) (hs : StF s) : ∀ n, n ≤ (parts s cuts).length → szTo (parts s cuts) n ≤ 1000 * n
  | 0, _ => by simp [szTo]
  | n + 1, h => by
    have ih := parts_szTo s cuts hs n (by omega)
    have := parts_all s cuts hs n (by omega)
    rw [szTo, vsz]
    omega
theorem lastOf_cuts {n : Int} {c : List Int} (h : cutsOk n c = true) : lastOf c = n := (cutsOk_facts h).2.2.1
theorem moved_ok {n : Nat} {a b : List Int} (ha : cutsOk (n : Int) a = true) (hb : cutsOk (n : Int) b = true) (hn : n ≤ 1000) : moved a b = movedTo a b n := by
  have h1 := (cutsOk_facts ha).1
  have h2 := (cutsOk_facts hb).1
  rw [moved, lastOf_cuts ha, if_pos ⟨by omega, by omega, ha, hb, by omega⟩]
  simp
theorem movedTo_comm (a b : List Int) : ∀ k, movedTo a b k = movedTo b a k
  | 0 => rfl
  | k + 1 => by
    rw [movedTo, movedTo, movedTo_comm a b k]
    by_cases h : partTo a (k : Int) a.length = partTo b (k : Int) b.length
    · rw [if_pos h, if_pos h.symm]
    · rw [if_neg h, if_neg (fun e => h e.symm)]
theorem movedTo_self (a : List Int) : ∀ k, movedTo a a k = 0
  | 0 => rfl
  | k + 1 => by rw [movedTo, if_pos rfl, movedTo_self a k]
theorem take_one_cuts {n : Int} {c : List Int} (h : cutsOk n c = true) : c.take 1 = [0] := by
  obtain ⟨⟨h1, _⟩, h2, _⟩ := cutsOk_facts h
  cases c with
  | nil => simp at h1
  | cons x xs =>
    have e : rd (x :: xs) ((0 : Nat) : Int) = 0 := h2
    rw [rd_nat] at e
    simp at e
    simp [e]
theorem rd_take {l : List Int} {i k : Nat} (h : i < k) : rd (l.take k) (i : Int) = rd l (i : Int) := by
  rw [rd_nat, rd_nat, List.getD_eq_getElem?_getD, List.getD_eq_getElem?_getD, List.getElem?_take_of_lt h]
theorem impl_Recut' (A : Option Addr) (n c : Nat) (L : List Vf) (C : Option Addr) (m d : Nat) (cuts : List Int) (F : List Vf) (k : Nat) (q : Bool) (w : World) (r : VwR w A n L) (hn : n + szTo L n ≤ 1048576) (rc : RI w C m cuts) (hF : recL L cuts = F) (hm : F.length = k) (hq : recOk L cuts = q) :
    Calls Try.prog 26 #[.slice A n c, .slice C m d] w fun e w' => ∃ (z : Nat) (X : Option Addr) (y : Nat), z = w.heap.size ∧ e = .returned (.tuple #[.slice X k y, .bool q]) ∧ VwO w' z w'.heap.size (.slice X k y) k F ∧ Bw w w' := by
  refine (impl_Recut A n c L C m d cuts w r hn rc).mono ?_
  rintro e w' ⟨v, rfl, hV, b⟩
  rw [hF, hm] at hV
  obtain ⟨X, y, rfl, _⟩ := hV.reads
  rw [hq]
  exact ⟨_, _, _, rfl, rfl, hV, b⟩
set_option maxHeartbeats 8000000 in
set_option maxRecDepth 100000 in
theorem law_RecutD (A : Option Addr) (n c : Nat) (l : List Int) (w : World) (r : ReadsInt w .u8 A n l) (wf : ∀ x ∈ l, 0 ≤ x ∧ x ≤ 255) :
    Calls Try.prog 7 #[.slice A n c] w fun e w' => e = .returned (.bool true) ∧ Bw w w' := by
  have WF := hid wf
  clear wf
  by_cases hb : n ≤ 1048576
  · have t1 : decide (1048576 < (n : Int)) = false := decide_eq_false (by omega)
    have T1 := hid t1
    clear t1
    go_enter Try.func7, Try.ntmps7
    go_wp2_with fail
    refine (toBool (lawbig _ _ _ _) T1.out).mono ?_
    rintro e w1 ⟨rfl, rfl⟩
    go_wp2_with fail
    refine (DrawViews A n c l _ r WF.out hb).mono ?_
    rintro e w1 ⟨v, s, c0, nn, rfl, hs, hc, hl, hn6, hV, hB⟩
    obtain ⟨C, hC⟩ := best_parts hs.ok hc
    have hf := StF.of hs.ok
    have hlen2 := (cutsOk_facts hc).1
    obtain ⟨m, rfl⟩ : ∃ m, nn = m + 1 := ⟨nn - 1, by omega⟩
    rw [Nat.add_sub_cancel] at hV
    have hm : 1 ≤ m ∧ m ≤ 5 := by omega
    have hCl : C.length = m + 1 := by rw [hC.len, hl]
    obtain ⟨j1, j2⟩ := join_parts hs.ok hc
    obtain ⟨i1, i2⟩ := join_parts hs.ok hC.cuts
    have hpl : (parts s c0).length = m := by rw [parts_length]; omega
    have hpC : (parts s C).length = m := by rw [parts_length]; omega
    have hz1 := parts_szTo s c0 hf m (by omega)
    have hz2 := parts_szTo s C hf m (by omega)
    have hrl : recL (parts s c0) C = parts s C ∧ recOk (parts s c0) C = true := by
      have e : recOk (parts s c0) C = true := by rw [recOk, j1, j2, hC.cuts]; rfl
      exact ⟨by rw [recL, if_pos e, j2], e⟩
    obtain ⟨L, hL⟩ : ∃ L, parts s c0 = L := ⟨_, rfl⟩
    obtain ⟨K, hK⟩ : ∃ K, parts s C = K := ⟨_, rfl⟩
    obtain ⟨AV, cV, rfl, _⟩ := hV.reads
    have HCB := hid hC
    rw [hL] at j1 j2 hz1 hrl hV hpl
    rw [hK] at i1 i2 hz2 hrl hpC
    have hbl : bestL L = C := by rw [← hL]; exact hC.eq
    have hbo : bestOk L = true := by rw [← hL]; exact hC.ok
    have him : imbal K = 0 := by rw [← hK]; exact hC.zero
    have him2 : 0 ≤ imbal L := by rw [← hL]; exact hC.imb
    have HN1 := hid (show m + szTo L m ≤ 1048576 by omega)
    have HN2 := hid (show m + szTo K m ≤ 1048576 by omega)
    have HJ := hid (show (joinOk L = true ∧ joinS L = s) ∧ (joinOk K = true ∧ joinS K = s) from ⟨⟨j1, j2⟩, i1, i2⟩)
    have HBL := hid hbl
    have HBO := hid hbo
    have HIM := hid him
    have HRL := hid hrl
    have HPC := hid hpC
    have HCL := hid hCl
    have HL0 := hid hL
    have HC0 := hid hc
    have HCL0 := hid hl
    have HS := hid hs
    have hslen : s.ms.length = s.lv.length := hs.cs.lm
    have hs48 : s.lv.length ≤ 48 := hs.n
    obtain ⟨I, hI⟩ : ∃ I, imbal L = I := ⟨_, rfl⟩
    rw [hI] at him2
    have HI := hid hI
    have mo1 := moved_ok hc hC.cuts (by omega)
    have mo2 := moved_ok hC.cuts hc (by omega)
    have mo3 := moved_ok hc hc (by omega)
    rw [movedTo_comm C c0] at mo2
    rw [movedTo_self] at mo3
    have mor := movedTo_range c0 C s.lv.length
    obtain ⟨k, hk⟩ : ∃ k, movedTo c0 C s.lv.length = k := ⟨_, rfl⟩
    rw [hk] at mo1 mo2 mor
    have HMO := hid (show moved c0 C = k ∧ moved C c0 = k ∧ moved c0 c0 = 0 from ⟨mo1, mo2, mo3⟩)
    have v1 : decide (I ≥ 0) = true := decide_eq_true him2
    have v2 : decide (k ≥ 0) = true := decide_eq_true mor.1
    have v3 : decide (k ≤ (s.ms.length : Int)) = true := decide_eq_true (by omega)
    clear hslen hC hf hlen2 hCl j1 j2 i1 i2 hpl hpC hz1 hz2 hrl hL hK hbl hbo him him2 hs hI mo1 mo2 mo3 hk mor hc hl
    go_wp2_with fail
    refine (spec_JoinViews' AV m cV L s true _ hV.rd HN1.out HJ.out.1.2 HJ.out.1.1).mono ?_
    rintro e_ w2 ⟨z2, P0, p0, P1, p1, P2, p2, P3, p3, hz2, rfl, hx, b1⟩
    replace hV := hV.to b1
    replace hB := hB.trans b1
    clear b1 hz2
    have g0 := box_cell (Bw.refl (w2.alloc (.cells #[.int .i64 s.ro, .slice P0 s.lv.length p0, .slice P1 s.ms.length p1, .slice P2 s.ts.length p2, .slice P3 s.bd.length p3] 36))) 0
    have g1 := box_cell (Bw.refl (w2.alloc (.cells #[.int .i64 s.ro, .slice P0 s.lv.length p0, .slice P1 s.ms.length p1, .slice P2 s.ts.length p2, .slice P3 s.bd.length p3] 36))) 1
    have g2 := box_cell (Bw.refl (w2.alloc (.cells #[.int .i64 s.ro, .slice P0 s.lv.length p0, .slice P1 s.ms.length p1, .slice P2 s.ts.length p2, .slice P3 s.bd.length p3] 36))) 2
    have g3 := box_cell (Bw.refl (w2.alloc (.cells #[.int .i64 s.ro, .slice P0 s.lv.length p0, .slice P1 s.ms.length p1, .slice P2 s.ts.length p2, .slice P3 s.bd.length p3] 36))) 3
    have g4 := box_cell (Bw.refl (w2.alloc (.cells #[.int .i64 s.ro, .slice P0 s.lv.length p0, .slice P1 s.ms.length p1, .slice P2 s.ts.length p2, .slice P3 s.bd.length p3] 36))) 4
    simp only [List.getElem?_toArray, List.getElem?_cons_zero, List.getElem?_cons_succ] at g0 g1 g2 g3 g4
    have b1 := Bw.box1 w2 (.cells #[.int .i64 s.ro, .slice P0 s.lv.length p0, .slice P1 s.ms.length p1, .slice P2 s.ts.length p2, .slice P3 s.bd.length p3] 36)
    replace hV := hV.to b1
    replace hx := hx.to b1
    replace hB := hB.trans b1
    clear b1
    go_wp2_with fail
    generalize (w2.alloc (.cells #[.int .i64 s.ro, .slice P0 s.lv.length p0, .slice P1 s.ms.length p1, .slice P2 s.ts.length p2, .slice P3 s.bd.length p3] 36)) = w3 at *
    refine (impl_BestCuts' AV m cV L C (m + 1) true _ hV.rd HN1.out HBL.out HCL.out HBO.out).mono ?_
    rintro e_ w4 ⟨z4, XC, yC, hz4, rfl, hcu, b1⟩
    replace g0 := pw_cell_below b1.out g0
    replace g1 := pw_cell_below b1.out g1
    replace g2 := pw_cell_below b1.out g2
    replace g3 := pw_cell_below b1.out g3
    replace g4 := pw_cell_below b1.out g4
    replace hV := hV.to b1
    replace hx := hx.to b1
    replace hB := hB.trans b1
    clear b1 hz4
    go_wp2_with fail
    refine (impl_Recut' AV m cV L XC (m + 1) yC C K m true _ hV.rd HN1.out hcu.rdI' HRL.out.1 HPC.out HRL.out.2).mono ?_
    rintro e_ w5 ⟨z5, XW, yW, hz5, rfl, hw, b1⟩
    replace g0 := pw_cell_below b1.out g0
    replace g1 := pw_cell_below b1.out g1
    replace g2 := pw_cell_below b1.out g2
    replace g3 := pw_cell_below b1.out g3
    replace g4 := pw_cell_below b1.out g4
    replace hV := hV.to b1
    replace hx := hx.to b1
    replace hcu := hcu.to b1
    replace hB := hB.trans b1
    clear b1 hz5
    go_wp2_with fail
    refine (spec_JoinViews' XW m yW K s true _ hw.rd HN2.out HJ.out.2.2 HJ.out.2.1).mono ?_
    rintro e_ w6 ⟨z6, U0, u0, U1, u1, U2, u2, U3, u3, hz6, rfl, hy, b1⟩
    replace g0 := pw_cell_below b1.out g0
    replace g1 := pw_cell_below b1.out g1
    replace g2 := pw_cell_below b1.out g2
    replace g3 := pw_cell_below b1.out g3
    replace g4 := pw_cell_below b1.out g4
    replace hV := hV.to b1
    replace hx := hx.to b1
    replace hcu := hcu.to b1
    replace hw := hw.to b1
    replace hB := hB.trans b1
    clear b1 hz6
    have k0 := box_cell (Bw.refl (w6.alloc (.cells #[.int .i64 s.ro, .slice U0 s.lv.length u0, .slice U1 s.ms.length u1, .slice U2 s.ts.length u2, .slice U3 s.bd.length u3] 36))) 0
    have k1 := box_cell (Bw.refl (w6.alloc (.cells #[.int .i64 s.ro, .slice U0 s.lv.length u0, .slice U1 s.ms.length u1, .slice U2 s.ts.length u2, .slice U3 s.bd.length u3] 36))) 1
    have k2 := box_cell (Bw.refl (w6.alloc (.cells #[.int .i64 s.ro, .slice U0 s.lv.length u0, .slice U1 s.ms.length u1, .slice U2 s.ts.length u2, .slice U3 s.bd.length u3] 36))) 2
    have k3 := box_cell (Bw.refl (w6.alloc (.cells #[.int .i64 s.ro, .slice U0 s.lv.length u0, .slice U1 s.ms.length u1, .slice U2 s.ts.length u2, .slice U3 s.bd.length u3] 36))) 3
    have k4 := box_cell (Bw.refl (w6.alloc (.cells #[.int .i64 s.ro, .slice U0 s.lv.length u0, .slice U1 s.ms.length u1, .slice U2 s.ts.length u2, .slice U3 s.bd.length u3] 36))) 4
    simp only [List.getElem?_toArray, List.getElem?_cons_zero, List.getElem?_cons_succ] at k0 k1 k2 k3 k4
    have b1 := Bw.box1 w6 (.cells #[.int .i64 s.ro, .slice U0 s.lv.length u0, .slice U1 s.ms.length u1, .slice U2 s.ts.length u2, .slice U3 s.bd.length u3] 36)
    replace g0 := pw_cell_below b1.out g0
    replace g1 := pw_cell_below b1.out g1
    replace g2 := pw_cell_below b1.out g2
    replace g3 := pw_cell_below b1.out g3
    replace g4 := pw_cell_below b1.out g4
    replace hV := hV.to b1
    replace hx := hx.to b1
    replace hcu := hcu.to b1
    replace hw := hw.to b1
    replace hy := hy.to b1
    replace hB := hB.trans b1
    clear b1
    go_wp2_with fail
    generalize (w6.alloc (.cells #[.int .i64 s.ro, .slice U0 s.lv.length u0, .slice U1 s.ms.length u1, .slice U2 s.ts.length u2, .slice U3 s.bd.length u3] 36)) = w7 at *
    refine (impl_Imbalance XW m yW K _ hw.rd HN2.out).mono ?_
    rintro e_ w8 ⟨rfl, b1⟩
    rw [HIM.out]
    replace g0 := pw_cell_below b1.out g0
    replace g1 := pw_cell_below b1.out g1
    replace g2 := pw_cell_below b1.out g2
    replace g3 := pw_cell_below b1.out g3
    replace g4 := pw_cell_below b1.out g4
    replace k0 := pw_cell_below b1.out k0
    replace k1 := pw_cell_below b1.out k1
    replace k2 := pw_cell_below b1.out k2
    replace k3 := pw_cell_below b1.out k3
    replace k4 := pw_cell_below b1.out k4
    replace hV := hV.to b1
    replace hx := hx.to b1
    replace hcu := hcu.to b1
    replace hw := hw.to b1
    replace hy := hy.to b1
    replace hB := hB.trans b1
    clear b1
    have hx8 := hx
    have hy8 := hy
    have hcu8 := hcu
    have hv8 := hV
    clear hx hy hcu hV hw
    have b1 := Bw.box1 w8 (.cells #[.int .i64 0] 3)
    have ho : OI (w8.alloc (.cells #[.int .i64 0] 3)) w8.heap.size (.slice (some ⟨w8.heap.size, 0, none⟩) 1 1) 1 [0] := ⟨own_lit w8 w8.heap.size 3 .i64 [0] (Nat.le_refl _) (by simp)⟩
    have hB8 := hid hB
    replace hB := hB.trans b1
    have HX8 := hid hx8
    have HY8 := hid hy8
    have HCU8 := hid hcu8
    have HV8 := hid hv8
    clear hx8 hy8 hcu8 hv8
    have HO0 := hid (show OI (w8.alloc (.cells #[.int .i64 0] 3)) w8.heap.size (.slice (some ⟨w8.heap.size, 0, none⟩) 1 1) 1 (c0.take 1) by rw [take_one_cuts HC0.out]; exact ho)
    have HB1 := hid b1
    clear b1 ho
    go_wp2
    clear hB
    generalize (w8.alloc (.cells #[.int .i64 0] 3)) = w9 at *
    go_loopw [13, 14] (fun v13 v14 wr => ∃ i : Nat, i ≤ m ∧ v14 = .int .i64 i ∧ Hid (OI wr w8.heap.size v13 (i + 1) (c0.take (i + 1))) ∧ Hid (Bw w8 wr)) (fun _ v14 _ => m - (intOf v14).toNat)
    case atStart => exact ⟨0, by omega, rfl, HO0, HB1⟩
    case round =>
      obtain ⟨i, hi, rfl, HO, HB⟩ := hrel
      obtain ⟨Ao, co, rfl, hrd⟩ := HO.out.reads
      obtain ⟨ao, rfl, hci⟩ := hrd.nat i (by omega)
      clear hrd
      have bwr : Bw w8 wr := HB.out
      by_cases hlt : i < m
      · have u1 : decide ((i : Int) < (m : Int)) = true := decide_eq_true (by omega)
        have hV8 := HV8.out.rd.to bwr
        obtain ⟨ad, rfl, Al, nl, cl, Am, nm, cm, At, nt, ct_, Ab, nb, cb, Ag, ng, cg, x0, x1, x2, x3, x4, x5, x6, _, hv⟩ := hV8.nat i hlt
        have hnl := hv.l.len
        rw [← HL0.out, parts_gv s c0 (by rw [HCL0.out]; omega)] at hnl
        have hct := (ct_facts HC0.out).2.2.2 i (by rw [HCL0.out]; omega)
        have hlf : (partV s (ct c0 i) (ct c0 (i + 1))).lf.length = (ct c0 (i + 1) - ct c0 i) * 3 := by rw [partV, idF_length, List.length_drop, List.length_take, Nat.min_eq_left hct.2]
        rw [hlf] at hnl
        have hr0 := ct_rd HC0.out (show i < c0.length by rw [HCL0.out]; omega)
        have hr1 := ct_rd HC0.out (show i + 1 < c0.length by rw [HCL0.out]; omega)
        have htk : c0.take (i + 1 + 1) = c0.take (i + 1) ++ [rd c0 ((i + 1 : Nat) : Int)] := by
          rw [List.take_add_one, List.getElem?_eq_getElem (by rw [HCL0.out]; omega), rd_nat, List.getD_eq_getElem?_getD, List.getElem?_eq_getElem (by rw [HCL0.out]; omega)]
          rfl
        rw [rd_take (show i < i + 1 by omega)] at hci
        obtain ⟨ci, hce⟩ : ∃ ci, rd c0 (i : Int) = ci := ⟨_, rfl⟩
        obtain ⟨nx, hnx⟩ : ∃ nx, rd c0 ((i + 1 : Nat) : Int) = nx := ⟨_, rfl⟩
        rw [hce] at hci hr0
        rw [hnx] at htk hr1
        have e3 : IntKind.i64.wrap (ci + (nl : Int)) = nx := (i64w (by omega) (by omega)).trans (by omega)
        have HTK := hid htk
        have i4 : (0 : Int) ≤ (i : Int) := by clear e3; omega
        have i5 : (i : Int) < (m : Int) := by clear e3; omega
        have i6 : (i : Int) < (i : Int) + 1 := by clear e3; omega
        clear hV8 hv hnl hct hlf hr0 hr1 htk hce hnx x0 x1 x3 x4 x5 x6
        go_wp2
        have bD := Bw.drawn (a := wr) ⟨⟨1, rfl⟩⟩
        refine start_ (n := 15) (S := fun w' => w'.cell? (ao.add i) = some (.int .i64 ci) ∧ w'.cell? ⟨(ad.add (i * 7)).block, (ad.add (i * 7)).off + 2, none⟩ = some (.slice Al nl cl)) (ds := [13, 14]) #[false, false, false, false, false, false, false, false, false, false, false, false, false, false, false] (by kernel_rfl) rfl rfl ⟨hci, x2⟩ (fun hHeld => ?_)
        refine pure_ (i := 0) (N := (some 50)) (v := ?_) (a' := ?_) #[true, false, false, false, false, false, false, false, false, false, false, false, false, false, false] rfl rfl (by kernel_rfl) (fun _ _ _ h => h) (Or.inl ⟨by rfl, ?_⟩) ?_ ?_
        rotate_left
        · intro w'
          go_simp
          with_reducible rfl
        rotate_left
        · simp only [Act.put, List.setIfInBounds_toArray, List.set_cons_zero, List.set_cons_succ, i64_w, i32_w]
          rfl
        refine pure_ (i := 1) (N := (some 51)) (v := ?_) (a' := ?_) #[true, true, false, false, false, false, false, false, false, false, false, false, false, false, false] rfl rfl (by kernel_rfl) (fun _ _ _ h => h) (Or.inl ⟨by rfl, ?_⟩) ?_ ?_
        rotate_left
        · intro w'
          go_simp
          with_reducible rfl
        rotate_left
        · simp only [Act.put, List.setIfInBounds_toArray, List.set_cons_zero, List.set_cons_succ, i64_w, i32_w]
          rfl
        refine pure_ (i := 2) (N := (some 52)) (v := ?_) (a' := ?_) #[true, true, true, false, false, false, false, false, false, false, false, false, false, false, false] rfl rfl (by kernel_rfl) (fun _ _ _ h => h) (Or.inl ⟨by rfl, ?_⟩) ?_ ?_
        rotate_left
        · intro w'
          go_simp
          with_reducible rfl
        rotate_left
        · simp only [Act.put, List.setIfInBounds_toArray, List.set_cons_zero, List.set_cons_succ, i64_w, i32_w]
          rfl
        refine pure_ (i := 3) (N := (some 53)) (v := ?_) (a' := ?_) #[true, true, true, true, false, false, false, false, false, false, false, false, false, false, false] rfl rfl (by kernel_rfl) (fun _ _ _ h => h) (Or.inl ⟨by rfl, ?_⟩) ?_ ?_
        rotate_left
        · intro w'
          go_simp
          with_reducible rfl
        rotate_left
        · simp only [Act.put, List.setIfInBounds_toArray, List.set_cons_zero, List.set_cons_succ, i64_w, i32_w]
          rfl
        refine take_ (i := 4) (N := (some 54)) (v := ?_) (a' := ?_) #[true, true, true, true, true, false, false, false, false, false, false, false, false, false, false] rfl rfl (by kernel_rfl) (fun _ _ _ h => h) (Or.inl ⟨by rfl, ?_⟩) hHeld ?_ ?_
        rotate_left
        · rintro w' ⟨s0, s1⟩
          go_simp
          with_reducible rfl
        rotate_left
        · simp only [Act.put, List.setIfInBounds_toArray, List.set_cons_zero, List.set_cons_succ, i64_w, i32_w]
          rfl
        refine pure_ (i := 5) (N := (some 55)) (v := ?_) (a' := ?_) #[true, true, true, true, true, true, false, false, false, false, false, false, false, false, false] rfl rfl (by kernel_rfl) (fun _ _ _ h => h) (Or.inl ⟨by rfl, ?_⟩) ?_ ?_
        rotate_left
        · intro w'
          go_simp
          with_reducible rfl
        rotate_left
        · simp only [Act.put, List.setIfInBounds_toArray, List.set_cons_zero, List.set_cons_succ, i64_w, i32_w]
          rfl
        refine pure_ (i := 6) (N := (some 56)) (v := ?_) (a' := ?_) #[true, true, true, true, true, true, true, false, false, false, false, false, false, false, false] rfl rfl (by kernel_rfl) (fun _ _ _ h => h) (Or.inl ⟨by rfl, ?_⟩) ?_ ?_
        rotate_left
        · intro w'
          go_simp
          with_reducible rfl
        rotate_left
        · simp only [Act.put, List.setIfInBounds_toArray, List.set_cons_zero, List.set_cons_succ, i64_w, i32_w]
          rfl
        refine pure_ (i := 7) (N := (some 57)) (v := ?_) (a' := ?_) #[true, true, true, true, true, true, true, true, false, false, false, false, false, false, false] rfl rfl (by kernel_rfl) (fun _ _ _ h => h) (Or.inl ⟨by rfl, ?_⟩) ?_ ?_
        rotate_left
        · intro w'
          go_simp
          with_reducible rfl
        rotate_left
        · simp only [Act.put, List.setIfInBounds_toArray, List.set_cons_zero, List.set_cons_succ, i64_w, i32_w]
          rfl
        refine pure_ (i := 8) (N := (some 58)) (v := ?_) (a' := ?_) #[true, true, true, true, true, true, true, true, true, false, false, false, false, false, false] rfl rfl (by kernel_rfl) (fun _ _ _ h => h) (Or.inl ⟨by rfl, ?_⟩) ?_ ?_
        rotate_left
        · intro w'
          go_simp
          with_reducible rfl
        rotate_left
        · simp only [Act.put, List.setIfInBounds_toArray, List.set_cons_zero, List.set_cons_succ, i64_w, i32_w]
          rfl
        refine take_ (i := 9) (N := (some 59)) (v := ?_) (a' := ?_) #[true, true, true, true, true, true, true, true, true, true, false, false, false, false, false] rfl rfl (by kernel_rfl) (fun _ _ _ h => h) (Or.inl ⟨by rfl, ?_⟩) hHeld ?_ ?_
        rotate_left
        · rintro w' ⟨s0, s1⟩
          go_simp
          with_reducible rfl
        rotate_left
        · simp only [Act.put, List.setIfInBounds_toArray, List.set_cons_zero, List.set_cons_succ, i64_w, i32_w]
          rfl
        refine pure_ (i := 10) (N := (some 60)) (v := ?_) (a' := ?_) #[true, true, true, true, true, true, true, true, true, true, true, false, false, false, false] rfl rfl (by kernel_rfl) (fun _ _ _ h => h) (Or.inl ⟨by rfl, ?_⟩) ?_ ?_
        rotate_left
        · intro w'
          go_simp
          with_reducible rfl
        rotate_left
        · simp only [Act.put, List.setIfInBounds_toArray, List.set_cons_zero, List.set_cons_succ, i64_w, i32_w]
          rfl
        refine pure_ (i := 11) (N := (some 61)) (v := ?_) (a' := ?_) #[true, true, true, true, true, true, true, true, true, true, true, true, false, false, false] rfl rfl (by kernel_rfl) (fun _ _ _ h => h) (Or.inl ⟨by rfl, ?_⟩) ?_ ?_
        rotate_left
        · intro w'
          go_simp
          with_reducible rfl
        rotate_left
        · simp only [Act.put, List.setIfInBounds_toArray, List.set_cons_zero, List.set_cons_succ, i64_w, i32_w]
          rfl
        clear hHeld
        have bA := Bw.box1 (wr.drewN 1) (.cells #[.int .i64 nx] 3)
        have bDA := bD.trans bA
        refine one_ (i := 12) (N := (some 62)) #[true, true, true, true, true, true, true, true, true, true, true, true, true, false, false] rfl rfl (by kernel_rfl) (by decide) (fun K hK => ?_)
        refine value_ (w1 := ?_) (v := ?_) (by rfl) rfl ?_ ?_
        rotate_left 2
        · go_simp
          constructor
          · rfl
          · rfl
        refine hK.out _ _ ⟨pw_cell_below bDA.out hci, pw_cell_below bDA.out x2⟩ (fun _ => ?_)
        rename_i hJ_
        clear hJ_
        clear hK K
        refine norm_ (a' := ?_) ?_ ?_
        rotate_left
        · show Act.put _ (some 62) _ = _
          simp only [Act.put, List.setIfInBounds_toArray, List.set_cons_zero, List.set_cons_succ, i64_w, i32_w]
          rfl
        refine last_ (i := 13) (N := (some 63)) #[true, true, true, true, true, true, true, true, true, true, true, true, true, true, false] rfl rfl (by kernel_rfl) (by decide) (fun K hK => ?_)
        refine step_append_cells (w0 := wr.drewN 1) w8.heap.size (by rfl) (.tmp 50) (.tmp 62) 28 3 (.int .i64 0) 1 8 rfl Try.underlying28 info_int rfl (by decide) (by decide) (.slice (some ao) (i + 1) co) (i + 1) (nums .i64 (c0.take (i + 1))) [.int .i64 nx] rfl rfl rfl (by simp [Value.oneCell']) (HO.out.to bD).out (Below.refl _ _) (by have h1 := HB.out.size; have h2 := bD.size; omega) (by omega) ?_
        intro v1 wd od hBd hgd had
        have HO2 := hid (show OI wd w8.heap.size v1 (i + 1 + 1) (c0.take (i + 1 + 1)) from ⟨by rw [HTK.out, nums_append]; exact od⟩)
        have HB2 := hid (show Bw w8 wd from ⟨(HB.out.trans bD).out.grown hgd (HB.out.trans bD).size (fun j hj => own_base HO.out.out j hj)⟩)
        refine hK.out _ _ ?_
        clear hK K
        refine norm_ (a' := ?_) ?_ ?_
        rotate_left
        · show Act.put _ (some 63) _ = _
          simp only [Act.put, List.setIfInBounds_toArray, List.set_cons_zero, List.set_cons_succ, i64_w, i32_w]
          rfl
        refine last_ (i := 14) (N := (some 13)) #[true, true, true, true, true, true, true, true, true, true, true, true, true, true, true] rfl rfl (by kernel_rfl) (by decide) (fun K hK => ?_)
        refine value_ (w1 := ?_) (v := ?_) (by rfl) rfl ?_ ?_
        rotate_left 2
        · go_simp
          constructor
          · rfl
          · rfl
        refine hK.out _ _ ?_
        clear hK K
        refine norm_ (a' := ?_) ?_ ?_
        rotate_left
        · show Act.put _ (some 13) _ = _
          simp only [Act.put, List.setIfInBounds_toArray, List.set_cons_zero, List.set_cons_succ, i64_w, i32_w]
          rfl
        refine done_ (by kernel_rfl) ?_
        clear bA bDA hgd had od hBd bD
        go_wp2
        go_roundw
        case rel => exact ⟨i + 1, by omega, by go_num, HO2, HB2⟩
        case measure => simp [intOf]; omega
      · obtain rfl : i = m := by omega
        have u1 : decide ((i : Int) < (i : Int)) = false := decide_eq_false (by omega)
        have htk : c0.take (i + 1) = c0 := List.take_of_length_le (by rw [HCL0.out]; omega)
        have hrO : RI wr (some ao) (i + 1) c0 := by have h := HO.out.ri; rwa [htk] at h
        clear htk
        have hx := HX8.out.to bwr
        have hy := HY8.out.to bwr
        have hcu := HCU8.out.to bwr
        have hV := HV8.out.to bwr
        have hB := hB8.out.trans bwr
        replace g0 := pw_cell_below bwr.out g0
        replace g1 := pw_cell_below bwr.out g1
        replace g2 := pw_cell_below bwr.out g2
        replace g3 := pw_cell_below bwr.out g3
        replace g4 := pw_cell_below bwr.out g4
        replace k0 := pw_cell_below bwr.out k0
        replace k1 := pw_cell_below bwr.out k1
        replace k2 := pw_cell_below bwr.out k2
        replace k3 := pw_cell_below bwr.out k3
        replace k4 := pw_cell_below bwr.out k4
        go_wp2_with fail
        refine (impl_MovedLeaves (some ao) (i + 1) co c0 XC (i + 1) yC C _ hrO hcu.rdI').mono ?_
        rintro e_ wa ⟨rfl, d1⟩
        rw [HMO.out.1]
        have b1 := Bw.drawn d1
        replace g0 := pw_cell_below b1.out g0
        replace g1 := pw_cell_below b1.out g1
        replace g2 := pw_cell_below b1.out g2
        replace g3 := pw_cell_below b1.out g3
        replace g4 := pw_cell_below b1.out g4
        replace k0 := pw_cell_below b1.out k0
        replace k1 := pw_cell_below b1.out k1
        replace k2 := pw_cell_below b1.out k2
        replace k3 := pw_cell_below b1.out k3
        replace k4 := pw_cell_below b1.out k4
        replace hx := hx.to b1
        replace hy := hy.to b1
        replace hcu := hcu.to b1
        replace hV := hV.to b1
        replace hB := hB.trans b1
        replace hrO := hrO.to b1
        clear b1 d1
        go_wp2_with fail
        refine (spec_SameState_yes _ _ s _ hy.r hx.r).mono ?_
        rintro e_ wb ⟨rfl, b1⟩
        replace g0 := pw_cell_below b1.out g0
        replace g1 := pw_cell_below b1.out g1
        replace g2 := pw_cell_below b1.out g2
        replace g3 := pw_cell_below b1.out g3
        replace g4 := pw_cell_below b1.out g4
        replace k0 := pw_cell_below b1.out k0
        replace k1 := pw_cell_below b1.out k1
        replace k2 := pw_cell_below b1.out k2
        replace k3 := pw_cell_below b1.out k3
        replace k4 := pw_cell_below b1.out k4
        replace hx := hx.to b1
        replace hy := hy.to b1
        replace hcu := hcu.to b1
        replace hV := hV.to b1
        replace hB := hB.trans b1
        replace hrO := hrO.to b1
        clear b1
        go_wp2_with fail
        refine (impl_Imbalance AV i cV L _ hV.rd HN1.out).mono ?_
        rintro e_ wc ⟨rfl, b1⟩
        rw [HI.out]
        replace g0 := pw_cell_below b1.out g0
        replace g1 := pw_cell_below b1.out g1
        replace g2 := pw_cell_below b1.out g2
        replace g3 := pw_cell_below b1.out g3
        replace g4 := pw_cell_below b1.out g4
        replace k0 := pw_cell_below b1.out k0
        replace k1 := pw_cell_below b1.out k1
        replace k2 := pw_cell_below b1.out k2
        replace k3 := pw_cell_below b1.out k3
        replace k4 := pw_cell_below b1.out k4
        replace hx := hx.to b1
        replace hy := hy.to b1
        replace hcu := hcu.to b1
        replace hV := hV.to b1
        replace hB := hB.trans b1
        replace hrO := hrO.to b1
        clear b1
        go_wp2_with fail
        refine (impl_MovedLeaves XC (i + 1) yC C (some ao) (i + 1) co c0 _ hcu.rdI' hrO).mono ?_
        rintro e_ wd ⟨rfl, d1⟩
        rw [HMO.out.2.1]
        have b1 := Bw.drawn d1
        replace g0 := pw_cell_below b1.out g0
        replace g1 := pw_cell_below b1.out g1
        replace g2 := pw_cell_below b1.out g2
        replace g3 := pw_cell_below b1.out g3
        replace g4 := pw_cell_below b1.out g4
        replace k0 := pw_cell_below b1.out k0
        replace k1 := pw_cell_below b1.out k1
        replace k2 := pw_cell_below b1.out k2
        replace k3 := pw_cell_below b1.out k3
        replace k4 := pw_cell_below b1.out k4
        replace hx := hx.to b1
        replace hy := hy.to b1
        replace hcu := hcu.to b1
        replace hV := hV.to b1
        replace hB := hB.trans b1
        replace hrO := hrO.to b1
        clear b1 d1
        go_wp2_with fail
        refine (impl_MovedLeaves (some ao) (i + 1) co c0 (some ao) (i + 1) co c0 _ hrO hrO).mono ?_
        rintro e_ we ⟨rfl, d1⟩
        rw [HMO.out.2.2]
        replace hB := hB.trans (Bw.drawn d1)
        go_wp2
        go_ret
        exact ⟨rfl, hB⟩
  · have t1 : decide (1048576 < (n : Int)) = true := decide_eq_true (by omega)
    have T1 := hid t1
    clear t1
    go_enter Try.func7, Try.ntmps7
    go_wp2_with fail
    refine (toBool (lawbig _ _ _ _) T1.out).mono ?_
    rintro e w1 ⟨rfl, rfl⟩
    go_wp2
    go_ret
    exact ⟨rfl, Bw.refl _⟩
end Go.Proofs.Ytaemkneppphkmaa.U
