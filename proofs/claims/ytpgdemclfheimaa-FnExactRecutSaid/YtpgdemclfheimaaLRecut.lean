
/- The law FnExactRecut, walked. -/
import Derived.Test.YtpgdemclfheimaaRc
set_option linter.unusedVariables false
set_option linter.unusedSimpArgs false
namespace Go.Proofs.Ytpgdemclfheimaa.U
open Go.RowKit Go.Lib Go.Proofs.YtpgdemclfheimaaW.PrintWords

open Go.Proofs.YtpgdemclfheimaaW.PrintLast Go.Proofs.YtpgdemclfheimaaW.PrintMore
theorem Rw.rdI' {w : World} {lo hi n c : Nat} {A : Option Addr} {F : List Int} (h : Rw w lo hi 3 1 (.slice A n c) n F) : RI w A n F := (FO.fr h.o).ri
theorem toIntSz (A : Option Addr) (n c : Nat) (l : List Int) (w : World) (r : RI w A n l) (hn : n ≤ 1048576) :
    Calls Try.prog 20 #[.slice A n c] w fun e w' => ∃ (z : Nat) (X : Option Addr) (y : Nat), z = w.heap.size ∧ e = .returned (.slice X n y) ∧ Rw w' z w'.heap.size 3 1 (.slice X n y) n l ∧ Bw w w' := by
  refine (toIntS A n c l w r hn).mono ?_
  rintro e w' ⟨v, rfl, o, b⟩
  obtain ⟨X, y, rfl, _, _⟩ := FO.reads (t := 3) (k := 1) ⟨o.out⟩
  exact ⟨_, _, _, rfl, rfl, OI.rw o, b⟩
theorem partV_small (s : Sta) (p q : Nat) (hs : StF s) : (partV s p q).lf.length ≤ 400 ∧ (partV s p q).ms.length ≤ 128 ∧ (partV s p q).ts.length ≤ 128 ∧ (partV s p q).bd.length ≤ 8 ∧ (partV s p q).gh.length ≤ 8 := by
  have h1 := hs.n
  have h2 := hs.ms
  have h3 := hs.ts
  have h4 := hs.bd
  have e1 : (partV s p q).lf.length = ((s.lv.take q).drop p).length * 3 := idF_length _
  have e2 : (partV s p q).gh.length = 8 := ghosts_len s p q
  simp only [partV, List.length_drop, List.length_take] at *
  omega
theorem parts_all (s : Sta) (cuts : List Int) (hs : StF s) (i : Nat) (hi : i < (parts s cuts).length) : (gv (parts s cuts) i).lf.length ≤ 400 ∧ (gv (parts s cuts) i).ms.length ≤ 128 ∧ (gv (parts s cuts) i).ts.length ≤ 128 ∧ (gv (parts s cuts) i).bd.length ≤ 8 ∧ (gv (parts s cuts) i).gh.length ≤ 8 := by
  rw [parts_at s cuts i (by rwa [parts_length] at hi)]
  exact partV_small s _ _ hs
theorem parts_short (s : Sta) (cuts : List Int) (hs : StF s) : Short (parts s cuts) := ⟨fun i hi => by
  have := parts_all s cuts hs i hi
  omega⟩
theorem parts_offs (s : Sta) (cuts : List Int) (hs : StF s) : ∀ n, n ≤ (parts s cuts).length → offs (parts s cuts) n ≤ 1000 * n
  | 0, _ => by simp [offs]
  | n + 1, h => by
    have ih := parts_offs s cuts hs n (by omega)
    have := parts_all s cuts hs n (by omega)
    rw [offs, msz]
    omega
theorem parts_most (s : Sta) (cuts : List Int) {n : Int} (hc : cutsOk n cuts = true) : (parts s cuts).length ≤ 16 := by
  have := (cutsOk_facts hc).1
  rw [parts_length]
  omega
theorem recL_short (L : List Vf) (cuts : List Int) : Short (recL L cuts) := by
  rw [recL]
  split
  · rename_i h
    simp only [recOk, Bool.and_eq_true] at h
    exact parts_short _ cuts (joinS_ok h.1)
  · exact ⟨fun i hi => by simp at hi⟩
theorem recL_offs (L : List Vf) (cuts : List Int) : offs (recL L cuts) (recL L cuts).length ≤ 1000000000 := by
  rw [recL]
  split
  · rename_i h
    simp only [recOk, Bool.and_eq_true] at h
    have h1 := parts_offs _ cuts (joinS_ok h.1) _ (Nat.le_refl _)
    have h2 := parts_most (joinS L) cuts h.2
    omega
  · simp [offs]
theorem impl_Recut' (A : Option Addr) (n c : Nat) (L : List Vf) (C : Option Addr) (m d : Nat) (cuts : List Int) (F : List Vf) (k : Nat) (q : Bool) (w : World) (r : VwR w A n L) (hn : n + szTo L n ≤ 1048576) (rc : RI w C m cuts) (hF : recL L cuts = F) (hm : F.length = k) (hq : recOk L cuts = q) :
    Calls Try.prog 26 #[.slice A n c, .slice C m d] w fun e w' => ∃ (z : Nat) (X : Option Addr) (y : Nat), z = w.heap.size ∧ e = .returned (.tuple #[.slice X k y, .bool q]) ∧ VwO w' z w'.heap.size (.slice X k y) k F ∧ Bw w w' := by
  refine (impl_Recut A n c L C m d cuts w r hn rc).mono ?_
  rintro e w' ⟨v, rfl, hV, b⟩
  rw [hF, hm] at hV
  obtain ⟨X, y, rfl, _⟩ := hV.reads
  rw [hq]
  exact ⟨_, _, _, rfl, rfl, hV, b⟩
theorem spec_Recut' (A : Option Addr) (n c : Nat) (L : List Vf) (C : Option Addr) (m d : Nat) (cuts : List Int) (F : List Vf) (k : Nat) (q : Bool) (w : World) (r : VwR w A n L) (hn : n + szTo L n ≤ 1048576) (rc : RI w C m cuts) (hF : recL L cuts = F) (hm : F.length = k) (hq : recOk L cuts = q) :
    Calls Try.prog 25 #[.slice A n c, .slice C m d] w fun e w' => ∃ (z : Nat) (X : Option Addr) (y : Nat), z = w.heap.size ∧ e = .returned (.tuple #[.slice X k y, .bool q]) ∧ VwO w' z w'.heap.size (.slice X k y) k F ∧ Bw w w' := by
  refine (spec_Recut A n c L C m d cuts w r hn rc).mono ?_
  rintro e w' ⟨v, rfl, hV, b⟩
  rw [hF, hm] at hV
  obtain ⟨X, y, rfl, _⟩ := hV.reads
  rw [hq]
  exact ⟨_, _, _, rfl, rfl, hV, b⟩
set_option maxHeartbeats 8000000 in
set_option maxRecDepth 100000 in
theorem laws_FnExactRecut (A : Option Addr) (n c : Nat) (L : List Vf) (C : Option Addr) (m c2 : Nat) (cuts : List Int) (w : World) (r : VwR w A n L) (cuts_rd : RI w C m cuts) :
    Calls Try.prog 5 #[.slice A n c, .slice C m c2] w fun e w' => e = .returned (.bool true) ∧ Bw w w' := by
  have hmx := cuts_rd.max
  have hB := Bw.refl w
  by_cases hbig : m > 1048576
  · have hd : decide ((m : Int) > 1048576) = true := decide_eq_true (by omega)
    go_enter Try.func5, Try.ntmps5
    go_wp2
    go_ret
    exact ⟨rfl, hB⟩
  have hd0 : decide ((m : Int) > 1048576) = false := decide_eq_false (by omega)
  go_enter Try.func5, Try.ntmps5
  go_wp2_with fail
  refine (szViewS A n c L _ r).mono ?_
  rintro e_ w2 ⟨lf, rfl, hlf, hsz, b1⟩
  replace hB := hB.trans b1
  have hb2 := b1.size
  clear b1
  by_cases hneg : lf < 0
  · have hd : decide (lf < 0) = true := decide_eq_true hneg
    clear hsz
    go_wp2
    go_ret
    exact ⟨rfl, hB⟩
  have hd : decide (lf < 0) = false := decide_eq_false hneg
  have hN := hsz (by omega)
  clear hsz hneg
  obtain ⟨F, hF⟩ : ∃ F, recL L cuts = F := ⟨_, rfl⟩
  obtain ⟨k, hm⟩ : ∃ k, F.length = k := ⟨_, rfl⟩
  obtain ⟨q, hq⟩ : ∃ q, recOk L cuts = q := ⟨_, rfl⟩
  have hqq : (q != q) = false := by simp
  have hsh : Short F := by rw [← hF]; exact recL_short L cuts
  have hof : offs F k ≤ 1000000000 := by rw [← hm, ← hF]; exact recL_offs L cuts
  have HF := hid hF
  have HM := hid hm
  have HQ := hid hq
  have HSH := hid hsh
  have HOF := hid hof
  have HSL := hid (short_of r.len hN)
  have HOL := hid (offs_of r hN)
  have HCU := hid cuts_rd
  clear hF hm hq hsh hof cuts_rd
  go_wp2_with fail
  refine (toViewS' A n c L _ (r.to hB) hN).mono ?_
  rintro e_ w3 ⟨z3, AV, cV, hz3, rfl, hv, b1⟩
  have hy3 : w.heap.size ≤ z3 := by rw [hz3]; omega
  replace hB := hB.trans b1
  have hb3 := b1.size
  clear b1
  go_wp2_with fail
  refine (toIntSz C m c2 cuts _ (HCU.out.to hB) (by omega)).mono ?_
  rintro e_ w4 ⟨z4, XI, yI, hz4, rfl, hi, b1⟩
  have hy4 : w.heap.size ≤ z4 := by rw [hz4]; omega
  replace hv := hv.to b1
  replace hB := hB.trans b1
  have hb4 := b1.size
  clear b1
  go_wp2_with fail
  refine (spec_Recut' AV n cV L XI m yI cuts F k q _ hv.rd hN hi.rdI' HF.out HM.out HQ.out).mono ?_
  rintro e_ w5 ⟨z5, XW, yW, hz5, rfl, hw, b1⟩
  have hy5 : w.heap.size ≤ z5 := by rw [hz5]; omega
  replace hv := hv.to b1
  replace hi := hi.to b1
  replace hB := hB.trans b1
  have hb5 := b1.size
  clear b1
  clear hv hi
  go_wp2_with fail
  refine (toViewS' A n c L _ (r.to hB) hN).mono ?_
  rintro e_ w6 ⟨z6, AX, cX, hz6, rfl, x0, b1⟩
  have hy6 : w.heap.size ≤ z6 := by rw [hz6]; omega
  replace hw := hw.to b1
  replace hB := hB.trans b1
  have hb6 := b1.size
  clear b1
  go_wp2_with fail
  refine (toIntSz C m c2 cuts _ (HCU.out.to hB) (by omega)).mono ?_
  rintro e_ w8 ⟨z8, XJ, yJ, hz8, rfl, x1, b1⟩
  have hy8 : w.heap.size ≤ z8 := by rw [hz8]; omega
  replace hw := hw.to b1
  replace x0 := x0.to b1
  replace hB := hB.trans b1
  have hb8 := b1.size
  clear b1
  go_wp2_with fail
  refine (impl_Recut' AX n cX L XJ m yJ cuts F k q _ x0.rd hN x1.rdI' HF.out HM.out HQ.out).mono ?_
  rintro e_ w9 ⟨z9, XG, yG, hz9, rfl, hg, b1⟩
  have hy9 : w.heap.size ≤ z9 := by rw [hz9]; omega
  replace hw := hw.to b1
  replace x0 := x0.to b1
  replace x1 := x1.to b1
  replace hB := hB.trans b1
  have hb9 := b1.size
  clear b1
  go_wp2_with fail
  refine (eqViewS_yes XG k yG XW yW F _ hg.rd hw.rd).mono ?_
  rintro e_ w10 ⟨rfl, b1⟩
  replace hw := hw.to b1
  replace x0 := x0.to b1
  replace x1 := x1.to b1
  replace hg := hg.to b1
  replace hB := hB.trans b1
  have hb10 := b1.size
  clear b1
  go_wp2_with fail
  refine (toViewS' A n c L _ (r.to hB) hN).mono ?_
  rintro e_ w11 ⟨z11, AY, cY, hz11, rfl, y0, b1⟩
  have hy11 : w.heap.size ≤ z11 := by rw [hz11]; omega
  replace hw := hw.to b1
  replace x0 := x0.to b1
  replace x1 := x1.to b1
  replace hg := hg.to b1
  replace hB := hB.trans b1
  have hb11 := b1.size
  clear b1
  go_wp2_with fail
  refine (eqViewS_yes AX n cX AY cY L _ x0.rd y0.rd).mono ?_
  rintro e_ w12 ⟨rfl, b1⟩
  replace hw := hw.to b1
  replace x0 := x0.to b1
  replace x1 := x1.to b1
  replace hg := hg.to b1
  replace y0 := y0.to b1
  replace hB := hB.trans b1
  have hb12 := b1.size
  clear b1
  clear y0
  go_wp2_with fail
  refine (toIntSz C m c2 cuts _ (HCU.out.to hB) (by omega)).mono ?_
  rintro e_ w13 ⟨z13, XK, yK, hz13, rfl, y1, b1⟩
  have hy13 : w.heap.size ≤ z13 := by rw [hz13]; omega
  replace hw := hw.to b1
  replace x0 := x0.to b1
  replace x1 := x1.to b1
  replace hg := hg.to b1
  replace hB := hB.trans b1
  have hb13 := b1.size
  clear b1
  go_wp2_with fail
  refine (eqIntS XJ m yJ cuts XK m yK cuts _ x1.rdI' y1.rdI').mono ?_
  rintro e_ w14 ⟨rfl, d1⟩
  have b1 := Bw.drawn d1
  rw [decide_eq_true (rfl : cuts = cuts)]
  replace hw := hw.to b1
  replace x0 := x0.to b1
  replace x1 := x1.to b1
  replace hg := hg.to b1
  replace y1 := y1.to b1
  replace hB := hB.trans b1
  have hb14 := b1.size
  clear b1 d1
  clear y1
  go_wp2_with fail
  refine (markViewS (.slice AX n cX) n L 1 _ z6 w6.heap.size x0 HSL.out (by omega) (by omega) HOL.out).mono ?_
  rintro e_ w15 ⟨rfl, hmx, c1⟩
  clear x0 hmx
  replace hw := hw.wi c1 (by omega)
  replace x1 := x1.wi c1 (by omega)
  replace hg := hg.wi c1 (by omega)
  replace hB := hB.then_wi c1 (by omega)
  have hb15 := c1.size
  clear c1
  go_wp2_with fail
  refine (markRowN (.slice XJ m yJ) m cuts (1 + (offs L n : Nat)) (1 + (offs L n : Nat) + (m : Nat)) _ z8 w8.heap.size x1 (by omega) (by omega) (by have := HOL.out; omega) rfl).mono ?_
  rintro e_ w16 ⟨rfl, hmi, hgr⟩
  have c1 := hmi.chg' x1 hgr
  clear x1 hgr hmi
  replace hw := hw.wi c1 (by omega)
  replace hg := hg.wi c1 (by omega)
  replace hB := hB.then_wi c1 (by omega)
  have hb16 := c1.size
  clear c1
  have hk0 : decide ((1 : Int) + (offs L n : Nat) + (m : Nat) < 0) = false := decide_eq_false (by omega)
  go_wp2_with fail
  refine (eqViewS_yes XG k yG XW yW F _ hg.rd hw.rd).mono ?_
  rintro e_ w17 ⟨rfl, b1⟩
  replace hw := hw.to b1
  replace hg := hg.to b1
  replace hB := hB.trans b1
  have hb17 := b1.size
  clear b1
  go_wp2_with fail
  refine (markViewS (.slice XG k yG) k F 1 _ z9 w9.heap.size hg HSH.out (by omega) (by omega) HOF.out).mono ?_
  rintro e_ w18 ⟨rfl, hmk, c1⟩
  clear hg
  replace hw := hw.wi c1 (by omega)
  replace hB := hB.then_wi c1 (by omega)
  have hb18 := c1.size
  clear c1
  have hk1 : decide ((1 : Int) + (offs F k : Nat) < 0) = false := decide_eq_false (by omega)
  have hk2 : ((1 : Int) + (offs F k : Nat) != 1 + (offs F k : Nat)) = false := by simp
  go_wp2_with fail
  refine (heldViewS XG k yG F 1 _ hmk.rd HM.out HSH.out (by omega) (by omega) HOF.out).mono ?_
  rintro e_ w19 ⟨rfl, b1⟩
  replace hw := hw.to b1
  replace hmk := hmk.to b1
  replace hB := hB.trans b1
  have hb19 := b1.size
  clear b1
  go_wp2_with fail
  refine (toViewS' A n c L _ (r.to hB) hN).mono ?_
  rintro e_ w20 ⟨z20, AZ, cZ, hz20, rfl, x3, b1⟩
  have hy20 : w.heap.size ≤ z20 := by rw [hz20]; omega
  replace hw := hw.to b1
  replace hmk := hmk.to b1
  replace hB := hB.trans b1
  have hb20 := b1.size
  clear b1
  go_wp2_with fail
  refine (toIntSz C m c2 cuts _ (HCU.out.to hB) (by omega)).mono ?_
  rintro e_ w21 ⟨z21, XL, yL, hz21, rfl, x4, b1⟩
  have hy21 : w.heap.size ≤ z21 := by rw [hz21]; omega
  replace hw := hw.to b1
  replace hmk := hmk.to b1
  replace x3 := x3.to b1
  replace hB := hB.trans b1
  have hb21 := b1.size
  clear b1
  go_wp2_with fail
  refine (impl_Recut' AZ n cZ L XL m yL cuts F k q _ x3.rd hN x4.rdI' HF.out HM.out HQ.out).mono ?_
  rintro e_ w22 ⟨z22, XH, yH, hz22, rfl, hh, b1⟩
  have hy22 : w.heap.size ≤ z22 := by rw [hz22]; omega
  replace hw := hw.to b1
  replace hmk := hmk.to b1
  replace x3 := x3.to b1
  replace x4 := x4.to b1
  replace hB := hB.trans b1
  have hb22 := b1.size
  clear b1
  clear x3 x4
  go_wp2_with fail
  refine (eqViewS_yes XH k yH XW yW F _ hh.rd hw.rd).mono ?_
  rintro e_ w23 ⟨rfl, b1⟩
  replace hw := hw.to b1
  replace hmk := hmk.to b1
  replace hh := hh.to b1
  replace hB := hB.trans b1
  have hb23 := b1.size
  clear b1
  go_wp2_with fail
  refine (heldViewS XG k yG F 1 _ hmk.rd HM.out HSH.out (by omega) (by omega) HOF.out).mono ?_
  rintro e_ w24 ⟨rfl, b1⟩
  replace hB := hB.trans b1
  go_wp2
  go_ret
  exact ⟨rfl, hB⟩
theorem law_Recut (A : Option Addr) (c : Nat) (l : List TV) (C : Option Addr) (d : Nat) (cuts : List Int) (W : World) (h : Kd.C kV W A l.length l) (_ : l.length ≤ c) (_ : l.length ≤ 9223372036854775807) {P : Prop} (_ : P) (h4 : Kd.C kI W C cuts.length cuts) (_ : cuts.length ≤ d) (_ : cuts.length ≤ 9223372036854775807) {P4 : Prop} (_ : P4) :
    Calls Try.prog 5 #[.slice A l.length c, .slice C cuts.length d] W fun e w' => e = .returned (.bool true) ∧ Bw W w' :=
  laws_FnExactRecut A l.length c (l.map vfOf) C cuts.length d cuts W (VwR.of_C h) (RI.of_C h4)
end Go.Proofs.Ytpgdemclfheimaa.U
