
/- The law FnExactStepViews, walked. -/
import Derived.Test.YtgdkffddcbjmmaaG16
set_option linter.unusedVariables false
set_option linter.unusedSimpArgs false
namespace Go.Proofs.Ytgdkffddcbjmmaa.U
open Go.RowKit Go.Lib Go.Proofs.YtgdkffddcbjmmaaW.PrintWords
open Go.Proofs.YtgdkffddcbjmmaaW.PrintLast Go.Proofs.YtgdkffddcbjmmaaW.PrintMore
theorem Rw.rdI' {w : World} {lo hi n c : Nat} {A : Option Addr} {F : List Int} (h : Rw w lo hi 3 1 (.slice A n c) n F) : RI w A n F := (FO.fr h.o).ri
theorem toIntSz (A : Option Addr) (n c : Nat) (l : List Int) (w : World) (r : RI w A n l) (hn : n ≤ 1048576) :
  Calls Try.prog 34 #[.slice A n c] w fun e w' => ∃ (z : Nat) (X : Option Addr) (y : Nat), z = w.heap.size ∧ e = .returned (.slice X n y) ∧ Rw w' z w'.heap.size 3 1 (.slice X n y) n l ∧ Bw w w' := by
 refine (toIntS A n c l w r hn).mono ?_
 rintro e w' ⟨v, rfl, o, b⟩
 obtain ⟨X, y, rfl, _, _⟩ := FO.reads (t := 3) (k := 1) ⟨o.out⟩
 exact ⟨_, _, _, rfl, rfl, OI.rw o, b⟩
theorem partV_small (s : Sta) (p q : Nat) (hs : StF s) : (partV s p q).lf.length ≤ 400 ∧ (partV s p q).ms.length ≤ 128 ∧ (partV s p q).ts.length ≤ 128 ∧ (partV s p q).bd.length ≤ 8 ∧ (partV s p q).gh.length ≤ 8 := by
 have h1 := hs.n
 have h2 := hs.ms
 have h3 := hs.ts
 have h4 := hs.bd
 have e1 : (partV s p q).lf.length = ((s.lv.take q).drop p).length * 3 := idF_length _
 have e2 : (partV s p q).gh.length = 8 := ghosts_len s p q
 simp only [partV, List.length_drop, List.length_take] at *
 omega
theorem parts_all (s : Sta) (cuts : List Int) (hs : StF s) (i : Nat) (hi : i < (parts s cuts).length) : (gv (parts s cuts) i).lf.length ≤ 400 ∧ (gv (parts s cuts) i).ms.length ≤ 128 ∧ (gv (parts s cuts) i).ts.length ≤ 128 ∧ (gv (parts s cuts) i).bd.length ≤ 8 ∧ (gv (parts s cuts) i).gh.length ≤ 8 := by
 rw [parts_at s cuts i (by rwa [parts_length] at hi)]
 exact partV_small s _ _ hs
theorem parts_short (s : Sta) (cuts : List Int) (hs : StF s) : Short (parts s cuts) := ⟨fun i hi => by
 have := parts_all s cuts hs i hi
 omega⟩
theorem parts_offs (s : Sta) (cuts : List Int) (hs : StF s) : ∀ n, n ≤ (parts s cuts).length → offs (parts s cuts) n ≤ 1000 * n
 | 0, _ => by simp [offs]
 | n + 1, h => by
  have ih := parts_offs s cuts hs n (by omega)
  have := parts_all s cuts hs n (by omega)
  rw [offs, msz]
  omega
theorem parts_most (s : Sta) (cuts : List Int) {n : Int} (hc : cutsOk n cuts = true) : (parts s cuts).length ≤ 16 := by
 have := (cutsOk_facts hc).1
 rw [parts_length]
 omega
theorem stv_tick {L : List Vf} (t : Int) (h : stvOk L = true) (h3 : ∀ x ∈ L, x.lf.length % 3 = 0) : StF (tickS (joinS L) t) ∧ cutsOk ((tickS (joinS L) t).lv.length : Int) (cutL L L.length) = true := by
 have h1 := h
 simp only [stvOk, Bool.and_eq_true] at h1
 exact ⟨StF.of (tickS_ok (joinOk_parts h1.1).2.2 t), by rw [(tickS_lv _ t).1]; exact cutL_ok h h3⟩
theorem stvL_short (L : List Vf) (t : Int) (h3 : ∀ x ∈ L, x.lf.length % 3 = 0) : Short (stvL L t) := by
 rw [stvL]
 split
 ·rename_i h
  exact parts_short _ _ (stv_tick t h h3).1
 ·exact ⟨fun i hi => by simp at hi⟩
theorem stvL_offs (L : List Vf) (t : Int) (h3 : ∀ x ∈ L, x.lf.length % 3 = 0) : offs (stvL L t) (stvL L t).length ≤ 1000000000 := by
 rw [stvL]
 split
 ·rename_i h
  have h1 := parts_offs _ (cutL L L.length) (stv_tick t h h3).1 _ (Nat.le_refl _)
  have h2 := parts_most (tickS (joinS L) t) (cutL L L.length) (stv_tick t h h3).2
  omega
 ·simp [offs]
theorem impl_StepViews' (A : Option Addr) (n c : Nat) (L : List Vf) (t : Int) (F : List Vf) (k : Nat) (w : World) (r : VwR w A n L) (hn : n + szTo L n ≤ 1048576) (ht : t ≤ 9223372036854775807) (hF : stvL L t = F) (hm : F.length = k) :
  Calls Try.prog 7 #[.slice A n c, .int .i64 t] w fun e w' => ∃ (z : Nat) (X : Option Addr) (y : Nat), z = w.heap.size ∧ e = .returned (.slice X k y) ∧ VwO w' z w'.heap.size (.slice X k y) k F ∧ Bw w w' := by
 refine (impl_StepViews A n c L t w r hn ht).mono ?_
 rintro e w' ⟨v, rfl, hV, b⟩
 rw [hF, hm] at hV
 obtain ⟨X, y, rfl, _⟩ := hV.reads
 exact ⟨_, _, _, rfl, rfl, hV, b⟩
theorem spec_StepViews' (A : Option Addr) (n c : Nat) (L : List Vf) (t : Int) (F : List Vf) (k : Nat) (w : World) (r : VwR w A n L) (hn : n + szTo L n ≤ 1048576) (ht : t ≤ 9223372036854775807) (hF : stvL L t = F) (hm : F.length = k) :
  Calls Try.prog 5 #[.slice A n c, .int .i64 t] w fun e w' => ∃ (z : Nat) (X : Option Addr) (y : Nat), z = w.heap.size ∧ e = .returned (.slice X k y) ∧ VwO w' z w'.heap.size (.slice X k y) k F ∧ Bw w w' := by
 refine (spec_StepViews A n c L t w r hn ht).mono ?_
 rintro e w' ⟨v, rfl, hV, b⟩
 rw [hF, hm] at hV
 obtain ⟨X, y, rfl, _⟩ := hV.reads
 exact ⟨_, _, _, rfl, rfl, hV, b⟩
set_option maxHeartbeats 8000000 in
set_option maxRecDepth 100000 in
theorem laws_FnExactStepViews (A : Option Addr) (n c : Nat) (L : List Vf) (t : Int) (w : World) (r : VwR w A n L) (ht : t ≤ 9223372036854775807) :
  Calls Try.prog 3 #[.slice A n c, .int .i64 t] w fun e w' => e = .returned (.bool true) ∧ Bw w w' := by
 have HT := hid ht
 clear ht
 have hB := Bw.refl w
 go_enter Try.func3, Try.ntmps3
 go_wp2_with fail
 refine (szViewS A n c L _ r).mono ?_
 rintro e_ w2 ⟨lf, rfl, hlf, hsz, b1⟩
 replace hB := hB.trans b1
 have hb2 := b1.size
 clear b1
 by_cases hneg : lf < 0
 ·have hd : decide (lf < 0) = true := decide_eq_true hneg
  clear hsz
  go_wp2
  go_ret
  exact ⟨rfl, hB⟩
 have hd : decide (lf < 0) = false := decide_eq_false hneg
 have hN := hsz (by omega)
 clear hsz hneg
 obtain ⟨F, hF⟩ : ∃ F, stvL L t = F := ⟨_, rfl⟩
 obtain ⟨k, hm⟩ : ∃ k, F.length = k := ⟨_, rfl⟩
 have hsh : Short F := by rw [← hF]; exact stvL_short L t r.thirds
 have hof : offs F k ≤ 1000000000 := by rw [← hm, ← hF]; exact stvL_offs L t r.thirds
 have HF := hid hF
 have HM := hid hm
 have HSH := hid hsh
 have HOF := hid hof
 have HSL := hid (short_of r.len hN)
 have HOL := hid (offs_of r hN)
 clear hF hm hsh hof
 go_wp2_with fail
 refine (toViewS' A n c L _ (r.to hB) hN).mono ?_
 rintro e_ w3 ⟨z3, AV, cV, hz3, rfl, hv, b1⟩
 have hy3 : w.heap.size ≤ z3 := by rw [hz3]; omega
 replace hB := hB.trans b1
 have hb3 := b1.size
 clear b1
 go_wp2_with fail
 refine (spec_StepViews' AV n cV L t F k _ hv.rd hN HT.out HF.out HM.out).mono ?_
 rintro e_ w5 ⟨z5, XW, yW, hz5, rfl, hw, b1⟩
 have hy5 : w.heap.size ≤ z5 := by rw [hz5]; omega
 replace hv := hv.to b1
 replace hB := hB.trans b1
 have hb5 := b1.size
 clear b1
 clear hv
 go_wp2_with fail
 refine (toViewS' A n c L _ (r.to hB) hN).mono ?_
 rintro e_ w6 ⟨z6, AX, cX, hz6, rfl, x0, b1⟩
 have hy6 : w.heap.size ≤ z6 := by rw [hz6]; omega
 replace hw := hw.to b1
 replace hB := hB.trans b1
 have hb6 := b1.size
 clear b1
 go_wp2_with fail
 refine (impl_StepViews' AX n cX L t F k _ x0.rd hN HT.out HF.out HM.out).mono ?_
 rintro e_ w9 ⟨z9, XG, yG, hz9, rfl, hg, b1⟩
 have hy9 : w.heap.size ≤ z9 := by rw [hz9]; omega
 replace hw := hw.to b1
 replace x0 := x0.to b1
 replace hB := hB.trans b1
 have hb9 := b1.size
 clear b1
 go_wp2_with fail
 refine (eqViewS_yes XG k yG XW yW F _ hg.rd hw.rd).mono ?_
 rintro e_ w10 ⟨rfl, b1⟩
 replace hw := hw.to b1
 replace x0 := x0.to b1
 replace hg := hg.to b1
 replace hB := hB.trans b1
 have hb10 := b1.size
 clear b1
 go_wp2_with fail
 refine (toViewS' A n c L _ (r.to hB) hN).mono ?_
 rintro e_ w11 ⟨z11, AY, cY, hz11, rfl, y0, b1⟩
 have hy11 : w.heap.size ≤ z11 := by rw [hz11]; omega
 replace hw := hw.to b1
 replace x0 := x0.to b1
 replace hg := hg.to b1
 replace hB := hB.trans b1
 have hb11 := b1.size
 clear b1
 go_wp2_with fail
 refine (eqViewS_yes AX n cX AY cY L _ x0.rd y0.rd).mono ?_
 rintro e_ w12 ⟨rfl, b1⟩
 replace hw := hw.to b1
 replace x0 := x0.to b1
 replace hg := hg.to b1
 replace y0 := y0.to b1
 replace hB := hB.trans b1
 have hb12 := b1.size
 clear b1
 clear y0
 go_wp2_with fail
 refine (markViewS (.slice AX n cX) n L 1 _ z6 w6.heap.size x0 HSL.out (by omega) (by omega) HOL.out).mono ?_
 rintro e_ w15 ⟨rfl, hmx, c1⟩
 clear x0 hmx
 replace hw := hw.wi c1 (by omega)
 replace hg := hg.wi c1 (by omega)
 replace hB := hB.then_wi c1 (by omega)
 have hb15 := c1.size
 clear c1
 have hk0 : decide ((1 : Int) + (offs L n : Nat) < 0) = false := decide_eq_false (by omega)
 go_wp2_with fail
 refine (eqViewS_yes XG k yG XW yW F _ hg.rd hw.rd).mono ?_
 rintro e_ w17 ⟨rfl, b1⟩
 replace hw := hw.to b1
 replace hg := hg.to b1
 replace hB := hB.trans b1
 have hb17 := b1.size
 clear b1
 go_wp2_with fail
 refine (markViewS (.slice XG k yG) k F 1 _ z9 w9.heap.size hg HSH.out (by omega) (by omega) HOF.out).mono ?_
 rintro e_ w18 ⟨rfl, hmk, c1⟩
 clear hg
 replace hw := hw.wi c1 (by omega)
 replace hB := hB.then_wi c1 (by omega)
 have hb18 := c1.size
 clear c1
 have hk1 : decide ((1 : Int) + (offs F k : Nat) < 0) = false := decide_eq_false (by omega)
 have hk2 : ((1 : Int) + (offs F k : Nat) != 1 + (offs F k : Nat)) = false := by simp
 go_wp2_with fail
 refine (heldViewS XG k yG F 1 _ hmk.rd HM.out HSH.out (by omega) (by omega) HOF.out).mono ?_
 rintro e_ w19 ⟨rfl, b1⟩
 replace hw := hw.to b1
 replace hmk := hmk.to b1
 replace hB := hB.trans b1
 have hb19 := b1.size
 clear b1
 go_wp2_with fail
 refine (toViewS' A n c L _ (r.to hB) hN).mono ?_
 rintro e_ w20 ⟨z20, AZ, cZ, hz20, rfl, x3, b1⟩
 have hy20 : w.heap.size ≤ z20 := by rw [hz20]; omega
 replace hw := hw.to b1
 replace hmk := hmk.to b1
 replace hB := hB.trans b1
 have hb20 := b1.size
 clear b1
 go_wp2_with fail
 refine (impl_StepViews' AZ n cZ L t F k _ x3.rd hN HT.out HF.out HM.out).mono ?_
 rintro e_ w22 ⟨z22, XH, yH, hz22, rfl, hh, b1⟩
 have hy22 : w.heap.size ≤ z22 := by rw [hz22]; omega
 replace hw := hw.to b1
 replace hmk := hmk.to b1
 replace x3 := x3.to b1
 replace hB := hB.trans b1
 have hb22 := b1.size
 clear b1
 clear x3
 go_wp2_with fail
 refine (eqViewS_yes XH k yH XW yW F _ hh.rd hw.rd).mono ?_
 rintro e_ w23 ⟨rfl, b1⟩
 replace hw := hw.to b1
 replace hmk := hmk.to b1
 replace hh := hh.to b1
 replace hB := hB.trans b1
 have hb23 := b1.size
 clear b1
 go_wp2_with fail
 refine (heldViewS XG k yG F 1 _ hmk.rd HM.out HSH.out (by omega) (by omega) HOF.out).mono ?_
 rintro e_ w24 ⟨rfl, b1⟩
 replace hB := hB.trans b1
 go_wp2
 go_ret
 exact ⟨rfl, hB⟩
theorem law_StepViews (A : Option Addr) (c : Nat) (l : List TV) (t : Int) (W : World) (h : Kd.C kV W A l.length l) (_ : l.length ≤ c) (_ : l.length ≤ 9223372036854775807) {P : Prop} (_ : P) (ht : (Lit.int .i64 t).wf = true) :
  Calls Try.prog 3 #[.slice A l.length c, .int .i64 t] W fun e w' => e = .returned (.bool true) ∧ Bw W w' :=
 laws_FnExactStepViews A l.length c (l.map vfOf) t W (VwR.of_C h) (by
  have := ht
  simp [Lit.wf, IntKind.min, IntKind.max, IntKind.signed, IntKind.bits] at this
  omega)
end Go.Proofs.Ytgdkffddcbjmmaa.U
