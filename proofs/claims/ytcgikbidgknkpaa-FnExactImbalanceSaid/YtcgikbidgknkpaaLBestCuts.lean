
/- The law FnExactBestCuts, walked. -/
import Derived.Test.YtcgikbidgknkpaaBc
import Derived.Test.YtcgikbidgknkpaaLJoinViews
set_option linter.unusedVariables false
set_option linter.unusedSimpArgs false
namespace Go.Proofs.Ytcgikbidgknkpaa.U
open Go.RowKit Go.Lib Go.Proofs.YtcgikbidgknkpaaW.PrintWords

theorem Rw.rdI {w : World} {lo hi n c : Nat} {A : Option Addr} {F : List Int} (h : Rw w lo hi 3 1 (.slice A n c) n F) : RI w A n F := (FO.fr h.o).ri
theorem bestL_len (L : List Vf) : (bestL L).length ≤ 1048576 := by
  rw [bestL]
  split
  · exact partL_len _ _
  · simp
theorem impl_BestCuts' (A : Option Addr) (n c : Nat) (L : List Vf) (F : List Int) (m : Nat) (q : Bool) (w : World) (r : VwR w A n L) (hn : n + szTo L n ≤ 1048576) (hF : bestL L = F) (hm : F.length = m) (hq : bestOk L = q) :
    Calls Try.prog 28 #[.slice A n c] w fun e w' => ∃ (z : Nat) (X : Option Addr) (y : Nat), z = w.heap.size ∧ e = .returned (.tuple #[.slice X m y, .bool q]) ∧ Rw w' z w'.heap.size 3 1 (.slice X m y) m F ∧ Bw w w' := by
  refine (impl_BestCuts A n c L w r hn).mono ?_
  rintro e w' ⟨v, rfl, hO, b⟩
  rw [hF, hm] at hO
  obtain ⟨X, y, rfl, _, _⟩ := FO.reads (t := 3) (k := 1) ⟨hO.out⟩
  rw [hq]
  exact ⟨_, _, _, rfl, rfl, hO.rw, b⟩
theorem spec_BestCuts' (A : Option Addr) (n c : Nat) (L : List Vf) (F : List Int) (m : Nat) (q : Bool) (w : World) (r : VwR w A n L) (hn : n + szTo L n ≤ 1048576) (hF : bestL L = F) (hm : F.length = m) (hq : bestOk L = q) :
    Calls Try.prog 27 #[.slice A n c] w fun e w' => ∃ (z : Nat) (X : Option Addr) (y : Nat), z = w.heap.size ∧ e = .returned (.tuple #[.slice X m y, .bool q]) ∧ Rw w' z w'.heap.size 3 1 (.slice X m y) m F ∧ Bw w w' := by
  refine (spec_BestCuts A n c L w r hn).mono ?_
  rintro e w' ⟨v, rfl, hO, b⟩
  rw [hF, hm] at hO
  obtain ⟨X, y, rfl, _, _⟩ := FO.reads (t := 3) (k := 1) ⟨hO.out⟩
  rw [hq]
  exact ⟨_, _, _, rfl, rfl, hO.rw, b⟩
set_option maxHeartbeats 8000000 in
set_option maxRecDepth 100000 in
theorem laws_FnExactBestCuts (A : Option Addr) (n c : Nat) (L : List Vf) (w : World) (r : VwR w A n L) :
    Calls Try.prog 6 #[.slice A n c] w fun e w' => e = .returned (.bool true) ∧ Bw w w' := by
  have hlen := r.len
  have hB := Bw.refl w
  go_enter Try.func6, Try.ntmps6
  go_wp2_with fail
  refine (szViewS A n c L _ r).mono ?_
  rintro e_ w1 ⟨lf, rfl, hlf, hsz, b1⟩
  replace hB := hB.trans b1
  clear b1
  by_cases hneg : lf < 0
  · have hd : decide (lf < 0) = true := decide_eq_true hneg
    clear hsz
    go_wp2
    go_ret
    exact ⟨rfl, hB⟩
  have hd : decide (lf < 0) = false := decide_eq_false hneg
  have hN := hsz (by omega)
  clear hsz hneg
  obtain ⟨F, hF⟩ : ∃ F, bestL L = F := ⟨_, rfl⟩
  obtain ⟨m, hm⟩ : ∃ m, F.length = m := ⟨_, rfl⟩
  obtain ⟨q, hq⟩ : ∃ q, bestOk L = q := ⟨_, rfl⟩
  have hml : m ≤ 1048576 := by rw [← hm, ← hF]; exact bestL_len L
  have HF := hid hF
  have HQ := hid hq
  have HM := hid hm
  have hqq : (q != q) = false := by simp
  clear hF hq hm
  have hsh := short_of hlen hN
  have hof := offs_of r hN
  have HSH := hid hsh
  have HOF := hid hof
  clear hsh hof
  go_wp2_with fail
  refine (toViewS' A n c L _ (r.to hB) hN).mono ?_
  rintro e_ w2 ⟨z2, AV1, cV1, hz2, rfl, V1, b1⟩
  have hy2 : w.heap.size ≤ z2 := by rw [hz2]; exact hB.size
  replace hB := hB.trans b1
  have hb2 := b1.size
  clear b1
  go_wp2_with fail
  refine (spec_BestCuts' AV1 n cV1 L F m q _ V1.rd hN HF.out HM.out HQ.out).mono ?_
  rintro e_ w3 ⟨z3, XW, yW, hz3, rfl, hw, b1⟩
  have hy3 : w.heap.size ≤ z3 := by rw [hz3]; exact hB.size
  replace hB := hB.trans b1
  have hb3 := b1.size
  clear b1
  clear V1
  go_wp2_with fail
  refine (toViewS' A n c L _ (r.to hB) hN).mono ?_
  rintro e_ w5 ⟨z5, AX, cX, hz5, rfl, x0, b1⟩
  have hy5 : w.heap.size ≤ z5 := by rw [hz5]; exact hB.size
  replace hw := hw.to b1
  replace hB := hB.trans b1
  have hb5 := b1.size
  clear b1
  go_wp2_with fail
  refine (impl_BestCuts' AX n cX L F m q _ x0.rd hN HF.out HM.out HQ.out).mono ?_
  rintro e_ w6 ⟨z6, XG, yG, hz6, rfl, hg, b1⟩
  have hy6 : w.heap.size ≤ z6 := by rw [hz6]; exact hB.size
  replace hw := hw.to b1
  replace x0 := x0.to b1
  replace hB := hB.trans b1
  have hb6 := b1.size
  clear b1
  go_wp2_with fail
  refine (eqIntS XG m yG F XW m yW F _ hg.rdI hw.rdI).mono ?_
  rintro e_ w8 ⟨rfl, d1⟩
  have b1 := Bw.drawn d1
  rw [decide_eq_true (rfl : F = F)]
  replace hw := hw.to b1
  replace x0 := x0.to b1
  replace hg := hg.to b1
  replace hB := hB.trans b1
  have hb8 := b1.size
  clear b1 d1
  go_wp2_with fail
  refine (toViewS' A n c L _ (r.to hB) hN).mono ?_
  rintro e_ w9 ⟨z9, AY, cY, hz9, rfl, y0, b1⟩
  have hy9 : w.heap.size ≤ z9 := by rw [hz9]; exact hB.size
  replace hw := hw.to b1
  replace x0 := x0.to b1
  replace hg := hg.to b1
  replace hB := hB.trans b1
  have hb9 := b1.size
  clear b1
  go_wp2_with fail
  refine (eqViewS_yes AX n cX AY cY L _ x0.rd y0.rd).mono ?_
  rintro e_ w10 ⟨rfl, b1⟩
  replace hw := hw.to b1
  replace x0 := x0.to b1
  replace hg := hg.to b1
  replace hB := hB.trans b1
  have hb10 := b1.size
  clear b1 y0
  go_wp2_with fail
  refine (markViewS (.slice AX n cX) n L 1 _ z5 w5.heap.size x0 HSH.out (by omega) (by omega) HOF.out).mono ?_
  rintro e_ w11 ⟨rfl, xm, c1⟩
  clear x0
  replace hw := hw.wi c1 (by omega)
  replace hg := hg.wi c1 (by omega)
  replace hB := hB.then_wi c1 (by omega)
  have hb11 := c1.size
  clear c1 xm
  have hk0 : decide ((1 : Int) + (offs L n : Nat) < 0) = false := decide_eq_false (by omega)
  go_wp2_with fail
  refine (eqIntS XG m yG F XW m yW F _ hg.rdI hw.rdI).mono ?_
  rintro e_ w12 ⟨rfl, d1⟩
  have b1 := Bw.drawn d1
  rw [decide_eq_true (rfl : F = F)]
  replace hw := hw.to b1
  replace hg := hg.to b1
  replace hB := hB.trans b1
  have hb12 := b1.size
  clear b1 d1
  go_wp2_with fail
  refine (markRowN (.slice XG m yG) m F 1 (1 + (m : Nat)) _ z6 w6.heap.size hg hml (by omega) (by omega) rfl).mono ?_
  rintro e_ w13 ⟨rfl, hm, hgr⟩
  have c1 := hm.chg' hg hgr
  clear hg hgr
  replace hw := hw.wi c1 (by omega)
  replace hB := hB.then_wi c1 (by omega)
  have hb13 := c1.size
  clear c1
  have hk1 : decide ((1 : Int) + (m : Nat) < 0) = false := decide_eq_false (by omega)
  have hk2 : ((1 : Int) + (m : Nat) != 1 + (m : Nat)) = false := by simp
  go_wp2_with fail
  refine (heldRowN XG m yG 1 (1 + (m : Nat)) _ hm.rdI hml (by omega) (by omega) rfl).mono ?_
  rintro e_ w14 ⟨rfl, d1⟩
  have b1 := Bw.drawn d1
  replace hw := hw.to b1
  replace hm := hm.to b1
  replace hB := hB.trans b1
  have hb14 := b1.size
  clear b1 d1
  go_wp2_with fail
  refine (toViewS' A n c L _ (r.to hB) hN).mono ?_
  rintro e_ w15 ⟨z15, AZ, cZ, hz15, rfl, y1, b1⟩
  have hy15 : w.heap.size ≤ z15 := by rw [hz15]; exact hB.size
  replace hw := hw.to b1
  replace hm := hm.to b1
  replace hB := hB.trans b1
  have hb15 := b1.size
  clear b1
  go_wp2_with fail
  refine (impl_BestCuts' AZ n cZ L F m q _ y1.rd hN HF.out HM.out HQ.out).mono ?_
  rintro e_ w16 ⟨z16, XH, yH, hz16, rfl, hh, b1⟩
  have hy16 : w.heap.size ≤ z16 := by rw [hz16]; exact hB.size
  replace hw := hw.to b1
  replace hm := hm.to b1
  replace hB := hB.trans b1
  have hb16 := b1.size
  clear b1
  clear y1
  go_wp2_with fail
  refine (eqIntS XH m yH F XW m yW F _ hh.rdI hw.rdI).mono ?_
  rintro e_ w17 ⟨rfl, d1⟩
  have b1 := Bw.drawn d1
  rw [decide_eq_true (rfl : F = F)]
  replace hw := hw.to b1
  replace hm := hm.to b1
  replace hh := hh.to b1
  replace hB := hB.trans b1
  have hb17 := b1.size
  clear b1 d1
  go_wp2_with fail
  refine (heldRowN XG m yG 1 (1 + (m : Nat)) _ hm.rdI hml (by omega) (by omega) rfl).mono ?_
  rintro e_ w18 ⟨rfl, d1⟩
  replace hB := hB.trans (Bw.drawn d1)
  go_wp2
  go_ret
  exact ⟨rfl, hB⟩
theorem law_BestCuts (A : Option Addr) (c : Nat) (l : List TV) (w : World) (h : Kd.C kV w A l.length l) (_ : l.length ≤ c) (_ : l.length ≤ 9223372036854775807) {P : Prop} (_ : P) :
    Calls Try.prog 6 #[.slice A l.length c] w fun e w' => e = .returned (.bool true) ∧ Bw w w' :=
  laws_FnExactBestCuts A l.length c (l.map vfOf) w (VwR.of_C h)
end Go.Proofs.Ytcgikbidgknkpaa.U
