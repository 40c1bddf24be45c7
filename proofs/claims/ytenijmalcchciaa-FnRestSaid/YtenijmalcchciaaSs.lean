
/- States: validity, by the reference. -/
import Derived.Test.YtenijmalcchciaaSk
set_option linter.unusedVariables false
set_option linter.unusedSimpArgs false
namespace Go.Proofs.Ytenijmalcchciaa.U
open Go.RowKit Go.Lib Go.Proofs.YtenijmalcchciaaW.PrintWords
theorem bedsOk_step (bd : List Int) (n j : Nat) (hl : bd.length = n) (hj : j < n) : (bd.drop j).all (inR · 0 1000000) = (inR (rd bd (j : Int)) 0 1000000 && (bd.drop (j + 1)).all (inR · 0 1000000)) := by
 rw [List.drop_eq_getElem_cons (by omega), List.all_cons, rd_nat, List.getD_eq_getElem?_getD, List.getElem?_eq_getElem (by omega)]
 rfl
set_option maxHeartbeats 8000000 in
set_option maxRecDepth 100000 in
theorem spec_StateOk (ro : Int) (A0 : Option Addr) (n0 c0 : Nat) (lv : List Ce) (A1 : Option Addr) (n1 c1 : Nat) (ms : List Int) (A2 : Option Addr) (n2 c2 : Nat) (ts : List Int) (A3 : Option Addr) (n3 c3 : Nat) (bd : List Int) (w : World)
  (r0 : IdR w A0 n0 lv) (r1 : RI w A1 n1 ms) (r2 : RI w A2 n2 ts) (r3 : RI w A3 n3 bd) :
  Calls Try.prog 69 #[.agg #[.int .i64 ro, .slice A0 n0 c0, .slice A1 n1 c1, .slice A2 n2 c2, .slice A3 n3 c3]] w fun e w' => e = .returned (.bool (staOk ro lv ms ts bd)) ∧ Bw w w' := by
 have h0 := r0.len
 have h1 := r1.len
 have h2 := r2.len
 have h3 := r3.len
 have hm1 := r1.max
 have hm3 := r3.max
 have b0 := Bw.box1 w (.cells #[.int .i64 ro, .slice A0 n0 c0, .slice A1 n1 c1, .slice A2 n2 c2, .slice A3 n3 c3] 50)
 have g0 := box_cell (Bw.refl (w.alloc (.cells #[.int .i64 ro, .slice A0 n0 c0, .slice A1 n1 c1, .slice A2 n2 c2, .slice A3 n3 c3] 50))) 0
 have g1 := box_cell (Bw.refl (w.alloc (.cells #[.int .i64 ro, .slice A0 n0 c0, .slice A1 n1 c1, .slice A2 n2 c2, .slice A3 n3 c3] 50))) 1
 have g2 := box_cell (Bw.refl (w.alloc (.cells #[.int .i64 ro, .slice A0 n0 c0, .slice A1 n1 c1, .slice A2 n2 c2, .slice A3 n3 c3] 50))) 2
 have g3 := box_cell (Bw.refl (w.alloc (.cells #[.int .i64 ro, .slice A0 n0 c0, .slice A1 n1 c1, .slice A2 n2 c2, .slice A3 n3 c3] 50))) 3
 have g4 := box_cell (Bw.refl (w.alloc (.cells #[.int .i64 ro, .slice A0 n0 c0, .slice A1 n1 c1, .slice A2 n2 c2, .slice A3 n3 c3] 50))) 4
 simp only [List.getElem?_toArray, List.getElem?_cons_zero, List.getElem?_cons_succ] at g0 g1 g2 g3 g4
 cases hk : isBal ro lv with
 | false =>
  rw [show staOk ro lv ms ts bd = false by simp [staOk, hk]]
  have H := hid hk; clear hk h0 h1 h2 h3
  go_enter Try.func69, Try.ntmps69
  go_wp2_with fail
  refine (spec_IsBalanced ro A0 n0 c0 lv _ (r0.to b0)).mono ?_
  rintro e w1 ⟨rfl, b1⟩
  rw [H.out]
  go_wp2
  go_ret
  exact ⟨rfl, b0.trans b1⟩
 | true =>
  have hn := (meshOk_len (by have := hk; simp only [isBal, Bool.and_eq_true] at this; exact this.1 : meshOk ro lv = true)).1
  rw [show staOk ro lv ms ts bd = hasC ro n0 ms ts bd by simp [staOk, hk, h0]]
  rw [h0] at hn
  have H := hid hk; clear hk h0
  by_cases q1 : n1 = n0
  case neg =>
   rw [show hasC ro n0 ms ts bd = false by simp [hasC, h1, q1]]
   have t1 : ((n1 : Int) != (n0 : Int)) = true := neT (by omega)
   clear q1 h1 h2 h3 hn
   go_enter Try.func69, Try.ntmps69
   go_wp2_with fail
   refine (spec_IsBalanced ro A0 n0 c0 lv _ (r0.to b0)).mono ?_
   rintro e w1 ⟨rfl, b1⟩
   rw [H.out]
   replace g0 := pw_cell_below b1.out g0
   replace g1 := pw_cell_below b1.out g1
   replace g2 := pw_cell_below b1.out g2
   replace g3 := pw_cell_below b1.out g3
   replace g4 := pw_cell_below b1.out g4
   go_wp2
   go_ret
   exact ⟨rfl, b0.trans b1⟩
  obtain rfl := q1
  by_cases q2 : n2 = n1
  case neg =>
   rw [show hasC ro n1 ms ts bd = false by simp [hasC, h2, q2]]
   have t1 : ((n1 : Int) != (n1 : Int)) = false := neF rfl
   have t2 : ((n2 : Int) != (n1 : Int)) = true := neT (by omega)
   clear q2 h1 h2 h3 hn
   go_enter Try.func69, Try.ntmps69
   go_wp2_with fail
   refine (spec_IsBalanced ro A0 n1 c0 lv _ (r0.to b0)).mono ?_
   rintro e w1 ⟨rfl, b1⟩
   rw [H.out]
   replace g0 := pw_cell_below b1.out g0
   replace g1 := pw_cell_below b1.out g1
   replace g2 := pw_cell_below b1.out g2
   replace g3 := pw_cell_below b1.out g3
   replace g4 := pw_cell_below b1.out g4
   go_wp2
   go_ret
   exact ⟨rfl, b0.trans b1⟩
  obtain rfl := q2
  by_cases q3 : (n3 : Int) = ro
  case neg =>
   rw [show hasC ro n2 ms ts bd = false by simp [hasC, h3, q3]]
   have t1 : ((n2 : Int) != (n2 : Int)) = false := neF rfl
   have t3 : ((n3 : Int) != ro) = true := neT q3
   clear q3 h1 h2 h3 hn
   go_enter Try.func69, Try.ntmps69
   go_wp2_with fail
   refine (spec_IsBalanced ro A0 n2 c0 lv _ (r0.to b0)).mono ?_
   rintro e w1 ⟨rfl, b1⟩
   rw [H.out]
   replace g0 := pw_cell_below b1.out g0
   replace g1 := pw_cell_below b1.out g1
   replace g2 := pw_cell_below b1.out g2
   replace g3 := pw_cell_below b1.out g3
   replace g4 := pw_cell_below b1.out g4
   go_wp2
   go_ret
   exact ⟨rfl, b0.trans b1⟩
  have t1 : ((n2 : Int) != (n2 : Int)) = false := neF rfl
  have t3 : ((n3 : Int) != ro) = false := neF q3
  obtain ⟨R, hR⟩ : ∃ R, cellsOk ms ts n2 0 = R := ⟨_, rfl⟩
  obtain ⟨S, hS⟩ : ∃ S, bd.all (inR · 0 1000000) = S := ⟨_, rfl⟩
  have hval : hasC ro n2 ms ts bd = (S && R && decide (ms.sum ≤ 10000000)) := by simp [hasC, h1, h2, h3, q3, hR, hS]
  rw [hval]
  have HSU : Hid (R = true → SumOk ms) := hid fun h => sum_ok_of_cells h1 hn (hR.trans h)
  have HC := hid (show R = cellsOk ms ts (n2 - 0) 0 from hR.symm)
  have HS := hid (show S = (bd.drop 0).all (inR · 0 1000000) from hS.symm)
  have HL3 := hid h3
  clear q3 h1 h2 h3 hS hR hval
  go_enter Try.func69, Try.ntmps69
  go_wp2_with fail
  refine (spec_IsBalanced ro A0 n2 c0 lv _ (r0.to b0)).mono ?_
  rintro e w1 ⟨rfl, b1⟩
  rw [H.out]
  replace g0 := pw_cell_below b1.out g0
  replace g1 := pw_cell_below b1.out g1
  replace g2 := pw_cell_below b1.out g2
  replace g3 := pw_cell_below b1.out g3
  replace g4 := pw_cell_below b1.out g4
  replace b0 := b0.trans b1
  clear b1
  go_wp2
  go_loopw [3] (fun v wr => ∃ j : Nat, j ≤ n2 ∧ v = .int .i64 j ∧ Hid (R = cellsOk ms ts (n2 - j) j) ∧ Bw w1 wr) (fun v _ => n2 - (intOf v).toNat)
  case atStart => exact ⟨0, by omega, rfl, HC, Bw.refl _⟩
  case round =>
   obtain ⟨j, hj, rfl, hE, hB⟩ := hrel
   replace g0 := pw_cell_below hB.out g0
   replace g1 := pw_cell_below hB.out g1
   replace g2 := pw_cell_below hB.out g2
   replace g3 := pw_cell_below hB.out g3
   replace g4 := pw_cell_below hB.out g4
   by_cases hlt : j < n2
   ·have t4 : decide ((j : Int) < (n2 : Int)) = true := decide_eq_true (by omega)
    have hnext : Hid (R = ((inR (rd ms (j : Int)) 0 10000000 && inR (rd ts (j : Int)) 0 (1000 * rd ms (j : Int))) && cellsOk ms ts (n2 - (j + 1)) (j + 1))) := hid (by rw [hE.out, show n2 - j = (n2 - (j + 1)) + 1 by omega, cellsOk])
    obtain ⟨ad, rfl, x0⟩ := ((r1.to b0).to hB).nat j hlt
    obtain ⟨ae, rfl, y0⟩ := ((r2.to b0).to hB).nat j hlt
    clear HC hE
    generalize rd ms (j : Int) = x at *
    generalize rd ts (j : Int) = y at *
    have i0 : (0 : Int) ≤ (j : Int) := by omega
    have i1 : (j : Int) < (n2 : Int) := by omega
    cases hx : inR x 0 10000000 with
    | false =>
     have hR : Hid (R = false) := hid (by rw [hnext.out, hx]; rfl)
     clear hnext
     go_wp2
     go_quiet ((go_at_call 86; exact quietV (l01In _ _ _ _)))
     go_wp2
     go_ret
     exact ⟨ret_bool (by rw [hR.out, Bool.and_false]; rfl), (b0.trans hB).trans (Bw.drawn ⟨⟨_, rfl⟩⟩)⟩
    | true =>
     have hx' := inR_iff.1 hx
     have e1 : IntKind.i64.wrap (1000 * x) = 1000 * x := i64w (by omega) (by omega)
     cases hy : inR y 0 (1000 * x) with
     | false =>
      have hR : Hid (R = false) := hid (by rw [hnext.out, hx, hy]; rfl)
      clear hnext
      go_wp2
      go_quiet ((go_at_call 86; exact quietV (l01In _ _ _ _)))
      go_wp2
      go_ret
      exact ⟨ret_bool (by rw [hR.out, Bool.and_false]; rfl), (b0.trans hB).trans (Bw.drawn ⟨⟨_, rfl⟩⟩)⟩
     | true =>
      have hR : Hid (R = cellsOk ms ts (n2 - (j + 1)) (j + 1)) := hid (by rw [hnext.out, hx, hy]; rfl)
      clear hnext
      go_wp2
      go_quiet ((go_at_call 86; exact quietV (l01In _ _ _ _)))
      go_wp2
      go_roundw
      case rel => exact ⟨j + 1, by omega, by go_num, hR, hB.trans (Bw.drawn ⟨⟨_, rfl⟩⟩)⟩
      case measure => simp [intOf]; omega
   ·obtain rfl : j = n2 := by omega
    have t4 : decide ((j : Int) < (j : Int)) = false := decide_eq_false (by omega)
    have hR : Hid (R = true) := hid (by rw [hE.out, Nat.sub_self]; rfl)
    replace b0 := b0.trans hB
    clear HC hE hB hlt hj t4
    go_wp2
    go_loopw [4] (fun v wr' => ∃ i : Nat, i ≤ n3 ∧ v = .int .i64 i ∧ Hid (S = (bd.drop i).all (inR · 0 1000000)) ∧ Bw wr wr') (fun v _ => n3 - (intOf v).toNat)
    case atStart => exact ⟨0, by omega, rfl, HS, Bw.refl _⟩
    case round =>
     obtain ⟨i, hi, rfl, hE, hB⟩ := hrel
     replace g0 := pw_cell_below hB.out g0
     replace g1 := pw_cell_below hB.out g1
     replace g2 := pw_cell_below hB.out g2
     replace g3 := pw_cell_below hB.out g3
     replace g4 := pw_cell_below hB.out g4
     by_cases hlt : i < n3
     ·have t4 : decide ((i : Int) < (n3 : Int)) = true := decide_eq_true (by omega)
      have hnext := hid (hE.out.trans (bedsOk_step bd n3 i HL3.out hlt))
      obtain ⟨ad, rfl, x0⟩ := ((r3.to b0).to hB).nat i hlt
      clear HS hE
      generalize rd bd (i : Int) = x at *
      cases hx : inR x 0 1000000 with
      | false =>
       have hS : Hid (S = false) := hid (by rw [hnext.out, hx]; rfl)
       have HX := hid hx
       clear hnext hx
       go_wp2_with fail
       refine (toBool (l01In _ _ _ _) HX.out).mono ?_
       rintro e w2 ⟨rfl, rfl⟩
       go_wp2
       go_ret
       exact ⟨ret_bool (by rw [hS.out]; rfl), b0.trans hB⟩
      | true =>
       have hS : Hid (S = (bd.drop (i + 1)).all (inR · 0 1000000)) := hid (by rw [hnext.out, hx]; rfl)
       have HX := hid hx
       clear hnext hx
       go_wp2_with fail
       refine (toBool (l01In _ _ _ _) HX.out).mono ?_
       rintro e w2 ⟨rfl, rfl⟩
       go_wp2
       go_roundw
       case rel => exact ⟨i + 1, by omega, by go_num, hS, hB⟩
       case measure => simp [intOf]; omega
     ·obtain rfl : i = n3 := by omega
      have t4 : decide ((i : Int) < (i : Int)) = false := decide_eq_false (by omega)
      have hS : Hid (S = true) := hid (by rw [hE.out, List.drop_of_length_le (by rw [HL3.out]; exact Nat.le_refl _)]; rfl)
      clear HS hE
      go_wp2_with fail
      refine (l07Sum A1 j c1 ms _ ((r1.to b0).to hB) (HSU.out hR.out)).mono ?_
      rintro e w2 ⟨rfl, rfl⟩
      go_wp2
      go_ret
      exact ⟨ret_bool (by rw [hR.out, hS.out]; rfl), b0.trans hB⟩
end Go.Proofs.Ytenijmalcchciaa.U
