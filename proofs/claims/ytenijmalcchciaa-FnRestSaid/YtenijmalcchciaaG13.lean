
/- The reference's comparison of equal states. -/
import Derived.Test.YtenijmalcchciaaSe
import Derived.Test.YtenijmalcchciaaEq
import Derived.Test.YtenijmalcchciaaWEqStruct
import Derived.Test.YtenijmalcchciaaG12
import Derived.Test.YtenijmalcchciaaG5
import Derived.Test.YtenijmalcchciaaG11
import Derived.Test.YtenijmalcchciaaG7
set_option linter.unusedVariables false
set_option linter.unusedSimpArgs false
namespace Go.Proofs.Ytenijmalcchciaa.U
open Go.RowKit Go.Lib Go.Proofs.YtenijmalcchciaaW.PrintWords
open Go.Proofs.YtenijmalcchciaaW.PrintLast Go.Proofs.YtenijmalcchciaaW.PrintMore
theorem eqA_id (d : Nat) (w : World) (x0 y0 x1 y1 x2 y2 : Int) :
  (Op.equalIn (d + 2) 70 (.agg #[.int .i64 x0, .int .i64 x1, .int .i64 x2]) (.agg #[.int .i64 y0, .int .i64 y1, .int .i64 y2])).run Try.prog w = .ok (x0 == y0 && (x1 == y1 && (x2 == y2))) w := by
 refine eqA_of Try.underlying70 (by kernel_rfl) ?_
 refine eqf_cons (by rfl) (by go_simp; rfl) (by go_simp; rfl) (by go_simp) ?_
 refine eqf_cons (by rfl) (by go_simp; rfl) (by go_simp; rfl) (by go_simp) ?_
 exact eqf_last (by rfl) (by go_simp; rfl) (by go_simp; rfl) (by go_simp)
attribute [local go_sem] eqA_id
set_option maxHeartbeats 4000000 in
set_option maxRecDepth 100000 in
theorem spec_SameMesh_yes (ro : Int) (A : Option Addr) (n c : Nat) (B : Option Addr) (d : Nat) (l : List Ce) (w : World) (r : IdR w A n l) (q : IdR w B n l) :
  Calls Try.prog 66 #[.agg #[.int .i64 ro, .slice A n c], .agg #[.int .i64 ro, .slice B n d]] w fun e w' => e = .returned (.bool true) ∧ Bw w w' := by
 have hmx := r.max
 have b0 := (Bw.box1 w (.cells #[.int .i64 ro, .slice A n c] 48)).alloc (.cells #[.int .i64 ro, .slice B n d] 48)
 have g0 := box_cell ((Bw.refl (w.alloc (.cells #[.int .i64 ro, .slice A n c] 48))).alloc (.cells #[.int .i64 ro, .slice B n d] 48)) 0
 have g1 := box_cell ((Bw.refl (w.alloc (.cells #[.int .i64 ro, .slice A n c] 48))).alloc (.cells #[.int .i64 ro, .slice B n d] 48)) 1
 have k0 := box_cell (Bw.refl ((w.alloc (.cells #[.int .i64 ro, .slice A n c] 48)).alloc (.cells #[.int .i64 ro, .slice B n d] 48))) 0
 have k1 := box_cell (Bw.refl ((w.alloc (.cells #[.int .i64 ro, .slice A n c] 48)).alloc (.cells #[.int .i64 ro, .slice B n d] 48))) 1
 simp only [List.getElem?_toArray, List.getElem?_cons_zero, List.getElem?_cons_succ] at g0 g1 k0 k1
 rw [show (w.alloc (.cells #[.int .i64 ro, .slice A n c] 48)).heap.size = w.heap.size + 1 by simp] at k0 k1
 have t0 : (ro != ro) = false := by simp
 have t1 : ((n : Int) != (n : Int)) = false := by simp
 go_enter Try.func66, Try.ntmps66
 go_wp2
 generalize ((w.alloc (.cells #[.int .i64 ro, .slice A n c] 48)).alloc (.cells #[.int .i64 ro, .slice B n d] 48)) = W1 at *
 go_loopw [5] (fun v5 wr => ∃ j : Nat, j ≤ n ∧ v5 = .int .i64 j ∧ Hid (Bw W1 wr)) (fun v5 _ => n - (intOf v5).toNat)
 case atStart => exact ⟨0, by omega, rfl, hid (Bw.refl _)⟩
 case round =>
  obtain ⟨j, hj, rfl, hB⟩ := hrel
  replace g0 := pw_cell_below hB.out.out g0
  replace g1 := pw_cell_below hB.out.out g1
  replace k0 := pw_cell_below hB.out.out k0
  replace k1 := pw_cell_below hB.out.out k1
  by_cases hlt : j < n
  ·have u1 : decide ((j : Int) < (n : Int)) = true := decide_eq_true (by omega)
   obtain ⟨ad, rfl, x0, x1, x2⟩ := ((r.to b0).to hB.out).at j hlt
   obtain ⟨ae, rfl, y0, y1, y2⟩ := ((q.to b0).to hB.out).at j hlt
   generalize gc l j = z at *
   have i4 : (0 : Int) ≤ (j : Int) := by omega
   have i5 : (j : Int) < (n : Int) := by omega
   go_wp2
   go_quiet (fail)
   go_wp2
   go_roundw
   case rel => exact ⟨j + 1, by omega, by go_num, hid (hB.out.trans (Bw.drawn ⟨⟨_, rfl⟩⟩))⟩
   case measure => simp [intOf]; omega
  ·obtain rfl : j = n := by omega
   have u1 : decide ((j : Int) < (j : Int)) = false := decide_eq_false (by omega)
   go_wp2
   go_ret
   exact ⟨rfl, b0.trans hB.out⟩
set_option maxHeartbeats 4000000 in
theorem spec_SameState_yes (x y : Value) (s : Sta) (w : World) (hx : StR w x s) (hy : StR w y s) :
  Calls Try.prog 29 #[x, y] w fun e w' => e = .returned (.bool true) ∧ Bw w w' := by
 obtain ⟨A0, c0, A1, c1, A2, c2, A3, c3, rfl, r0, r1, r2, r3⟩ := hx
 obtain ⟨B0, d0, B1, d1, B2, d2, B3, d3, rfl, q0, q1, q2, q3⟩ := hy
 have g0 := box_cell ((Bw.refl (w.alloc (.cells #[.int .i64 s.ro, .slice A0 s.lv.length c0, .slice A1 s.ms.length c1, .slice A2 s.ts.length c2, .slice A3 s.bd.length c3] 50))).alloc (.cells #[.int .i64 s.ro, .slice B0 s.lv.length d0, .slice B1 s.ms.length d1, .slice B2 s.ts.length d2, .slice B3 s.bd.length d3] 50)) 0
 have g1 := box_cell ((Bw.refl (w.alloc (.cells #[.int .i64 s.ro, .slice A0 s.lv.length c0, .slice A1 s.ms.length c1, .slice A2 s.ts.length c2, .slice A3 s.bd.length c3] 50))).alloc (.cells #[.int .i64 s.ro, .slice B0 s.lv.length d0, .slice B1 s.ms.length d1, .slice B2 s.ts.length d2, .slice B3 s.bd.length d3] 50)) 1
 have g2 := box_cell ((Bw.refl (w.alloc (.cells #[.int .i64 s.ro, .slice A0 s.lv.length c0, .slice A1 s.ms.length c1, .slice A2 s.ts.length c2, .slice A3 s.bd.length c3] 50))).alloc (.cells #[.int .i64 s.ro, .slice B0 s.lv.length d0, .slice B1 s.ms.length d1, .slice B2 s.ts.length d2, .slice B3 s.bd.length d3] 50)) 2
 have g3 := box_cell ((Bw.refl (w.alloc (.cells #[.int .i64 s.ro, .slice A0 s.lv.length c0, .slice A1 s.ms.length c1, .slice A2 s.ts.length c2, .slice A3 s.bd.length c3] 50))).alloc (.cells #[.int .i64 s.ro, .slice B0 s.lv.length d0, .slice B1 s.ms.length d1, .slice B2 s.ts.length d2, .slice B3 s.bd.length d3] 50)) 3
 have g4 := box_cell ((Bw.refl (w.alloc (.cells #[.int .i64 s.ro, .slice A0 s.lv.length c0, .slice A1 s.ms.length c1, .slice A2 s.ts.length c2, .slice A3 s.bd.length c3] 50))).alloc (.cells #[.int .i64 s.ro, .slice B0 s.lv.length d0, .slice B1 s.ms.length d1, .slice B2 s.ts.length d2, .slice B3 s.bd.length d3] 50)) 4
 have k0 := box_cell (Bw.refl ((w.alloc (.cells #[.int .i64 s.ro, .slice A0 s.lv.length c0, .slice A1 s.ms.length c1, .slice A2 s.ts.length c2, .slice A3 s.bd.length c3] 50)).alloc (.cells #[.int .i64 s.ro, .slice B0 s.lv.length d0, .slice B1 s.ms.length d1, .slice B2 s.ts.length d2, .slice B3 s.bd.length d3] 50))) 0
 have k1 := box_cell (Bw.refl ((w.alloc (.cells #[.int .i64 s.ro, .slice A0 s.lv.length c0, .slice A1 s.ms.length c1, .slice A2 s.ts.length c2, .slice A3 s.bd.length c3] 50)).alloc (.cells #[.int .i64 s.ro, .slice B0 s.lv.length d0, .slice B1 s.ms.length d1, .slice B2 s.ts.length d2, .slice B3 s.bd.length d3] 50))) 1
 have k2 := box_cell (Bw.refl ((w.alloc (.cells #[.int .i64 s.ro, .slice A0 s.lv.length c0, .slice A1 s.ms.length c1, .slice A2 s.ts.length c2, .slice A3 s.bd.length c3] 50)).alloc (.cells #[.int .i64 s.ro, .slice B0 s.lv.length d0, .slice B1 s.ms.length d1, .slice B2 s.ts.length d2, .slice B3 s.bd.length d3] 50))) 2
 have k3 := box_cell (Bw.refl ((w.alloc (.cells #[.int .i64 s.ro, .slice A0 s.lv.length c0, .slice A1 s.ms.length c1, .slice A2 s.ts.length c2, .slice A3 s.bd.length c3] 50)).alloc (.cells #[.int .i64 s.ro, .slice B0 s.lv.length d0, .slice B1 s.ms.length d1, .slice B2 s.ts.length d2, .slice B3 s.bd.length d3] 50))) 3
 have k4 := box_cell (Bw.refl ((w.alloc (.cells #[.int .i64 s.ro, .slice A0 s.lv.length c0, .slice A1 s.ms.length c1, .slice A2 s.ts.length c2, .slice A3 s.bd.length c3] 50)).alloc (.cells #[.int .i64 s.ro, .slice B0 s.lv.length d0, .slice B1 s.ms.length d1, .slice B2 s.ts.length d2, .slice B3 s.bd.length d3] 50))) 4
 simp only [List.getElem?_toArray, List.getElem?_cons_zero, List.getElem?_cons_succ] at g0 g1 g2 g3 g4 k0 k1 k2 k3 k4
 rw [show (w.alloc (.cells #[.int .i64 s.ro, .slice A0 s.lv.length c0, .slice A1 s.ms.length c1, .slice A2 s.ts.length c2, .slice A3 s.bd.length c3] 50)).heap.size = w.heap.size + 1 by simp] at k0 k1 k2 k3 k4
 have b0 := (Bw.box1 w (.cells #[.int .i64 s.ro, .slice A0 s.lv.length c0, .slice A1 s.ms.length c1, .slice A2 s.ts.length c2, .slice A3 s.bd.length c3] 50)).alloc (.cells #[.int .i64 s.ro, .slice B0 s.lv.length d0, .slice B1 s.ms.length d1, .slice B2 s.ts.length d2, .slice B3 s.bd.length d3] 50)
 go_enter Try.func29, Try.ntmps29
 go_wp2_with fail
 refine (spec_SameMesh_yes s.ro A0 s.lv.length c0 B0 d0 s.lv _ (r0.to b0) (q0.to b0)).mono ?_
 rintro e w1 ⟨rfl, b1⟩
 replace g0 := pw_cell_below b1.out g0
 replace g1 := pw_cell_below b1.out g1
 replace g2 := pw_cell_below b1.out g2
 replace g3 := pw_cell_below b1.out g3
 replace g4 := pw_cell_below b1.out g4
 replace k0 := pw_cell_below b1.out k0
 replace k1 := pw_cell_below b1.out k1
 replace k2 := pw_cell_below b1.out k2
 replace k3 := pw_cell_below b1.out k3
 replace k4 := pw_cell_below b1.out k4
 replace b0 := b0.trans b1
 clear b1
 go_wp2_with fail
 refine (spec_l24Same A1 s.ms.length c1 s.ms B1 s.ms.length d1 s.ms _ (r1.to b0) (q1.to b0)).mono ?_
 rintro e w1 ⟨rfl, dd1⟩
 have b1 := Bw.drawn dd1
 rw [decide_eq_true (rfl : s.ms = s.ms)]
 replace g0 := pw_cell_below b1.out g0
 replace g1 := pw_cell_below b1.out g1
 replace g2 := pw_cell_below b1.out g2
 replace g3 := pw_cell_below b1.out g3
 replace g4 := pw_cell_below b1.out g4
 replace k0 := pw_cell_below b1.out k0
 replace k1 := pw_cell_below b1.out k1
 replace k2 := pw_cell_below b1.out k2
 replace k3 := pw_cell_below b1.out k3
 replace k4 := pw_cell_below b1.out k4
 replace b0 := b0.trans b1
 clear b1 dd1
 go_wp2_with fail
 refine (spec_l24Same A2 s.ts.length c2 s.ts B2 s.ts.length d2 s.ts _ (r2.to b0) (q2.to b0)).mono ?_
 rintro e w1 ⟨rfl, dd1⟩
 have b1 := Bw.drawn dd1
 rw [decide_eq_true (rfl : s.ts = s.ts)]
 replace g0 := pw_cell_below b1.out g0
 replace g1 := pw_cell_below b1.out g1
 replace g2 := pw_cell_below b1.out g2
 replace g3 := pw_cell_below b1.out g3
 replace g4 := pw_cell_below b1.out g4
 replace k0 := pw_cell_below b1.out k0
 replace k1 := pw_cell_below b1.out k1
 replace k2 := pw_cell_below b1.out k2
 replace k3 := pw_cell_below b1.out k3
 replace k4 := pw_cell_below b1.out k4
 replace b0 := b0.trans b1
 clear b1 dd1
 go_wp2_with fail
 refine (spec_l24Same A3 s.bd.length c3 s.bd B3 s.bd.length d3 s.bd _ (r3.to b0) (q3.to b0)).mono ?_
 rintro e w1 ⟨rfl, dd1⟩
 have b1 := Bw.drawn dd1
 rw [decide_eq_true (rfl : s.bd = s.bd)]
 replace g0 := pw_cell_below b1.out g0
 replace g1 := pw_cell_below b1.out g1
 replace g2 := pw_cell_below b1.out g2
 replace g3 := pw_cell_below b1.out g3
 replace g4 := pw_cell_below b1.out g4
 replace k0 := pw_cell_below b1.out k0
 replace k1 := pw_cell_below b1.out k1
 replace k2 := pw_cell_below b1.out k2
 replace k3 := pw_cell_below b1.out k3
 replace k4 := pw_cell_below b1.out k4
 replace b0 := b0.trans b1
 clear b1 dd1
 go_wp2
 go_ret
 exact ⟨rfl, b0⟩
end Go.Proofs.Ytenijmalcchciaa.U
set_option linter.unusedVariables false
set_option linter.unusedSimpArgs false
namespace Go.Proofs.Ytenijmalcchciaa.U
open Go.RowKit Go.Lib Go.Proofs.YtenijmalcchciaaW.PrintWords
section
variable {s : Sta} {cuts : List Int}
end
end Go.Proofs.Ytenijmalcchciaa.U
set_option linter.unusedVariables false
set_option linter.unusedSimpArgs false
namespace Go.Proofs.Ytenijmalcchciaa.U
open Go.RowKit Go.Lib Go.Proofs.YtenijmalcchciaaW.PrintWords
end Go.Proofs.Ytenijmalcchciaa.U
