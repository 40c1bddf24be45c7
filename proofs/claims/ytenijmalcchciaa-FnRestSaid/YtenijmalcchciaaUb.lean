
/- The first leaf that is not balanced, by the program and by the reference. -/
import Derived.Test.YtenijmalcchciaaG2
set_option linter.unusedVariables false
set_option linter.unusedSimpArgs false
namespace Go.Proofs.Ytenijmalcchciaa.U
open Go.RowKit Go.Lib Go.Proofs.YtenijmalcchciaaW.PrintWords
attribute [local go_sem] go_max2 go_min2
theorem impl_absolute' (x : Int) (w : World) (h : -100 ≤ x ∧ x ≤ 100) : Calls Try.prog 143 #[.int .i64 x] w fun e w' => e = .returned (.int .i64 (max x (-x))) ∧ w = w' := by
 have e1 : wrap64 (-x) = -x := w64 (by omega) (by omega)
 have e2 : bigMax x (-x) = max x (-x) := bigMax_max _ _
 go_enter Try.func143, Try.ntmps143
 go_wp2
 go_ret
 exact ⟨rfl, rfl⟩
theorem firstUn_stop (l : List Ce) (j : Nat) (h : ¬ j + 1 < l.length) : ∀ d, firstUn l d j = -1
 | 0 => rfl
 | d + 1 => by rw [firstUn, if_neg h]
set_option maxHeartbeats 4000000 in
set_option maxRecDepth 100000 in
theorem impl_unbalanced (ro : Int) (A : Option Addr) (n c : Nat) (l : List Ce) (w : World) (r : IdR w A n l) (hv : Lvs l) : Calls Try.prog 119 #[.agg #[.int .i64 ro, .slice A n c]] w fun e w' => e = .returned (.int .i64 (unbal l)) ∧ Bw w w' := by
 have hmax := r.max
 have HL := hid r.len
 have b0 := Bw.box1 w (.cells #[.int .i64 ro, .slice A n c] 48)
 have c0 := box_cell (Bw.refl (w.alloc (.cells #[.int .i64 ro, .slice A n c] 48))) 0
 have c1 := box_cell (Bw.refl (w.alloc (.cells #[.int .i64 ro, .slice A n c] 48))) 1
 simp only [List.getElem?_toArray, List.getElem?_cons_zero, List.getElem?_cons_succ] at c0 c1
 obtain ⟨R, HR⟩ : ∃ R, Hid (R = firstUn l (n - 0) 0) := ⟨_, hid rfl⟩
 rw [show unbal l = R by rw [unbal, HR.out, HL.out]; rfl]
 have HV := hid hv
 clear hv
 have e0 : wrap64 ((n : Int) - 1) = (n : Int) - 1 := w64 (by omega) (by omega)
 go_enter Try.func119, Try.ntmps119
 go_wp2
 generalize (w.alloc (.cells #[.int .i64 ro, .slice A n c] 48)) = w0 at *
 go_loopw [8] (fun v8 wr => ∃ (j : Nat), (j : Int) ≤ n ∧ v8 = .int .i64 j ∧ Hid (R = firstUn l (n - j) j) ∧ Bw w0 wr) (fun v8 _ => n - (intOf v8).toNat)
 case atStart => exact ⟨0, by omega, rfl, HR, Bw.refl _⟩
 case round =>
  obtain ⟨j, hj, rfl, hE, hB⟩ := hrel
  replace c0 := pw_cell_below hB.out c0
  replace c1 := pw_cell_below hB.out c1
  by_cases hlt : j + 1 < n
  ·have t1 : decide ((j : Int) < (n : Int) - 1) = true := decide_eq_true (by omega)
   have hnext : Hid (R = if (gc l j).l - (gc l (j + 1)).l > 1 ∨ (gc l j).l - (gc l (j + 1)).l < -1 then (j : Int) else firstUn l (n - (j + 1)) (j + 1)) := hid (by rw [hE.out, show n - j = (n - (j + 1)) + 1 by omega, firstUn, if_pos (by rw [HL.out]; exact hlt)])
   obtain ⟨ad, rfl, x0, x1, x2⟩ := ((r.to b0).to hB).at j (by omega)
   obtain ⟨_, ea, y0, y1, y2⟩ := ((r.to b0).to hB).at (j + 1) hlt
   obtain rfl := Option.some.inj ea
   have hvx := HV.out.out j (by rw [HL.out]; omega)
   have hvy := HV.out.out (j + 1) (by rw [HL.out]; omega)
   clear ea hE HR x0 x2 y0 y2
   generalize (gc l j).l = x at *
   generalize (gc l (j + 1)).l = y at *
   have e1 : IntKind.i64.wrap ((j : Int) + 1) = (j : Int) + 1 := i64w (by omega) (by omega)
   have e2 : IntKind.i64.wrap (x - y) = x - y := i64w (by omega) (by omega)
   have i0 : (0 : Int) ≤ (j : Int) + 1 := by omega
   have i1 : (j : Int) + 1 < (n : Int) := by omega
   have i2 : (j : Int) < (n : Int) := by omega
   have i3 : ((j : Int) + 1).toNat = j + 1 := by omega
   have i4 : (0 : Int) ≤ (j : Int) := by omega
   obtain ⟨z, hz⟩ : ∃ z, max (x - y) (-(x - y)) = z := ⟨_, rfl⟩
   by_cases hd : x - y > 1 ∨ x - y < -1
   ·have hR : Hid (R = (j : Int)) := hid (by rw [hnext.out, if_pos hd])
    have t2 : decide (1 < z) = true := decide_eq_true (by omega)
    have HA := hid (show ∀ w : World, Calls Try.prog 143 #[.int .i64 (x - y)] w fun e w' => e = .returned (.int .i64 z) ∧ w = w' from fun w => by rw [← hz]; exact impl_absolute' (x - y) w (by omega))
    clear hd hnext hz hvx hvy
    go_wp2
    go_quiet ((go_at_call 143; exact quietV (HA.out _)))
    go_wp2
    go_ret
    exact ⟨ret_int hR.out.symm, (b0.trans hB).trans (Bw.drawn ⟨⟨_, rfl⟩⟩)⟩
   ·have hR : Hid (R = firstUn l (n - (j + 1)) (j + 1)) := hid (by rw [hnext.out, if_neg hd])
    have t2 : decide (1 < z) = false := decide_eq_false (by omega)
    have HA := hid (show ∀ w : World, Calls Try.prog 143 #[.int .i64 (x - y)] w fun e w' => e = .returned (.int .i64 z) ∧ w = w' from fun w => by rw [← hz]; exact impl_absolute' (x - y) w (by omega))
    clear hd hnext hz hvx hvy
    go_wp2
    go_quiet ((go_at_call 143; exact quietV (HA.out _)))
    go_wp2
    go_roundw
    case rel => exact ⟨j + 1, by omega, by go_num, hR, hB.trans (Bw.drawn ⟨⟨_, rfl⟩⟩)⟩
    case measure => simp [intOf]; omega
  ·have t1 : decide ((j : Int) < (n : Int) - 1) = false := decide_eq_false (by omega)
   have hR : Hid (R = -1) := hid (by rw [hE.out, firstUn_stop l j (by rw [HL.out]; exact hlt)])
   clear hE HR
   go_wp2
   go_ret
   exact ⟨ret_int hR.out.symm, b0.trans hB⟩
set_option maxHeartbeats 4000000 in
set_option maxRecDepth 100000 in
theorem spec_l05First (ro : Int) (A : Option Addr) (n c : Nat) (l : List Ce) (w : World) (r : IdR w A n l) (hv : Lvs l) : Calls Try.prog 134 #[.agg #[.int .i64 ro, .slice A n c]] w fun e w' => e = .returned (.int .i64 (unbal l)) ∧ Bw w w' := by
 have hmax := r.max
 have HL := hid r.len
 have b0 := Bw.box1 w (.cells #[.int .i64 ro, .slice A n c] 48)
 have c0 := box_cell (Bw.refl (w.alloc (.cells #[.int .i64 ro, .slice A n c] 48))) 0
 have c1 := box_cell (Bw.refl (w.alloc (.cells #[.int .i64 ro, .slice A n c] 48))) 1
 simp only [List.getElem?_toArray, List.getElem?_cons_zero, List.getElem?_cons_succ] at c0 c1
 obtain ⟨R, HR⟩ : ∃ R, Hid (R = firstUn l (n - 0) 0) := ⟨_, hid rfl⟩
 rw [show unbal l = R by rw [unbal, HR.out, HL.out]; rfl]
 have HV := hid hv
 clear hv
 go_enter Try.func134, Try.ntmps134
 go_wp2
 generalize (w.alloc (.cells #[.int .i64 ro, .slice A n c] 48)) = w0 at *
 go_loopw [3] (fun v8 wr => ∃ (j : Nat), (j < n ∨ j = 0) ∧ v8 = .int .i64 j ∧ Hid (R = firstUn l (n - j) j) ∧ Bw w0 wr) (fun v8 _ => n - (intOf v8).toNat)
 case atStart => exact ⟨0, by omega, rfl, HR, Bw.refl _⟩
 case round =>
  obtain ⟨j, hj, rfl, hE, hB⟩ := hrel
  have hjm : (j : Int) + 1 ≤ 9223372036854775807 := by omega
  replace c0 := pw_cell_below hB.out c0
  replace c1 := pw_cell_below hB.out c1
  by_cases hlt : j + 1 < n
  ·have t1 : decide ((j : Int) + 1 < (n : Int)) = true := decide_eq_true (by omega)
   have hnext : Hid (R = if (gc l j).l - (gc l (j + 1)).l > 1 ∨ (gc l j).l - (gc l (j + 1)).l < -1 then (j : Int) else firstUn l (n - (j + 1)) (j + 1)) := hid (by rw [hE.out, show n - j = (n - (j + 1)) + 1 by omega, firstUn, if_pos (by rw [HL.out]; exact hlt)])
   obtain ⟨ad, rfl, x0, x1, x2⟩ := ((r.to b0).to hB).at j (by omega)
   obtain ⟨_, ea, y0, y1, y2⟩ := ((r.to b0).to hB).at (j + 1) hlt
   obtain rfl := Option.some.inj ea
   have hvx := HV.out.out j (by rw [HL.out]; omega)
   have hvy := HV.out.out (j + 1) (by rw [HL.out]; omega)
   clear ea hE HR x0 x2 y0 y2
   generalize (gc l j).l = x at *
   generalize (gc l (j + 1)).l = y at *
   have e1 : IntKind.i64.wrap ((j : Int) + 1) = (j : Int) + 1 := i64w (by omega) (by omega)
   have e2 : IntKind.i64.wrap (x - y) = x - y := i64w (by omega) (by omega)
   have i0 : (0 : Int) ≤ (j : Int) + 1 := by omega
   have i1 : (j : Int) + 1 < (n : Int) := by omega
   have i2 : (j : Int) < (n : Int) := by omega
   have i3 : ((j : Int) + 1).toNat = j + 1 := by omega
   have i4 : (0 : Int) ≤ (j : Int) := by omega
   obtain ⟨z, hz⟩ : ∃ z, x - y = z := ⟨_, rfl⟩
   rw [hz] at e2 hnext
   by_cases hd1 : z > 1
   ·have hR : Hid (R = (j : Int)) := hid (by rw [hnext.out, if_pos (.inl hd1)])
    have t2 : decide (1 < z) = true := decide_eq_true (by omega)
    clear hd1 hnext hvx hvy
    go_wp2
    go_quiet (fail)
    go_wp2
    go_ret
    exact ⟨ret_int hR.out.symm, (b0.trans hB).trans (Bw.drawn ⟨⟨_, rfl⟩⟩)⟩
   ·have t2 : decide (1 < z) = false := decide_eq_false (by omega)
    by_cases hd2 : z < -1
    ·have hR : Hid (R = (j : Int)) := hid (by rw [hnext.out, if_pos (.inr hd2)])
     have t3 : decide (z < -1) = true := decide_eq_true (by omega)
     clear hd1 hd2 hnext hvx hvy
     go_wp2
     go_quiet (fail)
     go_wp2
     go_ret
     exact ⟨ret_int hR.out.symm, (b0.trans hB).trans (Bw.drawn ⟨⟨_, rfl⟩⟩)⟩
    ·have hR : Hid (R = firstUn l (n - (j + 1)) (j + 1)) := hid (by rw [hnext.out, if_neg (fun h => h.elim hd1 hd2)])
     have t3 : decide (z < -1) = false := decide_eq_false (by omega)
     clear hd1 hd2 hnext hvx hvy
     go_wp2
     go_quiet (fail)
     go_wp2
     go_roundw
     case rel => exact ⟨j + 1, by omega, by go_num, hR, hB.trans (Bw.drawn ⟨⟨_, rfl⟩⟩)⟩
     case measure => simp [intOf]; omega
  ·have t1 : decide ((j : Int) + 1 < (n : Int)) = false := decide_eq_false (by omega)
   have hR : Hid (R = -1) := hid (by rw [hE.out, firstUn_stop l j (by rw [HL.out]; exact hlt)])
   clear hE HR
   go_wp2
   go_ret
   exact ⟨ret_int hR.out.symm, b0.trans hB⟩
set_option maxHeartbeats 2000000 in
theorem impl_IsBalanced (ro : Int) (A : Option Addr) (n c : Nat) (l : List Ce) (w : World) (r : IdR w A n l) : Calls Try.prog 77 #[.agg #[.int .i64 ro, .slice A n c]] w fun e w' => e = .returned (.bool (isBal ro l)) ∧ Bw w w' := by
 have hmax := r.max
 have HL := hid r.len
 have b0 := Bw.box1 w (.cells #[.int .i64 ro, .slice A n c] 48)
 have c0 := box_cell (Bw.refl (w.alloc (.cells #[.int .i64 ro, .slice A n c] 48))) 0
 have c1 := box_cell (Bw.refl (w.alloc (.cells #[.int .i64 ro, .slice A n c] 48))) 1
 simp only [List.getElem?_toArray, List.getElem?_cons_zero, List.getElem?_cons_succ] at c0 c1
 cases hm : meshOk ro l with
 | false =>
  rw [show isBal ro l = false by simp [isBal, hm]]
  have H := hid hm; clear hm
  go_enter Try.func77, Try.ntmps77
  go_wp2_with fail
  refine (impl_MeshOk ro A n c l _ (r.to b0)).mono ?_
  rintro e w1 ⟨rfl, b1⟩
  rw [H.out]
  go_wp2
  go_ret
  exact ⟨rfl, b0.trans b1⟩
 | true =>
  rw [show isBal ro l = decide (unbal l < 0) by simp [isBal, hm]]
  have hv := meshOk_lvs hm
  have H := hid hm; clear hm
  go_enter Try.func77, Try.ntmps77
  go_wp2_with fail
  refine (impl_MeshOk ro A n c l _ (r.to b0)).mono ?_
  rintro e w1 ⟨rfl, b1⟩
  rw [H.out]
  replace c0 := pw_cell_below b1.out c0
  replace c1 := pw_cell_below b1.out c1
  go_wp2_with fail
  refine (impl_unbalanced ro A n c l _ ((r.to b0).to b1) hv).mono ?_
  rintro e w2 ⟨rfl, b2⟩
  go_wp2
  go_ret
  exact ⟨rfl, (b0.trans b1).trans b2⟩
set_option maxHeartbeats 2000000 in
theorem spec_IsBalanced (ro : Int) (A : Option Addr) (n c : Nat) (l : List Ce) (w : World) (r : IdR w A n l) : Calls Try.prog 106 #[.agg #[.int .i64 ro, .slice A n c]] w fun e w' => e = .returned (.bool (isBal ro l)) ∧ Bw w w' := by
 have hmax := r.max
 have HL := hid r.len
 have b0 := Bw.box1 w (.cells #[.int .i64 ro, .slice A n c] 48)
 have c0 := box_cell (Bw.refl (w.alloc (.cells #[.int .i64 ro, .slice A n c] 48))) 0
 have c1 := box_cell (Bw.refl (w.alloc (.cells #[.int .i64 ro, .slice A n c] 48))) 1
 simp only [List.getElem?_toArray, List.getElem?_cons_zero, List.getElem?_cons_succ] at c0 c1
 cases hm : meshOk ro l with
 | false =>
  rw [show isBal ro l = false by simp [isBal, hm]]
  have H := hid hm; clear hm
  go_enter Try.func106, Try.ntmps106
  go_wp2_with fail
  refine (spec_MeshOk ro A n c l _ (r.to b0)).mono ?_
  rintro e w1 ⟨rfl, b1⟩
  rw [H.out]
  go_wp2
  go_ret
  exact ⟨rfl, b0.trans b1⟩
 | true =>
  rw [show isBal ro l = decide (unbal l < 0) by simp [isBal, hm]]
  have hv := meshOk_lvs hm
  have H := hid hm; clear hm
  go_enter Try.func106, Try.ntmps106
  go_wp2_with fail
  refine (spec_MeshOk ro A n c l _ (r.to b0)).mono ?_
  rintro e w1 ⟨rfl, b1⟩
  rw [H.out]
  replace c0 := pw_cell_below b1.out c0
  replace c1 := pw_cell_below b1.out c1
  go_wp2_with fail
  refine (spec_l05First ro A n c l _ ((r.to b0).to b1) hv).mono ?_
  rintro e w2 ⟨rfl, b2⟩
  go_wp2
  go_ret
  exact ⟨rfl, (b0.trans b1).trans b2⟩
end Go.Proofs.Ytenijmalcchciaa.U
